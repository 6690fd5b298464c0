/- A part of the proof: general laws of a reading of the model by abstract data, or contracts of the functions that the law calls. -/
import Derived.Test.YtonajancjagefaaGreatVc3
set_option maxRecDepth 100000
namespace Go.Vc
open Go Go.RowKit
section
variable {C : Ctx} {ro : Option Nat} {n : Nat} {D0 : List Deferred} {E0 : Env} {U : Nat → Prop} {F : Nat → AV} {E : Env} {a : Act} {o : Oper} {new : Nat} {v : AV}
theorem one_cells {u : Value} (h : u.oneCell' = true) : u.cells = #[u] := by
  cases u <;> first | rfl | (simp [Value.oneCell'] at h)
theorem own_one {id ver : Nat} {u : Value} (h : VRel E (.own id ver) u) : u.oneCell' = true := by
  cases h with
  | own _ _ _ _ _ _ h1 _ _ => exact h1
theorem buildSlice_box (hR : Rel C n D0 E0 U F E a) (hd : ∀ t, o.dst = some t → t < n) (hnew : ¬ U new) {t : TypeId} {len : Nat} {parts : Array (Nat × Operand)} (ho : o.op = .buildSlice t len parts) (hty : sliceElemOK C.prog t = true) (hpo : partsOK parts len = true)
    {ρ : Operand → AV} (hρ : ∀ x, VRel E (ρ x) (a.eval x)) {id ver : Nat} (hE : (parts.toList.map fun p => ρ p.2) = [.own id ver]) (h1 : tSize C.prog (tElem C.prog t) = 1) :
    Sound C ro n D0 E0 U F E a o new (.own new 0) [(new, some ⟨0, tElem C.prog t, .box [.own id ver]⟩)] := by
  have hse := sliceElem hty
  obtain ⟨i0, z, hi0, hz, hzs, his, hby, hsm⟩ := hse.zero
  simp only [partsOK, Bool.and_eq_true, beq_iff_eq, decide_eq_true_eq] at hpo
  obtain ⟨⟨hp1, hp2⟩, hp3⟩ := hpo
  obtain ⟨p, hp, hpx⟩ : ∃ p, parts.toList = [p] ∧ ρ p.2 = .own id ver := by
    cases hl : parts.toList with
    | nil => rw [hl] at hE; cases hE
    | cons p r =>
      rw [hl] at hE
      cases r with
      | nil => exact ⟨p, rfl, by simpa using hE⟩
      | cons q r => simp at hE
  have hu := hρ p.2
  rw [hpx] at hu
  have hu1 := own_one hu
  have huc := one_cells hu1
  have hlen : len = 1 := by
    have : parts.toList.length = parts.size := by simp
    rw [hp] at this
    simp at this
    omega
  subst hlen
  have hp0 : p.1 = 0 := by
    rw [hp] at hp1
    simpa using hp1
  have hcellsz : ∀ (j : Nat) (q : Nat × Value), (parts.toList.map fun p => (p.1, a.eval p.2))[j]? = some q → q.1 = 0 + j ∧ q.2.cells.size = tSize C.prog (tElem C.prog t) := fun j q hj => by
    rw [hp] at hj
    cases j with
    | zero =>
      simp at hj
      subst hj
      exact ⟨by simpa using hp0, by rw [huc, h1]; rfl⟩
    | succ j => simp at hj
  have htop : E.top new = none := by
    cases h : E.top new with
    | none => rfl
    | some t => exact absurd (hR.used new t h) hnew
  have hlen24 : ¬ 1 * tSize C.prog (tElem C.prog t) > 2 ^ 24 := by rw [h1]; omega
  obtain ⟨r, hr1, hr2⟩ := fill_seq (tSize C.prog (tElem C.prog t)) (parts.toList.map fun p => (p.1, a.eval p.2)) 0 ((Array.range (1 * tSize C.prog (tElem C.prog t))).map fun i => (if 1 * tSize C.prog (tElem C.prog t) = 0 then #[] else z.cells)[i % (if 1 * tSize C.prog (tElem C.prog t) = 0 then #[] else z.cells).size]!) (by rw [hp]; simp) hcellsz
  have hrs : r = #[a.eval p.2] := by
    rw [hp] at hr2
    simp [huc] at hr2
    rw [← hr2]
  have hst := news_step (new := new) (mb := some E.w.heap.size) (blk := ⟨0, tElem C.prog t, .box [.own id ver]⟩) (ks := []) (w' := { E.w with heap := E.w.heap.push (.cells r (tElem C.prog t)) }) hR.hr htop (push_lt E.w _)
  refine sound_new hR hd hnew ⟨0, tElem C.prog t, .box [.own id ver]⟩ [] (some E.w.heap.size) { E.w with heap := E.w.heap.push (.cells r (tElem C.prog t)) } (.slice (some ⟨E.w.heap.size, 0, none⟩) 1 1) _ ?_ (below_alloc _ _ _ hR.hN) (push_lt E.w _) (by simp) (fun h => by cases h) (fun g hg => ?_) ?_ ?_
  · have hz1 : (zeroValue (tElem C.prog t)).run C.prog E.w = .ok z E.w := by simp [zeroValue, typeInfo, hi0, hz]
    have e1 : (parts.map fun x : Nat × Operand => (x.1, a.eval x.2)).toList = parts.toList.map fun p => (p.1, a.eval p.2) := by simp
    simp only [execOp, ho, Instr.buildSlice, Sem.run_bind, run_underlying hse.und, Result.andThen_ok, run_sizeOf' hse.eund, if_neg hlen24, Sem.run_pure]
    have h0 : ¬ 1 * tSize C.prog (tElem C.prog t) = 0 := by rw [h1]; omega
    simp only [if_neg h0] at hr1
    rw [if_neg h0]
    simp only [Sem.run_bind, Sem.run_pure, Result.andThen_ok, hz1, e1, hr1, newRow, run_newObj]
  · injection hg with hg
    subst hg
    refine ⟨Nat.le_refl _, .cells r (tElem C.prog t), by simp, r, rfl, fun i v hi => ?_⟩
    cases i with
    | zero =>
      simp at hi
      subst hi
      exact ⟨_, by rw [hrs]; rfl, hu.step hst, hu1⟩
    | succ i => simp at hi
  · rw [upH_one]; rfl
  · refine .own new 0 0 _ (by simp [Env.news]) (Nat.le_refl _) rfl (fun e' xs' h => by simp [Env.news] at h) (fun e' cs' h => ?_)
    simp only [Env.news, if_true, Option.some.injEq, ABlk.mk.injEq, Body.box.injEq, true_and] at h
    obtain ⟨rfl, rfl⟩ := h
    refine ⟨E.w.heap.size, 1, r, tElem C.prog t, (0, 0), by simp [Env.news], rfl, Nat.le_refl _, by simp [maxLen], ?_, ?_⟩
    · show (E.w.heap.push _)[E.w.heap.size]? = _
      simp
    rw [hrs]
    show 1 = 1 * tSize E.P _
    rw [hR.prog, h1]
theorem box_src {id ver : Nat} {e : TypeId} {cs : List AV} {u : Value} (hr : HR C.N E) (hX : VRel E (.own id ver) u) (hB : BE E id ver = some (e, .box cs)) {size : Nat} (h1 : size = 1) :
    ∃ g cap Cc, E.m id = some g ∧ C.N ≤ g ∧ u = .slice (some ⟨g, 0, none⟩) cs.length cap ∧ cs.length ≤ cap ∧ cap ≤ maxLen ∧ E.w.heap[g]? = some (.cells Cc e (0, 0)) ∧ Cc.size = cap * tSize E.P e ∧ BRb E Cc cs ∧ ∃ us : List Value, us.length = cs.length ∧
      (∀ w', w'.heap = E.w.heap → (Builtin.firstCells size cs.length u).run E.P w' = .ok us.toArray w') ∧ (∀ (i : Nat) (x : Value), us[i]? = some x → Cc[i]? = some x) ∧ (∀ (i : Nat) (v : AV), cs[i]? = some v → ∃ x, us[i]? = some x ∧ VRel E v x ∧ x.oneCell' = true) := by
  subst h1
  have hH := BE_some hB
  obtain ⟨_, _, k2⟩ := hr.blk id _ hH
  cases hX with
  | own _ _ tt _ htop hle ho h hb =>
  obtain ⟨g, cap, Cc, el, fr, hm, rfl, hlc, hcm, hCc, hCs⟩ := hb _ _ hH
  obtain ⟨hge, o, k3, C', rfl, k5⟩ := k2 g hm
  rw [hCc] at k3
  injection k3 with k3
  injection k3 with k3 k6 k7
  subst k3; subst k6; subst k7
  have hcsz : cs.length ≤ Cc.size := by
    by_cases h0 : cs.length = 0
    · omega
    · obtain ⟨x, hx, _⟩ := k5 (cs.length - 1) _ (List.getElem?_eq_getElem (by omega))
      have := (Array.getElem?_eq_some_iff.1 hx).1
      omega
  have hul : (Cc.toList.take cs.length).length = cs.length := by
    rw [List.length_take]
    simp
    omega
  have hui : ∀ (i : Nat) (x : Value), (Cc.toList.take cs.length)[i]? = some x → Cc[i]? = some x := fun i x hx => by
    rw [List.getElem?_take] at hx
    split at hx
    · simpa using hx
    · cases hx
  refine ⟨g, cap, Cc, hm, hge, rfl, hlc, hcm, hCc, hCs, k5, Cc.toList.take cs.length, hul, fun w' hw' => run_firstCells E.P w' g 0 _ _ 1 _ _ (by omega) (fun i x hx => ?_), hui, fun i v hv => ?_⟩
  · have hx' := hui i x hx
    simp only [World.cell?, hw', hCc, Nat.zero_add]
    exact hx'
  · obtain ⟨x, hx, h2, h3⟩ := k5 i v hv
    have hlt := (List.getElem?_eq_some_iff.1 hv).1
    refine ⟨x, ?_, h2, h3⟩
    rw [List.getElem?_take, if_pos hlt]
    simpa using hx
theorem app_box (hR : Rel C n D0 E0 U F E a) (hd : ∀ t, o.dst = some t → t < n) {c : Call} (ho : o.op = .call c) (hc : c.callee = .builtin .append) (hty : appTyOK C.prog c.argTypes = true) {x y : Operand} (ha : c.args = #[x, y])
    {id ver b vb : Nat} {e e' : TypeId} {cs zs : List AV} (hX : VRel E (.own id ver) (a.eval x)) (hY : VRel E (.own b vb) (a.eval y)) (hBx : BE E id ver = some (e, .box cs)) (hBy : BE E b vb = some (e', .box zs))
    (he : e = tElem C.prog (c.argTypes.getD 0 0)) (h1 : tSize C.prog (tElem C.prog (c.argTypes.getD 0 0)) = 1) (hsm : cs.length + zs.length ≤ 1000000) :
    Sound C ro n D0 E0 U F E a o new (.own id (ver + 1)) [(id, some ⟨ver + 1, e, .box (cs ++ zs)⟩)] := by
  obtain ⟨t, ht, hse⟩ := appTy hty
  have h0 : c.argTypes.getD 0 0 = t := by rw [ht]; rfl
  rw [h0] at he h1
  subst he
  obtain ⟨g, cap, Cc, hm, hge, hux, hlc, hcm, hCc, hCs, hbr, us, hul, hfu, husC, husV⟩ := box_src (C := C) hR.hr hX hBx h1
  obtain ⟨gy, capy, Cy, _, _, huy, _, _, _, _, _, ns, hnl, hfn, _, hnsV⟩ := box_src (C := C) hR.hr hY hBy h1
  have hH := BE_some hBx
  have hP := hR.prog
  have hN := hR.hN
  rw [hP] at hfu hfn hCs
  rw [h1, Nat.mul_one] at hCs
  have hn1 : ∀ u, u ∈ ns → u.oneCell' = true := fun u hu => by
    obtain ⟨i, hi, rfl⟩ := List.getElem_of_mem hu
    obtain ⟨w, hw⟩ : ∃ w, zs[i]? = some w := ⟨_, List.getElem?_eq_getElem (by omega)⟩
    obtain ⟨u', h2, _, h3⟩ := hnsV i w hw
    rw [List.getElem?_eq_getElem hi] at h2
    injection h2 with h2
    rw [h2]; exact h3
  have hokk : ∀ (mb : Option Nat) (w' : World), chgOK E id mb ⟨ver, tElem C.prog t, .box cs⟩ ⟨ver + 1, tElem C.prog t, .box (cs ++ zs)⟩ w' := fun mb w' => .inl (Nat.lt_succ_self _)
  have fin : ∀ (g' cap' : Nat) (w' : World) (Cn : Array Value), (execOp a.eval o).run C.prog E.w = .ok (.value (.slice (some ⟨g', 0, none⟩) (cs.length + zs.length) cap')) w' → C.N ≤ g' → (E.w.heap.size ≤ g' ∨ E.m id = some g') → w'.heap[g']? = some (.cells Cn (tElem C.prog t) (0, 0)) → onlyAt E id w' → Below C.N E.w w' →
      cs.length + zs.length ≤ cap' → cap' ≤ maxLen → Cn.size = cap' → (∀ (i : Nat) (u : Value), (us ++ ns)[i]? = some u → Cn[i]? = some u) → Sound C ro n D0 E0 U F E a o new (.own id (ver + 1)) [(id, some ⟨ver + 1, tElem C.prog t, .box (cs ++ zs)⟩)] := by
    intro g' cap' w' Cn hrun q1 q2 q3 honly hbel q4 q5 q6 q7
    have hst := chg_step (mb := some g') (blk := ⟨ver + 1, tElem C.prog t, .box (cs ++ zs)⟩) hR.hr hH (hokk _ _) honly
    refine sound_chg hR hd hH (hokk (some g') w') honly _ _ (.inl rfl) hrun hbel (fun h => by cases h) (fun g'' hg'' => ?_) ?_
    · injection hg'' with hg''
      subst hg''
      refine ⟨q1, q2, _, q3, Cn, rfl, fun i v hi => ?_⟩
      by_cases hlt : i < cs.length
      · rw [List.getElem?_append_left hlt] at hi
        obtain ⟨u, h2, h3, h4⟩ := husV i v hi
        exact ⟨u, q7 i u (by rw [List.getElem?_append_left (by omega)]; exact h2), h3.step hst, h4⟩
      · rw [List.getElem?_append_right (by omega)] at hi
        obtain ⟨u, h2, h3, h4⟩ := hnsV _ v hi
        exact ⟨u, q7 i u (by rw [List.getElem?_append_right (by omega), hul]; exact h2), h3.step hst, h4⟩
    · refine .own id _ (ver + 1) _ (by simp [Env.chg]) (Nat.le_refl _) rfl (fun e'' xs' h => by simp [Env.chg] at h) (fun e'' cs' h => ?_)
      simp only [Env.chg, if_true, Option.some.injEq, ABlk.mk.injEq, Body.box.injEq, true_and] at h
      obtain ⟨rfl, rfl⟩ := h
      refine ⟨g', cap', Cn, _, (0, 0), by simp [Env.chg], by rw [List.length_append], by rw [List.length_append]; exact q4, q5, q3, ?_⟩
      show Cn.size = cap' * tSize E.P _
      rw [hP, h1, q6, Nat.mul_one]
  by_cases hroom : cs.length + zs.length ≤ cap
  · have hfit : cs.length * tSize C.prog (tElem C.prog t) + ns.length ≤ Cc.size := by rw [h1, hnl, hCs]; omega
    have hrun := execOp_app ho hc ht x y ha (P := C.prog) (w := E.w) (by rw [hux, huy]; exact run_app_room hse g (some ⟨gy, 0, none⟩) cs.length cap capy zs.length Cc ns (0, 0) hCc (.inl rfl) (by rw [h1, hnl, Nat.mul_one]) (by rw [← huy]; exact hfn _ rfl) hn1 hroom hfit)
    rw [h1, Nat.mul_one] at hrun hfit
    have hsl : (splice Cc.toList cs.length ns).length = Cc.size := by rw [length_splice _ _ _ (by simpa using hfit)]; simp
    refine fin g cap _ _ hrun hge (.inr hm) (setRow_heap _ g Cc _ _ _ hCc) ⟨by simp, fun b _ hne => setRow_only _ g _ b (fun e => hne (by rw [hm, e]))⟩ (below_setRow' hge _) hroom hcm (by simp [hsl, hCs]) (fun i u hu => ?_)
    rw [List.getElem?_toArray, getElem?_splice Cc.toList cs.length ns (by simpa using hfit) i]
    by_cases hlt : i < cs.length
    · rw [List.getElem?_append_left (by omega)] at hu
      rw [if_neg (by omega)]
      simpa using husC i u hu
    · rw [List.getElem?_append_right (by omega), hul] at hu
      have := (List.getElem?_eq_some_iff.1 hu).1
      rw [if_pos (by omega)]
      exact hu
  · obtain ⟨newCap, cells, h2, h3, h4, h5, h6⟩ := run_app_grow (ty := o.type) (w := E.w) hse (some ⟨g, 0, none⟩) (some ⟨gy, 0, none⟩) cs.length cap capy zs.length us ns C.N hN (by rw [h1, hul, Nat.mul_one]) (by rw [h1, hnl, Nat.mul_one]) (fun w' hw' => by rw [← hux]; exact hfu w' hw') (fun w' hw' => by rw [← huy]; exact hfn w' hw') (by omega) hsm
    have hrun := execOp_app ho hc ht x y ha (P := C.prog) (w := E.w) (by rw [hux, huy]; exact h2)
    refine fin E.w.heap.size newCap _ cells hrun hN (.inl (Nat.le_refl _)) (by show (E.w.heap.push _)[E.w.heap.size]? = _; simp) ⟨by show _ ≤ (E.w.heap.push _).size; simp, fun b hb _ => push_lt E.w.drew _ b hb⟩ ((below_drew _ _).trans (below_alloc _ _ _ hN)) h3 h4 (by rw [h5, h1, Nat.mul_one]) h6
theorem app_box0 (hR : Rel C n D0 E0 U F E a) (hd : ∀ t, o.dst = some t → t < n) (hnew : ¬ U new) {c : Call} (ho : o.op = .call c) (hc : c.callee = .builtin .append) (hty : appTyOK C.prog c.argTypes = true) {x y : Operand} (ha : c.args = #[x, y])
    {b vb : Nat} {e e' : TypeId} {zs : List AV} (hX : VRel E .zc (a.eval x)) (hY : VRel E (.own b vb) (a.eval y)) (hBy : BE E b vb = some (e', .box zs))
    (he : e = tElem C.prog (c.argTypes.getD 0 0)) (h1 : tSize C.prog (tElem C.prog (c.argTypes.getD 0 0)) = 1) (hz : 1 ≤ zs.length) (hsm : zs.length ≤ 1000000) :
    Sound C ro n D0 E0 U F E a o new (.own new 0) [(new, some ⟨0, e, .box zs⟩)] := by
  obtain ⟨t, ht, hse⟩ := appTy hty
  have h0 : c.argTypes.getD 0 0 = t := by rw [ht]; rfl
  rw [h0] at he h1
  subst he
  obtain ⟨gy, capy, Cy, _, _, huy, _, _, _, _, _, ns, hnl, hfn, _, hnsV⟩ := box_src (C := C) hR.hr hY hBy h1
  have hP := hR.prog
  have hN := hR.hN
  rw [hP] at hfn
  generalize hx : a.eval x = ux at hX
  cases hX with
  | zc base =>
  have htop : E.top new = none := by
    cases h : E.top new with
    | none => rfl
    | some t => exact absurd (hR.used new t h) hnew
  obtain ⟨newCap, cells, h2, h3, h4, h5, h6⟩ := run_app_grow (ty := o.type) (w := E.w) hse base (some ⟨gy, 0, none⟩) 0 0 capy zs.length [] ns C.N hN (by simp) (by rw [h1, hnl, Nat.mul_one]) (fun w' _ => by cases base <;> simp [Builtin.firstCells, loadCells, loadCellsFrom]) (fun w' hw' => by rw [← huy]; exact hfn w' hw') (by omega) (by omega)
  have hrun := execOp_app ho hc ht x y ha (P := C.prog) (w := E.w) (by rw [hx, huy]; exact h2)
  simp only [Nat.zero_add] at hrun h3
  have hpl : ∀ b, b < E.w.heap.size → ({ E.w.drew with heap := E.w.drew.heap.push (.cells cells (tElem C.prog t)) } : World).heap[b]? = E.w.heap[b]? := fun b hb => push_lt E.w.drew _ b hb
  have hst := news_step (new := new) (mb := some E.w.heap.size) (blk := ⟨0, tElem C.prog t, .box zs⟩) (ks := []) (w' := { E.w.drew with heap := E.w.drew.heap.push (.cells cells (tElem C.prog t)) }) hR.hr htop hpl
  have hself : ({ E.w.drew with heap := E.w.drew.heap.push (.cells cells (tElem C.prog t)) } : World).heap[E.w.heap.size]? = some (.cells cells (tElem C.prog t)) := by
    show (E.w.heap.push _)[E.w.heap.size]? = _
    simp
  refine sound_new hR hd hnew ⟨0, tElem C.prog t, .box zs⟩ [] (some E.w.heap.size) _ _ _ hrun ((below_drew _ _).trans (below_alloc _ _ _ hN)) hpl (by show _ ≤ (E.w.heap.push _).size; simp) (fun h => by cases h) (fun g hg => ?_) ?_ ?_
  · injection hg with hg
    subst hg
    refine ⟨Nat.le_refl _, _, hself, cells, rfl, fun i v hi => ?_⟩
    obtain ⟨u, q2, q3, q4⟩ := hnsV i v hi
    exact ⟨u, h6 i u (by simpa using q2), q3.step hst, q4⟩
  · rw [upH_one]; rfl
  · refine .own new 0 0 _ (by simp [Env.news]) (Nat.le_refl _) rfl (fun e' xs' h => by simp [Env.news] at h) (fun e' cs' h => ?_)
    simp only [Env.news, if_true, Option.some.injEq, ABlk.mk.injEq, Body.box.injEq, true_and] at h
    obtain ⟨rfl, rfl⟩ := h
    refine ⟨E.w.heap.size, newCap, cells, tElem C.prog t, (0, 0), by simp [Env.news], rfl, h3, h4, hself, ?_⟩
    show cells.size = newCap * tSize E.P _
    rw [h5, hP]
end
end Go.Vc

namespace Go.Vc
open Go Go.RowKit
theorem flat_ones : ∀ (xs : List D), (∀ x, x ∈ xs → x.one = true) → flat xs = xs
  | [], _ => rfl
  | x :: r, h => by
    have ih := flat_ones r (fun y hy => h y (List.mem_cons_of_mem _ hy))
    unfold flat at ih ⊢
    rw [List.flatMap_cons, ih, D.cells_one (h x List.mem_cons_self)]
    rfl
theorem argX_box {C : Ctx} {E : Env} {id ver : Nat} {e : TypeId} {cs : List AV} {xs : List D} {ks : List Nat} {u : Value} (hr : HR C.N E) (hX : VRel E (.own id ver) u) (hB : BE E id ver = some (e, .box cs)) (hE : elemsD (BE E) cs = some (xs, ks))
    (S' : Nat → Prop) (hS : ∀ b, E.S b → S' b) (hk : ∀ b, blkOf E (id :: ks) b → S' b) : DRel E.w S' (.list xs) u := by
  have hH := BE_some hB
  obtain ⟨g, cap, Cc, hm, hge, rfl, hlc, hcm, hCc, hCs, hbr, us, hul, hfu, husC, husV⟩ := box_src (C := C) (size := 1) hr hX hB rfl
  have hval : ∀ (i : Nat) (v : AV) (w : Value), cs[i]? = some v → us[i]? = some w → VRel E v w ∧ w.oneCell' = true := fun i v w hv hw => by
    obtain ⟨x, h1, h2, h3⟩ := husV i v hv
    rw [hw] at h1
    injection h1 with h1
    subst h1
    exact ⟨h2, h3⟩
  have hds := elemsD_rel hr S' hS cs us xs ks hul.symm (fun i v w hv hw => (hval i v w hv hw).1) hE (fun k b hkm hH' hm' => hk b ⟨k, List.mem_cons_of_mem _ hkm, hH', hm'⟩)
  have hxl : xs.length = cs.length := by rw [hds.len, hul]
  have hone : ∀ x, x ∈ xs → x.one = true := fun x hx => by
    obtain ⟨i, hi, rfl⟩ := List.getElem_of_mem hx
    have hui : us[i]? = some (us[i]'(by omega)) := List.getElem?_eq_getElem (by omega)
    have hci : cs[i]? = some (cs[i]'(by omega)) := List.getElem?_eq_getElem (by omega)
    exact (hds.rel i _ _ (List.getElem?_eq_getElem hi) hui).one' (hval i _ _ hci hui).2
  have hfl := flat_ones xs hone
  have hat : ∀ (i : Nat) (d : D), (flat xs)[i]? = some d → xs[i]? = some d ∧ us[i]? = some (us.getD i default) := fun i d hi => by
    rw [hfl] at hi
    have hlt := (List.getElem?_eq_some_iff.1 hi).1
    refine ⟨hi, ?_⟩
    rw [List.getD_eq_getElem?_getD, List.getElem?_eq_getElem (show i < us.length by omega)]
    rfl
  rw [← hxl]
  refine .list xs 1 g 0 cap (fun i => us.getD i default) (hk g ⟨id, List.mem_cons_self, by rw [hH]; simp, hm⟩) (by omega) hcm (fun x hx => by rw [D.cells_one (hone x hx)]; rfl) (fun i d hi => ?_) (fun i d hi => ?_) (fun i d hi => ?_)
  · have h1 := husC i _ (hat i d hi).2
    simp only [World.cell?, hCc, Nat.zero_add]
    exact h1
  · exact hds.rel i d _ (hat i d hi).1 (hat i d hi).2
  · exact hone d (List.mem_of_getElem? (hat i d hi).1)
end Go.Vc
