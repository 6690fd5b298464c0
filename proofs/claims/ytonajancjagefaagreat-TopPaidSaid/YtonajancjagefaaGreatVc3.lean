/- A part of the proof: general laws of a reading of the model by abstract data, or contracts of the functions that the law calls. -/
import Derived.Test.YtonajancjagefaaGreatVc2
set_option maxRecDepth 100000
namespace Go.Vc
open Go Go.RowKit
def Env.chg (E : Env) (id : Nat) (mb : Option Nat) (blk : ABlk) (w' : World) : Env where
  P := E.P
  top i := if i = id then some blk.ver else E.top i
  m i := if i = id then mb else E.m i
  H i := if i = id then some blk else E.H i
  w := w'
  S := E.S
section
variable {N : Nat} {E : Env} {id : Nat} {mb : Option Nat} {b0 blk : ABlk} {w' : World}
def onlyAt (E : Env) (id : Nat) (w' : World) : Prop := E.w.heap.size ≤ w'.heap.size ∧ ∀ b, b < E.w.heap.size → E.m id ≠ some b → w'.heap[b]? = E.w.heap[b]?
def chgOK (E : Env) (id : Nat) (mb : Option Nat) (b0 blk : ABlk) (w' : World) : Prop :=
  b0.ver < blk.ver ∨ (b0.ver = blk.ver ∧ b0.elem = blk.elem ∧ sameShape b0.body blk.body ∧ mb = E.m id ∧
    ∀ g C el fr, E.m id = some g → E.w.heap[g]? = some (.cells C el fr) → ∃ C' el' fr', w'.heap[g]? = some (.cells C' el' fr') ∧ C'.size = C.size)
theorem chg_step (hr : HR N E) (hH : E.H id = some b0) (hok : chgOK E id mb b0 blk w') (hw : onlyAt E id w') : E.Step (E.chg id mb blk w') where
  P := rfl
  S _ h := h
  w b h := hw.2 b (hr.st b h).1 (fun hm => (hr.st b h).2 id (by rw [hH]; simp) hm)
  top i t h := by
    by_cases hi : i = id
    · subst hi
      have h0 := (hr.blk i b0 hH).1
      rw [h] at h0
      injection h0 with h0
      refine ⟨blk.ver, by simp [Env.chg], ?_⟩
      rcases hok with h1 | h1 <;> omega
    · exact ⟨t, by simp [Env.chg, hi, h], Nat.le_refl _⟩
  blk i t b' ht hb hv := by
    by_cases hi : i = id
    · subst hi
      simp only [Env.chg, if_true, Option.some.injEq] at hb ⊢
      subst hb
      have h0 := (hr.blk i b0 hH).1
      rw [ht] at h0
      injection h0 with h0
      rcases hok with h1 | ⟨h1, h2, h3, h4, h5⟩
      · omega
      · exact ⟨h4, b0, hH, h1, h2, h3, h5⟩
    · simp only [Env.chg, if_neg hi] at hb ⊢
      refine ⟨trivial, b', hb, rfl, rfl, sameShape.refl _, fun g C el fr hm hC => ⟨C, el, fr, ?_, rfl⟩⟩
      rw [hw.2 g (Array.getElem?_eq_some_iff.1 hC).1 (fun hm' => hi (hr.inj i id g (by rw [hb]; simp) (by rw [hH]; simp) hm hm'))]
      exact hC
theorem chg_hr (hr : HR N E) (hH : E.H id = some b0) (hok : chgOK E id mb b0 blk w') (hw : onlyAt E id w') (hmn : mb = none → blk.body = .lst [])
    (hms : ∀ g, mb = some g → N ≤ g ∧ (E.w.heap.size ≤ g ∨ E.m id = some g) ∧ ∃ o, w'.heap[g]? = some o ∧ OR (E.chg id mb blk w') blk.elem blk.body o) : HR N (E.chg id mb blk w') where
  st b h := by
    have h1 := hr.st b h
    refine ⟨Nat.lt_of_lt_of_le h1.1 hw.1, fun i hi hm => ?_⟩
    by_cases hne : i = id
    · subst hne
      simp only [Env.chg, if_true] at hm
      obtain ⟨_, h2, _⟩ := hms b hm
      rcases h2 with h2 | h2
      · omega
      · exact h1.2 i (by rw [hH]; simp) h2
    · simp only [Env.chg, if_neg hne] at hi hm
      exact h1.2 i hi hm
  blk i b hb := by
    by_cases hne : i = id
    · subst hne
      simp only [Env.chg, if_true, Option.some.injEq] at hb ⊢
      subst hb
      exact ⟨rfl, hmn, fun g hg => let ⟨h1, _, h2⟩ := hms g hg; ⟨h1, h2⟩⟩
    · simp only [Env.chg, if_neg hne] at hb ⊢
      obtain ⟨h1, h2, h3⟩ := hr.blk i b hb
      refine ⟨h1, h2, fun g hg => ?_⟩
      obtain ⟨k1, C, k2, k3⟩ := h3 g hg
      refine ⟨k1, C, ?_, k3.step (chg_step hr hH hok hw)⟩
      rw [hw.2 g (Array.getElem?_eq_some_iff.1 k2).1 (fun hm' => hne (hr.inj i id g (by rw [hb]; simp) (by rw [hH]; simp) hg hm'))]
      exact k2
  inj i j g hi hj hmi hmj := by
    have key : ∀ i, i ≠ id → (E.chg id mb blk w').H i ≠ none → (E.chg id mb blk w').m i = some g → E.H i ≠ none ∧ E.m i = some g := fun i hne h hm => by
      simp only [Env.chg, if_neg hne] at h hm
      exact ⟨h, hm⟩
    have cross : ∀ i j, i = id → j ≠ id → (E.chg id mb blk w').m i = some g → E.H j ≠ none → E.m j = some g → False := fun i j h1 h2 hm hjH hjm => by
      subst h1
      simp only [Env.chg, if_true] at hm
      obtain ⟨_, h3, _⟩ := hms g hm
      rcases h3 with h3 | h3
      · have := hr.blk_lt hjH hjm; omega
      · exact h2 (hr.inj j i g hjH (by rw [hH]; simp) hjm h3)
    by_cases h1 : i = id
    · by_cases h2 : j = id
      · omega
      · obtain ⟨hjH, hjm⟩ := key j h2 hj hmj
        exact (cross i j h1 h2 hmi hjH hjm).elim
    · obtain ⟨hiH, him⟩ := key i h1 hi hmi
      by_cases h2 : j = id
      · exact (cross j i h2 h1 hmj hiH him).elim
      · obtain ⟨hjH, hjm⟩ := key j h2 hj hmj
        exact hr.inj i j g hiH hjH him hjm
end
theorem chg_go {N : Nat} {E : Env} {id : Nat} {mb : Option Nat} {b0 blk : ABlk} {w' : World} (hr : HR N E) (hH : E.H id = some b0) (hok : chgOK E id mb b0 blk w') (hw : onlyAt E id w')
    (hos : w'.os = E.w.os) (ht : w'.tape = E.w.tape) (ho : w'.output = E.w.output) (hms : ∀ g, mb = some g → E.w.heap.size ≤ g ∨ E.m id = some g) : E.Go (E.chg id mb blk w') where
  step := chg_step hr hH hok hw
  os := hos
  tape := ht
  output := ho
  size := hw.1
  only b hb hn := hw.2 b hb fun hm => hn ⟨id, by rw [hH]; simp, hm⟩
  own b := fun ⟨i, h1, h2⟩ => by
    by_cases hne : i = id
    · subst hne
      simp only [Env.chg, if_true] at h2
      rcases hms b h2 with h | h
      · exact .inr h
      · exact .inl ⟨i, by rw [hH]; simp, h⟩
    · simp only [Env.chg, if_neg hne] at h1 h2
      exact .inl ⟨i, h1, h2⟩
  st b hb := .inl hb
section
variable {C : Ctx} {ro : Option Nat} {n : Nat} {D0 : List Deferred} {E0 : Env} {U : Nat → Prop} {F : Nat → AV} {E : Env} {a : Act} {o : Oper} {new : Nat} {v : AV}
theorem sound_chg (hR : Rel C n D0 E0 U F E a) (hd : ∀ t, o.dst = some t → t < n) {id : Nat} {mb : Option Nat} {b0 blk : ABlk} {w' : World} (hH : E.H id = some b0) (hok : chgOK E id mb b0 blk w') (hw : onlyAt E id w')
    (u : Value) (r : Next) (hru : r = .value u ∨ (r = .skip ∧ u = undef)) (hrun : (execOp a.eval o).run C.prog E.w = .ok r w') (hb : Below C.N E.w w') (hmn : mb = none → blk.body = .lst [])
    (hms : ∀ g, mb = some g → C.N ≤ g ∧ (E.w.heap.size ≤ g ∨ E.m id = some g) ∧ ∃ o, w'.heap[g]? = some o ∧ OR (E.chg id mb blk w') blk.elem blk.body o)
    (hv : VRel (E.chg id mb blk w') v u) : Sound C ro n D0 E0 U F E a o new v [(id, some blk)] := by
  intro hnd K Q hK
  have hhr := chg_hr hR.hr hH hok hw hmn hms
  have hfin := hK _ _ (hR.put (U' := fun i => U i ∨ (new ≤ i ∧ i < new + 8)) (chg_go hR.hr hH hok hw hb.os hb.tape hb.output (fun g hg => (hms g hg).2.1)) hhr (fun i t h => ?_) hd hv) (by rw [upH_one]; rfl)
  · refine wpIn_of hnd ?_
    rw [hrun]
    rcases hru with rfl | ⟨rfl, rfl⟩
    · exact hfin
    · exact hfin
  · simp only [Env.chg] at h
    split at h
    · rename_i he
      subst he
      exact .inl (hR.used _ _ (hR.hr.blk _ _ hH).1)
    · exact .inl (hR.used i t h)
theorem setRow_only (w : World) (g : Nat) (cs : Array Value) (b : Nat) (h : b ≠ g) : (w.setRow g cs).heap[b]? = w.heap[b]? := setRow_other w g b cs h
theorem below_setRow' {N : Nat} {w : World} {g : Nat} (h : N ≤ g) (cs : Array Value) : Below N w (w.setRow g cs) :=
  ⟨rfl, rfl, rfl, by simp, fun k hk => setRow_other w g k cs (by omega)⟩
theorem getElem?_splice {α : Type} (cs : List α) (off : Nat) (vs : List α) (h : off + vs.length ≤ cs.length) (i : Nat) :
    (splice cs off vs)[i]? = if off ≤ i ∧ i < off + vs.length then vs[i - off]? else cs[i]? := by
  simp only [splice]
  by_cases h1 : i < off
  · rw [if_neg (by omega), List.getElem?_append_left (by simp; omega), List.getElem?_append_left (by simp; omega), List.getElem?_take, if_pos h1]
  · by_cases h2 : i < off + vs.length
    · rw [if_pos ⟨by omega, h2⟩, List.getElem?_append_left (by simp; omega), List.getElem?_append_right (by simp; omega)]
      congr 1
      simp; omega
    · rw [if_neg (by omega), List.getElem?_append_right (by simp; omega)]
      simp only [List.length_append, List.length_take, List.getElem?_drop]
      congr 1
      omega
theorem length_splice {α : Type} (cs : List α) (off : Nat) (vs : List α) (h : off + vs.length ≤ cs.length) : (splice cs off vs).length = cs.length := by
  simp only [splice, List.length_append, List.length_take, List.length_drop]; omega
theorem run_storeCells_fr {P : Program} (g o : Nat) (t : TypeId) (fr : Nat × Nat) : ∀ (vs : List Value) (i : Nat) (cur : Array Value) (w : World), w.heap[g]? = some (.cells cur t fr) → FrB cur fr → o + i + vs.length ≤ cur.size → (∀ v ∈ vs, v.oneCell' = true) →
    (storeCells ⟨g, o, none⟩ vs i).run P w = .ok () (w.setRow g (cur.toList.take (o + i) ++ vs ++ cur.toList.drop (o + i + vs.length)).toArray)
  | [], i, cur, w, hg, _, _, _ => by
    simp only [storeCells, List.append_nil, List.length_nil, Nat.add_zero, List.take_append_drop, Array.toArray_toList]
    rw [setRow_self w g cur t fr hg]
    rfl
  | v :: rest, i, cur, w, hg, hf, hl, h1 => by
    have hi : o + i < cur.size := by simp at hl; omega
    have hadd : (⟨g, o, none⟩ : Addr).add i = ⟨g, o + i, none⟩ := by unfold Addr.add; split <;> simp_all
    have hcell : w.cell? ⟨g, o + i, none⟩ = some cur[o + i] := by simp [World.cell?, hg, hi]
    have hfro : w.frozen? ⟨g, o + i, none⟩ = false := by
      rcases hf with rfl | hf
      · simp [World.frozen?, hg]
      · simp [World.frozen?, hg]; omega
    have hst : (store ((⟨g, o, none⟩ : Addr).add i) v).run P w = .ok () (w.setRow g (cur.setIfInBounds (o + i) v)) := by
      rw [hadd, run_store P w _ v _ (h1 v (by simp)), hcell]
      simp [hfro, setCell_eq_setRow w g (o + i) cur t fr v hg]
    have ih := run_storeCells_fr (P := P) g o t fr rest (i + 1) (cur.setIfInBounds (o + i) v) (w.setRow g (cur.setIfInBounds (o + i) v)) (setRow_heap w g cur _ t _ hg) (by unfold FrB at hf ⊢; simpa using hf) (by simp at hl ⊢; omega) (fun x hx => h1 x (by simp [hx]))
    simp only [storeCells, Sem.run_bind, hst, Result.andThen_ok, ih, setRow_setRow]
    congr 3
    have e := list_seg_step cur.toList (o + i) v rest (by simp at hl ⊢; omega)
    simpa [Array.toList_setIfInBounds, Nat.add_assoc] using e
theorem run_storeAt {P : Program} {w : World} {t : TypeId} (ht : (P.underlying t).isSome = true) (b o : Nat) (u : Value) (Cc : Array Value) (el : TypeId) (fr : Nat × Nat) (hC : w.heap[b]? = some (.cells Cc el fr)) (hF : FrB Cc fr) (hsz : u.cells.size = tSize P t)
    (ho : o + u.cells.size ≤ Cc.size) (h1 : ∀ x, x ∈ u.cells.toList → x.oneCell' = true) :
    (Instr.storeAt t (.pointer (some ⟨b, o, none⟩)) u).run P w = .ok () (w.setRow b (splice Cc.toList o u.cells.toList).toArray) := by
  have hs := run_storeCells_fr (P := P) b o el fr u.cells.toList 0 Cc w hC hF (by simpa using ho) h1
  simp only [Instr.storeAt, Instr.sureAddr, Sem.run_bind, Sem.run_pure, Result.andThen_ok, storeVar, run_sizeOf' ht, hsz, ne_eq, not_true_eq_false, if_false, hs]
  simp [splice]
theorem rowSet_cells (y : D) (off : Nat) (vs : List D) (h : off + vs.length ≤ y.cells.length) (h0 : vs.length ≠ 0) (h1 : ∀ x, x ∈ vs → x.one = true) : (rowSet y off vs).cells = splice y.cells off vs := by
  by_cases hy : y.one = true
  · rw [D.cells_one hy] at h ⊢
    simp at h
    match vs, h0, h with
    | [z], _, h =>
      have : off = 0 := by simp at h; omega
      subst this
      have hz := D.cells_one (h1 z (by simp))
      cases y <;> simp_all [rowSet, splice, D.one]
    | _ :: _ :: _, _, h => simp at h; omega
  · cases y <;> simp [D.one] at hy
    rfl
theorem flat_set : ∀ (xs : List D) (sz row : Nat) (y z : D), (∀ x, x ∈ xs → x.cells.length = sz) → xs[row]? = some y → z.cells.length = sz → flat (xs.set row z) = splice (flat xs) (row * sz) z.cells := by
  intro xs
  induction xs with
  | nil => intro sz row y z _ h; simp at h
  | cons x r ih =>
    intro sz row y z hs hy hz
    have hx := hs x (by simp)
    have hf : flat (x :: r) = x.cells ++ flat r := by simp [flat]
    cases row with
    | zero =>
      have hf' : flat ((x :: r).set 0 z) = z.cells ++ flat r := by simp [flat]
      rw [hf', hf]
      simp [splice, hz, ← hx]
    | succ k =>
      simp at hy
      have hf' : flat ((x :: r).set (k + 1) z) = x.cells ++ flat (r.set k z) := by simp [flat]
      rw [hf', hf, ih sz k y z (fun w hw => hs w (by simp [hw])) hy hz]
      have e : (k + 1) * sz = x.cells.length + k * sz := by rw [hx, Nat.succ_mul]; omega
      have a1 : (x.cells ++ flat r).take (x.cells.length + k * sz) = x.cells ++ (flat r).take (k * sz) := by
        rw [List.take_append, show x.cells.take (x.cells.length + k * sz) = x.cells from List.take_of_length_le (by omega)]
        simp
      have a2 : (x.cells ++ flat r).drop (x.cells.length + k * sz + z.cells.length) = (flat r).drop (k * sz + z.cells.length) := by
        rw [List.drop_append, show x.cells.drop (x.cells.length + k * sz + z.cells.length) = [] from List.drop_eq_nil_of_le (by omega)]
        simp only [List.nil_append]
        congr 1
        omega
      simp only [splice]
      rw [e, a1, a2]
      simp
theorem store_sound (hR : Rel C n D0 E0 U F E a) (hd : o.dst = none) {t : TypeId} {p x : Operand} (ho : o.op = .store t p x) (ht : (C.prog.underlying t).isSome = true) (hts : tSize C.prog t ≠ 0) (X Y : AV) (hX : VRel E X (a.eval p)) (hY : VRel E Y (a.eval x)) (ups : Heap)
    (hE : STORER (tSize C.prog t) X Y (BE E) ups) : Sound C ro n D0 E0 U F E a o new .any ups := by
  obtain ⟨hlen, hE⟩ := hE
  have hne : Y.cells ≠ [] := fun h => by rw [h] at hlen; simp at hlen; omega
  have hYc := hY.ofCells (.inl hne)
  have husz : (a.eval x).cells.size = tSize C.prog t := by have := hYc.len; simp at this; omega
  have hrunop : ∀ b off Cc el fr, a.eval p = .pointer (some ⟨b, off, none⟩) → E.w.heap[b]? = some (.cells Cc el fr) → FrB Cc fr → off + tSize C.prog t ≤ Cc.size →
      (execOp a.eval o).run C.prog E.w = .ok .skip (E.w.setRow b (splice Cc.toList off (a.eval x).cells.toList).toArray) := fun b off Cc el fr hp hC hF hsz => by
    have := run_storeAt (P := C.prog) ht b off (a.eval x) Cc el fr hC hF husz (by omega) hYc.one
    simp only [execOp, ho, hp, Sem.run_bind, this, Result.andThen_ok, Sem.run_pure]
  split at hE
  · rename_i id ver row off
    cases hp : hX with
    | ptr _ _ _ _ tt _ htop hle ho1 hpt =>
      split at hE
      · rename_i e cs hB
        have hH := BE_some hB
        obtain ⟨rfl, hle2, rfl⟩ := hE
        obtain ⟨b, hm, hpe⟩ := hpt e _ hH
        obtain ⟨hN, Cc, k3, k4⟩ := hR.hr.box hH hm
        simp only [Nat.zero_mul, Nat.zero_add] at hpe
        have hCsz : cs.length ≤ Cc.size := by
          by_cases h0 : cs.length = 0
          · omega
          · obtain ⟨u, hu, _⟩ := k4 (cs.length - 1) _ (List.getElem?_eq_getElem (by omega))
            have := (Array.getElem?_eq_some_iff.1 hu).1
            omega
        have hrun := hrunop b off Cc e (0, 0) hpe k3 (.inl rfl) (by omega)
        have hlsp : off + (a.eval x).cells.toList.length ≤ Cc.toList.length := by simp [husz]; omega
        have honly : onlyAt E id (E.w.setRow b (splice Cc.toList off (a.eval x).cells.toList).toArray) := ⟨by simp, fun g hg hgm => setRow_other _ _ _ _ (fun e => hgm (by rw [e]; exact hm))⟩
        have hnewC := setRow_heap E.w b Cc (splice Cc.toList off (a.eval x).cells.toList).toArray e (0, 0) k3
        have hok : chgOK E id (some b) ⟨ver, e, .box cs⟩ ⟨ver, e, .box (splice cs off Y.cells)⟩ (E.w.setRow b (splice Cc.toList off (a.eval x).cells.toList).toArray) :=
          .inr ⟨rfl, rfl, (length_splice cs off Y.cells (by omega)).symm, hm.symm, fun g C' el fr hg hC' => by
            rw [hm] at hg; injection hg with hg; subst hg
            rw [k3] at hC'; injection hC' with hC'; injection hC' with h1 h2 h3; subst h1
            exact ⟨_, _, _, hnewC, by simp [length_splice _ _ _ hlsp]⟩⟩
        have hst := chg_step (mb := some b) (blk := ⟨ver, e, .box (splice cs off Y.cells)⟩) hR.hr hH hok honly
        refine sound_chg hR (fun t h => by rw [hd] at h; cases h) hH hok honly undef .skip (.inr ⟨rfl, rfl⟩) hrun (below_setRow' hN _) (fun h => by cases h) (fun g hg => ?_) (.any _)
        injection hg with hg
        subst hg
        refine ⟨hN, .inr hm, _, hnewC, _, rfl, fun i v hi => ?_⟩
        rw [getElem?_splice _ _ _ (by omega)] at hi
        have hgoal : (splice Cc.toList off (a.eval x).cells.toList).toArray[i]? = if off ≤ i ∧ i < off + Y.cells.length then (a.eval x).cells.toList[i - off]? else Cc[i]? := by
          have := getElem?_splice Cc.toList off (a.eval x).cells.toList hlsp i
          rw [List.getElem?_toArray, this, hYc.len]
          simp
        rw [hgoal]
        split at hi
        · rename_i hc
          rw [if_pos hc]
          have hlt := (List.getElem?_eq_some_iff.1 hi).1
          obtain ⟨u, hu⟩ : ∃ u, (a.eval x).cells.toList[i - off]? = some u := ⟨_, List.getElem?_eq_getElem (by rw [← hYc.len]; exact hlt)⟩
          exact ⟨u, hu, (hYc.rel _ v _ hi hu).step hst, hYc.one _ (List.mem_of_getElem? hu)⟩
        · rename_i hc
          rw [if_neg hc]
          obtain ⟨u, hu, h1, h2⟩ := k4 i v hi
          exact ⟨u, hu, h1.step hst, h2⟩
      · rename_i e xs hB
        have hH := BE_some hB
        obtain ⟨d, y, rfl, hy, hle2, rfl⟩ := hE
        obtain ⟨b, hm, hpe⟩ := hpt e _ hH
        obtain ⟨hN, Cc, fr0, k3, kF, k4, k5⟩ := hR.hr.lst hH hm
        have hdd := hY.inv_d
        obtain ⟨hd1, hd2, hd3⟩ := hdd.cells
        have hdl : d.cells.length = tSize C.prog t := by simpa [AV.cells] using hlen
        have hyl : y.cells.length = tSize E.P e := k4 y (List.mem_of_getElem? hy)
        have hfl := flat_len xs _ row y k4 hy
        have hCsz : (flat xs).length ≤ Cc.size := by
          by_cases h0 : (flat xs).length = 0
          · omega
          · obtain ⟨_, u, hu, _⟩ := k5 ((flat xs).length - 1) _ (List.getElem?_eq_getElem (by omega))
            have := (Array.getElem?_eq_some_iff.1 hu).1
            omega
        have hrun := hrunop b _ Cc e fr0 hpe k3 kF (by omega)
        have hlsp : row * tSize E.P e + off + (a.eval x).cells.toList.length ≤ Cc.toList.length := by simp [husz]; omega
        have honly : onlyAt E id (E.w.setRow b (splice Cc.toList (row * tSize E.P e + off) (a.eval x).cells.toList).toArray) := ⟨by simp, fun g hg hgm => setRow_other _ _ _ _ (fun e => hgm (by rw [e]; exact hm))⟩
        have hnewC := setRow_heap E.w b Cc (splice Cc.toList (row * tSize E.P e + off) (a.eval x).cells.toList).toArray e fr0 k3
        have hok : chgOK E id (some b) ⟨ver, e, .lst xs⟩ ⟨ver, e, .lst (xs.set row (rowSet y off d.cells))⟩ (E.w.setRow b (splice Cc.toList (row * tSize E.P e + off) (a.eval x).cells.toList).toArray) :=
          .inr ⟨rfl, rfl, by simp [sameShape], hm.symm, fun g C' el fr hg hC' => by
            rw [hm] at hg; injection hg with hg; subst hg
            rw [k3] at hC'; injection hC' with hC'; injection hC' with h1 h2 h3; subst h1
            exact ⟨_, _, _, hnewC, by simp [length_splice _ _ _ hlsp]⟩⟩
        have hst := chg_step (mb := some b) (blk := ⟨ver, e, .lst (xs.set row (rowSet y off d.cells))⟩) hR.hr hH hok honly
        refine sound_chg hR (fun t h => by rw [hd] at h; cases h) hH hok honly undef .skip (.inr ⟨rfl, rfl⟩) hrun (below_setRow' hN _) (fun h => by cases h) (fun g hg => ?_) (.any _)
        injection hg with hg
        subst hg
        have hrc := rowSet_cells y off d.cells (by omega) (by omega) hd3
        have hrcl : (rowSet y off d.cells).cells.length = tSize E.P e := by rw [hrc, length_splice _ _ _ (by omega)]; exact hyl
        refine ⟨hN, .inr hm, _, hnewC, _, fr0, rfl, by unfold FrB at kF ⊢; simpa [length_splice _ _ _ hlsp] using kF, fun z hz => ?_, fun i v hi => ?_⟩
        · rcases List.mem_or_eq_of_mem_set hz with h | h
          · exact k4 z h
          · rw [h]; exact hrcl
        · rw [flat_set xs _ row y _ k4 hy hrcl, getElem?_splice _ _ _ (by rw [hrcl]; exact hfl), hrcl] at hi
          have hgoal : (splice Cc.toList (row * tSize E.P e + off) (a.eval x).cells.toList).toArray[i]? = if row * tSize E.P e + off ≤ i ∧ i < row * tSize E.P e + off + d.cells.length then (a.eval x).cells.toList[i - (row * tSize E.P e + off)]? else Cc[i]? := by
            have := getElem?_splice Cc.toList (row * tSize E.P e + off) (a.eval x).cells.toList hlsp i
            rw [List.getElem?_toArray, this]
            simp [hd1]
          have hold : (flat xs)[i]? = some v → ¬ (row * tSize E.P e + off ≤ i ∧ i < row * tSize E.P e + off + d.cells.length) → v.one = true ∧ ∃ u, (splice Cc.toList (row * tSize E.P e + off) (a.eval x).cells.toList).toArray[i]? = some u ∧ DRel (E.chg id (some b) ⟨ver, e, .lst (xs.set row (rowSet y off d.cells))⟩ (E.w.setRow b (splice Cc.toList (row * tSize E.P e + off) (a.eval x).cells.toList).toArray)).w (E.chg id (some b) ⟨ver, e, .lst (xs.set row (rowSet y off d.cells))⟩ (E.w.setRow b (splice Cc.toList (row * tSize E.P e + off) (a.eval x).cells.toList).toArray)).S v u := fun h hn => by
            obtain ⟨h1, u, hu, h2⟩ := k5 i v h
            exact ⟨h1, u, by rw [hgoal, if_neg hn]; exact hu, h2.mono hst.S hst.w⟩
          split at hi
          · rename_i hc
            rw [hrc, getElem?_splice _ _ _ (by omega)] at hi
            split at hi
            · rename_i hc2
              have hin : row * tSize E.P e + off ≤ i ∧ i < row * tSize E.P e + off + d.cells.length := by omega
              have e1 : i - row * tSize E.P e - off = i - (row * tSize E.P e + off) := by omega
              rw [e1] at hi
              have hlt := (List.getElem?_eq_some_iff.1 hi).1
              obtain ⟨u, hu⟩ : ∃ u, (a.eval x).cells.toList[i - (row * tSize E.P e + off)]? = some u := ⟨_, List.getElem?_eq_getElem (by simp; omega)⟩
              exact ⟨hd3 _ (List.mem_of_getElem? hi), u, by rw [hgoal, if_pos hin]; exact hu, (hd2 _ v u hi (by simpa using hu)).mono hst.S hst.w⟩
            · rename_i hc2
              have := flat_get xs _ row (i - row * tSize E.P e) y v k4 hy hi
              rw [show row * tSize E.P e + (i - row * tSize E.P e) = i by omega] at this
              exact hold this (by omega)
          · exact hold hi (by omega)
      · exact hE.elim
  · exact hE.elim
end
end Go.Vc

namespace Go.Vc
open Go Go.RowKit
structure DsRel (w : World) (S : Nat → Prop) (xs : List D) (us : List Value) : Prop where
  len : xs.length = us.length
  rel : ∀ (i : Nat) (x : D) (u : Value), xs[i]? = some x → us[i]? = some u → DRel w S x u
theorem DsRel.flat {w : World} {S : Nat → Prop} : ∀ (xs : List D) (us : List Value), DsRel w S xs us →
    (flat xs).length = (us.flatMap fun u => u.cells.toList).length ∧ (∀ (i : Nat) (x : D) (u : Value), (flat xs)[i]? = some x → (us.flatMap fun u => u.cells.toList)[i]? = some u → DRel w S x u) ∧ ∀ x, x ∈ flat xs → x.one = true := by
  intro xs
  induction xs with
  | nil =>
    intro us h
    have := h.len
    cases us with
    | nil => simp [Go.Vc.flat]
    | cons u r => simp at this
  | cons x r ih =>
    intro us h
    have hl := h.len
    cases us with
    | nil => simp at hl
    | cons u us =>
      have hx := h.rel 0 x u rfl rfl
      obtain ⟨c1, c2, c3⟩ := hx.cells
      obtain ⟨i1, i2, i3⟩ := ih us ⟨by simpa using hl, fun i x u hx hu => h.rel (i + 1) x u (by simpa using hx) (by simpa using hu)⟩
      have hf : Go.Vc.flat (x :: r) = x.cells ++ Go.Vc.flat r := by simp [Go.Vc.flat]
      have hg : ((u :: us).flatMap fun u => u.cells.toList) = u.cells.toList ++ us.flatMap fun u => u.cells.toList := by simp
      rw [hf, hg]
      refine ⟨by simp only [List.length_append, i1]; simp [c1], fun i y v hy hv => ?_, fun y hy => ?_⟩
      · by_cases hi : i < x.cells.length
        · rw [List.getElem?_append_left hi] at hy
          rw [List.getElem?_append_left (by simp; omega)] at hv
          exact c2 i y v hy (by simpa using hv)
        · rw [List.getElem?_append_right (by omega)] at hy
          rw [List.getElem?_append_right (by simp; omega)] at hv
          have e : i - u.cells.toList.length = i - x.cells.length := by simp [c1]
          rw [e] at hv
          exact i2 _ y v hy hv
      · rcases List.mem_append.1 hy with h | h
        · exact c3 y h
        · exact i3 y h
theorem flat_length : ∀ (xs : List D) (sz : Nat), (∀ x, x ∈ xs → x.cells.length = sz) → (flat xs).length = xs.length * sz := by
  intro xs
  induction xs with
  | nil => intro sz _; simp [flat]
  | cons x r ih =>
    intro sz h
    have hf : flat (x :: r) = x.cells ++ flat r := by simp [flat]
    rw [hf, List.length_append, h x (by simp), ih sz (fun y hy => h y (by simp [hy])), List.length_cons, Nat.succ_mul]
    omega
theorem fill_seq (size : Nat) : ∀ (ps : List (Nat × Value)) (k : Nat) (init : Array Value), init.size = (k + ps.length) * size → (∀ (j : Nat) (p : Nat × Value), ps[j]? = some p → p.1 = k + j ∧ p.2.cells.size = size) →
    ∃ r, Instr.fill (fun i => some (i * size, size)) init ps = some r ∧ r.toList = init.toList.take (k * size) ++ ps.flatMap fun p => p.2.cells.toList := by
  intro ps
  induction ps with
  | nil =>
    intro k init hi _
    refine ⟨init, rfl, ?_⟩
    simp only [List.flatMap_nil, List.append_nil]
    rw [List.take_of_length_le]
    simp at hi ⊢; omega
  | cons p r ih =>
    intro k init hi hp
    obtain ⟨h1, h2⟩ := hp 0 p rfl
    obtain ⟨i, u⟩ := p
    simp only [Nat.add_zero] at h1 h2
    have h1 := h1.symm
    subst h1
    have hsz : k * size + size ≤ init.size := by
      rw [hi]
      have : (k + (((k, u) :: r).length)) * size = k * size + size + r.length * size := by simp only [List.length_cons]; rw [Nat.add_mul, Nat.add_mul]; omega
      omega
    have hone := fill_one init u (k * size) (by omega)
    have hsize : (u.cells.zipIdx.foldl (fun cs (p : Value × Nat) => cs.setIfInBounds (k * size + p.2) p.1) init).size = init.size := by
      have := congrArg List.length hone
      rw [length_splice _ _ _ (by simp; omega)] at this
      simpa using this
    obtain ⟨res, hr1, hr2⟩ := ih (k + 1) _ (by rw [hsize, hi]; congr 1; simp; omega) (fun j p hj => by
      have := hp (j + 1) p (by simpa using hj)
      exact ⟨by omega, this.2⟩)
    refine ⟨res, ?_, ?_⟩
    · simp only [Instr.fill]
      rw [if_neg (by simp [h2]; omega)]
      exact hr1
    · rw [hr2, hone]
      simp only [splice, List.flatMap_cons]
      have e : (k + 1) * size = k * size + u.cells.toList.length := by rw [Nat.succ_mul]; simp [h2]
      rw [e]
      have l1 : (init.toList.take (k * size)).length = k * size := by simp; omega
      rw [List.append_assoc, List.take_append, List.take_of_length_le (by omega), List.take_append]
      rw [l1, show k * size + u.cells.toList.length - k * size = u.cells.toList.length by omega]
      simp only [List.take_length, List.append_assoc]
      simp
def sliceElemOK (P : Program) (t : TypeId) : Bool := match P.underlying t with
  | some (.slice e) => zeroTyOK P e && (P.underlying e).isSome && !(tSize P e == 0) && (match P.info? e with | some i => (match i.zero with | some z => z.cells.size == i.size | none => false) && decide (i.bytes ≤ 1000) && decide (i.size ≤ 16) | none => false)
  | _ => false
structure SliceElem (P : Program) (t e : TypeId) : Prop where
  und : P.underlying t = some (.slice e)
  eund : (P.underlying e).isSome = true
  size : tSize P e ≠ 0
  zero : ∃ i z, P.info? e = some i ∧ i.zero = some z ∧ z.cells.size = tSize P e ∧ i.size = tSize P e ∧ i.bytes ≤ 1000 ∧ tSize P e ≤ 16
  elem : tElem P t = e
  zty : zeroTyOK P e = true
theorem sliceElem {P : Program} {t : TypeId} (h : sliceElemOK P t = true) : SliceElem P t (tElem P t) := by
  unfold sliceElemOK at h
  split at h
  · rename_i e he
    have hel : tElem P t = e := by simp [tElem, tDesc, he]
    simp only [Bool.and_eq_true, Bool.not_eq_true', beq_eq_false_iff_ne] at h
    obtain ⟨⟨⟨h1, h2⟩, h3⟩, h4⟩ := h
    rw [hel]
    refine ⟨he, h2, h3, ?_, hel, h1⟩
    split at h4
    · rename_i i hi
      simp only [Bool.and_eq_true, decide_eq_true_eq] at h4
      obtain ⟨⟨h4, h5⟩, h6⟩ := h4
      split at h4
      · rename_i z hz
        have : tSize P e = i.size := by simp [tSize, hi]
        exact ⟨i, z, hi, hz, by rw [this]; simpa using h4, this.symm, h5, by omega⟩
      · cases h4
    · cases h4
  · cases h
def blkOf (E : Env) (ks : List Nat) (b : Nat) : Prop := ∃ k, k ∈ ks ∧ E.H k ≠ none ∧ E.m k = some b
theorem mem_idsL {k : Nat} : ∀ {vs : List AV} {i : Nat} {v : AV}, vs[i]? = some v → k ∈ ids v → k ∈ ids.idsL vs := by
  intro vs
  induction vs with
  | nil => intro i v h; simp at h
  | cons x r ih =>
    intro i v h hk
    simp only [ids.idsL, List.mem_append]
    cases i with
    | zero => simp at h; subst h; exact .inl hk
    | succ i => exact .inr (ih (by simpa using h) hk)
theorem toD_rel {N : Nat} {E : Env} (hr : HR N E) {S' : Nat → Prop} (hS : ∀ b, E.S b → S' b) {v : AV} {x : D} {u : Value} (h : toD (BE E) v = some x) (hv : VRel E v u) (hk : ∀ b, blkOf E (ids v) b → S' b) : DRel E.w S' x u := by
  cases v <;> simp only [toD] at h <;> try (cases h; done)
  · injection h with h; subst h; exact hv.inv_d.mono hS (fun _ _ => rfl)
  · injection h with h; subst h
    cases hv with
    | zc a => exact .list0 _ _
  · rename_i id ver
    split at h
    · rename_i e xs hB
      injection h with h; subst h
      exact own_data hr hB hv S' hS (fun b hb => hk b ⟨id, by simp [ids], by rw [BE_some hB]; simp, hb⟩)
    · cases h
  · rename_i id ver row off
    cases row with
    | succ r => cases h
    | zero =>
      cases off with
      | succ r => cases h
      | zero =>
        have key : ∀ (b : Option (TypeId × Body)), (match b with | some (_, .box cs) => (allD cs).map D.cp | _ => none) = some x → ∃ e cs ds, b = some (e, .box cs) ∧ allD cs = some ds ∧ x = .cp ds := fun b hb => by
          split at hb
          · rename_i e cs
            cases h : allD cs with
            | none => rw [h] at hb; cases hb
            | some ds => rw [h] at hb; injection hb with hb; exact ⟨e, cs, ds, rfl, h, hb.symm⟩
          · cases hb
        obtain ⟨e, cs, ds, hB, hds, rfl⟩ := key (BE E id ver) h
        have hH := BE_some hB
        cases hv with
        | ptr _ _ _ _ tt _ htop hle ho hh =>
          obtain ⟨b, hm, rfl⟩ := hh e _ hH
          obtain ⟨_, Cc, k3, k4⟩ := hr.box hH hm
          have hcs : cs = ds.map .d := by
            have key : ∀ (vs : List AV) (ds : List D), allD vs = some ds → vs = ds.map .d := by
              intro vs
              induction vs with
              | nil => intro ds h; simp [allD] at h; subst h; rfl
              | cons v r ih =>
                intro ds h
                cases v <;> simp only [allD] at h <;> try (cases h; done)
                rename_i x
                cases hr : allD r with
                | none => rw [hr] at h; cases h
                | some xs =>
                  rw [hr] at h
                  simp only [Option.map_some, Option.some.injEq] at h
                  subst h
                  rw [ih xs hr]; rfl
            exact key cs ds hds
          subst hcs
          have hc : ∀ (i : Nat) (d : D), ds[i]? = some d → ∃ u, Cc[i]? = some u ∧ DRel E.w E.S d u ∧ d.one = true := fun i d hi => by
            obtain ⟨u, hu, h1, h2⟩ := k4 i (.d d) (by simp [hi])
            exact ⟨u, hu, h1.inv_d, h1.inv_d.one' h2⟩
          simp only [Nat.zero_mul, Nat.zero_add]
          refine .cp ds b 0 (fun i => Cc.getD i undef) (hk b ⟨id, by simp [ids], by rw [hH]; simp, hm⟩) (fun i d hi => ?_) (fun i d hi => ?_) (fun d hd => ?_)
          · obtain ⟨u, hu, _⟩ := hc i d hi
            simp [World.cell?, k3, hu, Array.getD_eq_getD_getElem?]
          · obtain ⟨u, hu, h1, _⟩ := hc i d hi
            simp only [Array.getD_eq_getD_getElem?, hu, Option.getD_some]
            exact h1.mono hS (fun _ _ => rfl)
          · obtain ⟨i, hi⟩ := List.getElem?_of_mem hd
            obtain ⟨u, hu, _, h1⟩ := hc i d hi
            exact h1
theorem argD_rel {N : Nat} {E : Env} (hr : HR N E) {S' : Nat → Prop} (hS : ∀ b, E.S b → S' b) {v : AV} {x : D} {u : Value} (h : argD (BE E) v = some x) (hv : VRel E v u) (hk : ∀ b, blkOf E (ids v) b → S' b) : DRel E.w S' x u := by
  have sub : ∀ (vs : List AV) (xs : List D), toDs (BE E) vs = some xs → (∀ b, blkOf E (ids.idsL vs) b → S' b) → xs.length = vs.length ∧ ∀ (i : Nat) (x : D) (u : Value), xs[i]? = some x → (∀ v, vs[i]? = some v → VRel E v u) → DRel E.w S' x u := by
    intro vs
    induction vs with
    | nil => intro xs h _; simp [toDs] at h; subst h; exact ⟨rfl, fun i x u h => by simp at h⟩
    | cons v r ih =>
      intro xs h hk
      simp only [toDs] at h
      cases h1 : toD (BE E) v with
      | none => rw [h1] at h; cases h
      | some x =>
        rw [h1] at h
        simp only [Option.bind_some] at h
        cases h2 : toDs (BE E) r with
        | none => rw [h2] at h; cases h
        | some ys =>
          rw [h2] at h
          simp only [Option.map_some, Option.some.injEq] at h
          subst h
          obtain ⟨l, g⟩ := ih ys h2 (fun b ⟨k, h, h'⟩ => hk b ⟨k, by simp [ids.idsL, h], h'⟩)
          refine ⟨by simp [l], fun i y u hy hv => ?_⟩
          cases i with
          | zero => simp at hy; subst hy; exact toD_rel hr hS h1 (hv v rfl) (fun b ⟨k, h, h'⟩ => hk b ⟨k, by simp [ids.idsL, h], h'⟩)
          | succ i => exact g i y u (by simpa using hy) (fun v hv' => hv v (by simpa using hv'))
  have aggCase : ∀ (vs : List AV) (ds : List D) (u : Value), toDs (BE E) vs = some ds → VRel E (.agg vs) u → (∀ b, blkOf E (ids.idsL vs) b → S' b) → DRel E.w S' (.agg ds) u := fun vs ds u h1 hv hk => by
    cases hv with
    | agg _ us hl hd ho =>
      obtain ⟨l, g⟩ := sub vs ds h1 hk
      have hh : ∀ (i : Nat) (d : D) (u : Value), ds[i]? = some d → us[i]? = some u → DRel E.w S' d u := fun i d u hi hu => g i d u hi (fun v hv => hd i v u hv hu)
      refine .agg ds us (by omega) hh (fun d hd' => ?_)
      obtain ⟨i, hi⟩ := List.getElem?_of_mem hd'
      have hlt := (List.getElem?_eq_some_iff.1 hi).1
      have hu : us[i]? = some us[i] := Array.getElem?_eq_getElem (by omega)
      exact (hh i d _ hi hu).one' (ho i _ hu)
  cases v with
  | agg vs =>
    simp only [argD] at h
    cases h1 : toDs (BE E) vs with
    | none => rw [h1] at h; cases h
    | some ds =>
      rw [h1] at h; injection h with h; subst h
      exact aggCase vs ds u h1 hv (fun b h => hk b (by simpa [ids] using h))
  | fn f as bs =>
    have h : ((toDs (BE E) as).bind fun a => (toDs (BE E) bs).map fun b => D.fn f a b) = some x := h
    cases h1 : toDs (BE E) as with
    | none => rw [h1] at h; cases h
    | some ds =>
      rw [h1] at h
      simp only [Option.bind_some] at h
      cases h2 : toDs (BE E) bs with
      | none => rw [h2] at h; cases h
      | some es =>
        rw [h2] at h
        injection h with h
        subst h
        cases hv with
        | fn _ _ _ us vs hl hl' hd hd' =>
          obtain ⟨l1, g1⟩ := sub as ds h1 (fun b ⟨k, h, h'⟩ => hk b ⟨k, by simp [ids, h], h'⟩)
          obtain ⟨l2, g2⟩ := sub bs es h2 (fun b ⟨k, h, h'⟩ => hk b ⟨k, by simp [ids, h], h'⟩)
          exact .fn f ds es us vs (by omega) (by omega) (fun i d u hi hu => g1 i d u hi (fun v hv => hd i v u hv hu)) (fun i d u hi hu => g2 i d u hi (fun v hv => hd' i v u hv hu))
  | iface t v =>
    cases hv with
    | iface _ _ u hd =>
      have ifc : (toD (BE E) v).map (fun y => D.iface t y) = some x → DRel E.w S' x (.iface t u) := fun h => by
        cases h1 : toD (BE E) v with
        | none => rw [h1] at h; cases h
        | some y => rw [h1] at h; injection h with h; subst h; exact .iface t _ u (toD_rel hr hS h1 hd (fun b h => hk b (by simpa [ids] using h)))
      cases v with
      | agg vs =>
        have h : (toDs (BE E) vs).map (fun ds => D.iface t (.agg ds)) = some x := h
        cases h1 : toDs (BE E) vs with
        | none => rw [h1] at h; cases h
        | some ds =>
          rw [h1] at h; injection h with h; subst h
          exact .iface t _ u (aggCase vs ds u h1 hd (fun b h => hk b (by simpa [ids] using h)))
      | _ => exact ifc h
  | any => exact toD_rel (v := .any) hr hS h hv hk
  | undef => exact toD_rel (v := .undef) hr hS h hv hk
  | anyb => exact toD_rel (v := .anyb) hr hS h hv hk
  | d y => exact toD_rel (v := .d y) hr hS h hv hk
  | zc => exact toD_rel (v := .zc) hr hS h hv hk
  | own a b => exact toD_rel (v := .own a b) hr hS h hv hk
  | ptr a b c d => exact toD_rel (v := .ptr a b c d) hr hS h hv hk
  | tup vs => exact toD_rel (v := .tup vs) hr hS h hv hk
  | mapv a => exact toD_rel (v := .mapv a) hr hS h hv hk
  | iter a => exact toD_rel (v := .iter a) hr hS h hv hk
  | yld a => exact toD_rel (v := .yld a) hr hS h hv hk
theorem elemsD_rel {N : Nat} {E : Env} (hr : HR N E) (S' : Nat → Prop) (hS : ∀ b, E.S b → S' b) : ∀ (vs : List AV) (us : List Value) (xs : List D) (ks : List Nat), vs.length = us.length →
    (∀ (i : Nat) (v : AV) (u : Value), vs[i]? = some v → us[i]? = some u → VRel E v u) → elemsD (BE E) vs = some (xs, ks) → (∀ id b, id ∈ ks → E.H id ≠ none → E.m id = some b → S' b) →
    DsRel E.w S' xs us := by
  intro vs
  induction vs with
  | nil =>
    intro us xs ks hl _ hE _
    cases us with
    | nil => simp [elemsD] at hE; obtain ⟨rfl, rfl⟩ := hE; exact ⟨rfl, fun i x u h => by simp at h⟩
    | cons u r => simp at hl
  | cons v r ih =>
    intro us xs ks hl hv hE hk
    cases us with
    | nil => simp at hl
    | cons u us =>
      simp only [elemsD] at hE
      cases h1 : elemD (BE E) v with
      | none => rw [h1] at hE; cases hE
      | some p =>
        obtain ⟨x, up⟩ := p
        rw [h1] at hE
        simp only [Option.bind_some] at hE
        cases h2 : elemsD (BE E) r with
        | none => rw [h2] at hE; cases hE
        | some q =>
          obtain ⟨xs', ks'⟩ := q
          rw [h2] at hE
          simp only [Option.map_some, Option.some.injEq, Prod.mk.injEq] at hE
          obtain ⟨rfl, rfl⟩ := hE
          have hvu := hv 0 v u rfl rfl
          have hx : DRel E.w S' x u := by
            cases v <;> simp only [elemD] at h1 <;> try (cases h1; done)
            · injection h1 with h1; injection h1 with h1 h3; subst h1
              exact hvu.inv_d.mono hS (fun _ _ => rfl)
            · injection h1 with h1; injection h1 with h1 h3; subst h1
              cases hvu with
              | zc ad => exact .list0 _ _
            · rename_i id ver
              split at h1
              · rename_i e ys hB
                injection h1 with h1; injection h1 with h1 h3; subst h1; subst h3
                exact own_data hr hB hvu S' hS (fun b hb => hk id b (by simp) (by rw [BE_some hB]; simp) hb)
              · cases h1
            · rename_i vs
              cases h3 : toDs (BE E) vs with
              | none => rw [h3] at h1; cases h1
              | some ds =>
                rw [h3] at h1
                injection h1 with h1; injection h1 with h1 h4; subst h1; subst h4
                exact argD_rel (v := .agg vs) hr hS (by simp only [argD, h3]; rfl) hvu (fun b ⟨k, g1, g2, g3⟩ => hk k b (List.mem_append.2 (.inl (by simpa [ids] using g1))) g2 g3)
          have hrest := ih us xs' ks' (by simpa using hl) (fun i v u hi hu => hv (i + 1) v u (by simpa using hi) (by simpa using hu)) h2 (fun id b hid => hk id b (by simp [hid]))
          refine ⟨by simp [hrest.len], fun i y w hy hw => ?_⟩
          cases i with
          | zero => simp at hy hw; subst hy; subst hw; exact hx
          | succ i => exact hrest.rel i y w (by simpa using hy) (by simpa using hw)
theorem inUps_kills (ks : List Nat) (i : Nat) : inUps (kills ks) i = if i ∈ ks then some none else none := by
  induction ks with
  | nil => rfl
  | cons k r ih =>
    simp only [kills, List.map_cons, inUps] at ih ⊢
    by_cases hk : k = i
    · simp [hk]
    · rw [if_neg hk, ih]
      simp [show ¬ i = k from fun e => hk e.symm]
section
variable {C : Ctx} {ro : Option Nat} {n : Nat} {D0 : List Deferred} {E0 : Env} {U : Nat → Prop} {F : Nat → AV} {E : Env} {a : Act} {o : Oper} {new : Nat} {v : AV}
theorem newrow_sound (hR : Rel C n D0 E0 U F E a) (hd : ∀ t, o.dst = some t → t < n) (hnew : ¬ U new) {e : TypeId} {xs : List D} {us : List Value} {ks : List Nat} (cells : Array Value) (cap : Nat) (w1 : World) (hw1 : w1.heap = E.w.heap) (hb1 : Below C.N E.w w1)
    (hrun : (execOp a.eval o).run C.prog E.w = .ok (.value (.slice (some ⟨E.w.heap.size, 0, none⟩) xs.length cap)) { w1 with heap := w1.heap.push (.cells cells e) })
    (hsz : ∀ x, x ∈ xs → x.cells.length = tSize C.prog e) (hcap : xs.length ≤ cap) (hcm : cap ≤ maxLen) (hcs : cells.size = cap * tSize C.prog e)
    (hds : DsRel E.w (fun b => E.S b ∨ ∃ k, k ∈ ks ∧ E.H k ≠ none ∧ E.m k = some b) xs us) (hcells : ∀ (i : Nat) (u : Value), (us.flatMap fun u => u.cells.toList)[i]? = some u → cells[i]? = some u) :
    Sound C ro n D0 E0 U F E a o new (.own new 0) ((new, some ⟨0, e, .lst xs⟩) :: kills ks) := by
  have htop : E.top new = none := by
    cases h : E.top new with
    | none => rfl
    | some t => exact absurd (hR.used new t h) hnew
  have hw : ∀ b, b < E.w.heap.size → ({ w1 with heap := w1.heap.push (.cells cells e) } : World).heap[b]? = E.w.heap[b]? := fun b hb => by
    have := push_lt w1 (.cells cells e) b (by rw [hw1]; exact hb)
    rw [this, hw1]
  have hself : ({ w1 with heap := w1.heap.push (.cells cells e) } : World).heap[E.w.heap.size]? = some (.cells cells e) := by
    show (w1.heap.push _)[E.w.heap.size]? = _
    rw [hw1]; simp
  have hbel : Below C.N E.w { w1 with heap := w1.heap.push (.cells cells e) } := hb1.trans (below_alloc _ _ _ (by rw [hw1]; exact hR.hN))
  refine sound_new hR hd hnew ⟨0, e, .lst xs⟩ ks (some E.w.heap.size) _ _ _ hrun hbel hw (by show _ ≤ (w1.heap.push _).size; rw [hw1]; simp) (fun h => by cases h) (fun g hg => ?_) ?_ ?_
  · injection hg with hg
    subst hg
    refine ⟨Nat.le_refl _, _, hself, cells, (0, 0), rfl, .inl rfl, fun x hx => by show _ = tSize E.P _; rw [hR.prog]; exact hsz x hx, fun i d hi => ?_⟩
    obtain ⟨f1, f2, f3⟩ := hds.flat
    have hlt := (List.getElem?_eq_some_iff.1 hi).1
    obtain ⟨u, hu⟩ : ∃ u, (us.flatMap fun u => u.cells.toList)[i]? = some u := ⟨_, List.getElem?_eq_getElem (by omega)⟩
    refine ⟨f3 d (List.mem_of_getElem? hi), u, hcells i u hu, (f2 i d u hi hu).mono (fun b h => h) (fun b h => hw b ?_)⟩
    rcases h with h | ⟨k, _, hk, hm⟩
    · exact (hR.hr.st b h).1
    · exact hR.hr.blk_lt hk hm
  · funext i
    simp only [upH, inUps, Env.news]
    by_cases hi : new = i
    · simp [hi]
    · rw [if_neg hi, if_neg (fun e => hi e.symm), inUps_kills]
      by_cases hk : i ∈ ks <;> simp [hk]
  · refine .own new 0 0 _ (by simp [Env.news]) (Nat.le_refl _) rfl (fun e' xs' h => ?_) (fun e' cs' h => by simp [Env.news] at h)
    simp only [Env.news, if_true, Option.some.injEq, ABlk.mk.injEq, true_and] at h
    obtain ⟨rfl, h⟩ := h
    injection h with h
    subst h
    refine ⟨fun h => by simp [Env.news] at h, fun b hb => ?_⟩
    simp only [Env.news, if_true, Option.some.injEq] at hb
    subst hb
    exact ⟨cap, cells, e, (0, 0), rfl, hcap, hcm, hself, Nat.le_of_eq (by rw [hcs, ← hR.prog]; rfl)⟩
def partsOK (parts : Array (Nat × Operand)) (len : Nat) : Bool := parts.toList.map (·.1) == List.range len && decide (parts.size = len) && decide (len ≤ 1000)
theorem buildSlice_sound (hR : Rel C n D0 E0 U F E a) (hd : ∀ t, o.dst = some t → t < n) (hnew : ¬ U new) {t : TypeId} {len : Nat} {parts : Array (Nat × Operand)} (ho : o.op = .buildSlice t len parts) (hty : sliceElemOK C.prog t = true) (hpo : partsOK parts len = true)
    {ρ : Operand → AV} (hρ : ∀ x, VRel E (ρ x) (a.eval x)) {xs : List D} {ks : List Nat} (hE : elemsD (BE E) (parts.toList.map fun p => ρ p.2) = some (xs, ks)) (hsz : ∀ x ∈ xs, x.cells.length = tSize C.prog (tElem C.prog t)) :
    Sound C ro n D0 E0 U F E a o new (.own new 0) ((new, some ⟨0, tElem C.prog t, .lst xs⟩) :: kills ks) := by
  have hse := sliceElem hty
  obtain ⟨i0, z, hi0, hz, hzs, his, hby, hsm⟩ := hse.zero
  simp only [partsOK, Bool.and_eq_true, beq_iff_eq, decide_eq_true_eq] at hpo
  obtain ⟨⟨hp1, hp2⟩, hp3⟩ := hpo
  have hds := elemsD_rel hR.hr (fun b => E.S b ∨ ∃ k, k ∈ ks ∧ E.H k ≠ none ∧ E.m k = some b) (fun b h => .inl h) (parts.toList.map fun p => ρ p.2) (parts.toList.map fun p => a.eval p.2) xs ks (by simp) (fun i v u hi hu => by
    simp only [List.getElem?_map] at hi hu
    cases hp : parts.toList[i]? with
    | none => rw [hp] at hi; cases hi
    | some p =>
      rw [hp] at hi hu
      injection hi with hi; injection hu with hu
      rw [← hi, ← hu]
      exact hρ p.2) hE (fun id b hid hH hm => .inr ⟨id, hid, hH, hm⟩)
  have hxl : xs.length = len := by have := hds.len; simp at this; omega
  have hcellsz : ∀ (j : Nat) (p : Nat × Value), (parts.toList.map fun p => (p.1, a.eval p.2))[j]? = some p → p.1 = 0 + j ∧ p.2.cells.size = tSize C.prog (tElem C.prog t) := fun j p hj => by
    simp only [List.getElem?_map] at hj
    cases hp : parts.toList[j]? with
    | none => rw [hp] at hj; cases hj
    | some q =>
      rw [hp] at hj
      injection hj with hj
      subst hj
      have hlt := (List.getElem?_eq_some_iff.1 hp).1
      constructor
      · have : (parts.toList.map (·.1))[j]? = some q.1 := by simp [hp]
        rw [hp1] at this
        rw [List.getElem?_range (by simp at hlt; omega)] at this
        injection this with this
        show q.1 = 0 + j
        omega
      · obtain ⟨x, hx⟩ : ∃ x, xs[j]? = some x := ⟨_, List.getElem?_eq_getElem (by simp at hlt; omega)⟩
        have hr := hds.rel j x (a.eval q.2) hx (by simp [hp])
        have := hr.cells.1
        rw [← this]
        exact hsz x (List.mem_of_getElem? hx)
  have hlen24 : ¬ len * tSize C.prog (tElem C.prog t) > 2 ^ 24 := by
    have : len * tSize C.prog (tElem C.prog t) ≤ 1000 * 16 := Nat.mul_le_mul hp3 hsm
    omega
  obtain ⟨r, hr1, hr2⟩ := fill_seq (tSize C.prog (tElem C.prog t)) (parts.toList.map fun p => (p.1, a.eval p.2)) 0 ((Array.range (len * tSize C.prog (tElem C.prog t))).map fun i => (if len * tSize C.prog (tElem C.prog t) = 0 then #[] else z.cells)[i % (if len * tSize C.prog (tElem C.prog t) = 0 then #[] else z.cells).size]!) (by simp [hp2]) hcellsz
  have hrs : r.toList = (parts.toList.map fun p => a.eval p.2).flatMap fun u => u.cells.toList := by
    rw [hr2]; simp [List.flatMap_map]
  refine newrow_sound hR hd hnew (us := parts.toList.map fun p => a.eval p.2) r len E.w rfl (Below.refl _ _) ?_ hsz (by omega) (by simp [maxLen]; omega) ?_ hds (fun i u hu => ?_)
  · rw [hxl]
    have hz1 : (zeroValue (tElem C.prog t)).run C.prog E.w = .ok z E.w := by simp [zeroValue, typeInfo, hi0, hz]
    have e1 : (parts.map fun x : Nat × Operand => (x.1, a.eval x.2)).toList = parts.toList.map fun p => (p.1, a.eval p.2) := by simp
    simp only [execOp, ho, Instr.buildSlice, Sem.run_bind, run_underlying hse.und, Result.andThen_ok, run_sizeOf' hse.eund, if_neg hlen24, Sem.run_pure]
    by_cases h0 : len * tSize C.prog (tElem C.prog t) = 0
    · simp only [if_pos h0] at hr1
      rw [if_pos h0]
      simp only [Sem.run_bind, Sem.run_pure, Result.andThen_ok, e1, hr1, newRow, run_newObj]
    · simp only [if_neg h0] at hr1
      rw [if_neg h0]
      simp only [Sem.run_bind, Sem.run_pure, Result.andThen_ok, hz1, e1, hr1, newRow, run_newObj]
  · have h1 := (hds.flat).1
    have h2 : (flat xs).length = len * tSize C.prog (tElem C.prog t) := by rw [flat_length xs _ hsz, hxl]
    have h3 : r.size = r.toList.length := by simp
    rw [h3, hrs, ← h1, h2]
  · rw [← hrs] at hu
    simpa using hu
end
end Go.Vc

namespace Go.Vc
open Go Go.RowKit
def goodZero (v : Value) : Bool := v.oneCell' && match ofConst v with | .d _ => true | .zc => true | _ => false
def makeElemOK (P : Program) (t : TypeId) : Bool := sliceElemOK P t && match P.info? (tElem P t) with
  | some i => (match i.zero with
    | some (.agg cs) => tAgg P (tElem P t) && cs.toList.all goodZero
    | some v => !tAgg P (tElem P t) && goodZero v
    | none => false)
  | none => false
def sameOpd : Operand → Operand → Bool
  | .tmp i, .tmp j => i == j
  | .const (.int k i), .const (.int k' j) => k == k' && i == j
  | _, _ => false
theorem goodZero_rel {w : World} {S : Nat → Prop} {v : Value} (h : goodZero v = true) : DRel w S (toD0 (ofConst v)) v ∧ (toD0 (ofConst v)).one = true := by
  simp only [goodZero, Bool.and_eq_true] at h
  obtain ⟨h1, h2⟩ := h
  have hd : DRel w S (toD0 (ofConst v)) v := by
    split at h2
    · rename_i x hx
      rw [hx]
      have := VRel.ofConst { P := default, top := fun _ => none, m := fun _ => none, H := fun _ => none, w := w, S := S } v
      rw [hx] at this
      exact this.inv_d
    · rename_i hx
      rw [hx]
      have := VRel.ofConst { P := default, top := fun _ => none, m := fun _ => none, H := fun _ => none, w := w, S := S } v
      rw [hx] at this
      cases this with
      | zc a => exact .list0 _ _
    · cases h2
  exact ⟨hd, hd.one' h1⟩
theorem zeroD_rel {P : Program} {t : TypeId} (h : makeElemOK P t = true) {w : World} {S : Nat → Prop} : ∃ z, (zeroValue (tElem P t)).run P w = .ok z w ∧ z.cells.size = tSize P (tElem P t) ∧ DRel w S (tZeroD P (tElem P t)) z := by
  simp only [makeElemOK, Bool.and_eq_true] at h
  obtain ⟨h0, h⟩ := h
  obtain ⟨i0, z, hi0, hz, hzs, his, _⟩ := (sliceElem h0).zero
  rw [hi0] at h
  simp only at h
  rw [hz] at h
  refine ⟨z, by simp [zeroValue, typeInfo, hi0, hz], hzs, ?_⟩
  have htz : tZero P (tElem P t) = z.cells.toList.map ofConst := by simp [tZero, hi0, hz]
  unfold tZeroD
  rw [htz]
  split at h
  · rename_i cs hcs
    injection hcs with hcs
    subst hcs
    simp only [Bool.and_eq_true] at h
    rw [h.1]
    refine .agg _ cs (by simp [Value.cells]) (fun i d u hd hu => ?_) (fun d hd => ?_)
    · simp only [Value.cells, List.map_map, List.getElem?_map] at hd
      have hu' : cs.toList[i]? = some u := by simpa using hu
      rw [hu'] at hd
      injection hd with hd
      subst hd
      exact (goodZero_rel (List.all_eq_true.1 h.2 u (List.mem_of_getElem? hu'))).1
    · simp only [Value.cells, List.map_map, List.mem_map] at hd
      obtain ⟨u, hu, rfl⟩ := hd
      exact (goodZero_rel (w := w) (S := S) (List.all_eq_true.1 h.2 u hu)).2
  · rename_i v hv hcs
    injection hcs with hcs
    subst hcs
    simp only [Bool.and_eq_true, Bool.not_eq_true'] at h
    rw [h.1]
    have h1 : z.oneCell' = true := by have := h.2; simp only [goodZero, Bool.and_eq_true] at this; exact this.1
    have hc : z.cells = #[z] := by cases z <;> first | rfl | cases h1
    rw [hc]
    exact (goodZero_rel h.2).1
  · rename_i hcs; cases hcs
section
variable {C : Ctx} {ro : Option Nat} {n : Nat} {D0 : List Deferred} {E0 : Env} {U : Nat → Prop} {F : Nat → AV} {E : Env} {a : Act} {o : Oper} {new : Nat} {v : AV}
theorem flatMap_replicate_get {α : Type} (l : List α) (size : Nat) (hl : l.length = size) (_hs : size ≠ 0) : ∀ (n i : Nat) (u : α), ((List.replicate n l).flatMap id)[i]? = some u → i < n * size ∧ l[i % size]? = some u := by
  intro n
  induction n with
  | zero => intro i u h; simp at h
  | succ k ih =>
    intro i u h
    simp only [List.replicate_succ, List.flatMap_cons, id] at h
    by_cases hi : i < l.length
    · rw [List.getElem?_append_left hi] at h
      refine ⟨by rw [Nat.succ_mul]; omega, ?_⟩
      rw [Nat.mod_eq_of_lt (by omega)]
      exact h
    · rw [List.getElem?_append_right (by omega)] at h
      obtain ⟨h1, h2⟩ := ih _ u h
      refine ⟨by rw [Nat.succ_mul]; omega, ?_⟩
      have : i % size = (i - l.length) % size := by
        rw [hl]
        rw [Nat.mod_eq_sub_mod (by omega)]
      rw [this]; exact h2
theorem make_sound (hR : Rel C n D0 E0 U F E a) (hd : ∀ t, o.dst = some t → t < n) (hnew : ¬ U new) {t : TypeId} {x y : Operand} (ho : o.op = .makeSlice t x y) (hty : makeElemOK C.prog t = true) (hxy : sameOpd x y = true)
    {X : AV} (hX : VRel E X (a.eval x)) {ups : Heap} (hE : MAKER (tElem C.prog t) (tZeroD C.prog (tElem C.prog t)) X new v ups) : Sound C ro n D0 E0 U F E a o new v ups := by
  have hse := sliceElem (by simp only [makeElemOK, Bool.and_eq_true] at hty; exact hty.1)
  obtain ⟨i0, z', hi0, hz0, hzs', his, hby, hsm⟩ := hse.zero
  have hev : a.eval y = a.eval x := by
    unfold sameOpd at hxy
    split at hxy
    · simp at hxy; rw [hxy]
    · simp at hxy; rw [hxy.1, hxy.2]
    · cases hxy
  unfold MAKER at hE
  split at hE
  · rename_i m
    obtain ⟨h0, h1, rfl, rfl⟩ := hE
    have hx := VRel.inv_num hX
    obtain ⟨z, hz1, hz2, hz3⟩ := zeroD_rel hty (w := E.w) (S := E.S)
    have hw : IntKind.i64.wrap m = m := by
      simp only [IntKind.wrap, IntKind.bits, IntKind.signed]
      simp
      split <;> omega
    have hk : ∃ k : Nat, m = k := ⟨m.toNat, by omega⟩
    obtain ⟨k, rfl⟩ := hk
    simp only [Int.toNat_natCast]
    have hrz : ∀ x : D, x ∈ List.replicate k (tZeroD C.prog (tElem C.prog t)) → x.cells.length = tSize C.prog (tElem C.prog t) := fun x hx => by
      rw [(List.mem_replicate.1 hx).2, hz3.cells.1]; exact hz2
    have hbb : ¬ ((i0.bytes : Int) * (k : Int) > 2 ^ 48) := by
      have : (i0.bytes : Int) * (k : Int) ≤ 1000 * 1000000 := Int.mul_le_mul (by omega) (by omega) (by omega) (by omega)
      omega
    refine newrow_sound hR hd hnew (xs := List.replicate k (tZeroD C.prog (tElem C.prog t))) (us := List.replicate k z) (ks := [])
      ((Array.range (k * tSize C.prog (tElem C.prog t))).map fun i => (if k * tSize C.prog (tElem C.prog t) = 0 then #[] else z.cells)[i % (if k * tSize C.prog (tElem C.prog t) = 0 then #[] else z.cells).size]!) k E.w rfl (Below.refl _ _) ?_ hrz (by simp) (by simp [maxLen]; omega) (by simp) ⟨by simp, fun i x u hx hu => ?_⟩ (fun i u hu => ?_)
    · simp only [execOp, ho, Instr.makeSlice, Sem.run_bind, run_underlying hse.und, Result.andThen_ok, hev, hx, asInt, asIntOf, Sem.run_pure, typeInfo, run_program, hi0, hw]
      have hcond : ((decide ((k : Int) < 0) || decide ((i0.bytes : Int) * (k : Int) > 2 ^ 48)) || decide ((k : Int) < 0) || decide ((k : Int) > (k : Int))) = false := by
        simp only [Bool.or_eq_false_iff, decide_eq_false_iff_not]
        exact ⟨⟨⟨by omega, hbb⟩, by omega⟩, by omega⟩
      rw [hcond]
      simp only [Bool.false_eq_true, if_false, Sem.run_bind, run_askRoom, Result.andThen_ok, run_sizeOf' hse.eund, Int.toNat_natCast, List.length_replicate]
      by_cases h00 : k * tSize C.prog (tElem C.prog t) = 0
      · simp only [if_pos h00, Sem.run_bind, Sem.run_pure, Result.andThen_ok, newRow, run_newObj]
      · simp only [if_neg h00, Sem.run_bind, Sem.run_pure, Result.andThen_ok, hz1, newRow, run_newObj]
    · have h1 := List.mem_of_getElem? hx
      have h2 := List.mem_of_getElem? hu
      rw [(List.mem_replicate.1 h1).2, (List.mem_replicate.1 h2).2]
      exact hz3.mono (fun b h => .inl h) (fun _ _ => rfl)
    · have hfm : (List.replicate k z).flatMap (fun u => u.cells.toList) = (List.replicate k z.cells.toList).flatMap id := by
        simp [List.flatMap_replicate]
      rw [hfm] at hu
      obtain ⟨h3, h4⟩ := flatMap_replicate_get z.cells.toList _ (by simpa using hz2) hse.size k i u hu
      have hne : ¬ k * tSize C.prog (tElem C.prog t) = 0 := by omega
      simp only [if_neg hne]
      rw [Array.getElem?_map, Array.getElem?_range]
      rw [if_pos h3]
      simp only [Option.map_some, hz2]
      have h5 : z.cells[i % tSize C.prog (tElem C.prog t)]? = some u := by simpa using h4
      rw [getElem!_def, h5]
  · exact hE.elim
theorem make_box (hR : Rel C n D0 E0 U F E a) (hd : ∀ t, o.dst = some t → t < n) (hnew : ¬ U new) {t : TypeId} {x y : Operand} (ho : o.op = .makeSlice t x y) (hty : makeElemOK C.prog t = true) (hxy : sameOpd x y = true)
    {X : AV} (hX : VRel E X (a.eval x)) {ups : Heap} (hE : MAKEBR (tZero C.prog (tElem C.prog t)) (tElem C.prog t) X new v ups) : Sound C ro n D0 E0 U F E a o new v ups := by
  have hse := sliceElem (by simp only [makeElemOK, Bool.and_eq_true] at hty; exact hty.1)
  obtain ⟨i0, z, hi0, hz0, hzs, his, hby, hsm⟩ := hse.zero
  have hev : a.eval y = a.eval x := by
    unfold sameOpd at hxy
    split at hxy
    · simp at hxy; rw [hxy]
    · simp at hxy; rw [hxy.1, hxy.2]
    · cases hxy
  obtain ⟨hzc, hE⟩ := hE
  have htz : tZero C.prog (tElem C.prog t) = z.cells.toList.map ofConst := by simp [tZero, hi0, hz0]
  rw [htz] at hzc
  have hzz : z.cells.toList = [.slice none 0 0] := by
    cases hl : z.cells.toList with
    | nil => rw [hl] at hzc; cases hzc
    | cons u r =>
      rw [hl] at hzc
      cases r with
      | cons _ _ => simp at hzc
      | nil =>
        simp only [List.map_cons, List.map_nil, List.cons.injEq, and_true] at hzc
        cases u with
        | slice ad l c =>
          rcases ofConst_slice ad l c with ⟨_, rfl, rfl, rfl⟩ | h
          · rfl
          · rw [h] at hzc; cases hzc
        | _ => simp [ofConst] at hzc
  have hzc1 : z.cells = #[.slice none 0 0] := by
    have := congrArg List.toArray hzz
    simpa using this
  have hs1 : tSize C.prog (tElem C.prog t) = 1 := by rw [← hzs, hzc1]; rfl
  have htop : E.top new = none := by
    cases h : E.top new with
    | none => rfl
    | some t => exact absurd (hR.used new t h) hnew
  split at hE
  · rename_i m
    obtain ⟨h0, h1, rfl, rfl⟩ := hE
    have hx := VRel.inv_num hX
    have hw : IntKind.i64.wrap m = m := by
      simp only [IntKind.wrap, IntKind.bits, IntKind.signed]
      simp
      split <;> omega
    obtain ⟨k, rfl⟩ : ∃ k : Nat, m = k := ⟨m.toNat, by omega⟩
    simp only [Int.toNat_natCast]
    have hbb : ¬ ((i0.bytes : Int) * (k : Int) > 2 ^ 48) := by
      have : (i0.bytes : Int) * (k : Int) ≤ 1000 * 1000000 := Int.mul_le_mul (by omega) (by omega) (by omega) (by omega)
      omega
    have hz1 : (zeroValue (tElem C.prog t)).run C.prog E.w = .ok z E.w := by simp [zeroValue, typeInfo, hi0, hz0]
    have hself : ∀ cells : Array Value, ({ E.w with heap := E.w.heap.push (.cells cells (tElem C.prog t)) } : World).heap[E.w.heap.size]? = some (.cells cells (tElem C.prog t)) := fun cells => by
      show (E.w.heap.push _)[E.w.heap.size]? = _
      simp
    generalize hA : ((Array.range (k * tSize C.prog (tElem C.prog t))).map fun i => (if k * tSize C.prog (tElem C.prog t) = 0 then #[] else z.cells)[i % (if k * tSize C.prog (tElem C.prog t) = 0 then #[] else z.cells).size]!) = A
    have hAsz : A.size = k := by rw [← hA]; simp [hs1]
    have hAi : ∀ i, i < k → A[i]? = some (.slice none 0 0) := fun i hi => by
      have hne : ¬ k * tSize C.prog (tElem C.prog t) = 0 := by rw [hs1]; omega
      rw [← hA]
      simp only [if_neg hne]
      rw [Array.getElem?_map, Array.getElem?_range, if_pos (by rw [hs1]; omega)]
      simp only [Option.map_some, hzc1]
      have : i % (#[Value.slice none 0 0] : Array Value).size = 0 := by show i % 1 = 0; omega
      rw [this]
      rfl
    refine sound_new hR hd hnew ⟨0, tElem C.prog t, .box (List.replicate k .zc)⟩ [] (some E.w.heap.size) { E.w with heap := E.w.heap.push (.cells A (tElem C.prog t)) } (.slice (some ⟨E.w.heap.size, 0, none⟩) k k) _ ?_ (below_alloc _ _ _ hR.hN) (push_lt E.w _) (by simp) (fun h => by cases h) (fun g hg => ?_) ?_ ?_
    · simp only [execOp, ho, Instr.makeSlice, Sem.run_bind, run_underlying hse.und, Result.andThen_ok, hev, hx, asInt, asIntOf, Sem.run_pure, typeInfo, run_program, hi0, hw]
      have hcond : ((decide ((k : Int) < 0) || decide ((i0.bytes : Int) * (k : Int) > 2 ^ 48)) || decide ((k : Int) < 0) || decide ((k : Int) > (k : Int))) = false := by
        simp only [Bool.or_eq_false_iff, decide_eq_false_iff_not]
        exact ⟨⟨⟨by omega, hbb⟩, by omega⟩, by omega⟩
      rw [hcond]
      simp only [Bool.false_eq_true, if_false, Sem.run_bind, run_askRoom, Result.andThen_ok, run_sizeOf' hse.eund, Int.toNat_natCast]
      by_cases h00 : k * tSize C.prog (tElem C.prog t) = 0
      · simp only [if_pos h00] at hA
        simp only [if_pos h00, Sem.run_bind, Sem.run_pure, Result.andThen_ok, newRow, run_newObj, hA]
      · simp only [if_neg h00] at hA
        simp only [if_neg h00, Sem.run_bind, Sem.run_pure, Result.andThen_ok, hz1, newRow, run_newObj, hA]
    · injection hg with hg
      subst hg
      refine ⟨Nat.le_refl _, .cells A (tElem C.prog t), by simp, A, rfl, fun i v hi => ?_⟩
      have hlt := (List.getElem?_eq_some_iff.1 hi).1
      simp only [List.length_replicate] at hlt
      rw [List.getElem?_replicate, if_pos hlt] at hi
      injection hi with hi
      subst hi
      exact ⟨_, hAi i hlt, .zc none, rfl⟩
    · rw [upH_one]; rfl
    · refine .own new 0 0 _ (by simp [Env.news]) (Nat.le_refl _) rfl (fun e' xs' h => by simp [Env.news] at h) (fun e' cs' h => ?_)
      simp only [Env.news, if_true, Option.some.injEq, ABlk.mk.injEq, Body.box.injEq, true_and] at h
      obtain ⟨rfl, rfl⟩ := h
      refine ⟨E.w.heap.size, k, A, tElem C.prog t, (0, 0), by simp [Env.news], by rw [List.length_replicate], by rw [List.length_replicate]; exact Nat.le_refl _, by simp [maxLen]; omega, hself A, ?_⟩
      rw [hAsz]
      show k = k * tSize E.P _
      rw [hR.prog, hs1]; omega
  · exact hE.elim
theorem run_firstCells (P : Program) (w : World) (b off : Nat) (len cap size n : Nat) (us : List Value) (hl : us.length = n * size) (hc : ∀ i u, us[i]? = some u → w.cell? ⟨b, off + i, none⟩ = some u) :
    (Builtin.firstCells size n (.slice (some ⟨b, off, none⟩) len cap)).run P w = .ok us.toArray w := by
  have := run_loadCells_list (P := P) w ⟨b, off, none⟩ us (fun j v hj => by rw [add_mk]; exact hc j v hj)
  simp only [Builtin.firstCells]
  rw [← hl]
  exact this
theorem src_cells {N : Nat} (hr : HR N E) {X : AV} {ux : Value} (hX : VRel E X ux) {ys : List D} (hE : toD (BE E) X = some (.list ys)) {size : Nat} (hsz : ∀ y, y ∈ ys → y.cells.length = size) :
    ∃ (ad : Option Addr) (c : Nat) (us : List Value), ux = .slice ad ys.length c ∧ (∀ w', w'.heap = E.w.heap → (Builtin.firstCells size ys.length ux).run E.P w' = .ok us.toArray w') ∧ us.length = ys.length * size ∧
      (∀ (i : Nat) (d : D) (u : Value), (flat ys)[i]? = some d → us[i]? = some u → DRel E.w E.S d u ∧ d.one = true) := by
  have empty : ∀ ad c, ys = [] → ∃ (ad' : Option Addr) (c' : Nat) (us : List Value), Value.slice ad 0 c = .slice ad' ys.length c' ∧ (∀ w', w'.heap = E.w.heap → (Builtin.firstCells size ys.length (.slice ad 0 c)).run E.P w' = .ok us.toArray w') ∧ us.length = ys.length * size ∧
      (∀ (i : Nat) (d : D) (u : Value), (flat ys)[i]? = some d → us[i]? = some u → DRel E.w E.S d u ∧ d.one = true) := fun ad c h => by
    subst h
    refine ⟨ad, c, [], rfl, fun w' _ => ?_, by simp, fun i d u h => by simp [flat] at h⟩
    cases ad with
    | none => simp [Builtin.firstCells]
    | some ad => simp [Builtin.firstCells, loadCells, loadCellsFrom]
  cases X <;> simp only [toD] at hE <;> try (cases hE; done)
  · rename_i x
    injection hE with hE
    subst hE
    cases hX.inv_d with
    | list0 a c => exact empty a c rfl
    | list _ sz b o cap us hb hc hm hss hcell hd h1 =>
      have hlen := flat_length ys size hsz
      refine ⟨_, cap, (List.range (flat ys).length).map us, rfl, fun w' hw' => run_firstCells E.P w' b o _ _ size _ _ (by simp [hlen]) (fun i u hi => (cell_of_block (by rw [hw'])).trans (?_ : E.w.cell? _ = _)), by simp [hlen], fun i d u hi hu => ?_⟩
      · simp only [List.getElem?_map] at hi
        by_cases hlt : i < (flat ys).length
        · rw [List.getElem?_range hlt] at hi
          simp at hi
          subst hi
          exact hcell i _ (List.getElem?_eq_getElem hlt)
        · rw [List.getElem?_eq_none (by simp; omega)] at hi; cases hi
      · have hlt := (List.getElem?_eq_some_iff.1 hi).1
        simp only [List.getElem?_map, List.getElem?_range hlt] at hu
        simp at hu
        subst hu
        exact ⟨hd i d hi, h1 i d hi⟩
  · injection hE with hE
    injection hE with hE
    cases hX with
    | zc a => exact empty a 0 hE.symm
  · rename_i id ver
    split at hE
    · rename_i e xs hB
      injection hE with hE
      injection hE with hE
      subst hE
      have hH := BE_some hB
      cases hX with
      | own _ _ tt _ htop hle ho h _ =>
        obtain ⟨_, k1, k2⟩ := hr.blk id _ hH
        cases hm : E.m id with
        | none =>
          have := k1 hm
          simp only [Body.lst.injEq] at this
          obtain ⟨ad, rfl⟩ := (h _ _ hH).1 hm
          exact empty ad 0 this
        | some b =>
          obtain ⟨cap, Cc, el, fr, rfl, g1, g2, g3, g4⟩ := (h _ _ hH).2 b hm
          obtain ⟨_, o, k3, C', fr', rfl, _, k4, k5⟩ := k2 b hm
          simp only at k3 k4 k5
          have hlen := flat_length xs size hsz
          have hu : ∀ i d, (flat xs)[i]? = some d → ∃ u, C'[i]? = some u := fun i d hi => let ⟨_, u, hu, _⟩ := k5 i d hi; ⟨u, hu⟩
          refine ⟨_, cap, (List.range (flat xs).length).map fun i => C'.getD i undef, rfl, fun w' hw' => run_firstCells E.P w' b 0 _ _ size _ _ (by simp [hlen]) (fun i u hi => (cell_of_block (by rw [hw'])).trans (?_ : E.w.cell? _ = _)), by simp [hlen], fun i d u hi hu' => ?_⟩
          · simp only [List.getElem?_map] at hi
            by_cases hlt : i < (flat xs).length
            · rw [List.getElem?_range hlt] at hi
              obtain ⟨u', hu'⟩ := hu i _ (List.getElem?_eq_getElem hlt)
              simp [hu'] at hi
              subst hi
              simp [World.cell?, k3, hu']
            · rw [List.getElem?_eq_none (by simp; omega)] at hi; cases hi
          · have hlt := (List.getElem?_eq_some_iff.1 hi).1
            simp only [List.getElem?_map, List.getElem?_range hlt] at hu'
            obtain ⟨h1, u', hu'', h2⟩ := k5 i d hi
            simp [hu''] at hu'
            subst hu'
            exact ⟨h2, h1⟩
    · cases hE
  · exfalso
    have key : ∀ (b : Option (TypeId × Body)), (match b with | some (_, .box cs) => (allD cs).map D.cp | _ => none) = some (D.list ys) → False := fun b hb => by
      split at hb
      · rename_i cs
        cases h : allD cs <;> rw [h] at hb <;> cases hb
      · cases hb
    rename_i id ver row off
    cases row with
    | succ r => cases hE
    | zero =>
      cases off with
      | succ r => cases hE
      | zero => exact key _ hE
end
end Go.Vc

namespace Go.Vc
open Go Go.RowKit
def appTyOK (P : Program) (tys : Array TypeId) : Bool := match tys with
  | ⟨[t, u]⟩ => t == u && sliceElemOK P t
  | _ => false
theorem appTy {P : Program} {tys : Array TypeId} (h : appTyOK P tys = true) : ∃ t, tys = #[t, t] ∧ SliceElem P t (tElem P t) := by
  unfold appTyOK at h
  split at h
  · rename_i t u
    simp only [Bool.and_eq_true, beq_iff_eq] at h
    obtain ⟨rfl, h⟩ := h
    exact ⟨t, rfl, sliceElem h⟩
  · cases h
theorem below_drew (N : Nat) (w : World) : Below N w w.drew := ⟨rfl, rfl, rfl, Nat.le_refl _, fun _ _ => rfl⟩
section
variable {P : Program} {w : World} {t e ty : TypeId}
theorem run_app_room0 (hse : SliceElem P t e) (base ad : Option Addr) (l cap c : Nat) (h : l ≤ cap)
    (hnew : (Builtin.firstCells (tSize P e) 0 (.slice ad 0 c)).run P w = .ok #[] w) :
    (Builtin.append_ #[t, t] ty #[.slice base l cap, .slice ad 0 c]).run P w = .ok (.slice base l cap) w := by
  cases base with
  | none => simp [Builtin.append_, run_underlying hse.und, run_sizeOf' hse.eund, Builtin.lenOf, h, hnew]
  | some a => simp [Builtin.append_, run_underlying hse.und, run_sizeOf' hse.eund, Builtin.lenOf, h, hnew, storeCells]
theorem run_app_room (hse : SliceElem P t e) (g : Nat) (ad : Option Addr) (l cap c m : Nat) (Cc : Array Value) (news : List Value) (fr : Nat × Nat) (hg : w.heap[g]? = some (.cells Cc e fr)) (hF : FrB Cc fr) (_hl : news.length = m * tSize P e)
    (hnew : (Builtin.firstCells (tSize P e) m (.slice ad m c)).run P w = .ok news.toArray w) (h1 : ∀ u, u ∈ news → u.oneCell' = true) (hroom : l + m ≤ cap) (hfit : l * tSize P e + news.length ≤ Cc.size) :
    (Builtin.append_ #[t, t] ty #[.slice (some ⟨g, 0, none⟩) l cap, .slice ad m c]).run P w = .ok (.slice (some ⟨g, 0, none⟩) (l + m) cap) (w.setRow g (splice Cc.toList (l * tSize P e) news).toArray) := by
  have hst := run_storeCells_fr (P := P) g (l * tSize P e) e fr news 0 Cc w hg hF (by simpa using hfit) h1
  simp only [Nat.add_zero] at hst
  have h0 : (⟨g, 0, none⟩ : Addr).add (l * tSize P e) = ⟨g, l * tSize P e, none⟩ := by rw [add_mk]; simp
  simp [Builtin.append_, run_underlying hse.und, run_sizeOf' hse.eund, Builtin.lenOf, hroom, hnew, h0, hst, splice]
theorem run_app_grow (hse : SliceElem P t e) (base ad : Option Addr) (l cap c m : Nat) (olds news : List Value) (N : Nat) (_hN : N ≤ w.heap.size) (hlo : olds.length = l * tSize P e) (hl : news.length = m * tSize P e)
    (hold : ∀ w', w'.heap = w.heap → (Builtin.firstCells (tSize P e) l (.slice base l cap)).run P w' = .ok olds.toArray w')
    (hnew : ∀ w', w'.heap = w.heap → (Builtin.firstCells (tSize P e) m (.slice ad m c)).run P w' = .ok news.toArray w') (hgt : cap < l + m) (hsm : l + m ≤ 1000000) :
    ∃ newCap cells, (Builtin.append_ #[t, t] ty #[.slice base l cap, .slice ad m c]).run P w = .ok (.slice (some ⟨w.heap.size, 0, none⟩) (l + m) newCap) { w.drew with heap := w.drew.heap.push (.cells cells e) } ∧
      l + m ≤ newCap ∧ newCap ≤ maxLen ∧ cells.size = newCap * tSize P e ∧ ∀ (i : Nat) (u : Value), (olds ++ news)[i]? = some u → cells[i]? = some u := by
  obtain ⟨i0, z, hi0, hz, hzs, his, hby, hs16⟩ := hse.zero
  have hge := grownCap_ge w (l + m) cap e
  have hcm : grownCap w (l + m) cap e ≤ maxLen := grownCap_le_maxLen w (l + m) cap e (by simp [maxLen]; omega)
  have hn : ¬ (l + m ≤ cap) := by omega
  have h63' : ¬ (9223372036854775807 < ((l : Int) + (m : Int))) := by omega
  have h48 : Builtin.nextslicecap (l + m) cap * i0.bytes ≤ 281474976710656 := growslice_fits hgt (by
    have : (l + m) * i0.bytes ≤ 1000000 * 1000 := Nat.mul_le_mul hsm hby
    omega)
  have h48' : ¬ (281474976710656 < Builtin.nextslicecap (l + m) cap * i0.bytes) := by omega
  have hf := hnew w.drew rfl
  have hfo := hold w.drew rfl
  refine ⟨grownCap w (l + m) cap e, olds.toArray ++ news.toArray ++ Builtin.zeroCells z.cells (grownCap w (l + m) cap e - (l + m)), ?_, hge, hcm, ?_, fun i u hu => ?_⟩
  · have hfo' : (Builtin.firstCells (tSize P e) l (.slice base l cap)).run P { w with drawn := w.drawn + 1 } = .ok olds.toArray { w with drawn := w.drawn + 1 } := hfo
    have hf' : (Builtin.firstCells (tSize P e) m (.slice ad m c)).run P { w with drawn := w.drawn + 1 } = .ok news.toArray { w with drawn := w.drawn + 1 } := hf
    simp [Builtin.append_, run_underlying hse.und, run_sizeOf' hse.eund, typeInfo, zeroValue, hi0, hz, Builtin.lenOf, hn, h63', h48', Question.forced, hf, hfo, newRow, grownCap]
    have e1 : (olds ++ news).toArray = olds.toArray ++ news.toArray := by simp
    rw [e1, Array.append_assoc]
    rfl
  · simp only [Array.size_append, List.size_toArray, size_zeroCells, hzs, hlo, hl, ← Nat.add_mul]
    congr 1
    omega
  · have hlt := (List.getElem?_eq_some_iff.1 hu).1
    rw [Array.getElem?_append_left (by simp; simp at hlt; omega)]
    have e1 : (olds ++ news).toArray = olds.toArray ++ news.toArray := by simp
    rw [← e1]
    simpa using hu
end
section
variable {C : Ctx} {ro : Option Nat} {n : Nat} {D0 : List Deferred} {E0 : Env} {U : Nat → Prop} {F : Nat → AV} {E : Env} {a : Act} {o : Oper} {new : Nat} {v : AV}
theorem newrow_sound' (hR : Rel C n D0 E0 U F E a) (hd : ∀ t, o.dst = some t → t < n) (hnew : ¬ U new) {e : TypeId} {xs : List D} (cells : Array Value) (cap : Nat) (w1 : World) (hw1 : w1.heap = E.w.heap) (hb1 : Below C.N E.w w1)
    (hrun : (execOp a.eval o).run C.prog E.w = .ok (.value (.slice (some ⟨E.w.heap.size, 0, none⟩) xs.length cap)) { w1 with heap := w1.heap.push (.cells cells e) })
    (hsz : ∀ x, x ∈ xs → x.cells.length = tSize C.prog e) (hcap : xs.length ≤ cap) (hcm : cap ≤ maxLen) (hcs : cells.size = cap * tSize C.prog e)
    (hcells : ∀ (i : Nat) (d : D), (flat xs)[i]? = some d → d.one = true ∧ ∃ u, cells[i]? = some u ∧ DRel E.w E.S d u) :
    Sound C ro n D0 E0 U F E a o new (.own new 0) [(new, some ⟨0, e, .lst xs⟩)] := by
  have htop : E.top new = none := by
    cases h : E.top new with
    | none => rfl
    | some t => exact absurd (hR.used new t h) hnew
  have hw : ∀ b, b < E.w.heap.size → ({ w1 with heap := w1.heap.push (.cells cells e) } : World).heap[b]? = E.w.heap[b]? := fun b hb => by
    have := push_lt w1 (.cells cells e) b (by rw [hw1]; exact hb)
    rw [this, hw1]
  have hself : ({ w1 with heap := w1.heap.push (.cells cells e) } : World).heap[E.w.heap.size]? = some (.cells cells e) := by
    show (w1.heap.push _)[E.w.heap.size]? = _
    rw [hw1]; simp
  have hbel : Below C.N E.w { w1 with heap := w1.heap.push (.cells cells e) } := hb1.trans (below_alloc _ _ _ (by rw [hw1]; exact hR.hN))
  refine sound_new hR hd hnew ⟨0, e, .lst xs⟩ [] (some E.w.heap.size) _ _ _ hrun hbel hw (by show _ ≤ (w1.heap.push _).size; rw [hw1]; simp) (fun h => by cases h) (fun g hg => ?_) ?_ ?_
  · injection hg with hg
    subst hg
    refine ⟨Nat.le_refl _, _, hself, cells, (0, 0), rfl, .inl rfl, fun x hx => by show _ = tSize E.P _; rw [hR.prog]; exact hsz x hx, fun i d hi => ?_⟩
    obtain ⟨h1, u, hu, h2⟩ := hcells i d hi
    exact ⟨h1, u, hu, h2.mono (fun b h => .inl h) (fun b h => hw b (hR.hr.st b h).1)⟩
  · rw [upH_one]; rfl
  · refine .own new 0 0 _ (by simp [Env.news]) (Nat.le_refl _) rfl (fun e' xs' h => ?_) (fun e' cs' h => by simp [Env.news] at h)
    simp only [Env.news, if_true, Option.some.injEq, ABlk.mk.injEq, true_and] at h
    obtain ⟨rfl, h⟩ := h
    injection h with h
    subst h
    refine ⟨fun h => by simp [Env.news] at h, fun b hb => ?_⟩
    simp only [Env.news, if_true, Option.some.injEq] at hb
    subst hb
    exact ⟨cap, cells, e, (0, 0), rfl, hcap, hcm, hself, Nat.le_of_eq (by rw [hcs, ← hR.prog]; rfl)⟩
theorem newrow_fr (hR : Rel C n D0 E0 U F E a) (hd : ∀ t, o.dst = some t → t < n) (hnew : ¬ U new) {e : TypeId} {xs : List D} (cells : Array Value) (fr : Nat × Nat) (hfr : FrB cells fr) (cap : Nat) (w1 : World) (hw1 : w1.heap = E.w.heap) (hb1 : Below C.N E.w w1)
    (hrun : (execOp a.eval o).run C.prog E.w = .ok (.value (.slice (some ⟨E.w.heap.size, 0, none⟩) xs.length cap)) { w1 with heap := w1.heap.push (.cells cells e fr) })
    (hsz : ∀ x, x ∈ xs → x.cells.length = tSize C.prog e) (hcap : xs.length ≤ cap) (hcm : cap ≤ maxLen) (hcs : cells.size = cap * tSize C.prog e)
    (hcells : ∀ (i : Nat) (d : D), (flat xs)[i]? = some d → d.one = true ∧ ∃ u, cells[i]? = some u ∧ DRel E.w E.S d u) :
    Sound C ro n D0 E0 U F E a o new (.own new 0) [(new, some ⟨0, e, .lst xs⟩)] := by
  have htop : E.top new = none := by
    cases h : E.top new with
    | none => rfl
    | some t => exact absurd (hR.used new t h) hnew
  have hw : ∀ b, b < E.w.heap.size → ({ w1 with heap := w1.heap.push (.cells cells e fr) } : World).heap[b]? = E.w.heap[b]? := fun b hb => by
    have := push_lt w1 (.cells cells e fr) b (by rw [hw1]; exact hb)
    rw [this, hw1]
  have hself : ({ w1 with heap := w1.heap.push (.cells cells e fr) } : World).heap[E.w.heap.size]? = some (.cells cells e fr) := by
    show (w1.heap.push _)[E.w.heap.size]? = _
    rw [hw1]; simp
  have hbel : Below C.N E.w { w1 with heap := w1.heap.push (.cells cells e fr) } := hb1.trans (below_alloc _ _ _ (by rw [hw1]; exact hR.hN))
  refine sound_new hR hd hnew ⟨0, e, .lst xs⟩ [] (some E.w.heap.size) _ _ _ hrun hbel hw (by show _ ≤ (w1.heap.push _).size; rw [hw1]; simp) (fun h => by cases h) (fun g hg => ?_) ?_ ?_
  · injection hg with hg
    subst hg
    refine ⟨Nat.le_refl _, _, hself, cells, fr, rfl, hfr, fun x hx => by show _ = tSize E.P _; rw [hR.prog]; exact hsz x hx, fun i d hi => ?_⟩
    obtain ⟨h1, u, hu, h2⟩ := hcells i d hi
    exact ⟨h1, u, hu, h2.mono (fun b h => .inl h) (fun b h => hw b (hR.hr.st b h).1)⟩
  · rw [upH_one]; rfl
  · refine .own new 0 0 _ (by simp [Env.news]) (Nat.le_refl _) rfl (fun e' xs' h => ?_) (fun e' cs' h => by simp [Env.news] at h)
    simp only [Env.news, if_true, Option.some.injEq, ABlk.mk.injEq, true_and] at h
    obtain ⟨rfl, h⟩ := h
    injection h with h
    subst h
    refine ⟨fun h => by simp [Env.news] at h, fun b hb => ?_⟩
    simp only [Env.news, if_true, Option.some.injEq] at hb
    subst hb
    exact ⟨cap, cells, e, fr, rfl, hcap, hcm, hself, Nat.le_of_eq (by rw [hcs, ← hR.prog]; rfl)⟩
theorem flat_append (xs ys : List D) : flat (xs ++ ys) = flat xs ++ flat ys := by simp [flat]
theorem flat_src {w : World} {S : Nat → Prop} {ys : List D} {us : List Value} (hl : us.length = (flat ys).length) (h : ∀ (i : Nat) (d : D) (u : Value), (flat ys)[i]? = some d → us[i]? = some u → DRel w S d u ∧ d.one = true) (i : Nat) (d : D) (hi : (flat ys)[i]? = some d) :
    d.one = true ∧ ∃ u, us[i]? = some u ∧ DRel w S d u := by
  have hlt := (List.getElem?_eq_some_iff.1 hi).1
  have hu : us[i]? = some us[i] := List.getElem?_eq_getElem (by omega)
  exact ⟨(h i d _ hi hu).2, _, hu, (h i d _ hi hu).1⟩
theorem src_one {w : World} {S : Nat → Prop} {ys : List D} {us : List Value} (hl : us.length = (flat ys).length) (h : ∀ (i : Nat) (d : D) (u : Value), (flat ys)[i]? = some d → us[i]? = some u → DRel w S d u ∧ d.one = true) : ∀ u, u ∈ us → u.oneCell' = true := fun u hu => by
  obtain ⟨i, hi⟩ := List.getElem?_of_mem hu
  have hlt := (List.getElem?_eq_some_iff.1 hi).1
  have hd : (flat ys)[i]? = some (flat ys)[i] := List.getElem?_eq_getElem (by omega)
  have := h i _ u hd hi
  exact this.1.one this.2
theorem execOp_app {P : Program} {w : World} {c : Call} (ho : o.op = .call c) (hc : c.callee = .builtin .append) {t : TypeId} (ht : c.argTypes = #[t, t]) (x y : Operand) (ha : c.args = #[x, y]) {r : Value} {w' : World}
    (h : (Builtin.append_ #[t, t] o.type #[a.eval x, a.eval y]).run P w = .ok r w') : (execOp a.eval o).run P w = .ok (.value r) w' := by
  obtain ⟨callee, args, argTypes⟩ := c
  simp only at hc ht ha
  subst hc; subst ht; subst ha
  unfold execOp
  simp only [ho, resolve, invoke, builtin, Sem.run_bind, Sem.run_pure, Result.andThen_ok, List.map_toArray, List.map_cons, List.map_nil, h]
theorem app_sound (hR : Rel C n D0 E0 U F E a) (hd : ∀ t, o.dst = some t → t < n) (hnew : ¬ U new) {c : Call} (ho : o.op = .call c) (hc : c.callee = .builtin .append) (hty : appTyOK C.prog c.argTypes = true) {x y : Operand} (ha : c.args = #[x, y])
    {X Y : AV} (hX : VRel E X (a.eval x)) (hY : VRel E Y (a.eval y)) {ups : Heap}
    (hE : APPR (tElem C.prog (c.argTypes.getD 0 0)) (tSize C.prog (tElem C.prog (c.argTypes.getD 0 0))) X Y new (BE E) v ups) : Sound C ro n D0 E0 U F E a o new v ups := by
  obtain ⟨t, ht, hse⟩ := appTy hty
  have h0 : c.argTypes.getD 0 0 = t := by rw [ht]; rfl
  rw [h0] at hE
  obtain ⟨ys, hys, hysz, hE⟩ := hE
  obtain ⟨ad, cy, us, huy, hcy, hul, hus⟩ := src_cells hR.hr hY hys hysz
  have hP := hR.prog
  rw [hP, huy] at hcy
  generalize hx : a.eval x = ux at hX
  have hflen := flat_length ys _ hysz
  have hul' : us.length = (flat ys).length := by omega
  have hN := hR.hN
  split at hE
  · 
    obtain ⟨hsm, rfl, rfl⟩ := hE
    cases hX with
    | zc base =>
    by_cases hy0 : ys = []
    · subst hy0
      have hu0 : us = [] := List.eq_nil_of_length_eq_zero (by simpa using hul)
      subst hu0
      have hrun := execOp_app ho hc ht x y ha (P := C.prog) (w := E.w) (by rw [hx, huy]; exact run_app_room0 hse base ad 0 0 cy (Nat.le_refl _) (by simpa using hcy E.w rfl))
      refine sound_new hR hd hnew ⟨0, _, .lst []⟩ [] none E.w _ _ hrun (.refl _ _) (fun _ _ => rfl) (Nat.le_refl _) (fun _ => rfl) (fun g hg => by cases hg) (by rw [upH_one]; rfl) ?_
      refine .own new 0 0 _ (by simp [Env.news]) (Nat.le_refl _) rfl (fun e' xs' h => ⟨fun _ => ⟨base, rfl⟩, fun b hb => by simp [Env.news] at hb⟩) (fun e' cs' h => by simp [Env.news] at h)
    · have hpos : 0 < ys.length := by cases ys <;> simp at hy0 ⊢
      obtain ⟨newCap, cells, h1, h2, h3, h4, h5⟩ := run_app_grow (ty := o.type) (w := E.w) hse base ad 0 0 cy ys.length [] us C.N hN (by simp) (by simpa using hul) (fun w' _ => by cases base <;> simp [Builtin.firstCells, loadCells, loadCellsFrom]) hcy (by omega) (by omega)
      have hrun := execOp_app ho hc ht x y ha (P := C.prog) (w := E.w) (by rw [hx, huy]; exact h1)
      simp only [Nat.zero_add] at hrun h2
      refine newrow_sound' hR hd hnew cells newCap E.w.drew rfl (below_drew _ _) hrun hysz h2 h3 h4 (fun i d hi => ?_)
      obtain ⟨k1, u, hu, k2⟩ := flat_src hul' hus i d hi
      exact ⟨k1, u, h5 i u (by simpa using hu), k2⟩
  · rename_i id ver
    split at hE
    · rename_i e' xs hB
      obtain ⟨rfl, hsm, rfl, rfl⟩ := hE
      have hH := BE_some hB
      obtain ⟨k0, k1, k2⟩ := hR.hr.blk id _ hH
      have hokk : ∀ (mb : Option Nat) (w' : World), chgOK E id mb ⟨ver, tElem C.prog t, .lst xs⟩ ⟨ver + 1, tElem C.prog t, .lst (xs ++ ys)⟩ w' := fun mb w' => .inl (Nat.lt_succ_self _)
      cases hX with
      | own _ _ tt _ htop hle ho1 h _ =>
      obtain ⟨g1, g2⟩ := h _ _ hH
      cases hm : E.m id with
      | none =>
        have hx0 := k1 hm
        simp only [Body.lst.injEq] at hx0
        subst hx0
        obtain ⟨base, rfl⟩ := g1 hm
        by_cases hy0 : ys = []
        · subst hy0
          have hu0 : us = [] := List.eq_nil_of_length_eq_zero (by simpa using hul)
          subst hu0
          have hrun := execOp_app ho hc ht x y ha (P := C.prog) (w := E.w) (by rw [hx, huy]; exact run_app_room0 hse base ad 0 0 cy (Nat.le_refl _) (by simpa using hcy E.w rfl))
          refine sound_chg hR hd hH (hokk none E.w) ⟨Nat.le_refl _, fun _ _ _ => rfl⟩ _ _ (.inl rfl) hrun (.refl _ _) (fun _ => rfl) (fun g hg => by cases hg) ?_
          refine .own id _ (ver + 1) _ (by simp [Env.chg]) (Nat.le_refl _) rfl (fun e'' xs' h => ⟨fun _ => ⟨base, rfl⟩, fun b hb => by simp [Env.chg] at hb⟩) (fun e' cs' h => by simp [Env.chg] at h)
        · have hpos : 0 < ys.length := by cases ys <;> simp at hy0 ⊢
          obtain ⟨newCap, cells, h1, h2, h3, h4, h5⟩ := run_app_grow (ty := o.type) (w := E.w) hse base ad 0 0 cy ys.length [] us C.N hN (by simp) (by simpa using hul) (fun w' _ => by cases base <;> simp [Builtin.firstCells, loadCells, loadCellsFrom]) hcy (by omega) (by simpa using hsm)
          have hrun := execOp_app ho hc ht x y ha (P := C.prog) (w := E.w) (by rw [hx, huy]; exact h1)
          simp only [Nat.zero_add] at hrun h2
          have hself : ({ E.w.drew with heap := E.w.drew.heap.push (.cells cells (tElem C.prog t)) } : World).heap[E.w.heap.size]? = some (.cells cells (tElem C.prog t)) := by
            show (E.w.heap.push _)[E.w.heap.size]? = _
            simp
          have honly : onlyAt E id { E.w.drew with heap := E.w.drew.heap.push (.cells cells (tElem C.prog t)) } := ⟨by show _ ≤ (E.w.heap.push _).size; simp, fun b hb _ => push_lt E.w.drew _ b hb⟩
          refine sound_chg hR hd hH (hokk (some E.w.heap.size) _) honly _ _ (.inl rfl) hrun ((below_drew _ _).trans (below_alloc _ _ _ hN)) (fun h => by cases h) (fun g hg => ?_) ?_
          · injection hg with hg
            subst hg
            refine ⟨hN, .inl (Nat.le_refl _), _, hself, cells, (0, 0), rfl, .inl rfl, fun z hz => by show _ = tSize E.P _; rw [hP]; exact hysz z (by simpa using hz), fun i d hi => ?_⟩
            rw [List.nil_append] at hi
            obtain ⟨k1, u, hu, k2⟩ := flat_src hul' hus i d hi
            exact ⟨k1, u, h5 i u (by simpa using hu), k2.mono (fun b h => h) (fun b h => honly.2 b (hR.hr.st b h).1 (by rw [hm]; simp))⟩
          · refine .own id _ (ver + 1) _ (by simp [Env.chg]) (Nat.le_refl _) rfl (fun e'' xs' h => ⟨fun hb => by simp [Env.chg] at hb, fun b hb => ?_⟩) (fun e' cs' h => by simp [Env.chg] at h)
            simp only [Env.chg, if_true, Option.some.injEq, ABlk.mk.injEq, true_and] at h hb
            obtain ⟨rfl, h⟩ := h
            injection h with h
            subst h; subst hb
            exact ⟨newCap, cells, _, (0, 0), rfl, h2, h3, hself, Nat.le_of_eq (by rw [h4, ← hP]; rfl)⟩
      | some g =>
        obtain ⟨cap, Cc, el, fr, rfl, hlc, hcm, hCc, hCs⟩ := g2 g hm
        obtain ⟨hge, oo, k3, C', fr', rfl, kF, k4, k5⟩ := k2 g hm
        rw [hCc] at k3
        injection k3 with k3
        injection k3 with k3 k6 k7
        subst k3; subst k6; subst k7
        simp only at k4 k5
        rw [hP] at hCs k4
        have hfx := flat_length xs _ k4
        by_cases hroom : xs.length + ys.length ≤ cap
        · have hfit : xs.length * tSize C.prog (tElem C.prog t) + us.length ≤ Cc.size := Nat.le_trans (by rw [hul, ← Nat.add_mul]; exact Nat.mul_le_mul_right _ hroom) hCs
          have hrun := execOp_app ho hc ht x y ha (P := C.prog) (w := E.w) (by rw [hx, huy]; exact run_app_room hse g ad xs.length cap cy ys.length Cc us fr hCc kF hul (hcy E.w rfl) (src_one hul' hus) hroom hfit)
          have hself : (E.w.setRow g (splice Cc.toList (xs.length * tSize C.prog (tElem C.prog t)) us).toArray).heap[g]? = some (.cells (splice Cc.toList (xs.length * tSize C.prog (tElem C.prog t)) us).toArray (tElem C.prog t) fr) := setRow_heap _ g Cc _ _ _ hCc
          have honly : onlyAt E id (E.w.setRow g (splice Cc.toList (xs.length * tSize C.prog (tElem C.prog t)) us).toArray) := ⟨by simp, fun b _ hne => setRow_only _ g _ b (fun e => hne (by rw [hm, e]))⟩
          have hSw : ∀ b, E.S b → (E.w.setRow g (splice Cc.toList (xs.length * tSize C.prog (tElem C.prog t)) us).toArray).heap[b]? = E.w.heap[b]? := fun b hb => honly.2 b (hR.hr.st b hb).1 ((hR.hr.st b hb).2 id (by rw [hH]; simp))
          have hsl : (splice Cc.toList (xs.length * tSize C.prog (tElem C.prog t)) us).length = Cc.size := by rw [length_splice _ _ _ (by simpa using hfit)]; simp
          refine sound_chg hR hd hH (hokk (some g) _) honly _ _ (.inl rfl) hrun (below_setRow' hge _) (fun h => by cases h) (fun g' hg' => ?_) ?_
          · injection hg' with hg'
            subst hg'
            refine ⟨hge, .inr hm, _, hself, _, fr, rfl, by unfold FrB at kF ⊢; simpa [hsl] using kF, fun z hz => ?_, fun i d hi => ?_⟩
            · rcases List.mem_append.1 hz with hz | hz
              · show _ = tSize E.P _
                rw [hP]; exact k4 z hz
              · show _ = tSize E.P _
                rw [hP]; exact hysz z hz
            · rw [flat_append] at hi
              simp only [List.getElem?_toArray]
              rw [getElem?_splice _ _ _ (by simpa using hfit)]
              by_cases hlt : i < (flat xs).length
              · rw [List.getElem?_append_left hlt] at hi
                obtain ⟨j1, u, hu, j2⟩ := k5 i d hi
                refine ⟨j1, u, ?_, j2.mono (fun b h => h) hSw⟩
                rw [if_neg (by omega)]
                simpa using hu
              · rw [List.getElem?_append_right (by omega)] at hi
                obtain ⟨j1, u, hu, j2⟩ := flat_src hul' hus _ d hi
                have hlt2 := (List.getElem?_eq_some_iff.1 hu).1
                refine ⟨j1, u, ?_, j2.mono (fun b h => h) hSw⟩
                rw [if_pos (by omega), ← hfx]
                exact hu
          · refine .own id _ (ver + 1) _ (by simp [Env.chg]) (Nat.le_refl _) rfl (fun e'' xs' h => ⟨fun hb => by simp [Env.chg] at hb, fun b hb => ?_⟩) (fun e' cs' h => by simp [Env.chg] at h)
            simp only [Env.chg, if_true, Option.some.injEq, ABlk.mk.injEq, true_and] at h hb
            obtain ⟨rfl, h⟩ := h
            injection h with h
            subst h; subst hb
            exact ⟨cap, _, _, fr, by rw [List.length_append], by rw [List.length_append]; exact hroom, hcm, hself, by
              show cap * tSize E.P _ ≤ (splice _ _ _).toArray.size
              rw [hP, List.size_toArray, hsl]; exact hCs⟩
        · have hold : ∀ w', w'.heap = E.w.heap → (Builtin.firstCells (tSize C.prog (tElem C.prog t)) xs.length (.slice (some ⟨g, 0, none⟩) xs.length cap)).run C.prog w' = .ok (Cc.toList.take (xs.length * tSize C.prog (tElem C.prog t))).toArray w' := fun w' hw' => by
            refine run_firstCells C.prog w' g 0 _ _ _ _ _ ?_ (fun i u hi => ?_)
            · rw [List.length_take, show Cc.toList.length = Cc.size from by simp]
              exact Nat.min_eq_left (Nat.le_trans (Nat.mul_le_mul_right _ hlc) hCs)
            · rw [cell_of_block (w := E.w) (w' := w') (by rw [hw'])]
              rw [List.getElem?_take] at hi
              split at hi
              · simp [World.cell?, hCc]; simpa using hi
              · cases hi
          have hlo : (Cc.toList.take (xs.length * tSize C.prog (tElem C.prog t))).length = xs.length * tSize C.prog (tElem C.prog t) := by
            rw [List.length_take, show Cc.toList.length = Cc.size from by simp]
            exact Nat.min_eq_left (Nat.le_trans (Nat.mul_le_mul_right _ hlc) hCs)
          obtain ⟨newCap, cells, h1, h2, h3, h4, h5⟩ := run_app_grow (ty := o.type) (w := E.w) hse (some ⟨g, 0, none⟩) ad xs.length cap cy ys.length _ us C.N hN hlo hul hold hcy (by omega) hsm
          have hrun := execOp_app ho hc ht x y ha (P := C.prog) (w := E.w) (by rw [hx, huy]; exact h1)
          have hself : ({ E.w.drew with heap := E.w.drew.heap.push (.cells cells (tElem C.prog t)) } : World).heap[E.w.heap.size]? = some (.cells cells (tElem C.prog t)) := by
            show (E.w.heap.push _)[E.w.heap.size]? = _
            simp
          have honly : onlyAt E id { E.w.drew with heap := E.w.drew.heap.push (.cells cells (tElem C.prog t)) } := ⟨by show _ ≤ (E.w.heap.push _).size; simp, fun b hb _ => push_lt E.w.drew _ b hb⟩
          have hSw : ∀ b, E.S b → ({ E.w.drew with heap := E.w.drew.heap.push (.cells cells (tElem C.prog t)) } : World).heap[b]? = E.w.heap[b]? := fun b hb => push_lt E.w.drew _ b (hR.hr.st b hb).1
          refine sound_chg hR hd hH (hokk (some E.w.heap.size) _) honly _ _ (.inl rfl) hrun ((below_drew _ _).trans (below_alloc _ _ _ hN)) (fun h => by cases h) (fun g' hg' => ?_) ?_
          · injection hg' with hg'
            subst hg'
            refine ⟨hN, .inl (Nat.le_refl _), _, hself, cells, (0, 0), rfl, .inl rfl, fun z hz => ?_, fun i d hi => ?_⟩
            · rcases List.mem_append.1 hz with hz | hz
              · show _ = tSize E.P _
                rw [hP]; exact k4 z hz
              · show _ = tSize E.P _
                rw [hP]; exact hysz z hz
            · rw [flat_append] at hi
              by_cases hlt : i < (flat xs).length
              · rw [List.getElem?_append_left hlt] at hi
                obtain ⟨j1, u, hu, j2⟩ := k5 i d hi
                refine ⟨j1, u, h5 i u ?_, j2.mono (fun b h => h) hSw⟩
                rw [List.getElem?_append_left (by omega), List.getElem?_take, if_pos (by omega)]
                simpa using hu
              · rw [List.getElem?_append_right (by omega)] at hi
                obtain ⟨j1, u, hu, j2⟩ := flat_src hul' hus _ d hi
                refine ⟨j1, u, h5 i u ?_, j2.mono (fun b h => h) hSw⟩
                rw [List.getElem?_append_right (by omega), hlo, ← hfx]
                exact hu
          · refine .own id _ (ver + 1) _ (by simp [Env.chg]) (Nat.le_refl _) rfl (fun e'' xs' h => ⟨fun hb => by simp [Env.chg] at hb, fun b hb => ?_⟩) (fun e' cs' h => by simp [Env.chg] at h)
            simp only [Env.chg, if_true, Option.some.injEq, ABlk.mk.injEq, true_and] at h hb
            obtain ⟨rfl, h⟩ := h
            injection h with h
            subst h; subst hb
            exact ⟨newCap, cells, _, (0, 0), by rw [List.length_append], by rw [List.length_append]; exact h2, h3, hself, Nat.le_of_eq (by rw [h4, ← hP]; rfl)⟩
    · exact hE.elim
  · exact hE.elim
end
end Go.Vc

namespace Go.Vc
open Go Go.RowKit
theorem flatD_get : ∀ (cs : List D), D.flatB.flatL cs = true → ∀ (i : Nat) (d : D), cs[i]? = some d → d.flatB = true := by
  intro cs
  induction cs with
  | nil => intro _ i d h; simp at h
  | cons c r ih =>
    intro h i d hi
    simp only [D.flatB.flatL, Bool.and_eq_true] at h
    cases i with
    | zero => simp at hi; rw [← hi]; exact h.1
    | succ i => exact ih h.2 i d (by simpa using hi)
theorem DRel.flat {w w' : World} {S S' : Nat → Prop} {d : D} {v : Value} (h : DRel w S d v) (hf : d.flatB = true) : DRel w' S' d v := by
  induction h with
  | num k n => exact .num k n
  | bool b => exact .bool b
  | str s => exact .str s
  | list0 a c => exact .list0 a c
  | list xs sz b o cap us hb hc hm hsz hcell hd h1 ih =>
    cases xs with
    | nil => exact .list0 _ _
    | cons x r => simp [D.flatB] at hf
  | agg ds us hl hd h1 ih =>
    simp only [D.flatB] at hf
    exact .agg ds us hl (fun i d u hi hu => ih i d u hi hu (flatD_get ds hf i d hi)) h1
  | fn f as bs us vs hl hl' hd hd' ih ih' => simp [D.flatB] at hf
  | cp ds b o us hb hcell hd h1 ih => simp [D.flatB] at hf
  | iface t d u hd ih => simp [D.flatB] at hf
  | nili => exact .nili
  | nilf => exact .nilf
theorem flatA_get : ∀ (cs : List AV), AV.flatB.flatL cs = true → ∀ (i : Nat) (d : AV), cs[i]? = some d → d.flatB = true := by
  intro cs
  induction cs with
  | nil => intro _ i d h; simp at h
  | cons c r ih =>
    intro h i d hi
    simp only [AV.flatB.flatL, Bool.and_eq_true] at h
    cases i with
    | zero => simp at hi; rw [← hi]; exact h.1
    | succ i => exact ih h.2 i d (by simpa using hi)
theorem renL_get (ρ : Nat → Nat) : ∀ (vs : List AV) (i : Nat) (v : AV), (AV.ren.renL ρ vs)[i]? = some v → ∃ u, vs[i]? = some u ∧ v = u.ren ρ := by
  intro vs
  induction vs with
  | nil => intro i v h; simp [AV.ren.renL] at h
  | cons x r ih =>
    intro i v h
    simp only [AV.ren.renL] at h
    cases i with
    | zero => simp at h; exact ⟨x, rfl, h.symm⟩
    | succ i => exact ih i v (by simpa using h)
theorem renL_get' (ρ : Nat → Nat) : ∀ (vs : List AV) (i : Nat) (u : AV), vs[i]? = some u → (AV.ren.renL ρ vs)[i]? = some (u.ren ρ) := by
  intro vs
  induction vs with
  | nil => intro i v h; simp at h
  | cons x r ih =>
    intro i v h
    simp only [AV.ren.renL]
    cases i with
    | zero => simp at h; subst h; rfl
    | succ i => exact ih i v (by simpa using h)
theorem renL_len (ρ : Nat → Nat) : ∀ (vs : List AV), (AV.ren.renL ρ vs).length = vs.length := by
  intro vs
  induction vs with
  | nil => rfl
  | cons x r ih => simp [AV.ren.renL, ih]
end Go.Vc
