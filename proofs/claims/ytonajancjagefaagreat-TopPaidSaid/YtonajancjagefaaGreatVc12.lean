/- A part of the proof: general laws of a reading of the model by abstract data, or contracts of the functions that the law calls. -/
import Derived.Test.YtonajancjagefaaGreatVc10
import Derived.Test.YtonajancjagefaaGreatVc11
set_option maxRecDepth 100000
namespace Go.Vc
open Go Go.RowKit
def AExit.rel (E : Env) : AExit → Exit → Prop
  | .normal, .normal => True
  | .exit i, .exit j => i = j
  | .ret, .ret => True
  | .pan v, .panic ch => ∃ u, ch = [{ v := u, recovered := false }] ∧ VRel E v u
  | _, _ => False
def codeOK (P : Program) (n : Nat) (rf : Bool) : Code → Bool
  | .skip => true
  | .label _ => true
  | .region _ ops draw => regionOK P n ops.toList draw
  | .seq a b => codeOK P n rf a && codeOK P n rf b
  | .cond _ a b => codeOK P n rf a && codeOK P n rf b
  | .block _ c => codeOK P n rf c
  | .scope c => codeOK P n rf c
  | .loop c => codeOK P n rf c
  | .rangeFunc _ _ _ _ => rf
  | .exit _ => true
  | .ret => true
  | _ => false
section
variable {C : Ctx} {ro : Option Nat} {n : Nat} {D0 : List Deferred} {E0 : Env}
structure St (C : Ctx) (n : Nat) (D0 : List Deferred) (E0 : Env) (fr : Fr) (h : Heap) (nx : Nat) (E : Env) (a : Act) : Prop where
  rel : Rel C n D0 E0 (fun id => id < nx) (lk fr) E a
  H : E.H = lookH h
  dec : DecOK fr
  hnx : 24 ≤ nx
theorem keepT_get {fr : Fr} {t : Nat} {v : AV} : ∀ {ts : List Nat}, (t, v) ∈ keepT fr ts → v = lk fr t := by
  intro ts
  induction ts with
  | nil => intro h; cases h
  | cons s r ih =>
    intro h
    rcases List.mem_cons.1 h with h | h
    · injection h with h1 h2; subst h1; exact h2
    · exact ih h
theorem rangeFunc_sound (hmk : C.marks = true) {el : TypeId} {fr : Fr} {h : Heap} {nx : Nat} {E : Env} {a : Act} (hS : St C n D0 E0 fr h nx E a) {g : Operand} {params : Array Tmp} {assign body : Code} {ts : List Nat} {K : Heap → Prop} {KX : Option Nat → Heap → Prop} {KP : AV → Heap → Prop}
    (hv : CALLF C (evf fr g) [.yld nx] (nx + 8) ((nx, some ⟨0, el, .loop ⟨.ready, none, n, keepT fr ts, params.toList, assign, body⟩⟩) :: h) (fun _ _ h' => AFTER nx h' K KX) (fun _ v h' => KP v h')) {Q : Exit → Act → World → Prop}
    (hK : ∀ h' E' a', K h' → St C n D0 E0 fr h' (nx + 16) E' a' → Q .normal a' E'.w)
    (hKX : ∀ x h' E' a', KX x h' → St C n D0 E0 fr h' (nx + 16) E' a' → Q (match x with | none => .ret | some i => .exit i) a' E'.w)
    (hKP : ∀ v h' E' a' u, KP v h' → St C n D0 E0 fr h' (nx + 16) E' a' → VRel E' v u → Q (.panic [{ v := u, recovered := false }]) a' E'.w) :
    (Code.rangeFunc g params assign body).wpIn (Wf none) 0 C.prog Q a E.w := by
  refine wpIn_rangeFunc fun fn _ => ?_
  let sz := E.w.heap.size
  let lp : Obj := .loop { state := .ready, pending := none, fn := fn, tmps := a.tmps, params := params, assign := assign, body := body, defers := sz }
  have hRm := marked_rel hmk hS.rel
  let w1 : World := { E.marked.w with heap := E.marked.w.heap.push lp }
  have hsz : E.marked.w.heap.size = sz + 1 := by simp [Env.marked, sz]
  have htop : E.marked.top nx = none := by
    cases ht : E.marked.top nx with
    | none => rfl
    | some t => exact absurd (hRm.used nx t ht) (Nat.lt_irrefl _)
  let blk : ABlk := ⟨0, el, .loop ⟨.ready, none, n, keepT fr ts, params.toList, assign, body⟩⟩
  let E1 : Env := E.marked.news nx (some (sz + 1)) blk [] w1
  have hlt : ∀ b, b < E.marked.w.heap.size → w1.heap[b]? = E.marked.w.heap[b]? := fun b hb => push_lt _ _ b hb
  have hsz1 : E.marked.w.heap.size ≤ w1.heap.size := by simp [w1]
  have hst1 : E.marked.Step E1 := news_step hRm.hr htop hlt
  have hg1 : E.marked.Go E1 := news_go hRm.hr htop hlt hsz1 rfl rfl rfl (fun g hg => by injection hg with hg; omega)
  have hh1 : HR C.N E1 := news_hr hRm.hr htop hlt hsz1 (fun h => by cases h) (fun g hg => by
    injection hg with hg
    subst hg
    have := hS.rel.hN
    refine ⟨by omega, by omega, lp, ?_, fn, a.tmps, sz, by simp [lp], hS.rel.tmps, fun t v hv => ?_⟩
    · show (E.marked.w.heap.push lp)[sz + 1]? = _
      rw [← hsz]; simp
    · rw [keepT_get hv]
      exact (hRm.fr t).step hst1)
  let a1 : Act := { a with defers := mark sz :: a.defers }
  have hR1 : Rel C n D0 E0 (fun id => id < nx + 8) (lk fr) E1 a1 := hRm.turn hg1 hh1 (fun id t ht => by
    simp only [E1, Env.news] at ht
    split at ht
    · omega
    · have := hRm.used id t ht; omega)
  have hH1 : E1.H = lookH ((nx, some blk) :: h) := by
    funext id
    simp only [E1, Env.news, lookH, Env.marked, hS.H]
    by_cases hid : id = nx
    · subst hid; simp
    · have hb : Nat.beq nx id = false := by
        cases hb : Nat.beq nx id
        · rfl
        · exact absurd (Nat.eq_of_beq_eq_true hb).symm hid
      rw [hb, if_neg hid]; simp
  have hB1 : bodyOf ((nx, some blk) :: h) = BE E1 := by funext id ver; simp only [bodyOf, BE, hH1]
  have hy : VRel E1 (.yld nx) (.func (.yield (sz + 1)) #[] #[]) := .yld nx 0 _ (by simp [E1, Env.news, blk]) rfl (fun e L _ => ⟨sz + 1, by simp [E1, Env.news], rfl⟩)
  have hent : (Instr.enterLoop fn a.tmps params assign body none).run C.prog E.w = .ok (sz + 1, [mark sz]) w1 := by
    have hn : ∀ (w : World) (o : Obj), (newObj o).run C.prog w = .ok w.heap.size { w with heap := w.heap.push o } := fun w o => rfl
    simp only [Instr.enterLoop, Sem.run_bind, hn, Result.andThen_ok, Sem.run_pure]
    simp only [w1, lp, hsz.symm]
    rfl
  have hev : VRel E1 (evf fr g) (a.eval g) := by rw [evf_eq]; exact ((hS.rel.ev g).step (marked_step hS.rel.hr)).step hst1
  have main : ∀ (f : FuncId) (vs : List AV) (us : List Value) (rd : List Nat) (r : Eff), a.eval g = a.eval g → (∀ (hok : fnOK C.prog f = true), ∃ d, (resolve a.eval (rangeCall g (sz + 1)) 0).run C.prog w1 = .ok d w1 ∧ (invoke d.target d.args).run C.prog w1 = .ok (.enter f us.toArray) w1) →
      vs.length = us.length → (∀ (i : Nat) (v : AV) (u : Value), vs[i]? = some v → us[i]? = some u → VRel E1 v u) → CALLR C (.fnc f) vs (nx + 8) (bodyOf ((nx, some blk) :: h)) rd r →
      (match r with
        | .ok v ups => AFTER nx (ups ++ (nx, some blk) :: h) K KX
        | .pan v ups => KP v (ups ++ (nx, some blk) :: h)) →
      ∃ (l : Nat) (mark : List Deferred) (w₁ : World) (d : Deferred) (w₁' : World) (f : FuncId) (args : Array Value) (w₂ : World),
      (Instr.enterLoop fn a.tmps params assign body (Wf none).round).run C.prog E.w = .ok (l, mark) w₁ ∧
      (resolve a.eval (rangeCall g l) 0).run C.prog w₁ = .ok d w₁' ∧
      (∀ f', Target.leads C.prog w₁' d.target d.args = some f' → (Wf none).fn f') ∧
      (invoke d.target d.args).run C.prog w₁' = .ok (.enter f args) w₂ ∧
      ((Wf none).depth.isSome = true → 1 ≤ 0) ∧
      CallsIn (Wf none) (0 - 1) C.prog f args w₂ (rangePost (Wf none) 0 C.prog l Q { a with defers := mark ++ a.defers }) := fun f vs us rd r _ hrun hl hvs hE hk => by
    rw [hB1] at hE
    obtain ⟨hok, hc⟩ := call_calls (ro := none) hR1 (fun i h1 h2 h3 => by omega) hl hvs hE (.yld nx) _ hy
    obtain ⟨d, hd1, hd2⟩ := hrun hok
    refine ⟨sz + 1, [mark sz], w1, d, w1, f, us.toArray, w1, hent, hd1, fun f' _ => Wf_fn none f', hd2, Wf_depth none 0, ?_⟩
    refine CallsIn.mono (F := Wf none) hc (fun e w' he => ?_)
    cases r with
    | ok v ups =>
      obtain ⟨E', u, rfl, rfl, hR', hH', hy'⟩ := he
      have hH2 : E'.H = lookH (ups ++ (nx, some blk) :: h) := by rw [hH', hH1]; exact (funext (lookH_append ups _)).symm
      simp only [AFTER] at hk
      split at hk
      · rename_i e L hL
        have hEL : E'.H nx = some ⟨0, e, .loop L⟩ := by rw [hH2]; exact hL
        generalize huy : Value.func (.yield (sz + 1)) #[] #[] = uy at hy'
        cases hy' with
        | yld _ t _ ht h1 hh =>
          obtain ⟨b, hm, hb⟩ := hh e L hEL
          rw [← huy] at hb
          have : sz + 1 = b := by simpa using hb
          subst this
          obtain ⟨_, _, k3⟩ := hR'.hr.blk nx _ hEL
          obtain ⟨_, o, ho, fn', tmps, dd, hobj, _, _⟩ := k3 _ hm
          have hnb : L.st ≠ .busy := by
            intro hbz
            rw [hbz] at hk
            cases hp : L.pend <;> rw [hp] at hk <;> exact hk
          rw [hobj] at ho
          have hend : (Instr.endLoop (sz + 1)).run C.prog E'.w = .ok L.pend { E'.w with heap := E'.w.heap.setIfInBounds (sz + 1) (.loop { state := .exhausted, pending := L.pend, fn := fn', tmps := tmps, params := L.params.toArray, assign := L.assign, body := L.body, defers := dd }) } := by
            have hget : (getObj (sz + 1)).run C.prog E'.w = .ok (.loop { state := L.st, pending := L.pend, fn := fn', tmps := tmps, params := L.params.toArray, assign := L.assign, body := L.body, defers := dd }) E'.w := by simp [getObj, Sem.run, ho]
            have hset : ∀ o1, (setObj (sz + 1) o1).run C.prog E'.w = .ok () { E'.w with heap := E'.w.heap.setIfInBounds (sz + 1) o1 } := fun o1 => by simp [setObj, Sem.run, ho]
            have hbb : (L.st == LoopState.busy) = false := by simpa using hnb
            simp only [Instr.endLoop, Instr.getLoop, Sem.run_bind, hget, Result.andThen_ok, Sem.run_pure, hbb, Bool.false_eq_true, if_false, hset]
          have hRd := drop_rel (o1 := .loop { state := .exhausted, pending := L.pend, fn := fn', tmps := tmps, params := L.params.toArray, assign := L.assign, body := L.body, defers := dd }) hR' hEL hm ho (fun _ _ _ h => by cases h)
          have hS' : St C n D0 E0 fr ((nx, none) :: (ups ++ (nx, some blk) :: h)) (nx + 16) (E'.drop nx { E'.w with heap := E'.w.heap.setIfInBounds (sz + 1) (.loop { state := .exhausted, pending := L.pend, fn := fn', tmps := tmps, params := L.params.toArray, assign := L.assign, body := L.body, defers := dd }) }) a1 := by
            refine ⟨hRd.weakU (fun id h => by omega), ?_, hS.dec, by have := hS.hnx; omega⟩
            funext id
            simp only [Env.drop, lookH]
            by_cases hid : id = nx
            · subst hid; simp
            · have hb : Nat.beq nx id = false := by
                cases hb : Nat.beq nx id
                · rfl
                · exact absurd (Nat.eq_of_beq_eq_true hb).symm hid
              rw [hb, if_neg hid, hH2]
          refine ⟨L.pend, _, hend, ?_⟩
          cases hst : L.st <;> cases hp : L.pend <;> rw [hst, hp] at hk <;> first | exact hk.elim | skip
          · have hk1 := hK _ _ a1 hk hS'
            rw [hp] at hk1
            exact hk1
          · rename_i c
            cases c <;> first | exact hk.elim | skip
            · rename_i i
              have hk1 := hKX (some i) _ _ a1 hk hS'
              rw [hp] at hk1
              exact wpIn_exit hk1
            · have hk1 := hKX none _ _ a1 hk hS'
              rw [hp] at hk1
              exact wpIn_ret hk1
      · exact hk.elim
    | pan v ups =>
      obtain ⟨E', u, rfl, rfl, hR', hH', hu⟩ := he
      have hH2 : E'.H = lookH (ups ++ (nx, some blk) :: h) := by rw [hH', hH1]; exact (funext (lookH_append ups _)).symm
      exact hKP v _ E' a1 u hk ⟨hR'.weakU (fun id h => by omega), hH2, hS.dec, by have := hS.hnx; omega⟩ hu
  unfold CALLF at hv
  split at hv
  · rename_i f first caps hf
    obtain ⟨rd, r, hE, hk⟩ := hv
    rw [hf] at hev
    have ht := hev.inv_d
    generalize hu : a.eval g = uf at ht
    cases ht with
    | fn _ _ _ us vs hl hl' hd1 hd2 =>
      refine main f _ (us.toList ++ [.func (.yield (sz + 1)) #[] #[]] ++ vs.toList) rd r rfl (fun hok => ⟨{ target := .fn (.func f) vs, args := us ++ #[.func (.yield (sz + 1)) #[] #[]] }, ?_, ?_⟩) (by simp; omega) (append_val (by simp; omega) (append_val (by simp; omega) ?_ ?_) ?_) hE hk
      · have ea : (#[Operand.const (Value.func (.yield (sz + 1)) #[] #[])].map a.eval) = #[Value.func (.yield (sz + 1)) #[] #[]] := by simp [Act.eval]
        simp only [resolve, hu, Deferred.ofValue, ea, Sem.run_pure]
      · show (callFunc f (us ++ #[Value.func (.yield (sz + 1)) #[] #[]] ++ vs)).run C.prog w1 = _
        rw [run_callFunc hok]
        congr 2
        apply Array.ext'
        simp
      · intro i d u h1 h2
        simp only [List.getElem?_map] at h1
        cases hx : first[i]? with
        | none => rw [hx] at h1; cases h1
        | some x => rw [hx] at h1; injection h1 with h1; subst h1; exact .d _ _ (hd1 i x u hx (by simpa using h2))
      · intro i d u h1 h2
        cases i with
        | zero => simp at h1 h2; subst h1; subst h2; exact hy
        | succ i => simp at h1
      · intro i d u h1 h2
        simp only [List.getElem?_map] at h1
        cases hx : caps[i]? with
        | none => rw [hx] at h1; cases h1
        | some x => rw [hx] at h1; injection h1 with h1; subst h1; exact .d _ _ (hd2 i x u hx (by simpa using h2))
  · rename_i f first caps hf
    obtain ⟨rd, r, hE, hk⟩ := hv
    rw [hf] at hev
    generalize hu : a.eval g = uf at hev
    cases hev with
    | fn _ _ _ us vs hl hl' hd1 hd2 =>
      refine main f _ (us.toList ++ [.func (.yield (sz + 1)) #[] #[]] ++ vs.toList) rd r rfl (fun hok => ⟨{ target := .fn (.func f) vs, args := us ++ #[.func (.yield (sz + 1)) #[] #[]] }, ?_, ?_⟩) (by simp; omega) (append_val (by simp; omega) (append_val (by simp; omega) ?_ ?_) ?_) hE hk
      · have ea : (#[Operand.const (Value.func (.yield (sz + 1)) #[] #[])].map a.eval) = #[Value.func (.yield (sz + 1)) #[] #[]] := by simp [Act.eval]
        simp only [resolve, hu, Deferred.ofValue, ea, Sem.run_pure]
      · show (callFunc f (us ++ #[Value.func (.yield (sz + 1)) #[] #[]] ++ vs)).run C.prog w1 = _
        rw [run_callFunc hok]
        congr 2
        apply Array.ext'
        simp
      · exact fun i d u h1 h2 => hd1 i d u h1 (by simpa using h2)
      · intro i d u h1 h2
        cases i with
        | zero => simp at h1 h2; subst h1; subst h2; exact hy
        | succ i => simp at h1
      · exact fun i d u h1 h2 => hd2 i d u h1 (by simpa using h2)
  · exact hv.elim
theorem code_sound (hmk : C.marks = true) (hlow : ∀ id t, E0.top id = some t → id < 24) (pn : Bool) (ann : Nat → List Nat) : ∀ (c : Code), codeOK C.prog n ro.isNone c = true → ∀ (Qa : AExit → Fr → Heap → Nat → Prop) (fr : Fr) (h : Heap) (nx : Nat) (E : Env) (a : Act), vcCode C pn n ann c Qa fr h nx → St C n D0 E0 fr h nx E a →
    ∀ (Q : Exit → Act → World → Prop), (∀ e x fr' h' nx' E' a', Qa e fr' h' nx' → St C n D0 E0 fr' h' nx' E' a' → e.rel E' x → Q x a' E'.w) → c.wpIn (Wf ro) 0 C.prog Q a E.w := by
  intro c
  induction c with
  | skip => intro _ Qa fr h nx E a hv hS Q hQ; exact wpIn_skip (hQ .normal .normal _ _ _ _ _ hv hS trivial)
  | label l => intro _ Qa fr h nx E a hv hS Q hQ; exact wpIn_label (hQ .normal .normal _ _ _ _ _ hv hS trivial)
  | exit id => intro _ Qa fr h nx E a hv hS Q hQ; exact wpIn_exit (hQ (.exit id) (.exit id) _ _ _ _ _ hv hS rfl)
  | ret => intro _ Qa fr h nx E a hv hS Q hQ; exact wpIn_ret (hQ .ret .ret _ _ _ _ _ hv hS trivial)
  | region rid ops draw =>
    intro hok Qa fr h nx E a hv hS Q hQ
    have hn := hS.hnx
    exact region_sound (fun id h => h) hS.rel hS.H hS.dec hok hv (fun fr' h' a' E' hD hR hH hk => hQ .normal .normal fr' h' _ E' a' hk ⟨hR, hH, hD, by omega⟩ trivial)
      (fun v h' a' E' u hR hH hk hu => hQ (.pan v) _ _ h' _ E' a' hk ⟨hR, hH, hS.dec.clr, by omega⟩ ⟨u, rfl, hu⟩)
  | seq x y ihx ihy =>
    intro hok Qa fr h nx E a hv hS Q hQ
    simp only [codeOK, Bool.and_eq_true] at hok
    refine wpIn_seq (ihx hok.1 _ fr h nx E a hv hS _ (fun e z fr' h' nx' E' a' hq hS' hz => ?_))
    cases e with
    | normal => cases z <;> first | exact hz.elim | exact ihy hok.2 Qa fr' h' nx' E' a' hq hS' Q hQ
    | exit i => cases z <;> first | exact hz.elim | exact hQ (.exit i) _ _ _ _ _ _ hq hS' hz
    | ret => cases z <;> first | exact hz.elim | exact hQ .ret .ret _ _ _ _ _ hq hS' hz
    | pan v => cases z <;> first | exact hz.elim | exact hQ (.pan v) _ _ _ _ _ _ hq hS' hz
  | cond o x y ihx ihy =>
    intro hok Qa fr h nx E a hv hS Q hQ
    simp only [codeOK, Bool.and_eq_true] at hok
    have hev : VRel E (evf fr o) (a.eval o) := by rw [evf_eq]; exact hS.rel.ev o
    have hf := hS.dec.fits o
    simp only [vcCode] at hv
    split at hv
    · rename_i hd
      rw [hf.1 _ hd] at hev
      exact wpIn_cond_true hev.inv_bool (ihx hok.1 Qa fr h nx E a hv hS Q hQ)
    · rename_i hd
      rw [hf.1 _ hd] at hev
      exact wpIn_cond_false hev.inv_bool (ihy hok.2 Qa fr h nx E a hv hS Q hQ)
    · unfold COND at hv
      split at hv
      · rename_i b hb
        rw [hb] at hev
        exact wpIn_cond_split hev.inv_bool (fun h1 => ihx hok.1 Qa fr h nx E a (hv.1 h1) hS Q hQ) (fun h1 => ihy hok.2 Qa fr h nx E a (hv.2 h1) hS Q hQ)
      · rename_i hb
        rw [hb] at hev
        generalize hu : a.eval o = u at hev
        cases hev with
        | anyb b => exact wpIn_cond_split hu (fun _ => ihx hok.1 Qa fr h nx E a hv.1 hS Q hQ) (fun _ => ihy hok.2 Qa fr h nx E a hv.2 hS Q hQ)
      · exact hv.elim
  | block id x ih =>
    intro hok Qa fr h nx E a hv hS Q hQ
    refine wpIn_block (ih hok _ fr h nx E a hv hS _ (fun e z fr' h' nx' E' a' hq hS' hz => ?_))
    cases e with
    | normal => cases z <;> first | exact hz.elim | exact hQ .normal .normal _ _ _ _ _ hq hS' hz
    | exit i =>
      cases z <;> first | exact hz.elim | skip
      rename_i j
      have hz : i = j := hz
      subst hz
      simp only [Exit.inBlock]
      simp only [blockQ] at hq
      by_cases hi : i = id
      · subst hi
        rw [if_pos rfl]
        simp only [Nat.beq_refl] at hq
        exact hQ .normal .normal _ _ _ _ _ hq hS' trivial
      · rw [if_neg hi]
        have hb : Nat.beq i id = false := by
          cases hb : Nat.beq i id
          · rfl
          · exact absurd (Nat.eq_of_beq_eq_true hb) hi
        rw [hb] at hq
        exact hQ (.exit i) (.exit i) _ _ _ _ _ hq hS' rfl
    | ret => cases z <;> first | exact hz.elim | exact hQ .ret .ret _ _ _ _ _ hq hS' hz
    | pan v => cases z <;> first | exact hz.elim | exact hQ (.pan v) _ _ _ _ _ _ hq hS' hz
  | scope x ih =>
    intro hok Qa fr h nx E a hv hS Q hQ
    refine wpIn_scope_straight (ih hok Qa fr h nx E a hv hS _ (fun e z fr' h' nx' E' a' hq hS' hz => ?_))
    have := hQ e z fr' h' nx' E' a' hq hS' hz
    cases z with
    | goto l => cases e <;> exact hz.elim
    | _ => exact this
  | loop x ih =>
    intro hok Qa fr h nx E a hv hS Q hQ
    have hn := hS.hnx
    simp only [vcCode] at hv
    generalize ann (firstRegion x) = slots at hv
    obtain ⟨σ, F, G, pre, μ, pr, pb, W, hW, hpl, ⟨s0, hs0, hw0⟩, hround⟩ := hv
    refine wpIn_loop_fam (fun s a w => pre s ∧ ∃ E, E.w = w ∧ Rel C n D0 E0 (fun id => id < nx + 8) (lk (zipF (F s) slots 0)) E a ∧ E.H = lookH (G s)) μ ?_ (fun s a w hI => ?_)
    · have hvs : VsRel E a slots (vals fr slots) := fun i v t hv ht => by rw [vals_get fr slots i v t hv ht]; exact hS.rel.fr t
      have hR0 : Rel C n D0 E0 (fun id => id < nx + 0) (fun _ => .any) E a := ⟨hS.rel.prog, hS.rel.base, hS.rel.hr, hS.rel.go, hS.rel.defers, hS.rel.tmps, fun t => .any _, hS.rel.used⟩
      obtain ⟨E1, h1, h2, h3, h4⟩ := promote_sound (nx := nx) pr 0 (vals fr slots) h E hR0 hS.H hvs
      obtain ⟨E1', k1, k2, k3, k4⟩ := promoteB_sound (nx := nx) pb pr.length _ E1 (h2.weakU fun id h => by omega) h3 h4
      obtain ⟨E2, g1, g2, g3⟩ := weak_sound k2 k3 k4 hw0 hlow (by omega) (hround s0 hs0).1
      exact ⟨s0, hs0, E2, g1.trans (k1.trans h1), g2, g3⟩
    · obtain ⟨hpre, E1, rfl, hR1, hH1⟩ := hI
      obtain ⟨_, hbody⟩ := hround s hpre
      refine ih hok _ _ _ _ E1 a hbody ⟨hR1, hH1, .ofNone (zipF_dec _ _ _), by omega⟩ _ (fun e z fr' h' nx' E' a' hq hS' hz => ?_)
      cases e with
      | normal =>
        cases z <;> first | exact hz.elim | skip
        obtain ⟨s', hp', hw', hμ⟩ := hq
        have hvs : VsRel E' a' slots (vals fr' slots) := fun i v t hv ht => by rw [vals_get fr' slots i v t hv ht]; exact hS'.rel.fr t
        rcases hW _ _ _ _ hw' with hw' | ⟨π, hπ, hfix, hw'⟩
        · obtain ⟨E2, g1, g2, g3⟩ := weak_sound hS'.rel hS'.H hvs hw' hlow (by omega) (hround s' hp').1
          exact ⟨s', ⟨hp', E2, g1, g2, g3⟩, hμ⟩
        · have hRp := perm_sound hS'.rel hlow hπ hfix
          have hHp : (E'.perm π).H = lookH (renH π h') := perm_look hπ hS'.H
          have hvp : VsRel (E'.perm π) a' slots (AV.ren.renL π (vals fr' slots)) := fun i v t hv ht => by
            obtain ⟨x, hx, rfl⟩ := renL_get π _ i v hv
            exact (hvs i x t hx ht).perm hπ
          obtain ⟨E2, g1, g2, g3⟩ := weak_sound hRp hHp hvp hw' hlow (by omega) (hround s' hp').1
          exact ⟨s', ⟨hp', E2, g1, g2, g3⟩, hμ⟩
      | exit i => cases z <;> first | exact hz.elim | exact hQ (.exit i) _ _ _ _ _ _ hq hS' hz
      | ret => cases z <;> first | exact hz.elim | exact hQ .ret .ret _ _ _ _ _ hq hS' hz
      | pan v => cases z <;> first | exact hz.elim | exact hQ (.pan v) _ _ _ _ _ _ hq hS' hz
  | rangeFunc g ps assign body =>
    intro hok Qa fr h nx E a hv hS Q hQ
    have hro : ro = none := by cases ro with
      | none => rfl
      | some l => cases hok
    subst hro
    refine rangeFunc_sound hmk hS hv (fun h' E' a' hk hS' => hQ .normal .normal _ _ _ _ _ hk hS' trivial) (fun x h' E' a' hk hS' => ?_) (fun v h' E' a' u hk hS' hu => hQ (.pan v) _ _ _ _ _ _ hk hS' ⟨u, rfl, hu⟩)
    cases x with
    | none => exact hQ .ret .ret _ _ _ _ _ hk hS' trivial
    | some i => exact hQ (.exit i) (.exit i) _ _ _ _ _ hk hS' rfl
  | _ => intro hok; cases hok
end
end Go.Vc
