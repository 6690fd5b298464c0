/- A part of the proof: general laws of a reading of the model by abstract data, or contracts of the functions that the law calls. -/
import Derived.Test.YtonajancjagefaaGreatVc20
set_option maxRecDepth 100000
namespace Go.Vc
open Go Go.RowKit
def evDef (p : Program) (tab : Tab) (orc : Orc) (fuel : Nat) (self : Nat) (fn : Func) (ann : Nat → List Nat) (c1 : Code) (o1 o2 : Oper) (c2 : Code) (pre : List ABlk) (args : List AV) : Option (Out × List PB) :=
  match evCode p self fn.ntmps ann orc fuel c1 (zipA args 0) (numbered 0 pre) 24 with
  | some (.normal, fr1, h1, nx1) => match o1.op, o1.dst, o1.guard, o2.op, o2.guard, o2.dst with
    | .makeFunc (.func g) first caps, some t, none, .defer ⟨.value (.tmp t'), ⟨[]⟩, _⟩, none, none => match Nat.beq t t' with
      | true => match evCode p self fn.ntmps ann orc fuel c2 ((t, .fn g (first.toList.map (evf fr1)) (caps.toList.map (evf fr1)), none) :: fr1) h1 (nx1 + 8) with
        | some (e2, fr2, h2, nx2) => match (match e2 with | .exit _ => none | .pan v => some (some v) | _ => some none : Option (Option AV)) with
          | some pv => match tabF tab g with
            | some (gn, gann) => match gn.body with
              | some gc => match recParts gc with
                | some (tr, rest) => match Nat.ble (first.toList.length + caps.toList.length) gn.ntmps with
                  | true => match evCode p g gn.ntmps gann orc fuel rest ((tr, recV pv, none) :: zipA (first.toList.map (evf fr1) ++ caps.toList.map (evf fr1)) 0) h2 nx2 with
                    | some (e3, _, h3, _) => match (match e3 with | .normal => true | .ret => true | _ => false) with
                      | true => match evRes p fr2 h3 fn.results.toList with
                        | some vs => match endF (oneOf vs) h3 pre with | some (r, post) => some (.ret r, post) | none => none
                        | none => none
                      | false => none
                    | none => none
                  | false => none
                | none => none
              | none => none
            | none => none
          | none => none
        | none => none
      | false => none
    | _, _, _, _, _, _ => none
  | _ => none
theorem defParts_eq {c : Code} {c1 c2 : Code} {o1 o2 : Oper} (h : defParts c = some (c1, o1, o2, c2)) : ∃ rid, c = .seq c1 (.seq (.region rid #[o1, o2] false) c2) ∧ ∃ d, o2.op = .defer d := by
  unfold defParts at h
  split at h
  · rename_i c1' rid a b c2'
    split at h
    · rename_i d hd
      simp only [Option.some.injEq, Prod.mk.injEq] at h
      obtain ⟨rfl, rfl, rfl, rfl⟩ := h
      exact ⟨rid, rfl, d, hd⟩
    · cases h
  · cases h
theorem recParts_eq {c rest : Code} {t : Nat} (h : recParts c = some (t, rest)) : ∃ rid o, c = .seq (.region rid #[o] false) rest ∧ (∃ args at', o.op = .call { callee := .builtin .recover, args := args, argTypes := at' }) ∧ o.guard = none ∧ o.dst = some t := by
  unfold recParts at h
  split at h
  · rename_i rid o rest'
    split at h
    · rename_i c t' h1 h2 h3
      obtain ⟨callee, args, at'⟩ := c
      simp only at h
      split at h
      · simp only [Option.some.injEq, Prod.mk.injEq] at h
        obtain ⟨rfl, rfl⟩ := h
        exact ⟨rid, o, rfl, ⟨args, at', h1⟩, h2, h3⟩
      · cases h
    · cases h
  · cases h
theorem def_ev {C : Ctx} (hmk : C.marks = false) {tab : Tab} (hT : TabOK C.prog tab) {orc : Orc} (ho : OrcOK C orc) (fuel : Nat) {f : FuncId} {fn : Func} {c : Code} {ann : Nat → List Nat} (hf : C.prog.funcs[f]? = some fn) (hname : fn.name ≠ "runtime.NumGoroutine") (hres : resTyOK C.prog fn.results.toList = true) (hb : fn.body = some c)
    {c1 c2 : Code} {o1 o2 : Oper} (hd : defParts c = some (c1, o1, o2, c2)) (hc1 : codeOK C.prog fn.ntmps false c1 = true) (ho1 : opOK C.prog fn.ntmps o1 = true) (hc2 : codeOK C.prog fn.ntmps false c2 = true)
    {pre : List ABlk} {args : List AV} {out : Out} {post : List PB} (hn : args.length ≤ fn.ntmps) (he : evDef C.prog tab orc fuel f fn ann c1 o1 o2 c2 pre args = some (out, post)) : MeetsH C f pre args out post := by
  obtain ⟨rid, rfl, _⟩ := defParts_eq hd
  unfold evDef at he
  split at he
  · rename_i fr1 h1 nx1 hev1
    split at he
    · rename_i g first caps t t' at' q1 q2 q3 q4 q5 q6
      split at he
      · rename_i htt
        have htt := Nat.eq_of_beq_eq_true htt
        subst htt
        split at he
        · rename_i e2 fr2 h2 nx2 hev2
          split at he
          · rename_i pv hpv
            split at he
            · rename_i gn gann htab
              split at he
              · rename_i gc hgb
                split at he
                · rename_i tr rest hrec
                  split at he
                  · rename_i hlen
                    have hlen := Nat.le_of_ble_eq_true hlen
                    split at he
                    · rename_i e3 fr3 h3 nx3 hev3
                      split at he
                      · rename_i he3
                        split at he
                        · rename_i vs hvs
                          split at he
                          · rename_i r post' hend
                            injection he with he
                            injection he with hee1 hee2
                            subst hee1; subst hee2
                            have hk : pre.length ≤ 24 := by
                              have hx := hend
                              unfold endF at hx
                              simp only at hx
                              split at hx
                              · rename_i hc; simp only [Bool.and_eq_true] at hc; exact Nat.le_of_ble_eq_true hc.1
                              · cases hx
                            obtain ⟨hgf, hgok⟩ := hT.get htab
                            obtain ⟨rid', o, rfl, hop, hgd, hdst⟩ := recParts_eq hrec
                            simp only [fnEvOK, Bool.and_eq_true] at hgok
                            obtain ⟨⟨hgname, _⟩, hgok⟩ := hgok
                            rw [hgb] at hgok
                            simp only [hrec, Bool.and_eq_true] at hgok
                            obtain ⟨⟨g1, g2⟩, g3⟩ := hgok
                            have g2 : tr < gn.ntmps := by simpa [Nat.blt_eq] using g2
                            have hg3 : gn.results = #[] := by simpa using g3
                            refine ⟨by simp only [fnOK, hf, hb]; simpa using hname, fun E0 us hst hrel => ?_⟩
                            have hS := start_rel hst hk hrel hn []
                            refine (callsIn_wide (n := 0)).1 ?_
                            refine callsIn_of_wp_defers (F := Wf none) (n := 0) hf hb trivial ?_ rfl
                            refine wpIn_seq (code_ev (ro := none) ho (rf := false) (fun h => by cases h) f ann fuel c1 hc1 _ _ _ _ _ _ _ hev1 E0 _ hS _ (fun x E1 a1 hS1 hx => ?_))
                            cases x <;> first | exact hx.elim | skip
                            refine wpIn_seq (wpIn_region ?_)
                            have hdf : ∀ {B' E' : Env} {a' : Act} {D : List Deferred} {U : Nat → Prop} {F : Nat → AV}, Rel C fn.ntmps D B' U F E' a' → a'.defers = D := fun hR => by
                              obtain ⟨rs, d1, _, d3⟩ := hR.defers
                              cases rs with
                              | nil => simpa using d1
                              | cons r rs => have := (d3 r (by simp)).1.2; rw [hmk] at this; cases this
                            show wpOpsIn (Wf none) 0 C.prog #[o1, o2] _ [0, 1] a1 E1.w
                            have e0 : (#[o1, o2] : Array Oper)[0]? = some o1 := rfl
                            have e1 : (#[o1, o2] : Array Oper)[1]? = some o2 := rfl
                            simp only [wpOpsIn, e0, e1]
                            have hwant1 : Region.wanted o1 (yielded #[o1, o2] a1.tmps) = true := by simp [Region.wanted, q3]
                            rw [if_pos hwant1]
                            let fv : AV := .fn g (first.toList.map (evf fr1)) (caps.toList.map (evf fr1))
                            have heff : EffR0 C o1.op nx1 (evF (lk fr1)) (BE E1) fv [] := by
                              rw [q1]
                              refine ⟨rfl, g, rfl, ?_⟩
                              simp only [fv, evf_eq]
                            refine eff0_sound (ro := none) hS1.rel (fun i h1 h2 h3 => by omega) ho1 heff (fun d hd' => by rw [q1] at hd'; cases hd') _ _ (fun a2 E2 hR2 hH2 => ?_)
                            have hwant2 : Region.wanted o2 (yielded #[o1, o2] a2.tmps) = true := by simp [Region.wanted, q5]
                            rw [if_pos hwant2]
                            refine ⟨fun f' _ => Wf_fn none f', ?_⟩
                            show Oper.uponIn (Wf none) 0 C.prog o2 a2 _ _ ((Oper.semAt none a2.eval o2).run C.prog E2.w)
                            rw [Oper.semAt_none]
                            rw [q2] at hR2
                            have hfv : VRel E2 (.fn g (first.toList.map (evf fr1)) (caps.toList.map (evf fr1))) (a2.eval (.tmp t)) := by
                              have := hR2.ev (.tmp t)
                              simpa [evF, setF] using this
                            generalize huv : a2.eval (.tmp t) = uv at hfv
                            obtain ⟨uf, uc, rfl, hlf, hlc, hvf, hvc⟩ : ∃ uf uc : Array Value, uv = .func (.func g) uf uc ∧ (first.toList.map (evf fr1)).length = uf.size ∧ (caps.toList.map (evf fr1)).length = uc.size ∧
                                (∀ (i : Nat) (d : AV) (u : Value), (first.toList.map (evf fr1))[i]? = some d → uf[i]? = some u → VRel E2 d u) ∧ (∀ (i : Nat) (d : AV) (u : Value), (caps.toList.map (evf fr1))[i]? = some d → uc[i]? = some u → VRel E2 d u) := by
                              cases hfv with
                              | fn _ _ _ us vs k1 k2 k3 k4 => exact ⟨us, vs, rfl, k1, k2, k3, k4⟩
                            let dd : Deferred := { target := .fn (.func g) uc, args := uf }
                            have hrun : (execOp a2.eval o2).run C.prog E2.w = .ok (.defer dd) E2.w := by
                              simp only [execOp, q4, resolve, huv, Deferred.ofValue, Sem.run_bind, Sem.run_pure, Result.andThen_ok]
                              simp [dd]
                            rw [hrun, Oper.uponIn_defer]
                            have hput : ({ a2 with defers := dd :: a2.defers } : Act).put o2.dst undef = { a2 with defers := [dd] } := by
                              rw [q6, hdf hR2]; rfl
                            rw [hput]
                            have hS2 : St C fn.ntmps [dd] E2 ((t, fv, none) :: fr1) h1 (nx1 + 8) E2 { a2 with defers := [dd] } := by
                              refine ⟨⟨hR2.prog, ⟨hR2.G, hR2.hN, hR2.hr⟩, hR2.hr, .refl E2, ⟨[], rfl, List.nodup_nil, fun r hr => by cases hr⟩, hR2.tmps, fun s => ?_, fun id t' ht' => ?_⟩, ?_, hS1.dec.put (some t) (decFits_none _), by have := hS1.hnx; omega⟩
                              · have := hR2.fr s
                                have hl := lk_putO (some t) fv none fr1
                                rw [show ((t, fv, none) :: fr1 : Fr) = putO (some t) fv none fr1 from rfl, hl]
                                exact this
                              · rcases hR2.used id t' ht' with h | h <;> omega
                              · rw [hH2, hS1.H]; rfl
                            refine code_ev (ro := none) ho (rf := false) (fun h => by cases h) f ann fuel c2 hc2 _ _ _ _ _ _ _ hev2 E2 _ hS2 _ (fun x E3 a3 hS3 hx => ?_)
                            have hst23 : E2.Step E3 := hS3.rel.go.step
                            have hR3 : Rel C fn.ntmps [dd] E0 (fun id => id < nx2) (lk fr2) E3 a3 := by
                              have h3 := hS3.rel
                              have hd3 := hdf h3
                              exact ⟨h3.prog, hR2.base, h3.hr, hR2.go.trans h3.go, ⟨[], by simpa using hd3, List.nodup_nil, fun r hr => by cases hr⟩, h3.tmps, h3.fr, h3.used⟩
                            have hd3 := hdf hR3
                            have hcall : ∀ (pu : Option Value), optVRel E3 pv pu → LeavesIn (Wf none) 0 C.prog fn a3.tmps (fun e w' => ∃ E', E'.w = w' ∧ FinOK C pre post' E0 E' ∧ OutR E' (.ret r) e) [dd] (modeOf pu) E3.w := fun pu hpu => by
                              have hrelc : relL E3 (first.toList.map (evf fr1) ++ caps.toList.map (evf fr1)) (uf.toList ++ uc.toList) := by
                                refine ⟨by simp at hlf hlc ⊢; omega, append_val (by simpa using hlf) (fun i v u h1 h2 => ?_) (fun i v u h1 h2 => ?_)⟩
                                · exact (hvf i v u h1 (by simpa using h2)).step hst23
                                · exact (hvc i v u h1 (by simpa using h2)).step hst23
                              have hc := recover_calls (C := C) hmk ho hgf hgb hg3 hop hgd hdst g2 g1 g gann (E2 := E3) (nx2 := nx2) (h2 := h2) hR3.prog hR3.G hR3.hN hR3.hr hS3.H hR3.used hS3.hnx hrelc (by simpa using hlen) hpu hev3 (fun i hi => by rw [hi] at he3; simp at he3)
                              have hargs : (uf.toList ++ uc.toList).toArray = uf ++ uc := by apply Array.ext'; simp
                              rw [hargs] at hc
                              have hfng : fnOK C.prog g = true := by
                                simp only [fnOK, hgf, hgb]; simpa using hgname
                              refine leavesIn_cons (by cases pu <;> simp [modeOf]) (Wf_depth none 0) (w := E3.w) (f := g) (args := uf ++ uc) ?_ (fun f' _ => Wf_fn none f') ?_
                              · show (callFunc g (uf ++ uc)).run C.prog E3.w = _
                                exact run_callFunc hfng
                              · refine CallsDIn.mono hc (fun e u' w' ⟨E4, k1, k2, k3, k4, k5, k6, k7, k8, k9⟩ => ?_)
                                have hval : ∃ val, e = .returned val := by
                                  cases e3 with
                                  | pan v => simp at he3
                                  | exit i => simp at he3
                                  | normal => exact k9
                                  | ret => exact k9
                                obtain ⟨val, rfl⟩ := hval
                                subst k1; subst k8
                                have hset : settle (modeRec pu) = .returning := by cases pu <;> rfl
                                simp only [hset]
                                have hR4 : Rel C fn.ntmps [] E0 (fun id => id < nx3) (lk fr2) E4 { a3 with defers := [] } := by
                                  have h4 := hR3.turn k2 k3 k6
                                  exact ⟨h4.prog, h4.base, h4.hr, h4.go, ⟨[], rfl, List.nodup_nil, fun r hr => by cases hr⟩, h4.tmps, h4.fr, h4.used⟩
                                have hq := evRes_ok (C := C) fn.results.toList vs (fun vs => POST (oneOf vs) h3 pre r post') hvs (endF_ok hend)
                                obtain ⟨vs', v, q1, q2, q3⟩ := one_sound hR4 k5 hres hq
                                obtain ⟨E5, w1, w2, w3⟩ := end_sound hst hR4 k5 q3 q1
                                exact ⟨v, q2, E5, w1, w2, w3⟩
                            cases e2 with
                            | exit i => simp at hpv
                            | normal =>
                              simp only [Option.some.injEq] at hpv
                              subst hpv
                              cases x <;> first | exact hx.elim | skip
                              show LeavesIn (Wf none) 0 C.prog fn a3.tmps _ a3.defers .returning E3.w
                              rw [hd3]
                              exact hcall none trivial
                            | ret =>
                              simp only [Option.some.injEq] at hpv
                              subst hpv
                              cases x <;> first | exact hx.elim | skip
                              show LeavesIn (Wf none) 0 C.prog fn a3.tmps _ a3.defers .returning E3.w
                              rw [hd3]
                              exact hcall none trivial
                            | pan v =>
                              simp only [Option.some.injEq] at hpv
                              subst hpv
                              cases x <;> first | exact hx.elim | skip
                              obtain ⟨u, rfl, hu⟩ := hx
                              show LeavesIn (Wf none) 0 C.prog fn a3.tmps _ a3.defers (.panicking [{ v := u, recovered := false }]) E3.w
                              rw [hd3]
                              exact hcall (some u) hu
                          · cases he
                        · cases he
                      · cases he
                    · cases he
                  · cases he
                · cases he
              · cases he
            · cases he
          · cases he
        · cases he
      · cases he
    · cases he
  · cases he
abbrev Ext := List (Nat × (List AV → Option (Out × List PB)))
def xtF : Ext → Nat → List AV → Option (Out × List PB)
  | [], _, _ => none
  | (k, go) :: r, f, args => match Nat.beq k f with | true => go args | false => xtF r f args
def ExtOK (C : Ctx) : Ext → Prop
  | [] => True
  | (f, go) :: r => (∀ args out post, go args = some (out, post) → MeetsH C f [] args out post) ∧ ExtOK C r
theorem ExtOK.get {C : Ctx} : ∀ {ext : Ext}, ExtOK C ext → ∀ {f : Nat} {args : List AV} {out : Out} {post : List PB}, xtF ext f args = some (out, post) → MeetsH C f [] args out post := by
  intro ext
  induction ext with
  | nil => intro _ f args out post h; cases h
  | cons x r ih =>
    intro ho f args out post h
    obtain ⟨k, go⟩ := x
    simp only [xtF] at h
    split at h
    · rename_i hb
      have := Nat.eq_of_beq_eq_true hb
      subst this
      exact ho.1 args out post h
    · exact ih ho.2 h
def extP (ext : Ext) (f : Nat) (args : List AV) : List ABlk → Option (Out × List PB)
  | [] => xtF ext f args
  | _ => none
def evTab (p : Program) (tab : Tab) (orc : Orc) (fuel : Nat) (f : FuncId) (pre : List ABlk) (args : List AV) : Option (Out × List PB) := match tabF tab f with
  | none => none
  | some (fn, ann) => match fn.body with
    | none => none
    | some c => match Nat.ble args.length fn.ntmps with
      | false => none
      | true => match recParts c with
        | some _ => none
        | none => match defParts c with
          | some (c1, o1, o2, c2) => evDef p tab orc fuel f fn ann c1 o1 o2 c2 pre args
          | none => match evCode p f fn.ntmps ann orc fuel c (zipA args 0) (numbered 0 pre) 24 with
            | some (.normal, fr, h, _) => match evRes p fr h fn.results.toList with
              | some vs => match endF (oneOf vs) h pre with | some (r, post) => some (.ret r, post) | none => none
              | none => none
            | some (.ret, fr, h, _) => match evRes p fr h fn.results.toList with
              | some vs => match endF (oneOf vs) h pre with | some (r, post) => some (.ret r, post) | none => none
              | none => none
            | some (.pan v, _, h, _) => match endF v h pre with | some (r, post) => some (.pan r, post) | none => none
            | _ => none
def evFn (p : Program) (tab : Tab) (ext : Ext) (dm : FuncId → Nat) (fuel : Nat) : Nat → Orc
  | 0 => (dm, fun _ _ _ => none)
  | n + 1 => (dm, fun cal pre args => match cal with
    | .yld id => evRound p tab (evFn p tab ext dm fuel n) fuel id pre args
    | .fnc f => match extP ext f args pre with
      | some r => some r
      | none => evTab p tab (evFn p tab ext dm fuel n) fuel f pre args)
theorem ev_ok {C : Ctx} (hmk : C.marks = true) {tab : Tab} (hT : TabOK C.prog tab) {ext : Ext} (hX : ExtOK C ext) (dm : FuncId → Nat) (fuel : Nat) : ∀ n, OrcOK C (evFn C.prog tab ext dm fuel n) := by
  intro n
  induction n with
  | zero => intro f pre args out post h; cases h
  | succ n ih =>
    intro cal pre args out post he
    simp only [evFn] at he
    cases cal with
    | yld id => exact round_ev ih fuel he
    | fnc f =>
    simp only at he
    split at he
    · rename_i r hr
      injection he with he
      subst he
      cases pre with
      | nil => exact hX.get hr
      | cons _ _ => cases hr
    unfold evTab at he
    generalize horc : evFn C.prog tab ext dm fuel n = orc at he ih
    split at he
    · cases he
    · rename_i fn ann htab
      obtain ⟨hf, hok⟩ := hT.get htab
      simp only [fnEvOK, Bool.and_eq_true] at hok
      obtain ⟨⟨hname, hres⟩, hbody⟩ := hok
      cases hb : fn.body with
      | none => rw [hb] at he; cases he
      | some c =>
        rw [hb] at he hbody
        simp only at he hbody
        split at he
        · cases he
        · rename_i hn
          have hn := Nat.le_of_ble_eq_true hn
          split at he
          · cases he
          · rename_i hrp
            rw [hrp] at hbody
            simp only at hbody
            split at he
            · rename_i c1 o1 o2 c2 hdp
              rw [hdp] at hbody
              simp only [Bool.and_eq_true] at hbody
              have hname' : fn.name ≠ "runtime.NumGoroutine" := by simpa using hname
              have hm := def_ev (C := { C with marks := false }) rfl hT (ih.withMarks false) fuel hf hname' hres hb hdp hbody.1.1 hbody.1.2 hbody.2 hn he
              have hm := hm.withMarks true
              have hC : ({ ({ C with marks := false } : Ctx) with marks := true } : Ctx) = C := by cases C; simp_all
              rw [hC] at hm
              exact hm
            · rename_i hdp
              rw [hdp] at hbody
              simp only at hbody
              show MeetsH C f pre args out post
              cases hev : evCode C.prog f fn.ntmps ann orc fuel c (zipA args 0) (numbered 0 pre) 24 with
              | none => rw [hev] at he; cases he
              | some cr =>
                obtain ⟨e, fr', h', nx'⟩ := cr
                rw [hev] at he
                have hk : pre.length ≤ 24 := by
                  have key : ∀ v h x, endF v h pre = some x → pre.length ≤ 24 := fun v h x hx => by
                    unfold endF at hx
                    simp only at hx
                    split at hx
                    · rename_i hc; simp only [Bool.and_eq_true] at hc; exact Nat.le_of_ble_eq_true hc.1
                    · cases hx
                  cases e with
                  | exit i => cases he
                  | normal =>
                    simp only at he
                    split at he
                    · split at he
                      · rename_i hx; exact key _ _ _ hx
                      · cases he
                    · cases he
                  | ret =>
                    simp only at he
                    split at he
                    · split at he
                      · rename_i hx; exact key _ _ _ hx
                      · cases he
                    · cases he
                  | pan v =>
                    simp only at he
                    split at he
                    · rename_i hx; exact key _ _ _ hx
                    · cases he
                refine ⟨by simp only [fnOK, hf, hb]; simpa using hname, fun E0 us hst hrel => ?_⟩
                have hS := start_rel hst hk hrel hn []
                refine (callsIn_wide (n := 0)).1 ?_
                refine callsIn_of_wp_marks (F := Wf none) (n := 0) hf hb trivial ?_ rfl
                refine code_ev (ro := none) ih (rf := true) (fun _ => ⟨hmk, rfl⟩) f ann fuel c hbody _ _ _ e fr' h' nx' hev E0 _ hS _ (fun x E' a' hS' hx => ?_)
                have leave : ∀ (u : FrameMode), u ≠ .run →
                    (∀ E1, Rel C fn.ntmps [] E0 (fun id => id < nx') (lk fr') E1 { tmps := a'.tmps, defers := [] } → E1.H = lookH h' → E'.Step E1 → LeavesIn (Wf none) 0 C.prog fn a'.tmps (fun e w' => ∃ E', E'.w = w' ∧ FinOK C pre post E0 E' ∧ OutR E' out e) [] u E1.w) →
                    LeavesInM (Wf none) 0 C.prog fn a'.tmps (fun e w' => ∃ E', E'.w = w' ∧ FinOK C pre post E0 E' ∧ OutR E' out e) a'.defers u E'.w := fun u hu hK => by
                  have hR := hS'.rel
                  obtain ⟨rs, d1, d2, d3⟩ := hR.defers
                  rw [List.append_nil] at d1
                  rw [d1]
                  exact marks_leave hu rs E' ⟨hR.prog, hR.base, hR.hr, hR.go, ⟨[], rfl, List.nodup_nil, fun r hr => by cases hr⟩, hR.tmps, hR.fr, hR.used⟩ d2 (fun r hr => ⟨(d3 r hr).1.1, (d3 r hr).2⟩) (fun E1 g1 g2 g3 => hK E1 g1 (g2.trans hS'.H) g3)
                have fin : ∀ vs r post', evRes C.prog fr' h' fn.results.toList = some vs → endF (oneOf vs) h' pre = some (r, post') → out = .ret r → post = post' →
                    LeavesInM (Wf none) 0 C.prog fn a'.tmps (fun e w' => ∃ E', E'.w = w' ∧ FinOK C pre post E0 E' ∧ OutR E' out e) a'.defers .returning E'.w := fun vs r post' h1 h2 h3 h4 => by
                  subst h3; subst h4
                  refine leave .returning (by simp) (fun E1 g1 g2 g3 => ?_)
                  have hq := evRes_ok (C := C) fn.results.toList vs (fun vs => POST (oneOf vs) h' pre r post) h1 (endF_ok h2)
                  obtain ⟨vs', v, k1, k2, k3⟩ := one_sound g1 g2 hres hq
                  obtain ⟨E2, e1, e2, e3⟩ := end_sound hst g1 g2 k3 k1
                  exact ⟨v, k2, E2, e1, e2, e3⟩
                cases e with
                | exit i => cases he
                | normal =>
                  cases x <;> first | exact hx.elim | skip
                  simp only at he
                  split at he
                  · rename_i vs hvs
                    split at he
                    · rename_i r post' hp
                      injection he with he; injection he with e1 e2
                      exact fin vs r post' hvs hp e1.symm e2.symm
                    · cases he
                  · cases he
                | ret =>
                  cases x <;> first | exact hx.elim | skip
                  simp only at he
                  split at he
                  · rename_i vs hvs
                    split at he
                    · rename_i r post' hp
                      injection he with he; injection he with e1 e2
                      exact fin vs r post' hvs hp e1.symm e2.symm
                    · cases he
                  · cases he
                | pan v =>
                  cases x <;> first | exact hx.elim | skip
                  obtain ⟨u, rfl, hu⟩ := hx
                  simp only at he
                  split at he
                  · rename_i r post' hp
                    injection he with he; injection he with e1 e2
                    subst e1; subst e2
                    refine leave _ (by simp) (fun E1 g1 g2 g3 => ?_)
                    obtain ⟨E2, e1, e2, e3⟩ := end_sound hst g1 g2 (hu.step g3) (endF_ok hp)
                    exact ⟨E2, e1, e2, u, rfl, e3⟩
                  · cases he
end Go.Vc
