/- A part of the proof: general laws of a reading of the model by abstract data, or contracts of the functions that the law calls. -/
import Derived.RecoverIn
import Derived.Test.YtonajancjagefaaGreatVc19
set_option maxRecDepth 100000
namespace Go.Vc
open Go Go.RowKit
def tmpFr : List (Nat × AV) → Fr
  | [] => []
  | (t, v) :: r => (t, v, none) :: tmpFr r
def putPs : List Nat → List AV → Fr → Fr
  | t :: ts, v :: vs, fr => putPs ts vs ((t, v, none) :: fr)
  | _, _, fr => fr
def jumpOf : AExit → Option (Option Code)
  | .normal => some none
  | .ret => some (some .ret)
  | .exit i => some (some (.exit i))
  | .pan _ => none
def stOf (j : Option Code) : LoopState := if j.isNone then .ready else .done
def evRound (p : Program) (tab : Tab) (orc : Orc) (fuel : Nat) (id : Nat) (pre : List ABlk) (args : List AV) : Option (Out × List PB) :=
  match pre[id]? with
  | some ⟨0, e, .loop L⟩ =>
    match Nat.beq args.length L.params.length && L.params.all (fun t => Nat.blt t L.n) && codeOK p L.n false L.assign && codeOK p L.n false L.body && Nat.ble pre.length 24 with
    | true => match evCode p e L.n (match tabF tab e with | some (_, ann) => ann | none => fun _ => []) orc fuel L.assign (putPs L.params args (tmpFr L.tmps)) (numbered 0 pre) 24 with
      | some (.normal, fr1, h1, nx1) => match lookH h1 id with
        | some ⟨0, e1, .loop L1⟩ => match L1.st with
          | .ready => match evCode p e L.n (match tabF tab e with | some (_, ann) => ann | none => fun _ => []) orc fuel L.body fr1 ((id, some ⟨0, e1, .loop { L1 with st := .busy }⟩) :: h1) nx1 with
            | some (ex, _, h2, _) => match jumpOf ex with
              | some j => match lookH h2 id with
                | some ⟨0, e2, .loop L2⟩ => match endF (.d (.bool j.isNone)) ((id, some ⟨0, e2, .loop { L2 with st := stOf j, pend := j }⟩) :: h2) pre with
                  | some (r, post) => some (.ret r, post)
                  | none => none
                | _ => none
              | none => none
            | none => none
          | _ => none
        | _ => none
      | _ => none
    | false => none
  | _ => none
theorem tmpFr_get : ∀ (ts : List (Nat × AV)) (t : Nat), lk (tmpFr ts) t = .any ∨ (t, lk (tmpFr ts) t) ∈ ts := by
  intro ts
  induction ts with
  | nil => intro t; exact .inl rfl
  | cons x r ih =>
    intro t
    obtain ⟨s, v⟩ := x
    simp only [tmpFr, lk]
    split
    · rename_i hb
      have := Nat.eq_of_beq_eq_true hb
      subst this
      exact .inr (by simp)
    · rcases ih t with h | h
      · exact .inl h
      · exact .inr (List.mem_cons_of_mem _ h)
theorem tmpFr_dec : ∀ (ts : List (Nat × AV)) (t : Nat), lkd (tmpFr ts) t = none := by
  intro ts
  induction ts with
  | nil => intro t; rfl
  | cons x r ih =>
    intro t
    obtain ⟨s, v⟩ := x
    simp only [tmpFr, lkd]
    split
    · rfl
    · exact ih t
theorem putPs_rel {E : Env} {n : Nat} : ∀ (ts : List Nat) (vs : List AV) (us : List Value) (fr : Fr) (tmps : Array Value), (∀ t, t ∈ ts → t < n) → tmps.size = n → (∀ t, VRel E (lk fr t) (tmps.getD t undef)) → (∀ t, lkd fr t = none) → ts.length = vs.length → vs.length = us.length →
    (∀ (i : Nat) (v : AV) (u : Value), vs[i]? = some v → us[i]? = some u → VRel E v u) →
    ((ts.zip us).foldl (fun (tmps : Array Value) (p : Nat × Value) => tmps.setIfInBounds p.1 p.2) tmps).size = n ∧ (∀ t, VRel E (lk (putPs ts vs fr) t) (((ts.zip us).foldl (fun (tmps : Array Value) (p : Nat × Value) => tmps.setIfInBounds p.1 p.2) tmps).getD t undef)) ∧ ∀ t, lkd (putPs ts vs fr) t = none := by
  intro ts
  induction ts with
  | nil =>
    intro vs us fr tmps _ h1 h2 h3 h4 _ _
    cases vs with
    | nil => exact ⟨by simpa using h1, by simpa [putPs] using h2, by simpa [putPs] using h3⟩
    | cons _ _ => cases h4
  | cons t ts ih =>
    intro vs us fr tmps hn h1 h2 h3 h4 h5 h6
    cases vs with
    | nil => cases h4
    | cons v vs =>
      cases us with
      | nil => cases h5
      | cons u us =>
        simp only [List.zip_cons_cons, List.foldl_cons, putPs]
        refine ih vs us ((t, v, none) :: fr) (tmps.setIfInBounds t u) (fun s hs => hn s (List.mem_cons_of_mem _ hs)) (by simpa using h1) (fun s => ?_) (fun s => ?_) (by simpa using h4) (by simpa using h5) (fun i v' u' hv hu => h6 (i + 1) v' u' (by simpa using hv) (by simpa using hu))
        · simp only [lk, Array.getD_eq_getD_getElem?, Array.getElem?_setIfInBounds]
          by_cases hts : t = s
          · subst hts
            have : t < tmps.size := by rw [h1]; exact hn t (by simp)
            simp only [Nat.beq_refl, if_true, this, Option.getD_some]
            exact h6 0 v u rfl rfl
          · have hb : Nat.beq t s = false := by
              cases hb : Nat.beq t s
              · rfl
              · exact absurd (Nat.eq_of_beq_eq_true hb) hts
            rw [hb, if_neg hts]
            have := h2 s
            rw [Array.getD_eq_getD_getElem?] at this
            exact this
        · simp only [lkd]
          split
          · rfl
          · exact h3 s
section
variable {C : Ctx} {n : Nat} {D0 : List Deferred} {E0 : Env} {U : Nat → Prop} {F : Nat → AV} {E : Env} {a : Act}
theorem loop_set (hR : Rel C n D0 E0 U F E a) {id : Nat} {e : TypeId} {L : LoopA} {g : Nat} (hH : E.H id = some ⟨0, e, .loop L⟩) (hm : E.m id = some g) (st' : LoopState) (pend' : Option Code) :
    ∃ fn tmps d, (getObj g).run C.prog E.w = .ok (.loop { state := L.st, pending := L.pend, fn := fn, tmps := tmps, params := L.params.toArray, assign := L.assign, body := L.body, defers := d }) E.w ∧
      ∃ w', (setObj g (.loop { state := st', pending := pend', fn := fn, tmps := tmps, params := L.params.toArray, assign := L.assign, body := L.body, defers := d })).run C.prog E.w = .ok () w' ∧
        ∃ E', E'.w = w' ∧ Rel C n D0 E0 U F E' a ∧ E'.H = fun i => if i = id then some ⟨0, e, .loop { L with st := st', pend := pend' }⟩ else E.H i := by
  obtain ⟨k1, _, k3⟩ := hR.hr.blk id _ hH
  obtain ⟨hN, o, ho, fn, tmps, d, hobj, hsz, hts⟩ := k3 g hm
  subst hobj
  have hlt := (Array.getElem?_eq_some_iff.1 ho).1
  refine ⟨fn, tmps, d, by simp [getObj, Sem.run, ho], _, by simp [setObj, Sem.run, ho]; rfl, ?_⟩
  let o1 : Obj := .loop { state := st', pending := pend', fn := fn, tmps := tmps, params := L.params.toArray, assign := L.assign, body := L.body, defers := d }
  let w1 : World := { E.w with heap := E.w.heap.setIfInBounds g o1 }
  let blk : ABlk := ⟨0, e, .loop { L with st := st', pend := pend' }⟩
  have hok : chgOK E id (some g) ⟨0, e, .loop L⟩ blk w1 := .inr ⟨rfl, rfl, trivial, hm.symm, fun g' Cc el fr hg' hC => by
    rw [hm] at hg'; injection hg' with hg'; subst hg'
    rw [ho] at hC; cases hC⟩
  have hw : onlyAt E id w1 := ⟨by simp [w1], fun b _ hne => by
    simp only [w1, Array.getElem?_setIfInBounds]
    rw [if_neg (fun e => hne (by rw [hm, e]))]⟩
  have hs := chg_step hR.hr hH hok hw
  have hg := chg_go hR.hr hH hok hw rfl rfl rfl (fun g' hg' => by injection hg' with hg'; subst hg'; exact .inr hm)
  have hh := chg_hr hR.hr hH hok hw (fun h => by cases h) (fun g' hg' => by
    injection hg' with hg'
    subst hg'
    exact ⟨hN, .inr hm, o1, by simp [w1, hlt], fn, tmps, d, rfl, hsz, fun t v hv => (hts t v hv).step hs⟩)
  refine ⟨E.chg id (some g) blk w1, rfl, hR.turn hg hh (fun i t ht => ?_), ?_⟩
  · simp only [Env.chg] at ht
    split at ht
    · rename_i he; subst he; exact hR.used i _ k1
    · exact hR.used i t ht
  · funext i; simp only [Env.chg, blk]
end
theorem round_ev {C : Ctx} {tab : Tab} {orc : Orc} (ho : OrcOK C orc) (fuel : Nat) {id : Nat} {pre : List ABlk} {args : List AV} {out : Out} {post : List PB} (he : evRound C.prog tab orc fuel id pre args = some (out, post)) : MeetsY C id pre args out post := by
  unfold evRound at he
  split at he
  · rename_i e L hpre
    refine ⟨⟨e, L, hpre⟩, fun E us hst hrel g hm => ?_⟩
    generalize (match tabF tab e with | some (_, ann) => ann | none => fun _ => []) = ann at he
    split at he
    · rename_i hc
      simp only [Bool.and_eq_true] at hc
      obtain ⟨⟨⟨⟨c1, c2⟩, c3⟩, c4⟩, c5⟩ := hc
      have c1 := Nat.eq_of_beq_eq_true c1
      have c5 := Nat.le_of_ble_eq_true c5
      have hHid : E.H id = some ⟨0, e, .loop L⟩ := (hst.H id).trans hpre
      obtain ⟨k1, _, k3⟩ := hst.hr.blk id _ hHid
      obtain ⟨hN, o, ho', fn, tmps, d, hobj, hsz, hts⟩ := k3 g hm
      subst hobj
      obtain ⟨hl, hv⟩ := hrel
      have hlen : us.length = L.params.length := by omega
      have hget : (getObj g).run C.prog E.w = .ok (.loop { state := L.st, pending := L.pend, fn := fn, tmps := tmps, params := L.params.toArray, assign := L.assign, body := L.body, defers := d }) E.w := by simp [getObj, Sem.run, ho']
      have hall : ∀ t, t ∈ L.params → t < L.n := fun t ht => by
        have := List.all_eq_true.1 c2 t ht
        simpa [Nat.blt_eq] using this
      have hP := putPs_rel (E := E) (n := L.n) L.params args us (tmpFr L.tmps) tmps hall hsz (fun t => by
        rcases tmpFr_get L.tmps t with h | h
        · rw [h]; exact .any _
        · exact hts t _ h) (tmpFr_dec _) (by omega) hl hv
      let tm := (L.params.zip us).foldl (fun (tmps : Array Value) (p : Nat × Value) => tmps.setIfInBounds p.1 p.2) tmps
      refine ⟨fn, tm, L.assign, L.body, ?_, ?_⟩
      · simp only [Instr.yield, Instr.getLoop, Sem.run_bind, hget, Result.andThen_ok, Sem.run_pure]
        rw [if_neg (by simp [hlen])]
        simp only [Sem.run_pure, tm]
        congr 2
        rw [← Array.foldl_toList]
        simp
      · refine roundIn_of_wpIn (F := Fence.wide) (n := 0) trivial ?_
        cases hev1 : evCode C.prog e L.n ann orc fuel L.assign (putPs L.params args (tmpFr L.tmps)) (numbered 0 pre) 24 with
        | none => rw [hev1] at he; cases he
        | some cr =>
          obtain ⟨ex1, fr1, h1, nx1⟩ := cr
          rw [hev1] at he
          cases ex1 <;> simp only at he <;> try (cases he; done)
          have hS0 : St C L.n [] E (putPs L.params args (tmpFr L.tmps)) (numbered 0 pre) 24 E { tmps := tm, defers := [] } := by
            refine ⟨⟨hst.prog, ⟨hst.G, hst.hN, hst.hr⟩, hst.hr, .refl E, ⟨[], rfl, List.nodup_nil, fun r hr => by cases hr⟩, hP.1, hP.2.1, fun id t ht => by have := hst.top id t ht; omega⟩, ?_, .ofNone hP.2.2, Nat.le_refl _⟩
            funext i
            rw [hst.H, lookH_numbered]
            simp
          show L.assign.wpIn (Wf (some g)) 0 C.prog _ _ _
          refine code_ev (ro := some g) ho (rf := false) (fun h => by cases h) e ann fuel L.assign c3 _ _ _ _ _ _ _ hev1 E _ hS0 _ (fun x E1 a1 hS1 hx => ?_)
          cases x <;> first | exact hx.elim | skip
          split at he
          · rename_i e1 L1 hL1
            split at he
            · rename_i hst1
              have hH1 : E1.H id = some ⟨0, e1, .loop L1⟩ := by rw [hS1.H]; exact hL1
              have hm1 : E1.m id = some g := by
                rw [(hS1.rel.go.step.blk id 0 _ k1 hH1 (Nat.le_refl _)).1]; exact hm
              obtain ⟨fn1, tmps1, d1, hget1, w1, hset1, E2, rfl, hR2, hH2⟩ := loop_set hS1.rel hH1 hm1 .busy L1.pend
              refine ⟨E2.w, ?_, ?_⟩
              · simp only [Instr.beginRound, Instr.getLoop, Sem.run_bind, hget1, Result.andThen_ok, Sem.run_pure, hset1, hst1]
              · split at he
                · rename_i ex fr2 h2 nx2 hev2
                  have hS2 : St C L.n [] E fr1 ((id, some ⟨0, e1, .loop { L1 with st := .busy }⟩) :: h1) nx1 E2 a1 := by
                    refine ⟨hR2, ?_, hS1.dec, hS1.hnx⟩
                    rw [hH2]
                    funext i
                    rw [lookH_cons, hS1.H]
                    by_cases hi : i = id
                    · subst hi; simp
                    · rw [if_neg hi, if_neg (Ne.symm hi)]
                  refine code_ev (ro := some g) ho (rf := false) (fun h => by cases h) e ann fuel L.body c4 _ _ _ _ _ _ _ hev2 E2 _ hS2 _ (fun x E3 a3 hS3 hx => ?_)
                  split at he
                  · rename_i j hj
                    split at he
                    · rename_i e2 L2 hL2
                      split at he
                      · rename_i r post' hend
                        injection he with he
                        injection he with he1 he2
                        subst he1; subst he2
                        have hH3 : E3.H id = some ⟨0, e2, .loop L2⟩ := by rw [hS3.H]; exact hL2
                        have hm3 : E3.m id = some g := by
                          rw [(hS3.rel.go.step.blk id 0 _ k1 hH3 (Nat.le_refl _)).1]; exact hm
                        obtain ⟨fn3, tmps3, d3, hget3, w3, hset3, E4, rfl, hR4, hH4⟩ := loop_set hS3.rel hH3 hm3 (stOf j) j
                        have hH4' : E4.H = lookH ((id, some ⟨0, e2, .loop { L2 with st := stOf j, pend := j }⟩) :: h2) := by
                          rw [hH4]
                          funext i
                          rw [lookH_cons, hS3.H]
                          by_cases hi : i = id
                          · subst hi; simp
                          · rw [if_neg hi, if_neg (Ne.symm hi)]
                        have hfin : ∃ v w', (Instr.endRound g j).run C.prog E3.w = .ok v w' ∧ ∃ E', E'.w = w' ∧ FinOK C pre post' E E' ∧ OutR E' (.ret r) (.returned v) := by
                          refine ⟨.bool j.isNone, E4.w, ?_, ?_⟩
                          · simp only [Instr.endRound, Instr.getLoop, Sem.run_bind, hget3, Result.andThen_ok, Sem.run_pure]
                            simp only [stOf] at hset3
                            simp only [hset3, Result.andThen_ok]
                          · exact end_sound hst hR4 hH4' (.d _ _ (.bool j.isNone)) (endF_ok hend)
                        cases ex with
                        | normal =>
                          injection hj with hj; subst hj
                          cases x <;> first | exact hx.elim | exact hfin
                        | ret =>
                          injection hj with hj; subst hj
                          cases x <;> first | exact hx.elim | exact hfin
                        | exit i =>
                          injection hj with hj; subst hj
                          cases x <;> first | exact hx.elim | skip
                          have hx : i = _ := hx
                          subst hx
                          exact hfin
                        | pan v => cases hj
                      · cases he
                    · cases he
                  · cases he
                · cases he
            · cases he
          · cases he
    · cases he
  · cases he
end Go.Vc

namespace Go.Vc
open Go Go.RowKit
def recV : Option AV → AV
  | none => .d .nili
  | some v => v
def modeOf : Option Value → FrameMode
  | none => .returning
  | some u => .panicking [{ v := u, recovered := false }]
def modeRec : Option Value → FrameMode
  | none => .returning
  | some u => .panicking [{ v := u, recovered := true }]
def optVRel (E : Env) : Option AV → Option Value → Prop
  | none, none => True
  | some v, some u => VRel E v u
  | _, _ => False
theorem recover_calls {C : Ctx} (hmk : C.marks = false) {orc : Orc} (ho : OrcOK C orc) {g : FuncId} {gn : Func} {rid : Nat} {o : Oper} {rest : Code} {tr : Nat}
    (hf : C.prog.funcs[g]? = some gn) (hb : gn.body = some (.seq (.region rid #[o] false) rest)) (hgr : gn.results = #[]) (hop : ∃ args at', o.op = .call { callee := .builtin .recover, args := args, argTypes := at' }) (hgd : o.guard = none) (hdst : o.dst = some tr) (htr : tr < gn.ntmps)
    (hok : codeOK C.prog gn.ntmps false rest = true) (self : Nat) (ann : Nat → List Nat) {k : Nat} {E2 : Env} {nx2 : Nat} {h2 : Heap} (hP : E2.P = C.prog) (hG : C.G E2.w) (hN : C.N ≤ E2.w.heap.size) (hr : HR C.N E2) (hH : E2.H = lookH h2) (hU : ∀ id t, E2.top id = some t → id < nx2) (h24 : 24 ≤ nx2)
    {vs : List AV} {us : List Value} (hrel : relL E2 vs us) (hn : vs.length ≤ gn.ntmps) {pv : Option AV} {pu : Option Value} (hp : optVRel E2 pv pu)
    {e3 : AExit} {fr3 : Fr} {h3 : Heap} {nx3 : Nat} (hev : evCode C.prog self gn.ntmps ann orc k rest ((tr, recV pv, none) :: zipA vs 0) h2 nx2 = some (e3, fr3, h3, nx3)) (he3 : ∀ i, e3 ≠ .exit i) :
    CallsDIn (Wf none) 0 C.prog g us.toArray (modeOf pu) E2.w fun e u' w' => ∃ E3, E3.w = w' ∧ E2.Go E3 ∧ HR C.N E3 ∧ E3.P = C.prog ∧ E3.H = lookH h3 ∧ (∀ id t, E3.top id = some t → id < nx3) ∧ 24 ≤ nx3 ∧ u' = modeRec pu ∧
      match e3 with
      | .pan v => ∃ uv, e = .panicked [{ v := uv, recovered := false }] ∧ VRel E3 v uv
      | _ => ∃ val, e = .returned val := by
  refine callsDIn_of_wpSIn (F := Wf none) hf hb trivial (fun c0 cs hc => ?_)
  refine wpSIn_seq (wpSIn_region ?_)
  obtain ⟨args, at', hop⟩ := hop
  obtain ⟨hl, hv⟩ := hrel
  let a0 : Act := { tmps := us.toArray ++ Array.replicate (gn.ntmps - us.toArray.size) undef, defers := [] }
  have behind : ∀ (rv : Value) (cs' : List Frame), VRel E2 (recV pv) rv → cs' = { c0 with mode := modeRec pu } :: cs →
      rest.wpSIn (Wf none) 0 C.prog (bodyPostS C.prog gn c0 cs fun e u' w' => ∃ E3, E3.w = w' ∧ E2.Go E3 ∧ HR C.N E3 ∧ E3.P = C.prog ∧ E3.H = lookH h3 ∧ (∀ id t, E3.top id = some t → id < nx3) ∧ 24 ≤ nx3 ∧ u' = modeRec pu ∧
        match e3 with
        | .pan v => ∃ uv, e = .panicked [{ v := uv, recovered := false }] ∧ VRel E3 v uv
        | _ => ∃ val, e = .returned val) (a0.put o.dst rv) cs' E2.w := fun rv cs' hrv hcs => by
    refine wpSIn_of_wpIn rfl ?_
    have hst0 : Rel C gn.ntmps [] E2 (fun id => id < nx2) (lk (zipA vs 0)) E2 a0 := by
      refine ⟨hP, ⟨hG, hN, hr⟩, hr, .refl E2, ⟨[], rfl, List.nodup_nil, fun r hr => by cases hr⟩, by simp [a0]; omega, fun t => ?_, hU⟩
      rw [lk_zipA]
      simp only [Nat.zero_le, if_true, Nat.sub_zero]
      cases ht : vs[t]? with
      | none => exact .any _
      | some d =>
        have hlt := (List.getElem?_eq_some_iff.1 ht).1
        have hu : us[t]? = some us[t] := List.getElem?_eq_getElem (by omega)
        simp only [Option.getD_some]
        have e : a0.tmps.getD t undef = us[t] := by
          simp only [a0, Array.getD_eq_getD_getElem?]
          rw [Array.getElem?_append_left (by simp; omega)]
          simp [hu]
        rw [e]
        exact hv t d _ ht hu
    have hst1 := hst0.put0 (dst := some tr) (v := recV pv) (u := rv) (fun t ht => by injection ht with ht; omega) hrv (U' := fun id => id < nx2) (fun id h => h)
    have hS : St C gn.ntmps [] E2 ((tr, recV pv, none) :: zipA vs 0) h2 nx2 E2 (a0.put o.dst rv) := by
      refine ⟨?_, hH, (DecOK.ofNone (zipA_dec vs 0)).put (some tr) (decFits_none _), h24⟩
      rw [hdst]
      have := lk_putO (some tr) (recV pv) none (zipA vs 0)
      rw [show ((tr, recV pv, none) :: zipA vs 0 : Fr) = putO (some tr) (recV pv) none (zipA vs 0) from rfl, this]
      exact hst1
    refine code_ev (ro := none) ho (rf := false) (fun h => by cases h) self ann k rest hok _ _ _ e3 fr3 h3 nx3 hev E2 _ hS _ (fun x E' a' hS' hx => ?_)
    have hdf : a'.defers = [] := by
      obtain ⟨rs, d1, d2, d3⟩ := hS'.rel.defers
      cases rs with
      | nil => simpa using d1
      | cons r rs => have := (d3 r (by simp)).1.2; rw [hmk] at this; cases this
    obtain ⟨_, val, _, hres, _⟩ := one_sound (fn := gn) hS'.rel hS'.H (by rw [hgr]; rfl) (K := fun _ => True) (by rw [hgr]; exact trivial)
    cases e3 with
    | exit i => exact absurd rfl (he3 i)
    | normal =>
      cases x <;> first | exact hx.elim | skip
      exact ⟨hdf, modeRec pu, hcs, _, hres, E', rfl, hS'.rel.go, hS'.rel.hr, hS'.rel.prog, hS'.H, hS'.rel.used, hS'.hnx, rfl, _, rfl⟩
    | ret =>
      cases x <;> first | exact hx.elim | skip
      exact ⟨hdf, modeRec pu, hcs, _, hres, E', rfl, hS'.rel.go, hS'.rel.hr, hS'.rel.prog, hS'.H, hS'.rel.used, hS'.hnx, rfl, _, rfl⟩
    | pan v =>
      cases x <;> first | exact hx.elim | skip
      obtain ⟨u, rfl, hu⟩ := hx
      exact ⟨hdf, modeRec pu, hcs, E', rfl, hS'.rel.go, hS'.rel.hr, hS'.rel.prog, hS'.H, hS'.rel.used, hS'.hnx, rfl, u, rfl, hu⟩
  have hexec : (execOp a0.eval o).run C.prog E2.w = .ok .recover E2.w := by
    simp only [execOp, hop, resolve, invoke, builtin, Sem.run_bind, Sem.run_pure, Result.andThen_ok]
  have hw : Region.wanted o (yielded #[o] a0.tmps) = true := by simp [Region.wanted, hgd]
  show wpOpsSIn (Wf none) 0 C.prog #[o] _ [0] a0 (c0 :: cs) E2.w
  simp only [wpOpsSIn]
  show (∀ f, _ → _) ∧ _
  refine ⟨fun f _ => trivial, ?_⟩
  have e0 : ∀ h, (#[o] : Array Oper)[0]'h = o := fun _ => rfl
  simp only [e0]
  rw [if_pos hw, hexec]
  cases pu with
  | none =>
    cases pv with
    | some v => exact hp.elim
    | none =>
      have hrc : recoverD (c0 :: cs) = none := by simp [recoverD, hc, modeOf]
      simp only [hrc]
      exact behind .nilIface (c0 :: cs) (.d _ _ .nili) (by
        have : c0 = { c0 with mode := modeRec none } := by
          cases c0; simp only [modeOf, modeRec] at hc ⊢; subst hc; rfl
        rw [← this])
  | some u =>
    cases pv with
    | none => exact hp.elim
    | some v =>
      have hrc : recoverD (c0 :: cs) = some (u, { c0 with mode := modeRec (some u) } :: cs) := by simp [recoverD, hc, modeOf, modeRec]
      simp only [hrc]
      exact behind u _ hp rfl
theorem MeetsH.withMarks {C : Ctx} {f : FuncId} {pre : List ABlk} {args : List AV} {out : Out} {post : List PB} (b : Bool) (h : MeetsH C f pre args out post) : MeetsH { C with marks := b } f pre args out post :=
  ⟨h.1, fun E us hst hr => by
    have := h.2 E us ⟨hst.prog, hst.G, hst.hN, hst.hr, hst.H, hst.top⟩ hr
    have := (callsIn_wide (n := 0)).2 this
    exact (callsIn_wide (n := 0)).1 (CallsIn.mono this (fun e w' ⟨E', h1, h2, h3⟩ => ⟨E', h1, ⟨h2.go, h2.hr, h2.H, h2.top⟩, h3⟩))⟩
theorem MeetsY.withMarks {C : Ctx} {id : Nat} {pre : List ABlk} {args : List AV} {out : Out} {post : List PB} (b : Bool) (h : MeetsY C id pre args out post) : MeetsY { C with marks := b } id pre args out post :=
  ⟨h.1, fun E us hst hr g hg => by
    obtain ⟨fn, tmps, assign, body, hy, hround⟩ := h.2 E us ⟨hst.prog, hst.G, hst.hN, hst.hr, hst.H, hst.top⟩ hr g hg
    exact ⟨fn, tmps, assign, body, hy, RoundIn.mono hround (fun e w' ⟨E', h1, h2, h3⟩ => ⟨E', h1, ⟨h2.go, h2.hr, h2.H, h2.top⟩, h3⟩)⟩⟩
theorem OrcOK.withMarks {C : Ctx} {orc : Orc} (b : Bool) (h : OrcOK C orc) : OrcOK { C with marks := b } orc := fun cal pre args out post hx => by
  have := h cal pre args out post hx
  cases cal with
  | fnc f => exact MeetsH.withMarks b this
  | yld id => exact MeetsY.withMarks b this
end Go.Vc
