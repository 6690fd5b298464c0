/- A part of the proof: general laws of a reading of the model by abstract data, or contracts of the functions that the law calls. -/
import Derived.Test.YtonajancjagefaaGreatVc15
import Derived.Test.YtonajancjagefaaGreatVc20
set_option maxRecDepth 100000
namespace Go.Vc
open Go Go.RowKit
def RDA (id : Nat) (h1 : Heap) (K : Heap → Prop) : Prop := match lookH h1 id with
  | some ⟨0, e1, .loop L1⟩ => L1.st = .ready ∧ K ((id, some ⟨0, e1, .loop { L1 with st := .busy }⟩) :: h1)
  | _ => False
def RDB (j : Option Code) (id : Nat) (h2 : Heap) (pre : List ABlk) (out : AV) (post : List PB) : Prop := match lookH h2 id with
  | some ⟨0, e2, .loop L2⟩ => POST (.d (.bool j.isNone)) ((id, some ⟨0, e2, .loop { L2 with st := stOf j, pend := j }⟩) :: h2) pre out post
  | _ => False
abbrev rdRB (id : Nat) (pre : List ABlk) (out : AV) (post : List PB) (ex : AExit) (_ : Fr) (h2 : Heap) (_ : Nat) : Prop := match ex with
  | .normal => RDB none id h2 pre out post
  | .ret => RDB (some .ret) id h2 pre out post
  | .exit i => RDB (some (.exit i)) id h2 pre out post
  | .pan _ => False
theorem rdRB_eq {id : Nat} {pre : List ABlk} {out : AV} {post : List PB} {ex : AExit} {fr : Fr} {h2 : Heap} {nx : Nat} (h : rdRB id pre out post ex fr h2 nx) : match jumpOf ex with | some j => RDB j id h2 pre out post | none => False := by
  cases ex <;> exact h
abbrev rdA (P : Ctx) (ann : Nat → List Nat) (n : Nat) (body : Code) (id : Nat) (pre : List ABlk) (out : AV) (post : List PB) (ex : AExit) (fr1 : Fr) (h1 : Heap) (nx1 : Nat) : Prop := match ex with
  | .normal => RDA id h1 fun h' => vcCode2 P false n ann body (rdRB id pre out post) fr1 h' nx1
  | _ => False
def rfOf : Code → Option (Code × Code)
  | .seq a b => match rfOf a with | some r => some r | none => rfOf b
  | .cond _ a b => match rfOf a with | some r => some r | none => rfOf b
  | .block _ c => rfOf c
  | .scope c => rfOf c
  | .loop c => rfOf c
  | .rangeFunc _ _ a b => some (a, b)
  | _ => none
def rfA (f : Func) : Code := match f.body with | some c => (match rfOf c with | some r => r.1 | none => .skip) | none => .skip
def rfB (f : Func) : Code := match f.body with | some c => (match rfOf c with | some r => r.2 | none => .skip) | none => .skip
def vcRound (P : Ctx) (ann : Nat → List Nat) (n : Nat) (tmps : List (Nat × AV)) (params : List Nat) (assign body : Code) (id : Nat) (pre : List ABlk) (args : List AV) (out : AV) (post : List PB) : Prop :=
  vcCode2 P false n ann assign (rdA P ann n body id pre out post) (putPs params args (tmpFr tmps)) (numbered 0 pre) 24
theorem meetsY_of_vc {C : Ctx} (hmk : C.marks = true) (ann : Nat → List Nat) {id : Nat} {pre : List ABlk} {args : List AV} {out : AV} {post : List PB} {e : TypeId} {L : LoopA} (hpre : pre[id]? = some ⟨0, e, .loop L⟩)
    (hc : (Nat.beq args.length L.params.length && L.params.all (fun t => Nat.blt t L.n) && codeOK C.prog L.n false L.assign && codeOK C.prog L.n false L.body && Nat.ble pre.length 24) = true)
    (hv : vcRound C ann L.n L.tmps L.params L.assign L.body id pre args out post) : MeetsY C id pre args (.ret out) post := by
  refine ⟨⟨e, L, hpre⟩, fun E us hst hrel g hm => ?_⟩
  simp only [Bool.and_eq_true] at hc
  obtain ⟨⟨⟨⟨c1, c2⟩, c3⟩, c4⟩, c5⟩ := hc
  have c1 := Nat.eq_of_beq_eq_true c1
  have c5 := Nat.le_of_ble_eq_true c5
  have hHid : E.H id = some ⟨0, e, .loop L⟩ := (hst.H id).trans hpre
  obtain ⟨k1, _, k3⟩ := hst.hr.blk id _ hHid
  obtain ⟨hN, o, ho', fn, tmps, d, hobj, hsz, hts⟩ := k3 g hm
  subst hobj
  obtain ⟨hl, hvr⟩ := hrel
  have hlen : us.length = L.params.length := by omega
  have hget : (getObj g).run C.prog E.w = .ok (.loop { state := L.st, pending := L.pend, fn := fn, tmps := tmps, params := L.params.toArray, assign := L.assign, body := L.body, defers := d }) E.w := by simp [getObj, Sem.run, ho']
  have hall : ∀ t, t ∈ L.params → t < L.n := fun t ht => by
    have := List.all_eq_true.1 c2 t ht
    simpa [Nat.blt_eq] using this
  have hP := putPs_rel (E := E) (n := L.n) L.params args us (tmpFr L.tmps) tmps hall hsz (fun t => by
    rcases tmpFr_get L.tmps t with h | h
    · rw [h]; exact .any _
    · exact hts t _ h) (tmpFr_dec _) (by omega) hl hvr
  let tm := (L.params.zip us).foldl (fun (tmps : Array Value) (p : Nat × Value) => tmps.setIfInBounds p.1 p.2) tmps
  refine ⟨fn, tm, L.assign, L.body, ?_, ?_⟩
  · simp only [Instr.yield, Instr.getLoop, Sem.run_bind, hget, Result.andThen_ok, Sem.run_pure]
    rw [if_neg (by simp [hlen])]
    simp only [Sem.run_pure, tm]
    congr 2
    rw [← Array.foldl_toList]
    simp
  · refine roundIn_of_wpIn (F := Fence.wide) (n := 0) trivial ?_
    have hlow : ∀ i t, E.top i = some t → i < 24 := fun i t ht => by have := hst.top i t ht; omega
    have hS0 : St C L.n [] E (putPs L.params args (tmpFr L.tmps)) (numbered 0 pre) 24 E { tmps := tm, defers := [] } := by
      refine ⟨⟨hst.prog, ⟨hst.G, hst.hN, hst.hr⟩, hst.hr, .refl E, ⟨[], rfl, List.nodup_nil, fun r hr => by cases hr⟩, hP.1, hP.2.1, hlow⟩, ?_, .ofNone hP.2.2, Nat.le_refl _⟩
      funext i
      rw [hst.H, lookH_numbered]
      simp
    unfold vcRound at hv
    rw [vcCode2_eq] at hv
    show L.assign.wpIn (Wf (some g)) 0 C.prog _ _ _
    refine code_sound (ro := some g) hmk hlow false ann L.assign c3 _ _ _ _ E _ hv hS0 _ (fun ex x fr1 h1 nx1 E1 a1 hq hS1 hx => ?_)
    cases ex with
    | exit i => exact hq.elim
    | ret => exact hq.elim
    | pan v => exact hq.elim
    | normal =>
    cases x <;> first | exact hx.elim | skip
    simp only [rdA, RDA] at hq
    split at hq
    · rename_i e1 L1 hL1
      obtain ⟨hst1, hq⟩ := hq
      have hH1 : E1.H id = some ⟨0, e1, .loop L1⟩ := by rw [hS1.H]; exact hL1
      have hm1 : E1.m id = some g := by
        rw [(hS1.rel.go.step.blk id 0 _ k1 hH1 (Nat.le_refl _)).1]; exact hm
      obtain ⟨fn1, tmps1, d1, hget1, w1, hset1, E2, rfl, hR2, hH2⟩ := loop_set hS1.rel hH1 hm1 .busy L1.pend
      refine ⟨E2.w, ?_, ?_⟩
      · simp only [Instr.beginRound, Instr.getLoop, Sem.run_bind, hget1, Result.andThen_ok, Sem.run_pure, hset1, hst1]
      · have hS2 : St C L.n [] E fr1 ((id, some ⟨0, e1, .loop { L1 with st := .busy }⟩) :: h1) nx1 E2 a1 := by
          refine ⟨hR2, ?_, hS1.dec, hS1.hnx⟩
          rw [hH2]
          funext i
          rw [lookH_cons, hS1.H]
          by_cases hi : i = id
          · subst hi; simp
          · rw [if_neg hi, if_neg (Ne.symm hi)]
        rw [vcCode2_eq] at hq
        refine code_sound (ro := some g) hmk hlow false ann L.body c4 _ _ _ _ E2 _ hq hS2 _ (fun ex x fr2 h2 nx2 E3 a3 hq hS3 hx => ?_)
        have hq := rdRB_eq hq
        split at hq
        · rename_i j hj
          unfold RDB at hq
          split at hq
          · rename_i e2 L2 hL2
            have hH3 : E3.H id = some ⟨0, e2, .loop L2⟩ := by rw [hS3.H]; exact hL2
            have hm3 : E3.m id = some g := by
              rw [(hS3.rel.go.step.blk id 0 _ k1 hH3 (Nat.le_refl _)).1]; exact hm
            obtain ⟨fn3, tmps3, d3, hget3, w3, hset3, E4, rfl, hR4, hH4⟩ := loop_set hS3.rel hH3 hm3 (stOf j) j
            have hH4' : E4.H = lookH ((id, some ⟨0, e2, .loop { L2 with st := stOf j, pend := j }⟩) :: h2) := by
              rw [hH4]
              funext i
              rw [lookH_cons, hS3.H]
              by_cases hi : i = id
              · subst hi; simp
              · rw [if_neg hi, if_neg (Ne.symm hi)]
            have hfin : ∃ v w', (Instr.endRound g j).run C.prog E3.w = .ok v w' ∧ ∃ E', E'.w = w' ∧ FinOK C pre post E E' ∧ OutR E' (.ret out) (.returned v) := by
              refine ⟨.bool j.isNone, E4.w, ?_, ?_⟩
              · simp only [Instr.endRound, Instr.getLoop, Sem.run_bind, hget3, Result.andThen_ok, Sem.run_pure]
                simp only [stOf] at hset3
                simp only [hset3, Result.andThen_ok]
              · exact end_sound hst hR4 hH4' (.d _ _ (.bool j.isNone)) hq
            cases ex with
            | normal =>
              injection hj with hj; subst hj
              cases x <;> first | exact hx.elim | exact hfin
            | ret =>
              injection hj with hj; subst hj
              cases x <;> first | exact hx.elim | exact hfin
            | exit i =>
              injection hj with hj; subst hj
              cases x <;> first | exact hx.elim | skip
              have hx : i = _ := hx
              subst hx
              exact hfin
            | pan v => cases hj
          · exact hq.elim
        · exact hq.elim
    · exact hq.elim
end Go.Vc

namespace Go.Vc
open Go Go.RowKit
end Go.Vc
