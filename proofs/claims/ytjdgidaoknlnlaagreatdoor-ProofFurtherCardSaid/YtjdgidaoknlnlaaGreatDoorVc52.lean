/- A part of the proof: general laws of a reading of the model by abstract data, or contracts of the functions that the law calls. -/
import Derived.Test.YtjdgidaoknlnlaaGreatDoorVc11
import Derived.Test.YtjdgidaoknlnlaaGreatDoorVc16
import Derived.Test.YtjdgidaoknlnlaaGreatDoorVc49
import Derived.Test.YtjdgidaoknlnlaaGreatDoorVc42
import Derived.Test.YtjdgidaoknlnlaaGreatDoorVc23
set_option maxRecDepth 100000
namespace Go.Vc
open Go Go.RowKit
def RDA (id : Nat) (h1 : Heap) (K : Heap → Prop) : Prop := match lookH h1 id with
  | some ⟨0, e1, .loop L1⟩ => L1.st = .ready ∧ K ((id, some ⟨0, e1, .loop { L1 with st := .busy }⟩) :: h1)
  | _ => False
def RDB (j : Option Code) (id : Nat) (h2 : Heap) (pre : List ABlk) (out : AV) (post : List PB) : Prop := match lookH h2 id with
  | some ⟨0, e2, .loop L2⟩ => POST (.d (.bool j.isNone)) ((id, some ⟨0, e2, .loop { L2 with st := stOf j, pend := j }⟩) :: h2) pre out post
  | _ => False
abbrev rdRB (id : Nat) (pre : List ABlk) (out : AV) (post : List PB) (ex : AExit) (_ : Fr) (h2 : Heap) (_ : Nat) : Prop := match ex with
  | .normal => RDB none id h2 pre out post
  | .ret => RDB (some .ret) id h2 pre out post
  | .exit i => RDB (some (.exit i)) id h2 pre out post
  | .pan _ => False
theorem rdRB_eq {id : Nat} {pre : List ABlk} {out : AV} {post : List PB} {ex : AExit} {fr : Fr} {h2 : Heap} {nx : Nat} (h : rdRB id pre out post ex fr h2 nx) : match jumpOf ex with | some j => RDB j id h2 pre out post | none => False := by
  cases ex <;> exact h
abbrev rdA (P : Ctx) (ann : Nat → List Nat) (n : Nat) (body : Code) (id : Nat) (pre : List ABlk) (out : AV) (post : List PB) (ex : AExit) (fr1 : Fr) (h1 : Heap) (nx1 : Nat) : Prop := match ex with
  | .normal => RDA id h1 fun h' => vcCode2 P false n ann body (rdRB id pre out post) fr1 h' nx1
  | _ => False
def rfOf : Code → Option (Code × Code)
  | .seq a b => match rfOf a with | some r => some r | none => rfOf b
  | .cond _ a b => match rfOf a with | some r => some r | none => rfOf b
  | .block _ c => rfOf c
  | .scope c => rfOf c
  | .loop c => rfOf c
  | .rangeFunc _ _ a b => some (a, b)
  | _ => none
def rfA (f : Func) : Code := match f.body with | some c => (match rfOf c with | some r => r.1 | none => .skip) | none => .skip
def rfB (f : Func) : Code := match f.body with | some c => (match rfOf c with | some r => r.2 | none => .skip) | none => .skip
def vcRound (P : Ctx) (ann : Nat → List Nat) (n : Nat) (tmps : List (Nat × AV)) (params : List Nat) (assign body : Code) (id : Nat) (pre : List ABlk) (args : List AV) (out : AV) (post : List PB) : Prop :=
  vcCode2 P false n ann assign (rdA P ann n body id pre out post) (putPs params args (tmpFr tmps)) (numbered 0 pre) 24
theorem meetsY_of_vc {C : Ctx} (hmk : C.marks = true) (ann : Nat → List Nat) {id : Nat} {pre : List ABlk} {args : List AV} {out : AV} {post : List PB} {e : TypeId} {L : LoopA} (hpre : pre[id]? = some ⟨0, e, .loop L⟩)
    (hc : (Nat.beq args.length L.params.length && L.params.all (fun t => Nat.blt t L.n) && codeOK C.prog L.n false L.assign && codeOK C.prog L.n false L.body && Nat.ble pre.length 24) = true)
    (hv : vcRound C ann L.n L.tmps L.params L.assign L.body id pre args out post) : MeetsY C id pre args (.ret out) post := by
  refine ⟨⟨e, L, hpre⟩, fun E us hst hrel g hm => ?_⟩
  simp only [Bool.and_eq_true] at hc
  obtain ⟨⟨⟨⟨c1, c2⟩, c3⟩, c4⟩, c5⟩ := hc
  have c1 := Nat.eq_of_beq_eq_true c1
  have c5 := Nat.le_of_ble_eq_true c5
  have hHid : E.H id = some ⟨0, e, .loop L⟩ := (hst.H id).trans hpre
  obtain ⟨k1, _, k3⟩ := hst.hr.blk id _ hHid
  obtain ⟨hN, o, ho', fn, tmps, d, hobj, hsz, hts⟩ := k3 g hm
  subst hobj
  obtain ⟨hl, hvr⟩ := hrel
  have hlen : us.length = L.params.length := by omega
  have hget : (getObj g).run C.prog E.w = .ok (.loop { state := L.st, pending := L.pend, fn := fn, tmps := tmps, params := L.params.toArray, assign := L.assign, body := L.body, defers := d }) E.w := by simp [getObj, Sem.run, ho']
  have hall : ∀ t, t ∈ L.params → t < L.n := fun t ht => by
    have := List.all_eq_true.1 c2 t ht
    simpa [Nat.blt_eq] using this
  have hP := putPs_rel (E := E) (n := L.n) L.params args us (tmpFr L.tmps) tmps hall hsz (fun t => by
    rcases tmpFr_get L.tmps t with h | h
    · rw [h]; exact .any _
    · exact hts t _ h) (tmpFr_dec _) (by omega) hl hvr
  let tm := (L.params.zip us).foldl (fun (tmps : Array Value) (p : Nat × Value) => tmps.setIfInBounds p.1 p.2) tmps
  refine ⟨fn, tm, L.assign, L.body, ?_, ?_⟩
  · simp only [Instr.yield, Instr.getLoop, Sem.run_bind, hget, Result.andThen_ok, Sem.run_pure]
    rw [if_neg (by simp [hlen])]
    simp only [Sem.run_pure, tm]
    congr 2
    rw [← Array.foldl_toList]
    simp
  · refine roundIn_of_wpIn (F := Fence.wide) (n := 0) trivial ?_
    have hlow : ∀ i t, E.top i = some t → i < 24 := fun i t ht => by have := hst.top i t ht; omega
    have hS0 : St C L.n [] E (putPs L.params args (tmpFr L.tmps)) (numbered 0 pre) 24 E { tmps := tm, defers := [] } := by
      refine ⟨⟨hst.prog, ⟨hst.G, hst.hN, hst.hr⟩, hst.hr, .refl E, ⟨[], rfl, List.nodup_nil, fun r hr => by cases hr⟩, hP.1, hP.2.1, hlow⟩, ?_, .ofNone hP.2.2, Nat.le_refl _⟩
      funext i
      rw [hst.H, lookH_numbered]
      simp
    unfold vcRound at hv
    rw [vcCode2_eq] at hv
    show L.assign.wpIn (Wf (some g)) 0 C.prog _ _ _
    refine code_sound (ro := some g) hmk hlow false ann L.assign c3 _ _ _ _ E _ hv hS0 _ (fun ex x fr1 h1 nx1 E1 a1 hq hS1 hx => ?_)
    cases ex with
    | exit i => exact hq.elim
    | ret => exact hq.elim
    | pan v => exact hq.elim
    | normal =>
    cases x <;> first | exact hx.elim | skip
    simp only [rdA, RDA] at hq
    split at hq
    · rename_i e1 L1 hL1
      obtain ⟨hst1, hq⟩ := hq
      have hH1 : E1.H id = some ⟨0, e1, .loop L1⟩ := by rw [hS1.H]; exact hL1
      have hm1 : E1.m id = some g := by
        rw [(hS1.rel.go.step.blk id 0 _ k1 hH1 (Nat.le_refl _)).1]; exact hm
      obtain ⟨fn1, tmps1, d1, hget1, w1, hset1, E2, rfl, hR2, hH2⟩ := loop_set hS1.rel hH1 hm1 .busy L1.pend
      refine ⟨E2.w, ?_, ?_⟩
      · simp only [Instr.beginRound, Instr.getLoop, Sem.run_bind, hget1, Result.andThen_ok, Sem.run_pure, hset1, hst1]
      · have hS2 : St C L.n [] E fr1 ((id, some ⟨0, e1, .loop { L1 with st := .busy }⟩) :: h1) nx1 E2 a1 := by
          refine ⟨hR2, ?_, hS1.dec, hS1.hnx⟩
          rw [hH2]
          funext i
          rw [lookH_cons, hS1.H]
          by_cases hi : i = id
          · subst hi; simp
          · rw [if_neg hi, if_neg (Ne.symm hi)]
        rw [vcCode2_eq] at hq
        refine code_sound (ro := some g) hmk hlow false ann L.body c4 _ _ _ _ E2 _ hq hS2 _ (fun ex x fr2 h2 nx2 E3 a3 hq hS3 hx => ?_)
        have hq := rdRB_eq hq
        split at hq
        · rename_i j hj
          unfold RDB at hq
          split at hq
          · rename_i e2 L2 hL2
            have hH3 : E3.H id = some ⟨0, e2, .loop L2⟩ := by rw [hS3.H]; exact hL2
            have hm3 : E3.m id = some g := by
              rw [(hS3.rel.go.step.blk id 0 _ k1 hH3 (Nat.le_refl _)).1]; exact hm
            obtain ⟨fn3, tmps3, d3, hget3, w3, hset3, E4, rfl, hR4, hH4⟩ := loop_set hS3.rel hH3 hm3 (stOf j) j
            have hH4' : E4.H = lookH ((id, some ⟨0, e2, .loop { L2 with st := stOf j, pend := j }⟩) :: h2) := by
              rw [hH4]
              funext i
              rw [lookH_cons, hS3.H]
              by_cases hi : i = id
              · subst hi; simp
              · rw [if_neg hi, if_neg (Ne.symm hi)]
            have hfin : ∃ v w', (Instr.endRound g j).run C.prog E3.w = .ok v w' ∧ ∃ E', E'.w = w' ∧ FinOK C pre post E E' ∧ OutR E' (.ret out) (.returned v) := by
              refine ⟨.bool j.isNone, E4.w, ?_, ?_⟩
              · simp only [Instr.endRound, Instr.getLoop, Sem.run_bind, hget3, Result.andThen_ok, Sem.run_pure]
                simp only [stOf] at hset3
                simp only [hset3, Result.andThen_ok]
              · exact end_sound hst hR4 hH4' (.d _ _ (.bool j.isNone)) hq
            cases ex with
            | normal =>
              injection hj with hj; subst hj
              cases x <;> first | exact hx.elim | exact hfin
            | ret =>
              injection hj with hj; subst hj
              cases x <;> first | exact hx.elim | exact hfin
            | exit i =>
              injection hj with hj; subst hj
              cases x <;> first | exact hx.elim | skip
              have hx : i = _ := hx
              subst hx
              exact hfin
            | pan v => cases hj
          · exact hq.elim
        · exact hq.elim
    · exact hq.elim
end Go.Vc

namespace Go.Vc
open Go Go.RowKit
theorem start_weak {C : Ctx} {pre preN : List ABlk} {args args' : List AV} (hk : pre.length ≤ 24) (hp : POST (.tup args) (numbered 0 pre) pre (.tup args') (preN.map .upd)) {E : Env} {us : List Value} (hst : StartOK C pre E) (hr : relL E args us) :
    ∃ E', E'.w = E.w ∧ StartOK C preN E' ∧ relL E' args' us ∧ E.Go E' := by
  have hS := start_rel hst hk hr (n := args.length) (Nat.le_refl _) []
  have hl := hr.1
  obtain ⟨E', h1, h2, h3⟩ := end_sound (u := .tuple us.toArray) hst hS.rel hS.H (.tup _ _ (by simpa using hl) (fun i v u hv hu => hr.2 i v u hv (by simpa using hu))) hp
  refine ⟨E', h1, ⟨?_, ?_, ?_, h2.hr, fun i => ?_, fun i t ht => ?_⟩, ?_, h2.go⟩
  · rw [← hst.prog]; exact h2.go.step.P
  · rw [h1]; exact hst.G
  · rw [h1]; exact hst.hN
  · rw [h2.H]
    simp only [postH, List.getElem?_map]
    cases preN[i]? with
    | none => rfl
    | some b => rfl
  · have := h2.top i t ht
    simpa using this
  · generalize hw : Value.tuple us.toArray = w at h3
    cases h3 with
    | tup vs us' hl' hd' =>
      injection hw with hw
      subst hw
      exact ⟨by simpa using hl', fun i v u hv hu => hd' i v u hv (by simpa using hu)⟩
def noSame : List PB → Bool
  | [] => true
  | .same :: _ => false
  | .gone :: r => noSame r
  | .upd _ :: r => noSame r
theorem noSame_postH {pre preN : List ABlk} : ∀ {post : List PB}, noSame post = true → ∀ i, postH preN post i = postH pre post i := by
  intro post h i
  unfold postH
  cases hi : post[i]? with
  | none => rfl
  | some p =>
    have hm : p ∈ post := List.mem_of_getElem? hi
    have hp : p ≠ .same := by
      clear hi
      induction post with
      | nil => cases hm
      | cons q r ih =>
        rcases List.mem_cons.1 hm with rfl | hm2
        · rintro rfl; cases h
        · cases q with
          | same => cases h
          | gone => exact ih h hm2
          | upd b => exact ih h hm2
    cases p with
    | same => exact absurd rfl hp
    | gone => rfl
    | upd b => rfl
theorem MeetsH.weak {C : Ctx} {f : FuncId} {pre preN : List ABlk} {args args' : List AV} {out : Out} {post : List PB} (h : MeetsH C f preN args' out post) (hp : POST (.tup args) (numbered 0 pre) pre (.tup args') (preN.map .upd)) (hs : noSame post = true) (hk : pre.length ≤ 24) : MeetsH C f pre args out post := by
  refine ⟨h.1, fun E us hst hr => ?_⟩
  obtain ⟨E1, h1, h2, h3, h4⟩ := start_weak hk hp hst hr
  have := h.2 E1 us h2 h3
  rw [h1] at this
  refine Calls.mono this (fun e w' hq => ?_)
  obtain ⟨E', e1, e2, e3⟩ := hq
  refine ⟨E', e1, ⟨h4.trans e2.go, e2.hr, fun i => ?_, e2.top⟩, e3⟩
  rw [e2.H]
  exact noSame_postH hs i
end Go.Vc

namespace Go.Vc
open Go Go.Proofs
variable {g : GG}
def Pg.okw (p : Pg) : Bool := inB p.people 2 6 && (inB p.lines.length 1 6 && (decide (p.log.length ≤ 20) && (!p.lines.any (fun l => !lnB p l) && !p.log.any (fun e => !entB p e))))
theorem Pg.okw_len {p : Pg} (h : p.okw = true) : 2 ≤ p.people ∧ p.people ≤ 6 ∧ 1 ≤ p.lines.length ∧ p.lines.length ≤ 6 ∧ p.log.length ≤ 20 ∧ (∀ l, l ∈ p.lines → lnB p l = true) ∧ ∀ e, e ∈ p.log → entB p e = true := by
  simp only [Pg.okw, Bool.and_eq_true, decide_eq_true_eq] at h
  obtain ⟨h1, h2, h3, h4, h5⟩ := h
  simp [inB] at h1 h2
  refine ⟨h1.1, h1.2, by omega, by omega, h3, fun l hl => ?_, fun e he => ?_⟩
  · simp at h4
    exact h4 l hl
  · simp at h5
    exact h5 e he
theorem logE_okw {p : Pg} {L : List Nt} (h : p.ok = true) (hl : L.length ≤ 20) (hL : ∀ e, e ∈ L → entB p e = true) : (logE p L).okw = true := by
  simp only [Pg.ok, Pg.okw, Bool.and_eq_true, decide_eq_true_eq] at h ⊢
  obtain ⟨h1, h2, h3, h4, h5⟩ := h
  refine ⟨h1, h2, hl, h4, ?_⟩
  have : (L.any fun e => !entB (logE p L) e) = false := by
    rw [List.any_eq_false]
    intro e he
    have : entB (logE p L) e = entB p e := rfl
    rw [this, hL e he]
    simp
  show (!(L.any fun e => !entB (logE p L) e)) = true
  rw [this]; rfl
namespace W9
section
attribute [local simp] and_assoc
theorem st0_ok {p : Pg} (h : p.okw = true) : PsOK p (st0 p) := by
  obtain ⟨a1, a2, a3, a4, a5, a6, a7⟩ := Pg.okw_len h
  refine ⟨by simp [st0], by simp [st0], by simp [st0], fun n hn => ?_, a4⟩
  simp only [st0, List.mem_map] at hn
  obtain ⟨l, hl, rfl⟩ := hn
  have := a6 l hl
  simp [lnB, numB, inB] at this
  omega
theorem stN_ok {p : Pg} (h : p.okw = true) : ∀ i, i ≤ p.log.length → PsOK p (stN p i) ∧ (stN p i).missed.length ≤ 6 * i
  | 0, _ => ⟨st0_ok h, by simp [stN, st0]⟩
  | i + 1, hi => by
    obtain ⟨h1, h2⟩ := stN_ok h i (by omega)
    have hg : p.log[i]? = some p.log[i] := List.getElem?_eq_getElem (by omega)
    have he := (Pg.okw_len h).2.2.2.2.2.2 _ (List.getElem_mem (show i < p.log.length by omega))
    simp only [stN, hg]
    obtain ⟨h3, h4⟩ := h1.stepS i _ he
    exact ⟨h3, by omega⟩
set_option maxHeartbeats 4000000 in
theorem pageOf_meets (p : Pg) (hok : p.okw = true) : MeetsH (Tz g) f_proof_pageOf [] [.d p.d] (.ret (.ptr 0 0 0 0)) ((stBlks 0 (fun _ => 0) p (stN p p.log.length)).map .upd) := by
  obtain ⟨a1, a2, a3, a4, a5, a6, a7⟩ := Pg.okw_len hok
  obtain ⟨m, hm⟩ : ∃ m : Nat, p.people = m := ⟨p.people.toNat, by omega⟩
  refine meetsH_proof_pageOf rfl ?_
  unfold vc_proof_pageOf
  simp [Pg.d, lns, ents]
  refine LOOP.mkB Nat (fun k => [.ptr 24 0 0 0, .ptr 64 0 0 0, .d (lns p.lines), .d (int p.lines.length), .d (int k)])
    (fun k => [(64, some ⟨0, T_proof_page, .box [.d (int p.people), .d (lns p.lines), .d (ents p.log), .own 112 k, .own 113 k, .mapv 48, .own 114 k, .zc]⟩), (112, some ⟨k, T_int, .lst (((p.lines.map Ln.set).take k).map int)⟩), (113, some ⟨k, T_int, .lst (((p.lines.map Ln.setter).take k).map int)⟩), (114, some ⟨k, T_int, .lst (((p.lines.map (fun _ => (-1 : Int))).take k).map int)⟩), (48, some ⟨0, 0, .mp [] 0⟩), (24, some ⟨0, T_api_ProofPage, .box [.d (int p.people), .d (lns p.lines), .d (ents p.log)]⟩)])
    (fun k => k ≤ p.lines.length) (fun k => p.lines.length - k) [] [(64, 3, T_int), (64, 4, T_int), (64, 6, T_int)] (by simp) 0 (by omega) (by simp [WEAK, lns, ents, lookH]) (fun _ _ => rfl) ?_
  intro k hk
  simp [lns, ents]
  constructor
  · intro hlt
    have hg : p.lines[k]? = some p.lines[k] := List.getElem?_eq_getElem (by omega)
    generalize p.lines[k] = l at hg
    have hgD : (p.lines.map Ln.d)[k]? = some l.d := by rw [List.getElem?_map, hg]; rfl
    unfold vc_proof_pageOf_k2
    refine R_IADDRd hgD rfl ?_
    refine R_LOADct (Nat.le_refl 3) ?_
    refine R_ALLOC ?_
    refine R_STOREall rfl rfl rfl ?_
    refine R_FADDR rfl ?_
    refine R_FADDR rfl ?_
    refine R_LOADb rfl rfl ?_
    refine R_FADDR rfl ?_
    refine R_LOADb rfl rfl ?_
    refine R_MKS1 rfl ?_
    refine R_APP rfl (by simp) rfl (by simp; omega) ?_
    refine R_FADDR rfl ?_
    refine R_FADDR rfl ?_
    refine R_LOADb rfl rfl ?_
    refine R_FADDR rfl ?_
    refine R_LOADb rfl rfl ?_
    refine R_MKS1 rfl ?_
    refine R_APP rfl (by simp) rfl (by simp; omega) ?_
    refine R_FADDR rfl ?_
    refine R_FADDR rfl ?_
    refine R_LOADb rfl rfl ?_
    refine R_MKS1 rfl ?_
    refine R_APP rfl (by simp) rfl (by simp; omega) ?_
    refine R_FADDR rfl ?_
    refine R_FADDR rfl ?_
    refine R_STOREb rfl rfl (by simp) ?_
    refine R_FADDR rfl ?_
    refine R_FADDR rfl ?_
    refine R_STOREb rfl rfl (by simp) ?_
    refine R_FADDR rfl ?_
    refine R_FADDR rfl ?_
    refine R_STOREb rfl rfl (by simp) ?_
    refine ⟨rfl, ?_⟩
    refine R_BIN rfl ?_
    rw [wrap_id (n := (k : Int) + 1) (by omega) (by omega)]
    refine ⟨k + 1, by omega, ?_, by omega⟩
    have t1 : (p.lines.map (int ∘ Ln.set)).take (k + 1) = (p.lines.map (int ∘ Ln.set)).take k ++ [int l.set] := take_next (by simp [hg])
    have t2 : (p.lines.map (int ∘ Ln.setter)).take (k + 1) = (p.lines.map (int ∘ Ln.setter)).take k ++ [int l.setter] := take_next (by simp [hg])
    have t3 : (p.lines.map (int ∘ fun (_ : Ln) => (-1 : Int))).take (k + 1) = (p.lines.map (int ∘ fun (_ : Ln) => (-1 : Int))).take k ++ [int (-1)] := take_next (by simp [hg])
    rw [t1, t2, t3]
    simp [WEAK, lookH]
  · intro hge
    have : k = p.lines.length := by omega
    subst this
    have u1 : (p.lines.map (int ∘ Ln.set)).take p.lines.length = (st0 p).now.map int := by rw [take_all (by simp)]; simp [st0]
    have u2 : (p.lines.map (int ∘ Ln.setter)).take p.lines.length = (st0 p).setters.map int := by rw [take_all (by simp)]; simp [st0]
    have u3 : (p.lines.map (int ∘ fun (_ : Ln) => (-1 : Int))).take p.lines.length = (st0 p).changed.map int := by rw [take_all (by simp)]; simp [st0]
    rw [u1, u2, u3]
    simp [vc_proof_pageOf_k3, lookH]
    refine LOOP.mkB Nat (fun i => [.ptr 64 0 0 0, .ptr 136 0 0 0, .d (.list (p.log.map Nt.d)), .d (int p.log.length), .d (int i)])
      (fun i => [(64, some ⟨0, T_proof_page, .box [.d (int p.people), .d (.list (p.lines.map Ln.d)), .d (.list (p.log.map Nt.d)), .own 112 p.lines.length, .own 113 p.lines.length, .mapv 48, .own 114 p.lines.length, .own 184 (stN p i).missed.length]⟩), (112, some ⟨p.lines.length, T_int, .lst ((stN p i).now.map int)⟩), (113, some ⟨p.lines.length, T_int, .lst ((stN p i).setters.map int)⟩), (48, some ⟨0, 0, .mp (keysM (stN p i).keys) (stN p i).ck⟩), (114, some ⟨p.lines.length, T_int, .lst ((stN p i).changed.map int)⟩), (184, some ⟨(stN p i).missed.length, T_api_ProofMiss, .lst ((stN p i).missed.map missD)⟩), (136, some ⟨0, T_3_func_p_proof_page_int_l_int, .box [.d (.fn f_p_proof_page_reads [] []), .d (.fn f_p_proof_page_mends [] []), .d (.fn f_p_proof_page_falls [] [])]⟩)])
      (fun i => i ≤ p.log.length) (fun i => p.log.length - i) [] [(64, 7, T_api_ProofMiss)] (by simp) 0 (by omega) (by simp [WEAK, lookH, stN, st0, keysM]) (fun _ _ => rfl) ?_
    intro i hi
    obtain ⟨hps, hmi⟩ := stN_ok hok i hi
    simp only [vc_proof_pageOf_k1]
    refine R_BIN rfl (R_COND (fun hlt => ?_) (fun hge => ?_))
    · have hlt : i < p.log.length := by simpa using hlt
      have hg : p.log[i]? = some p.log[i] := List.getElem?_eq_getElem hlt
      have he := a7 _ (List.getElem_mem hlt)
      generalize p.log[i] = e at hg he
      have hst : stN p (i + 1) = stepS p i e (stN p i) := by simp [stN, hg]
      have hgD : (p.log.map Nt.d)[i]? = some e.d := by rw [List.getElem?_map, hg]; rfl
      refine R_IADDRd hgD rfl ?_
      refine R_LOADct (Nat.le_refl 2) ?_
      refine R_ALLOC ?_
      refine R_STOREall rfl rfl rfl ?_
      refine R_FADDR rfl ?_
      refine R_LOADb rfl rfl ?_
      generalize stN p i = s at hps hmi hst ⊢
      rcases entB_cases he with ⟨a, rfl, ha⟩ | ⟨a, b, c, rfl, ha, hb, hc⟩ | ⟨a, b, c, n, rfl, ha, hb, hab, hcn, hn⟩
      · refine R_BIN rfl ?_
        rw [wrap_id (by simp) (by simp)]
        refine R_AADDR (by simp) (by simp) rfl ?_
        refine R_LOADb rfl rfl ?_
        refine R_FADDR rfl ?_
        refine R_LOADb rfl rfl ?_
        refine R_CALLV ?_
        have hC := falls_meets (g := g) p.lines.length id p s i a m hps ha hm (by omega)
        have hok2 := (hps.stepS i _ he).1
        have hst2 := hst
        generalize stepS p i ⟨3, [(a : Int)]⟩ s = s2 at hC hok2 hst2
        refine CALL.gen [64, 112, 113, 48, 114, 184] [false, false, false] [.ptr 0 0 0 0, .d (int i), .d (ints [(a : Int)])] (stBlks p.lines.length id p s) _ _ hC rfl (by simp [argsM, AV.ren, rho, Nt.d, ints]) ?_ ?_ ?_ ?_ ?_
        · simp [preB, stBlks, stBox, rho, bodyOf, lookH, Body.ren, AV.ren, AV.ren.renL, lns, ents]
        · simp [ids.idsL, ids, preIds, stBlks, stBox, Body.ids, lowL]
        · simp [lentL, disjB]
        · simp [stBlks]
        · simp [vc_proof_pageOf_k0, AV.ren, stBlks, stBox, upsP, rho, ABlk.ren, Body.ren, AV.ren.renL, lentL, kills]
          refine ⟨rfl, ?_⟩
          rw [wrap_id (n := (i : Int) + 1) (by omega) (by omega)]
          refine ⟨i + 1, by omega, ?_, by omega⟩
          rw [hst2]
          simp [WEAK, lookH, lns, ents]
      · refine R_BIN rfl ?_
        rw [wrap_id (by simp) (by simp)]
        refine R_AADDR (by simp) (by simp) rfl ?_
        refine R_LOADb rfl rfl ?_
        refine R_FADDR rfl ?_
        refine R_LOADb rfl rfl ?_
        refine R_CALLV ?_
        have hC := mends_meets (g := g) p.lines.length id p s i b m a c hps hb hm (by omega)
        have hok2 := (hps.stepS i _ he).1
        have hst2 := hst
        generalize stepS p i ⟨2, [a, (b : Int), c]⟩ s = s2 at hC hok2 hst2
        refine CALL.gen [64, 112, 113, 48, 114, 184] [false, false, false] [.ptr 0 0 0 0, .d (int i), .d (ints [a, (b : Int), c])] (stBlks p.lines.length id p s) _ _ hC rfl (by simp [argsM, AV.ren, rho, Nt.d, ints]) ?_ ?_ ?_ ?_ ?_
        · simp [preB, stBlks, stBox, rho, bodyOf, lookH, Body.ren, AV.ren, AV.ren.renL, lns, ents]
        · simp [ids.idsL, ids, preIds, stBlks, stBox, Body.ids, lowL]
        · simp [lentL, disjB]
        · simp [stBlks]
        · simp [vc_proof_pageOf_k0, AV.ren, stBlks, stBox, upsP, rho, ABlk.ren, Body.ren, AV.ren.renL, lentL, kills]
          refine ⟨rfl, ?_⟩
          rw [wrap_id (n := (i : Int) + 1) (by omega) (by omega)]
          refine ⟨i + 1, by omega, ?_, by omega⟩
          rw [hst2]
          simp [WEAK, lookH, lns, ents]
      · have e1 : stepS p i ⟨1, [a, b, (c : Int), (c : Int) + n - 1]⟩ s = readN p i a b n c s := by
          have e2 : ((c : Int) + n - 1 - c + 1).toNat = n := by omega
          simp only [stepS, Int.toNat_natCast, e2]
        refine R_BIN rfl ?_
        rw [wrap_id (by simp) (by simp)]
        refine R_AADDR (by simp) (by simp) rfl ?_
        refine R_LOADb rfl rfl ?_
        refine R_FADDR rfl ?_
        refine R_LOADb rfl rfl ?_
        refine R_CALLV ?_
        have hC := reads_meets (g := g) p.lines.length p s i c n a b ((c : Int) + n - 1) hps rfl hcn (by omega)
        rw [← e1] at hC
        have hok2 := (hps.stepS i _ he).1
        have hst2 := hst
        generalize stepS p i ⟨1, [a, b, (c : Int), (c : Int) + n - 1]⟩ s = s2 at hC hok2 hst2
        refine CALL.gen [64, 112, 113, 48, 114, 184] [false, false, false] [.ptr 0 0 0 0, .d (int i), .d (ints [a, b, (c : Int), (c : Int) + n - 1])] (stBlks p.lines.length id p s) _ _ hC rfl (by simp [argsM, AV.ren, rho, Nt.d, ints]) ?_ ?_ ?_ ?_ ?_
        · simp [preB, stBlks, stBox, rho, bodyOf, lookH, Body.ren, AV.ren, AV.ren.renL, lns, ents]
        · simp [ids.idsL, ids, preIds, stBlks, stBox, Body.ids, lowL]
        · simp [lentL, disjB]
        · simp [stBlks]
        · simp [vc_proof_pageOf_k0, AV.ren, stBlks, stBox, upsP, rho, ABlk.ren, Body.ren, AV.ren.renL, lentL, kills]
          refine ⟨rfl, ?_⟩
          rw [wrap_id (n := (i : Int) + 1) (by omega) (by omega)]
          refine ⟨i + 1, by omega, ?_, by omega⟩
          rw [hst2]
          simp [WEAK, lookH, lns, ents]
    · have : i = p.log.length := by
        have : ¬ i < p.log.length := by simpa using hge
        omega
      subst this
      refine ⟨[some 64, some 112, some 113, some 48, some 114, some 184], ?_⟩
      simp [stBlks, stBox, yv, yv.yvL, yh, yb, yver, bodyOf, fz, fz.fzL, fzH, fzB, stay, src, lookH, NodupB, disjB, argD, toD, lns, ents]
end
section
attribute [local simp] and_assoc
theorem nodup_stN {p : Pg} (hok : p.okw = true) : ∀ i, i ≤ p.log.length → nodupK (stN p i).keys
  | 0, _ => trivial
  | i + 1, hi => by
    have hg : p.log[i]? = some p.log[i] := List.getElem?_eq_getElem (by omega)
    have he := (Pg.okw_len hok).2.2.2.2.2.2 _ (List.getElem_mem (show i < p.log.length by omega))
    simp only [stN, hg]
    exact nodup_stepS he (nodup_stN hok i (by omega))
end
section
attribute [local simp] and_assoc
theorem ref09_Setter_meets (p : Pg) (line : Nat) (hok : p.okw = true) (hl : line < p.lines.length) : ∀ i, i ≤ p.log.length → Meets (Tz g) f_ref09_Setter [p.d, int line, int i] ⟨.d (int ((stN p i).setters.getD line 0)), []⟩
  | 0, _ => by
    refine meets_ref09_Setter ?_
    unfold vc_ref09_Setter
    have hg : p.lines[line]? = some p.lines[line] := List.getElem?_eq_getElem hl
    generalize p.lines[line] = l at hg
    simp [Pg.d, lns, ents, hg, Ln.d, stN, st0]
  | i + 1, hi => by
    have ih := ref09_Setter_meets p line hok hl i (by omega)
    obtain ⟨a1, a2, a3, a4, a5, a6, a7⟩ := Pg.okw_len hok
    have hg : p.log[i]? = some p.log[i] := List.getElem?_eq_getElem (by omega)
    have he := a7 _ (List.getElem_mem (show i < p.log.length by omega))
    have hst := (step_line i line (stN_ok hok i (by omega)).1 he hl).2.1
    generalize p.log[i] = e at hg he hst
    have e1 : stN p (i + 1) = stepS p i e (stN p i) := by simp only [stN, hg]
    rw [e1, hst]
    generalize (stN p i).setters.getD line 0 = n at ih
    have h0 : ¬ ((i : Int) + 1 = 0) := by omega
    refine meets_ref09_Setter ?_
    unfold vc_ref09_Setter
    have hw := wrap_id (n := (i : Int)) (by omega) (by omega)
    rcases entB_cases he with ⟨a, rfl, ha⟩ | ⟨a, b, c, rfl, ha, hb, hc⟩ | ⟨a, b, c, n, rfl, ha, hb, hab, hcn, hn⟩
    · simp [Pg.d, lns, ents, h0, hw, hg, Nt.d, ints, chgB]
      refine CALL.val [p.d, int line, int i] _ rfl ih (.inl rfl) ?_
      cases decide ((a : Int) = line) <;> simp
    · simp [Pg.d, lns, ents, h0, hw, hg, Nt.d, ints, chgB]
      refine ⟨fun h => ?_, fun h => ?_⟩
      · rw [decide_eq_true h]
      · refine CALL.val [p.d, int line, int i] _ rfl ih (.inl rfl) ?_
        rw [decide_eq_false h]
    · simp [Pg.d, lns, ents, h0, hw, hg, Nt.d, ints, chgB]
      refine CALL.val [p.d, int line, int i] _ rfl ih (.inl rfl) ?_
      simp
end
section
attribute [local simp] and_assoc
theorem chN_spec {p : Pg} (hok : p.okw = true) {line : Nat} (hl : line < p.lines.length) : ∀ M, M ≤ p.log.length → (-1 ≤ chN p line M ∧ chN p line M < M) ∧ ∀ k e, k < M → p.log[k]? = some e → (chgB e line = true → (k : Int) ≤ chN p line M) ∧ (chgB e line = false → chN p line M ≠ k)
  | 0, _ => by
    refine ⟨?_, fun k e hk => by omega⟩
    have : (st0 p).changed.getD line 0 = -1 := by
      simp only [st0]
      rw [List.getD_eq_getElem?_getD, List.getElem?_map, List.getElem?_eq_getElem hl]; rfl
    simp only [chN, stN, this]
    omega
  | M + 1, hM => by
    obtain ⟨h1, h2⟩ := chN_spec hok hl M (by omega)
    have hg : p.log[M]? = some p.log[M] := List.getElem?_eq_getElem (by omega)
    have he := (Pg.okw_len hok).2.2.2.2.2.2 _ (List.getElem_mem (show M < p.log.length by omega))
    have hst := (step_line M line (stN_ok hok M (by omega)).1 he hl).2.2
    generalize p.log[M] = x at hg he hst
    have e1 : chN p line (M + 1) = (match chgB x line with | false => chN p line M | true => (M : Int)) := by
      simp only [chN, stN, hg]
      exact hst
    cases hc : chgB x line with
    | false =>
      rw [hc] at e1
      have e1 : chN p line (M + 1) = chN p line M := e1
      rw [e1]
      refine ⟨by omega, fun k e hk hke => ?_⟩
      by_cases hkM : k = M
      · subst hkM
        rw [hg] at hke
        obtain rfl := Option.some.inj hke
        rw [hc]
        exact ⟨(fun h => by cases h), (fun _ => by omega)⟩
      · exact h2 k e (by omega) hke
    | true =>
      rw [hc] at e1
      have e1 : chN p line (M + 1) = (M : Int) := e1
      rw [e1]
      refine ⟨by omega, fun k e hk hke => ?_⟩
      by_cases hkM : k = M
      · subst hkM
        rw [hg] at hke
        obtain rfl := Option.some.inj hke
        rw [hc]
        exact ⟨(fun _ => by omega), (fun h => by cases h)⟩
      · exact ⟨(fun _ => by omega), (fun _ => by omega)⟩
theorem ref09_changed_meets (p : Pg) (line i : Nat) (hok : p.okw = true) (hl : line < p.lines.length) (hi : i ≤ p.log.length) : Meets (Tz g) f_ref09_changed [p.d, int line, int i] ⟨.d (.bool (decide ((i : Int) ≤ chN p line p.log.length))), []⟩ := by
  obtain ⟨a1, a2, a3, a4, a5, a6, a7⟩ := Pg.okw_len hok
  obtain ⟨⟨c1, c2⟩, c3⟩ := chN_spec hok hl p.log.length (Nat.le_refl _)
  generalize chN p line p.log.length = ch at c1 c2 c3
  refine meets_ref09_changed ?_
  unfold vc_ref09_changed
  simp [Pg.d, lns, ents]
  refine LOOP.mk Nat (fun k => [.d (int line), .ptr 24 0 0 0, .d (int k)]) (fun _ => [(24, some ⟨0, T_api_ProofPage, .box [.d (int p.people), .d (.list (p.lines.map Ln.d)), .d (.list (p.log.map Nt.d))]⟩)])
    (fun k => k ≤ p.log.length ∧ ((i : Int) ≤ ch ↔ (k : Int) ≤ ch)) (fun k => p.log.length - k) [] (by simp) i ⟨by omega, Iff.rfl⟩ (by simp [WEAK]) (fun _ _ => rfl) ?_
  rintro k ⟨hk, he⟩
  simp [vc_ref09_changed_k0]
  constructor
  · intro hlt
    have hg : p.log[k]? = some p.log[k] := List.getElem?_eq_getElem hlt
    have hen := a7 _ (List.getElem_mem hlt)
    obtain ⟨d1, d2⟩ := c3 k _ hlt hg
    generalize p.log[k] = e at hg hen d1 d2
    have hC := ref09_changes_meets (g := g) p e line hen
    simp [hg, Nt.d]
    refine CALL.val [e.d, int line] _ rfl hC (.inl rfl) ?_
    cases hc : chgB e line with
    | true =>
      have := d1 hc
      have h2 : (i : Int) ≤ ch := he.2 this
      simp [h2]
    | false =>
      have := d2 hc
      simp
      rw [wrap_id (n := (k : Int) + 1) (by omega) (by omega)]
      exact ⟨k + 1, by omega, by omega, by simp [WEAK], by omega⟩
  · intro hge
    have : ¬ (i : Int) ≤ ch := by omega
    simpa using this
theorem has_read {p : Pg} (hok : p.okw = true) {line n : Nat} (hl : line < p.lines.length) (hn : (n : Int) < p.people) : ∀ M, M ≤ p.log.length → hasK ((line : Int), (n : Int)) (stN p M).keys = metB p line n (chN p line M) M
  | 0, _ => by
    simp [stN, st0, hasK, metB]
  | M + 1, hM => by
    have ih := has_read hok hl hn M (by omega)
    have hg : p.log[M]? = some p.log[M] := List.getElem?_eq_getElem (by omega)
    have he := (Pg.okw_len hok).2.2.2.2.2.2 _ (List.getElem_mem (show M < p.log.length by omega))
    have hst := (step_line M line (stN_ok hok M (by omega)).1 he hl).2.2
    have hnd := nodup_stN hok M (by omega)
    obtain ⟨⟨c1, c2⟩, _⟩ := chN_spec hok hl M (by omega)
    generalize p.log[M] = x at hg he hst
    have e1 : chN p line (M + 1) = (match chgB x line with | false => chN p line M | true => (M : Int)) := by
      simp only [chN, stN, hg]
      exact hst
    have e2 : (stN p (M + 1)).keys = (stepS p M x (stN p M)).keys := by simp only [stN, hg]
    have e3 : chgB x line = false → metB p line n (chN p line (M + 1)) (M + 1) = (hasK ((line : Int), (n : Int)) (stN p M).keys || rdnB x line n) := fun hc => by
      rw [hc] at e1
      have e1 : chN p line (M + 1) = chN p line M := e1
      have hd : decide (chN p line M < (M : Int)) = true := decide_eq_true c2
      rw [e1, ih]
      simp only [metB, hg, hd, Bool.and_true]
    have e4 : chgB x line = true → metB p line n (chN p line (M + 1)) (M + 1) = false := fun hc => by
      rw [hc] at e1
      have e1 : chN p line (M + 1) = (M : Int) := e1
      rw [e1]
      exact metB_false _ _ _ _ _ (by omega)
    have hpp : ((n : Int) < (p.people.toNat : Int)) := by omega
    rw [e2]
    rcases entB_cases he with ⟨a, rfl, ha⟩ | ⟨a, b, c, rfl, ha, hb, hc⟩ | ⟨a, b, c, m, rfl, ha, hb, hab, hcm, hm⟩
    · have h0 : rdnB ⟨3, [(a : Int)]⟩ line n = false := rfl
      simp only [stepS, changeS, Int.toNat_natCast, (hasK_delN a line p.people.toNat (n : Int) _ hnd).2]
      by_cases hal : a = line
      · rw [e4 (by simp [chgB, hal])]
        have h5 : (n : Int) < max p.people 0 := by omega
        simp [hal, h5]
      · rw [e3 (by simp [chgB]; omega), h0]
        have : ¬ line = a := fun h => hal h.symm
        simp [this]
    · have h0 : rdnB ⟨2, [a, (b : Int), c]⟩ line n = false := rfl
      simp only [stepS, changeS, Int.toNat_natCast, (hasK_delN b line p.people.toNat (n : Int) _ hnd).2]
      by_cases hal : b = line
      · rw [e4 (by simp [chgB, hal])]
        have h5 : (n : Int) < max p.people 0 := by omega
        simp [hal, h5]
      · rw [e3 (by simp [chgB]; omega), h0]
        have : ¬ line = b := fun h => hal h.symm
        simp [this]
    · have e0 : ((c : Int) + m - 1 - c + 1).toNat = m := by omega
      have hb0 : rdnB ⟨1, [a, b, (c : Int), (c : Int) + m - 1]⟩ line n = (decide (c ≤ line) && (decide (line < c + m) && (decide ((n : Int) = a) || decide ((n : Int) = b)))) := by
        have hc1 : decide ((c : Int) ≤ (line : Int)) = decide (c ≤ line) := decide_eq_decide.2 (by omega)
        have hc2 : decide ((line : Int) ≤ (c : Int) + m - 1) = decide (line < c + m) := decide_eq_decide.2 (by omega)
        have hc3 : decide (a = (n : Int)) = decide ((n : Int) = a) := decide_eq_decide.2 ⟨Eq.symm, Eq.symm⟩
        have hc4 : decide (b = (n : Int)) = decide ((n : Int) = b) := decide_eq_decide.2 ⟨Eq.symm, Eq.symm⟩
        simp only [rdnB, inB, hc1, hc2, hc3, hc4, Bool.and_assoc]
      rw [e3 rfl]
      simp only [stepS, Int.toNat_natCast, e0]
      rw [hasK_readN, ← hb0]
theorem ref09_Readers_meets (p : Pg) (line : Nat) (hok : p.okw = true) (hl : line < p.lines.length) : Meets (Tz g) f_ref09_Readers [p.d, int line] ⟨.d (ints (readersP p line)), []⟩ := by
  obtain ⟨a1, a2, a3, a4, a5, a6, a7⟩ := Pg.okw_len hok
  obtain ⟨m, hm⟩ : ∃ m : Nat, p.people = m := ⟨p.people.toNat, by omega⟩
  have hpn : p.people.toNat = m := by omega
  have hSet := ref09_Setter_meets (g := g) p line hok hl p.log.length (Nat.le_refl _)
  have hCh := fun i hi => ref09_changed_meets (g := g) p line i hok hl hi
  have hkey := fun (n : Nat) (hn : (n : Int) < p.people) => has_read (n := n) hok hl hn p.log.length (Nat.le_refl _)
  have hrd : ∀ n : Nat, rdB (stN p p.log.length) line n = (hasK ((line : Int), (n : Int)) (stN p p.log.length).keys && !decide ((n : Int) = (stN p p.log.length).setters.getD line 0)) := fun n => rfl
  unfold readersP
  rw [hpn]
  generalize chN p line p.log.length = ch at hCh hkey
  generalize stN p p.log.length = s at hSet hkey hrd
  generalize s.setters.getD line 0 = q at hSet hrd
  refine meets_ref09_Readers ?_
  unfold vc_ref09_Readers
  simp [Pg.d, lns, ents]
  refine LOOP.mk Nat (fun n => [.d (int line), .ptr 24 0 0 0, .own 56 (readersL s line n).length, .d (int n)]) (fun n => [(56, some ⟨(readersL s line n).length, T_int, .lst ((readersL s line n).map int)⟩), (24, some ⟨0, T_api_ProofPage, .box [.d (int p.people), .d (.list (p.lines.map Ln.d)), .d (.list (p.log.map Nt.d))]⟩)])
    (fun n => n ≤ m) (fun n => m - n) [(2, T_int)] (by simp) 0 (by omega) (by simp [WEAK, lookH, readersL]) (fun _ _ => rfl) ?_
  intro n hn
  have hrl := readersL_len s line n
  have hrs := readersL_succ s line n
  rw [hrd n] at hrs
  simp [vc_ref09_Readers_k6]
  constructor
  · intro hlt
    have hkn := hkey n (by omega)
    rw [hkn] at hrs
    refine LOOP.mk Nat (fun i => [.d (int line), .ptr 24 0 0 0, .own 56 (readersL s line n).length, .d (int n), .d (.bool (metB p line n ch i)), .d (int i)]) (fun _ => [(56, some ⟨(readersL s line n).length, T_int, .lst ((readersL s line n).map int)⟩), (24, some ⟨0, T_api_ProofPage, .box [.d (int p.people), .d (.list (p.lines.map Ln.d)), .d (.list (p.log.map Nt.d))]⟩)])
      (fun i => i ≤ p.log.length) (fun i => p.log.length - i) [] (by simp) 0 (by omega) (by simp [WEAK, lookH, metB]) (fun _ _ => rfl) ?_
    intro i hi
    simp
    constructor
    · intro hlt2
      have hg : p.log[i]? = some p.log[i] := List.getElem?_eq_getElem hlt2
      have hen := a7 _ (List.getElem_mem hlt2)
      generalize p.log[i] = e at hg hen
      have hsucc : metB p line n ch (i + 1) = (metB p line n ch i || (rdnB e line n && decide (ch < i))) := by simp only [metB, hg]
      have hw := wrap_id (n := (i : Int) + 1) (by omega) (by omega)
      have hC := hCh i (by omega)
      have hR := ref09_reads_meets (g := g) p e line hen
      generalize metB p line n ch i = met at hsucc ⊢
      cases met with
      | true =>
        simp [vc_ref09_Readers_k4, hg, Nt.d, hw]
        exact ⟨i + 1, by omega, by simp [WEAK, lookH, hsucc], by omega⟩
      | false =>
        simp [vc_ref09_Readers_k4, hg, Nt.d]
        refine CALL.val [e.d, int line] _ rfl hR (.inl rfl) ?_
        have hrs2 : rdnB e line n = true → rdsB e line = true := by
          rcases entB_cases hen with ⟨a, rfl, ha⟩ | ⟨a, b, c, rfl, ha, hb, hc⟩ | ⟨a, b, c, k, rfl, ha, hb, hab, hcn, hk⟩
          · simp [rdnB]
          · simp [rdnB]
          · simp [rdnB, rdsB]
            intro h _
            exact h
        simp only [Bool.false_or] at hsucc
        cases hrb : rdsB e line with
        | false =>
          have h0 : rdnB e line n = false := by
            cases h : rdnB e line n with
            | false => rfl
            | true => rw [hrs2 h] at hrb; cases hrb
          simp [vc_ref09_Readers_k2, hw]
          exact ⟨i + 1, by omega, by simp [WEAK, lookH, hsucc, h0], by omega⟩
        | true =>
          rcases entB_cases hen with ⟨a, rfl, ha⟩ | ⟨a, b, c, rfl, ha, hb, hc⟩ | ⟨a, b, c, k, rfl, ha, hb, hab, hcn, hk⟩
          · simp [rdsB] at hrb
          · simp [rdsB] at hrb
          · have hb0 : rdnB ⟨1, [a, b, (c : Int), (c : Int) + k - 1]⟩ line n = (decide (a = (n : Int)) || decide (b = (n : Int))) := by
              have : inB line c ((c : Int) + k - 1) = true := hrb
              simp only [rdnB, this, Bool.true_and]
            rw [hb0] at hsucc
            have hnot : (!decide ((i : Int) ≤ ch)) = decide (ch < (i : Int)) := by
              rw [← decide_not]; exact decide_eq_decide.2 (by omega)
            by_cases h1 : a = (n : Int)
            · have hf : metB p line n ch (i + 1) = decide (ch < (i : Int)) := by rw [hsucc, h1]; simp
              simp [vc_ref09_Readers_k2, ints, h1, vc_ref09_Readers_k0]
              refine CALL.val [p.d, int line, int i] _ rfl hC (.inl rfl) ?_
              simp only [NOT]
              rw [hnot]
              simp [hw]
              exact ⟨i + 1, by omega, by simp [WEAK, lookH, hf], by omega⟩
            · by_cases h2 : b = (n : Int)
              · have hf : metB p line n ch (i + 1) = decide (ch < (i : Int)) := by rw [hsucc, h2]; simp
                simp [vc_ref09_Readers_k2, ints, h1, h2, vc_ref09_Readers_k1]
                refine CALL.val [p.d, int line, int i] _ rfl hC (.inl rfl) ?_
                simp only [NOT]
                rw [hnot]
                simp [hw]
                exact ⟨i + 1, by omega, by simp [WEAK, lookH, hf], by omega⟩
              · have hf : metB p line n ch (i + 1) = false := by rw [hsucc]; simp [h1, h2]
                simp [vc_ref09_Readers_k2, ints, h1, h2, vc_ref09_Readers_k1, hw]
                exact ⟨i + 1, by omega, by simp [WEAK, lookH, hf], by omega⟩
    · intro hge
      have : i = p.log.length := by omega
      subst this
      generalize metB p line n ch p.log.length = met at hrs ⊢
      have hw := wrap_id (n := (n : Int) + 1) (by omega) (by omega)
      cases met with
      | false =>
        simp only [Bool.false_and, List.append_nil] at hrs
        simp [vc_ref09_Readers_k5, hw]
        exact ⟨n + 1, by omega, by simp [WEAK, lookH, hrs], by omega⟩
      | true =>
        simp [vc_ref09_Readers_k5]
        refine CALL.val [p.d, int line, int p.log.length] _ rfl hSet (.inl rfl) ?_
        simp [vc_ref09_Readers_k3, hw]
        simp only [Bool.true_and] at hrs
        refine ⟨fun h1 => ?_, fun h1 => ?_⟩
        · rw [decide_eq_false h1] at hrs
          simp only [Bool.not_false] at hrs
          exact ⟨by omega, n + 1, by omega, by simp [WEAK, lookH, hrs], by omega⟩
        · rw [decide_eq_true h1] at hrs
          simp only [Bool.not_true, List.append_nil] at hrs
          exact ⟨n + 1, by omega, by simp [WEAK, lookH, hrs], by omega⟩
  · intro hge
    have : n = m := by omega
    subst this
    rfl
end
section
attribute [local simp] and_assoc
theorem mustPass_ret (p : Pg) (s : Ps) (line : Nat) (hok : p.okw = true) (hs : PsOK p s) (hl : line < p.lines.length) (h2 : 2 ≤ rdN p s line) : MeetsH (Tz g) f_p_proof_page_mustPass (stBlks 0 (fun _ => 0) p s) [.ptr 0 0 0 0, .d (int line)] (.ret (.tup [])) sames := by
  obtain ⟨a1, a2, a3, a4, a5, _⟩ := Pg.okw_len hok
  obtain ⟨m, hm⟩ : ∃ m : Nat, p.people = m := ⟨p.people.toNat, by omega⟩
  have hpn : p.people.toNat = m := by omega
  have hrl := readersL_len s line m
  unfold rdN at h2
  rw [hpn] at h2
  refine meetsH_p_proof_page_mustPass rfl ?_
  unfold vc_p_proof_page_mustPass
  refine CALL.gen [0, 1, 2, 3, 4, 5] [false, false] [.ptr 0 0 0 0, .d (int line)] (stBlks 0 (fun _ => 0) p s) _ _ (readers_meets 0 (fun _ => 0) p s line m hs hl hm (by omega)) rfl (by simp [argsM, AV.ren, rho]) ?_ ?_ ?_ ?_ ?_
  · simp [preB, stBlks, stBox, rho, bodyOf, lookH, Body.ren, AV.ren, AV.ren.renL, numbered]
  · simp [ids.idsL, ids, preIds, stBlks, stBox, Body.ids, lowL]
  · simp [lentL, disjB]
  · simp [stBlks, sames]
  · simp [AV.ren, sames, upsP, rho, ABlk.ren, Body.ren, lentL, kills, lookH, numbered, stBlks, stBox]
    refine ⟨by omega, fun _ => ⟨[], ?_⟩⟩
    simp [yv, yv.yvL, yh, fz, fz.fzL, fzH, stay, src, lookH, NodupB, disjB]
theorem mustPass_pan (p : Pg) (s : Ps) (line : Nat) (hok : p.okw = true) (hs : PsOK p s) (hl : line < p.lines.length) (h2 : rdN p s line < 2) : MeetsH (Tz g) f_p_proof_page_mustPass (stBlks 0 (fun _ => 0) p s) [.ptr 0 0 0 0, .d (int line)] (.pan (.d (.iface T_proof_short (.agg [int line])))) sames := by
  obtain ⟨a1, a2, a3, a4, a5, _⟩ := Pg.okw_len hok
  obtain ⟨m, hm⟩ : ∃ m : Nat, p.people = m := ⟨p.people.toNat, by omega⟩
  have hpn : p.people.toNat = m := by omega
  have hrl := readersL_len s line m
  unfold rdN at h2
  rw [hpn] at h2
  refine meetsHp_p_proof_page_mustPass rfl ?_
  unfold vcp_p_proof_page_mustPass
  refine CALL.gen [0, 1, 2, 3, 4, 5] [false, false] [.ptr 0 0 0 0, .d (int line)] (stBlks 0 (fun _ => 0) p s) _ _ (readers_meets 0 (fun _ => 0) p s line m hs hl hm (by omega)) rfl (by simp [argsM, AV.ren, rho]) ?_ ?_ ?_ ?_ ?_
  · simp [preB, stBlks, stBox, rho, bodyOf, lookH, Body.ren, AV.ren, AV.ren.renL, numbered]
  · simp [ids.idsL, ids, preIds, stBlks, stBox, Body.ids, lowL]
  · simp [lentL, disjB]
  · simp [stBlks, sames]
  · simp [AV.ren, sames, upsP, rho, ABlk.ren, Body.ren, lentL, kills, lookH, numbered, stBlks, stBox]
    refine ⟨fun _ => ⟨[], ?_⟩, by omega⟩
    simp [yv, yh, fz, fzH, stay, src, lookH, NodupB, disjB, argD, toD]
theorem passing_1_ret (p : Pg) (s : Ps) (line : Nat) (hok : p.okw = true) (hs : PsOK p s) (hl : line < p.lines.length) (h2 : 2 ≤ rdN p s line) : MeetsH (Tz g) f_p_proof_page_passing_1 (preS p s line) [.ptr 0 0 0 0, .ptr 7 0 0 0] (.ret (.tup [])) same8 := by
  refine meetsH_p_proof_page_passing_1 rfl ?_
  unfold vc_p_proof_page_passing_1
  simp [preS, preL, pgBs, lineB1, numbered, lookH]
  refine CALL.gen [1, 2, 3, 4, 5, 6] [false, false] [.ptr 0 0 0 0, .d (int line)] (stBlks 0 (fun _ => 0) p s) _ _ (mustPass_ret p s line hok hs hl h2) rfl (by simp [argsM, AV.ren, rho]) ?_ ?_ ?_ ?_ ?_
  · simp [preB, stBlks, stBox, rho, bodyOf, lookH, Body.ren, AV.ren, AV.ren.renL]
  · simp [ids.idsL, ids, preIds, stBlks, stBox, Body.ids, lowL]
  · simp [lentL, disjB]
  · simp [stBlks, sames]
  · simp [sames, upsP, lentL, kills]
    refine ⟨[], ?_⟩
    simp [same8, yv, yv.yvL, yh, fz, fz.fzL, fzH, stay, src, lookH, NodupB, disjB]
theorem passing_1_pan (p : Pg) (s : Ps) (line : Nat) (hok : p.okw = true) (hs : PsOK p s) (hl : line < p.lines.length) (h2 : rdN p s line < 2) : MeetsH (Tz g) f_p_proof_page_passing_1 (preS p s line) [.ptr 0 0 0 0, .ptr 7 0 0 0] (.pan (.d (.iface T_proof_short (.agg [int line])))) same8 := by
  refine meetsHp_p_proof_page_passing_1 rfl ?_
  unfold vcp_p_proof_page_passing_1
  simp [preS, preL, pgBs, lineB1, numbered, lookH]
  refine CALL.genp [1, 2, 3, 4, 5, 6] [false, false] [.ptr 0 0 0 0, .d (int line)] (stBlks 0 (fun _ => 0) p s) _ _ (mustPass_pan p s line hok hs hl h2) rfl (by simp [argsM, AV.ren, rho]) ?_ ?_ ?_ ?_ ?_
  · simp [preB, stBlks, stBox, rho, bodyOf, lookH, Body.ren, AV.ren, AV.ren.renL]
  · simp [ids.idsL, ids, preIds, stBlks, stBox, Body.ids, lowL]
  · simp [lentL, disjB]
  · simp [stBlks, sames]
  · simp [AV.ren, sames, upsP, lentL, kills]
    refine ⟨[], ?_⟩
    simp [same8, yv, yh, fz, fzH, stay, src, lookH, NodupB, disjB, argD, toD]
end
section
attribute [local simp] and_assoc
theorem attempt_line (p : Pg) (s : Ps) (line : Nat) (hok : p.okw = true) (hs : PsOK p s) (hl : line < p.lines.length) : MeetsH (Tz g) f_proof_attempt (preS p s line) [cloL] (.ret (.d (int (match passB p s line with | true => 0 | false => 7)))) ((preS p s line).map .upd) := by
  cases h : passB p s line with
  | true => exact attL_meets (passing_1_ret p s line hok hs hl (of_decide_eq_true h)) (att_retL _ _ _ _ _ _ _ _ _ _)
  | false => exact attL_meets (passing_1_pan p s line hok hs hl (by have := of_decide_eq_false h; omega)) (att_panL _ _ _ _ _ _ _ _ _ _ _)
set_option maxHeartbeats 4000000 in
theorem passing_meets (p : Pg) (s : Ps) (hok : p.okw = true) (hs : PsOK p s) : MeetsH (Tz g) f_p_proof_page_passing (stBlks 0 (fun _ => 0) p s) [.ptr 0 0 0 0] (.ret (.own 6 0)) (sames ++ [.upd ⟨0, T_int, .lst ((passL p s).map int)⟩]) := by
  obtain ⟨a1, a2, a3, a4, a5, _⟩ := Pg.okw_len hok
  have hatt := fun line hl => attempt_line (g := g) p s line hok hs hl
  refine meetsH_p_proof_page_passing rfl ?_
  unfold vc_p_proof_page_passing
  simp [stBlks, stBox, numbered, lookH, lns]
  refine LOOP.mk Nat (fun k => [.ptr 24 0 0 0, .own 104 (fltL (passB p s) k).length, .d (int p.lines.length), .d (int k)]) (fun k => (104, some ⟨(fltL (passB p s) k).length, T_int, .lst ((fltL (passB p s) k).map int)⟩) :: (24, some ⟨0, T_p_proof_page, .box [.ptr 0 0 0 0]⟩) :: numbered 0 (stBlks 0 (fun _ => 0) p s))
    (fun k => k ≤ p.lines.length) (fun k => p.lines.length - k) [(1, T_int)] (by simp) 0 (by omega) (by simp [WEAK, lookH, numbered, stBlks, stBox, lns, fltL]) (fun _ _ => rfl) ?_
  intro k hk
  have hfl := fltL_len (passB p s) k
  have hfs := fltL_succ (passB p s) k
  have hw := wrap_id (n := (k : Int) + 1) (by omega) (by omega)
  simp [vc_p_proof_page_passing_k1, stBlks, stBox, numbered]
  constructor
  · intro hlt
    refine CALL.gen [24, 0, 1, 2, 3, 4, 5, 128] [false] [cloL] (preS p s k) _ _ (hatt k hlt) rfl (by simp [argsM, AV.ren, AV.ren.renL, rho]) ?_ ?_ ?_ ?_ ?_
    · simp [preB, preS, preL, pgBs, lineB1, rho, bodyOf, lookH, Body.ren, AV.ren, AV.ren.renL]
    · simp [ids.idsL, ids, preIds, preS, preL, pgBs, lineB1, Body.ids, lowL]
    · simp [lentL, disjB]
    · simp [preS, preL, pgBs]
    · cases hp : passB p s k with
      | true =>
        rw [hp] at hfs
        simp [AV.ren, AV.ren.renL, preS, preL, pgBs, lineB1, upsP, rho, ABlk.ren, Body.ren, lentL, kills, lookH, vc_p_proof_page_passing_k0, hw]
        exact ⟨by omega, k + 1, by omega, by simp [WEAK, lookH, hfs], by omega⟩
      | false =>
        rw [hp] at hfs
        simp [AV.ren, AV.ren.renL, preS, preL, pgBs, lineB1, upsP, rho, ABlk.ren, Body.ren, lentL, kills, lookH, vc_p_proof_page_passing_k0, hw]
        exact ⟨k + 1, by omega, by simp [WEAK, lookH, hfs], by omega⟩
  · intro hge
    have : k = p.lines.length := by omega
    subst this
    refine ⟨[some 104], ?_⟩
    simp [passL, sames, yv, yh, yb, yver, bodyOf, fz, fzH, fzB, stay, src, lookH, NodupB, disjB, lns]
theorem passes_1_ret (p : Pg) (s : Ps) (hok : p.okw = true) (hs : PsOK p s) (hall : ∀ k, k < p.lines.length → 2 ≤ rdN p s k) : MeetsH (Tz g) f_p_proof_page_passes_1 (preT p s) [.ptr 0 0 0 0] (.ret (.tup [])) same7 := by
  obtain ⟨a1, a2, a3, a4, a5, _⟩ := Pg.okw_len hok
  refine meetsH_p_proof_page_passes_1 rfl ?_
  unfold vc_p_proof_page_passes_1
  simp [preT, preP, pgBs, numbered, lookH, lns]
  refine LOOP.mk Nat (fun k => [.ptr 0 0 0 0, .d (int p.lines.length), .d (int k)]) (fun _ => numbered 0 (preT p s))
    (fun k => k ≤ p.lines.length) (fun k => p.lines.length - k) [] (by simp) 0 (by omega) (by simp [WEAK, lookH, numbered, preT, preP, pgBs, lns]) (fun _ _ => rfl) ?_
  intro k hk
  have hw := wrap_id (n := (k : Int) + 1) (by omega) (by omega)
  simp [vc_p_proof_page_passes_1_k0, numbered, preT, preP, pgBs]
  constructor
  · intro hlt
    refine CALL.gen [1, 2, 3, 4, 5, 6] [false, false] [.ptr 0 0 0 0, .d (int k)] (stBlks 0 (fun _ => 0) p s) _ _ (mustPass_ret p s k hok hs hlt (hall k hlt)) rfl (by simp [argsM, AV.ren, rho]) ?_ ?_ ?_ ?_ ?_
    · simp [preB, stBlks, stBox, rho, bodyOf, lookH, Body.ren, AV.ren, AV.ren.renL]
    · simp [ids.idsL, ids, preIds, stBlks, stBox, Body.ids, lowL]
    · simp [lentL, disjB]
    · simp [stBlks, sames]
    · simp [sames, upsP, lentL, kills, hw]
      exact ⟨k + 1, by omega, by simp [WEAK, lookH], by omega⟩
  · intro hge
    refine ⟨[], ?_⟩
    simp [same7, yv, yv.yvL, yh, fz, fz.fzL, fzH, stay, src, lookH, NodupB, disjB, lns]
theorem passes_1_pan (p : Pg) (s : Ps) (j : Nat) (hok : p.okw = true) (hs : PsOK p s) (hall : ∀ k, k < j → 2 ≤ rdN p s k) (hj : j < p.lines.length) (hlt2 : rdN p s j < 2) : MeetsH (Tz g) f_p_proof_page_passes_1 (preT p s) [.ptr 0 0 0 0] (.pan (.d (.iface T_proof_short (.agg [int j])))) same7 := by
  obtain ⟨a1, a2, a3, a4, a5, _⟩ := Pg.okw_len hok
  refine meetsHp_p_proof_page_passes_1 rfl ?_
  unfold vcp_p_proof_page_passes_1
  simp [preT, preP, pgBs, numbered, lookH, lns]
  refine LOOP.mk Nat (fun k => [.ptr 0 0 0 0, .d (int p.lines.length), .d (int k)]) (fun _ => numbered 0 (preT p s))
    (fun k => k ≤ j) (fun k => p.lines.length - k) [] (by simp) 0 (by omega) (by simp [WEAK, lookH, numbered, preT, preP, pgBs, lns]) (fun _ _ => rfl) ?_
  intro k hk
  have hw := wrap_id (n := (k : Int) + 1) (by omega) (by omega)
  have hlt : k < p.lines.length := by omega
  simp [vcp_p_proof_page_passes_1_k0, numbered, preT, preP, pgBs, hlt]
  by_cases hkj : k = j
  · subst hkj
    refine CALL.genp [1, 2, 3, 4, 5, 6] [false, false] [.ptr 0 0 0 0, .d (int k)] (stBlks 0 (fun _ => 0) p s) _ _ (mustPass_pan p s k hok hs hlt hlt2) rfl (by simp [argsM, AV.ren, rho]) ?_ ?_ ?_ ?_ ?_
    · simp [preB, stBlks, stBox, rho, bodyOf, lookH, Body.ren, AV.ren, AV.ren.renL]
    · simp [ids.idsL, ids, preIds, stBlks, stBox, Body.ids, lowL]
    · simp [lentL, disjB]
    · simp [stBlks, sames]
    · simp [AV.ren, sames, upsP, lentL, kills]
      refine ⟨[], ?_⟩
      simp [same7, yv, yh, fz, fzH, stay, src, lookH, NodupB, disjB, argD, toD, lns]
  · refine CALL.gen [1, 2, 3, 4, 5, 6] [false, false] [.ptr 0 0 0 0, .d (int k)] (stBlks 0 (fun _ => 0) p s) _ _ (mustPass_ret p s k hok hs hlt (hall k (by omega))) rfl (by simp [argsM, AV.ren, rho]) ?_ ?_ ?_ ?_ ?_
    · simp [preB, stBlks, stBox, rho, bodyOf, lookH, Body.ren, AV.ren, AV.ren.renL]
    · simp [ids.idsL, ids, preIds, stBlks, stBox, Body.ids, lowL]
    · simp [lentL, disjB]
    · simp [stBlks, sames]
    · simp [sames, upsP, lentL, kills, hw]
      exact ⟨k + 1, by omega, by simp [WEAK, lookH], by omega⟩
theorem attempt_page (p : Pg) (s : Ps) (hok : p.okw = true) (hs : PsOK p s) : MeetsH (Tz g) f_proof_attempt (preT p s) [cloP] (.ret (.d (int (match allB p s with | true => 0 | false => 7)))) ((preT p s).map .upd) := by
  have ha := fltL_all (passB p s) p.lines.length
  rcases least (f := passB p s) p.lines.length with h | ⟨j, h1, h2, h3⟩
  · have hb : allB p s = true := decide_eq_true (ha.2 h)
    rw [hb]
    exact attP_meets (passes_1_ret p s hok hs (fun k hk => of_decide_eq_true (h k hk))) (att_retP _ _ _ _ _ _ _ _ _)
  · have hb : allB p s = false := decide_eq_false (fun e => by
      have := ha.1 e j h1
      rw [h2] at this
      cases this)
    rw [hb]
    exact attP_meets (passes_1_pan p s j hok hs (fun k hk => of_decide_eq_true (h3 k hk)) h1 (by have := of_decide_eq_false h2; omega)) (att_panP _ _ _ _ _ _ _ _ _ _)
theorem passes_meets (p : Pg) (s : Ps) (hok : p.okw = true) (hs : PsOK p s) : MeetsH (Tz g) f_p_proof_page_passes (stBlks 0 (fun _ => 0) p s) [.ptr 0 0 0 0] (.ret (.d (.bool (allB p s)))) sames := by
  have hatt := attempt_page (g := g) p s hok hs
  refine meetsH_p_proof_page_passes rfl ?_
  unfold vc_p_proof_page_passes
  simp [stBlks, stBox, numbered]
  refine CALL.gen [24, 0, 1, 2, 3, 4, 5] [false] [cloP] (preT p s) _ _ hatt rfl (by simp [argsM, AV.ren, AV.ren.renL, rho]) ?_ ?_ ?_ ?_ ?_
  · simp [preB, preT, preP, pgBs, rho, bodyOf, lookH, Body.ren, AV.ren, AV.ren.renL]
  · simp [ids.idsL, ids, preIds, preT, preP, pgBs, Body.ids, lowL]
  · simp [lentL, disjB]
  · simp [preT, preP, pgBs]
  · simp [AV.ren, AV.ren.renL, preT, preP, pgBs, upsP, rho, ABlk.ren, Body.ren, lentL, kills]
    refine ⟨[], ?_⟩
    simp [sames, yv, yh, fz, fzH, stay, src, lookH, NodupB, disjB, argD, toD]
    cases allB p s <;> simp
end
section
attribute [local simp] and_assoc
theorem ref09_Passes_meets (p : Pg) (hok : p.okw = true) : Meets (Tz g) f_ref09_Passes [p.d] ⟨.d (ints (passP p)), []⟩ := by
  obtain ⟨a1, a2, a3, a4, a5, _⟩ := Pg.okw_len hok
  have hb : ∀ k, passB p (stN p p.log.length) k = decide (2 ≤ (readersP p k).length) := fun k => rfl
  unfold passP passL
  generalize passB p (stN p p.log.length) = f at hb
  refine meets_ref09_Passes ?_
  unfold vc_ref09_Passes
  simp [Pg.d, lns, ents]
  refine LOOP.mk Nat (fun k => [.ptr 24 0 0 0, .own 56 (fltL f k).length, .d (int k)]) (fun k => [(56, some ⟨(fltL f k).length, T_int, .lst ((fltL f k).map int)⟩), (24, some ⟨0, T_api_ProofPage, .box [.d (int p.people), .d (.list (p.lines.map Ln.d)), .d (.list (p.log.map Nt.d))]⟩)])
    (fun k => k ≤ p.lines.length) (fun k => p.lines.length - k) [(1, T_int)] (by simp) 0 (by omega) (by simp [WEAK, lookH, fltL]) (fun _ _ => rfl) ?_
  intro k hk
  have hfl := fltL_len f k
  have hfs := fltL_succ f k
  have hw := wrap_id (n := (k : Int) + 1) (by omega) (by omega)
  rw [hb k] at hfs
  simp [vc_ref09_Passes_k1]
  constructor
  · intro hlt
    refine CALL.mk [p.d, int k] _ rfl (ref09_Readers_meets p k hok hlt) (.inl rfl) (by simp) ?_
    simp [vc_ref09_Passes_k0, ints, hw]
    refine ⟨fun h => ?_, fun h => ?_⟩
    · rw [decide_eq_true (by omega)] at hfs
      exact ⟨by omega, k + 1, by omega, by simp [WEAK, lookH, hfs], by omega⟩
    · rw [decide_eq_false (by omega)] at hfs
      exact ⟨k + 1, by omega, by simp [WEAK, lookH, hfs], by omega⟩
  · intro hge
    have : k = p.lines.length := by omega
    subst this
    simp [ints]
theorem ref09_Pass_meets (p : Pg) (hok : p.okw = true) : Meets (Tz g) f_ref09_Pass [p.d] ⟨.d (.bool (allP p)), []⟩ := by
  refine meets_ref09_Pass ?_
  unfold vc_ref09_Pass
  simp [Pg.d, lns, ents]
  refine CALL.mk [p.d] _ rfl (ref09_Passes_meets p hok) (.inl rfl) (by simp) ?_
  simp [vc_ref09_Pass_k0, ints]
  refine ⟨rfl, ?_⟩
  have : (allP p) = decide ((passP p).length = p.lines.length) := rfl
  rw [this]
  exact decide_eq_decide.2 (by omega)
end
section
theorem now_fold {p : Pg} (hok : p.okw = true) {line : Nat} (hl : line < p.lines.length) : ∀ M, M ≤ p.log.length → (stN p M).now.getD line 0 = (p.log.take M).foldl (numO line) ((st0 p).now.getD line 0) ∧ (stN p M).setters.getD line 0 = (p.log.take M).foldl (setO line) ((st0 p).setters.getD line 0)
  | 0, _ => ⟨rfl, rfl⟩
  | M + 1, hM => by
    obtain ⟨i1, i2⟩ := now_fold hok hl M (by omega)
    have hg : p.log[M]? = some p.log[M] := List.getElem?_eq_getElem (by omega)
    have he := (Pg.okw_len hok).2.2.2.2.2.2 _ (List.getElem_mem (show M < p.log.length by omega))
    obtain ⟨s1, s2, _⟩ := step_line M line (stN_ok hok M (by omega)).1 he hl
    generalize p.log[M] = x at hg he s1 s2
    have e1 : stN p (M + 1) = stepS p M x (stN p M) := by simp only [stN, hg]
    rw [take_snoc hg, List.foldl_append, List.foldl_append, e1, s1, s2, i1, i2]
    exact ⟨rfl, rfl⟩
theorem has_fold {p : Pg} (hok : p.okw = true) {line n : Nat} (hl : line < p.lines.length) (hn : (n : Int) < p.people) : ∀ M, M ≤ p.log.length → hasK ((line : Int), (n : Int)) (stN p M).keys = (p.log.take M).foldl (hasO line n) false
  | 0, _ => by simp [stN, st0, hasK]
  | M + 1, hM => by
    have ih := has_fold hok hl hn M (by omega)
    have hg : p.log[M]? = some p.log[M] := List.getElem?_eq_getElem (by omega)
    have he := (Pg.okw_len hok).2.2.2.2.2.2 _ (List.getElem_mem (show M < p.log.length by omega))
    have hst := (step_line M line (stN_ok hok M (by omega)).1 he hl).2.2
    obtain ⟨⟨c1, c2⟩, _⟩ := chN_spec hok hl M (by omega)
    have r0 := has_read hok hl hn M (by omega)
    have r1 := has_read hok hl hn (M + 1) hM
    generalize p.log[M] = x at hg he hst
    have e1 : chN p line (M + 1) = (match chgB x line with | false => chN p line M | true => (M : Int)) := by
      simp only [chN, stN, hg]
      exact hst
    rw [take_snoc hg, List.foldl_append, ← ih, r1]
    show _ = hasO line n _ x
    unfold hasO
    cases hc : chgB x line with
    | false =>
      rw [hc] at e1
      have e1 : chN p line (M + 1) = chN p line M := e1
      rw [e1, r0]
      have hd : decide (chN p line M < (M : Int)) = true := decide_eq_true c2
      simp only [metB, hg, hd, Bool.and_true]
    | true =>
      rw [hc] at e1
      have e1 : chN p line (M + 1) = (M : Int) := e1
      rw [e1]
      exact metB_false _ _ _ _ _ (by omega)
theorem rdB_law {p : Pg} (h : p.okw = true) {line n : Nat} (hl : line < p.lines.length) (hn : (n : Int) < p.people) : rdB (stN p p.log.length) line n = (p.log.foldl (hasO line n) false && !decide ((n : Int) = p.log.foldl (setO line) ((st0 p).setters.getD line 0))) := by
  have h1 := has_fold h hl hn _ (Nat.le_refl _)
  have h2 := (now_fold h hl _ (Nat.le_refl _)).2
  rw [List.take_length] at h1 h2
  unfold rdB
  rw [h1, h2]
end
end W9
end Go.Vc

namespace Go.Vc
open Go Go.Proofs Go.RowKit
def ann_proof_pairs : Nat → List Nat := fun n => match n with  | _ => []
def vc_proof_pairs (P : Ctx) (pre : List ABlk) (a0 : AV) (r : AV) (post : List PB) : Prop :=
  let h0 : Heap := numbered 0 pre
  BOX T_api_ProofPage a0 24 h0 fun v1 h1 =>
  POST (.fn f_proof_pairs_1 [] [v1]) h1 pre r post
theorem vc_proof_pairs_eq (g : GG) (pre : List ABlk) (a0 : AV) (r : AV) (post : List PB) : vcFn2 (Tz g) false ann_proof_pairs Tryz.f76 pre [a0] (.ret r) post = vc_proof_pairs (Tz g) pre a0 r post := by kernel_rfl
theorem hf_proof_pairs : Tryz.prog.funcs[f_proof_pairs]? = some Tryz.f76 := by kernel_rfl
theorem ok_proof_pairs : fnVcOK Tryz.prog Tryz.f76 = true := by kernel_rfl
theorem nt_proof_pairs : Nat.ble 1 Tryz.f76.ntmps = true := by kernel_rfl
theorem meetsH_proof_pairs {g : GG} {pre : List ABlk} {a0 : AV} {r : AV} {post : List PB} (hk : Nat.ble pre.length 24 = true) (h : vc_proof_pairs (Tz g) pre a0 r post) : MeetsH (Tz g) f_proof_pairs pre [a0] (.ret r) post :=
  meetsH_of_vc (C := Tz g) ann_proof_pairs hf_proof_pairs ok_proof_pairs nt_proof_pairs hk (pn := false) (Eq.mpr ((vcFn2_eq _ _ _ _ _ _ _ _).trans (vc_proof_pairs_eq g pre a0 r post)) h)
theorem meets_proof_pairs {g : GG} {a0 : D} {r : Res} (h : vc_proof_pairs (Tz g) [] (.d a0) r.val (r.bl.map .upd)) : Meets (Tz g) f_proof_pairs [a0] r := meetsH_proof_pairs rfl h
def ann_proof_pairs_1 : Nat → List Nat := fun n => match n with | 1 => [0, 1, 6, 7] | 4 => [0, 1, 3, 4, 6, 7] | _ => []
def vc_proof_pairs_1_k0 (P : Ctx) (pre : List ABlk) (r : AV) (post : List PB) (vs0 : List AV) (h1 : Heap) (next11 : List AV → Heap → Prop) (next13 : List AV → Heap → Prop) : Prop :=
  FADDR 0 (nth vs0 1) h1 fun v2 =>
  LOAD false 1 v2 h1 fun v3 =>
  BIN 0 .lss (nth vs0 3) v3 fun v4 =>
  COND v4
  (BUILD [(0, 1), (1, 1)] [.d (.num .i64 0), .d (.num .i64 0)] [(0, (nth vs0 2)), (1, (nth vs0 3))] fun v5 =>
  CALLV P (nth vs0 0) [v5] 176 h1 (fun _ v7 h8 =>
  NOT v7 fun v9 =>
  COND v9
  (POST (.tup []) h8 pre r post)
  (BIN 0 .add (nth vs0 3) (.d (.num .i64 1)) fun v10 =>
  next11 [(nth vs0 0), (nth vs0 1), (nth vs0 2), v10, (nth vs0 4), (nth vs0 5)] h8))
  (fun _ _ _ => False))
  (BIN 0 .add (nth vs0 5) (.d (.num .i64 1)) fun v12 =>
  next13 [(nth vs0 0), (nth vs0 1), (nth vs0 4), v12] h1)
def vc_proof_pairs_1_k1 (P : Ctx) (pre : List ABlk) (r : AV) (post : List PB) (vs0 : List AV) (h3 : Heap) (next7 : List AV → Heap → Prop) : Prop :=
  BIN 0 .lss (nth vs0 3) (nth vs0 2) fun v1 =>
  COND v1
  (BIN 0 .add (nth vs0 3) (.d (.num .i64 1)) fun v2 =>
  LOOP [(nth vs0 0), (nth vs0 1), (nth vs0 3), v2, (nth vs0 2), (nth vs0 3)] h3 104 fun vs4 h5 next6 =>
  vc_proof_pairs_1_k0 P pre r post vs4 h5 next6 next7)
  (POST (.tup []) h3 pre r post)
def vc_proof_pairs_1 (P : Ctx) (pre : List ABlk) (a0 a1 : AV) (r : AV) (post : List PB) : Prop :=
  let h0 : Heap := numbered 0 pre
  FADDR 0 a1 h0 fun v5 =>
  LOAD false 1 v5 h0 fun v6 =>
  LOOP [a0, a1, v6, (.d (.num .i64 0))] h0 48 fun vs1 h2 next1 =>
  vc_proof_pairs_1_k1 P pre r post vs1 h2 next1
theorem vc_proof_pairs_1_eq (g : GG) (pre : List ABlk) (a0 a1 : AV) (r : AV) (post : List PB) : vcFn2 (Tz g) false ann_proof_pairs_1 Tryz.f120 pre [a0, a1] (.ret r) post = vc_proof_pairs_1 (Tz g) pre a0 a1 r post := by kernel_rfl
theorem hf_proof_pairs_1 : Tryz.prog.funcs[f_proof_pairs_1]? = some Tryz.f120 := by kernel_rfl
theorem ok_proof_pairs_1 : fnVcOK Tryz.prog Tryz.f120 = true := by kernel_rfl
theorem nt_proof_pairs_1 : Nat.ble 2 Tryz.f120.ntmps = true := by kernel_rfl
theorem meetsH_proof_pairs_1 {g : GG} {pre : List ABlk} {a0 a1 : AV} {r : AV} {post : List PB} (hk : Nat.ble pre.length 24 = true) (h : vc_proof_pairs_1 (Tz g) pre a0 a1 r post) : MeetsH (Tz g) f_proof_pairs_1 pre [a0, a1] (.ret r) post :=
  meetsH_of_vc (C := Tz g) ann_proof_pairs_1 hf_proof_pairs_1 ok_proof_pairs_1 nt_proof_pairs_1 hk (pn := false) (Eq.mpr ((vcFn2_eq _ _ _ _ _ _ _ _).trans (vc_proof_pairs_1_eq g pre a0 a1 r post)) h)
def ann_proof_after : Nat → List Nat := fun n => match n with | 3 => [2, 11, 12, 13] | _ => []
def vc_proof_after_k0 (P : Ctx) (pre : List ABlk) (r : AV) (post : List PB) (vs0 : List AV) (h2 : Heap) (next28 : List AV → Heap → Prop) : Prop :=
  BIN 0 .lss (nth vs0 3) (nth vs0 2) fun v1 =>
  COND v1
  (IADDR 2 T_api_ProofPair (nth vs0 1) (nth vs0 3) h2 fun v3 =>
  LOAD true 2 v3 h2 fun v4 =>
  ALLOC T_api_ProofPair [.d (.num .i64 0), .d (.num .i64 0)] 136 h2 fun v5 h6 =>
  STORE 2 v5 v4 h6 fun h7 =>
  FADDR 2 (nth vs0 0) h7 fun v8 =>
  LOAD false 1 v8 h7 fun v9 =>
  FADDR 0 v5 h7 fun v10 =>
  LOAD false 1 v10 h7 fun v11 =>
  FADDR 1 v5 h7 fun v12 =>
  LOAD false 1 v12 h7 fun v13 =>
  FADDR 1 (nth vs0 0) h7 fun v14 =>
  LOAD false 1 v14 h7 fun v15 =>
  LEN false v15 h7 fun v16 =>
  BIN 0 .sub v16 (.d (.num .i64 1)) fun v17 =>
  MKS T_int 1 [v11, v13, (.d (.num .i64 0)), v17] 232 h7 fun v18 h19 =>
  BUILD [(0, 1), (1, 1)] [.d (.num .i64 0), .zc] [(0, (.d (.num .i64 1))), (1, v18)] fun v20 =>
  MKS T_api_ProofEntry 2 [v20] 248 h19 fun v21 h22 =>
  APP T_api_ProofEntry 2 v9 v21 256 h22 fun v23 h24 =>
  FADDR 2 (nth vs0 0) h24 fun v25 =>
  STORE 1 v25 v23 h24 fun h26 =>
  BIN 0 .add (nth vs0 3) (.d (.num .i64 1)) fun v27 =>
  next28 [(nth vs0 0), (nth vs0 1), (nth vs0 2), v27] h26)
  (LOAD true 3 (nth vs0 0) h2 fun v29 =>
  CALL P f_proof_pageOf [v29] 128 h2 (fun _ v31 h32 =>
  POST v31 h32 pre r post)
  (fun _ _ _ => False))
def vc_proof_after (P : Ctx) (pre : List ABlk) (a0 a1 : AV) (r : AV) (post : List PB) : Prop :=
  let h0 : Heap := numbered 0 pre
  BOX T_api_ProofPage a0 24 h0 fun v2 h1 =>
  FADDR 2 v2 h1 fun v7 =>
  LOAD false 1 v7 h1 fun v8 =>
  CALL P f_slices_Clone_l_api_ProofEntry_api_ProofEntry [v8] 56 h1 (fun _ v9 h2 =>
  FADDR 2 v2 h2 fun v10 =>
  STORE 1 v10 v9 h2 fun h4 =>
  LEN false a1 h4 fun v12 =>
  LOOP [v2, a1, v12, (.d (.num .i64 0))] h4 104 fun vs5 h6 next5 =>
  vc_proof_after_k0 P pre r post vs5 h6 next5)
  (fun _ _ _ => False)
theorem vc_proof_after_eq (g : GG) (pre : List ABlk) (a0 a1 : AV) (r : AV) (post : List PB) : vcFn2 (Tz g) false ann_proof_after Tryz.f77 pre [a0, a1] (.ret r) post = vc_proof_after (Tz g) pre a0 a1 r post := by kernel_rfl
theorem hf_proof_after : Tryz.prog.funcs[f_proof_after]? = some Tryz.f77 := by kernel_rfl
theorem ok_proof_after : fnVcOK Tryz.prog Tryz.f77 = true := by kernel_rfl
theorem nt_proof_after : Nat.ble 2 Tryz.f77.ntmps = true := by kernel_rfl
theorem meetsH_proof_after {g : GG} {pre : List ABlk} {a0 a1 : AV} {r : AV} {post : List PB} (hk : Nat.ble pre.length 24 = true) (h : vc_proof_after (Tz g) pre a0 a1 r post) : MeetsH (Tz g) f_proof_after pre [a0, a1] (.ret r) post :=
  meetsH_of_vc (C := Tz g) ann_proof_after hf_proof_after ok_proof_after nt_proof_after hk (pn := false) (Eq.mpr ((vcFn2_eq _ _ _ _ _ _ _ _).trans (vc_proof_after_eq g pre a0 a1 r post)) h)
def ann_slices_Collect_api_ProofPair : Nat → List Nat := fun n => match n with  | _ => []
def vc_slices_Collect_api_ProofPair (P : Ctx) (pre : List ABlk) (a0 : AV) (r : AV) (post : List PB) : Prop :=
  let h0 : Heap := numbered 0 pre
  CALL P f_slices_AppendSeq_l_api_ProofPair_api_ProofPair [.zc, a0] 40 h0 (fun _ v4 h1 =>
  POST v4 h1 pre r post)
  (fun _ _ _ => False)
theorem vc_slices_Collect_api_ProofPair_eq (g : GG) (pre : List ABlk) (a0 : AV) (r : AV) (post : List PB) : vcFn2 (Tz g) false ann_slices_Collect_api_ProofPair Tryz.f81 pre [a0] (.ret r) post = vc_slices_Collect_api_ProofPair (Tz g) pre a0 r post := by kernel_rfl
theorem hf_slices_Collect_api_ProofPair : Tryz.prog.funcs[f_slices_Collect_api_ProofPair]? = some Tryz.f81 := by kernel_rfl
theorem ok_slices_Collect_api_ProofPair : fnVcOK Tryz.prog Tryz.f81 = true := by kernel_rfl
theorem nt_slices_Collect_api_ProofPair : Nat.ble 1 Tryz.f81.ntmps = true := by kernel_rfl
theorem meetsH_slices_Collect_api_ProofPair {g : GG} {pre : List ABlk} {a0 : AV} {r : AV} {post : List PB} (hk : Nat.ble pre.length 24 = true) (h : vc_slices_Collect_api_ProofPair (Tz g) pre a0 r post) : MeetsH (Tz g) f_slices_Collect_api_ProofPair pre [a0] (.ret r) post :=
  meetsH_of_vc (C := Tz g) ann_slices_Collect_api_ProofPair hf_slices_Collect_api_ProofPair ok_slices_Collect_api_ProofPair nt_slices_Collect_api_ProofPair hk (pn := false) (Eq.mpr ((vcFn2_eq _ _ _ _ _ _ _ _).trans (vc_slices_Collect_api_ProofPair_eq g pre a0 r post)) h)
theorem meets_slices_Collect_api_ProofPair {g : GG} {a0 : D} {r : Res} (h : vc_slices_Collect_api_ProofPair (Tz g) [] (.d a0) r.val (r.bl.map .upd)) : Meets (Tz g) f_slices_Collect_api_ProofPair [a0] r := meetsH_slices_Collect_api_ProofPair rfl h
def ann_slices_AppendSeq_l_api_ProofPair_api_ProofPair : Nat → List Nat := fun n => match n with | 2 => [2] | _ => []
noncomputable def rfA_slices_AppendSeq_l_api_ProofPair_api_ProofPair : Code := rfA Tryz.f124
noncomputable def rfB_slices_AppendSeq_l_api_ProofPair_api_ProofPair : Code := rfB Tryz.f124
def vc_slices_AppendSeq_l_api_ProofPair_api_ProofPair (P : Ctx) (pre : List ABlk) (a0 a1 : AV) (r : AV) (post : List PB) : Prop :=
  let h0 : Heap := numbered 0 pre
  BOX T_l_api_ProofPair a0 24 h0 fun v2 h1 =>
  CALLF P a1 [.yld 48] 56 ((48, some ⟨0, 0, .loop ⟨.ready, none, 13, [(2, v2)], [7], rfA_slices_AppendSeq_l_api_ProofPair_api_ProofPair, rfB_slices_AppendSeq_l_api_ProofPair_api_ProofPair⟩⟩) :: h1) (fun _ _ hq2 => AFTER 48 hq2 (fun hr2 =>
  LOAD false 1 v2 hr2 fun v12 =>
  POST v12 hr2 pre r post) (fun x2 hr2 => match x2 with
  | none => POST .zc hr2 pre r post
  | some i2 => (match Nat.beq i2 0 with | true => LOAD false 1 v2 hr2 fun v12 => POST v12 hr2 pre r post | false => False)))
  (fun _ v2 hr2 => False)
theorem vc_slices_AppendSeq_l_api_ProofPair_api_ProofPair_eq (g : GG) (pre : List ABlk) (a0 a1 : AV) (r : AV) (post : List PB) : vcFn2 (Tz g) false ann_slices_AppendSeq_l_api_ProofPair_api_ProofPair Tryz.f124 pre [a0, a1] (.ret r) post = vc_slices_AppendSeq_l_api_ProofPair_api_ProofPair (Tz g) pre a0 a1 r post := by kernel_rfl
theorem hf_slices_AppendSeq_l_api_ProofPair_api_ProofPair : Tryz.prog.funcs[f_slices_AppendSeq_l_api_ProofPair_api_ProofPair]? = some Tryz.f124 := by kernel_rfl
theorem ok_slices_AppendSeq_l_api_ProofPair_api_ProofPair : fnVcOK Tryz.prog Tryz.f124 = true := by kernel_rfl
theorem nt_slices_AppendSeq_l_api_ProofPair_api_ProofPair : Nat.ble 2 Tryz.f124.ntmps = true := by kernel_rfl
theorem meetsH_slices_AppendSeq_l_api_ProofPair_api_ProofPair {g : GG} {pre : List ABlk} {a0 a1 : AV} {r : AV} {post : List PB} (hk : Nat.ble pre.length 24 = true) (h : vc_slices_AppendSeq_l_api_ProofPair_api_ProofPair (Tz g) pre a0 a1 r post) : MeetsH (Tz g) f_slices_AppendSeq_l_api_ProofPair_api_ProofPair pre [a0, a1] (.ret r) post :=
  meetsH_of_vc (C := Tz g) ann_slices_AppendSeq_l_api_ProofPair_api_ProofPair hf_slices_AppendSeq_l_api_ProofPair_api_ProofPair ok_slices_AppendSeq_l_api_ProofPair_api_ProofPair nt_slices_AppendSeq_l_api_ProofPair_api_ProofPair hk (pn := false) (Eq.mpr ((vcFn2_eq _ _ _ _ _ _ _ _).trans (vc_slices_AppendSeq_l_api_ProofPair_api_ProofPair_eq g pre a0 a1 r post)) h)
def vcr_slices_AppendSeq_l_api_ProofPair_api_ProofPair (P : Ctx) (id : Nat) (pre : List ABlk) (k2 a0 : AV) (r : AV) (post : List PB) : Prop :=
  let h0 : Heap := numbered 0 pre
  ALLOC T_api_ProofPair [.d (.num .i64 0), .d (.num .i64 0)] 24 h0 fun v5 h3 =>
  STORE 2 v5 a0 h3 fun h4 =>
  RDA id h4 fun hb5 =>
  LOAD false 1 k2 hb5 fun v8 =>
  LOAD true 2 v5 hb5 fun v9 =>
  MKS T_api_ProofPair 2 [v9] 56 hb5 fun v10 h6 =>
  APP T_api_ProofPair 2 v8 v10 64 h6 fun v11 h7 =>
  STORE 1 k2 v11 h7 fun h8 =>
  RDB none id h8 pre r post
theorem vcr_slices_AppendSeq_l_api_ProofPair_api_ProofPair_eq (g : GG) (id : Nat) (pre : List ABlk) (k2 a0 : AV) (r : AV) (post : List PB) : vcRound (Tz g) ann_slices_AppendSeq_l_api_ProofPair_api_ProofPair 13 [(2, k2)] [7] rfA_slices_AppendSeq_l_api_ProofPair_api_ProofPair rfB_slices_AppendSeq_l_api_ProofPair_api_ProofPair id pre [a0] r post = vcr_slices_AppendSeq_l_api_ProofPair_api_ProofPair (Tz g) id pre k2 a0 r post := by kernel_rfl
theorem okr_slices_AppendSeq_l_api_ProofPair_api_ProofPair : ([7].all (fun t => Nat.blt t 13) && codeOK Tryz.prog 13 false rfA_slices_AppendSeq_l_api_ProofPair_api_ProofPair && codeOK Tryz.prog 13 false rfB_slices_AppendSeq_l_api_ProofPair_api_ProofPair) = true := by kernel_rfl
theorem meetsY_slices_AppendSeq_l_api_ProofPair_api_ProofPair {g : GG} {id : Nat} {pre : List ABlk} {k2 a0 : AV} {r : AV} {post : List PB} {e : TypeId} (hpre : pre[id]? = some ⟨0, e, .loop ⟨.ready, none, 13, [(2, k2)], [7], rfA_slices_AppendSeq_l_api_ProofPair_api_ProofPair, rfB_slices_AppendSeq_l_api_ProofPair_api_ProofPair⟩⟩) (hk : Nat.ble pre.length 24 = true) (h : vcr_slices_AppendSeq_l_api_ProofPair_api_ProofPair (Tz g) id pre k2 a0 r post) : MeetsY (Tz g) id pre [a0] (.ret r) post :=
  meetsY_of_vc (C := Tz g) rfl ann_slices_AppendSeq_l_api_ProofPair_api_ProofPair hpre (by have h1 := okr_slices_AppendSeq_l_api_ProofPair_api_ProofPair; simp only [Bool.and_eq_true] at h1 ⊢; exact ⟨⟨⟨⟨rfl, h1.1.1⟩, h1.1.2⟩, h1.2⟩, hk⟩) (Eq.mpr (vcr_slices_AppendSeq_l_api_ProofPair_api_ProofPair_eq g id pre k2 a0 r post) h)
def ann_proof_Best_1 : Nat → List Nat := fun n => match n with  | _ => []
def vc_proof_Best_1 (P : Ctx) (pre : List ABlk) (a0 a1 : AV) (r : AV) (post : List PB) : Prop :=
  let h0 : Heap := numbered 0 pre
  BOX T_proof_chosen a0 24 h0 fun v2 h1 =>
  BOX T_proof_chosen a1 32 h1 fun v3 h2 =>
  FADDR 2 v2 h2 fun v5 =>
  LOAD false 1 v5 h2 fun v6 =>
  FADDR 2 v3 h2 fun v7 =>
  LOAD false 1 v7 h2 fun v8 =>
  BIN 0 .gtr v6 v8 fun v9 =>
  POST v9 h2 pre r post
theorem vc_proof_Best_1_eq (g : GG) (pre : List ABlk) (a0 a1 : AV) (r : AV) (post : List PB) : vcFn2 (Tz g) false ann_proof_Best_1 Tryz.f80 pre [a0, a1] (.ret r) post = vc_proof_Best_1 (Tz g) pre a0 a1 r post := by kernel_rfl
theorem hf_proof_Best_1 : Tryz.prog.funcs[f_proof_Best_1]? = some Tryz.f80 := by kernel_rfl
theorem ok_proof_Best_1 : fnVcOK Tryz.prog Tryz.f80 = true := by kernel_rfl
theorem nt_proof_Best_1 : Nat.ble 2 Tryz.f80.ntmps = true := by kernel_rfl
theorem meetsH_proof_Best_1 {g : GG} {pre : List ABlk} {a0 a1 : AV} {r : AV} {post : List PB} (hk : Nat.ble pre.length 24 = true) (h : vc_proof_Best_1 (Tz g) pre a0 a1 r post) : MeetsH (Tz g) f_proof_Best_1 pre [a0, a1] (.ret r) post :=
  meetsH_of_vc (C := Tz g) ann_proof_Best_1 hf_proof_Best_1 ok_proof_Best_1 nt_proof_Best_1 hk (pn := false) (Eq.mpr ((vcFn2_eq _ _ _ _ _ _ _ _).trans (vc_proof_Best_1_eq g pre a0 a1 r post)) h)
theorem meets_proof_Best_1 {g : GG} {a0 a1 : D} {r : Res} (h : vc_proof_Best_1 (Tz g) [] (.d a0) (.d a1) r.val (r.bl.map .upd)) : Meets (Tz g) f_proof_Best_1 [a0, a1] r := meetsH_proof_Best_1 rfl h
def ann_proof_best_proof_chosen : Nat → List Nat := fun n => match n with | 3 => [1, 4, 5, 12, 13, 14] | _ => []
def vc_proof_best_proof_chosen_k0 (P : Ctx) (pre : List ABlk) (r : AV) (post : List PB) (v0 : AV) (v1 : AV) (h2 : Heap) (vs4 : List AV) (next7 : List AV → Heap → Prop) : Prop :=
  COND v0
  (LOAD true 3 v1 h2 fun v3 =>
  STORE 3 (nth vs4 2) v3 h2 fun h5 =>
  BIN 0 .add (nth vs4 5) (.d (.num .i64 1)) fun v6 =>
  next7 [(nth vs4 0), (nth vs4 1), (nth vs4 2), (nth vs4 3), (nth vs4 4), v6] h5)
  (BIN 0 .add (nth vs4 5) (.d (.num .i64 1)) fun v6 =>
  next7 [(nth vs4 0), (nth vs4 1), (nth vs4 2), (nth vs4 3), (nth vs4 4), v6] h2)
def vc_proof_best_proof_chosen_k1 (P : Ctx) (pre : List ABlk) (r : AV) (post : List PB) (vs0 : List AV) (h2 : Heap) (next13 : List AV → Heap → Prop) : Prop :=
  BIN 0 .lss (nth vs0 5) (nth vs0 4) fun v1 =>
  COND v1
  (IADDR 3 T_proof_chosen (nth vs0 3) (nth vs0 5) h2 fun v3 =>
  LOAD true 3 v3 h2 fun v4 =>
  ALLOC T_proof_chosen [.d (.num .i64 0), .d (.num .i64 0), .d (.num .i64 0)] 136 h2 fun v5 h6 =>
  STORE 3 v5 v4 h6 fun h7 =>
  LOAD true 3 v5 h7 fun v8 =>
  LOAD true 3 (nth vs0 2) h7 fun v9 =>
  CALLV P (nth vs0 0) [v8, v9] 176 h7 (fun _ v11 h12 =>
  vc_proof_best_proof_chosen_k0 P pre r post v11 v5 h12 vs0 next13)
  (fun _ _ _ => False))
  (LOAD true 3 (nth vs0 2) h2 fun v14 =>
  STORE 3 (nth vs0 1) v14 h2 fun h15 =>
  LOAD true 3 (nth vs0 1) h15 fun r12 =>
  POST r12 h15 pre r post)
def vc_proof_best_proof_chosen (P : Ctx) (pre : List ABlk) (a0 a1 : AV) (r : AV) (post : List PB) : Prop :=
  let h0 : Heap := numbered 0 pre
  ALLOC T_proof_chosen [.d (.num .i64 0), .d (.num .i64 0), .d (.num .i64 0)] 24 h0 fun v4 h1 =>
  IADDR 3 T_proof_chosen a0 (.d (.num .i64 0)) h1 fun v9 =>
  LOAD true 3 v9 h1 fun v10 =>
  ALLOC T_proof_chosen [.d (.num .i64 0), .d (.num .i64 0), .d (.num .i64 0)] 56 h1 fun v5 h2 =>
  STORE 3 v5 v10 h2 fun h3 =>
  SLICE 4 a0 (some (.d (.num .i64 1))) none none fun v12 =>
  LEN false v12 h3 fun v13 =>
  LOOP [a1, v4, v5, v12, v13, (.d (.num .i64 0))] h3 104 fun vs4 h5 next4 =>
  vc_proof_best_proof_chosen_k1 P pre r post vs4 h5 next4
theorem vc_proof_best_proof_chosen_eq (g : GG) (pre : List ABlk) (a0 a1 : AV) (r : AV) (post : List PB) : vcFn2 (Tz g) false ann_proof_best_proof_chosen Tryz.f79 pre [a0, a1] (.ret r) post = vc_proof_best_proof_chosen (Tz g) pre a0 a1 r post := by kernel_rfl
theorem hf_proof_best_proof_chosen : Tryz.prog.funcs[f_proof_best_proof_chosen]? = some Tryz.f79 := by kernel_rfl
theorem ok_proof_best_proof_chosen : fnVcOK Tryz.prog Tryz.f79 = true := by kernel_rfl
theorem nt_proof_best_proof_chosen : Nat.ble 2 Tryz.f79.ntmps = true := by kernel_rfl
theorem meetsH_proof_best_proof_chosen {g : GG} {pre : List ABlk} {a0 a1 : AV} {r : AV} {post : List PB} (hk : Nat.ble pre.length 24 = true) (h : vc_proof_best_proof_chosen (Tz g) pre a0 a1 r post) : MeetsH (Tz g) f_proof_best_proof_chosen pre [a0, a1] (.ret r) post :=
  meetsH_of_vc (C := Tz g) ann_proof_best_proof_chosen hf_proof_best_proof_chosen ok_proof_best_proof_chosen nt_proof_best_proof_chosen hk (pn := false) (Eq.mpr ((vcFn2_eq _ _ _ _ _ _ _ _).trans (vc_proof_best_proof_chosen_eq g pre a0 a1 r post)) h)
theorem meets_proof_best_proof_chosen {g : GG} {a0 a1 : D} {r : Res} (h : vc_proof_best_proof_chosen (Tz g) [] (.d a0) (.d a1) r.val (r.bl.map .upd)) : Meets (Tz g) f_proof_best_proof_chosen [a0, a1] r := meetsH_proof_best_proof_chosen rfl h
def ann_proof_Fewest : Nat → List Nat := fun n => match n with | 5 => [1, 4, 17, 18] | _ => []
def vc_proof_Fewest_k0 (P : Ctx) (pre : List ABlk) (r : AV) (post : List PB) (vs0 : List AV) (h2 : Heap) (next21 : List AV → Heap → Prop) : Prop :=
  BIN 0 .lss (nth vs0 3) (nth vs0 2) fun v1 =>
  COND v1
  (ALLOC T_int [.d (.num .i64 0)] 168 h2 fun v3 h4 =>
  STORE 1 v3 (nth vs0 3) h4 fun h5 =>
  ALLOC T_l_api_ProofPair [.zc] 184 h5 fun v6 h7 =>
  ALLOC T_bool [.d (.bool false)] 192 h7 fun v8 h9 =>
  STORE 1 v8 (.d (.bool false)) h9 fun h10 =>
  ALLOC T_func_l_api_ProofPair_int [.d .nilf] 208 h10 fun v11 h12 =>
  STORE 1 v11 (.fn f_proof_Fewest_1 [] [v8, v3, (nth vs0 0), v6, (nth vs0 1), v11]) h12 fun h13 =>
  LOAD false 1 v11 h13 fun v14 =>
  CALLV P v14 [.zc, (.d (.num .i64 0))] 240 h13 (fun _ v16 h17 =>
  LOAD false 1 v8 h17 fun v18 =>
  COND v18
  (LOAD false 1 v6 h17 fun v19 =>
  POST (.tup [v19, (.d (.num .i64 0))]) h17 pre r post)
  (BIN 0 .add (nth vs0 3) (.d (.num .i64 1)) fun v20 =>
  next21 [(nth vs0 0), (nth vs0 1), (nth vs0 2), v20] h17))
  (fun _ _ _ => False))
  (POST (.tup [.zc, (.d (.num .i64 5))]) h2 pre r post)
def vc_proof_Fewest_k1 (P : Ctx) (pre : List ABlk) (r : AV) (post : List PB) (h0 : Heap) (v3 : AV) (v8 : AV) : Prop :=
  ALLOC T_l_api_ProofPair [.zc] 96 h0 fun v1 h2 =>
  STORE 1 v1 v3 h2 fun h4 =>
  LOAD false 1 v1 h4 fun v5 =>
  LEN false v5 h4 fun v6 =>
  BIN 0 .add v6 (.d (.num .i64 1)) fun v7 =>
  LOOP [v8, v1, v7, (.d (.num .i64 0))] h4 144 fun vs9 h10 next11 =>
  vc_proof_Fewest_k0 P pre r post vs9 h10 next11
def vc_proof_Fewest_k2 (P : Ctx) (pre : List ABlk) (r : AV) (post : List PB) (v0 : AV) (h2 : Heap) (v3 : AV) : Prop :=
  NOT v0 fun v1 =>
  COND v1
  (POST (.tup [.zc, (.d (.num .i64 2))]) h2 pre r post)
  (LOAD true 3 v3 h2 fun v4 =>
  CALL P f_proof_pairs [v4] 80 h2 (fun _ v6 h7 =>
  CALL P f_slices_Collect_api_ProofPair [v6] 88 h7 (fun _ v9 h10 =>
  vc_proof_Fewest_k1 P pre r post h10 v9 v3)
  (fun _ _ _ => False))
  (fun _ _ _ => False))
def vc_proof_Fewest (P : Ctx) (pre : List ABlk) (a0 : AV) (r : AV) (post : List PB) : Prop :=
  let h0 : Heap := numbered 0 pre
  BOX T_api_ProofPage a0 24 h0 fun v1 h1 =>
  LOAD true 3 v1 h1 fun v9 =>
  CALL P f_proof_isPage [v9] 56 h1 (fun _ v10 h2 =>
  vc_proof_Fewest_k2 P pre r post v10 h2 v1)
  (fun _ _ _ => False)
theorem vc_proof_Fewest_eq (g : GG) (pre : List ABlk) (a0 : AV) (r : AV) (post : List PB) : vcFn2 (Tz g) false ann_proof_Fewest Tryz.f39 pre [a0] (.ret r) post = vc_proof_Fewest (Tz g) pre a0 r post := by kernel_rfl
theorem hf_proof_Fewest : Tryz.prog.funcs[f_proof_Fewest]? = some Tryz.f39 := by kernel_rfl
theorem ok_proof_Fewest : fnVcOK Tryz.prog Tryz.f39 = true := by kernel_rfl
theorem nt_proof_Fewest : Nat.ble 1 Tryz.f39.ntmps = true := by kernel_rfl
theorem meetsH_proof_Fewest {g : GG} {pre : List ABlk} {a0 : AV} {r : AV} {post : List PB} (hk : Nat.ble pre.length 24 = true) (h : vc_proof_Fewest (Tz g) pre a0 r post) : MeetsH (Tz g) f_proof_Fewest pre [a0] (.ret r) post :=
  meetsH_of_vc (C := Tz g) ann_proof_Fewest hf_proof_Fewest ok_proof_Fewest nt_proof_Fewest hk (pn := false) (Eq.mpr ((vcFn2_eq _ _ _ _ _ _ _ _).trans (vc_proof_Fewest_eq g pre a0 r post)) h)
theorem meets_proof_Fewest {g : GG} {a0 : D} {r : Res} (h : vc_proof_Fewest (Tz g) [] (.d a0) r.val (r.bl.map .upd)) : Meets (Tz g) f_proof_Fewest [a0] r := meetsH_proof_Fewest rfl h
def ann_proof_Fewest_1 : Nat → List Nat := fun n => match n with | 4 => [0, 6, 7, 10] | _ => []
def vc_proof_Fewest_1_k0 (P : Ctx) (pre : List ABlk) (r : AV) (post : List PB) (h0 : Heap) (vs1 : List AV) (h2 : Heap) (rd3 : List Nat) (v4 : AV) (v5 : AV) (h6 : Heap) (v7 : AV) (h8 : Heap) (v9 : AV) (v10 : AV) (h11 : Heap) (rd12 : List Nat) (next14 : List AV → Heap → Prop) : Prop :=
  ORDX [] [0, 0, 2, 0, 0, 24, 56, 120, 254, 0, 512, 2047] [(0, wr h0 h0, (ids (nth vs1 2))), (2, wr h0 h2, rd3), (3, wr h2 h2, (ids (nth vs1 1))), (5, wr h2 h2, (ids v4)), (6, wr h2 h2, (ids v5)), (7, wr h2 h6, (ids.idsL [v7])), (8, wr h6 h8, (ids.idsL [v9, v10])), (11, wr h8 h11, rd12)] ∧
  BIN 0 .add (nth vs1 3) (.d (.num .i64 1)) fun v13 =>
  next14 [(nth vs1 0), (nth vs1 1), (nth vs1 2), v13] h11
def vc_proof_Fewest_1_k1 (P : Ctx) (pre : List ABlk) (r : AV) (post : List PB) (vs0 : List AV) (h1 : Heap) (v7 : AV) (v11 : AV) (h15 : Heap) (rd16 : List Nat) (next17 : List AV → Heap → Prop) : Prop :=
  LOAD false 1 (nth vs0 1) h1 fun v2 =>
  IADDR 2 T_api_ProofPair v2 (nth vs0 3) h1 fun v3 =>
  LOAD true 2 v3 h1 fun v4 =>
  MKS T_api_ProofPair 2 [v4] 192 h1 fun v5 h6 =>
  APP T_api_ProofPair 2 v7 v5 200 h6 fun v8 h9 =>
  BIN 0 .add (nth vs0 3) (.d (.num .i64 1)) fun v10 =>
  CALLV P v11 [v8, v10] 224 h9 (fun rd12 v13 h14 =>
  vc_proof_Fewest_1_k0 P pre r post h15 vs0 h1 rd16 v2 v3 h6 v4 h9 v7 v5 h14 rd12 next17)
  (fun _ _ _ => False)
def vc_proof_Fewest_1_k2 (P : Ctx) (pre : List ABlk) (r : AV) (post : List PB) (vs0 : List AV) (h1 : Heap) (next9 : List AV → Heap → Prop) : Prop :=
  LOAD false 1 (nth vs0 1) h1 fun v2 =>
  LEN false v2 h1 fun v3 =>
  BIN 0 .lss (nth vs0 3) v3 fun v4 =>
  COND v4
  (LOAD false 1 (nth vs0 2) h1 fun v5 =>
  CALL P f_slices_Clone_l_api_ProofPair_api_ProofPair [(nth vs0 0)] 152 h1 (fun rd6 v7 h8 =>
  vc_proof_Fewest_1_k1 P pre r post vs0 h8 v7 v5 h1 rd6 next9)
  (fun _ _ _ => False))
  (POST (.tup []) h1 pre r post)
def vc_proof_Fewest_1_k3 (P : Ctx) (pre : List ABlk) (r : AV) (post : List PB) (a0 : AV) (h1 : Heap) (a4 : AV) (a6 : AV) (a13 : AV) : Prop :=
  LOAD false 1 a0 h1 fun v2 =>
  NOT v2 fun v3 =>
  CONDG v3
  (LOAD true 3 a4 h1 fun v5 =>
  CALL P f_proof_after [v5, a6] 120 h1 (fun _ v8 h9 =>
  CALL P f_p_proof_page_passes [v8] 128 h9 (fun _ v11 h12 =>
  COND v11
  (STORE 1 a13 a6 h12 fun h14 =>
  STORE 1 a0 (.d (.bool true)) h14 fun h15 =>
  POST (.tup []) h15 pre r post)
  (POST (.tup []) h12 pre r post))
  (fun _ _ _ => False))
  (fun _ _ _ => False))
  (POST (.tup []) h1 pre r post)
def vc_proof_Fewest_1_k4 (P : Ctx) (pre : List ABlk) (r : AV) (post : List PB) (a0 : AV) (h1 : Heap) (a3 : AV) (a6 : AV) (a9 : AV) (a17 : AV) (a20 : AV) (a21 : AV) (a22 : AV) : Prop :=
  LEN false a0 h1 fun v2 =>
  LOAD false 1 a3 h1 fun v4 =>
  BIN 0 .eql v2 v4 fun v5 =>
  COND v5
  (LOAD false 1 a6 h1 fun v7 =>
  NOT v7 fun v8 =>
  CONDG v8
  (LOAD true 3 a9 h1 fun v10 =>
  CALL P f_proof_after [v10, a0] 120 h1 (fun _ v12 h13 =>
  CALL P f_p_proof_page_passes [v12] 128 h13 (fun _ v15 h16 =>
  COND v15
  (STORE 1 a17 a0 h16 fun h18 =>
  STORE 1 a6 (.d (.bool true)) h18 fun h19 =>
  POST (.tup []) h19 pre r post)
  (POST (.tup []) h16 pre r post))
  (fun _ _ _ => False))
  (fun _ _ _ => False))
  (POST (.tup []) h1 pre r post))
  (LOOP [a0, a20, a21, a22] h1 96 fun vs23 h24 next25 =>
  vc_proof_Fewest_1_k2 P pre r post vs23 h24 next25)
def vc_proof_Fewest_1 (P : Ctx) (pre : List ABlk) (a0 a1 a2 a3 a4 a5 a6 a7 : AV) (r : AV) (post : List PB) : Prop :=
  let h0 : Heap := numbered 0 pre
  LOAD false 1 a2 h0 fun v11 =>
  CONDG v11
  (vc_proof_Fewest_1_k3 P pre r post a2 h0 a4 a0 a5)
  (vc_proof_Fewest_1_k4 P pre r post a0 h0 a3 a2 a4 a5 a6 a7 a1)
theorem vc_proof_Fewest_1_eq (g : GG) (pre : List ABlk) (a0 a1 a2 a3 a4 a5 a6 a7 : AV) (r : AV) (post : List PB) : vcFn2 (Tz g) false ann_proof_Fewest_1 Tryz.f82 pre [a0, a1, a2, a3, a4, a5, a6, a7] (.ret r) post = vc_proof_Fewest_1 (Tz g) pre a0 a1 a2 a3 a4 a5 a6 a7 r post := by kernel_rfl
theorem hf_proof_Fewest_1 : Tryz.prog.funcs[f_proof_Fewest_1]? = some Tryz.f82 := by kernel_rfl
theorem ok_proof_Fewest_1 : fnVcOK Tryz.prog Tryz.f82 = true := by kernel_rfl
theorem nt_proof_Fewest_1 : Nat.ble 8 Tryz.f82.ntmps = true := by kernel_rfl
theorem meetsH_proof_Fewest_1 {g : GG} {pre : List ABlk} {a0 a1 a2 a3 a4 a5 a6 a7 : AV} {r : AV} {post : List PB} (hk : Nat.ble pre.length 24 = true) (h : vc_proof_Fewest_1 (Tz g) pre a0 a1 a2 a3 a4 a5 a6 a7 r post) : MeetsH (Tz g) f_proof_Fewest_1 pre [a0, a1, a2, a3, a4, a5, a6, a7] (.ret r) post :=
  meetsH_of_vc (C := Tz g) ann_proof_Fewest_1 hf_proof_Fewest_1 ok_proof_Fewest_1 nt_proof_Fewest_1 hk (pn := false) (Eq.mpr ((vcFn2_eq _ _ _ _ _ _ _ _).trans (vc_proof_Fewest_1_eq g pre a0 a1 a2 a3 a4 a5 a6 a7 r post)) h)
def ann_ref09_pairs : Nat → List Nat := fun n => match n with | 3 => [1, 3, 4] | 6 => [1, 3, 4, 5] | _ => []
def vc_ref09_pairs_k0 (P : Ctx) (pre : List ABlk) (r : AV) (post : List PB) (vs0 : List AV) (h1 : Heap) (next11 : List AV → Heap → Prop) (next13 : List AV → Heap → Prop) : Prop :=
  FADDR 0 (nth vs0 0) h1 fun v2 =>
  LOAD false 1 v2 h1 fun v3 =>
  BIN 0 .lss (nth vs0 3) v3 fun v4 =>
  COND v4
  (BUILD [(0, 1), (1, 1)] [.d (.num .i64 0), .d (.num .i64 0)] [(0, (nth vs0 2)), (1, (nth vs0 3))] fun v5 =>
  MKS T_api_ProofPair 2 [v5] 192 h1 fun v6 h7 =>
  APP T_api_ProofPair 2 (nth vs0 1) v6 200 h7 fun v8 h9 =>
  BIN 0 .add (nth vs0 3) (.d (.num .i64 1)) fun v10 =>
  next11 [(nth vs0 0), v8, (nth vs0 2), v10] h9)
  (BIN 0 .add (nth vs0 2) (.d (.num .i64 1)) fun v12 =>
  next13 [(nth vs0 0), (nth vs0 1), v12] h1)
def vc_ref09_pairs_k1 (P : Ctx) (pre : List ABlk) (r : AV) (post : List PB) (vs0 : List AV) (h1 : Heap) (next9 : List AV → Heap → Prop) : Prop :=
  FADDR 0 (nth vs0 0) h1 fun v2 =>
  LOAD false 1 v2 h1 fun v3 =>
  BIN 0 .lss (nth vs0 2) v3 fun v4 =>
  COND v4
  (BIN 0 .add (nth vs0 2) (.d (.num .i64 1)) fun v5 =>
  LOOP [(nth vs0 0), (nth vs0 1), (nth vs0 2), v5] h1 120 fun vs6 h7 next8 =>
  vc_ref09_pairs_k0 P pre r post vs6 h7 next8 next9)
  (POST (nth vs0 1) h1 pre r post)
def vc_ref09_pairs (P : Ctx) (pre : List ABlk) (a0 : AV) (r : AV) (post : List PB) : Prop :=
  let h0 : Heap := numbered 0 pre
  BOX T_api_ProofPage a0 24 h0 fun v1 h1 =>
  LOOP [v1, .zc, (.d (.num .i64 0))] h1 56 fun vs2 h3 next2 =>
  vc_ref09_pairs_k1 P pre r post vs2 h3 next2
theorem vc_ref09_pairs_eq (g : GG) (pre : List ABlk) (a0 : AV) (r : AV) (post : List PB) : vcFn2 (Tz g) false ann_ref09_pairs Tryz.f85 pre [a0] (.ret r) post = vc_ref09_pairs (Tz g) pre a0 r post := by kernel_rfl
theorem hf_ref09_pairs : Tryz.prog.funcs[f_ref09_pairs]? = some Tryz.f85 := by kernel_rfl
theorem ok_ref09_pairs : fnVcOK Tryz.prog Tryz.f85 = true := by kernel_rfl
theorem nt_ref09_pairs : Nat.ble 1 Tryz.f85.ntmps = true := by kernel_rfl
theorem meetsH_ref09_pairs {g : GG} {pre : List ABlk} {a0 : AV} {r : AV} {post : List PB} (hk : Nat.ble pre.length 24 = true) (h : vc_ref09_pairs (Tz g) pre a0 r post) : MeetsH (Tz g) f_ref09_pairs pre [a0] (.ret r) post :=
  meetsH_of_vc (C := Tz g) ann_ref09_pairs hf_ref09_pairs ok_ref09_pairs nt_ref09_pairs hk (pn := false) (Eq.mpr ((vcFn2_eq _ _ _ _ _ _ _ _).trans (vc_ref09_pairs_eq g pre a0 r post)) h)
theorem meets_ref09_pairs {g : GG} {a0 : D} {r : Res} (h : vc_ref09_pairs (Tz g) [] (.d a0) r.val (r.bl.map .upd)) : Meets (Tz g) f_ref09_pairs [a0] r := meetsH_ref09_pairs rfl h
def ann_ref09_Best : Nat → List Nat := fun n => match n with | 4 => [1, 5, 6, 7, 8] | _ => []
def vc_ref09_Best_k0 (P : Ctx) (pre : List ABlk) (r : AV) (post : List PB) (v0 : AV) (h1 : Heap) (h3 : Heap) (vs4 : List AV) (v5 : AV) (v6 : AV) (v7 : AV) (v8 : AV) (h9 : Heap) (rd10 : List Nat) (h11 : Heap) (rd12 : List Nat) (rd13 : List Nat) (next16 : List AV → Heap → Prop) : Prop :=
  LEN false v0 h1 fun v2 =>
  ORDX [] [0, 0, 0, 0, 12, 28, 60, 0, 0, 384, 896, 1920, 4094, 8191, 16383, 32767, 65535] [(0, wr h3 h3, (ids (nth vs4 0))), (1, wr h3 h3, (ids (nth vs4 0))), (4, wr h3 h3, (ids (nth vs4 1))), (5, wr h3 h3, (ids v5)), (6, wr h3 h3, (ids v6)), (9, wr h3 h3, (ids (nth vs4 1))), (10, wr h3 h3, (ids v7)), (11, wr h3 h3, (ids v8)), (12, wr h3 h9, rd10), (13, wr h9 h11, rd12), (14, wr h11 h1, rd13), (15, wr h1 h1, (ids v0))] ∧
  BIN 0 .gtr v2 (nth vs4 3) fun v14 =>
  COND v14
  (BIN 0 .add (nth vs4 4) (.d (.num .i64 1)) fun v15 =>
  next16 [(nth vs4 0), (nth vs4 1), (nth vs4 4), v2, v15] h1)
  (BIN 0 .add (nth vs4 4) (.d (.num .i64 1)) fun v15 =>
  next16 [(nth vs4 0), (nth vs4 1), (nth vs4 2), (nth vs4 3), v15] h1)
def vc_ref09_Best_k1 (P : Ctx) (pre : List ABlk) (r : AV) (post : List PB) (vs0 : List AV) (h1 : Heap) (next19 : List AV → Heap → Prop) : Prop :=
  LOAD true 3 (nth vs0 0) h1 fun v2 =>
  LOAD true 3 (nth vs0 0) h1 fun v3 =>
  IADDR 2 T_api_ProofPair (nth vs0 1) (nth vs0 4) h1 fun v4 =>
  FADDR 0 v4 h1 fun v5 =>
  LOAD false 1 v5 h1 fun v6 =>
  IADDR 2 T_api_ProofPair (nth vs0 1) (nth vs0 4) h1 fun v7 =>
  FADDR 1 v7 h1 fun v8 =>
  LOAD false 1 v8 h1 fun v9 =>
  CALL P f_ref09_Whole [v3, v6, v9] 240 h1 (fun rd10 v11 h12 =>
  CALL P f_ref09_With [v2, v11] 248 h12 (fun rd13 v14 h15 =>
  CALL P f_ref09_Passes [v14] 256 h15 (fun rd16 v17 h18 =>
  vc_ref09_Best_k0 P pre r post v17 h18 h1 vs0 v4 v5 v7 v8 h12 rd10 h15 rd13 rd16 next19)
  (fun _ _ _ => False))
  (fun _ _ _ => False))
  (fun _ _ _ => False)
def vc_ref09_Best_k2 (P : Ctx) (pre : List ABlk) (r : AV) (post : List PB) (vs0 : List AV) (h1 : Heap) : Prop :=
  IADDR 2 T_api_ProofPair (nth vs0 1) (nth vs0 2) h1 fun v2 =>
  FADDR 0 v2 h1 fun v3 =>
  LOAD false 1 v3 h1 fun v4 =>
  IADDR 2 T_api_ProofPair (nth vs0 1) (nth vs0 2) h1 fun v5 =>
  FADDR 1 v5 h1 fun v6 =>
  LOAD false 1 v6 h1 fun v7 =>
  ORDX [] [0, 0, 3, 7, 15, 0, 0, 96, 224, 480, 0, 31, 3071, 8191] [(2, wr h1 h1, (ids (nth vs0 1))), (3, wr h1 h1, (ids v2)), (4, wr h1 h1, (ids v3)), (7, wr h1 h1, (ids (nth vs0 1))), (8, wr h1 h1, (ids v5)), (9, wr h1 h1, (ids v6))] ∧
  POST (.tup [v4, v7, (nth vs0 3)]) h1 pre r post
def vc_ref09_Best_k3 (P : Ctx) (pre : List ABlk) (r : AV) (post : List PB) (v0 : AV) (v1 : AV) (h2 : Heap) : Prop :=
  LOOP [v0, v1, (.d (.num .i64 0)), (.d (.num .i64 (-1))), (.d (.num .i64 0))] h2 104 fun vs3 h4 next5 =>
  LEN false (nth vs3 1) h4 fun v6 =>
  BIN 0 .lss (nth vs3 4) v6 fun v7 =>
  COND v7
  (vc_ref09_Best_k1 P pre r post vs3 h4 next5)
  (vc_ref09_Best_k2 P pre r post vs3 h4)
def vc_ref09_Best (P : Ctx) (pre : List ABlk) (a0 : AV) (r : AV) (post : List PB) : Prop :=
  let h0 : Heap := numbered 0 pre
  BOX T_api_ProofPage a0 24 h0 fun v1 h1 =>
  LOAD true 3 v1 h1 fun v10 =>
  CALL P f_ref09_pairs [v10] 64 h1 (fun _ v11 h2 =>
  vc_ref09_Best_k3 P pre r post v1 v11 h2)
  (fun _ _ _ => False)
theorem vc_ref09_Best_eq (g : GG) (pre : List ABlk) (a0 : AV) (r : AV) (post : List PB) : vcFn2 (Tz g) false ann_ref09_Best Tryz.f40 pre [a0] (.ret r) post = vc_ref09_Best (Tz g) pre a0 r post := by kernel_rfl
theorem hf_ref09_Best : Tryz.prog.funcs[f_ref09_Best]? = some Tryz.f40 := by kernel_rfl
theorem ok_ref09_Best : fnVcOK Tryz.prog Tryz.f40 = true := by kernel_rfl
theorem nt_ref09_Best : Nat.ble 1 Tryz.f40.ntmps = true := by kernel_rfl
theorem meetsH_ref09_Best {g : GG} {pre : List ABlk} {a0 : AV} {r : AV} {post : List PB} (hk : Nat.ble pre.length 24 = true) (h : vc_ref09_Best (Tz g) pre a0 r post) : MeetsH (Tz g) f_ref09_Best pre [a0] (.ret r) post :=
  meetsH_of_vc (C := Tz g) ann_ref09_Best hf_ref09_Best ok_ref09_Best nt_ref09_Best hk (pn := false) (Eq.mpr ((vcFn2_eq _ _ _ _ _ _ _ _).trans (vc_ref09_Best_eq g pre a0 r post)) h)
theorem meets_ref09_Best {g : GG} {a0 : D} {r : Res} (h : vc_ref09_Best (Tz g) [] (.d a0) r.val (r.bl.map .upd)) : Meets (Tz g) f_ref09_Best [a0] r := meetsH_ref09_Best rfl h
def ann_ref09_Enough : Nat → List Nat := fun n => match n with | 2 => [1, 2, 5] | _ => []
def vc_ref09_Enough_k0 (P : Ctx) (pre : List ABlk) (r : AV) (post : List PB) (vs0 : List AV) (v1 : AV) (h2 : Heap) (h4 : Heap) (v5 : AV) (v6 : AV) (v7 : AV) (v8 : AV) (h9 : Heap) (rd10 : List Nat) (rd11 : List Nat) (next13 : List AV → Heap → Prop) : Prop :=
  STORE 3 (nth vs0 1) v1 h2 fun h3 =>
  ORDX [] [0, 0, 0, 0, 12, 28, 60, 0, 0, 384, 896, 1920, 4094, 8191, 16383] [(0, wr h4 h4, (ids (nth vs0 1))), (1, wr h4 h4, (ids (nth vs0 1))), (4, wr h4 h4, (ids (nth vs0 0))), (5, wr h4 h4, (ids v5)), (6, wr h4 h4, (ids v6)), (9, wr h4 h4, (ids (nth vs0 0))), (10, wr h4 h4, (ids v7)), (11, wr h4 h4, (ids v8)), (12, wr h4 h9, rd10), (13, wr h9 h2, rd11), (14, wr h2 h3, (ids (nth vs0 1)))] ∧
  BIN 0 .add (nth vs0 2) (.d (.num .i64 1)) fun v12 =>
  next13 [(nth vs0 0), (nth vs0 1), v12] h3
def vc_ref09_Enough_k1 (P : Ctx) (pre : List ABlk) (r : AV) (post : List PB) (vs0 : List AV) (h1 : Heap) (next18 : List AV → Heap → Prop) : Prop :=
  LEN false (nth vs0 0) h1 fun v2 =>
  BIN 0 .lss (nth vs0 2) v2 fun v3 =>
  COND v3
  (LOAD true 3 (nth vs0 1) h1 fun v4 =>
  LOAD true 3 (nth vs0 1) h1 fun v5 =>
  IADDR 2 T_api_ProofPair (nth vs0 0) (nth vs0 2) h1 fun v6 =>
  FADDR 0 v6 h1 fun v7 =>
  LOAD false 1 v7 h1 fun v8 =>
  IADDR 2 T_api_ProofPair (nth vs0 0) (nth vs0 2) h1 fun v9 =>
  FADDR 1 v9 h1 fun v10 =>
  LOAD false 1 v10 h1 fun v11 =>
  CALL P f_ref09_Whole [v5, v8, v11] 184 h1 (fun rd12 v13 h14 =>
  CALL P f_ref09_With [v4, v13] 192 h14 (fun rd15 v16 h17 =>
  vc_ref09_Enough_k0 P pre r post vs0 v16 h17 h1 v6 v7 v9 v10 h14 rd12 rd15 next18)
  (fun _ _ _ => False))
  (fun _ _ _ => False))
  (LOAD true 3 (nth vs0 1) h1 fun v19 =>
  CALL P f_ref09_Pass [v19] 96 h1 (fun _ v21 h22 =>
  POST v21 h22 pre r post)
  (fun _ _ _ => False))
def vc_ref09_Enough (P : Ctx) (pre : List ABlk) (a0 a1 : AV) (r : AV) (post : List PB) : Prop :=
  let h0 : Heap := numbered 0 pre
  BOX T_api_ProofPage a0 24 h0 fun v2 h1 =>
  LOOP [a1, v2, (.d (.num .i64 0))] h1 48 fun vs2 h3 next2 =>
  vc_ref09_Enough_k1 P pre r post vs2 h3 next2
theorem vc_ref09_Enough_eq (g : GG) (pre : List ABlk) (a0 a1 : AV) (r : AV) (post : List PB) : vcFn2 (Tz g) false ann_ref09_Enough Tryz.f88 pre [a0, a1] (.ret r) post = vc_ref09_Enough (Tz g) pre a0 a1 r post := by kernel_rfl
theorem hf_ref09_Enough : Tryz.prog.funcs[f_ref09_Enough]? = some Tryz.f88 := by kernel_rfl
theorem ok_ref09_Enough : fnVcOK Tryz.prog Tryz.f88 = true := by kernel_rfl
theorem nt_ref09_Enough : Nat.ble 2 Tryz.f88.ntmps = true := by kernel_rfl
theorem meetsH_ref09_Enough {g : GG} {pre : List ABlk} {a0 a1 : AV} {r : AV} {post : List PB} (hk : Nat.ble pre.length 24 = true) (h : vc_ref09_Enough (Tz g) pre a0 a1 r post) : MeetsH (Tz g) f_ref09_Enough pre [a0, a1] (.ret r) post :=
  meetsH_of_vc (C := Tz g) ann_ref09_Enough hf_ref09_Enough ok_ref09_Enough nt_ref09_Enough hk (pn := false) (Eq.mpr ((vcFn2_eq _ _ _ _ _ _ _ _).trans (vc_ref09_Enough_eq g pre a0 a1 r post)) h)
theorem meets_ref09_Enough {g : GG} {a0 a1 : D} {r : Res} (h : vc_ref09_Enough (Tz g) [] (.d a0) (.d a1) r.val (r.bl.map .upd)) : Meets (Tz g) f_ref09_Enough [a0, a1] r := meetsH_ref09_Enough rfl h
def ann_ref09_lists : Nat → List Nat := fun n => match n with | 5 => [0, 1, 2, 7, 8] | _ => []
def vc_ref09_lists_k0 (P : Ctx) (pre : List ABlk) (r : AV) (post : List PB) (vs0 : List AV) (v1 : AV) (h2 : Heap) (h5 : Heap) (h6 : Heap) (v7 : AV) (h8 : Heap) (v9 : AV) (h10 : Heap) (v11 : AV) (v12 : AV) (rd13 : List Nat) (next15 : List AV → Heap → Prop) : Prop :=
  APP T_l_api_ProofPair 1 (nth vs0 3) v1 240 h2 fun v3 h4 =>
  ORDX [] [0, 0, 2, 0, 0, 24, 56, 120, 254, 0, 0, 1024, 3584, 0, 16382, 32767, 65535] [(2, wr h5 h6, (ids.idsL [.zc, (nth vs0 0)])), (5, wr h6 h6, (ids (nth vs0 1))), (6, wr h6 h6, (ids v7)), (7, wr h6 h8, (ids.idsL [v9])), (8, wr h8 h10, (ids.idsL [v11, v12])), (14, wr h10 h2, rd13), (15, wr h2 h4, (ids.idsL [(nth vs0 3), v1]))] ∧
  BIN 0 .add (nth vs0 4) (.d (.num .i64 1)) fun v14 =>
  next15 [(nth vs0 0), (nth vs0 1), (nth vs0 2), v3, v14] h4
def vc_ref09_lists_k1 (P : Ctx) (pre : List ABlk) (r : AV) (post : List PB) (vs0 : List AV) (h1 : Heap) (next17 : List AV → Heap → Prop) : Prop :=
  LEN false (nth vs0 1) h1 fun v2 =>
  BIN 0 .lss (nth vs0 4) v2 fun v3 =>
  COND v3
  (APP T_api_ProofPair 2 .zc (nth vs0 0) 136 h1 fun v4 h5 =>
  IADDR 2 T_api_ProofPair (nth vs0 1) (nth vs0 4) h5 fun v6 =>
  LOAD true 2 v6 h5 fun v7 =>
  MKS T_api_ProofPair 2 [v7] 176 h5 fun v8 h9 =>
  APP T_api_ProofPair 2 v4 v8 184 h9 fun v10 h11 =>
  BIN 0 .add (nth vs0 4) (.d (.num .i64 1)) fun v12 =>
  SLICE 3 (nth vs0 1) (some v12) none none fun v13 =>
  CALL P f_ref09_lists [v10, v13, (nth vs0 2)] 232 h11 (fun rd14 v15 h16 =>
  vc_ref09_lists_k0 P pre r post vs0 v15 h16 h1 h5 v6 h9 v7 h11 v4 v8 rd14 next17)
  (fun _ _ _ => False))
  (POST (nth vs0 3) h1 pre r post)
def vc_ref09_lists (P : Ctx) (pre : List ABlk) (a0 a1 a2 : AV) (r : AV) (post : List PB) : Prop :=
  let h0 : Heap := numbered 0 pre
  LEN false a0 h0 fun v10 =>
  BIN 0 .eql v10 a2 fun v12 =>
  COND v12
  (MKS T_l_api_ProofPair 1 [a0] 72 h0 fun v14 h1 =>
  POST v14 h1 pre r post)
  (LOOP [a0, a1, a2, .zc, (.d (.num .i64 0))] h0 80 fun vs2 h3 next2 =>
  vc_ref09_lists_k1 P pre r post vs2 h3 next2)
theorem vc_ref09_lists_eq (g : GG) (pre : List ABlk) (a0 a1 a2 : AV) (r : AV) (post : List PB) : vcFn2 (Tz g) false ann_ref09_lists Tryz.f87 pre [a0, a1, a2] (.ret r) post = vc_ref09_lists (Tz g) pre a0 a1 a2 r post := by kernel_rfl
theorem hf_ref09_lists : Tryz.prog.funcs[f_ref09_lists]? = some Tryz.f87 := by kernel_rfl
theorem ok_ref09_lists : fnVcOK Tryz.prog Tryz.f87 = true := by kernel_rfl
theorem nt_ref09_lists : Nat.ble 3 Tryz.f87.ntmps = true := by kernel_rfl
theorem meetsH_ref09_lists {g : GG} {pre : List ABlk} {a0 a1 a2 : AV} {r : AV} {post : List PB} (hk : Nat.ble pre.length 24 = true) (h : vc_ref09_lists (Tz g) pre a0 a1 a2 r post) : MeetsH (Tz g) f_ref09_lists pre [a0, a1, a2] (.ret r) post :=
  meetsH_of_vc (C := Tz g) ann_ref09_lists hf_ref09_lists ok_ref09_lists nt_ref09_lists hk (pn := false) (Eq.mpr ((vcFn2_eq _ _ _ _ _ _ _ _).trans (vc_ref09_lists_eq g pre a0 a1 a2 r post)) h)
theorem meets_ref09_lists {g : GG} {a0 a1 a2 : D} {r : Res} (h : vc_ref09_lists (Tz g) [] (.d a0) (.d a1) (.d a2) r.val (r.bl.map .upd)) : Meets (Tz g) f_ref09_lists [a0, a1, a2] r := meetsH_ref09_lists rfl h
def ann_ref09_Fewest : Nat → List Nat := fun n => match n with | 2 => [1, 4] | 6 => [1, 4, 5, 6] | _ => []
def vc_ref09_Fewest_k0 (P : Ctx) (pre : List ABlk) (r : AV) (post : List PB) (h0 : Heap) (vs1 : List AV) (v2 : AV) (h3 : Heap) (rd4 : List Nat) (v5 : AV) (next9 : List AV → Heap → Prop) : Prop :=
  ORDX [] [0, 0, 0, 6, 14, 31] [(0, wr h0 h0, (ids (nth vs1 0))), (3, wr h0 h0, (ids (nth vs1 2))), (4, wr h0 h0, (ids v2)), (5, wr h0 h3, rd4)] ∧
  COND v5
  (IADDR 1 T_l_api_ProofPair (nth vs1 2) (nth vs1 3) h3 fun v6 =>
  LOAD false 1 v6 h3 fun v7 =>
  POST (.tup [v7, (.d (.bool true))]) h3 pre r post)
  (BIN 0 .add (nth vs1 3) (.d (.num .i64 1)) fun v8 =>
  next9 [(nth vs1 0), (nth vs1 1), (nth vs1 2), v8] h3)
def vc_ref09_Fewest_k1 (P : Ctx) (pre : List ABlk) (r : AV) (post : List PB) (vs0 : List AV) (h1 : Heap) (next10 : List AV → Heap → Prop) (next12 : List AV → Heap → Prop) : Prop :=
  LEN false (nth vs0 2) h1 fun v2 =>
  BIN 0 .lss (nth vs0 3) v2 fun v3 =>
  COND v3
  (LOAD true 3 (nth vs0 0) h1 fun v4 =>
  IADDR 1 T_l_api_ProofPair (nth vs0 2) (nth vs0 3) h1 fun v5 =>
  LOAD false 1 v5 h1 fun v6 =>
  CALL P f_ref09_Enough [v4, v6] 208 h1 (fun rd7 v8 h9 =>
  vc_ref09_Fewest_k0 P pre r post h1 vs0 v5 h9 rd7 v8 next10)
  (fun _ _ _ => False))
  (BIN 0 .add (nth vs0 1) (.d (.num .i64 1)) fun v11 =>
  next12 [(nth vs0 0), v11] h1)
def vc_ref09_Fewest_k2 (P : Ctx) (pre : List ABlk) (r : AV) (post : List PB) (vs0 : List AV) (h2 : Heap) (next13 : List AV → Heap → Prop) : Prop :=
  BIN 0 .leq (nth vs0 1) (.d (.num .i64 2)) fun v1 =>
  COND v1
  (LOAD true 3 (nth vs0 0) h2 fun v3 =>
  CALL P f_ref09_pairs [v3] 88 h2 (fun _ v5 h6 =>
  CALL P f_ref09_lists [.zc, v5, (nth vs0 1)] 104 h6 (fun _ v8 h9 =>
  LOOP [(nth vs0 0), (nth vs0 1), v8, (.d (.num .i64 0))] h9 128 fun vs10 h11 next12 =>
  vc_ref09_Fewest_k1 P pre r post vs10 h11 next12 next13)
  (fun _ _ _ => False))
  (fun _ _ _ => False))
  (POST (.tup [.zc, (.d (.bool false))]) h2 pre r post)
def vc_ref09_Fewest (P : Ctx) (pre : List ABlk) (a0 : AV) (r : AV) (post : List PB) : Prop :=
  let h0 : Heap := numbered 0 pre
  BOX T_api_ProofPage a0 24 h0 fun v1 h1 =>
  LOOP [v1, (.d (.num .i64 0))] h1 56 fun vs2 h3 next2 =>
  vc_ref09_Fewest_k2 P pre r post vs2 h3 next2
theorem vc_ref09_Fewest_eq (g : GG) (pre : List ABlk) (a0 : AV) (r : AV) (post : List PB) : vcFn2 (Tz g) false ann_ref09_Fewest Tryz.f41 pre [a0] (.ret r) post = vc_ref09_Fewest (Tz g) pre a0 r post := by kernel_rfl
theorem hf_ref09_Fewest : Tryz.prog.funcs[f_ref09_Fewest]? = some Tryz.f41 := by kernel_rfl
theorem ok_ref09_Fewest : fnVcOK Tryz.prog Tryz.f41 = true := by kernel_rfl
theorem nt_ref09_Fewest : Nat.ble 1 Tryz.f41.ntmps = true := by kernel_rfl
theorem meetsH_ref09_Fewest {g : GG} {pre : List ABlk} {a0 : AV} {r : AV} {post : List PB} (hk : Nat.ble pre.length 24 = true) (h : vc_ref09_Fewest (Tz g) pre a0 r post) : MeetsH (Tz g) f_ref09_Fewest pre [a0] (.ret r) post :=
  meetsH_of_vc (C := Tz g) ann_ref09_Fewest hf_ref09_Fewest ok_ref09_Fewest nt_ref09_Fewest hk (pn := false) (Eq.mpr ((vcFn2_eq _ _ _ _ _ _ _ _).trans (vc_ref09_Fewest_eq g pre a0 r post)) h)
theorem meets_ref09_Fewest {g : GG} {a0 : D} {r : Res} (h : vc_ref09_Fewest (Tz g) [] (.d a0) r.val (r.bl.map .upd)) : Meets (Tz g) f_ref09_Fewest [a0] r := meetsH_ref09_Fewest rfl h
def ann_ref09_SamePairs : Nat → List Nat := fun n => match n with | 4 => [0, 1, 5] | _ => []
def vc_ref09_SamePairs_k0 (P : Ctx) (pre : List ABlk) (r : AV) (post : List PB) (vs0 : List AV) (h1 : Heap) (next10 : List AV → Heap → Prop) : Prop :=
  LEN false (nth vs0 0) h1 fun v2 =>
  BIN 0 .lss (nth vs0 2) v2 fun v3 =>
  COND v3
  (IADDR 2 T_api_ProofPair (nth vs0 0) (nth vs0 2) h1 fun v4 =>
  LOAD true 2 v4 h1 fun v5 =>
  IADDR 2 T_api_ProofPair (nth vs0 1) (nth vs0 2) h1 fun v6 =>
  LOAD true 2 v6 h1 fun v7 =>
  BIN 1002 .neq v5 v7 fun v8 =>
  ORDX [] [0, 0, 3, 7, 0, 0, 48, 112, 255] [(2, wr h1 h1, (ids (nth vs0 0))), (3, wr h1 h1, (ids v4)), (6, wr h1 h1, (ids (nth vs0 1))), (7, wr h1 h1, (ids v6))] ∧
  COND v8
  (POST (.d (.bool false)) h1 pre r post)
  (BIN 0 .add (nth vs0 2) (.d (.num .i64 1)) fun v9 =>
  next10 [(nth vs0 0), (nth vs0 1), v9] h1))
  (POST (.d (.bool true)) h1 pre r post)
def vc_ref09_SamePairs (P : Ctx) (pre : List ABlk) (a0 a1 : AV) (r : AV) (post : List PB) : Prop :=
  let h0 : Heap := numbered 0 pre
  LEN false a0 h0 fun v7 =>
  LEN false a1 h0 fun v9 =>
  BIN 0 .neq v7 v9 fun v10 =>
  COND v10
  (POST (.d (.bool false)) h0 pre r post)
  (LOOP [a0, a1, (.d (.num .i64 0))] h0 80 fun vs1 h2 next1 =>
  vc_ref09_SamePairs_k0 P pre r post vs1 h2 next1)
theorem vc_ref09_SamePairs_eq (g : GG) (pre : List ABlk) (a0 a1 : AV) (r : AV) (post : List PB) : vcFn2 (Tz g) false ann_ref09_SamePairs Tryz.f42 pre [a0, a1] (.ret r) post = vc_ref09_SamePairs (Tz g) pre a0 a1 r post := by kernel_rfl
theorem hf_ref09_SamePairs : Tryz.prog.funcs[f_ref09_SamePairs]? = some Tryz.f42 := by kernel_rfl
theorem ok_ref09_SamePairs : fnVcOK Tryz.prog Tryz.f42 = true := by kernel_rfl
theorem nt_ref09_SamePairs : Nat.ble 2 Tryz.f42.ntmps = true := by kernel_rfl
theorem meetsH_ref09_SamePairs {g : GG} {pre : List ABlk} {a0 a1 : AV} {r : AV} {post : List PB} (hk : Nat.ble pre.length 24 = true) (h : vc_ref09_SamePairs (Tz g) pre a0 a1 r post) : MeetsH (Tz g) f_ref09_SamePairs pre [a0, a1] (.ret r) post :=
  meetsH_of_vc (C := Tz g) ann_ref09_SamePairs hf_ref09_SamePairs ok_ref09_SamePairs nt_ref09_SamePairs hk (pn := false) (Eq.mpr ((vcFn2_eq _ _ _ _ _ _ _ _).trans (vc_ref09_SamePairs_eq g pre a0 a1 r post)) h)
theorem meets_ref09_SamePairs {g : GG} {a0 a1 : D} {r : Res} (h : vc_ref09_SamePairs (Tz g) [] (.d a0) (.d a1) r.val (r.bl.map .upd)) : Meets (Tz g) f_ref09_SamePairs [a0, a1] r := meetsH_ref09_SamePairs rfl h
end Go.Vc

namespace Go.Vc
open Go Go.Proofs Go.RowKit
def ann_proof_Best : Nat → List Nat := fun n => match n with | 5 => [1, 6] | _ => []
noncomputable def rfA_proof_Best : Code := rfA Tryz.f38
noncomputable def rfB_proof_Best : Code := rfB Tryz.f38
def vc_proof_Best_k0 (P : Ctx) (pre : List ABlk) (r : AV) (post : List PB) (h0 : Heap) (v3 : AV) : Prop :=
  ALLOC T_proof_chosen [.d (.num .i64 0), .d (.num .i64 0), .d (.num .i64 0)] 144 h0 fun v1 h2 =>
  STORE 3 v1 v3 h2 fun h4 =>
  FADDR 0 v1 h4 fun v5 =>
  FADDR 0 v5 h4 fun v6 =>
  LOAD false 1 v6 h4 fun v7 =>
  FADDR 0 v1 h4 fun v8 =>
  FADDR 1 v8 h4 fun v9 =>
  LOAD false 1 v9 h4 fun v10 =>
  FADDR 2 v1 h4 fun v11 =>
  LOAD false 1 v11 h4 fun v12 =>
  ORDX [] [0, 1, 3, 0, 8, 24, 0, 64, 7, 319, 1023, 2047] [(0, wr h4 h4, (ids v1)), (1, wr h4 h4, (ids v5)), (2, wr h4 h4, (ids v6)), (3, wr h4 h4, (ids v1)), (4, wr h4 h4, (ids v8)), (5, wr h4 h4, (ids v9)), (6, wr h4 h4, (ids v1)), (7, wr h4 h4, (ids v11))] ∧
  POST (.tup [v7, v10, v12, (.d (.num .i64 0))]) h4 pre r post
def vc_proof_Best_k1 (P : Ctx) (pre : List ABlk) (r : AV) (post : List PB) (v0 : AV) (v1 : AV) (v2 : AV) (h3 : Heap) : Prop :=
  CALLF P v0 [.yld 112] 120 ((112, some ⟨0, 0, .loop ⟨.ready, none, 36, [(1, v1), (6, v2)], [14], rfA_proof_Best, rfB_proof_Best⟩⟩) :: h3) (fun _ _ hq7 => AFTER 112 hq7 (fun hr7 =>
  LOAD false 1 v2 hr7 fun v4 =>
  CALL P f_proof_best_proof_chosen [v4, (.d (.fn f_proof_Best_1 [] []))] 136 hr7 (fun _ v6 h7 =>
  vc_proof_Best_k0 P pre r post h7 v6)
  (fun _ _ _ => False)) (fun x7 hr7 => match x7 with
  | none => POST (.tup [(.d (.num .i64 0)), (.d (.num .i64 0)), (.d (.num .i64 0)), (.d (.num .i64 0))]) hr7 pre r post
  | some i7 => (match Nat.beq i7 0 with | true => LOAD false 1 v2 hr7 fun v4 => CALL P f_proof_best_proof_chosen [v4, (.d (.fn f_proof_Best_1 [] []))] 136 hr7 (fun _ v6 h9 => vc_proof_Best_k0 P pre r post h9 v6) (fun _ _ _ => False) | false => False)))
  (fun _ v10 hr7 => False)
def vc_proof_Best_k2 (P : Ctx) (pre : List ABlk) (r : AV) (post : List PB) (v0 : AV) (h2 : Heap) (v5 : AV) : Prop :=
  NOT v0 fun v1 =>
  COND v1
  (POST (.tup [(.d (.num .i64 0)), (.d (.num .i64 0)), (.d (.num .i64 0)), (.d (.num .i64 2))]) h2 pre r post)
  (ALLOC T_l_proof_chosen [.zc] 88 h2 fun v3 h4 =>
  LOAD true 3 v5 h4 fun v6 =>
  CALL P f_proof_pairs [v6] 104 h4 (fun _ v8 h9 =>
  vc_proof_Best_k1 P pre r post v8 v5 v3 h9)
  (fun _ _ _ => False))
def vc_proof_Best (P : Ctx) (pre : List ABlk) (a0 : AV) (r : AV) (post : List PB) : Prop :=
  let h0 : Heap := numbered 0 pre
  BOX T_api_ProofPage a0 24 h0 fun v1 h1 =>
  LOAD true 3 v1 h1 fun v9 =>
  CALL P f_proof_isPage [v9] 72 h1 (fun _ v10 h2 =>
  vc_proof_Best_k2 P pre r post v10 h2 v1)
  (fun _ _ _ => False)
theorem vc_proof_Best_eq (g : GG) (pre : List ABlk) (a0 : AV) (r : AV) (post : List PB) : vcFn2 (Tz g) false ann_proof_Best Tryz.f38 pre [a0] (.ret r) post = vc_proof_Best (Tz g) pre a0 r post := by kernel_rfl
theorem hf_proof_Best : Tryz.prog.funcs[f_proof_Best]? = some Tryz.f38 := by kernel_rfl
theorem ok_proof_Best : fnVcOK Tryz.prog Tryz.f38 = true := by kernel_rfl
theorem nt_proof_Best : Nat.ble 1 Tryz.f38.ntmps = true := by kernel_rfl
theorem meetsH_proof_Best {g : GG} {pre : List ABlk} {a0 : AV} {r : AV} {post : List PB} (hk : Nat.ble pre.length 24 = true) (h : vc_proof_Best (Tz g) pre a0 r post) : MeetsH (Tz g) f_proof_Best pre [a0] (.ret r) post :=
  meetsH_of_vc (C := Tz g) ann_proof_Best hf_proof_Best ok_proof_Best nt_proof_Best hk (pn := false) (Eq.mpr ((vcFn2_eq _ _ _ _ _ _ _ _).trans (vc_proof_Best_eq g pre a0 r post)) h)
theorem meets_proof_Best {g : GG} {a0 : D} {r : Res} (h : vc_proof_Best (Tz g) [] (.d a0) r.val (r.bl.map .upd)) : Meets (Tz g) f_proof_Best [a0] r := meetsH_proof_Best rfl h
def vc_proof_Best_k3 (P : Ctx) (id : Nat) (pre : List ABlk) (r : AV) (post : List PB) (v0 : AV) (h1 : Heap) (v3 : AV) (v7 : AV) (k10 : AV) (hb12 : Heap) (v13 : AV) (k14 : AV) (h15 : Heap) (v16 : AV) (h17 : Heap) (rd18 : List Nat) (rd19 : List Nat) : Prop :=
  LEN false v0 h1 fun v2 =>
  BUILD [(0, 2), (2, 1)] [.d (.num .i64 0), .d (.num .i64 0), .d (.num .i64 0)] [(0, v3), (1, v2)] fun v4 =>
  MKS T_proof_chosen 3 [v4] 112 h1 fun v5 h6 =>
  APP T_proof_chosen 3 v7 v5 120 h6 fun v8 h9 =>
  STORE 1 k10 v8 h9 fun h11 =>
  ORDX [] [0, 0, 0, 0, 8, 28, 60, 124, 254, 510, 1023, 2047] [(0, wr hb12 hb12, (ids k10)), (1, wr hb12 hb12, (ids v13)), (2, wr hb12 hb12, (ids k14)), (3, wr hb12 hb12, (ids v13)), (4, wr hb12 h15, (ids.idsL [v16])), (5, wr h15 h17, rd18), (6, wr h17 h1, rd19), (7, wr h1 h1, (ids v0)), (9, wr h1 h6, (ids.idsL [v4])), (10, wr h6 h9, (ids.idsL [v7, v5])), (11, wr h9 h11, (ids k10))] ∧
  RDB none id h11 pre r post
def vcr_proof_Best (P : Ctx) (id : Nat) (pre : List ABlk) (k1 k6 a0 : AV) (r : AV) (post : List PB) : Prop :=
  let h0 : Heap := numbered 0 pre
  ALLOC T_api_ProofPair [.d (.num .i64 0), .d (.num .i64 0)] 24 h0 fun v7 h16 =>
  STORE 2 v7 a0 h16 fun h17 =>
  RDA id h17 fun hb18 =>
  LOAD false 1 k6 hb18 fun v15 =>
  LOAD true 2 v7 hb18 fun v16 =>
  LOAD true 3 k1 hb18 fun v17 =>
  LOAD true 2 v7 hb18 fun v18 =>
  MKS T_api_ProofPair 2 [v18] 72 hb18 fun v19 h19 =>
  CALL P f_proof_after [v17, v19] 80 h19 (fun rd21 v20 h20 =>
  CALL P f_p_proof_page_passing [v20] 88 h20 (fun rd23 v21 h22 =>
  vc_proof_Best_k3 P id pre r post v21 h22 v16 v15 k6 hb18 v7 k1 h19 v18 h20 rd21 rd23)
  (fun _ _ _ => False))
  (fun _ _ _ => False)
theorem vcr_proof_Best_eq (g : GG) (id : Nat) (pre : List ABlk) (k1 k6 a0 : AV) (r : AV) (post : List PB) : vcRound (Tz g) ann_proof_Best 36 [(1, k1), (6, k6)] [14] rfA_proof_Best rfB_proof_Best id pre [a0] r post = vcr_proof_Best (Tz g) id pre k1 k6 a0 r post := by kernel_rfl
theorem okr_proof_Best : ([14].all (fun t => Nat.blt t 36) && codeOK Tryz.prog 36 false rfA_proof_Best && codeOK Tryz.prog 36 false rfB_proof_Best) = true := by kernel_rfl
theorem meetsY_proof_Best {g : GG} {id : Nat} {pre : List ABlk} {k1 k6 a0 : AV} {r : AV} {post : List PB} {e : TypeId} (hpre : pre[id]? = some ⟨0, e, .loop ⟨.ready, none, 36, [(1, k1), (6, k6)], [14], rfA_proof_Best, rfB_proof_Best⟩⟩) (hk : Nat.ble pre.length 24 = true) (h : vcr_proof_Best (Tz g) id pre k1 k6 a0 r post) : MeetsY (Tz g) id pre [a0] (.ret r) post :=
  meetsY_of_vc (C := Tz g) rfl ann_proof_Best hpre (by have h1 := okr_proof_Best; simp only [Bool.and_eq_true] at h1 ⊢; exact ⟨⟨⟨⟨rfl, h1.1.1⟩, h1.1.2⟩, h1.2⟩, hk⟩) (Eq.mpr (vcr_proof_Best_eq g id pre k1 k6 a0 r post) h)
end Go.Vc
