/- A part of the proof: general laws of a reading of the model by abstract data, or contracts of the functions that the law calls. -/
import Derived.Test.YtkefjhemmdolaaaGreatVc47
import Derived.Test.YtkefjhemmdolaaaGreatVc29
import Derived.Test.YtkefjhemmdolaaaGreatVc30
import Derived.Test.YtkefjhemmdolaaaGreatVc22
import Derived.Test.YtkefjhemmdolaaaGreatVc21
set_option maxRecDepth 100000
namespace Go.Vc
open Go Go.Proofs Go.RowKit
variable {g : GG}
attribute [local simp] and_assoc
theorem isTruth_meets (t : Tb) (own : List Int) (hl : t.vals.length ≤ 1000000) (hw : within t.vals own = true) : Meets (Tz g) f_step_isTruth [t.d, ints own] ⟨.d (.bool true), []⟩ := by
  have hlen := within_length hw
  refine meets_step_isTruth ?_
  unfold vc_step_isTruth
  simp [Tb.d, ints, lookH, spans, hlen]
  refine LOOP.mk Nat (fun i => [.ptr 24 0 0 0, .d (ints own), .d (int own.length), .d (int i)]) (fun i => [(24, some ⟨0, T_api_StepTable, .box [.d (spans t.vals), .d (int t.rule), .d (int t.off)]⟩)]) (fun i => i ≤ own.length) (fun i => own.length - i) [] (by simp) 0 (by omega) (by simp [WEAK, lookH, ints, spans]) (fun _ _ => rfl) ?_
  intro i hi
  have w1 := wrap_id (n := (i : Int) + 1) (by omega) (by omega)
  simp [vc_step_isTruth_k1, ints, lookH, spans]
  intro hlt
  · have gx : own[i]? = some own[i] := List.getElem?_eq_getElem hlt
    have gs : t.vals[i]? = some (t.vals[i]'(by omega)) := List.getElem?_eq_getElem (by omega)
    obtain ⟨b1, b2⟩ := within_get hw i _ _ gs gx
    generalize own[i] = x at gx b1 b2
    generalize t.vals[i]'(by omega) = s at gs b1 b2
    simp [gx, gs, Sp.d]
    have e2 : inB x s.low s.high = true := by simp [inB]; omega
    refine CALL.val [int x, int s.low, int s.high] _ rfl (step_in_meets _ _ _) (.inl rfl) ?_
    rw [e2]
    simp [vc_step_isTruth_k0, w1]
    refine ⟨rfl, i + 1, by omega, by simp [WEAK, lookH, ints, spans], by omega⟩
theorem fgv_bnd (t : Tb) (k own : List Int) (hK : KeptOK t.vals.length k) (hn : t.vals.length ≤ 13) (ho : own.length = t.vals.length) (hb : ∀ x, x ∈ own → -20000 ≤ x ∧ x ≤ 20000) (i : Nat) (h : i < own.length) : -10000000 ≤ fgv t k own i ∧ fgv t k own i ≤ 10000000 := by
  have hf := ar_facts hK (row := i) (by omega) (by omega)
  unfold fgv
  split
  · rename_i hlt
    obtain ⟨q1, q2, q3, q4⟩ := hf hlt
    have := (get_bnd hb (arP k i).1.toNat (by omega)).2
    have := (get_bnd hb (arP k i).2.toNat (by omega)).2
    exact figP_bnd _ _ _ _ _ _ q1 hlt (by omega) (by omega) (by omega) (by omega) (by omega)
  · have := (get_bnd hb (i : Int).toNat (by omega)).2
    omega
def rgtB (t : Tb) (k own : List Int) (n : Nat) : Bool := (List.range n).all fun i : Nat => decide (max (fgv t k own i - own.getD i 0) (own.getD i 0 - fgv t k own i) ≤ t.off)
theorem rgtB_succ (t : Tb) (k own : List Int) (n : Nat) : rgtB t k own (n + 1) = (rgtB t k own n && decide (max (fgv t k own n - own.getD n 0) (own.getD n 0 - fgv t k own n) ≤ t.off)) := by
  simp [rgtB, List.range_succ, List.all_append]
theorem rgtB_not (t : Tb) (k own : List Int) (n i : Nat) (hi : i < n) (h : ¬ max (fgv t k own i - own.getD i 0) (own.getD i 0 - fgv t k own i) ≤ t.off) : rgtB t k own n = false := by
  cases hr : rgtB t k own n with
  | false => rfl
  | true =>
    have := List.all_eq_true.1 hr i (List.mem_range.2 hi)
    exact absurd (of_decide_eq_true this) h
set_option maxHeartbeats 8000000 in
theorem right_meets (t : Tb) (k own : List Int) (hok : t.ok = true) (hK : KeptOK t.vals.length k) (ho : own.length = t.vals.length) (hb : ∀ x, x ∈ own → -20000 ≤ x ∧ x ≤ 20000) : MeetsH (Tz g) f_step_table_right [M0] (tA t k 0 :: [ints own].map .d) (.ret (.d (.bool (rgtB t k own own.length)))) [.same] := by
  obtain ⟨f1, f2, f3, f4⟩ := Tb.ok_facts hok
  have fin : ∀ (h : Heap) (x : Bool), lookH h 0 = some M0 → POST (.d (.bool x)) h [M0] (.d (.bool x)) [.same] := fun h x hl => by
    refine ⟨[], ?_⟩
    simp [yv, yv.yvL, yh, yb, yver, bodyOf, fz, fz.fzL, fzH, fzB, stay, src, hl, NodupB, disjB, argD, toD, M0]
  refine meetsH_step_table_right rfl ?_
  unfold vc_step_table_right
  simp [numbered, tA, lookH]
  refine CALL.tab (ds := [ints own]) (figures_meets t k own hok hK ho hb) rfl ?_
  simp [ints, fgs_len]
  refine LOOP.mk Nat (fun i => [.d (ints own), .ptr 24 0 0 0, .d (ints (fgs t k own own.length)), .d (int own.length), .d (int i)]) (fun i => [(24, some (tabB t k 0)), (0, some M0)]) (fun i => i ≤ own.length ∧ rgtB t k own i = true) (fun i => own.length - i) [] (by simp) 0 ⟨by omega, rfl⟩ (by simp [WEAK, lookH, tabB, M0, ints]) (fun _ _ => rfl) ?_
  rintro i ⟨hi, hr⟩
  have w1 := wrap_id (n := (i : Int) + 1) (by omega) (by omega)
  simp [vc_step_table_right_k1, tabB]
  refine ⟨fun hlt => ?_, fun hge => ?_⟩
  · have hlt : i < own.length := by omega
    obtain ⟨gx, bx⟩ := get_bnd hb i hlt
    have gf : (fgs t k own own.length)[i]? = some (fgv t k own i) := by simp [fgs, hlt]
    have bf := fgv_bnd t k own hK (by omega) ho hb i hlt
    have hs := rgtB_succ t k own i
    have hn := rgtB_not t k own own.length i hlt
    generalize fgv t k own i = y at *
    generalize own.getD i 0 = x at *
    simp [ints, gx, gf, lookH]
    refine CALL.val [int y, int x] _ rfl (far_meets y x (by omega) (by omega) (by omega) (by omega)) (.inl rfl) ?_
    simp [vc_step_table_right_k0, lookH, w1]
    refine ⟨rfl, fun h => ?_, fun h => ?_⟩
    · rw [hn (by omega)]
      exact fin _ _ rfl
    · exact ⟨i + 1, by omega, by rw [hs, hr, decide_eq_true (by omega)]; rfl, by simp [WEAK, lookH, ints], by omega⟩
  · have : i = own.length := by omega
    subst this
    rw [hr]
    exact fin _ _ rfl
theorem Doubts_meets (t : Tb) (k : List Int) (hok : t.ok = true) (hK : KeptOK t.vals.length k) : Meets (Tz g) f_step_Doubts [t.d, ints k] ⟨.tup [.d (ints (dbL t k t.vals.length)), .d (int 0)], []⟩ := by
  obtain ⟨f1, f2, f3, f4⟩ := Tb.ok_facts hok
  refine meets_step_Doubts ?_
  unfold vc_step_Doubts
  simp [Tb.d, lookH]
  refine CALL.val [t.d] _ rfl (isTable_meets t hok) (.inl rfl) ?_
  simp [lookH]
  refine CALL.val [t.d, ints k] _ rfl (isKept_meets t k (by omega) hK) (.inl rfl) ?_
  simp [vc_step_Doubts_k0, lookH]
  refine CALL.mk [t.d, ints k] _ rfl (tableOf_meets t k) (.inl rfl) (by simp) ?_
  simp [tA, M0, AV.ren, AV.ren.renL, rho, lookH, spans, upsP, ABlk.ren, Body.ren]
  refine CALL.tab (ds := []) (doubts_meets t k hok hK) rfl ?_
  simp
theorem Figures_meets (t : Tb) (k own : List Int) (hok : t.ok = true) (hK : KeptOK t.vals.length k) (hw : within t.vals own = true) (hb : ∀ x, x ∈ own → -20000 ≤ x ∧ x ≤ 20000) : Meets (Tz g) f_step_Figures [t.d, ints k, ints own] ⟨.tup [.d (ints (fgs t k own own.length)), .d (int 0)], []⟩ := by
  obtain ⟨f1, f2, f3, f4⟩ := Tb.ok_facts hok
  refine meets_step_Figures ?_
  unfold vc_step_Figures
  simp [Tb.d, lookH]
  refine CALL.val [t.d] _ rfl (isTable_meets t hok) (.inl rfl) ?_
  simp [vc_step_Figures_k1, lookH]
  refine CALL.val [t.d, ints k] _ rfl (isKept_meets t k (by omega) hK) (.inl rfl) ?_
  simp [lookH]
  refine CALL.val [t.d, ints own] _ rfl (isTruth_meets t own (by omega) hw) (.inl rfl) ?_
  simp [vc_step_Figures_k0, lookH]
  refine CALL.mk [t.d, ints k] _ rfl (tableOf_meets t k) (.inl rfl) (by simp) ?_
  simp [tA, M0, AV.ren, AV.ren.renL, rho, lookH, spans, upsP, ABlk.ren, Body.ren]
  refine CALL.tab (ds := [ints own]) (figures_meets t k own hok hK (within_length hw).symm hb) rfl ?_
  simp
theorem Right_meets (t : Tb) (k own : List Int) (hok : t.ok = true) (hK : KeptOK t.vals.length k) (hw : within t.vals own = true) (hb : ∀ x, x ∈ own → -20000 ≤ x ∧ x ≤ 20000) : Meets (Tz g) f_step_Right [t.d, ints k, ints own] ⟨.tup [.d (.bool (rgtB t k own own.length)), .d (int 0)], []⟩ := by
  obtain ⟨f1, f2, f3, f4⟩ := Tb.ok_facts hok
  refine meets_step_Right ?_
  unfold vc_step_Right
  simp [Tb.d, lookH]
  refine CALL.val [t.d] _ rfl (isTable_meets t hok) (.inl rfl) ?_
  simp [vc_step_Right_k2, lookH]
  refine CALL.val [t.d, ints k] _ rfl (isKept_meets t k (by omega) hK) (.inl rfl) ?_
  simp [vc_step_Right_k1, lookH]
  refine CALL.val [t.d, ints own] _ rfl (isTruth_meets t own (by omega) hw) (.inl rfl) ?_
  simp [vc_step_Right_k0, lookH]
  refine CALL.mk [t.d, ints k] _ rfl (tableOf_meets t k) (.inl rfl) (by simp) ?_
  simp [tA, M0, AV.ren, AV.ren.renL, rho, lookH, spans, upsP, ABlk.ren, Body.ren]
  refine CALL.tab (ds := [ints own]) (right_meets t k own hok hK (within_length hw).symm hb) rfl ?_
  simp
end Go.Vc

namespace Go.Vc
open Go Go.Proofs Go.RowKit
variable {g : GG}
attribute [local simp] and_assoc
abbrev GoB := Cal → List ABlk → List AV → Option (Out × List PB)
abbrev dm0 : FuncId → Nat := fun _ => 0
open Classical in
noncomputable def onB (f : FuncId) (pre : List ABlk) (args : List AV) (out : Out) (post : List PB) : GoB := fun c p a => if c = .fnc f ∧ p = pre ∧ a = args then some (out, post) else none
theorem onB_at (f : FuncId) (pre : List ABlk) (args : List AV) (out : Out) (post : List PB) : onB f pre args out post (.fnc f) pre args = some (out, post) := if_pos ⟨rfl, rfl, rfl⟩
theorem onB_ok {C : Ctx} {f : FuncId} {pre : List ABlk} {args : List AV} {out : Out} {post : List PB} (h : MeetsH C f pre args out post) : OrcOK C (dm0, onB f pre args out post) := by
  intro cal p a o q ha
  simp only [onB] at ha
  split at ha
  · rename_i e
    obtain ⟨rfl, rfl, rfl⟩ := e
    simp only [Option.some.injEq, Prod.mk.injEq] at ha
    obtain ⟨rfl, rfl⟩ := ha
    exact h
  · cases ha
abbrev tX (v r o k : D) : AV := .agg [.d v, .d r, .d o, .d k, .mapv 0]
abbrev cloS (v r o k : D) : AV := .fn f_step_table_mustBeSure [tX v r o k] []
noncomputable abbrev runS (go : GoB) (v r o k : D) := evTab Tryz.prog tab (dm0, go) 100 f_step_attempt [⟨0, 0, .mp [] 0⟩] [cloS v r o k]
def wrongD (row : Int) : D := .iface T_step_wrong (.agg [int row])
theorem att_goS (go : GoB) (v r o k : D) : runS go v r o k = runS (fun _ _ _ => go (.fnc f_step_table_mustBeSure) [⟨0, 0, .mp [] 0⟩] [tX v r o k]) v r o k := by kernel_rfl
theorem att_retS (v r o k : D) : runS (fun _ _ _ => some (.ret (.tup []), [.same])) v r o k = some (.ret (.d (int 0)), [.upd ⟨0, 0, .mp [] 0⟩]) := by kernel_rfl
theorem att_panS (v r o k : D) (row : Int) : runS (fun _ _ _ => some (.pan (.d (wrongD row)), [.same])) v r o k = some (.ret (.d (int 7)), [.upd ⟨0, 0, .mp [] 0⟩]) := by kernel_rfl
end Go.Vc
