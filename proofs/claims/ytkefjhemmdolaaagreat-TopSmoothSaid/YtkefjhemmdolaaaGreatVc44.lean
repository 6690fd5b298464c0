/- A part of the proof: general laws of a reading of the model by abstract data, or contracts of the functions that the law calls. -/
import Derived.Test.YtkefjhemmdolaaaGreatVc43
import Derived.Test.YtkefjhemmdolaaaGreatVc29
import Derived.Test.YtkefjhemmdolaaaGreatVc29
import Derived.Test.YtkefjhemmdolaaaGreatVc32
set_option maxRecDepth 100000
namespace Go.Vc
open Go Go.Proofs
variable {g : GG}
attribute [local simp] and_assoc
def evens (m : Nat) : List Int := (List.range m).map fun i : Nat => 2 * (i : Int)
def keepP (n : Nat) : List Int := evens (n / 2) ++ [(n : Int) - 1]
theorem evens_succ (m : Nat) : evens (m + 1) = evens m ++ [2 * (m : Int)] := by simp [evens, List.range_succ]
theorem evens_len (m : Nat) : (evens m).length = m := by simp [evens]
theorem evens_at (m i : Nat) (h : i < m) : (evens m)[i]? = some (2 * (i : Int)) := by simp [evens, h]
theorem keep_meets (t : Tb) (h1 : 2 ≤ t.vals.length) (h2 : t.vals.length ≤ 1000) : Meets (Tz g) f_step_keep [t.d, int 2] ⟨.own 0 0, [⟨0, T_int, .lst ((keepP t.vals.length).map int)⟩]⟩ := by
  have w1 := wrap_id (n := (t.vals.length : Int) - 1) (by omega) (by omega)
  refine meets_step_keep ?_
  unfold vc_step_keep
  simp [Tb.d, lookH, spans, w1]
  refine LOOP.mk Nat (fun i => [.d (int 2), .own 96 i, .d (int ((t.vals.length : Int) - 1)), .d (int (2 * (i : Int)))]) (fun i => [(24, some ⟨0, T_api_StepTable, .box [.d (spans t.vals), .d (int t.rule), .d (int t.off)]⟩), (96, some ⟨i, T_int, .lst ((evens i).map int)⟩)]) (fun i => i ≤ t.vals.length / 2) (fun i => t.vals.length - i) [(1, T_int)] (by simp) 0 (by omega) (by simp [WEAK, lookH, spans, evens]) (fun _ _ => rfl) ?_
  intro i hi
  have w2 := wrap_id (n := 2 * (i : Int) + 2) (by omega) (by omega)
  simp [vc_step_keep_k0]
  refine ⟨fun hlt => ?_, fun hge => ?_⟩
  · simp [lookH, evens_len, w2]
    refine ⟨by omega, i + 1, by omega, ?_, by omega⟩
    simp [WEAK, lookH, spans, evens_succ]
    omega
  · have : i = t.vals.length / 2 := by omega
    subst this
    simp [lookH, evens_len]
    refine ⟨by omega, ?_⟩
    simp [keepP]
theorem keep_len (n : Nat) : (keepP n).length = n / 2 + 1 := by simp [keepP, evens_len]
theorem keep_ok {n : Nat} (h : 2 ≤ n) : KeptOK n (keepP n) := by
  have hl := keep_len n
  have hlast : (keepP n)[n / 2]? = some ((n : Int) - 1) := by
    unfold keepP
    rw [List.getElem?_append_right (by rw [evens_len]; exact Nat.le_refl _), evens_len]
    simp
  have hev : ∀ i, i < n / 2 → (keepP n)[i]? = some (2 * (i : Int)) := fun i hi => by
    unfold keepP
    rw [List.getElem?_append_left (by rw [evens_len]; exact hi), evens_at _ _ hi]
  refine ⟨by omega, hev 0 (by omega), by rw [hl]; exact hlast, ?_⟩
  have key : ∀ d i, i + d + 1 = (keepP n).length → incB ((keepP n).drop i) = true := by
    intro d
    induction d with
    | zero => intro i hi; exact inc_short _ _ (by omega)
    | succ d ih =>
      intro i hi
      have hi2 : i < n / 2 := by omega
      have h1 := hev i hi2
      by_cases h3 : i + 1 < n / 2
      · rw [inc_drop h1 (hev (i + 1) h3), ih (i + 1) (by omega), decide_eq_true (by omega)]
        rfl
      · have e : i + 1 = n / 2 := by omega
        rw [inc_drop h1 (by rw [e]; exact hlast), ih (i + 1) (by omega), decide_eq_true (by omega)]
        rfl
  have := key (n / 2) 0 (by omega)
  simpa using this
theorem ar_facts {n : Nat} {k : List Int} (hK : KeptOK n k) {row : Int} (h0 : 0 ≤ row) (h1 : row ≤ (n : Int) - 1) (h : (arP k row).1 < (arP k row).2) : 0 ≤ (arP k row).1 ∧ (arP k row).2 ≤ (n : Int) - 1 ∧ (arP k row).1 < row ∧ row < (arP k row).2 := by
  unfold arP at h ⊢
  by_cases hm : k[lbI k row]? = some row
  · rw [if_pos hm] at h; simp at h
  · rw [if_neg hm]
    obtain ⟨q1, q2, a, b, ha, hb, q3, q4⟩ := around_facts hK h0 h1 hm
    simp only [List.getD_eq_getElem?_getD, ha, hb, Option.getD_some]
    exact ⟨(hK.bnd ha).1, (hK.bnd hb).2, q3, q4⟩
def tabB (t : Tb) (k : List Int) (id : Nat) : ABlk := ⟨0, T_step_table, .box [.d (spans t.vals), .d (int t.rule), .d (int t.off), .d (ints k), .mapv id]⟩
end Go.Vc

namespace Go.Vc
open Go Go.Proofs
variable {g : GG}
attribute [local simp] and_assoc
def diag (l : List Int) : List Sp := l.map fun x => ⟨x, x⟩
theorem KeepD (t : Tb) (hok : t.ok = true) (h3 : 3 ≤ t.vals.length) : Meets (Tz g) f_step_Keep [t.d, int 2] ⟨.tup [.d (ints (keepP t.vals.length)), .d (int 0)], []⟩ := by
  obtain ⟨f1, f2, f3, f4⟩ := Tb.ok_facts hok
  have w1 := wrap_id (n := (t.vals.length : Int) - 1) (by omega) (by omega)
  refine meets_step_Keep ?_
  unfold vc_step_Keep
  simp [Tb.d, lookH, spans]
  refine CALL.val [t.d] _ rfl (isTable_meets t hok) (.inl rfl) ?_
  simp [vc_step_Keep_k0, lookH, w1]
  refine CALL.val [int 2, int 1, int ((t.vals.length : Int) - 1)] _ rfl (step_in_meets _ _ _) (.inl rfl) ?_
  have e1 : inB 2 1 ((t.vals.length : Int) - 1) = true := by simp [inB]; omega
  simp [e1, lookH]
  refine CALL.val [t.d, int 2] _ rfl (Meets.frz (keep_meets t (by omega) (by omega))) (.inl rfl) ?_
  simp [ints]
set_option maxHeartbeats 4000000 in
theorem of11_meets (l : List Int) (rule off : Int) (hl : l.length ≤ 1000) : Meets (Tz g) f_top_of11 [ints l, int rule, int off] ⟨.d (Tb.d ⟨diag l, rule, off⟩), []⟩ := by
  refine meets_top_of11 ?_
  unfold vc_top_of11
  simp [ints, lookH]
  refine LOOP.mkB Nat (fun i => [.d (ints l), .ptr 24 0 0 0, .ptr 56 0 0 0, .d (int i)]) (fun i => [(24, some ⟨0, T_api_StepTable, .box [.zc, .d (int 0), .d (int 0)]⟩), (56, some ⟨0, T_api_StepTable, .box [.own 80 i, .d (int rule), .d (int off)]⟩), (80, some ⟨i, T_api_Span, .lst ((diag (l.take i)).map Sp.d)⟩)]) (fun i => i ≤ l.length) (fun i => l.length - i) [] [(56, 0, T_api_Span)] (by simp) 0 (by omega) (by simp [WEAK, lookH, ints, diag, promoteB, promote]) (fun _ _ => rfl) ?_
  intro i hi
  have w1 := wrap_id (n := (i : Int) + 1) (by omega) (by omega)
  simp [vc_top_of11_k0, ints]
  refine ⟨fun hlt => ?_, fun hge => ?_⟩
  · have hg : l[i]? = some l[i] := List.getElem?_eq_getElem hlt
    have htk : diag (l.take (i + 1)) = diag (l.take i) ++ [⟨l[i], l[i]⟩] := by
      unfold diag
      rw [List.take_add_one, hg, List.map_append]
      rfl
    have hdl : (diag (l.take i)).length = i := by simp [diag]; omega
    simp [hg, lookH, w1, hdl]
    refine ⟨by omega, rfl, i + 1, by omega, ?_, by omega⟩
    simp [WEAK, lookH, ints, htk, Sp.d]
  · have : i = l.length := by omega
    subst this
    simp [lookH, Tb.d, spans]
theorem figP_half (rule x y z r : Int) (hr : 1 ≤ rule ∧ rule ≤ 4) : figP rule (r - 1) (r + 1) x z r = rdV rule (x + z) 2 := by
  unfold figP
  rw [show r + 1 - r = 1 by omega, show r - (r - 1) = 1 by omega, show r + 1 - (r - 1) = 2 by omega, Int.mul_one, Int.mul_one]
theorem ar_keep {n : Nat} (hn : 2 ≤ n) {r : Nat} (hr : r < n) : arP (keepP n) r = ((r : Int), (r : Int)) ∨ (arP (keepP n) r = ((r : Int) - 1, (r : Int) + 1) ∧ 1 ≤ r ∧ r + 1 < n) := by
  have hK := keep_ok hn
  have hl := keep_len n
  have hev : ∀ i, i < n / 2 → (keepP n)[i]? = some (2 * (i : Int)) := fun i hi => by
    unfold keepP
    rw [List.getElem?_append_left (by rw [evens_len]; exact hi), evens_at _ _ hi]
  have hlast : (keepP n)[n / 2]? = some ((n : Int) - 1) := by
    have := hK.last
    rwa [hl] at this
  by_cases hm : (keepP n)[lbI (keepP n) r]? = some (r : Int)
  · left; unfold arP; rw [if_pos hm]
  · right
    obtain ⟨q1, q2, a, b, ha, hb, q3, q4⟩ := around_facts hK (row := (r : Int)) (by omega) (by omega) hm
    have e : arP (keepP n) r = (a, b) := by
      unfold arP
      rw [if_neg hm]
      simp only [List.getD_eq_getElem?_getD, ha, hb, Option.getD_some]
    rw [e]
    generalize lbI (keepP n) r = j at *
    rw [hev (j - 1) (by omega)] at ha
    injection ha with ha
    by_cases hj : j < n / 2
    · rw [hev j hj] at hb
      injection hb with hb
      refine ⟨by rw [Prod.mk.injEq]; omega, by omega, by omega⟩
    · have : j = n / 2 := by omega
      subst this
      rw [hlast] at hb
      injection hb with hb
      refine ⟨by rw [Prod.mk.injEq]; omega, by omega, by omega⟩
end Go.Vc
