/- A part of the proof: general laws of a reading of the model by abstract data, or contracts of the functions that the law calls. -/
import Derived.Test.YtkefjhemmdolaaaGreatVc43
import Derived.Test.YtkefjhemmdolaaaGreatVc29
import Derived.Test.YtkefjhemmdolaaaGreatVc29
import Derived.Test.YtkefjhemmdolaaaGreatVc32
set_option maxRecDepth 100000
namespace Go.Vc
open Go Go.Proofs
variable {g : GG}
attribute [local simp] and_assoc
def evens (m : Nat) : List Int := (List.range m).map fun i : Nat => 2 * (i : Int)
def keepP (n : Nat) : List Int := evens (n / 2) ++ [(n : Int) - 1]
theorem evens_succ (m : Nat) : evens (m + 1) = evens m ++ [2 * (m : Int)] := by simp [evens, List.range_succ]
theorem evens_len (m : Nat) : (evens m).length = m := by simp [evens]
theorem evens_at (m i : Nat) (h : i < m) : (evens m)[i]? = some (2 * (i : Int)) := by simp [evens, h]
theorem keep_meets (t : Tb) (h1 : 2 ≤ t.vals.length) (h2 : t.vals.length ≤ 1000) : Meets (Tz g) f_step_keep [t.d, int 2] ⟨.own 0 0, [⟨0, T_int, .lst ((keepP t.vals.length).map int)⟩]⟩ := by
  have w1 := wrap_id (n := (t.vals.length : Int) - 1) (by omega) (by omega)
  refine meets_step_keep ?_
  unfold vc_step_keep
  simp [Tb.d, lookH, spans, w1]
  refine LOOP.mk Nat (fun i => [.d (int 2), .own 96 i, .d (int ((t.vals.length : Int) - 1)), .d (int (2 * (i : Int)))]) (fun i => [(24, some ⟨0, T_api_StepTable, .box [.d (spans t.vals), .d (int t.rule), .d (int t.off)]⟩), (96, some ⟨i, T_int, .lst ((evens i).map int)⟩)]) (fun i => i ≤ t.vals.length / 2) (fun i => t.vals.length - i) [(1, T_int)] (by simp) 0 (by omega) (by simp [WEAK, lookH, spans, evens]) (fun _ _ => rfl) ?_
  intro i hi
  have w2 := wrap_id (n := 2 * (i : Int) + 2) (by omega) (by omega)
  simp [vc_step_keep_k0]
  refine ⟨fun hlt => ?_, fun hge => ?_⟩
  · simp [lookH, evens_len, w2]
    refine ⟨by omega, i + 1, by omega, ?_, by omega⟩
    simp [WEAK, lookH, spans, evens_succ]
    omega
  · have : i = t.vals.length / 2 := by omega
    subst this
    simp [lookH, evens_len]
    refine ⟨by omega, ?_⟩
    simp [keepP]
theorem keep_len (n : Nat) : (keepP n).length = n / 2 + 1 := by simp [keepP, evens_len]
theorem keep_ok {n : Nat} (h : 2 ≤ n) : KeptOK n (keepP n) := by
  have hl := keep_len n
  have hlast : (keepP n)[n / 2]? = some ((n : Int) - 1) := by
    unfold keepP
    rw [List.getElem?_append_right (by rw [evens_len]; exact Nat.le_refl _), evens_len]
    simp
  have hev : ∀ i, i < n / 2 → (keepP n)[i]? = some (2 * (i : Int)) := fun i hi => by
    unfold keepP
    rw [List.getElem?_append_left (by rw [evens_len]; exact hi), evens_at _ _ hi]
  refine ⟨by omega, hev 0 (by omega), by rw [hl]; exact hlast, ?_⟩
  have key : ∀ d i, i + d + 1 = (keepP n).length → incB ((keepP n).drop i) = true := by
    intro d
    induction d with
    | zero => intro i hi; exact inc_short _ _ (by omega)
    | succ d ih =>
      intro i hi
      have hi2 : i < n / 2 := by omega
      have h1 := hev i hi2
      by_cases h3 : i + 1 < n / 2
      · rw [inc_drop h1 (hev (i + 1) h3), ih (i + 1) (by omega), decide_eq_true (by omega)]
        rfl
      · have e : i + 1 = n / 2 := by omega
        rw [inc_drop h1 (by rw [e]; exact hlast), ih (i + 1) (by omega), decide_eq_true (by omega)]
        rfl
  have := key (n / 2) 0 (by omega)
  simpa using this
def lsN (t : Tb) (k : List Int) : Nat → Int
  | 0 => 0
  | i + 1 => if (arP k i).1 < (arP k i).2 then max (lsN t k i) (offP t (arP k i).1 (arP k i).2 i) else lsN t k i
theorem ar_facts {n : Nat} {k : List Int} (hK : KeptOK n k) {row : Int} (h0 : 0 ≤ row) (h1 : row ≤ (n : Int) - 1) (h : (arP k row).1 < (arP k row).2) : 0 ≤ (arP k row).1 ∧ (arP k row).2 ≤ (n : Int) - 1 ∧ (arP k row).1 < row ∧ row < (arP k row).2 := by
  unfold arP at h ⊢
  by_cases hm : k[lbI k row]? = some row
  · rw [if_pos hm] at h; simp at h
  · rw [if_neg hm]
    obtain ⟨q1, q2, a, b, ha, hb, q3, q4⟩ := around_facts hK h0 h1 hm
    simp only [List.getD_eq_getElem?_getD, ha, hb, Option.getD_some]
    exact ⟨(hK.bnd ha).1, (hK.bnd hb).2, q3, q4⟩
def tabB (t : Tb) (k : List Int) (id : Nat) : ABlk := ⟨0, T_step_table, .box [.d (spans t.vals), .d (int t.rule), .d (int t.off), .d (ints k), .mapv id]⟩
set_option maxHeartbeats 8000000 in
theorem Least_meets (t : Tb) (k : List Int) (hok : t.ok = true) (hK : KeptOK t.vals.length k) : Meets (Tz g) f_step_Least [t.d, ints k] ⟨.tup [.d (int (lsN t k t.vals.length)), .d (int 0)], []⟩ := by
  obtain ⟨f1, f2, f3, f4⟩ := Tb.ok_facts hok
  have hs := hK.short
  refine meets_step_Least ?_
  unfold vc_step_Least
  simp [Tb.d, lookH]
  refine CALL.val [t.d] _ rfl (isTable_meets t hok) (.inl rfl) ?_
  simp [vc_step_Least_k3, lookH]
  refine CALL.val [t.d, ints k] _ rfl (isKept_meets t k (by omega) hK) (.inl rfl) ?_
  simp [lookH]
  refine CALL.mk [t.d, ints k] _ rfl (tableOf_meets t k) (.inl rfl) (by simp) ?_
  simp [tA, M0, AV.ren, AV.ren.renL, rho, vc_step_Least_k2, lookH, spans, upsP, ABlk.ren, Body.ren]
  refine LOOP.mk Nat (fun i => [.ptr 144 0 0 0, .d (int (lsN t k i)), .d (int t.vals.length), .d (int i)]) (fun i => [(144, some (tabB t k 136)), (136, some M0)]) (fun i => i ≤ t.vals.length) (fun i => t.vals.length - i) [] (by simp) 0 (by omega) (by simp [WEAK, lookH, tabB, M0, spans, lsN]) (fun _ _ => rfl) ?_
  intro i hi
  have w1 := wrap_id (n := (i : Int) + 1) (by omega) (by omega)
  simp [vc_step_Least_k1, tabB]
  refine ⟨fun hlt => ?_, fun hge => ?_⟩
  · have hA := around_meets (g := g) t k i (by omega) hK (by omega) (by omega)
    have hf := ar_facts hK (row := i) (by omega) (by omega)
    rcases hp : arP k (i : Int) with ⟨a, b⟩
    rw [hp] at hA hf
    refine CALL.tab (ds := [int i]) hA rfl ?_
    simp [vc_step_Least_k0, prD, lookH]
    refine ⟨fun h => ?_, fun h => ?_⟩
    · obtain ⟨q1, q2, q3, q4⟩ := hf h
      simp only at q1 q2 q3 q4
      refine CALL.tab (ds := [prD (a, b), int i]) (off_meets t k a b i hok q1 h q2 (by omega) (by omega)) rfl ?_
      simp [w1]
      refine ⟨i + 1, by omega, ?_, by omega⟩
      simp [WEAK, lookH, lsN, hp, h]
    · simp [w1]
      refine ⟨i + 1, by omega, ?_, by omega⟩
      simp [WEAK, lookH, lsN, hp, show ¬ a < b by omega]
  · have : i = t.vals.length := by omega
    subst this
    simp
end Go.Vc

namespace Go.Vc
open Go Go.Proofs
variable {g : GG}
attribute [local simp] and_assoc
def diag (l : List Int) : List Sp := l.map fun x => ⟨x, x⟩
theorem KeepD (t : Tb) (hok : t.ok = true) (h3 : 3 ≤ t.vals.length) : Meets (Tz g) f_step_Keep [t.d, int 2] ⟨.tup [.d (ints (keepP t.vals.length)), .d (int 0)], []⟩ := by
  obtain ⟨f1, f2, f3, f4⟩ := Tb.ok_facts hok
  have w1 := wrap_id (n := (t.vals.length : Int) - 1) (by omega) (by omega)
  refine meets_step_Keep ?_
  unfold vc_step_Keep
  simp [Tb.d, lookH, spans]
  refine CALL.val [t.d] _ rfl (isTable_meets t hok) (.inl rfl) ?_
  simp [vc_step_Keep_k0, lookH, w1]
  refine CALL.val [int 2, int 1, int ((t.vals.length : Int) - 1)] _ rfl (step_in_meets _ _ _) (.inl rfl) ?_
  have e1 : inB 2 1 ((t.vals.length : Int) - 1) = true := by simp [inB]; omega
  simp [e1, lookH]
  refine CALL.val [t.d, int 2] _ rfl (Meets.frz (keep_meets t (by omega) (by omega))) (.inl rfl) ?_
  simp [ints]
set_option maxHeartbeats 4000000 in
theorem of11_meets (l : List Int) (rule off : Int) (hl : l.length ≤ 1000) : Meets (Tz g) f_top_of11 [ints l, int rule, int off] ⟨.d (Tb.d ⟨diag l, rule, off⟩), []⟩ := by
  refine meets_top_of11 ?_
  unfold vc_top_of11
  simp [ints, lookH]
  refine LOOP.mkB Nat (fun i => [.d (ints l), .ptr 24 0 0 0, .ptr 56 0 0 0, .d (int i)]) (fun i => [(24, some ⟨0, T_api_StepTable, .box [.zc, .d (int 0), .d (int 0)]⟩), (56, some ⟨0, T_api_StepTable, .box [.own 80 i, .d (int rule), .d (int off)]⟩), (80, some ⟨i, T_api_Span, .lst ((diag (l.take i)).map Sp.d)⟩)]) (fun i => i ≤ l.length) (fun i => l.length - i) [] [(56, 0, T_api_Span)] (by simp) 0 (by omega) (by simp [WEAK, lookH, ints, diag, promoteB, promote]) (fun _ _ => rfl) ?_
  intro i hi
  have w1 := wrap_id (n := (i : Int) + 1) (by omega) (by omega)
  simp [vc_top_of11_k0, ints]
  refine ⟨fun hlt => ?_, fun hge => ?_⟩
  · have hg : l[i]? = some l[i] := List.getElem?_eq_getElem hlt
    have htk : diag (l.take (i + 1)) = diag (l.take i) ++ [⟨l[i], l[i]⟩] := by
      unfold diag
      rw [List.take_add_one, hg, List.map_append]
      rfl
    have hdl : (diag (l.take i)).length = i := by simp [diag]; omega
    simp [hg, lookH, w1, hdl]
    refine ⟨by omega, rfl, i + 1, by omega, ?_, by omega⟩
    simp [WEAK, lookH, ints, htk, Sp.d]
  · have : i = l.length := by omega
    subst this
    simp [lookH, Tb.d, spans]
theorem val_second (v f s : Int) (r : Nat) : valL [v, f, s] (r + 2) 0 + valL [v, f, s] r 0 = 2 * valL [v, f, s] (r + 1) 0 + s := by
  have h1 : valL [v, f, s] (r + 2) 0 = valL [v, f, s] (r + 1) 0 + valL [f, s] (r + 1) 0 := valL_step [v, f, s] (r + 1)
  have h2 : valL [v, f, s] (r + 1) 0 = valL [v, f, s] r 0 + valL [f, s] r 0 := valL_step [v, f, s] r
  have h3 : valL [f, s] (r + 1) 0 = valL [f, s] r 0 + valL [s] r 0 := valL_step [f, s] r
  have h4 : valL [s] r 0 = s := by simp [valL, ch_zero]
  rw [h4] at h3
  omega
theorem figP_half (rule x y z r : Int) (hr : 1 ≤ rule ∧ rule ≤ 4) : figP rule (r - 1) (r + 1) x z r = rdV rule (x + z) 2 := by
  unfold figP
  rw [show r + 1 - r = 1 by omega, show r - (r - 1) = 1 by omega, show r + 1 - (r - 1) = 2 by omega, Int.mul_one, Int.mul_one]
theorem half_near (rule v s : Int) (h : rule = 1 ∨ rule = 2 ∨ rule = 3) : rdV rule (2 * v + s) 2 = v + rdV rule s 2 := by
  rcases h with rfl | rfl | rfl <;> simp [rdV] <;> omega
theorem half_even (v s : Int) : v + rdV 4 s 2 - 1 ≤ rdV 4 (2 * v + s) 2 ∧ rdV 4 (2 * v + s) 2 ≤ v + rdV 4 s 2 + 1 := by
  simp only [rdV, evenV]
  simp
  split <;> split <;> omega
theorem half_bnd (rule s : Int) (hr : 1 ≤ rule ∧ rule ≤ 4) (h1 : -50 ≤ s) (h2 : s ≤ 50) : -50 ≤ rdV rule s 2 ∧ rdV rule s 2 ≤ 50 := by
  rcases (by omega : rule = 1 ∨ rule = 2 ∨ rule = 3 ∨ rule = 4) with rfl | rfl | rfl | rfl
  · simp [rdV]; omega
  · simp [rdV]; omega
  · simp [rdV]; omega
  · simp only [rdV, evenV]
    simp
    split <;> omega
theorem ar_keep {n : Nat} (hn : 2 ≤ n) {r : Nat} (hr : r < n) : arP (keepP n) r = ((r : Int), (r : Int)) ∨ (arP (keepP n) r = ((r : Int) - 1, (r : Int) + 1) ∧ 1 ≤ r ∧ r + 1 < n) := by
  have hK := keep_ok hn
  have hl := keep_len n
  have hev : ∀ i, i < n / 2 → (keepP n)[i]? = some (2 * (i : Int)) := fun i hi => by
    unfold keepP
    rw [List.getElem?_append_left (by rw [evens_len]; exact hi), evens_at _ _ hi]
  have hlast : (keepP n)[n / 2]? = some ((n : Int) - 1) := by
    have := hK.last
    rwa [hl] at this
  by_cases hm : (keepP n)[lbI (keepP n) r]? = some (r : Int)
  · left; unfold arP; rw [if_pos hm]
  · right
    obtain ⟨q1, q2, a, b, ha, hb, q3, q4⟩ := around_facts hK (row := (r : Int)) (by omega) (by omega) hm
    have e : arP (keepP n) r = (a, b) := by
      unfold arP
      rw [if_neg hm]
      simp only [List.getD_eq_getElem?_getD, ha, hb, Option.getD_some]
    rw [e]
    generalize lbI (keepP n) r = j at *
    rw [hev (j - 1) (by omega)] at ha
    injection ha with ha
    by_cases hj : j < n / 2
    · rw [hev j hj] at hb
      injection hb with hb
      refine ⟨by rw [Prod.mk.injEq]; omega, by omega, by omega⟩
    · have : j = n / 2 := by omega
      subst this
      rw [hlast] at hb
      injection hb with hb
      refine ⟨by rw [Prod.mk.injEq]; omega, by omega, by omega⟩
theorem ar_one {n : Nat} (hn : 3 ≤ n) : arP (keepP n) ((1 : Nat) : Int) = (0, 2) := by
  have hK := keep_ok (show 2 ≤ n by omega)
  have hl := keep_len n
  have hev : ∀ i, i < n / 2 → (keepP n)[i]? = some (2 * (i : Int)) := fun i hi => by
    unfold keepP
    rw [List.getElem?_append_left (by rw [evens_len]; exact hi), evens_at _ _ hi]
  have hlast : (keepP n)[n / 2]? = some ((n : Int) - 1) := by
    have := hK.last
    rwa [hl] at this
  rcases ar_keep (show 2 ≤ n by omega) (r := 1) (by omega) with h | ⟨h, _⟩
  · exfalso
    have hm : (keepP n)[lbI (keepP n) ((1 : Nat) : Int)]? = some ((1 : Nat) : Int) := by
      refine Classical.byContradiction fun hm => ?_
      unfold arP at h
      rw [if_neg hm] at h
      obtain ⟨q1, q2, a, b, ha, hb, q3, q4⟩ := around_facts hK (row := ((1 : Nat) : Int)) (by omega) (by omega) hm
      simp only [List.getD_eq_getElem?_getD, ha, hb, Option.getD_some, Prod.mk.injEq] at h
      omega
    have hlt := (List.getElem?_eq_some_iff.1 hm).1
    generalize lbI (keepP n) ((1 : Nat) : Int) = j at *
    by_cases hj : j < n / 2
    · rw [hev j hj] at hm
      injection hm with hm
      omega
    · have : j = n / 2 := by omega
      subst this
      rw [hlast] at hm
      injection hm with hm
      omega
  · rw [h]; rfl
theorem bends_law (v f s rule : Int) (n : Nat) (h3 : 3 ≤ n) (hr : 1 ≤ rule ∧ rule ≤ 4) (A B : Int) (hA : A ≤ B) (hB : 0 ≤ B) (hAB : ∀ x : Int, A ≤ max (rdV rule (2 * x + s) 2 - x) (x - rdV rule (2 * x + s) 2) ∧ max (rdV rule (2 * x + s) 2 - x) (x - rdV rule (2 * x + s) 2) ≤ B) :
    A ≤ lsN ⟨diag (heads [v, f, s] n), rule, 0⟩ (keepP n) n ∧ lsN ⟨diag (heads [v, f, s] n), rule, 0⟩ (keepP n) n ≤ B := by
  generalize ht : (⟨diag (heads [v, f, s] n), rule, 0⟩ : Tb) = t
  have hv : ∀ i : Nat, i < n → vLo t i = valL [v, f, s] i 0 ∧ vHi t i = valL [v, f, s] i 0 := fun i hi => by
    have e : (diag (heads [v, f, s] n)).getD i ⟨0, 0⟩ = ⟨valL [v, f, s] i 0, valL [v, f, s] i 0⟩ := by
      rw [heads_val _ _ (by simp)]
      simp [diag, List.getD_eq_getElem?_getD, hi]
    subst ht
    unfold vLo vHi
    rw [show ((i : Nat) : Int).toNat = i by omega, e]
    exact ⟨rfl, rfl⟩
  have hru : t.rule = rule := by subst ht; rfl
  have hoff : ∀ r : Nat, 1 ≤ r → r + 1 < n → A ≤ offP t ((r : Int) - 1) ((r : Int) + 1) r ∧ offP t ((r : Int) - 1) ((r : Int) + 1) r ≤ B := fun r h1 h2 => by
    obtain ⟨j, rfl⟩ : ∃ j, r = j + 1 := ⟨r - 1, by omega⟩
    have e1 : ((j + 1 : Nat) : Int) - 1 = (j : Int) := by omega
    have e2 : ((j + 1 : Nat) : Int) + 1 = ((j + 2 : Nat) : Int) := by omega
    have hh := figP_half rule
    unfold offP
    have a0 := hv j (by omega)
    have a1 := hv (j + 1) (by omega)
    have a2 := hv (j + 2) (by omega)
    have hs := val_second v f s j
    have ef : ∀ x z : Int, figP t.rule (((j + 1 : Nat) : Int) - 1) (((j + 1 : Nat) : Int) + 1) x z ((j + 1 : Nat) : Int) = rdV rule (x + z) 2 := fun x z => by rw [hru]; exact figP_half rule x 0 z _ hr
    rw [ef, ef, e1, e2, a0.1, a0.2, a1.1, a1.2, a2.1, a2.2, show valL [v, f, s] j 0 + valL [v, f, s] (j + 2) 0 = 2 * valL [v, f, s] (j + 1) 0 + s by omega]
    exact hAB _
  have key : ∀ i, i ≤ n → lsN t (keepP n) i ≤ B ∧ (2 ≤ i → A ≤ lsN t (keepP n) i) := by
    intro i
    induction i with
    | zero => intro _; exact ⟨hB, fun h => by omega⟩
    | succ i ih =>
      intro hi
      obtain ⟨k1, k2⟩ := ih (by omega)
      simp only [lsN]
      rcases ar_keep (show 2 ≤ n by omega) (r := i) (by omega) with h | ⟨h, g1, g2⟩
      · rw [h, if_neg (by simp)]
        refine ⟨k1, fun h2 => ?_⟩
        by_cases hi1 : i = 1
        · subst hi1
          have := ar_one h3
          rw [h] at this
          simp at this
        · exact k2 (by omega)
      · rw [h, if_pos (by show (i : Int) - 1 < (i : Int) + 1; omega)]
        have := hoff i g1 g2
        simp only
        omega
  have := key n (Nat.le_refl _)
  exact ⟨this.2 (by omega), this.1⟩
end Go.Vc
