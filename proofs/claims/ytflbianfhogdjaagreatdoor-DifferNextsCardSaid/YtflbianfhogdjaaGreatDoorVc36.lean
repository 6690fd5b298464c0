/- A part of the proof: general laws of a reading of the model by abstract data, or contracts of the functions that the law calls. -/
import Derived.Test.YtflbianfhogdjaaGreatDoorVc35
set_option maxRecDepth 100000
namespace Go.Vc
open Go Go.Proofs
theorem Plan.ok_guard {p : Plan} (h : p.ok = true) : 0 ≤ p.guard ∧ p.guard ≤ 3 := by
  simp [Plan.ok, inB] at h
  omega
theorem wide_some (q : Int → Bool) : ∀ (m : Nat) (h x : Int), wideF q m h = some x → q x = true ∧ h - m < x ∧ x ≤ h ∧ ∀ y, x < y → y ≤ h → q y = false
  | 0, h, x, e => by simp [wideF] at e
  | m + 1, h, x, e => by
    by_cases hq : q h = true
    · simp [wideF, hq] at e
      subst e
      exact ⟨hq, by omega, by omega, fun y h1 h2 => by omega⟩
    · simp [wideF, hq] at e
      obtain ⟨a, b, c, d⟩ := wide_some q m (h - 1) x e
      refine ⟨a, by omega, by omega, fun y h1 h2 => ?_⟩
      by_cases hy : y = h
      · subst hy; simpa using hq
      · exact d y h1 (by omega)
theorem wide_none (q : Int → Bool) : ∀ (m : Nat) (h : Int), wideF q m h = none → ∀ y, h - m < y → y ≤ h → q y = false
  | 0, h, _, y, h1, h2 => by omega
  | m + 1, h, e, y, h1, h2 => by
    by_cases hq : q h = true
    · simp [wideF, hq] at e
    · simp [wideF, hq] at e
      by_cases hy : y = h
      · subst hy; simpa using hq
      · exact wide_none q m (h - 1) e y (by omega) (by omega)
theorem doubt_all (p : Plan) (n : Nat) (hn : p.rows = n) : doubtL p < 0 ↔ ∀ k : Nat, k < n → (k : Int) ∈ sureL p := by
  constructor
  · intro hd k hk
    have hlen := printedL_len p n hn
    have hg : (printedL p)[k]? = some (printedL p)[k] := List.getElem?_eq_getElem (by omega)
    have hany := idx_any apart (printedL p) 0 (by omega)
    have : (printedL p).any apart = false := by
      rw [← hany]; simp; exact hd
    have hs : apart (printedL p)[k] = false := by
      have := List.any_eq_false.1 this (printedL p)[k] (List.getElem_mem _)
      simpa using this
    have hm := sureF_mem (printedL p) 0 k _ hg
    simp only [Int.zero_add] at hm
    exact hm.2 hs
  · intro h
    refine Classical.byContradiction fun hd => ?_
    obtain ⟨d, _, h2, h3, _⟩ := doubt_first p n hn hd
    exact h3 (h d h2)
theorem with_lows (p : Plan) (i : Nat) (h : Int) : lows (withH p i h) = lows p := by
  unfold lows withH putH
  cases hs : p.starts[i]? with
  | none => rfl
  | some s =>
    simp only
    refine List.ext_getElem? fun j => ?_
    simp only [List.getElem?_map, List.getElem?_set]
    by_cases hj : i = j
    · subst hj
      have := (List.getElem?_eq_some_iff.1 hs).1
      simp [this]
      rw [List.getElem?_eq_getElem this] at hs
      simp at hs
      simp [hs]
    · rw [if_neg hj]
theorem with_highs (p : Plan) (i : Nat) (s : Sp) (h : Int) (hs : p.starts[i]? = some s) : highs (withH p i h) = (highs p).set i h := by
  unfold highs withH
  simp [putH_at hs, List.map_set]
theorem with_mono (p : Plan) (i : Nat) (s : Sp) (hs : p.starts[i]? = some s) (a b : Int) (hab : a ≤ b) (k : Nat) : valL (highs (withH p i a)) k 0 ≤ valL (highs (withH p i b)) k 0 := by
  rw [with_highs p i s a hs, with_highs p i s b hs]
  refine valL_mono k _ _ 0 (by simp) (fun j x y hx hy => ?_)
  rw [List.getElem?_set] at hx hy
  by_cases hj : i = j
  · rw [if_pos hj] at hx hy
    by_cases hl : i < (highs p).length
    · rw [if_pos hl] at hx hy
      have e1 := Option.some.inj hx
      have e2 := Option.some.inj hy
      omega
    · rw [if_neg hl] at hx; cases hx
  · rw [if_neg hj] at hx hy
    rw [hx] at hy
    have := Option.some.inj hy
    omega
theorem sure_less (p : Plan) (i : Nat) (s : Sp) (hs : p.starts[i]? = some s) (a b : Int) (n : Nat) (hn : p.rows = n) (hab : a ≤ b) (ha : (withH p i a).ok = true) (hb : (withH p i b).ok = true) (hd : doubtL (withH p i b) < 0) : doubtL (withH p i a) < 0 := by
  have hna : (withH p i a).rows = n := hn
  have hnb : (withH p i b).rows = n := hn
  rw [doubt_all _ n hna]
  rw [doubt_all _ n hnb] at hd
  intro k hk
  have h1 := (sure_fig _ n k hnb hk).1 (hd k hk)
  rw [sure_fig _ n k hna hk]
  obtain ⟨a1, a2, _⟩ := Plan.ok_len ha
  obtain ⟨b1, b2, _⟩ := Plan.ok_len hb
  have hgd : 0 ≤ p.guard ∧ p.guard ≤ 3 := Plan.ok_guard (p := withH p i a) ha
  obtain ⟨m, hm⟩ : ∃ m : Nat, p.guard = m := ⟨p.guard.toNat, by omega⟩
  have hm3 : m ≤ 3 := by omega
  have hu : 1 ≤ unitL p := by unfold unitL; rw [hm]; exact (pow10_le m hm3).1
  have eu1 : unitL (withH p i a) = unitL p := rfl
  have eu2 : unitL (withH p i b) = unitL p := rfl
  rw [eu2, after_head _ k (by rw [lows_len]; omega), after_head _ k (by rw [highs_len]; omega), with_lows] at h1
  rw [eu1, after_head _ k (by rw [lows_len]; omega), after_head _ k (by rw [highs_len]; omega), with_lows]
  have f1 := val_low (p := withH p i a) (highs_within ha) k
  rw [with_lows] at f1
  have f2 := with_mono p i s hs a b hab k
  have g1 := figL_mono (unitL p) _ _ hu f1
  have g2 := figL_mono (unitL p) _ _ hu f2
  omega
theorem val_widths : ∀ (l : List Sp) (row k : Nat), valL (l.map Sp.high) row k - valL (l.map Sp.low) row k = sumL (widths l row k)
  | [], _, _ => rfl
  | s :: r, row, k => by
    have := val_widths r row (k + 1)
    simp only [List.map_cons, valL, widths, sumL, Int.sub_mul]
    omega
theorem blameF_at : ∀ (l : List Int) (i : Int) (m : Int × Int), blameF l i m = m ∨ ∃ (j : Nat) (w : Int), l[j]? = some w ∧ blameF l i m = (i + (j : Int), w)
  | [], _, _ => .inl rfl
  | x :: r, i, m => by
    simp only [blameF]
    rcases blameF_at r (i + 1) (if m.2 < x then (i, x) else m) with h | ⟨j, w, h1, h2⟩
    · by_cases hx : m.2 < x
      · rw [if_pos hx] at h ⊢
        exact .inr ⟨0, x, rfl, by rw [h]; simp⟩
      · rw [if_neg hx] at h ⊢
        exact .inl h
    · exact .inr ⟨j + 1, w, by simpa using h1, by rw [h2]; congr 1; omega⟩
theorem blame_start (p : Plan) (row : Nat) (h : 0 < (blameO p row).2) : ∃ (j : Nat) (s : Sp), (blameO p row).1 = j ∧ p.starts[j]? = some s ∧ s.low ≠ s.high := by
  rcases blameF_at (widths p.starts row 0) 0 (0, 0) with e | ⟨j, w, h1, h2⟩
  · unfold blameO at h
    rw [e] at h
    simp at h
  · unfold blameO at h ⊢
    rw [h2] at h ⊢
    have hj := (List.getElem?_eq_some_iff.1 h1).1
    rw [widths_len] at hj
    have hg : p.starts[j]? = some p.starts[j] := List.getElem?_eq_getElem hj
    have hw := widths_get p.starts row 0 j _ hg
    rw [h1] at hw
    have hw := Option.some.inj hw
    refine ⟨j, p.starts[j], by simp, hg, fun e => ?_⟩
    rw [e] at hw
    simp at hw
    simp [hw] at h
theorem blame_one (p : Plan) (row : Nat) (hok : p.ok = true) (hr : row ≤ 12) : (blameO p row).2 ≤ 0 ↔ (afterL row (lows p)).headD 0 = (afterL row (highs p)).headD 0 := by
  obtain ⟨a1, a2, a3, a4, a5⟩ := Plan.ok_len hok
  have hwb := widths_bound row hr p.starts 0 a5 (by omega)
  have := blame_sum _ hwb
  rw [after_head _ row (by rw [lows_len]; omega), after_head _ row (by rw [highs_len]; omega)]
  have hv := val_widths p.starts row 0
  unfold blameO
  rw [← this]
  unfold lows highs
  omega
theorem widest_law (p : Plan) (i : Nat) (s : Sp) (hok : p.ok = true) (hs : p.starts[i]? = some s) (n : Nat) (hn : p.rows = n) (h : Int) (hq : (withH p i h).ok = true) :
    doubtL (withH p i h) < 0 ↔ ∃ x, widestO p i s.low = some x ∧ h ≤ x := by
  have hst : startB ⟨s.low, h⟩ = true := by
    obtain ⟨_, _, _, _, a5⟩ := Plan.ok_len hq
    refine a5 ⟨s.low, h⟩ ?_
    have hi := (List.getElem?_eq_some_iff.1 hs).1
    have : (withH p i h).starts[i]? = some ⟨s.low, h⟩ := by simp [withH, putH_at hs, hi]
    exact List.mem_of_getElem? this
  have hb := startB_le hst
  simp only at hb
  constructor
  · intro hd
    have hqs : okSure (withH p i h) = true := by simp [okSure, hq, hd]
    cases hw : widestO p i s.low with
    | none =>
      have := wide_none _ _ _ hw h (by omega) (by omega)
      rw [hqs] at this; cases this
    | some x =>
      obtain ⟨_, _, _, hx⟩ := wide_some _ _ _ _ hw
      refine ⟨x, rfl, ?_⟩
      refine Classical.byContradiction fun hlt => ?_
      have := hx h (by omega) (by omega)
      rw [hqs] at this; cases this
  · rintro ⟨x, hw, hle⟩
    obtain ⟨hx, _⟩ := wide_some _ _ _ _ hw
    simp only [okSure, Bool.and_eq_true, decide_eq_true_eq] at hx
    exact sure_less p i s hs h x n hn hle hq hx.1 hx.2
theorem widest_in (p : Plan) (i : Nat) (s : Sp) (hs : p.starts[i]? = some s) (x : Int) (hw : widestO p i s.low = some x) : s.low ≤ x ∧ x ≤ 99999 := by
  obtain ⟨hx, _⟩ := wide_some _ _ _ _ hw
  simp only [okSure, Bool.and_eq_true, decide_eq_true_eq] at hx
  obtain ⟨_, _, _, _, a5⟩ := Plan.ok_len hx.1
  have hi := (List.getElem?_eq_some_iff.1 hs).1
  have : (withH p i x).starts[i]? = some ⟨s.low, x⟩ := by simp [withH, putH_at hs, hi]
  have hb := startB_le (a5 ⟨s.low, x⟩ (List.mem_of_getElem? this))
  simp only at hb
  omega
end Go.Vc
