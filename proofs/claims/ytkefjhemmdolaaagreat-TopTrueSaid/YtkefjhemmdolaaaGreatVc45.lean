/- A part of the proof: general laws of a reading of the model by abstract data, or contracts of the functions that the law calls. -/
import Derived.Test.YtkefjhemmdolaaaGreatVc30
import Derived.Test.YtkefjhemmdolaaaGreatVc24
set_option maxRecDepth 100000
namespace Go.Vc
open Go Go.Proofs
variable {g : GG}
theorem take_next {α : Type} {L : List α} {k : Nat} {x : α} (h : L[k]? = some x) : L.take (k + 1) = L.take k ++ [x] := by
  rw [List.take_add_one, h]; rfl
theorem take_all {α : Type} {L : List α} {k : Nat} (h : L.length ≤ k) : L.take k = L := List.take_of_length_le h
end Go.Vc

namespace Go.Vc
open Go Go.Proofs
variable {g : GG}
end Go.Vc

namespace Go.Vc
open Go Go.Proofs
variable {g : GG}
attribute [local simp] and_assoc vc_differ_end_k0 vc_differ_end_k1 vc_differ_rows_k0 vc_differ_rows_k1 vc_differ_rows_k2 vc_differ_rows_k3 
theorem start_least_meets (s : Sp) : Meets (Tz g) f_differ_start_least [s.d] ⟨.d (int s.low), []⟩ := by
  refine meets_differ_start_least ?_
  unfold vc_differ_start_least
  simp [Sp.d]
theorem start_most_meets (s : Sp) : Meets (Tz g) f_differ_start_most [s.d] ⟨.d (int s.high), []⟩ := by
  refine meets_differ_start_most ?_
  unfold vc_differ_start_most
  simp [Sp.d]
theorem differ_end_lows (p : Plan) (hl : p.starts.length ≤ 1000) : Meets (Tz g) f_differ_end [p.d, int 0] ⟨.own 0 0, [⟨0, T_int, .lst ((lows p).map int)⟩]⟩ := by
  refine meets_differ_end ?_
  unfold vc_differ_end
  simp [Plan.d, spans]
  refine LOOP.mk Nat (fun k => [.d (int 0), .ptr 48 0 0 0, .own 104 k, .d (spans p.starts), .d (int p.starts.length), .d (int k)]) (fun k => [(104, some ⟨k, T_int, .lst (((lows p).map int).take k)⟩), (48, some ⟨0, T_2_func_differ_start_int, .box [.d (.fn f_differ_start_least [] []), .d (.fn f_differ_start_most [] [])]⟩), (24, some ⟨0, T_api_DifferPlan, .box [.d (spans p.starts), .d (int p.rows), .d (int p.guard)]⟩)]) (fun k => k ≤ p.starts.length) (fun k => p.starts.length - k) [(2, T_int)] (by simp) 0 (by omega) (by simp [WEAK, spans]) (fun _ _ => rfl) ?_
  intro k hk
  simp [spans]
  constructor
  · intro hlt
    have hlt : k < p.starts.length := by omega
    have hg : p.starts[k]? = some p.starts[k] := List.getElem?_eq_getElem hlt
    simp [hg, Sp.d]
    refine CALL.val [(p.starts[k]).d] _ rfl (start_least_meets _) (.inl rfl) ?_
    simp
    rw [wrap_id (n := (k : Int) + 1) (by omega) (by omega)]
    have h7 := take_next (L := (lows p).map int) (k := k) (x := int p.starts[k].low) (by simp [lows, hg])
    refine ⟨by simp [lows]; omega, rfl, k + 1, by omega, ?_, by omega⟩
    simp [WEAK]
    rw [h7]
  · intro hge
    have : k = p.starts.length := by omega
    subst this
    simp [lows]
    exact take_all (by simp)
theorem differ_end_highs (p : Plan) (hl : p.starts.length ≤ 1000) : Meets (Tz g) f_differ_end [p.d, int 1] ⟨.own 0 0, [⟨0, T_int, .lst ((highs p).map int)⟩]⟩ := by
  refine meets_differ_end ?_
  unfold vc_differ_end
  simp [Plan.d, spans]
  refine LOOP.mk Nat (fun k => [.d (int 1), .ptr 48 0 0 0, .own 104 k, .d (spans p.starts), .d (int p.starts.length), .d (int k)]) (fun k => [(104, some ⟨k, T_int, .lst (((highs p).map int).take k)⟩), (48, some ⟨0, T_2_func_differ_start_int, .box [.d (.fn f_differ_start_least [] []), .d (.fn f_differ_start_most [] [])]⟩), (24, some ⟨0, T_api_DifferPlan, .box [.d (spans p.starts), .d (int p.rows), .d (int p.guard)]⟩)]) (fun k => k ≤ p.starts.length) (fun k => p.starts.length - k) [(2, T_int)] (by simp) 0 (by omega) (by simp [WEAK, spans]) (fun _ _ => rfl) ?_
  intro k hk
  simp [spans]
  constructor
  · intro hlt
    have hlt : k < p.starts.length := by omega
    have hg : p.starts[k]? = some p.starts[k] := List.getElem?_eq_getElem hlt
    simp [hg, Sp.d]
    refine CALL.val [(p.starts[k]).d] _ rfl (start_most_meets _) (.inl rfl) ?_
    simp
    rw [wrap_id (n := (k : Int) + 1) (by omega) (by omega)]
    have h7 := take_next (L := (highs p).map int) (k := k) (x := int p.starts[k].high) (by simp [highs, hg])
    refine ⟨by simp [highs]; omega, rfl, k + 1, by omega, ?_, by omega⟩
    simp [WEAK]
    rw [h7]
  · intro hge
    have : k = p.starts.length := by omega
    subst this
    simp [highs]
    exact take_all (by simp)
theorem lows_len (p : Plan) : (lows p).length = p.starts.length := by simp [lows]
theorem highs_len (p : Plan) : (highs p).length = p.starts.length := by simp [highs]
theorem lows_within {p : Plan} (h : p.ok = true) : within p.starts (lows p) = true := within_lows fun s hs => (startB_le ((Plan.ok_len h).2.2.2.2 s hs)).2.1
theorem highs_within {p : Plan} (h : p.ok = true) : within p.starts (highs p) = true := within_highs fun s hs => (startB_le ((Plan.ok_len h).2.2.2.2 s hs)).2.1
theorem far_of {l : List Int} (h : ∀ x, x ∈ l → -99999 ≤ x ∧ x ≤ 99999) : ∀ x, x ∈ l → -1000000000 ≤ x ∧ x ≤ 1000000000 := fun x hx => by have := h x hx; omega
theorem lows_bound {p : Plan} (h : p.ok = true) : ∀ x, x ∈ lows p → -99999 ≤ x ∧ x ≤ 99999 := within_bound (Plan.ok_len h).2.2.2.2 (lows_within h)
theorem highs_bound {p : Plan} (h : p.ok = true) : ∀ x, x ∈ highs p → -99999 ≤ x ∧ x ≤ 99999 := within_bound (Plan.ok_len h).2.2.2.2 (highs_within h)
theorem rowsL_get (p : Plan) (n k : Nat) (hn : p.rows = n) (h : k < n) : (rowsL p)[k]? = some ⟨(afterL k (lows p)).headD 0, (afterL k (highs p)).headD 0⟩ := by
  simp [rowsL, hn, h]
theorem rowsL_len (p : Plan) (n : Nat) (hn : p.rows = n) : (rowsL p).length = n := by simp [rowsL, hn]
theorem differ_rows_meets (p : Plan) (h : p.ok = true) : Meets (Tz g) f_differ_rows [p.d] ⟨.own 0 0, [⟨0, T_api_Span, .lst ((rowsL p).map Sp.d)⟩]⟩ := by
  obtain ⟨a1, a2, a3, a4, a5⟩ := Plan.ok_len h
  obtain ⟨n, hn⟩ : ∃ n : Nat, p.rows = n := ⟨p.rows.toNat, by omega⟩
  have l1 := lows_len p
  have l2 := highs_len p
  refine meets_differ_rows ?_
  unfold vc_differ_rows
  simp [Plan.d, spans]
  refine CALL.mk [p.d, int 0] _ rfl (differ_end_lows p (by omega)) (.inl rfl) (by simp) ?_
  simp
  refine CALL.mk [tabD p (lows p)] _ (by simp [tabD, spans, ints]) (differ_values_meets p (lows p) n hn (by omega) (by omega) (by omega) (far_of (lows_bound h))) (.inr (by simp [Res.flatP, AV.flatB, blksFlat, Body.flatP, D.flatB])) (by simp) ?_
  simp
  refine CALL.mk [p.d, int 1] _ rfl (differ_end_highs p (by omega)) (.inl rfl) (by simp) ?_
  simp
  refine CALL.mk [tabD p (highs p)] _ (by simp [tabD, spans, ints]) (differ_values_meets p (highs p) n hn (by omega) (by omega) (by omega) (far_of (highs_bound h))) (.inr (by simp [Res.flatP, AV.flatB, blksFlat, Body.flatP, D.flatB])) (by simp) ?_
  simp
  refine ⟨rfl, ?_⟩
  have hh : ∀ t : List Int, (heads t n).length = n := fun t => by simp [heads]
  refine LOOP.mk Nat (fun k => [.own 72 0, .own 112 0, .own 168 k, .d (int n), .d (int k)]) (fun k => [(168, some ⟨k, T_api_Span, .lst (((rowsL p).map Sp.d).take k)⟩), (112, some ⟨0, T_int, .lst ((heads (highs p) n).map int)⟩), (72, some ⟨0, T_int, .lst ((heads (lows p) n).map int)⟩)]) (fun k => k ≤ n) (fun k => n - k) [(2, T_api_Span)] (by simp) 0 (by omega) (by simp [WEAK, hh]) (fun _ _ => rfl) ?_
  intro k hk
  simp
  constructor
  · intro hlt
    have g1 : (heads (lows p) n)[k]? = some ((afterL k (lows p)).headD 0) := by simp [heads, hlt]
    have g2 : (heads (highs p) n)[k]? = some ((afterL k (highs p)).headD 0) := by simp [heads, hlt]
    simp [g1, g2, hh]
    have h7 := take_next (L := (rowsL p).map Sp.d) (k := k) (x := Sp.d ⟨(afterL k (lows p)).headD 0, (afterL k (highs p)).headD 0⟩) (by simp [rowsL_get p n k hn hlt])
    rw [wrap_id (n := (k : Int) + 1) (by omega) (by omega)]
    refine ⟨hlt, by omega, rfl, k + 1, by omega, ?_, by omega⟩
    simp [WEAK]
    rw [h7]
    simp [Sp.d]
  · intro hge
    have : k = n := by omega
    subst this
    exact take_all (by simp [rowsL_len p k hn])
end Go.Vc
