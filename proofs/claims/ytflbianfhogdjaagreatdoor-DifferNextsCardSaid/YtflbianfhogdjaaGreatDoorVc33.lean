/- A part of the proof: general laws of a reading of the model by abstract data, or contracts of the functions that the law calls. -/
import Derived.Test.YtflbianfhogdjaaGreatDoorVc31
set_option maxRecDepth 100000
namespace Go.Vc
open Go Go.Proofs
variable {g : GG}
attribute [local simp] and_assoc
def sureF : List Sp → Int → List Int
  | [], _ => []
  | s :: r, i => if apart s then sureF r (i + 1) else i :: sureF r (i + 1)
def sureL (p : Plan) : List Int := sureF (printedL p) 0
theorem sureF_snoc : ∀ (l : List Sp) (s : Sp) (i : Int), sureF (l ++ [s]) i = sureF l i ++ (if apart s then [] else [i + l.length])
  | [], s, i => by by_cases h : apart s <;> simp [sureF, h]
  | x :: r, s, i => by
    have ih := sureF_snoc r s (i + 1)
    have e : i + 1 + (r.length : Int) = i + ((r.length : Int) + 1) := by omega
    rw [e] at ih
    by_cases h : apart x
    · simp [sureF, h, ih]
    · simp [sureF, h, ih]
theorem sureF_len : ∀ (l : List Sp) (i : Int), (sureF l i).length ≤ l.length
  | [], i => Nat.le_refl _
  | x :: r, i => by
    have := sureF_len r (i + 1)
    by_cases h : apart x
    · simp [sureF, h]; omega
    · simp [sureF, h]; omega
theorem sureF_ge : ∀ (l : List Sp) (i x : Int), x ∈ sureF l i → i ≤ x ∧ x < i + l.length
  | [], i, x, h => by simp [sureF] at h
  | s :: r, i, x, h => by
    have ih := sureF_ge r (i + 1) x
    by_cases hs : apart s
    · simp [sureF, hs] at h; have := ih h; simp; omega
    · simp [sureF, hs] at h
      rcases h with h | h
      · simp; omega
      · have := ih h; simp; omega
theorem sureF_mem : ∀ (l : List Sp) (i : Int) (k : Nat) (s : Sp), l[k]? = some s → (i + (k : Int) ∈ sureF l i ↔ apart s = false)
  | [], i, k, s, h => by simp at h
  | x :: r, i, 0, s, h => by
    simp at h; subst h
    have hge := sureF_ge r (i + 1) i
    by_cases hs : apart x
    · simp [sureF, hs]; intro h; have := hge h; omega
    · simp [sureF, hs]
  | x :: r, i, k + 1, s, h => by
    have ih := sureF_mem r (i + 1) k s (by simpa using h)
    have e : i + 1 + (k : Int) = i + ((k + 1 : Nat) : Int) := by omega
    rw [e] at ih
    by_cases hs : apart x
    · simp only [sureF, hs, if_true]; exact ih
    · simp only [sureF, hs]
      simp only [Bool.false_eq_true, if_false, List.mem_cons]
      refine ⟨fun h => ih.1 (h.resolve_left (by omega)), fun h => .inr (ih.2 h)⟩
theorem sureL_len (p : Plan) (n : Nat) (hn : p.rows = n) : (sureL p).length ≤ n := by
  have := sureF_len (printedL p) 0
  rw [printedL_len p n hn] at this
  exact this
theorem take_snoc {l : List Sp} {k : Nat} {s : Sp} (h : l[k]? = some s) : sureF (l.take (k + 1)) 0 = sureF (l.take k) 0 ++ (if apart s then [] else [(k : Int)]) := by
  have hk := (List.getElem?_eq_some_iff.1 h).1
  rw [take_next h, sureF_snoc]
  have : (l.take k).length = k := by simp; omega
  rw [this]
  simp
theorem differ_Sure_meets (p : Plan) (h : p.ok = true) : Meets (Tz g) f_differ_Sure [p.d] ⟨.tup [.own 0 0, .d (int 0)], [⟨0, T_int, .lst ((sureL p).map int)⟩]⟩ := by
  obtain ⟨a1, a2, a3, a4, a5⟩ := Plan.ok_len h
  obtain ⟨n, hn⟩ : ∃ n : Nat, p.rows = n := ⟨p.rows.toNat, by omega⟩
  have hr := printedL_len p n hn
  refine meets_differ_Sure ?_
  unfold vc_differ_Sure
  simp [Plan.d, spans]
  refine CALL.val [p.d] _ rfl (differ_isPlan_meets p (by omega)) (.inl rfl) ?_
  simp [h]
  refine CALL.mk [p.d] _ rfl (differ_printed_meets p h) (.inl rfl) (by simp) ?_
  simp
  refine LOOP.mk Nat (fun k => [.own 112 (sureF ((printedL p).take k) 0).length, .own 88 0, .d (int n), .d (int k)]) (fun k => [(112, some ⟨(sureF ((printedL p).take k) 0).length, T_int, .lst ((sureF ((printedL p).take k) 0).map int)⟩), (88, some ⟨0, T_api_Span, .lst ((printedL p).map Sp.d)⟩)]) (fun k => k ≤ n) (fun k => n - k) [(0, T_int)] (by simp) 0 (by omega) (by simp [WEAK, hr, sureF]) (fun _ _ => rfl) ?_
  intro k hk
  have hl := sureF_len ((printedL p).take k) 0
  have ht : ((printedL p).take k).length = k := by simp; omega
  rw [ht] at hl
  simp
  constructor
  · intro hlt
    have hg : (printedL p)[k]? = some (printedL p)[k] := List.getElem?_eq_getElem (by omega)
    generalize (printedL p)[k] = s at hg
    have h7 := take_snoc hg
    simp [hg, hr, Sp.d]
    rw [wrap_id (n := (k : Int) + 1) (by omega) (by omega)]
    refine ⟨hlt, ?_, ?_⟩
    · intro hq
      have ha : apart s = false := by simp [apart, hq]
      rw [ha] at h7
      refine ⟨by omega, k + 1, by omega, ?_, by omega⟩
      simp [WEAK, h7]
    · intro hq
      have ha : apart s = true := by simp [apart, hq]
      rw [ha] at h7
      refine ⟨k + 1, by omega, ?_, by omega⟩
      simp at h7
      simp [WEAK, h7]
  · intro hge
    have : k = n := by omega
    subst this
    rw [take_all (by omega)]
    simp [sureL]
theorem differ_Sure_bad (p : Plan) (hl : p.starts.length ≤ 1000) (h : p.ok = false) : Meets (Tz g) f_differ_Sure [p.d] ⟨.tup [.d (.list []), .d (int 2)], []⟩ := by
  refine meets_differ_Sure ?_
  unfold vc_differ_Sure
  simp [Plan.d, spans]
  refine CALL.val [p.d] _ rfl (differ_isPlan_meets p hl) (.inl rfl) ?_
  simp [h]
end Go.Vc

namespace Go.Vc
open Go Go.Proofs
theorem sureF_full : ∀ (l : List Sp) (i : Int), 0 ≤ i → (idx apart l i < 0 ↔ (sureF l i).length = l.length)
  | [], i, _ => by simp [idx, sureF]
  | x :: r, i, hi => by
    have ih := sureF_full r (i + 1) (by omega)
    have hl := sureF_len r (i + 1)
    by_cases h : apart x
    · simp [idx, sureF, h]
      omega
    · simp [idx, sureF, h]
      exact ih
theorem idx_spec {α : Type} (q : α → Bool) : ∀ (l : List α) (i : Int), 0 ≤ i → 0 ≤ idx q l i → ∃ (d : Nat) (x : α), idx q l i = i + (d : Int) ∧ l[d]? = some x ∧ q x = true ∧ ∀ (j : Nat) (y : α), j < d → l[j]? = some y → q y = false
  | [], i, _, h => by simp [idx] at h
  | x :: r, i, hi, h => by
    by_cases hq : q x
    · refine ⟨0, x, by simp [idx, hq], rfl, hq, fun j y hj _ => by omega⟩
    · simp [idx, hq] at h
      obtain ⟨d, y, h1, h2, h3, h4⟩ := idx_spec q r (i + 1) (by omega) h
      refine ⟨d + 1, y, by simp [idx, hq, h1]; omega, by simpa using h2, h3, fun j z hj hz => ?_⟩
      cases j with
      | zero => simp at hz; subst hz; simpa using hq
      | succ j => exact h4 j z (by omega) (by simpa using hz)
theorem doubt_sure (p : Plan) (n : Nat) (hn : p.rows = n) : doubtL p < 0 ↔ (sureL p).length = n := by
  have := sureF_full (printedL p) 0 (by omega)
  rw [printedL_len p n hn] at this
  exact this
theorem doubt_first (p : Plan) (n : Nat) (hn : p.rows = n) (h : ¬ doubtL p < 0) : ∃ d : Nat, doubtL p = d ∧ d < n ∧ ¬ ((d : Int) ∈ sureL p) ∧ ∀ j : Nat, j < d → (j : Int) ∈ sureL p := by
  obtain ⟨d, s, h1, h2, h3, h4⟩ := idx_spec apart (printedL p) 0 (by omega) (by unfold doubtL at h; omega)
  have hd := (List.getElem?_eq_some_iff.1 h2).1
  rw [printedL_len p n hn] at hd
  refine ⟨d, by unfold doubtL; omega, hd, ?_, fun j hj => ?_⟩
  · have := sureF_mem (printedL p) 0 d s h2
    simp only [Int.zero_add] at this
    intro hin
    have := this.1 hin
    simp [h3] at this
  · have hlen := printedL_len p n hn
    have hg : (printedL p)[j]? = some (printedL p)[j] := List.getElem?_eq_getElem (by omega)
    have := sureF_mem (printedL p) 0 j _ hg
    simp only [Int.zero_add] at this
    exact this.2 (h4 j _ hj hg)
theorem sure_fig (p : Plan) (n k : Nat) (hn : p.rows = n) (hk : k < n) : (k : Int) ∈ sureL p ↔ figL (unitL p) ((afterL k (lows p)).headD 0) = figL (unitL p) ((afterL k (highs p)).headD 0) := by
  have g3 := rowsL_get p n k hn hk
  have g4 : (printedL p)[k]? = some ⟨figL (unitL p) ((afterL k (lows p)).headD 0), figL (unitL p) ((afterL k (highs p)).headD 0)⟩ := by simp [printedL, g3]
  have := sureF_mem (printedL p) 0 k _ g4
  simp only [Int.zero_add, apart] at this
  simpa [sureL] using this
end Go.Vc
