/- A part of the proof: general laws of a reading of the model by abstract data, or contracts of the functions that the law calls. -/
import Derived.Test.YtflbianfhogdjaaGreatDoorVc27
set_option maxRecDepth 100000
namespace Go.Vc
open Go Go.Proofs
def ch : Nat → Nat → Nat
  | _, 0 => 1
  | 0, _ + 1 => 0
  | n + 1, k + 1 => ch n k + ch n (k + 1)
theorem ch_zero (n : Nat) : ch n 0 = 1 := by cases n <;> rfl
def valL : List Int → Nat → Nat → Int
  | [], _, _ => 0
  | a :: r, n, k => a * (ch n k : Int) + valL r n (k + 1)
theorem valL_zero : ∀ (l : List Int) (k : Nat), valL l 0 (k + 1) = 0
  | [], k => rfl
  | a :: r, k => by simp only [valL, valL_zero r (k + 1)]; simp [ch]
theorem valL_pascal : ∀ (l : List Int) (n k : Nat), valL l (n + 1) (k + 1) = valL l n k + valL l n (k + 1)
  | [], n, k => rfl
  | a :: r, n, k => by
    have e : ((ch (n + 1) (k + 1) : Nat) : Int) = (ch n k : Int) + (ch n (k + 1) : Int) := by simp [ch]
    simp only [valL, valL_pascal r n (k + 1), e, Int.mul_add]
    omega
theorem valL_step (l : List Int) (n : Nat) : valL l (n + 1) 0 = valL l n 0 + valL l.tail n 0 := by
  cases l with
  | nil => rfl
  | cons a r =>
    have := valL_pascal r n 0
    simp only [valL, ch_zero, List.tail_cons]
    simp only [Nat.zero_add] at this ⊢
    omega
theorem stepL_at : ∀ (l : List Int) (i : Nat) (x : Int), l[i]? = some x → (stepL l)[i]? = some (x + (l[i + 1]?).getD 0)
  | [], i, x, h => by simp at h
  | [a], i, x, h => by
    cases i with
    | zero => simp at h; subst h; simp [stepL]
    | succ i => simp at h
  | a :: b :: r, i, x, h => by
    cases i with
    | zero => simp at h; subst h; simp [stepL]
    | succ i =>
      have := stepL_at (b :: r) i x (by simpa using h)
      simp only [stepL, List.getElem?_cons_succ] at this ⊢
      exact this
theorem after_at (t : List Int) : ∀ (row i : Nat), i < t.length → (afterL row t)[i]? = some (valL (t.drop i) row 0)
  | 0, i, h => by
    rw [afterL, List.getElem?_eq_getElem h, List.drop_eq_getElem_cons h]
    simp [valL, valL_zero, ch]
  | row + 1, i, h => by
    have h1 := after_at t row i h
    rw [afterL, stepL_at _ i _ h1, valL_step, List.tail_drop]
    by_cases h2 : i + 1 < t.length
    · rw [after_at t row (i + 1) h2]; rfl
    · rw [List.getElem?_eq_none (by rw [afterL_length]; omega), show t.drop (i + 1) = [] from List.drop_eq_nil_of_le (by omega)]
      simp [valL]
theorem after_head (t : List Int) (row : Nat) (h : 1 ≤ t.length) : (afterL row t).headD 0 = valL t row 0 := by
  have := after_at t row 0 (by omega)
  rw [List.drop_zero] at this
  cases hq : afterL row t with
  | nil => rw [hq] at this; simp at this
  | cons a r => rw [hq] at this; simp at this; simpa using this
theorem heads_val (t : List Int) (n : Nat) (h : 1 ≤ t.length) : heads t n = (List.range n).map fun k => valL t k 0 := by
  unfold heads
  exact List.map_congr_left (fun k _ => after_head t k h)
def lows (p : Plan) : List Int := p.starts.map Sp.low
def highs (p : Plan) : List Int := p.starts.map Sp.high
def rowsL (p : Plan) : List Sp := (List.range p.rows.toNat).map fun k => ⟨(afterL k (lows p)).headD 0, (afterL k (highs p)).headD 0⟩
end Go.Vc

namespace Go.Vc
open Go Go.Proofs
theorem valL_mono (n : Nat) : ∀ (a b : List Int) (k : Nat), a.length = b.length → (∀ (i : Nat) (x y : Int), a[i]? = some x → b[i]? = some y → x ≤ y) → valL a n k ≤ valL b n k
  | [], [], _, _, _ => Int.le_refl _
  | x :: a, y :: b, k, hl, h => by
    have h0 := h 0 x y rfl rfl
    have h1 := valL_mono n a b (k + 1) (by simpa using hl) (fun (i : Nat) (u v : Int) hu hv => h (i + 1) u v (by simpa using hu) (by simpa using hv))
    have h2 : x * (ch n k : Int) ≤ y * (ch n k : Int) := Int.mul_le_mul_of_nonneg_right h0 (by omega)
    simp only [valL]
    omega
  | [], _ :: _, _, hl, _ => by simp at hl
  | _ :: _, [], _, hl, _ => by simp at hl
theorem within_lows : ∀ {ss : List Sp}, (∀ s, s ∈ ss → s.low ≤ s.high) → within ss (ss.map Sp.low) = true
  | [], _ => rfl
  | s :: ss, h => by
    have := h s (by simp)
    simp [within, inB, this]
    exact within_lows (fun x hx => h x (by simp [hx]))
theorem within_highs : ∀ {ss : List Sp}, (∀ s, s ∈ ss → s.low ≤ s.high) → within ss (ss.map Sp.high) = true
  | [], _ => rfl
  | s :: ss, h => by
    have := h s (by simp)
    simp [within, inB, this]
    exact within_highs (fun x hx => h x (by simp [hx]))
theorem startB_le {s : Sp} (h : startB s = true) : -99999 ≤ s.low ∧ s.low ≤ s.high ∧ s.high ≤ 99999 ∧ s.high ≤ s.low + 6 := by
  simp [startB, inB] at h; omega
def sumCh (n : Nat) : Nat → Nat → Nat
  | 0, _ => 0
  | m + 1, k => ch n k + sumCh n m (k + 1)
theorem sumCh_le : ∀ n, n < 12 → ∀ m, m < 5 → sumCh n m 0 ≤ 232 := by decide
theorem mul_bound' (a b : Int) (c : Nat) (h1 : -b ≤ a) (h2 : a ≤ b) : -(b * (c : Int)) ≤ a * (c : Int) ∧ a * (c : Int) ≤ b * (c : Int) := by
  have e1 : a * (c : Int) ≤ b * (c : Int) := Int.mul_le_mul_of_nonneg_right h2 (by omega)
  have e2 : (-b) * (c : Int) ≤ a * (c : Int) := Int.mul_le_mul_of_nonneg_right h1 (by omega)
  rw [Int.neg_mul] at e2
  exact ⟨e2, e1⟩
theorem valL_sum (b : Int) (n : Nat) : ∀ (l : List Int) (k : Nat), (∀ x, x ∈ l → -b ≤ x ∧ x ≤ b) → -(b * (sumCh n l.length k : Int)) ≤ valL l n k ∧ valL l n k ≤ b * (sumCh n l.length k : Int)
  | [], k, _ => by simp [valL, sumCh]
  | a :: r, k, h => by
    have h1 := h a (by simp)
    have h2 := valL_sum b n r (k + 1) (fun x hx => h x (by simp [hx]))
    have h3 := mul_bound' a b (ch n k) h1.1 h1.2
    have e : ((sumCh n (r.length + 1) k : Nat) : Int) = (ch n k : Int) + (sumCh n r.length (k + 1) : Int) := by simp [sumCh]
    simp only [valL, List.length_cons, e, Int.mul_add]
    omega
theorem val_232 (t : List Int) (n : Nat) (hn : n < 12) (hl : t.length ≤ 4) (h : ∀ x, x ∈ t → -99999 ≤ x ∧ x ≤ 99999) : -23199768 ≤ valL t n 0 ∧ valL t n 0 ≤ 23199768 := by
  have h1 := valL_sum 99999 n t 0 h
  have h2 := sumCh_le n hn t.length (by omega)
  omega
end Go.Vc
