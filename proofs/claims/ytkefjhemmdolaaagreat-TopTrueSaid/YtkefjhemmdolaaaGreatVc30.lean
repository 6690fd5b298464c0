/- A part of the proof: general laws of a reading of the model by abstract data, or contracts of the functions that the law calls. -/
import Derived.Test.YtkefjhemmdolaaaGreatVc29
set_option maxRecDepth 100000
namespace Go.Vc
open Go Go.Proofs
theorem valL_mono (n : Nat) : ∀ (a b : List Int) (k : Nat), a.length = b.length → (∀ (i : Nat) (x y : Int), a[i]? = some x → b[i]? = some y → x ≤ y) → valL a n k ≤ valL b n k
  | [], [], _, _, _ => Int.le_refl _
  | x :: a, y :: b, k, hl, h => by
    have h0 := h 0 x y rfl rfl
    have h1 := valL_mono n a b (k + 1) (by simpa using hl) (fun (i : Nat) (u v : Int) hu hv => h (i + 1) u v (by simpa using hu) (by simpa using hv))
    have h2 : x * (ch n k : Int) ≤ y * (ch n k : Int) := Int.mul_le_mul_of_nonneg_right h0 (by omega)
    simp only [valL]
    omega
  | [], _ :: _, _, hl, _ => by simp at hl
  | _ :: _, [], _, hl, _ => by simp at hl
theorem within_get : ∀ {ss : List Sp} {ns : List Int}, within ss ns = true → ∀ (i : Nat) (s : Sp) (n : Int), ss[i]? = some s → ns[i]? = some n → s.low ≤ n ∧ n ≤ s.high
  | s :: ss, m :: ns, h, i, s', n, h1, h2 => by
    simp [within] at h
    cases i with
    | zero => simp at h1 h2; subst h1; subst h2; have := h.1; simp [inB] at this; exact this
    | succ i => exact within_get h.2 i s' n (by simpa using h1) (by simpa using h2)
  | [], [], _, i, s, n, h1, _ => by simp at h1
  | [], _ :: _, h, _, _, _, _, _ => by simp [within] at h
  | _ :: _, [], h, _, _, _, _, _ => by simp [within] at h
theorem val_low {p : Plan} {t : List Int} (h : within p.starts t = true) (n : Nat) : valL (lows p) n 0 ≤ valL t n 0 := by
  have hl := within_length h
  refine valL_mono n _ _ 0 (by simp [lows]; omega) (fun i x y hx hy => ?_)
  simp only [lows, List.getElem?_map] at hx
  cases hs : p.starts[i]? with
  | none => rw [hs] at hx; cases hx
  | some s => rw [hs] at hx; injection hx with hx; subst hx; exact (within_get h i s y hs hy).1
theorem val_high {p : Plan} {t : List Int} (h : within p.starts t = true) (n : Nat) : valL t n 0 ≤ valL (highs p) n 0 := by
  have hl := within_length h
  refine valL_mono n _ _ 0 (by simp [highs]; omega) (fun i x y hx hy => ?_)
  simp only [highs, List.getElem?_map] at hy
  cases hs : p.starts[i]? with
  | none => rw [hs] at hy; cases hy
  | some s => rw [hs] at hy; injection hy with hy; subst hy; exact (within_get h i s x hs hx).2
theorem within_lows : ∀ {ss : List Sp}, (∀ s, s ∈ ss → s.low ≤ s.high) → within ss (ss.map Sp.low) = true
  | [], _ => rfl
  | s :: ss, h => by
    have := h s (by simp)
    simp [within, inB, this]
    exact within_lows (fun x hx => h x (by simp [hx]))
theorem within_highs : ∀ {ss : List Sp}, (∀ s, s ∈ ss → s.low ≤ s.high) → within ss (ss.map Sp.high) = true
  | [], _ => rfl
  | s :: ss, h => by
    have := h s (by simp)
    simp [within, inB, this]
    exact within_highs (fun x hx => h x (by simp [hx]))
theorem startB_le {s : Sp} (h : startB s = true) : -99999 ≤ s.low ∧ s.low ≤ s.high ∧ s.high ≤ 99999 ∧ s.high ≤ s.low + 6 := by
  simp [startB, inB] at h; omega
end Go.Vc
