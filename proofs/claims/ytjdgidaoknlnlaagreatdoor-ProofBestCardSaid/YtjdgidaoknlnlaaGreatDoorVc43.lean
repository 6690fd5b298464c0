/- A part of the proof: general laws of a reading of the model by abstract data, or contracts of the functions that the law calls. -/
import Derived.Test.YtjdgidaoknlnlaaGreatDoorVc23
import Derived.Test.YtjdgidaoknlnlaaGreatDoorVc11
import Derived.Test.YtjdgidaoknlnlaaGreatDoorVc39
import Derived.Test.YtjdgidaoknlnlaaGreatDoorVc41
set_option maxRecDepth 100000
namespace Go.Vc
open Go Go.Proofs Go.RowKit
end Go.Vc

namespace Go.Vc
open Go Go.Proofs
variable {g : GG}
attribute [local simp] and_assoc
end Go.Vc

namespace Go.Vc
open Go Go.Proofs
variable {g : GG}
attribute [local simp] and_assoc
def bestI (f : Nat → Int) : Nat → Nat
  | 0 => 0
  | k + 1 => match decide (f (bestI f k) < f (k + 1)) with | true => k + 1 | false => bestI f k
theorem bestI_le (f : Nat → Int) : ∀ k, bestI f k ≤ k
  | 0 => Nat.le_refl 0
  | k + 1 => by
    have := bestI_le f k
    simp only [bestI]
    split <;> omega
theorem bestI_max (f : Nat → Int) : ∀ k j, j ≤ k → f j ≤ f (bestI f k)
  | 0, j, h => by
    have : j = 0 := by omega
    subst this; exact Int.le_refl _
  | k + 1, j, h => by
    simp only [bestI]
    by_cases hj : j = k + 1
    · subst hj
      split
      · exact Int.le_refl _
      · rename_i hd
        have := of_decide_eq_false hd
        omega
    · have := bestI_max f k j (by omega)
      split
      · rename_i hd
        have := of_decide_eq_true hd
        omega
      · exact this
theorem bestI_first (f : Nat → Int) : ∀ k j, j < bestI f k → f j < f (bestI f k)
  | 0, j, h => by simp [bestI] at h
  | k + 1, j, h => by
    by_cases hd : f (bestI f k) < f (k + 1)
    · have e : bestI f (k + 1) = k + 1 := by simp only [bestI]; rw [decide_eq_true hd]
      rw [e] at h ⊢
      have h2 := bestI_max f k j (by omega)
      omega
    · have e : bestI f (k + 1) = bestI f k := by simp only [bestI]; rw [decide_eq_false hd]
      rw [e] at h ⊢
      exact bestI_first f k j h
end Go.Vc
