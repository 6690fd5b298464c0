/- A part of the proof: general laws of a reading of the model by abstract data, or contracts of the functions that the law calls. -/
import Derived.Test.YtkefjhemmdolaaaGreatVc48
import Derived.Test.YtkefjhemmdolaaaGreatVc45
import Derived.Test.YtkefjhemmdolaaaGreatVc30
set_option maxRecDepth 100000
namespace Go.Vc
open Go Go.Proofs
variable {g : GG}
theorem even_mono (u v w : Int) (hu : 1 ≤ u) (h : v ≤ w) : evenV u v ≤ evenV u w := by
  have hq : (2 * v + u) / (2 * u) ≤ (2 * w + u) / (2 * u) := Int.ediv_le_ediv (by omega) (by omega)
  have hw := Int.mul_ediv_add_emod (2 * w + u) (2 * u)
  have hw0 := Int.emod_nonneg (2 * w + u) (show 2 * u ≠ 0 by omega)
  have hv := Int.mul_ediv_add_emod (2 * v + u) (2 * u)
  have hv0 := Int.emod_nonneg (2 * v + u) (show 2 * u ≠ 0 by omega)
  unfold evenV
  generalize hqv : (2 * v + u) / (2 * u) = qv at *
  generalize hqw : (2 * w + u) / (2 * u) = qw at *
  by_cases he : qv = qw
  · subst he
    by_cases hc : 2 * w + u = 2 * u * qv ∧ qv % 2 ≠ 0
    · have : v = w := by omega
      subst this
      exact Int.le_refl _
    · rw [if_neg hc]
      split <;> omega
  · split <;> split <;> omega
theorem rdV_mono (rule u v w : Int) (hu : 1 ≤ u) (h : v ≤ w) : rdV rule v u ≤ rdV rule w u := by
  unfold rdV
  split
  · exact Int.ediv_le_ediv (by omega) h
  · split
    · have := Int.ediv_le_ediv (a := -w) (b := -v) (c := u) (by omega) (by omega)
      omega
    · split
      · exact Int.ediv_le_ediv (by omega) (by omega)
      · exact even_mono u v w hu h
theorem rdV_whole (rule u c : Int) (hu : 1 ≤ u) : rdV rule (c * u) u = c := by
  have h1 : c * u / u = c := Int.mul_ediv_cancel c (by omega)
  have h2 : -(c * u) / u = -c := by rw [← Int.neg_mul]; exact Int.mul_ediv_cancel (-c) (by omega)
  have h3 : (2 * (c * u) + u) / (2 * u) = c := by
    have e : 2 * (c * u) + u = u + c * (2 * u) := by
      rw [show c * (2 * u) = 2 * (c * u) by rw [Int.mul_left_comm]]
      omega
    rw [e, Int.add_mul_ediv_right _ _ (by omega), Int.ediv_eq_zero_of_lt (by omega) (by omega)]
    omega
  unfold rdV evenV
  rw [h1, h2, h3]
  split
  · rfl
  · split
    · omega
    · split
      · rfl
      · rw [if_neg]
        rintro ⟨h, _⟩
        have e : 2 * u * c = 2 * (c * u) := by rw [Int.mul_assoc, Int.mul_comm u c]
        omega
end Go.Vc
