/- A part of the proof: general laws of a reading of the model by abstract data, or contracts of the functions that the law calls. -/
import Derived.Test.YtflbianfhogdjaaGreatDoorVc22
import Derived.Test.YtflbianfhogdjaaGreatDoorVc11
import Derived.Test.YtflbianfhogdjaaGreatDoorVc33
set_option maxRecDepth 100000
namespace Go.Vc
open Go Go.Proofs Go.RowKit
end Go.Vc

namespace Go.Vc
open Go Go.Proofs
variable {g : GG}
attribute [local simp] and_assoc
end Go.Vc

namespace Go.Vc
open Go Go.Proofs
variable {g : GG}
attribute [local simp] and_assoc
def widths : List Sp → Nat → Nat → List Int
  | [], _, _ => []
  | s :: r, row, k => (s.high - s.low) * (ch row k : Int) :: widths r row (k + 1)
theorem widths_len : ∀ (l : List Sp) (row k : Nat), (widths l row k).length = l.length
  | [], _, _ => rfl
  | _ :: r, row, k => by simp [widths, widths_len r row (k + 1)]
theorem widths_bound (row : Nat) (hr : row ≤ 12) : ∀ (l : List Sp) (k : Nat), (∀ s, s ∈ l → startB s = true) → k + l.length ≤ 7 → ∀ w, w ∈ widths l row k → 0 ≤ w ∧ w ≤ 6000
  | [], k, _, _, w, hw => by simp [widths] at hw
  | s :: r, k, h, hk, w, hw => by
    simp only [List.length_cons] at hk
    simp only [widths, List.mem_cons] at hw
    rcases hw with rfl | hw
    · have h1 := startB_le (h s (by simp))
      have h2 := (ch_facts row (by omega) k (by omega)).1
      have h3 : 0 ≤ (s.high - s.low) * (ch row k : Int) := Int.mul_nonneg (by omega) (by omega)
      have h4 : (s.high - s.low) * (ch row k : Int) ≤ 6 * (ch row k : Int) := Int.mul_le_mul_of_nonneg_right (by omega) (by omega)
      omega
    · exact widths_bound row hr r (k + 1) (fun x hx => h x (by simp [hx])) (by omega) w hw
def sumL : List Int → Int
  | [] => 0
  | x :: r => x + sumL r
end Go.Vc
