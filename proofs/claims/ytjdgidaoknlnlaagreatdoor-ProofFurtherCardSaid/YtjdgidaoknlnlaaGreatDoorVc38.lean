/- A part of the proof: general laws of a reading of the model by abstract data, or contracts of the functions that the law calls. -/
import Derived.Test.YtjdgidaoknlnlaaGreatDoorVc37
set_option maxRecDepth 100000
namespace Go.Vc
open Go Go.Proofs
variable {g : GG}
attribute [local simp] and_assoc
def fltL (f : Nat → Bool) (k : Nat) : List Int := ((List.range k).filter f).map fun (n : Nat) => (n : Int)
theorem fltL_succ (f : Nat → Bool) (k : Nat) : fltL f (k + 1) = fltL f k ++ (match f k with | true => [(k : Int)] | false => []) := by
  unfold fltL
  rw [List.range_succ, List.filter_append, List.map_append]
  simp only [List.filter_cons, List.filter_nil]
  cases f k <;> rfl
theorem fltL_len (f : Nat → Bool) (m : Nat) : (fltL f m).length ≤ m := by
  have := List.length_filter_le f (List.range m)
  simp only [fltL, List.length_map]
  simpa using this
end Go.Vc
