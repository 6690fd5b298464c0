/- A part of the proof: general laws of a reading of the model by abstract data, or contracts of the functions that the law calls. -/
import Derived.Test.YtjdgidaoknlnlaaGreatDoorVc23
import Derived.Test.YtjdgidaoknlnlaaGreatDoorVc11
import Derived.Test.YtjdgidaoknlnlaaGreatDoorVc39
import Derived.Test.YtjdgidaoknlnlaaGreatDoorVc41
set_option maxRecDepth 100000
namespace Go.Vc
open Go Go.Proofs Go.RowKit
end Go.Vc

namespace Go.Vc
open Go Go.Proofs
variable {g : GG}
attribute [local simp] and_assoc
end Go.Vc

namespace Go.Vc
open Go Go.Proofs
variable {g : GG}
attribute [local simp] and_assoc
def bestI (f : Nat → Int) : Nat → Nat
  | 0 => 0
  | k + 1 => match decide (f (bestI f k) < f (k + 1)) with | true => k + 1 | false => bestI f k
theorem bestI_le (f : Nat → Int) : ∀ k, bestI f k ≤ k
  | 0 => Nat.le_refl 0
  | k + 1 => by
    have := bestI_le f k
    simp only [bestI]
    split <;> omega
end Go.Vc
