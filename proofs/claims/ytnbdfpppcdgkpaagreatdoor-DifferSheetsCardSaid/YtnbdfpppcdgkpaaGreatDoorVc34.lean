/- A part of the proof: general laws of a reading of the model by abstract data, or contracts of the functions that the law calls. -/
import Derived.Test.YtnbdfpppcdgkpaaGreatDoorVc32
set_option maxRecDepth 100000
namespace Go.Vc
open Go Go.Proofs
def ch : Nat → Nat → Nat
  | _, 0 => 1
  | 0, _ + 1 => 0
  | n + 1, k + 1 => ch n k + ch n (k + 1)
end Go.Vc

namespace Go.Vc
open Go Go.Proofs
end Go.Vc
