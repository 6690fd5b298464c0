/- A part of the proof: general laws of a reading of the model by abstract data, or contracts of the functions that the law calls. -/
import Derived.Test.YtflbianfhogdjaaGreatDoorVc22
import Derived.Test.YtflbianfhogdjaaGreatDoorVc11
import Derived.Test.YtflbianfhogdjaaGreatDoorVc27
set_option maxRecDepth 100000
namespace Go.Vc
open Go Go.Proofs Go.RowKit
end Go.Vc

namespace Go.Vc
open Go Go.Proofs
variable {g : GG}
end Go.Vc

namespace Go.Vc
open Go Go.Proofs
variable {g : GG}
def rv (l : List Int) (i : Nat) : List Int := l.reverse.take i ++ ((l.take (l.length - i)).drop i ++ l.reverse.drop (l.length - i))
end Go.Vc

namespace Go.Vc
open Go Go.Proofs
variable {g : GG}
end Go.Vc
