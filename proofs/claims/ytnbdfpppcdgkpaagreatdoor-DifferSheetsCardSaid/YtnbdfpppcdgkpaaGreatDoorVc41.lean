/- A part of the proof: general laws of a reading of the model by abstract data, or contracts of the functions that the law calls. -/
import Derived.Test.YtnbdfpppcdgkpaaGreatDoorVc40
set_option maxRecDepth 100000
namespace Go.Vc
open Go Go.Proofs
end Go.Vc
