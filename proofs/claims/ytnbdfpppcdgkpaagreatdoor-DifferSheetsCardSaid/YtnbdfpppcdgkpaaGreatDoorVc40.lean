/- A part of the proof: general laws of a reading of the model by abstract data, or contracts of the functions that the law calls. -/
import Derived.Test.YtnbdfpppcdgkpaaGreatDoorVc39
set_option maxRecDepth 100000
namespace Go.Vc
open Go Go.Proofs
variable {g : GG}
attribute [local simp] and_assoc
def shD (x : Int × Int) : D := .agg [int x.1, int x.2]
@[local simp] theorem shD_cells (x : Int × Int) : (shD x).cells = [int x.1, int x.2] := rfl
end Go.Vc

namespace Go.Vc
open Go Go.Proofs
variable {g : GG}
attribute [local simp] and_assoc
end Go.Vc

namespace Go.Vc
open Go Go.Proofs
variable {g : GG}
attribute [local simp] and_assoc
end Go.Vc
