/- A part of the proof: general laws of a reading of the model by abstract data, or contracts of the functions that the law calls. -/
import Derived.Test.YtjdgidaoknlnlaaGreatDoorVc23
import Derived.Test.YtjdgidaoknlnlaaGreatDoorVc11
import Derived.Test.YtjdgidaoknlnlaaGreatDoorVc28
set_option maxRecDepth 100000
namespace Go.Vc
open Go Go.Proofs Go.RowKit
end Go.Vc

namespace Go.Vc
open Go Go.Proofs
variable {g : GG}
attribute [local simp] and_assoc
def rightD (n nx : Int) (last : Bool) : D := .agg [int n, int nx, .bool last]
@[simp] theorem rightD_cells (n nx : Int) (last : Bool) : (rightD n nx last).cells = [int n, int nx, .bool last] := rfl
def errD (e : Int × Int) : D := .agg [int e.1, int e.2]
@[simp] theorem errD_cells (e : Int × Int) : (errD e).cells = [int e.1, int e.2] := rfl
theorem getD_some {l : List Int} {k : Nat} (h : k < l.length) : l[k]? = some (l.getD k 0) := by
  rw [List.getD_eq_getElem?_getD, List.getElem?_eq_getElem h]; rfl
end Go.Vc
