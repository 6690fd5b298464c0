/- A part of the proof: general laws of a reading of the model by abstract data, or contracts of the functions that the law calls. -/
import Derived.Test.YtnbdfpppcdgkpaaGreatDoorVc27
import Derived.Test.YtnbdfpppcdgkpaaGreatDoorVc15
import Derived.Test.YtnbdfpppcdgkpaaGreatDoorVc35
set_option maxRecDepth 100000
namespace Go.Vc
open Go Go.Proofs Go.RowKit
end Go.Vc

namespace Go.Vc
open Go Go.Proofs Go.RowKit
variable {g : GG}
attribute [local simp] and_assoc
end Go.Vc

namespace Go.Vc
open Go Go.Proofs
variable {g : GG}
attribute [local simp] and_assoc
@[simp] theorem POST_unit {h : Heap} : POST (.tup []) h [] (.tup []) [] ↔ True := ⟨fun _ => trivial, fun _ => POST.auto (by simp)⟩
def apart (s : Sp) : Bool := !decide (s.low = s.high)
def planC (p : Plan) : D := .cp [spans p.starts, int p.rows, int p.guard]
end Go.Vc
