/- A part of the proof: general laws of a reading of the model by abstract data, or contracts of the functions that the law calls. -/
import Derived.Test.YtaacglfaheijaaaGreatDoorVc10
set_option maxRecDepth 100000
namespace Go.Vc
open Go
section
variable {h : Heap} {K : AV → Prop} {K1 : Heap → Prop} {K2 : AV → Heap → Prop} {id ver off row o sz esz : Nat} {e e2 : TypeId}
end
end Go.Vc
