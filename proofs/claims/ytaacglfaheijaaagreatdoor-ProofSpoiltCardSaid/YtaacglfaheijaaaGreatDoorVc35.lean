/- A part of the proof: general laws of a reading of the model by abstract data, or contracts of the functions that the law calls. -/
import Derived.Test.YtaacglfaheijaaaGreatDoorVc33
import Derived.Test.YtaacglfaheijaaaGreatDoorVc34
set_option maxRecDepth 100000
namespace Go.Vc
open Go Go.Proofs
variable {g : GG}
attribute [local simp] and_assoc
theorem known_call (hk : MeetsH (Tz g) f_law09_known [] [] (.ret (.d (.bool true))) []) {new : Nat} {h : Heap} {K KP : List Nat → AV → Heap → Prop} (h3 : K [] (.d (.bool true)) h) : CALL (Tz g) f_law09_known [] new h K KP :=
  CALL.val [] _ rfl hk (.inl rfl) h3
end Go.Vc
