/- A part of the proof: general laws of a reading of the model by abstract data, or contracts of the functions that the law calls. -/
import Derived.Test.YtflbianfhogdjaaGreatDoorVc37
import Derived.Test.YtflbianfhogdjaaGreatDoorVc30
set_option maxRecDepth 100000
namespace Go.Vc
open Go Go.Proofs
variable {g : GG}
attribute [local simp] and_assoc
attribute [local simp] ints_cells
end Go.Vc

namespace Go.Vc
open Go Go.Proofs
variable {g : GG}
attribute [local simp] and_assoc
attribute [local simp] ints_cells
theorem differ_Table_data (p : Plan) (t : List Int) (n : Nat) (h1 : p.ok = true) (h2 : within p.starts t = true) (hn : p.rows = n) : Meets (Tz g) f_differ_Table [p.d, ints t] ⟨.tup [.d (ints (heads t n)), .d (int 0)], []⟩ := by
  obtain ⟨a1, a2, a3, a4, a5⟩ := Plan.ok_len h1
  have hlen := within_length h2
  refine meets_differ_Table ?_
  unfold vc_differ_Table
  simp [Plan.d, spans]
  refine CALL.val _ _ rfl (differ_isPlan_meets p (by omega)) (.inl rfl) ?_
  simp [h1]
  refine CALL.val _ _ rfl (differ_isTruth_meets p t (by omega) (by omega)) (.inl rfl) ?_
  simp [h2]
  refine CALL.mk [tabD p t] _ rfl (differ_values_meets p t n hn (by omega) (by omega) (by omega) (fun x hx => by have := within_bound a5 h2 x hx; omega)) (.inl rfl) (by simp) ?_
  simp [ints]
end Go.Vc

namespace Go.Vc
open Go Go.Proofs
variable {g : GG}
end Go.Vc
