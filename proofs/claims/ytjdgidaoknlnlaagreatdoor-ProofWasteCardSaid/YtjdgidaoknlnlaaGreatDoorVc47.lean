/- A part of the proof: general laws of a reading of the model by abstract data, or contracts of the functions that the law calls. -/
import Derived.Test.YtjdgidaoknlnlaaGreatDoorVc23
import Derived.Test.YtjdgidaoknlnlaaGreatDoorVc11
import Derived.Test.YtjdgidaoknlnlaaGreatDoorVc46
set_option maxRecDepth 100000
namespace Go.Vc
open Go Go.Proofs Go.RowKit
end Go.Vc

namespace Go.Vc
open Go Go.Proofs
variable {g : GG}
attribute [local simp] and_assoc
theorem in_fltL {f : Nat → Bool} {m k : Nat} : (k : Int) ∈ fltL f m ↔ k < m ∧ f k = true := by
  simp only [fltL, List.mem_map, List.mem_filter, List.mem_range]
  constructor
  · rintro ⟨n, ⟨h1, h2⟩, h3⟩
    have : n = k := by omega
    subst this
    exact ⟨h1, h2⟩
  · intro h
    exact ⟨k, h, rfl⟩
end Go.Vc
