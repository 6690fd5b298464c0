/- A part of the proof: general laws of a reading of the model by abstract data, or contracts of the functions that the law calls. -/
import Derived.Test.YtflbianfhogdjaaGreatDoorVc34
set_option maxRecDepth 100000
namespace Go.Vc
open Go Go.Proofs
variable {g : GG}
attribute [local simp] and_assoc
def shD (x : Int × Int) : D := .agg [int x.1, int x.2]
@[local simp] theorem shD_cells (x : Int × Int) : (shD x).cells = [int x.1, int x.2] := rfl
end Go.Vc

namespace Go.Vc
open Go Go.Proofs
variable {g : GG}
attribute [local simp] and_assoc
end Go.Vc

namespace Go.Vc
open Go Go.Proofs
variable {g : GG}
attribute [local simp] and_assoc
theorem inB_nat {row n : Int} (h : inB row 0 n = true) : ∃ k : Nat, row = k ∧ (k : Int) ≤ n := by
  simp [inB] at h
  exact ⟨row.toNat, by omega, by omega⟩
end Go.Vc
