/- A part of the proof: general laws of a reading of the model by abstract data, or contracts of the functions that the law calls. -/
import Derived.Test.YtnbdfpppcdgkpaaGreatDoorVc27
import Derived.Test.YtnbdfpppcdgkpaaGreatDoorVc15
import Derived.Test.YtnbdfpppcdgkpaaGreatDoorVc34
import Derived.Test.YtnbdfpppcdgkpaaGreatDoorVc30
set_option maxRecDepth 100000
namespace Go.Vc
open Go Go.Proofs Go.RowKit
end Go.Vc

namespace Go.Vc
open Go Go.Proofs
variable {g : GG}
theorem take_next {α : Type} {L : List α} {k : Nat} {x : α} (h : L[k]? = some x) : L.take (k + 1) = L.take k ++ [x] := by
  rw [List.take_add_one, h]; rfl
theorem take_all {α : Type} {L : List α} {k : Nat} (h : L.length ≤ k) : L.take k = L := List.take_of_length_le h
end Go.Vc

namespace Go.Vc
open Go Go.Proofs
variable {g : GG}
end Go.Vc

namespace Go.Vc
open Go Go.Proofs
variable {g : GG}
attribute [local simp] and_assoc
end Go.Vc

namespace Go.Vc
open Go Go.Proofs
variable {g : GG}
attribute [local simp] and_assoc
def turn {α : Type} (a b : List α) (k : Nat) : List α := a.take k ++ b.drop k
@[simp high] theorem BIN_Sp (a b : Sp) (K : AV → Prop) : BIN 1002 .neq (.d (.agg [int a.low, int a.high])) (.d (.agg [int b.low, int b.high])) K = K (.d (.bool !decide (a = b))) := by
  have e : binD 1002 .neq (.agg [int a.low, int a.high]) (.agg [int b.low, int b.high]) = some (.bool !decide (a = b)) := by
    obtain ⟨a1, a2⟩ := a
    obtain ⟨b1, b2⟩ := b
    by_cases h1 : a1 = b1 <;> by_cases h2 : a2 = b2 <;> simp [h1, h2]
  show (∃ r, binD 1002 .neq _ _ = some r ∧ K (.d r)) = _
  rw [e]
  simp
end Go.Vc

namespace Go.Vc
open Go Go.Proofs
variable {g : GG}
theorem known_call (hg : GOK g) {new : Nat} {h : Heap} {K KP : List Nat → AV → Heap → Prop} (h3 : K [] (.d (.bool true)) h) : CALL (Tz g) f_law01_known [] new h K KP :=
  CALL.val [] _ rfl (known_meets hg) (.inl rfl) h3
end Go.Vc
