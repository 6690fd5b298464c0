/- A part of the proof: general laws of a reading of the model by abstract data, or contracts of the functions that the law calls. -/
import Derived.Test.YthdjndbnnajpoaaGreatDoorVc36
set_option maxRecDepth 100000
namespace Go.Vc
open Go Go.Proofs
variable {g : GG}
attribute [local simp] and_assoc
theorem readN_now (p : Pg) (i : Nat) (a b : Int) : ∀ (n c : Nat) (s : Ps), (readN p i a b n c s).now = s.now ∧ (readN p i a b n c s).setters = s.setters ∧ (readN p i a b n c s).changed = s.changed
  | 0, _, _ => ⟨rfl, rfl, rfl⟩
  | n + 1, c, s => by
    simp only [readN]
    obtain ⟨h1, h2, h3⟩ := readN_now p i a b n (c + 1) (readOne p i a b c s)
    exact ⟨h1, h2, h3⟩
end Go.Vc

namespace Go.Vc
open Go Go.Proofs
variable {g : GG}
attribute [local simp] and_assoc
end Go.Vc
