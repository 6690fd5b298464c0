/- A part of the proof: general laws of a reading of the model by abstract data, or contracts of the functions that the law calls. -/
import Derived.Test.YtaacglfaheijaaaGreatDoorVc32
import Derived.Test.YtaacglfaheijaaaGreatDoorVc21
set_option maxRecDepth 100000
namespace Go.Vc
open Go Go.Proofs
variable {g : GG}
attribute [local simp] and_assoc
end Go.Vc

namespace Go.Vc
open Go Go.Proofs
variable {g : GG}
attribute [local simp] and_assoc
end Go.Vc

namespace Go.Vc
open Go Go.Proofs
variable {g : GG}
attribute [local simp] and_assoc
theorem entB_cases {p : Pg} {e : Nt} (h : entB p e = true) : (∃ a : Nat, e = ⟨3, [(a : Int)]⟩ ∧ a < p.lines.length) ∨ (∃ (a : Int) (b : Nat) (c : Int), e = ⟨2, [a, (b : Int), c]⟩ ∧ persB p a = true ∧ b < p.lines.length ∧ numB c = true) ∨
    (∃ (a b : Int) (c n : Nat), e = ⟨1, [a, b, (c : Int), (c : Int) + n - 1]⟩ ∧ persB p a = true ∧ persB p b = true ∧ a < b ∧ c + n ≤ p.lines.length ∧ 1 ≤ n) := by
  obtain ⟨k, ns⟩ := e
  rcases ns with _ | ⟨a, _ | ⟨b, _ | ⟨c, _ | ⟨d, _ | ⟨f, r⟩⟩⟩⟩⟩
  · simp [entB] at h
  · simp [entB] at h
    obtain ⟨rfl, h2⟩ := h
    obtain ⟨m, rfl, hm⟩ := inB_nat h2
    exact .inl ⟨m, rfl, by omega⟩
  · simp [entB] at h
  · simp [entB] at h
    obtain ⟨rfl, h2, h3, h4⟩ := h
    obtain ⟨m, rfl, hm⟩ := inB_nat h3
    exact .inr (.inl ⟨a, m, c, rfl, h2, by omega, h4⟩)
  · simp [entB] at h
    obtain ⟨rfl, h2, h3, h4, h5, h6, h7⟩ := h
    obtain ⟨m, rfl, hm⟩ := inB_nat h5
    obtain ⟨q, rfl, hq⟩ := inB_nat h6
    refine .inr (.inr ⟨a, b, m, q - m + 1, ?_, h2, h3, h4, by omega, by omega⟩)
    have : (m : Int) + ((q - m + 1 : Nat) : Int) - 1 = q := by omega
    rw [this]
  · simp [entB] at h
end Go.Vc
