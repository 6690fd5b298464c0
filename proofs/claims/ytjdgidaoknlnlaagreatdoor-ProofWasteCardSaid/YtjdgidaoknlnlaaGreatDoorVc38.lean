/- A part of the proof: general laws of a reading of the model by abstract data, or contracts of the functions that the law calls. -/
import Derived.Test.YtjdgidaoknlnlaaGreatDoorVc37
set_option maxRecDepth 100000
namespace Go.Vc
open Go Go.Proofs
variable {g : GG}
attribute [local simp] and_assoc
def pgH (b : Nat) (p : Pg) (s : Ps) : Heap := [(b, some ⟨0, T_proof_page, .box [.d (int p.people), .d (lns p.lines), .d (ents p.log), .own (b + 1) 0, .own (b + 2) 0, .mapv (b + 3), .own (b + 4) 0, .own (b + 5) 0]⟩), (b + 1, some ⟨0, T_int, .lst (s.now.map int)⟩), (b + 2, some ⟨0, T_int, .lst (s.setters.map int)⟩), (b + 3, some ⟨0, 0, .mp (keysM s.keys) s.ck⟩), (b + 4, some ⟨0, T_int, .lst (s.changed.map int)⟩), (b + 5, some ⟨0, T_api_ProofMiss, .lst (s.missed.map missD)⟩)]
theorem readersP_len (p : Pg) (line : Nat) : (readersP p line).length ≤ p.people.toNat := readersL_len _ _ _
def fltL (f : Nat → Bool) (k : Nat) : List Int := ((List.range k).filter f).map fun (n : Nat) => (n : Int)
theorem fltL_succ (f : Nat → Bool) (k : Nat) : fltL f (k + 1) = fltL f k ++ (match f k with | true => [(k : Int)] | false => []) := by
  unfold fltL
  rw [List.range_succ, List.filter_append, List.map_append]
  simp only [List.filter_cons, List.filter_nil]
  cases f k <;> rfl
theorem fltL_len (f : Nat → Bool) (m : Nat) : (fltL f m).length ≤ m := by
  have := List.length_filter_le f (List.range m)
  simp only [fltL, List.length_map]
  simpa using this
end Go.Vc
