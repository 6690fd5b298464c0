/- A part of the proof: general laws of a reading of the model by abstract data, or contracts of the functions that the law calls. -/
import Derived.Test.YthdjndbnnajpoaaGreatDoorVc37
set_option maxRecDepth 100000
namespace Go.Vc
open Go Go.Proofs
variable {g : GG}
attribute [local simp] and_assoc
theorem proof_Missed_bad (p : Pg) (h1 : p.lines.length ≤ 8) (h2 : p.log.length ≤ 12) (h : p.ok = false) : Meets (Tz g) f_proof_Missed [p.d] ⟨.tup [.d (ints []), .d (int 2)], []⟩ := by
  refine meets_proof_Missed ?_
  unfold vc_proof_Missed
  simp [Pg.d, lns, ents]
  refine CALL.val [p.d] _ rfl (proof_isPage_meets p (by omega) (by omega)) (.inl rfl) ?_
  simp [vc_proof_Missed_k0, h, ints]
end Go.Vc
