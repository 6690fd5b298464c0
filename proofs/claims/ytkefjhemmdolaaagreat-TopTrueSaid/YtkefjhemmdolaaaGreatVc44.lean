/- A part of the proof: general laws of a reading of the model by abstract data, or contracts of the functions that the law calls. -/
import Derived.Test.YtkefjhemmdolaaaGreatVc43
import Derived.Test.YtkefjhemmdolaaaGreatVc29
import Derived.Test.YtkefjhemmdolaaaGreatVc29
import Derived.Test.YtkefjhemmdolaaaGreatVc32
set_option maxRecDepth 100000
namespace Go.Vc
open Go Go.Proofs
variable {g : GG}
attribute [local simp] and_assoc
theorem ar_facts {n : Nat} {k : List Int} (hK : KeptOK n k) {row : Int} (h0 : 0 ≤ row) (h1 : row ≤ (n : Int) - 1) (h : (arP k row).1 < (arP k row).2) : 0 ≤ (arP k row).1 ∧ (arP k row).2 ≤ (n : Int) - 1 ∧ (arP k row).1 < row ∧ row < (arP k row).2 := by
  unfold arP at h ⊢
  by_cases hm : k[lbI k row]? = some row
  · rw [if_pos hm] at h; simp at h
  · rw [if_neg hm]
    obtain ⟨q1, q2, a, b, ha, hb, q3, q4⟩ := around_facts hK h0 h1 hm
    simp only [List.getD_eq_getElem?_getD, ha, hb, Option.getD_some]
    exact ⟨(hK.bnd ha).1, (hK.bnd hb).2, q3, q4⟩
def tabB (t : Tb) (k : List Int) (id : Nat) : ABlk := ⟨0, T_step_table, .box [.d (spans t.vals), .d (int t.rule), .d (int t.off), .d (ints k), .mapv id]⟩
end Go.Vc

namespace Go.Vc
open Go Go.Proofs
variable {g : GG}
attribute [local simp] and_assoc
theorem TableD (p : Plan) (t : List Int) (h1 : p.ok = true) (h2 : within p.starts t = true) :
    Meets (Tz g) f_differ_Table [p.d, ints t] ⟨.tup [.d (ints (heads t p.rows.toNat)), .d (int 0)], []⟩ := by
  obtain ⟨a1, a2, a3, a4, a5⟩ := Plan.ok_len h1
  have hlen := within_length h2
  refine meets_differ_Table ?_
  unfold vc_differ_Table
  simp [Plan.d, spans]
  refine CALL.val _ _ rfl (differ_isPlan_meets p (by omega)) (.inl rfl) ?_
  simp [h1]
  refine CALL.val _ _ rfl (differ_isTruth_meets p t (by omega) (by omega)) (.inl rfl) ?_
  simp [h2, ints]
  refine CALL.val [tabD p t] _ rfl (Meets.frz (differ_values_meets p t p.rows.toNat (by omega) (by omega) (by omega) (by omega) (fun x hx => by have := within_bound a5 h2 x hx; omega))) (.inl rfl) ?_
  simp [ints]
end Go.Vc
