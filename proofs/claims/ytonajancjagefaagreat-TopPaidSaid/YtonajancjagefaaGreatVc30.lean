/- A part of the proof: general laws of a reading of the model by abstract data, or contracts of the functions that the law calls. -/
import Derived.Test.YtonajancjagefaaGreatVc28
import Derived.Test.YtonajancjagefaaGreatVc14
import Derived.Test.YtonajancjagefaaGreatVc29
set_option maxRecDepth 100000
namespace Go.Vc
open Go Go.Proofs Go.RowKit
variable {g : GG}
def cloneX (T : TypeId) (sz : Nat) : List AV → Option (Out × List PB)
  | [.d (.list xs)] => match (xs.all fun y => Nat.beq y.cells.length sz) && Nat.ble xs.length 1000000 with
    | true => some (.ret (.own 0 0), [.upd ⟨0, T, .lst xs⟩])
    | false => none
  | _ => none
theorem cloneX_eq {T : TypeId} {sz : Nat} {args : List AV} {out : Out} {post : List PB} (h : cloneX T sz args = some (out, post)) : ∃ xs, args = [.d (.list xs)] ∧ (∀ y, y ∈ xs → y.cells.length = sz) ∧ xs.length ≤ 1000000 ∧ out = .ret (.own 0 0) ∧ post = [.upd ⟨0, T, .lst xs⟩] := by
  unfold cloneX at h
  split at h
  · rename_i xs
    split at h
    · rename_i hc
      simp only [Bool.and_eq_true] at hc
      injection h with h
      injection h with h1 h2
      exact ⟨xs, rfl, fun y hy => Nat.eq_of_beq_eq_true (List.all_eq_true.1 hc.1 y hy), Nat.le_of_ble_eq_true hc.2, h1.symm, h2.symm⟩
    · cases h
  · cases h
theorem clone_int_X (args : List AV) (out : Out) (post : List PB) (h : cloneX T_int 1 args = some (out, post)) : MeetsH (Tz g) f_slices_Clone_l_int_int [] args out post := by
  obtain ⟨xs, rfl, h1, h2, rfl, rfl⟩ := cloneX_eq h
  refine meetsH_slices_Clone_l_int_int rfl ?_
  unfold vc_slices_Clone_l_int_int
  cases xs with
  | nil => simp
  | cons n r =>
    simp at h1 h2
    simp [h1.1]
    exact ⟨h1.2, by omega⟩
end Go.Vc
