/- A part of the proof: contracts of the functions that the law calls. -/
import Derived.Test.YtknbgegcnfdnkaaGreatDoorDh
import Derived.Test.YtknbgegcnfdnkaaGreatDoorVc27
set_option maxRecDepth 100000
namespace Go.Vc
open Go Go.RowKit Go.ChangeShapes Go.WideShapes Go.ChangeAt Go.Proofs
theorem sh_lists {k : Nat} {ds : List D} (h : Sh Tryz.prog (k + 3) 58 ds) : ∃ l : List (List Int), ds = [listsD l] ∧ l.length ≤ maxLen := by
  unfold Sh at h
  have hu : Tryz.prog.underlying 58 = some (.slice 25) := by kernel_rfl
  rw [hu] at h
  obtain ⟨xs, rfl, hl, hx⟩ := h
  have ha : isAg Tryz.prog 25 = false := by kernel_rfl
  obtain ⟨l, rfl⟩ := sh_list ints (fun x => ∃ es, x = mkD (isAg Tryz.prog 25) es ∧ Sh Tryz.prog (k + 2) 25 es) (fun x ⟨es, h1, h2⟩ => by
    rw [ha] at h1
    obtain ⟨m, rfl, _, _⟩ := sh_ints h2
    exact ⟨m, h1⟩) xs hx
  exact ⟨l, rfl, by simpa using hl⟩
theorem open_lists {W : World} {H : Type} {enc : TypeId × Value → H} {base : Nat} {v : Value} {d : DataW H} {ps : List MemPlace} (hval : Value.okWide Tryz.prog W .any base 58 v) (h : DataW.Trod enc Tryz.prog W 0 (fun _ => true) true 58 v d ps) : ∃ l : List (List Int), DRel W (fun b => b < W.heap.size) (listsD l) v := by
  obtain ⟨ds, h1, h2⟩ := rd_value (k := 6) (by kernel_rfl) hval h
  obtain ⟨l, rfl, _⟩ := sh_lists (k := 3) h1
  have ha : isAg Tryz.prog 58 = false := by kernel_rfl
  rw [ha] at h2
  exact ⟨l, h2⟩
end Go.Vc
