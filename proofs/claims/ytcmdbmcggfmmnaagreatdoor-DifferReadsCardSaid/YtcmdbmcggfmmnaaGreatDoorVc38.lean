/- A part of the proof: general laws of a reading of the model by abstract data, or contracts of the functions that the law calls. -/
import Derived.Test.YtcmdbmcggfmmnaaGreatDoorVc28
set_option maxRecDepth 100000
namespace Go.Vc
open Go Go.RowKit Go.ChangeShapes Go.WideShapes Go.ChangeAt Go.Proofs
theorem open_text {W : World} {H : Type} {enc : TypeId × Value → H} {base : Nat} {v : Value} {d : DataW H} {ps : List MemPlace} (hval : Value.okWide Tryz.prog W .any base 9 v) (h : DataW.Trod enc Tryz.prog W 0 (fun _ => true) true 9 v d ps) : ∃ s : List UInt8, DRel W (fun b => b < W.heap.size) (.str s) v ∧ s.length ≤ maxLen := by
  obtain ⟨ds, h1, h2⟩ := rd_value (k := 6) (by kernel_rfl) hval h
  have ha : isAg Tryz.prog 9 = false := by kernel_rfl
  rw [ha] at h2
  unfold Sh at h1
  have hu : Tryz.prog.underlying 9 = some .string := by kernel_rfl
  rw [hu] at h1
  obtain ⟨s, rfl, hl⟩ := h1
  exact ⟨s, h2, hl⟩
end Go.Vc
