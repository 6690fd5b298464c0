/- A part of the proof: general laws of a reading of the model by abstract data, or contracts of the functions that the law calls. -/
import Derived.Test.YtflbianfhogdjaaGreatDoorVc28
import Derived.Test.YtflbianfhogdjaaGreatDoorVc41
set_option maxRecDepth 100000
namespace Go.Vc
open Go Go.RowKit Go.ChangeShapes Go.WideShapes Go.ChangeAt Go.Proofs
theorem sh_seen {k : Nat} {ds : List D} (h : Sh Tryz.prog (k + 2) 51 ds) : ∃ s : Sn, .agg ds = s.d := by
  unfold Sh at h
  rw [Tryz.underlying51] at h
  obtain ⟨d1, _, rfl, h1, d2, _, rfl, h2, rfl⟩ := h
  obtain ⟨a, rfl, _⟩ := sh_int h1
  obtain ⟨b, rfl, _⟩ := sh_int h2
  exact ⟨⟨a, b⟩, rfl⟩
theorem sh_seens {k : Nat} {ds : List D} (h : Sh Tryz.prog (k + 3) 37 ds) : ∃ l : List Sn, ds = [seens l] ∧ l.length ≤ maxLen := by
  unfold Sh at h
  have hu : Tryz.prog.underlying 37 = some (.slice 51) := by kernel_rfl
  rw [hu] at h
  obtain ⟨xs, rfl, hl, hx⟩ := h
  have ha : isAg Tryz.prog 51 = true := by kernel_rfl
  obtain ⟨l, rfl⟩ := sh_list Sn.d (fun x => ∃ es, x = mkD (isAg Tryz.prog 51) es ∧ Sh Tryz.prog (k + 2) 51 es) (fun x ⟨es, h1, h2⟩ => by
    rw [ha] at h1
    obtain ⟨s, hs⟩ := sh_seen h2
    exact ⟨s, by rw [h1]; exact hs⟩) xs hx
  exact ⟨l, rfl, by simpa using hl⟩
theorem open_seens {W : World} {H : Type} {enc : TypeId × Value → H} {base : Nat} {v : Value} {d : DataW H} {ps : List MemPlace} (hval : Value.okWide Tryz.prog W .any base 37 v) (h : DataW.Trod enc Tryz.prog W 0 (fun _ => true) true 37 v d ps) : ∃ l : List Sn, DRel W (fun b => b < W.heap.size) (seens l) v := by
  obtain ⟨ds, h1, h2⟩ := rd_value (k := 6) (by kernel_rfl) hval h
  obtain ⟨l, rfl, _⟩ := sh_seens (k := 3) h1
  have ha : isAg Tryz.prog 37 = false := by kernel_rfl
  rw [ha] at h2
  exact ⟨l, h2⟩
end Go.Vc
