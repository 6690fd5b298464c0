/- A part of the proof: general laws of a reading of the model by abstract data, or contracts of the functions that the law calls. -/
import Derived.Test.YtonajancjagefaaGreatRows
import Derived.Test.YtonajancjagefaaGreatVc24
import Derived.Test.YtonajancjagefaaGreatVc33
set_option maxRecDepth 100000
namespace Go.Vc
open Go Go.RowKit Go.ChangeShapes Go.WideShapes Go.ChangeAt Go.Proofs
def gW (W : World) : GG := ⟨(W.heap.size, fun w => Below W.heap.size W w), fun _ _ h h' => h.trans h'⟩
theorem laid0 (P : Program) (w : World) : laidMetH P [] w ↔ True := by
  simp only [iff_true]
  exact (MakeChecks.laidMetH_plain _ _ _ rfl).mpr ⟨[], rfl, List.nodup_nil, fun _ _ h => by cases h⟩
theorem sh_int {k : Nat} {ds : List D} (h : Sh Tryz.prog (k + 1) 3 ds) : ∃ n, ds = [int n] ∧ -9223372036854775808 ≤ n ∧ n ≤ 9223372036854775807 := by
  unfold Sh at h
  rw [Tryz.underlying3] at h
  obtain ⟨n, h1, h2⟩ := h
  refine ⟨n, h1, ?_⟩
  simp only [Lit.wf, Bool.and_eq_true, decide_eq_true_eq] at h2
  have e1 : IntKind.min .i64 = -9223372036854775808 := by decide
  have e2 : IntKind.max .i64 = 9223372036854775807 := by decide
  rw [e1, e2] at h2
  exact h2
theorem sh_list {α : Type} (f : α → D) (P : D → Prop) (hP : ∀ x, P x → ∃ a, x = f a) : ∀ xs : List D, (∀ x, x ∈ xs → P x) → ∃ l : List α, xs = l.map f := by
  intro xs
  induction xs with
  | nil => intro _; exact ⟨[], rfl⟩
  | cons x r ih =>
    intro h
    obtain ⟨a, rfl⟩ := hP x (h x (by simp))
    obtain ⟨l, rfl⟩ := ih (fun y hy => h y (by simp [hy]))
    exact ⟨a :: l, rfl⟩
theorem sh_ints {k : Nat} {ds : List D} (h : Sh Tryz.prog (k + 2) 28 ds) : ∃ l : List Int, ds = [ints l] ∧ l.length ≤ maxLen ∧ ∀ n, n ∈ l → -9223372036854775808 ≤ n ∧ n ≤ 9223372036854775807 := by
  unfold Sh at h
  rw [Tryz.underlying28] at h
  obtain ⟨xs, rfl, hl, hx⟩ := h
  have ha : isAg Tryz.prog 3 = false := by kernel_rfl
  obtain ⟨l, rfl⟩ := sh_list (fun n : { n : Int // -9223372036854775808 ≤ n ∧ n ≤ 9223372036854775807 } => int n.1) (fun x => ∃ es, x = mkD (isAg Tryz.prog 3) es ∧ Sh Tryz.prog (k + 1) 3 es) (fun x ⟨es, h1, h2⟩ => by
    obtain ⟨n, rfl, hn⟩ := sh_int h2
    rw [ha] at h1
    exact ⟨⟨n, hn⟩, h1⟩) xs hx
  refine ⟨l.map (·.1), by simp [ints], by simpa using hl, fun n hn => ?_⟩
  obtain ⟨a, _, rfl⟩ := List.mem_map.1 hn
  exact a.2
theorem sh_line {k : Nat} {ds : List D} (h : Sh Tryz.prog (k + 2) 39 ds) : ∃ s : Ln, .agg ds = s.d := by
  unfold Sh at h
  rw [Tryz.underlying39] at h
  obtain ⟨d1, _, rfl, h1, d2, _, rfl, h2, d3, _, rfl, h3, rfl⟩ := h
  obtain ⟨a, rfl, _⟩ := sh_int h1
  obtain ⟨b, rfl, _⟩ := sh_int h2
  obtain ⟨c, rfl, _⟩ := sh_int h3
  exact ⟨⟨a, b, c⟩, rfl⟩
theorem sh_entry {k : Nat} {ds : List D} (h : Sh Tryz.prog (k + 3) 41 ds) : ∃ s : Nt, .agg ds = s.d := by
  unfold Sh at h
  rw [Tryz.underlying41] at h
  obtain ⟨d1, _, rfl, h1, d2, _, rfl, h2, rfl⟩ := h
  have hkind : ∃ n, d1 = [int n] := by
    unfold Sh at h1
    rw [Tryz.underlying37] at h1
    obtain ⟨n, h1, _⟩ := h1
    exact ⟨n, h1⟩
  obtain ⟨a, rfl⟩ := hkind
  obtain ⟨b, rfl, _⟩ := sh_ints (k := k) h2
  exact ⟨⟨a, b⟩, rfl⟩
theorem sh_lines {k : Nat} {ds : List D} (h : Sh Tryz.prog (k + 3) 22 ds) : ∃ l : List Ln, ds = [lns l] := by
  unfold Sh at h
  have hu : Tryz.prog.underlying 22 = some (.slice 39) := by kernel_rfl
  rw [hu] at h
  obtain ⟨xs, rfl, hl, hx⟩ := h
  have ha : isAg Tryz.prog 39 = true := by kernel_rfl
  obtain ⟨l, rfl⟩ := sh_list Ln.d (fun x => ∃ es, x = mkD (isAg Tryz.prog 39) es ∧ Sh Tryz.prog (k + 2) 39 es) (fun x ⟨es, h1, h2⟩ => by
    rw [ha] at h1
    obtain ⟨s, hs⟩ := sh_line h2
    exact ⟨s, by rw [h1]; exact hs⟩) xs hx
  exact ⟨l, rfl⟩
theorem sh_entries {k : Nat} {ds : List D} (h : Sh Tryz.prog (k + 4) 23 ds) : ∃ l : List Nt, ds = [ents l] := by
  unfold Sh at h
  have hu : Tryz.prog.underlying 23 = some (.slice 41) := by kernel_rfl
  rw [hu] at h
  obtain ⟨xs, rfl, hl, hx⟩ := h
  have ha : isAg Tryz.prog 41 = true := by kernel_rfl
  obtain ⟨l, rfl⟩ := sh_list Nt.d (fun x => ∃ es, x = mkD (isAg Tryz.prog 41) es ∧ Sh Tryz.prog (k + 3) 41 es) (fun x ⟨es, h1, h2⟩ => by
    rw [ha] at h1
    obtain ⟨s, hs⟩ := sh_entry h2
    exact ⟨s, by rw [h1]; exact hs⟩) xs hx
  exact ⟨l, rfl⟩
theorem sh_page {ds : List D} (h : Sh Tryz.prog 6 25 ds) : ∃ p : Pg, mkD (isAg Tryz.prog 25) ds = p.d := by
  have ha : isAg Tryz.prog 25 = true := by kernel_rfl
  rw [ha]
  unfold Sh at h
  rw [Tryz.underlying25] at h
  obtain ⟨d1, _, rfl, h1, d2, _, rfl, h2, d3, _, rfl, h3, rfl⟩ := h
  obtain ⟨a, rfl, _⟩ := sh_int h1
  obtain ⟨l, rfl⟩ := sh_lines (k := 2) h2
  obtain ⟨b, rfl⟩ := sh_entries (k := 1) h3
  exact ⟨⟨a, l, b⟩, rfl⟩
section
variable {W : World} {H : Type} {enc : TypeId × Value → H} {base : Nat}
theorem open_page {v : Value} {d : DataW H} {ps : List MemPlace} (hval : Value.okWide Tryz.prog W .any base 25 v) (h : DataW.Trod enc Tryz.prog W 0 (fun _ => true) true 25 v d ps) : ∃ p : Pg, DRel W (fun b => b < W.heap.size) p.d v := by
  obtain ⟨ds, h1, h2⟩ := rd_value (k := 6) (by kernel_rfl) hval h
  obtain ⟨p, hp⟩ := sh_page h1
  rw [hp] at h2
  exact ⟨p, h2⟩
theorem open_int' {v : Value} {d : DataW H} {ps : List MemPlace} (hval : Value.okWide Tryz.prog W .any base 3 v) (h : DataW.Trod enc Tryz.prog W 0 (fun _ => true) true 3 v d ps) : ∃ n : Int, DRel W (fun b => b < W.heap.size) (int n) v ∧ -9223372036854775808 ≤ n ∧ n ≤ 9223372036854775807 := by
  obtain ⟨ds, h1, h2⟩ := rd_value (k := 6) (by kernel_rfl) hval h
  obtain ⟨n, rfl, hn⟩ := sh_int (k := 5) h1
  have ha : isAg Tryz.prog 3 = false := by kernel_rfl
  rw [ha] at h2
  exact ⟨n, h2, hn⟩
end
theorem own : ownKnob Tryz.prog.godebug = none := by kernel_rfl
theorem laidOut : laidOutB Tryz.prog = true := by kernel_rfl
end Go.Vc
