/- A part of the proof: general laws of a reading of the model by abstract data, or contracts of the functions that the law calls. -/
import Derived.Test.YtkefjhemmdolaaaGreatRows
import Derived.Test.YtkefjhemmdolaaaGreatVc20
import Derived.Test.YtkefjhemmdolaaaGreatVc29
set_option maxRecDepth 100000
namespace Go.Vc
open Go Go.RowKit Go.ChangeShapes Go.WideShapes Go.ChangeAt Go.Proofs
def gW (W : World) : GG := ⟨(W.heap.size, fun w => Below W.heap.size W w), fun _ _ h h' => h.trans h'⟩
theorem laid0 (P : Program) (w : World) : laidMetH P [] w ↔ True := by
  simp only [iff_true]
  exact (MakeChecks.laidMetH_plain _ _ _ rfl).mpr ⟨[], rfl, List.nodup_nil, fun _ _ h => by cases h⟩
theorem sh_int {k : Nat} {ds : List D} (h : Sh Tryz.prog (k + 1) 3 ds) : ∃ n, ds = [int n] ∧ -9223372036854775808 ≤ n ∧ n ≤ 9223372036854775807 := by
  unfold Sh at h
  rw [Tryz.underlying3] at h
  obtain ⟨n, h1, h2⟩ := h
  refine ⟨n, h1, ?_⟩
  simp only [Lit.wf, Bool.and_eq_true, decide_eq_true_eq] at h2
  have e1 : IntKind.min .i64 = -9223372036854775808 := by decide
  have e2 : IntKind.max .i64 = 9223372036854775807 := by decide
  rw [e1, e2] at h2
  exact h2
theorem sh_list {α : Type} (f : α → D) (P : D → Prop) (hP : ∀ x, P x → ∃ a, x = f a) : ∀ xs : List D, (∀ x, x ∈ xs → P x) → ∃ l : List α, xs = l.map f := by
  intro xs
  induction xs with
  | nil => intro _; exact ⟨[], rfl⟩
  | cons x r ih =>
    intro h
    obtain ⟨a, rfl⟩ := hP x (h x (by simp))
    obtain ⟨l, rfl⟩ := ih (fun y hy => h y (by simp [hy]))
    exact ⟨a :: l, rfl⟩
theorem sh_ints {k : Nat} {ds : List D} (h : Sh Tryz.prog (k + 2) 29 ds) : ∃ l : List Int, ds = [ints l] ∧ l.length ≤ maxLen ∧ ∀ n, n ∈ l → -9223372036854775808 ≤ n ∧ n ≤ 9223372036854775807 := by
  unfold Sh at h
  rw [Tryz.underlying29] at h
  obtain ⟨xs, rfl, hl, hx⟩ := h
  have ha : isAg Tryz.prog 3 = false := by kernel_rfl
  obtain ⟨l, rfl⟩ := sh_list (fun n : { n : Int // -9223372036854775808 ≤ n ∧ n ≤ 9223372036854775807 } => int n.1) (fun x => ∃ es, x = mkD (isAg Tryz.prog 3) es ∧ Sh Tryz.prog (k + 1) 3 es) (fun x ⟨es, h1, h2⟩ => by
    obtain ⟨n, rfl, hn⟩ := sh_int h2
    rw [ha] at h1
    exact ⟨⟨n, hn⟩, h1⟩) xs hx
  refine ⟨l.map (·.1), by simp [ints], by simpa using hl, fun n hn => ?_⟩
  obtain ⟨a, _, rfl⟩ := List.mem_map.1 hn
  exact a.2
section
variable {W : World} {H : Type} {enc : TypeId × Value → H} {base : Nat}
theorem open_ints' {v : Value} {d : DataW H} {ps : List MemPlace} (hval : Value.okWide Tryz.prog W .any base 29 v) (h : DataW.Trod enc Tryz.prog W 0 (fun _ => true) true 29 v d ps) : ∃ l : List Int, DRel W (fun b => b < W.heap.size) (ints l) v ∧ ∀ n, n ∈ l → -9223372036854775808 ≤ n ∧ n ≤ 9223372036854775807 := by
  obtain ⟨ds, h1, h2⟩ := rd_value (k := 6) (by kernel_rfl) hval h
  obtain ⟨l, rfl, _, hl⟩ := sh_ints (k := 4) h1
  have ha : isAg Tryz.prog 29 = false := by kernel_rfl
  rw [ha] at h2
  exact ⟨l, h2, hl⟩
theorem open_int' {v : Value} {d : DataW H} {ps : List MemPlace} (hval : Value.okWide Tryz.prog W .any base 3 v) (h : DataW.Trod enc Tryz.prog W 0 (fun _ => true) true 3 v d ps) : ∃ n : Int, DRel W (fun b => b < W.heap.size) (int n) v ∧ -9223372036854775808 ≤ n ∧ n ≤ 9223372036854775807 := by
  obtain ⟨ds, h1, h2⟩ := rd_value (k := 6) (by kernel_rfl) hval h
  obtain ⟨n, rfl, hn⟩ := sh_int (k := 5) h1
  have ha : isAg Tryz.prog 3 = false := by kernel_rfl
  rw [ha] at h2
  exact ⟨n, h2, hn⟩
end
theorem open_rule' {W : World} {H : Type} {enc : TypeId × Value → H} {base : Nat} {v : Value} {d : DataW H} {ps : List MemPlace} (hval : Value.okWide Tryz.prog W .any base 22 v) (h : DataW.Trod enc Tryz.prog W 0 (fun _ => true) true 22 v d ps) : ∃ n : Int, DRel W (fun b => b < W.heap.size) (int n) v ∧ -9223372036854775808 ≤ n ∧ n ≤ 9223372036854775807 := by
  obtain ⟨ds, h1, h2⟩ := rd_value (k := 6) (by kernel_rfl) hval h
  have h3 : ∃ n, ds = [int n] ∧ -9223372036854775808 ≤ n ∧ n ≤ 9223372036854775807 := by
    unfold Sh at h1
    rw [Tryz.underlying22] at h1
    obtain ⟨n, h1, h3⟩ := h1
    refine ⟨n, h1, ?_⟩
    simp only [Lit.wf, Bool.and_eq_true, decide_eq_true_eq] at h3
    have e1 : IntKind.min .i64 = -9223372036854775808 := by decide
    have e2 : IntKind.max .i64 = 9223372036854775807 := by decide
    rw [e1, e2] at h3
    exact h3
  obtain ⟨n, rfl, hn⟩ := h3
  have ha : isAg Tryz.prog 22 = false := by kernel_rfl
  rw [ha] at h2
  exact ⟨n, h2, hn⟩
theorem own : ownKnob Tryz.prog.godebug = none := by kernel_rfl
theorem laidOut : laidOutB Tryz.prog = true := by kernel_rfl
end Go.Vc
