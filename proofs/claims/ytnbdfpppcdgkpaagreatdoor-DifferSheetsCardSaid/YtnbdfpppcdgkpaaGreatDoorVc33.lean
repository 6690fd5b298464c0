/- A part of the proof: general laws of a reading of the model by abstract data, or contracts of the functions that the law calls. -/
import Derived.Test.YtnbdfpppcdgkpaaGreatDoorTie
import Derived.Test.YtnbdfpppcdgkpaaGreatDoorCards
import Derived.Test.YtnbdfpppcdgkpaaGreatDoorVc24
import Derived.Test.YtnbdfpppcdgkpaaGreatDoorVc30
import Derived.Test.YtnbdfpppcdgkpaaGreatDoorVc32
set_option maxRecDepth 100000
namespace Go.Vc
open Go Go.RowKit Go.ChangeShapes Go.WideShapes Go.ChangeAt Go.Proofs
abbrev laidL : List (String × DataW Unit) := YtnbdfpppcdgkpaaGreatDoor.Rows.differSheetsRow.laid
def gW (W : World) : GG := ⟨(W.heap.size, fun w => Below W.heap.size W w), fun _ _ h h' => h.trans h'⟩
theorem gok {W : World} (hL : laidMetH Tryz.prog laidL W) (hsh : W.ShapedOpen Tryz.prog) : GOK (gW W) := by
  rw [MakeChecks.laidMetH_plain _ _ _ (by kernel_rfl)] at hL
  have htab : Lib.TabIs Tryz.prog W "internal/strconv.uint64pow10" .u64 Lib.pow10Tab := by
    obtain ⟨ps, h, _, _⟩ := hL
    obtain ⟨_, h⟩ := laidVars_tail h
    obtain ⟨_, h⟩ := laidVars_tail h
    have e : (YtnbdfpppcdgkpaaGreatDoor.Rows.laid_internal_strconv_uint64pow10 : DataW Unit) = Lib.tabData .u64 Lib.pow10Tab := by kernel_rfl
    rw [e] at h
    exact tabIs_of_vars (g := 3) (t := 175) (e := 159) (n := 20) (by kernel_rfl) (by kernel_rfl) (by kernel_rfl) (by kernel_rfl) (by kernel_rfl) (by kernel_rfl) h
  obtain ⟨m, hm⟩ := cell_of_shapedOpen_int (g := 0) (t := 3) (zero := #[.int .i64 0]) (k := .i64) hsh (of_decide_eq_true (by kernel_rfl)) (by kernel_rfl) (by kernel_rfl) (by kernel_rfl) (by kernel_rfl) (by kernel_rfl)
  have h0 : 0 < W.heap.size := by
    unfold World.cell? at hm
    split at hm
    · rename_i c t fr hh
      exact (Array.getElem?_eq_some_iff.1 hh).1
    · cases hm
  refine ⟨fun w hw => ⟨m, ?_⟩, fun w hw => Lib.tabBelow_of_tabIs htab w hw⟩
  have hb := hw.block 0 h0
  simp only [World.cell?] at hm ⊢
  rw [hb]; exact hm
theorem sh_int {k : Nat} {ds : List D} (h : Sh Tryz.prog (k + 1) 3 ds) : ∃ n, ds = [int n] ∧ -9223372036854775808 ≤ n ∧ n ≤ 9223372036854775807 := by
  unfold Sh at h
  rw [Tryz.underlying3] at h
  obtain ⟨n, h1, h2⟩ := h
  refine ⟨n, h1, ?_⟩
  simp only [Lit.wf, Bool.and_eq_true, decide_eq_true_eq] at h2
  have e1 : IntKind.min .i64 = -9223372036854775808 := by decide
  have e2 : IntKind.max .i64 = 9223372036854775807 := by decide
  rw [e1, e2] at h2
  exact h2
theorem sh_span {k : Nat} {ds : List D} (h : Sh Tryz.prog (k + 2) 60 ds) : ∃ s : Sp, .agg ds = s.d := by
  unfold Sh at h
  rw [Tryz.underlying60] at h
  obtain ⟨d1, _, rfl, h1, d2, _, rfl, h2, rfl⟩ := h
  obtain ⟨a, rfl, _⟩ := sh_int h1
  obtain ⟨b, rfl, _⟩ := sh_int h2
  exact ⟨⟨a, b⟩, rfl⟩
theorem sh_list {α : Type} (f : α → D) (P : D → Prop) (hP : ∀ x, P x → ∃ a, x = f a) : ∀ xs : List D, (∀ x, x ∈ xs → P x) → ∃ l : List α, xs = l.map f := by
  intro xs
  induction xs with
  | nil => intro _; exact ⟨[], rfl⟩
  | cons x r ih =>
    intro h
    obtain ⟨a, rfl⟩ := hP x (h x (by simp))
    obtain ⟨l, rfl⟩ := ih (fun y hy => h y (by simp [hy]))
    exact ⟨a :: l, rfl⟩
theorem sh_ints {k : Nat} {ds : List D} (h : Sh Tryz.prog (k + 2) 25 ds) : ∃ l : List Int, ds = [ints l] ∧ l.length ≤ maxLen ∧ ∀ n, n ∈ l → -9223372036854775808 ≤ n ∧ n ≤ 9223372036854775807 := by
  unfold Sh at h
  rw [Tryz.underlying25] at h
  obtain ⟨xs, rfl, hl, hx⟩ := h
  have ha : isAg Tryz.prog 3 = false := by kernel_rfl
  obtain ⟨l, rfl⟩ := sh_list (fun n : { n : Int // -9223372036854775808 ≤ n ∧ n ≤ 9223372036854775807 } => int n.1) (fun x => ∃ es, x = mkD (isAg Tryz.prog 3) es ∧ Sh Tryz.prog (k + 1) 3 es) (fun x ⟨es, h1, h2⟩ => by
    obtain ⟨n, rfl, hn⟩ := sh_int h2
    rw [ha] at h1
    exact ⟨⟨n, hn⟩, h1⟩) xs hx
  refine ⟨l.map (·.1), by simp [ints], by simpa using hl, fun n hn => ?_⟩
  obtain ⟨a, _, rfl⟩ := List.mem_map.1 hn
  exact a.2
theorem sh_spans {k : Nat} {ds : List D} (h : Sh Tryz.prog (k + 3) 22 ds) : ∃ l : List Sp, ds = [spans l] ∧ l.length ≤ maxLen := by
  unfold Sh at h
  have hu : Tryz.prog.underlying 22 = some (.slice 60) := by kernel_rfl
  rw [hu] at h
  obtain ⟨xs, rfl, hl, hx⟩ := h
  have ha : isAg Tryz.prog 60 = true := by kernel_rfl
  obtain ⟨l, rfl⟩ := sh_list Sp.d (fun x => ∃ es, x = mkD (isAg Tryz.prog 60) es ∧ Sh Tryz.prog (k + 2) 60 es) (fun x ⟨es, h1, h2⟩ => by
    rw [ha] at h1
    obtain ⟨s, hs⟩ := sh_span h2
    exact ⟨s, by rw [h1]; exact hs⟩) xs hx
  exact ⟨l, rfl, by simpa using hl⟩
theorem sh_plan {ds : List D} (h : Sh Tryz.prog 6 24 ds) : ∃ p : Plan, mkD (isAg Tryz.prog 24) ds = p.d ∧ p.starts.length ≤ maxLen := by
  have ha : isAg Tryz.prog 24 = true := by kernel_rfl
  rw [ha]
  unfold Sh at h
  rw [Tryz.underlying24] at h
  obtain ⟨d1, _, rfl, h1, d2, _, rfl, h2, d3, _, rfl, h3, rfl⟩ := h
  obtain ⟨l, rfl, hl⟩ := sh_spans (k := 2) h1
  obtain ⟨a, rfl, _⟩ := sh_int h2
  obtain ⟨b, rfl, _⟩ := sh_int h3
  exact ⟨⟨l, a, b⟩, rfl, hl⟩
section
variable {W : World} {H : Type} {enc : TypeId × Value → H} {base : Nat}
theorem open_plan {v : Value} {d : DataW H} {ps : List MemPlace} (hval : Value.okWide Tryz.prog W .any base 24 v) (h : DataW.Trod enc Tryz.prog W 0 (fun _ => true) true 24 v d ps) : ∃ p : Plan, DRel W (fun b => b < W.heap.size) p.d v := by
  obtain ⟨ds, h1, h2⟩ := rd_value (k := 6) (by kernel_rfl) hval h
  obtain ⟨p, hp, _⟩ := sh_plan h1
  rw [hp] at h2
  exact ⟨p, h2⟩
theorem open_ints' {v : Value} {d : DataW H} {ps : List MemPlace} (hval : Value.okWide Tryz.prog W .any base 25 v) (h : DataW.Trod enc Tryz.prog W 0 (fun _ => true) true 25 v d ps) : ∃ l : List Int, DRel W (fun b => b < W.heap.size) (ints l) v ∧ ∀ n, n ∈ l → -9223372036854775808 ≤ n ∧ n ≤ 9223372036854775807 := by
  obtain ⟨ds, h1, h2⟩ := rd_value (k := 6) (by kernel_rfl) hval h
  obtain ⟨l, rfl, _, hl⟩ := sh_ints (k := 4) h1
  have ha : isAg Tryz.prog 25 = false := by kernel_rfl
  rw [ha] at h2
  exact ⟨l, h2, hl⟩
theorem open_int' {v : Value} {d : DataW H} {ps : List MemPlace} (hval : Value.okWide Tryz.prog W .any base 3 v) (h : DataW.Trod enc Tryz.prog W 0 (fun _ => true) true 3 v d ps) : ∃ n : Int, DRel W (fun b => b < W.heap.size) (int n) v ∧ -9223372036854775808 ≤ n ∧ n ≤ 9223372036854775807 := by
  obtain ⟨ds, h1, h2⟩ := rd_value (k := 6) (by kernel_rfl) hval h
  obtain ⟨n, rfl, hn⟩ := sh_int (k := 5) h1
  have ha : isAg Tryz.prog 3 = false := by kernel_rfl
  rw [ha] at h2
  exact ⟨n, h2, hn⟩
end
theorem own : ownKnob Tryz.prog.godebug = none := by kernel_rfl
theorem laidOut : laidOutB Tryz.prog = true := by kernel_rfl
end Go.Vc
