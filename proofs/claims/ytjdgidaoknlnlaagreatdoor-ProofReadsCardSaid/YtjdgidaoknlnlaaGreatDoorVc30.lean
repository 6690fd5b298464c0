/- A part of the proof: general laws of a reading of the model by abstract data, or contracts of the functions that the law calls. -/
import Derived.Test.YtjdgidaoknlnlaaGreatDoorTie
import Derived.Test.YtjdgidaoknlnlaaGreatDoorCards
import Derived.Test.YtjdgidaoknlnlaaGreatDoorVc20
import Derived.Test.YtjdgidaoknlnlaaGreatDoorVc26
import Derived.Test.YtjdgidaoknlnlaaGreatDoorVc28
set_option maxRecDepth 100000
namespace Go.Vc
open Go Go.RowKit Go.ChangeShapes Go.WideShapes Go.ChangeAt Go.Proofs
abbrev laidL : List (String × DataW Unit) := YtjdgidaoknlnlaaGreatDoor.Rows.proofErrorsRow.laid
def gW (W : World) : GG := ⟨(W.heap.size, fun w => Below W.heap.size W w), fun _ _ h h' => h.trans h'⟩
theorem gok {W : World} (hL : laidMetH Tryz.prog laidL W) (hsh : W.ShapedOpen Tryz.prog) : GOK (gW W) := by
  rw [MakeChecks.laidMetH_plain _ _ _ (by kernel_rfl)] at hL
  have htab : Lib.TabIs Tryz.prog W "internal/strconv.uint64pow10" .u64 Lib.pow10Tab := by
    obtain ⟨ps, h, _, _⟩ := hL
    obtain ⟨_, h⟩ := laidVars_tail h
    obtain ⟨_, h⟩ := laidVars_tail h
    have e : (YtjdgidaoknlnlaaGreatDoor.Rows.laid_internal_strconv_uint64pow10 : DataW Unit) = Lib.tabData .u64 Lib.pow10Tab := by kernel_rfl
    rw [e] at h
    exact tabIs_of_vars (g := 0) (t := 223) (e := 209) (n := 20) (by kernel_rfl) (by kernel_rfl) (by kernel_rfl) (by kernel_rfl) (by kernel_rfl) (by kernel_rfl) h
  obtain ⟨m, hm⟩ := cell_of_shapedOpen_int (g := 1) (t := 3) (zero := #[.int .i64 0]) (k := .i64) hsh (of_decide_eq_true (by kernel_rfl)) (by kernel_rfl) (by kernel_rfl) (by kernel_rfl) (by kernel_rfl) (by kernel_rfl)
  have h0 : 1 < W.heap.size := by
    unfold World.cell? at hm
    split at hm
    · rename_i c t fr hh
      exact (Array.getElem?_eq_some_iff.1 hh).1
    · cases hm
  refine ⟨fun w hw => ⟨m, ?_⟩, fun w hw => Lib.tabBelow_of_tabIs htab w hw⟩
  have hb := hw.block 1 h0
  simp only [World.cell?] at hm ⊢
  rw [hb]; exact hm
theorem sh_int {k : Nat} {ds : List D} (h : Sh Tryz.prog (k + 1) 3 ds) : ∃ n, ds = [int n] ∧ -9223372036854775808 ≤ n ∧ n ≤ 9223372036854775807 := by
  unfold Sh at h
  rw [Tryz.underlying3] at h
  obtain ⟨n, h1, h2⟩ := h
  refine ⟨n, h1, ?_⟩
  simp only [Lit.wf, Bool.and_eq_true, decide_eq_true_eq] at h2
  have e1 : IntKind.min .i64 = -9223372036854775808 := by decide
  have e2 : IntKind.max .i64 = 9223372036854775807 := by decide
  rw [e1, e2] at h2
  exact h2
section
variable {W : World} {H : Type} {enc : TypeId × Value → H} {base : Nat}
end
theorem own : ownKnob Tryz.prog.godebug = none := by kernel_rfl
theorem laidOut : laidOutB Tryz.prog = true := by kernel_rfl
end Go.Vc
