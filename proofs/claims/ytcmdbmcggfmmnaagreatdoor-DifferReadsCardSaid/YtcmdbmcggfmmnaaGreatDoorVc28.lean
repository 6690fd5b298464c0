/- A part of the proof: general laws of a reading of the model by abstract data, or contracts of the functions that the law calls. -/
import Derived.Test.YtcmdbmcggfmmnaaGreatDoorTie
import Derived.Test.YtcmdbmcggfmmnaaGreatDoorCards
import Derived.Test.YtcmdbmcggfmmnaaGreatDoorVc20
import Derived.Test.YtcmdbmcggfmmnaaGreatDoorVc25
import Derived.Test.YtcmdbmcggfmmnaaGreatDoorVc27
set_option maxRecDepth 100000
namespace Go.Vc
open Go Go.RowKit Go.ChangeShapes Go.WideShapes Go.ChangeAt Go.Proofs
abbrev laidL : List (String × DataW Unit) := YtcmdbmcggfmmnaaGreatDoor.Rows.differReadsRow.laid
def gW (W : World) : GG := ⟨(W.heap.size, fun w => Below W.heap.size W w), fun _ _ h h' => h.trans h'⟩
theorem gok {W : World} (hL : laidMetH Tryz.prog laidL W) (hsh : W.ShapedOpen Tryz.prog) : GOK (gW W) := by
  rw [MakeChecks.laidMetH_plain _ _ _ (by kernel_rfl)] at hL
  have htab : Lib.TabIs Tryz.prog W "internal/strconv.uint64pow10" .u64 Lib.pow10Tab := by
    obtain ⟨ps, h, _, _⟩ := hL
    obtain ⟨_, h⟩ := laidVars_tail h
    obtain ⟨_, h⟩ := laidVars_tail h
    have e : (YtcmdbmcggfmmnaaGreatDoor.Rows.laid_internal_strconv_uint64pow10 : DataW Unit) = Lib.tabData .u64 Lib.pow10Tab := by kernel_rfl
    rw [e] at h
    exact tabIs_of_vars (g := 1) (t := 180) (e := 169) (n := 20) (by kernel_rfl) (by kernel_rfl) (by kernel_rfl) (by kernel_rfl) (by kernel_rfl) (by kernel_rfl) h
  obtain ⟨m, hm⟩ := cell_of_shapedOpen_int (g := 0) (t := 3) (zero := #[.int .i64 0]) (k := .i64) hsh (of_decide_eq_true (by kernel_rfl)) (by kernel_rfl) (by kernel_rfl) (by kernel_rfl) (by kernel_rfl) (by kernel_rfl)
  have h0 : 0 < W.heap.size := by
    unfold World.cell? at hm
    split at hm
    · rename_i c t fr hh
      exact (Array.getElem?_eq_some_iff.1 hh).1
    · cases hm
  refine ⟨fun w hw => ⟨m, ?_⟩, fun w hw => Lib.tabBelow_of_tabIs htab w hw⟩
  have hb := hw.block 0 h0
  simp only [World.cell?] at hm ⊢
  rw [hb]; exact hm
section
variable {W : World} {H : Type} {enc : TypeId × Value → H} {base : Nat}
end
theorem own : ownKnob Tryz.prog.godebug = none := by kernel_rfl
theorem laidOut : laidOutB Tryz.prog = true := by kernel_rfl
end Go.Vc
