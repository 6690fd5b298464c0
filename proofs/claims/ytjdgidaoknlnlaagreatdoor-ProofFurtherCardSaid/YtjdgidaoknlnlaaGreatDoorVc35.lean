/- A part of the proof: general laws of a reading of the model by abstract data, or contracts of the functions that the law calls. -/
import Derived.Test.YtjdgidaoknlnlaaGreatDoorVc33
import Derived.Test.YtjdgidaoknlnlaaGreatDoorVc34
set_option maxRecDepth 100000
namespace Go.Vc
open Go Go.Proofs
variable {g : GG}
attribute [local simp] and_assoc
def withE (p : Pg) (e : Nt) : Pg := ⟨p.people, p.lines, p.log ++ [e]⟩
theorem ref09_With_meets (p : Pg) (e : Nt) (hl : p.log.length ≤ 100) : Meets (Tz g) f_ref09_With [p.d, e.d] ⟨.d (withE p e).d, []⟩ := by
  refine meets_ref09_With ?_
  unfold vc_ref09_With
  simp [Pg.d, lns, ents, Nt.d, ints]
  exact ⟨by omega, by omega, rfl, by simp [withE, Nt.d, ints]⟩
theorem known_call (hk : MeetsH (Tz g) f_law09_known [] [] (.ret (.d (.bool true))) []) {new : Nat} {h : Heap} {K KP : List Nat → AV → Heap → Prop} (h3 : K [] (.d (.bool true)) h) : CALL (Tz g) f_law09_known [] new h K KP :=
  CALL.val [] _ rfl hk (.inl rfl) h3
end Go.Vc
