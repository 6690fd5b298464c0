/- A part of the proof: general laws of a reading of the model by abstract data, or contracts of the functions that the law calls. -/
import Derived.Test.YtjdgidaoknlnlaaGreatDoorVc33
import Derived.Test.YtjdgidaoknlnlaaGreatDoorVc34
set_option maxRecDepth 100000
namespace Go.Vc
open Go Go.Proofs
variable {g : GG}
attribute [local simp] and_assoc
def withE (p : Pg) (e : Nt) : Pg := ⟨p.people, p.lines, p.log ++ [e]⟩
theorem ref09_With_meets (p : Pg) (e : Nt) (hl : p.log.length ≤ 100) : Meets (Tz g) f_ref09_With [p.d, e.d] ⟨.d (withE p e).d, []⟩ := by
  refine meets_ref09_With ?_
  unfold vc_ref09_With
  simp [Pg.d, lns, ents, Nt.d, ints]
  exact ⟨by omega, by omega, rfl, by simp [withE, Nt.d, ints]⟩
theorem withE_ok {p : Pg} {e : Nt} (h : p.ok = true) (he : entB p e = true) (hl : p.log.length < 10) : (withE p e).ok = true := by
  simp only [Pg.ok, Bool.and_eq_true, decide_eq_true_eq] at h
  obtain ⟨h1, h2, h3, h4, h5⟩ := h
  have e1 : ∀ l, lnB (withE p e) l = lnB p l := fun l => rfl
  have e2 : ∀ x, entB (withE p e) x = entB p x := fun x => rfl
  simp only [Pg.ok, Bool.and_eq_true, decide_eq_true_eq]
  refine ⟨h1, h2, by simp [withE]; omega, h4, ?_⟩
  simp only [withE, List.any_append, List.any_cons, List.any_nil]
  have h5' : (p.log.any fun x => !entB p x) = false := by simpa using h5
  have e3 : (p.log.any fun x => !entB ⟨p.people, p.lines, p.log ++ [e]⟩ x) = false := h5'
  have e4 : entB ⟨p.people, p.lines, p.log ++ [e]⟩ e = true := he
  rw [e3, e4]
  rfl
theorem known_call (hk : MeetsH (Tz g) f_law09_known [] [] (.ret (.d (.bool true))) []) {new : Nat} {h : Heap} {K KP : List Nat → AV → Heap → Prop} (h3 : K [] (.d (.bool true)) h) : CALL (Tz g) f_law09_known [] new h K KP :=
  CALL.val [] _ rfl hk (.inl rfl) h3
end Go.Vc
