/- A part of the proof: general laws of a reading of the model by abstract data, or contracts of the functions that the law calls. -/
import Derived.Test.YtonajancjagefaaGreatVc38
import Derived.Test.YtonajancjagefaaGreatVc39
set_option maxRecDepth 100000
namespace Go.Vc
open Go Go.Proofs
variable {g : GG}
attribute [local simp] and_assoc
def nowL (p : Pg) : List Int := (stN p p.log.length).now
theorem nowL_len {p : Pg} (h : p.ok = true) : (nowL p).length = p.lines.length := (stN_ok h _ (Nat.le_refl _)).1.now
def withE (p : Pg) (e : Nt) : Pg := ⟨p.people, p.lines, p.log ++ [e]⟩
theorem ref09_With_meets (p : Pg) (e : Nt) (hl : p.log.length ≤ 100) : Meets (Tz g) f_ref09_With [p.d, e.d] ⟨.d (withE p e).d, []⟩ := by
  refine meets_ref09_With ?_
  unfold vc_ref09_With
  simp [Pg.d, lns, ents, Nt.d, ints]
  exact ⟨by omega, by omega, rfl, by simp [withE, Nt.d, ints]⟩
theorem readN_withE (p : Pg) (e : Nt) (i : Nat) (a b : Int) : ∀ (n c : Nat) (s : Ps), readN (withE p e) i a b n c s = readN p i a b n c s
  | 0, _, _ => rfl
  | n + 1, c, s => by
    simp only [readN]
    exact readN_withE p e i a b n (c + 1) _
theorem stepS_withE (p : Pg) (e : Nt) (i : Nat) (x : Nt) (s : Ps) : stepS (withE p e) i x s = stepS p i x s := by
  obtain ⟨k, ns⟩ := x
  rcases ns with _ | ⟨a, _ | ⟨b, _ | ⟨c, _ | ⟨d, _ | ⟨f, r⟩⟩⟩⟩⟩
  · rfl
  · rfl
  · rfl
  · rfl
  · simp only [stepS, readN_withE]
  · rfl
theorem stN_withE (p : Pg) (e : Nt) : ∀ i, i ≤ p.log.length → stN (withE p e) i = stN p i
  | 0, _ => rfl
  | i + 1, h => by
    have ih := stN_withE p e i (by omega)
    have hg : (withE p e).log[i]? = p.log[i]? := by
      simp only [withE]
      rw [List.getElem?_append_left (by omega)]
    simp only [stN, hg, ih]
    cases p.log[i]? with
    | none => rfl
    | some x => exact stepS_withE p e i x _
theorem stN_last (p : Pg) (e : Nt) : stN (withE p e) (withE p e).log.length = stepS p p.log.length e (stN p p.log.length) := by
  have hl : (withE p e).log.length = p.log.length + 1 := by simp [withE]
  have hg : (withE p e).log[p.log.length]? = some e := by simp [withE]
  rw [hl]
  simp only [stN, hg, stN_withE p e p.log.length (Nat.le_refl _), stepS_withE]
theorem withE_ok {p : Pg} {e : Nt} (h : p.ok = true) (he : entB p e = true) (hl : p.log.length < 10) : (withE p e).ok = true := by
  simp only [Pg.ok, Bool.and_eq_true, decide_eq_true_eq] at h
  obtain ⟨h1, h2, h3, h4, h5⟩ := h
  have e1 : ∀ l, lnB (withE p e) l = lnB p l := fun l => rfl
  have e2 : ∀ x, entB (withE p e) x = entB p x := fun x => rfl
  simp only [Pg.ok, Bool.and_eq_true, decide_eq_true_eq]
  refine ⟨h1, h2, by simp [withE]; omega, h4, ?_⟩
  simp only [withE, List.any_append, List.any_cons, List.any_nil]
  have h5' : (p.log.any fun x => !entB p x) = false := by simpa using h5
  have e3 : (p.log.any fun x => !entB ⟨p.people, p.lines, p.log ++ [e]⟩ x) = false := h5'
  have e4 : entB ⟨p.people, p.lines, p.log ++ [e]⟩ e = true := he
  rw [e3, e4]
  rfl
end Go.Vc

namespace Go.Vc
open Go Go.Proofs
variable {g : GG}
attribute [local simp] and_assoc
end Go.Vc
