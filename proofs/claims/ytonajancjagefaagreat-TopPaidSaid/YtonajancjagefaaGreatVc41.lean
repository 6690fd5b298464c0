/- A part of the proof: general laws of a reading of the model by abstract data, or contracts of the functions that the law calls. -/
import Derived.Test.YtonajancjagefaaGreatVc40
set_option maxRecDepth 100000
namespace Go.Vc
open Go Go.Proofs
variable {g : GG}
attribute [local simp] and_assoc
def chgB (e : Nt) (line : Int) : Bool := match e.nums with
  | [a] => decide (a = line)
  | [_, b, _] => decide (b = line)
  | _ => false
theorem getD_set_eq {l : List Int} {a : Nat} {v : Int} (h : a < l.length) : (l.set a v).getD a 0 = v := by
  rw [List.getD_eq_getElem?_getD, List.getElem?_set_self h]; rfl
theorem getD_set_ne {l : List Int} {a b : Nat} {v : Int} (h : a ≠ b) : (l.set a v).getD b 0 = l.getD b 0 := by
  rw [List.getD_eq_getElem?_getD, List.getD_eq_getElem?_getD, List.getElem?_set_ne h]
theorem readN_now (p : Pg) (i : Nat) (a b : Int) : ∀ (n c : Nat) (s : Ps), (readN p i a b n c s).now = s.now ∧ (readN p i a b n c s).setters = s.setters ∧ (readN p i a b n c s).changed = s.changed
  | 0, _, _ => ⟨rfl, rfl, rfl⟩
  | n + 1, c, s => by
    simp only [readN]
    obtain ⟨h1, h2, h3⟩ := readN_now p i a b n (c + 1) (readOne p i a b c s)
    exact ⟨h1, h2, h3⟩
theorem step_line {p : Pg} {s : Ps} {e : Nt} (i line : Nat) (hs : PsOK p s) (he : entB p e = true) (hl : line < p.lines.length) :
    (stepS p i e s).now.getD line 0 = (match chgB e line with | false => s.now.getD line 0 | true => (match e.nums with | [_, _, c] => c | _ => (s.now.getD line 0).tdiv 10)) ∧
    (stepS p i e s).setters.getD line 0 = (match chgB e line with | false => s.setters.getD line 0 | true => (match e.nums with | [a, _, _] => a | _ => s.setters.getD line 0)) ∧
    (stepS p i e s).changed.getD line 0 = (match chgB e line with | false => s.changed.getD line 0 | true => (i : Int)) := by
  rcases entB_cases he with ⟨a, rfl, ha⟩ | ⟨a, b, c, rfl, ha, hb, hc⟩ | ⟨a, b, c, n, rfl, ha, hb, hab, hcn, hn⟩
  · simp only [stepS, changeS, chgB, Int.toNat_natCast]
    by_cases h : a = line
    · subst h
      rw [getD_set_eq (by rw [hs.now]; exact ha), getD_set_eq (by rw [hs.changed]; exact ha)]
      simp
    · have h2 : ¬ (a : Int) = line := by omega
      rw [getD_set_ne h, getD_set_ne h, decide_eq_false h2]
      exact ⟨rfl, rfl, rfl⟩
  · simp only [stepS, changeS, chgB, Int.toNat_natCast]
    by_cases h : b = line
    · subst h
      rw [getD_set_eq (by rw [hs.now]; exact hb), getD_set_eq (by rw [hs.setters]; exact hb), getD_set_eq (by rw [hs.changed]; exact hb)]
      simp
    · have h2 : ¬ (b : Int) = line := by omega
      rw [getD_set_ne h, getD_set_ne h, getD_set_ne h, decide_eq_false h2]
      exact ⟨rfl, rfl, rfl⟩
  · simp only [stepS, chgB]
    obtain ⟨h1, h2, h3⟩ := readN_now p i a b ((c : Int) + n - 1 - c + 1).toNat (c : Int).toNat s
    rw [h1, h2, h3]
    exact ⟨rfl, rfl, rfl⟩
end Go.Vc

namespace Go.Vc
open Go Go.Proofs
variable {g : GG}
attribute [local simp] and_assoc
end Go.Vc
