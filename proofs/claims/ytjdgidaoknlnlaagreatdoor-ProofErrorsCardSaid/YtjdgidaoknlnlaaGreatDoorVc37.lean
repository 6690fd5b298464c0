/- A part of the proof: general laws of a reading of the model by abstract data, or contracts of the functions that the law calls. -/
import Derived.Test.YtjdgidaoknlnlaaGreatDoorVc36
set_option maxRecDepth 100000
namespace Go.Vc
open Go Go.Proofs
variable {g : GG}
attribute [local simp] and_assoc
def chgB (e : Nt) (line : Int) : Bool := match e.nums with
  | [a] => decide (a = line)
  | [_, b, _] => decide (b = line)
  | _ => false
theorem ref09_changes_meets (p : Pg) (e : Nt) (line : Int) (he : entB p e = true) : Meets (Tz g) f_ref09_changes [e.d, int line] ⟨.d (.bool (chgB e line)), []⟩ := by
  refine meets_ref09_changes ?_
  unfold vc_ref09_changes
  rcases entB_cases he with ⟨a, rfl, ha⟩ | ⟨a, b, c, rfl, ha, hb, hc⟩ | ⟨a, b, c, n, rfl, ha, hb, hab, hcn, hn⟩
  · simp [Nt.d, ints, vc_ref09_changes_k1, chgB]
  · simp [Nt.d, ints, vc_ref09_changes_k0, chgB]
  · simp [Nt.d, ints, vc_ref09_changes_k1, chgB]
theorem getD_set_eq {l : List Int} {a : Nat} {v : Int} (h : a < l.length) : (l.set a v).getD a 0 = v := by
  rw [List.getD_eq_getElem?_getD, List.getElem?_set_self h]; rfl
theorem getD_set_ne {l : List Int} {a b : Nat} {v : Int} (h : a ≠ b) : (l.set a v).getD b 0 = l.getD b 0 := by
  rw [List.getD_eq_getElem?_getD, List.getD_eq_getElem?_getD, List.getElem?_set_ne h]
theorem readN_now (p : Pg) (i : Nat) (a b : Int) : ∀ (n c : Nat) (s : Ps), (readN p i a b n c s).now = s.now ∧ (readN p i a b n c s).setters = s.setters ∧ (readN p i a b n c s).changed = s.changed
  | 0, _, _ => ⟨rfl, rfl, rfl⟩
  | n + 1, c, s => by
    simp only [readN]
    obtain ⟨h1, h2, h3⟩ := readN_now p i a b n (c + 1) (readOne p i a b c s)
    exact ⟨h1, h2, h3⟩
theorem step_line {p : Pg} {s : Ps} {e : Nt} (i line : Nat) (hs : PsOK p s) (he : entB p e = true) (hl : line < p.lines.length) :
    (stepS p i e s).now.getD line 0 = (match chgB e line with | false => s.now.getD line 0 | true => (match e.nums with | [_, _, c] => c | _ => (s.now.getD line 0).tdiv 10)) ∧
    (stepS p i e s).setters.getD line 0 = (match chgB e line with | false => s.setters.getD line 0 | true => (match e.nums with | [a, _, _] => a | _ => s.setters.getD line 0)) ∧
    (stepS p i e s).changed.getD line 0 = (match chgB e line with | false => s.changed.getD line 0 | true => (i : Int)) := by
  rcases entB_cases he with ⟨a, rfl, ha⟩ | ⟨a, b, c, rfl, ha, hb, hc⟩ | ⟨a, b, c, n, rfl, ha, hb, hab, hcn, hn⟩
  · simp only [stepS, changeS, chgB, Int.toNat_natCast]
    by_cases h : a = line
    · subst h
      rw [getD_set_eq (by rw [hs.now]; exact ha), getD_set_eq (by rw [hs.changed]; exact ha)]
      simp
    · have h2 : ¬ (a : Int) = line := by omega
      rw [getD_set_ne h, getD_set_ne h, decide_eq_false h2]
      exact ⟨rfl, rfl, rfl⟩
  · simp only [stepS, changeS, chgB, Int.toNat_natCast]
    by_cases h : b = line
    · subst h
      rw [getD_set_eq (by rw [hs.now]; exact hb), getD_set_eq (by rw [hs.setters]; exact hb), getD_set_eq (by rw [hs.changed]; exact hb)]
      simp
    · have h2 : ¬ (b : Int) = line := by omega
      rw [getD_set_ne h, getD_set_ne h, getD_set_ne h, decide_eq_false h2]
      exact ⟨rfl, rfl, rfl⟩
  · simp only [stepS, chgB]
    obtain ⟨h1, h2, h3⟩ := readN_now p i a b ((c : Int) + n - 1 - c + 1).toNat (c : Int).toNat s
    rw [h1, h2, h3]
    exact ⟨rfl, rfl, rfl⟩
theorem getD_now {p : Pg} (hok : p.ok = true) {i line : Nat} (hi : i ≤ p.log.length) (hl : line < p.lines.length) : -999 ≤ (stN p i).now.getD line 0 ∧ (stN p i).now.getD line 0 ≤ 999 := by
  have hs := (stN_ok hok i hi).1
  have : line < (stN p i).now.length := by rw [hs.now]; exact hl
  have h2 := hs.num _ (List.getElem_mem this)
  rw [List.getD_eq_getElem?_getD, List.getElem?_eq_getElem this]
  exact h2
theorem ref09_Number_meets (p : Pg) (line : Nat) (hok : p.ok = true) (hl : line < p.lines.length) : ∀ i, i ≤ p.log.length → Meets (Tz g) f_ref09_Number [p.d, int line, int i] ⟨.d (int ((stN p i).now.getD line 0)), []⟩
  | 0, _ => by
    refine meets_ref09_Number ?_
    unfold vc_ref09_Number
    have hg : p.lines[line]? = some p.lines[line] := List.getElem?_eq_getElem hl
    generalize p.lines[line] = l at hg
    simp [Pg.d, lns, ents, hg, Ln.d, stN, st0]
  | i + 1, hi => by
    have ih := ref09_Number_meets p line hok hl i (by omega)
    obtain ⟨a1, a2, a3, a4, a5, a6, a7⟩ := Pg.ok_len hok
    have hg : p.log[i]? = some p.log[i] := List.getElem?_eq_getElem (by omega)
    have he := a7 _ (List.getElem_mem (show i < p.log.length by omega))
    obtain ⟨b1, b2⟩ := getD_now hok (show i ≤ p.log.length by omega) hl
    have hst := (step_line i line (stN_ok hok i (by omega)).1 he hl).1
    generalize p.log[i] = e at hg he hst
    have e1 : stN p (i + 1) = stepS p i e (stN p i) := by simp only [stN, hg]
    rw [e1, hst]
    generalize (stN p i).now.getD line 0 = n at ih b1 b2
    have h0 : ¬ ((i : Int) + 1 = 0) := by omega
    refine meets_ref09_Number ?_
    unfold vc_ref09_Number
    have hC := ref09_changes_meets (g := g) p e line he
    have hw := wrap_id (n := (i : Int)) (by omega) (by omega)
    simp [Pg.d, lns, ents, h0, hw, hg, Nt.d]
    refine CALL.val [e.d, int line] _ rfl hC (.inl rfl) ?_
    cases hc : chgB e line with
    | false =>
      simp [vc_ref09_Number_k0, hw]
      refine CALL.val [p.d, int line, int i] _ rfl ih (.inl rfl) ?_
      simp
    | true =>
      rcases entB_cases he with ⟨a, rfl, ha⟩ | ⟨a, b, c, rfl, ha, hb, hc⟩ | ⟨a, b, c, n, rfl, ha, hb, hab, hcn, hn⟩
      · simp [vc_ref09_Number_k0, hw]
        refine CALL.val [p.d, int line, int i] _ rfl ih (.inl rfl) ?_
        simp
        have := tdiv10 n ⟨b1, b2⟩
        rw [wrap_id (by omega) (by omega)]
      · simp [vc_ref09_Number_k0, hw, ints]
      · simp [chgB] at hc
end Go.Vc

namespace Go.Vc
open Go Go.Proofs
variable {g : GG}
attribute [local simp] and_assoc
end Go.Vc
