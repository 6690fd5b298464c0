/- A part of the proof: general laws of a reading of the model by abstract data, or contracts of the functions that the law calls. -/
import Derived.Test.YtjdgidaoknlnlaaGreatDoorVc36
set_option maxRecDepth 100000
namespace Go.Vc
open Go Go.Proofs
variable {g : GG}
attribute [local simp] and_assoc
def chgB (e : Nt) (line : Int) : Bool := match e.nums with
  | [a] => decide (a = line)
  | [_, b, _] => decide (b = line)
  | _ => false
theorem getD_set_eq {l : List Int} {a : Nat} {v : Int} (h : a < l.length) : (l.set a v).getD a 0 = v := by
  rw [List.getD_eq_getElem?_getD, List.getElem?_set_self h]; rfl
theorem getD_set_ne {l : List Int} {a b : Nat} {v : Int} (h : a ≠ b) : (l.set a v).getD b 0 = l.getD b 0 := by
  rw [List.getD_eq_getElem?_getD, List.getD_eq_getElem?_getD, List.getElem?_set_ne h]
theorem readN_now (p : Pg) (i : Nat) (a b : Int) : ∀ (n c : Nat) (s : Ps), (readN p i a b n c s).now = s.now ∧ (readN p i a b n c s).setters = s.setters ∧ (readN p i a b n c s).changed = s.changed
  | 0, _, _ => ⟨rfl, rfl, rfl⟩
  | n + 1, c, s => by
    simp only [readN]
    obtain ⟨h1, h2, h3⟩ := readN_now p i a b n (c + 1) (readOne p i a b c s)
    exact ⟨h1, h2, h3⟩
theorem step_line {p : Pg} {s : Ps} {e : Nt} (i line : Nat) (hs : PsOK p s) (he : entB p e = true) (hl : line < p.lines.length) :
    (stepS p i e s).now.getD line 0 = (match chgB e line with | false => s.now.getD line 0 | true => (match e.nums with | [_, _, c] => c | _ => (s.now.getD line 0).tdiv 10)) ∧
    (stepS p i e s).setters.getD line 0 = (match chgB e line with | false => s.setters.getD line 0 | true => (match e.nums with | [a, _, _] => a | _ => s.setters.getD line 0)) ∧
    (stepS p i e s).changed.getD line 0 = (match chgB e line with | false => s.changed.getD line 0 | true => (i : Int)) := by
  rcases entB_cases he with ⟨a, rfl, ha⟩ | ⟨a, b, c, rfl, ha, hb, hc⟩ | ⟨a, b, c, n, rfl, ha, hb, hab, hcn, hn⟩
  · simp only [stepS, changeS, chgB, Int.toNat_natCast]
    by_cases h : a = line
    · subst h
      rw [getD_set_eq (by rw [hs.now]; exact ha), getD_set_eq (by rw [hs.changed]; exact ha)]
      simp
    · have h2 : ¬ (a : Int) = line := by omega
      rw [getD_set_ne h, getD_set_ne h, decide_eq_false h2]
      exact ⟨rfl, rfl, rfl⟩
  · simp only [stepS, changeS, chgB, Int.toNat_natCast]
    by_cases h : b = line
    · subst h
      rw [getD_set_eq (by rw [hs.now]; exact hb), getD_set_eq (by rw [hs.setters]; exact hb), getD_set_eq (by rw [hs.changed]; exact hb)]
      simp
    · have h2 : ¬ (b : Int) = line := by omega
      rw [getD_set_ne h, getD_set_ne h, getD_set_ne h, decide_eq_false h2]
      exact ⟨rfl, rfl, rfl⟩
  · simp only [stepS, chgB]
    obtain ⟨h1, h2, h3⟩ := readN_now p i a b ((c : Int) + n - 1 - c + 1).toNat (c : Int).toNat s
    rw [h1, h2, h3]
    exact ⟨rfl, rfl, rfl⟩
end Go.Vc

namespace Go.Vc
open Go Go.Proofs
variable {g : GG}
attribute [local simp] and_assoc
def chN (p : Pg) (line i : Nat) : Int := (stN p i).changed.getD line 0
theorem chN_spec {p : Pg} (hok : p.ok = true) {line : Nat} (hl : line < p.lines.length) : ∀ M, M ≤ p.log.length → (-1 ≤ chN p line M ∧ chN p line M < M) ∧ ∀ k e, k < M → p.log[k]? = some e → (chgB e line = true → (k : Int) ≤ chN p line M) ∧ (chgB e line = false → chN p line M ≠ k)
  | 0, _ => by
    refine ⟨?_, fun k e hk => by omega⟩
    have : (st0 p).changed.getD line 0 = -1 := by
      simp only [st0]
      rw [List.getD_eq_getElem?_getD, List.getElem?_map, List.getElem?_eq_getElem hl]; rfl
    simp only [chN, stN, this]
    omega
  | M + 1, hM => by
    obtain ⟨h1, h2⟩ := chN_spec hok hl M (by omega)
    have hg : p.log[M]? = some p.log[M] := List.getElem?_eq_getElem (by omega)
    have he := (Pg.ok_len hok).2.2.2.2.2.2 _ (List.getElem_mem (show M < p.log.length by omega))
    have hst := (step_line M line (stN_ok hok M (by omega)).1 he hl).2.2
    generalize p.log[M] = x at hg he hst
    have e1 : chN p line (M + 1) = (match chgB x line with | false => chN p line M | true => (M : Int)) := by
      simp only [chN, stN, hg]
      exact hst
    cases hc : chgB x line with
    | false =>
      rw [hc] at e1
      have e1 : chN p line (M + 1) = chN p line M := e1
      rw [e1]
      refine ⟨by omega, fun k e hk hke => ?_⟩
      by_cases hkM : k = M
      · subst hkM
        rw [hg] at hke
        obtain rfl := Option.some.inj hke
        rw [hc]
        exact ⟨(fun h => by cases h), (fun _ => by omega)⟩
      · exact h2 k e (by omega) hke
    | true =>
      rw [hc] at e1
      have e1 : chN p line (M + 1) = (M : Int) := e1
      rw [e1]
      refine ⟨by omega, fun k e hk hke => ?_⟩
      by_cases hkM : k = M
      · subst hkM
        rw [hg] at hke
        obtain rfl := Option.some.inj hke
        rw [hc]
        exact ⟨(fun _ => by omega), (fun h => by cases h)⟩
      · exact ⟨(fun _ => by omega), (fun _ => by omega)⟩
def rdnB (e : Nt) (line n : Int) : Bool := match e.nums with
  | [a, b, c, d] => inB line c d && (decide (a = n) || decide (b = n))
  | _ => false
def metB (p : Pg) (line n : Nat) (ch : Int) : Nat → Bool
  | 0 => false
  | i + 1 => match p.log[i]? with
    | some e => metB p line n ch i || (rdnB e line n && decide (ch < i))
    | none => metB p line n ch i
theorem metB_false (p : Pg) (line n : Nat) (ch : Int) : ∀ k : Nat, (k : Int) ≤ ch + 1 → metB p line n ch k = false
  | 0, _ => rfl
  | k + 1, h => by
    have ih := metB_false p line n ch k (by omega)
    have hc : decide (ch < (k : Int)) = false := decide_eq_false (by omega)
    simp only [metB, ih, hc, Bool.and_false, Bool.or_false]
    split <;> rfl
theorem has_read {p : Pg} (hok : p.ok = true) {line n : Nat} (hl : line < p.lines.length) (hn : (n : Int) < p.people) : ∀ M, M ≤ p.log.length → hasK ((line : Int), (n : Int)) (stN p M).keys = metB p line n (chN p line M) M
  | 0, _ => by
    simp [stN, st0, hasK, metB]
  | M + 1, hM => by
    have ih := has_read hok hl hn M (by omega)
    have hg : p.log[M]? = some p.log[M] := List.getElem?_eq_getElem (by omega)
    have he := (Pg.ok_len hok).2.2.2.2.2.2 _ (List.getElem_mem (show M < p.log.length by omega))
    have hst := (step_line M line (stN_ok hok M (by omega)).1 he hl).2.2
    have hnd := nodup_stN hok M (by omega)
    obtain ⟨⟨c1, c2⟩, _⟩ := chN_spec hok hl M (by omega)
    generalize p.log[M] = x at hg he hst
    have e1 : chN p line (M + 1) = (match chgB x line with | false => chN p line M | true => (M : Int)) := by
      simp only [chN, stN, hg]
      exact hst
    have e2 : (stN p (M + 1)).keys = (stepS p M x (stN p M)).keys := by simp only [stN, hg]
    have e3 : chgB x line = false → metB p line n (chN p line (M + 1)) (M + 1) = (hasK ((line : Int), (n : Int)) (stN p M).keys || rdnB x line n) := fun hc => by
      rw [hc] at e1
      have e1 : chN p line (M + 1) = chN p line M := e1
      have hd : decide (chN p line M < (M : Int)) = true := decide_eq_true c2
      rw [e1, ih]
      simp only [metB, hg, hd, Bool.and_true]
    have e4 : chgB x line = true → metB p line n (chN p line (M + 1)) (M + 1) = false := fun hc => by
      rw [hc] at e1
      have e1 : chN p line (M + 1) = (M : Int) := e1
      rw [e1]
      exact metB_false _ _ _ _ _ (by omega)
    have hpp : ((n : Int) < (p.people.toNat : Int)) := by omega
    rw [e2]
    rcases entB_cases he with ⟨a, rfl, ha⟩ | ⟨a, b, c, rfl, ha, hb, hc⟩ | ⟨a, b, c, m, rfl, ha, hb, hab, hcm, hm⟩
    · have h0 : rdnB ⟨3, [(a : Int)]⟩ line n = false := rfl
      simp only [stepS, changeS, Int.toNat_natCast, (hasK_delN a line p.people.toNat (n : Int) _ hnd).2]
      by_cases hal : a = line
      · rw [e4 (by simp [chgB, hal])]
        have h5 : (n : Int) < max p.people 0 := by omega
        simp [hal, h5]
      · rw [e3 (by simp [chgB]; omega), h0]
        have : ¬ line = a := fun h => hal h.symm
        simp [this]
    · have h0 : rdnB ⟨2, [a, (b : Int), c]⟩ line n = false := rfl
      simp only [stepS, changeS, Int.toNat_natCast, (hasK_delN b line p.people.toNat (n : Int) _ hnd).2]
      by_cases hal : b = line
      · rw [e4 (by simp [chgB, hal])]
        have h5 : (n : Int) < max p.people 0 := by omega
        simp [hal, h5]
      · rw [e3 (by simp [chgB]; omega), h0]
        have : ¬ line = b := fun h => hal h.symm
        simp [this]
    · have e0 : ((c : Int) + m - 1 - c + 1).toNat = m := by omega
      have hb0 : rdnB ⟨1, [a, b, (c : Int), (c : Int) + m - 1]⟩ line n = (decide (c ≤ line) && (decide (line < c + m) && (decide ((n : Int) = a) || decide ((n : Int) = b)))) := by
        have hc1 : decide ((c : Int) ≤ (line : Int)) = decide (c ≤ line) := decide_eq_decide.2 (by omega)
        have hc2 : decide ((line : Int) ≤ (c : Int) + m - 1) = decide (line < c + m) := decide_eq_decide.2 (by omega)
        have hc3 : decide (a = (n : Int)) = decide ((n : Int) = a) := decide_eq_decide.2 ⟨Eq.symm, Eq.symm⟩
        have hc4 : decide (b = (n : Int)) = decide ((n : Int) = b) := decide_eq_decide.2 ⟨Eq.symm, Eq.symm⟩
        simp only [rdnB, inB, hc1, hc2, hc3, hc4, Bool.and_assoc]
      rw [e3 rfl]
      simp only [stepS, Int.toNat_natCast, e0]
      rw [hasK_readN, ← hb0]
end Go.Vc
