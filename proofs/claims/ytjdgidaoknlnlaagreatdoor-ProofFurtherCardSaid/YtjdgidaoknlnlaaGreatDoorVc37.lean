/- A part of the proof: general laws of a reading of the model by abstract data, or contracts of the functions that the law calls. -/
import Derived.Test.YtjdgidaoknlnlaaGreatDoorVc36
set_option maxRecDepth 100000
namespace Go.Vc
open Go Go.Proofs
variable {g : GG}
attribute [local simp] and_assoc
def chgB (e : Nt) (line : Int) : Bool := match e.nums with
  | [a] => decide (a = line)
  | [_, b, _] => decide (b = line)
  | _ => false
def rdsB (e : Nt) (line : Int) : Bool := match e.nums with
  | [_, _, c, d] => inB line c d
  | _ => false
theorem ref09_changes_meets (p : Pg) (e : Nt) (line : Int) (he : entB p e = true) : Meets (Tz g) f_ref09_changes [e.d, int line] ⟨.d (.bool (chgB e line)), []⟩ := by
  refine meets_ref09_changes ?_
  unfold vc_ref09_changes
  rcases entB_cases he with ⟨a, rfl, ha⟩ | ⟨a, b, c, rfl, ha, hb, hc⟩ | ⟨a, b, c, n, rfl, ha, hb, hab, hcn, hn⟩
  · simp [Nt.d, ints, vc_ref09_changes_k1, chgB]
  · simp [Nt.d, ints, vc_ref09_changes_k0, chgB]
  · simp [Nt.d, ints, vc_ref09_changes_k1, chgB]
theorem ref09_reads_meets (p : Pg) (e : Nt) (line : Int) (he : entB p e = true) : Meets (Tz g) f_ref09_reads [e.d, int line] ⟨.d (.bool (rdsB e line)), []⟩ := by
  refine meets_ref09_reads ?_
  unfold vc_ref09_reads
  rcases entB_cases he with ⟨a, rfl, ha⟩ | ⟨a, b, c, rfl, ha, hb, hc⟩ | ⟨a, b, c, n, rfl, ha, hb, hab, hcn, hn⟩
  · simp [Nt.d, ints, rdsB]
    rfl
  · simp [Nt.d, ints, rdsB]
    rfl
  · simp [Nt.d, ints, rdsB]
    refine CALL.val [int line, int c, int ((c : Int) + n - 1)] _ rfl (ref09_in_meets _ _ _) (.inl rfl) ?_
    simp [vc_ref09_reads_k0]
    rfl
theorem getD_set_eq {l : List Int} {a : Nat} {v : Int} (h : a < l.length) : (l.set a v).getD a 0 = v := by
  rw [List.getD_eq_getElem?_getD, List.getElem?_set_self h]; rfl
theorem getD_set_ne {l : List Int} {a b : Nat} {v : Int} (h : a ≠ b) : (l.set a v).getD b 0 = l.getD b 0 := by
  rw [List.getD_eq_getElem?_getD, List.getD_eq_getElem?_getD, List.getElem?_set_ne h]
theorem readN_now (p : Pg) (i : Nat) (a b : Int) : ∀ (n c : Nat) (s : Ps), (readN p i a b n c s).now = s.now ∧ (readN p i a b n c s).setters = s.setters ∧ (readN p i a b n c s).changed = s.changed
  | 0, _, _ => ⟨rfl, rfl, rfl⟩
  | n + 1, c, s => by
    simp only [readN]
    obtain ⟨h1, h2, h3⟩ := readN_now p i a b n (c + 1) (readOne p i a b c s)
    exact ⟨h1, h2, h3⟩
theorem step_line {p : Pg} {s : Ps} {e : Nt} (i line : Nat) (hs : PsOK p s) (he : entB p e = true) (hl : line < p.lines.length) :
    (stepS p i e s).now.getD line 0 = (match chgB e line with | false => s.now.getD line 0 | true => (match e.nums with | [_, _, c] => c | _ => (s.now.getD line 0).tdiv 10)) ∧
    (stepS p i e s).setters.getD line 0 = (match chgB e line with | false => s.setters.getD line 0 | true => (match e.nums with | [a, _, _] => a | _ => s.setters.getD line 0)) ∧
    (stepS p i e s).changed.getD line 0 = (match chgB e line with | false => s.changed.getD line 0 | true => (i : Int)) := by
  rcases entB_cases he with ⟨a, rfl, ha⟩ | ⟨a, b, c, rfl, ha, hb, hc⟩ | ⟨a, b, c, n, rfl, ha, hb, hab, hcn, hn⟩
  · simp only [stepS, changeS, chgB, Int.toNat_natCast]
    by_cases h : a = line
    · subst h
      rw [getD_set_eq (by rw [hs.now]; exact ha), getD_set_eq (by rw [hs.changed]; exact ha)]
      simp
    · have h2 : ¬ (a : Int) = line := by omega
      rw [getD_set_ne h, getD_set_ne h, decide_eq_false h2]
      exact ⟨rfl, rfl, rfl⟩
  · simp only [stepS, changeS, chgB, Int.toNat_natCast]
    by_cases h : b = line
    · subst h
      rw [getD_set_eq (by rw [hs.now]; exact hb), getD_set_eq (by rw [hs.setters]; exact hb), getD_set_eq (by rw [hs.changed]; exact hb)]
      simp
    · have h2 : ¬ (b : Int) = line := by omega
      rw [getD_set_ne h, getD_set_ne h, getD_set_ne h, decide_eq_false h2]
      exact ⟨rfl, rfl, rfl⟩
  · simp only [stepS, chgB]
    obtain ⟨h1, h2, h3⟩ := readN_now p i a b ((c : Int) + n - 1 - c + 1).toNat (c : Int).toNat s
    rw [h1, h2, h3]
    exact ⟨rfl, rfl, rfl⟩
theorem ref09_Setter_meets (p : Pg) (line : Nat) (hok : p.ok = true) (hl : line < p.lines.length) : ∀ i, i ≤ p.log.length → Meets (Tz g) f_ref09_Setter [p.d, int line, int i] ⟨.d (int ((stN p i).setters.getD line 0)), []⟩
  | 0, _ => by
    refine meets_ref09_Setter ?_
    unfold vc_ref09_Setter
    have hg : p.lines[line]? = some p.lines[line] := List.getElem?_eq_getElem hl
    generalize p.lines[line] = l at hg
    simp [Pg.d, lns, ents, hg, Ln.d, stN, st0]
  | i + 1, hi => by
    have ih := ref09_Setter_meets p line hok hl i (by omega)
    obtain ⟨a1, a2, a3, a4, a5, a6, a7⟩ := Pg.ok_len hok
    have hg : p.log[i]? = some p.log[i] := List.getElem?_eq_getElem (by omega)
    have he := a7 _ (List.getElem_mem (show i < p.log.length by omega))
    have hst := (step_line i line (stN_ok hok i (by omega)).1 he hl).2.1
    generalize p.log[i] = e at hg he hst
    have e1 : stN p (i + 1) = stepS p i e (stN p i) := by simp only [stN, hg]
    rw [e1, hst]
    generalize (stN p i).setters.getD line 0 = n at ih
    have h0 : ¬ ((i : Int) + 1 = 0) := by omega
    refine meets_ref09_Setter ?_
    unfold vc_ref09_Setter
    have hw := wrap_id (n := (i : Int)) (by omega) (by omega)
    rcases entB_cases he with ⟨a, rfl, ha⟩ | ⟨a, b, c, rfl, ha, hb, hc⟩ | ⟨a, b, c, n, rfl, ha, hb, hab, hcn, hn⟩
    · simp [Pg.d, lns, ents, h0, hw, hg, Nt.d, ints, chgB]
      refine CALL.val [p.d, int line, int i] _ rfl ih (.inl rfl) ?_
      cases decide ((a : Int) = line) <;> simp
    · simp [Pg.d, lns, ents, h0, hw, hg, Nt.d, ints, chgB]
      refine ⟨fun h => ?_, fun h => ?_⟩
      · rw [decide_eq_true h]
      · refine CALL.val [p.d, int line, int i] _ rfl ih (.inl rfl) ?_
        rw [decide_eq_false h]
    · simp [Pg.d, lns, ents, h0, hw, hg, Nt.d, ints, chgB]
      refine CALL.val [p.d, int line, int i] _ rfl ih (.inl rfl) ?_
      simp
end Go.Vc

namespace Go.Vc
open Go Go.Proofs
variable {g : GG}
attribute [local simp] and_assoc
def chN (p : Pg) (line i : Nat) : Int := (stN p i).changed.getD line 0
theorem chN_spec {p : Pg} (hok : p.ok = true) {line : Nat} (hl : line < p.lines.length) : ∀ M, M ≤ p.log.length → (-1 ≤ chN p line M ∧ chN p line M < M) ∧ ∀ k e, k < M → p.log[k]? = some e → (chgB e line = true → (k : Int) ≤ chN p line M) ∧ (chgB e line = false → chN p line M ≠ k)
  | 0, _ => by
    refine ⟨?_, fun k e hk => by omega⟩
    have : (st0 p).changed.getD line 0 = -1 := by
      simp only [st0]
      rw [List.getD_eq_getElem?_getD, List.getElem?_map, List.getElem?_eq_getElem hl]; rfl
    simp only [chN, stN, this]
    omega
  | M + 1, hM => by
    obtain ⟨h1, h2⟩ := chN_spec hok hl M (by omega)
    have hg : p.log[M]? = some p.log[M] := List.getElem?_eq_getElem (by omega)
    have he := (Pg.ok_len hok).2.2.2.2.2.2 _ (List.getElem_mem (show M < p.log.length by omega))
    have hst := (step_line M line (stN_ok hok M (by omega)).1 he hl).2.2
    generalize p.log[M] = x at hg he hst
    have e1 : chN p line (M + 1) = (match chgB x line with | false => chN p line M | true => (M : Int)) := by
      simp only [chN, stN, hg]
      exact hst
    cases hc : chgB x line with
    | false =>
      rw [hc] at e1
      have e1 : chN p line (M + 1) = chN p line M := e1
      rw [e1]
      refine ⟨by omega, fun k e hk hke => ?_⟩
      by_cases hkM : k = M
      · subst hkM
        rw [hg] at hke
        obtain rfl := Option.some.inj hke
        rw [hc]
        exact ⟨(fun h => by cases h), (fun _ => by omega)⟩
      · exact h2 k e (by omega) hke
    | true =>
      rw [hc] at e1
      have e1 : chN p line (M + 1) = (M : Int) := e1
      rw [e1]
      refine ⟨by omega, fun k e hk hke => ?_⟩
      by_cases hkM : k = M
      · subst hkM
        rw [hg] at hke
        obtain rfl := Option.some.inj hke
        rw [hc]
        exact ⟨(fun _ => by omega), (fun h => by cases h)⟩
      · exact ⟨(fun _ => by omega), (fun _ => by omega)⟩
theorem ref09_changed_meets (p : Pg) (line i : Nat) (hok : p.ok = true) (hl : line < p.lines.length) (hi : i ≤ p.log.length) : Meets (Tz g) f_ref09_changed [p.d, int line, int i] ⟨.d (.bool (decide ((i : Int) ≤ chN p line p.log.length))), []⟩ := by
  obtain ⟨a1, a2, a3, a4, a5, a6, a7⟩ := Pg.ok_len hok
  obtain ⟨⟨c1, c2⟩, c3⟩ := chN_spec hok hl p.log.length (Nat.le_refl _)
  generalize chN p line p.log.length = ch at c1 c2 c3
  refine meets_ref09_changed ?_
  unfold vc_ref09_changed
  simp [Pg.d, lns, ents]
  refine LOOP.mk Nat (fun k => [.d (int line), .ptr 24 0 0 0, .d (int k)]) (fun _ => [(24, some ⟨0, T_api_ProofPage, .box [.d (int p.people), .d (.list (p.lines.map Ln.d)), .d (.list (p.log.map Nt.d))]⟩)])
    (fun k => k ≤ p.log.length ∧ ((i : Int) ≤ ch ↔ (k : Int) ≤ ch)) (fun k => p.log.length - k) [] (by simp) i ⟨by omega, Iff.rfl⟩ (by simp [WEAK]) (fun _ _ => rfl) ?_
  rintro k ⟨hk, he⟩
  simp [vc_ref09_changed_k0]
  constructor
  · intro hlt
    have hg : p.log[k]? = some p.log[k] := List.getElem?_eq_getElem hlt
    have hen := a7 _ (List.getElem_mem hlt)
    obtain ⟨d1, d2⟩ := c3 k _ hlt hg
    generalize p.log[k] = e at hg hen d1 d2
    have hC := ref09_changes_meets (g := g) p e line hen
    simp [hg, Nt.d]
    refine CALL.val [e.d, int line] _ rfl hC (.inl rfl) ?_
    cases hc : chgB e line with
    | true =>
      have := d1 hc
      have h2 : (i : Int) ≤ ch := he.2 this
      simp [h2]
    | false =>
      have := d2 hc
      simp
      rw [wrap_id (n := (k : Int) + 1) (by omega) (by omega)]
      exact ⟨k + 1, by omega, by omega, by simp [WEAK], by omega⟩
  · intro hge
    have : ¬ (i : Int) ≤ ch := by omega
    simpa using this
def rdnB (e : Nt) (line n : Int) : Bool := match e.nums with
  | [a, b, c, d] => inB line c d && (decide (a = n) || decide (b = n))
  | _ => false
def metB (p : Pg) (line n : Nat) (ch : Int) : Nat → Bool
  | 0 => false
  | i + 1 => match p.log[i]? with
    | some e => metB p line n ch i || (rdnB e line n && decide (ch < i))
    | none => metB p line n ch i
theorem metB_false (p : Pg) (line n : Nat) (ch : Int) : ∀ k : Nat, (k : Int) ≤ ch + 1 → metB p line n ch k = false
  | 0, _ => rfl
  | k + 1, h => by
    have ih := metB_false p line n ch k (by omega)
    have hc : decide (ch < (k : Int)) = false := decide_eq_false (by omega)
    simp only [metB, ih, hc, Bool.and_false, Bool.or_false]
    split <;> rfl
theorem has_read {p : Pg} (hok : p.ok = true) {line n : Nat} (hl : line < p.lines.length) (hn : (n : Int) < p.people) : ∀ M, M ≤ p.log.length → hasK ((line : Int), (n : Int)) (stN p M).keys = metB p line n (chN p line M) M
  | 0, _ => by
    simp [stN, st0, hasK, metB]
  | M + 1, hM => by
    have ih := has_read hok hl hn M (by omega)
    have hg : p.log[M]? = some p.log[M] := List.getElem?_eq_getElem (by omega)
    have he := (Pg.ok_len hok).2.2.2.2.2.2 _ (List.getElem_mem (show M < p.log.length by omega))
    have hst := (step_line M line (stN_ok hok M (by omega)).1 he hl).2.2
    have hnd := nodup_stN hok M (by omega)
    obtain ⟨⟨c1, c2⟩, _⟩ := chN_spec hok hl M (by omega)
    generalize p.log[M] = x at hg he hst
    have e1 : chN p line (M + 1) = (match chgB x line with | false => chN p line M | true => (M : Int)) := by
      simp only [chN, stN, hg]
      exact hst
    have e2 : (stN p (M + 1)).keys = (stepS p M x (stN p M)).keys := by simp only [stN, hg]
    have e3 : chgB x line = false → metB p line n (chN p line (M + 1)) (M + 1) = (hasK ((line : Int), (n : Int)) (stN p M).keys || rdnB x line n) := fun hc => by
      rw [hc] at e1
      have e1 : chN p line (M + 1) = chN p line M := e1
      have hd : decide (chN p line M < (M : Int)) = true := decide_eq_true c2
      rw [e1, ih]
      simp only [metB, hg, hd, Bool.and_true]
    have e4 : chgB x line = true → metB p line n (chN p line (M + 1)) (M + 1) = false := fun hc => by
      rw [hc] at e1
      have e1 : chN p line (M + 1) = (M : Int) := e1
      rw [e1]
      exact metB_false _ _ _ _ _ (by omega)
    have hpp : ((n : Int) < (p.people.toNat : Int)) := by omega
    rw [e2]
    rcases entB_cases he with ⟨a, rfl, ha⟩ | ⟨a, b, c, rfl, ha, hb, hc⟩ | ⟨a, b, c, m, rfl, ha, hb, hab, hcm, hm⟩
    · have h0 : rdnB ⟨3, [(a : Int)]⟩ line n = false := rfl
      simp only [stepS, changeS, Int.toNat_natCast, (hasK_delN a line p.people.toNat (n : Int) _ hnd).2]
      by_cases hal : a = line
      · rw [e4 (by simp [chgB, hal])]
        have h5 : (n : Int) < max p.people 0 := by omega
        simp [hal, h5]
      · rw [e3 (by simp [chgB]; omega), h0]
        have : ¬ line = a := fun h => hal h.symm
        simp [this]
    · have h0 : rdnB ⟨2, [a, (b : Int), c]⟩ line n = false := rfl
      simp only [stepS, changeS, Int.toNat_natCast, (hasK_delN b line p.people.toNat (n : Int) _ hnd).2]
      by_cases hal : b = line
      · rw [e4 (by simp [chgB, hal])]
        have h5 : (n : Int) < max p.people 0 := by omega
        simp [hal, h5]
      · rw [e3 (by simp [chgB]; omega), h0]
        have : ¬ line = b := fun h => hal h.symm
        simp [this]
    · have e0 : ((c : Int) + m - 1 - c + 1).toNat = m := by omega
      have hb0 : rdnB ⟨1, [a, b, (c : Int), (c : Int) + m - 1]⟩ line n = (decide (c ≤ line) && (decide (line < c + m) && (decide ((n : Int) = a) || decide ((n : Int) = b)))) := by
        have hc1 : decide ((c : Int) ≤ (line : Int)) = decide (c ≤ line) := decide_eq_decide.2 (by omega)
        have hc2 : decide ((line : Int) ≤ (c : Int) + m - 1) = decide (line < c + m) := decide_eq_decide.2 (by omega)
        have hc3 : decide (a = (n : Int)) = decide ((n : Int) = a) := decide_eq_decide.2 ⟨Eq.symm, Eq.symm⟩
        have hc4 : decide (b = (n : Int)) = decide ((n : Int) = b) := decide_eq_decide.2 ⟨Eq.symm, Eq.symm⟩
        simp only [rdnB, inB, hc1, hc2, hc3, hc4, Bool.and_assoc]
      rw [e3 rfl]
      simp only [stepS, Int.toNat_natCast, e0]
      rw [hasK_readN, ← hb0]
set_option maxHeartbeats 4000000 in
theorem ref09_Readers_meets (p : Pg) (line : Nat) (hok : p.ok = true) (hl : line < p.lines.length) : Meets (Tz g) f_ref09_Readers [p.d, int line] ⟨.d (ints (readersP p line)), []⟩ := by
  obtain ⟨a1, a2, a3, a4, a5, a6, a7⟩ := Pg.ok_len hok
  obtain ⟨m, hm⟩ : ∃ m : Nat, p.people = m := ⟨p.people.toNat, by omega⟩
  have hpn : p.people.toNat = m := by omega
  have hSet := ref09_Setter_meets (g := g) p line hok hl p.log.length (Nat.le_refl _)
  have hCh := fun i hi => ref09_changed_meets (g := g) p line i hok hl hi
  have hkey := fun (n : Nat) (hn : (n : Int) < p.people) => has_read (n := n) hok hl hn p.log.length (Nat.le_refl _)
  have hrd : ∀ n : Nat, rdB (stN p p.log.length) line n = (hasK ((line : Int), (n : Int)) (stN p p.log.length).keys && !decide ((n : Int) = (stN p p.log.length).setters.getD line 0)) := fun n => rfl
  unfold readersP
  rw [hpn]
  generalize chN p line p.log.length = ch at hCh hkey
  generalize stN p p.log.length = s at hSet hkey hrd
  generalize s.setters.getD line 0 = q at hSet hrd
  refine meets_ref09_Readers ?_
  unfold vc_ref09_Readers
  simp [Pg.d, lns, ents]
  refine LOOP.mk Nat (fun n => [.d (int line), .ptr 24 0 0 0, .own 56 (readersL s line n).length, .d (int n)]) (fun n => [(56, some ⟨(readersL s line n).length, T_int, .lst ((readersL s line n).map int)⟩), (24, some ⟨0, T_api_ProofPage, .box [.d (int p.people), .d (.list (p.lines.map Ln.d)), .d (.list (p.log.map Nt.d))]⟩)])
    (fun n => n ≤ m) (fun n => m - n) [(2, T_int)] (by simp) 0 (by omega) (by simp [WEAK, lookH, readersL]) (fun _ _ => rfl) ?_
  intro n hn
  have hrl := readersL_len s line n
  have hrs := readersL_succ s line n
  rw [hrd n] at hrs
  simp [vc_ref09_Readers_k6]
  constructor
  · intro hlt
    have hkn := hkey n (by omega)
    rw [hkn] at hrs
    refine LOOP.mk Nat (fun i => [.d (int line), .ptr 24 0 0 0, .own 56 (readersL s line n).length, .d (int n), .d (.bool (metB p line n ch i)), .d (int i)]) (fun _ => [(56, some ⟨(readersL s line n).length, T_int, .lst ((readersL s line n).map int)⟩), (24, some ⟨0, T_api_ProofPage, .box [.d (int p.people), .d (.list (p.lines.map Ln.d)), .d (.list (p.log.map Nt.d))]⟩)])
      (fun i => i ≤ p.log.length) (fun i => p.log.length - i) [] (by simp) 0 (by omega) (by simp [WEAK, lookH, metB]) (fun _ _ => rfl) ?_
    intro i hi
    simp
    constructor
    · intro hlt2
      have hg : p.log[i]? = some p.log[i] := List.getElem?_eq_getElem hlt2
      have hen := a7 _ (List.getElem_mem hlt2)
      generalize p.log[i] = e at hg hen
      have hsucc : metB p line n ch (i + 1) = (metB p line n ch i || (rdnB e line n && decide (ch < i))) := by simp only [metB, hg]
      have hw := wrap_id (n := (i : Int) + 1) (by omega) (by omega)
      have hC := hCh i (by omega)
      have hR := ref09_reads_meets (g := g) p e line hen
      generalize metB p line n ch i = met at hsucc ⊢
      cases met with
      | true =>
        simp [vc_ref09_Readers_k4, hg, Nt.d, hw]
        exact ⟨i + 1, by omega, by simp [WEAK, lookH, hsucc], by omega⟩
      | false =>
        simp [vc_ref09_Readers_k4, hg, Nt.d]
        refine CALL.val [e.d, int line] _ rfl hR (.inl rfl) ?_
        have hrs2 : rdnB e line n = true → rdsB e line = true := by
          rcases entB_cases hen with ⟨a, rfl, ha⟩ | ⟨a, b, c, rfl, ha, hb, hc⟩ | ⟨a, b, c, k, rfl, ha, hb, hab, hcn, hk⟩
          · simp [rdnB]
          · simp [rdnB]
          · simp [rdnB, rdsB]
            intro h _
            exact h
        simp only [Bool.false_or] at hsucc
        cases hrb : rdsB e line with
        | false =>
          have h0 : rdnB e line n = false := by
            cases h : rdnB e line n with
            | false => rfl
            | true => rw [hrs2 h] at hrb; cases hrb
          simp [vc_ref09_Readers_k2, hw]
          exact ⟨i + 1, by omega, by simp [WEAK, lookH, hsucc, h0], by omega⟩
        | true =>
          rcases entB_cases hen with ⟨a, rfl, ha⟩ | ⟨a, b, c, rfl, ha, hb, hc⟩ | ⟨a, b, c, k, rfl, ha, hb, hab, hcn, hk⟩
          · simp [rdsB] at hrb
          · simp [rdsB] at hrb
          · have hb0 : rdnB ⟨1, [a, b, (c : Int), (c : Int) + k - 1]⟩ line n = (decide (a = (n : Int)) || decide (b = (n : Int))) := by
              have : inB line c ((c : Int) + k - 1) = true := hrb
              simp only [rdnB, this, Bool.true_and]
            rw [hb0] at hsucc
            have hnot : (!decide ((i : Int) ≤ ch)) = decide (ch < (i : Int)) := by
              rw [← decide_not]; exact decide_eq_decide.2 (by omega)
            by_cases h1 : a = (n : Int)
            · have hf : metB p line n ch (i + 1) = decide (ch < (i : Int)) := by rw [hsucc, h1]; simp
              simp [vc_ref09_Readers_k2, ints, h1, vc_ref09_Readers_k0]
              refine CALL.val [p.d, int line, int i] _ rfl hC (.inl rfl) ?_
              simp only [NOT]
              rw [hnot]
              simp [hw]
              exact ⟨i + 1, by omega, by simp [WEAK, lookH, hf], by omega⟩
            · by_cases h2 : b = (n : Int)
              · have hf : metB p line n ch (i + 1) = decide (ch < (i : Int)) := by rw [hsucc, h2]; simp
                simp [vc_ref09_Readers_k2, ints, h1, h2, vc_ref09_Readers_k1]
                refine CALL.val [p.d, int line, int i] _ rfl hC (.inl rfl) ?_
                simp only [NOT]
                rw [hnot]
                simp [hw]
                exact ⟨i + 1, by omega, by simp [WEAK, lookH, hf], by omega⟩
              · have hf : metB p line n ch (i + 1) = false := by rw [hsucc]; simp [h1, h2]
                simp [vc_ref09_Readers_k2, ints, h1, h2, vc_ref09_Readers_k1, hw]
                exact ⟨i + 1, by omega, by simp [WEAK, lookH, hf], by omega⟩
    · intro hge
      have : i = p.log.length := by omega
      subst this
      generalize metB p line n ch p.log.length = met at hrs ⊢
      have hw := wrap_id (n := (n : Int) + 1) (by omega) (by omega)
      cases met with
      | false =>
        simp only [Bool.false_and, List.append_nil] at hrs
        simp [vc_ref09_Readers_k5, hw]
        exact ⟨n + 1, by omega, by simp [WEAK, lookH, hrs], by omega⟩
      | true =>
        simp [vc_ref09_Readers_k5]
        refine CALL.val [p.d, int line, int p.log.length] _ rfl hSet (.inl rfl) ?_
        simp [vc_ref09_Readers_k3, hw]
        simp only [Bool.true_and] at hrs
        refine ⟨fun h1 => ?_, fun h1 => ?_⟩
        · rw [decide_eq_false h1] at hrs
          simp only [Bool.not_false] at hrs
          exact ⟨by omega, n + 1, by omega, by simp [WEAK, lookH, hrs], by omega⟩
        · rw [decide_eq_true h1] at hrs
          simp only [Bool.not_true, List.append_nil] at hrs
          exact ⟨n + 1, by omega, by simp [WEAK, lookH, hrs], by omega⟩
  · intro hge
    have : n = m := by omega
    subst this
    rfl
end Go.Vc
