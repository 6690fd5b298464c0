/- A part of the proof: general laws of a reading of the model by abstract data, or contracts of the functions that the law calls. -/
import Derived.Test.YthdjndbnnajpoaaGreatDoorVc36
set_option maxRecDepth 100000
namespace Go.Vc
open Go Go.Proofs
variable {g : GG}
attribute [local simp] and_assoc
def chgB (e : Nt) (line : Int) : Bool := match e.nums with
  | [a] => decide (a = line)
  | [_, b, _] => decide (b = line)
  | _ => false
def rdsB (e : Nt) (line : Int) : Bool := match e.nums with
  | [_, _, c, d] => inB line c d
  | _ => false
theorem ref09_changes_meets (p : Pg) (e : Nt) (line : Int) (he : entB p e = true) : Meets (Tz g) f_ref09_changes [e.d, int line] ⟨.d (.bool (chgB e line)), []⟩ := by
  refine meets_ref09_changes ?_
  unfold vc_ref09_changes
  rcases entB_cases he with ⟨a, rfl, ha⟩ | ⟨a, b, c, rfl, ha, hb, hc⟩ | ⟨a, b, c, n, rfl, ha, hb, hab, hcn, hn⟩
  · simp [Nt.d, ints, vc_ref09_changes_k1, chgB]
  · simp [Nt.d, ints, vc_ref09_changes_k0, chgB]
  · simp [Nt.d, ints, vc_ref09_changes_k1, chgB]
theorem ref09_reads_meets (p : Pg) (e : Nt) (line : Int) (he : entB p e = true) : Meets (Tz g) f_ref09_reads [e.d, int line] ⟨.d (.bool (rdsB e line)), []⟩ := by
  refine meets_ref09_reads ?_
  unfold vc_ref09_reads
  rcases entB_cases he with ⟨a, rfl, ha⟩ | ⟨a, b, c, rfl, ha, hb, hc⟩ | ⟨a, b, c, n, rfl, ha, hb, hab, hcn, hn⟩
  · simp [Nt.d, ints, rdsB]
    rfl
  · simp [Nt.d, ints, rdsB]
    rfl
  · simp [Nt.d, ints, rdsB]
    refine CALL.val [int line, int c, int ((c : Int) + n - 1)] _ rfl (ref09_in_meets _ _ _) (.inl rfl) ?_
    simp [vc_ref09_reads_k0]
    rfl
theorem getD_set_eq {l : List Int} {a : Nat} {v : Int} (h : a < l.length) : (l.set a v).getD a 0 = v := by
  rw [List.getD_eq_getElem?_getD, List.getElem?_set_self h]; rfl
theorem getD_set_ne {l : List Int} {a b : Nat} {v : Int} (h : a ≠ b) : (l.set a v).getD b 0 = l.getD b 0 := by
  rw [List.getD_eq_getElem?_getD, List.getD_eq_getElem?_getD, List.getElem?_set_ne h]
theorem readN_now (p : Pg) (i : Nat) (a b : Int) : ∀ (n c : Nat) (s : Ps), (readN p i a b n c s).now = s.now ∧ (readN p i a b n c s).setters = s.setters ∧ (readN p i a b n c s).changed = s.changed
  | 0, _, _ => ⟨rfl, rfl, rfl⟩
  | n + 1, c, s => by
    simp only [readN]
    obtain ⟨h1, h2, h3⟩ := readN_now p i a b n (c + 1) (readOne p i a b c s)
    exact ⟨h1, h2, h3⟩
theorem step_line {p : Pg} {s : Ps} {e : Nt} (i line : Nat) (hs : PsOK p s) (he : entB p e = true) (hl : line < p.lines.length) :
    (stepS p i e s).now.getD line 0 = (match chgB e line with | false => s.now.getD line 0 | true => (match e.nums with | [_, _, c] => c | _ => (s.now.getD line 0).tdiv 10)) ∧
    (stepS p i e s).setters.getD line 0 = (match chgB e line with | false => s.setters.getD line 0 | true => (match e.nums with | [a, _, _] => a | _ => s.setters.getD line 0)) ∧
    (stepS p i e s).changed.getD line 0 = (match chgB e line with | false => s.changed.getD line 0 | true => (i : Int)) := by
  rcases entB_cases he with ⟨a, rfl, ha⟩ | ⟨a, b, c, rfl, ha, hb, hc⟩ | ⟨a, b, c, n, rfl, ha, hb, hab, hcn, hn⟩
  · simp only [stepS, changeS, chgB, Int.toNat_natCast]
    by_cases h : a = line
    · subst h
      rw [getD_set_eq (by rw [hs.now]; exact ha), getD_set_eq (by rw [hs.changed]; exact ha)]
      simp
    · have h2 : ¬ (a : Int) = line := by omega
      rw [getD_set_ne h, getD_set_ne h, decide_eq_false h2]
      exact ⟨rfl, rfl, rfl⟩
  · simp only [stepS, changeS, chgB, Int.toNat_natCast]
    by_cases h : b = line
    · subst h
      rw [getD_set_eq (by rw [hs.now]; exact hb), getD_set_eq (by rw [hs.setters]; exact hb), getD_set_eq (by rw [hs.changed]; exact hb)]
      simp
    · have h2 : ¬ (b : Int) = line := by omega
      rw [getD_set_ne h, getD_set_ne h, getD_set_ne h, decide_eq_false h2]
      exact ⟨rfl, rfl, rfl⟩
  · simp only [stepS, chgB]
    obtain ⟨h1, h2, h3⟩ := readN_now p i a b ((c : Int) + n - 1 - c + 1).toNat (c : Int).toNat s
    rw [h1, h2, h3]
    exact ⟨rfl, rfl, rfl⟩
end Go.Vc

namespace Go.Vc
open Go Go.Proofs
variable {g : GG}
attribute [local simp] and_assoc
def chN (p : Pg) (line i : Nat) : Int := (stN p i).changed.getD line 0
theorem chN_spec {p : Pg} (hok : p.ok = true) {line : Nat} (hl : line < p.lines.length) : ∀ M, M ≤ p.log.length → (-1 ≤ chN p line M ∧ chN p line M < M) ∧ ∀ k e, k < M → p.log[k]? = some e → (chgB e line = true → (k : Int) ≤ chN p line M) ∧ (chgB e line = false → chN p line M ≠ k)
  | 0, _ => by
    refine ⟨?_, fun k e hk => by omega⟩
    have : (st0 p).changed.getD line 0 = -1 := by
      simp only [st0]
      rw [List.getD_eq_getElem?_getD, List.getElem?_map, List.getElem?_eq_getElem hl]; rfl
    simp only [chN, stN, this]
    omega
  | M + 1, hM => by
    obtain ⟨h1, h2⟩ := chN_spec hok hl M (by omega)
    have hg : p.log[M]? = some p.log[M] := List.getElem?_eq_getElem (by omega)
    have he := (Pg.ok_len hok).2.2.2.2.2.2 _ (List.getElem_mem (show M < p.log.length by omega))
    have hst := (step_line M line (stN_ok hok M (by omega)).1 he hl).2.2
    generalize p.log[M] = x at hg he hst
    have e1 : chN p line (M + 1) = (match chgB x line with | false => chN p line M | true => (M : Int)) := by
      simp only [chN, stN, hg]
      exact hst
    cases hc : chgB x line with
    | false =>
      rw [hc] at e1
      have e1 : chN p line (M + 1) = chN p line M := e1
      rw [e1]
      refine ⟨by omega, fun k e hk hke => ?_⟩
      by_cases hkM : k = M
      · subst hkM
        rw [hg] at hke
        obtain rfl := Option.some.inj hke
        rw [hc]
        exact ⟨(fun h => by cases h), (fun _ => by omega)⟩
      · exact h2 k e (by omega) hke
    | true =>
      rw [hc] at e1
      have e1 : chN p line (M + 1) = (M : Int) := e1
      rw [e1]
      refine ⟨by omega, fun k e hk hke => ?_⟩
      by_cases hkM : k = M
      · subst hkM
        rw [hg] at hke
        obtain rfl := Option.some.inj hke
        rw [hc]
        exact ⟨(fun _ => by omega), (fun h => by cases h)⟩
      · exact ⟨(fun _ => by omega), (fun _ => by omega)⟩
theorem ref09_changed_meets (p : Pg) (line i : Nat) (hok : p.ok = true) (hl : line < p.lines.length) (hi : i ≤ p.log.length) : Meets (Tz g) f_ref09_changed [p.d, int line, int i] ⟨.d (.bool (decide ((i : Int) ≤ chN p line p.log.length))), []⟩ := by
  obtain ⟨a1, a2, a3, a4, a5, a6, a7⟩ := Pg.ok_len hok
  obtain ⟨⟨c1, c2⟩, c3⟩ := chN_spec hok hl p.log.length (Nat.le_refl _)
  generalize chN p line p.log.length = ch at c1 c2 c3
  refine meets_ref09_changed ?_
  unfold vc_ref09_changed
  simp [Pg.d, lns, ents]
  refine LOOP.mk Nat (fun k => [.d (int line), .ptr 24 0 0 0, .d (int k)]) (fun _ => [(24, some ⟨0, T_api_ProofPage, .box [.d (int p.people), .d (.list (p.lines.map Ln.d)), .d (.list (p.log.map Nt.d))]⟩)])
    (fun k => k ≤ p.log.length ∧ ((i : Int) ≤ ch ↔ (k : Int) ≤ ch)) (fun k => p.log.length - k) [] (by simp) i ⟨by omega, Iff.rfl⟩ (by simp [WEAK]) (fun _ _ => rfl) ?_
  rintro k ⟨hk, he⟩
  simp [vc_ref09_changed_k0]
  constructor
  · intro hlt
    have hg : p.log[k]? = some p.log[k] := List.getElem?_eq_getElem hlt
    have hen := a7 _ (List.getElem_mem hlt)
    obtain ⟨d1, d2⟩ := c3 k _ hlt hg
    generalize p.log[k] = e at hg hen d1 d2
    have hC := ref09_changes_meets (g := g) p e line hen
    simp [hg, Nt.d]
    refine CALL.val [e.d, int line] _ rfl hC (.inl rfl) ?_
    cases hc : chgB e line with
    | true =>
      have := d1 hc
      have h2 : (i : Int) ≤ ch := he.2 this
      simp [h2]
    | false =>
      have := d2 hc
      simp
      rw [wrap_id (n := (k : Int) + 1) (by omega) (by omega)]
      exact ⟨k + 1, by omega, by omega, by simp [WEAK], by omega⟩
  · intro hge
    have : ¬ (i : Int) ≤ ch := by omega
    simpa using this
end Go.Vc
