/- A part of the proof: general laws of a reading of the model by abstract data, or contracts of the functions that the law calls. -/
import Derived.Test.YtjdgidaoknlnlaaGreatDoorVc50
set_option maxRecDepth 100000
namespace Go.Vc
open Go Go.Proofs
variable {g : GG}
attribute [local simp] and_assoc
def useS (m : Nat) (e : Nt) (r : List Nt) : Bool := isRd e && (List.range m).all fun (k : Nat) => !(rdsB e k) || r.any (fun x => chgB x k)
def dropU (m : Nat) : List Nt → List Nt
  | [] => []
  | e :: r => match useS m e r with | true => dropU m r | false => e :: dropU m r
theorem chN_any {p : Pg} (hok : p.ok = true) {k : Nat} (hl : k < p.lines.length) (i : Nat) : decide ((i : Int) ≤ chN p k p.log.length) = (p.log.drop i).any (fun x => chgB x (k : Int)) := by
  obtain ⟨⟨c1, c2⟩, c3⟩ := chN_spec hok hl p.log.length (Nat.le_refl _)
  apply Bool.eq_iff_iff.2
  rw [decide_eq_true_eq, List.any_eq_true]
  constructor
  · intro h
    obtain ⟨j, hj⟩ : ∃ j : Nat, chN p k p.log.length = j := ⟨(chN p k p.log.length).toNat, by omega⟩
    rw [hj] at h c2 c3
    have hg : p.log[j]? = some p.log[j] := List.getElem?_eq_getElem (by omega)
    generalize p.log[j] = e at hg
    refine ⟨e, ?_, ?_⟩
    · have : (p.log.drop i)[j - i]? = some e := by
        rw [List.getElem?_drop]
        have : i + (j - i) = j := by omega
        rw [this, hg]
      exact List.mem_of_getElem? this
    · cases hc : chgB e k with
      | true => rfl
      | false => exact absurd rfl ((c3 j e (by omega) hg).2 hc)
  · rintro ⟨e, he, hc⟩
    obtain ⟨n, hn⟩ := List.getElem?_of_mem he
    rw [List.getElem?_drop] at hn
    have hlt := (List.getElem?_eq_some_iff.1 hn).1
    have := (c3 (i + n) e hlt hn).1 hc
    omega
theorem drop_cons {α : Type} {L : List α} {i : Nat} {e : α} (hg : L[i]? = some e) : L.drop i = e :: L.drop (i + 1) := by
  have h := List.getElem?_eq_some_iff.1 hg
  obtain ⟨h1, h2⟩ := h
  rw [List.drop_eq_getElem_cons h1, h2]
theorem uslB_useS {p : Pg} (hok : p.ok = true) {i : Nat} {e : Nt} (hg : p.log[i]? = some e) : uslB p i = useS p.lines.length e (p.log.drop (i + 1)) := by
  have he := (Pg.ok_len hok).2.2.2.2.2.2 _ (List.mem_of_getElem? hg)
  have hd := drop_cons hg
  rcases entB_cases he with ⟨a, rfl, ha⟩ | ⟨a, b, c, rfl, ha, hb, hc⟩ | ⟨a, b, c, n, rfl, ha, hb, hab, hcn, hn⟩
  · simp only [uslB, hg, useS, isRd, Bool.false_and]
  · simp only [uslB, hg, useS, isRd, Bool.false_and]
  · simp only [uslB, hg, useS, isRd, Bool.true_and, rdsB]
    apply Bool.eq_iff_iff.2
    rw [List.all_eq_true, List.all_eq_true]
    have key : ∀ k : Nat, k ∈ List.range p.lines.length → decide ((i : Int) ≤ chN p k p.log.length) = (p.log.drop (i + 1)).any (fun x => chgB x (k : Int)) := fun k hk => by
      rw [chN_any hok (List.mem_range.1 hk), hd]
      rfl
    constructor
    · intro h k hk
      rw [← key k hk]
      exact h k hk
    · intro h k hk
      rw [key k hk]
      exact h k hk
theorem dropI_dropU {p : Pg} (hok : p.ok = true) : ∀ (L : List Nt) (i : Nat), p.log.drop i = L → dropI (uslL p) L i = dropU p.lines.length L
  | [], i, _ => rfl
  | e :: r, i, h => by
    have hi : i < p.log.length := by
      rcases Nat.lt_or_ge i p.log.length with h1 | h1
      · exact h1
      · rw [List.drop_eq_nil_of_le h1] at h
        cases h
    have hg : p.log[i]? = some p.log[i] := List.getElem?_eq_getElem hi
    have hd := drop_cons hg
    rw [h] at hd
    injection hd with h1 h2
    rw [← h1] at hg
    have ih := dropI_dropU hok r (i + 1) h2.symm
    have hu := uslB_useS hok hg
    rw [← h2] at hu
    have hm : decide ((i : Int) ∈ uslL p) = useS p.lines.length e r := by
      rw [← hu]
      have := in_fltL (f := uslB p) (m := p.log.length) (k := i)
      unfold uslL
      cases hb : uslB p i with
      | true => exact decide_eq_true (this.2 ⟨hi, hb⟩)
      | false => exact decide_eq_false (fun h => by rw [hb] at this; exact absurd (this.1 h).2 (by simp))
    simp only [dropI, dropU, hm, ih]
    cases useS p.lines.length e r <;> rfl
theorem useS_rd {m : Nat} {e : Nt} {r : List Nt} (h : useS m e r = true) : isRd e = true := by
  simp only [useS, Bool.and_eq_true] at h
  exact h.1
theorem any_dropU (m : Nat) (line : Int) : ∀ L, (dropU m L).any (fun x => chgB x line) = L.any (fun x => chgB x line)
  | [] => rfl
  | e :: r => by
    have ih := any_dropU m line r
    simp only [dropU]
    cases hu : useS m e r with
    | true =>
      simp only [List.any_cons, isRd_chg (useS_rd hu), Bool.false_or]
      exact ih
    | false =>
      simp only [List.any_cons, ih]
theorem useS_dropU (m : Nat) (e : Nt) (r : List Nt) : useS m e (dropU m r) = useS m e r := by
  unfold useS
  simp only [any_dropU]
theorem dropU_none (m : Nat) : ∀ (L : List Nt) (i : Nat) (e : Nt), (dropU m L)[i]? = some e → useS m e ((dropU m L).drop (i + 1)) = false
  | [], i, e, h => by simp [dropU] at h
  | x :: r, i, e, h => by
    have ih := dropU_none m r
    cases hu : useS m x r with
    | true =>
      simp only [dropU, hu] at h ⊢
      exact ih i e h
    | false =>
      simp only [dropU, hu] at h ⊢
      match i, h with
      | 0, h =>
        simp only [List.getElem?_cons_zero, Option.some.injEq] at h
        subst h
        simp only [Nat.zero_add, List.drop_succ_cons, List.drop_zero]
        rw [useS_dropU, hu]
      | i + 1, h =>
        simp only [List.getElem?_cons_succ] at h
        simp only [List.drop_succ_cons]
        exact ih i e h
theorem fold_indep {line n : Int} : ∀ (r : List Nt) (a b : Bool), r.any (fun x => chgB x line) = true → r.foldl (hasO line n) a = r.foldl (hasO line n) b
  | [], _, _, h => by simp at h
  | e :: r, a, b, h => by
    simp only [List.foldl_cons]
    cases hc : chgB e line with
    | true =>
      have e1 : ∀ v, hasO line n v e = false := fun v => by unfold hasO; rw [hc]
      rw [e1, e1]
    | false =>
      simp only [List.any_cons, hc, Bool.false_or] at h
      exact fold_indep r _ _ h
theorem rdn_rds {e : Nt} {line n : Int} (h : rdnB e line n = true) : rdsB e line = true := by
  obtain ⟨k, ns⟩ := e
  rcases ns with _ | ⟨a, _ | ⟨b, _ | ⟨c, _ | ⟨d, _ | ⟨f, r⟩⟩⟩⟩⟩
  · simp [rdnB] at h
  · simp [rdnB] at h
  · simp [rdnB] at h
  · simp [rdnB] at h
  · simp only [rdnB, Bool.and_eq_true] at h
    exact h.1
  · simp [rdnB] at h
theorem has_dropU {m line : Nat} (hl : line < m) (n : Int) : ∀ (L : List Nt) (v : Bool), (dropU m L).foldl (hasO line n) v = L.foldl (hasO line n) v
  | [], _ => rfl
  | e :: r, v => by
    have ih := has_dropU hl n r
    simp only [dropU]
    cases hu : useS m e r with
    | false =>
      simp only [List.foldl_cons]
      exact ih _
    | true =>
      simp only [List.foldl_cons]
      rw [ih, hasO_rd (useS_rd hu)]
      cases hr : rdnB e line n with
      | false => rw [Bool.or_false]
      | true =>
        apply fold_indep
        have h2 := rdn_rds hr
        simp only [useS, Bool.and_eq_true, List.all_eq_true] at hu
        have := hu.2 line (List.mem_range.2 hl)
        rw [h2] at this
        simpa using this
theorem usl_rd {p : Pg} (hok : p.ok = true) {i : Nat} (h : uslB p i = true) : ∃ (a b : Int) (c n : Nat), p.log[i]? = some ⟨1, [a, b, (c : Int), (c : Int) + n - 1]⟩ := by
  cases hg : p.log[i]? with
  | none => simp [uslB, hg] at h
  | some e =>
    have he := (Pg.ok_len hok).2.2.2.2.2.2 _ (List.mem_of_getElem? hg)
    rw [uslB_useS hok hg] at h
    have := useS_rd h
    rcases entB_cases he with ⟨a, rfl, ha⟩ | ⟨a, b, c, rfl, ha, hb, hc⟩ | ⟨a, b, c, n, rfl, ha, hb, hab, hcn, hn⟩
    · simp [isRd] at this
    · simp [isRd] at this
    · exact ⟨a, b, c, n, rfl⟩
theorem fltL_get {f : Nat → Bool} {m i : Nat} {x : Int} (h : (fltL f m)[i]? = some x) : ∃ n : Nat, x = n ∧ n < m ∧ f n = true := by
  have hm := List.mem_of_getElem? h
  simp only [fltL, List.mem_map, List.mem_filter, List.mem_range] at hm
  obtain ⟨n, ⟨h1, h2⟩, h3⟩ := hm
  exact ⟨n, h3.symm, h1, h2⟩
theorem fltL_pair (f : Nat → Bool) (m : Nat) : (fltL f m).Pairwise (fun a b => a < b) := by
  unfold fltL
  rw [List.pairwise_map]
  have : (List.range m).Pairwise (fun a b => a < b) := List.pairwise_lt_range
  exact (this.filter _).imp (fun h => by omega)
theorem fltL_next {f : Nat → Bool} {m i : Nat} {x y : Int} (h : (fltL f m)[i]? = some x) (h2 : (fltL f m)[i + 1]? = some y) : x < y := by
  obtain ⟨l1, e1⟩ := List.getElem?_eq_some_iff.1 h
  obtain ⟨l2, e2⟩ := List.getElem?_eq_some_iff.1 h2
  have := (List.pairwise_iff_getElem.1 (fltL_pair f m)) i (i + 1) l1 l2 (by omega)
  rw [e1, e2] at this
  exact this
theorem waste_law {p : Pg} (hok : p.ok = true) : (logE p (dropI (uslL p) p.log 0)).ok = true ∧ nowL p = nowL (logE p (dropI (uslL p) p.log 0)) ∧ settersL p = settersL (logE p (dropI (uslL p) p.log 0)) ∧
    (∀ line, line < p.lines.length → readersP p line = readersP (logE p (dropI (uslL p) p.log 0)) line) ∧ uslL (logE p (dropI (uslL p) p.log 0)) = [] := by
  obtain ⟨a1, a2, a3, a4, a5, a6, a7⟩ := Pg.ok_len hok
  have hq : (logE p (dropI (uslL p) p.log 0)).ok = true := logE_ok hok (by have := dropI_len (uslL p) p.log 0; omega) (fun e he => a7 e (dropI_mem _ _ _ he))
  have hrd : ∀ k e, p.log[k]? = some e → ((0 + k : Nat) : Int) ∈ uslL p → isRd e = true := fun k e hk hm => by
    rw [Nat.zero_add] at hm
    obtain ⟨a, b, c, n, h⟩ := usl_rd hok (in_fltL.1 hm).2
    rw [hk] at h
    injection h with h
    rw [h]; rfl
  have hf := fun line v w => fold_rd (line := line) (uslL p) p.log 0 v w hrd
  have hdu := dropI_dropU hok p.log 0 rfl
  have hset : ∀ line : Nat, line < p.lines.length → p.log.foldl (setO line) ((st0 p).setters.getD line 0) = (dropI (uslL p) p.log 0).foldl (setO line) ((st0 p).setters.getD line 0) := fun line _ => ((hf line 0 _).2).symm
  refine ⟨hq, now_same hok hq (fun line _ => ((hf line _ 0).1).symm), setters_same hok hq hset, fun line hl => readers_same (q := logE p (dropI (uslL p) p.log 0)) rfl (fun n hn => ?_), ?_⟩
  · have h2 := rdB_law (p := logE p (dropI (uslL p) p.log 0)) hq (line := line) (n := n) hl hn
    rw [rdB_law hok hl hn, h2]
    have e1 : (logE p (dropI (uslL p) p.log 0)).log = dropI (uslL p) p.log 0 := rfl
    have e2 : st0 (logE p (dropI (uslL p) p.log 0)) = st0 p := rfl
    rw [e1, e2, ← hset line hl, hdu, has_dropU hl]
  · have e1 : (logE p (dropI (uslL p) p.log 0)).log = dropU p.lines.length p.log := hdu
    have hall : ∀ i, uslB (logE p (dropI (uslL p) p.log 0)) i = false := fun i => by
      cases hg : (logE p (dropI (uslL p) p.log 0)).log[i]? with
      | none => simp [uslB, hg]
      | some e =>
        rw [uslB_useS hq hg]
        rw [e1] at hg ⊢
        exact dropU_none _ _ _ _ hg
    unfold uslL fltL
    have : (List.range (logE p (dropI (uslL p) p.log 0)).log.length).filter (uslB (logE p (dropI (uslL p) p.log 0))) = [] := by
      apply List.filter_eq_nil_iff.2
      intro a _
      rw [hall a]
      simp
    exact (congrArg (List.map _) this).trans rfl
theorem usl_last {p : Pg} (hok : p.ok = true) {i : Nat} (h : uslB p i = true) : ∃ (k : Nat) (e : Nt), i < k ∧ p.log[k]? = some e ∧ isRd e = false := by
  obtain ⟨a, b, c, n, hg⟩ := usl_rd hok h
  have he := (Pg.ok_len hok).2.2.2.2.2.2 _ (List.mem_of_getElem? hg)
  rw [uslB_useS hok hg] at h
  rcases entB_cases he with ⟨a', h1, _⟩ | ⟨a', b', c', h1, _⟩ | ⟨a', b', c', n', h1, ha, hb, hab, hcn, hn⟩
  · simp at h1
  · simp at h1
  · rw [h1] at h
    simp only [useS, Bool.and_eq_true, List.all_eq_true] at h
    have := h.2 c' (List.mem_range.2 (by omega))
    have hr : rdsB ⟨1, [a', b', (c' : Int), (c' : Int) + n' - 1]⟩ (c' : Int) = true := by simp [rdsB, inB]; omega
    rw [hr] at this
    simp only [Bool.not_true, Bool.false_or, List.any_eq_true] at this
    obtain ⟨e, hm, hc⟩ := this
    obtain ⟨j, hj⟩ := List.getElem?_of_mem hm
    rw [List.getElem?_drop] at hj
    refine ⟨i + 1 + j, e, by omega, hj, ?_⟩
    cases hi : isRd e with
    | false => rfl
    | true => rw [isRd_chg hi] at hc; cases hc
end Go.Vc

namespace Go.Vc
open Go Go.Proofs
variable {g : GG}
attribute [local simp] and_assoc
end Go.Vc
