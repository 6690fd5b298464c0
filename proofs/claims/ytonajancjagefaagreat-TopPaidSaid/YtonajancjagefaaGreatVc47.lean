/- A part of the proof: general laws of a reading of the model by abstract data, or contracts of the functions that the law calls. -/
import Derived.Test.YtonajancjagefaaGreatVc29
import Derived.Test.YtonajancjagefaaGreatVc15
import Derived.Test.YtonajancjagefaaGreatVc46
set_option maxRecDepth 100000
namespace Go.Vc
open Go Go.Proofs Go.RowKit
end Go.Vc

namespace Go.Vc
open Go Go.Proofs
variable {g : GG}
attribute [local simp] and_assoc
theorem in_fltL {f : Nat → Bool} {m k : Nat} : (k : Int) ∈ fltL f m ↔ k < m ∧ f k = true := by
  simp only [fltL, List.mem_map, List.mem_filter, List.mem_range]
  constructor
  · rintro ⟨n, ⟨h1, h2⟩, h3⟩
    have : n = k := by omega
    subst this
    exact ⟨h1, h2⟩
  · intro h
    exact ⟨k, h, rfl⟩
theorem fltL_congr {f h : Nat → Bool} {m : Nat} (e : ∀ k, k < m → f k = h k) : fltL f m = fltL h m := by
  unfold fltL
  congr 1
  exact List.filter_congr (fun k hk => e k (List.mem_range.1 hk))
theorem errN_fst {fr bs : List Int} : ∀ {k : Nat} {l : List (Int × Int)}, errN fr bs k = some l → l.map Prod.fst = fltL (fun i => !decide (bs.getD i 0 = fr.getD i 0)) k ∧ ∀ e, e ∈ l → 1 ≤ e.2 ∧ e.2 ≤ 4
  | 0, l, h => by simp only [errN, Option.some.injEq] at h; subst h; exact ⟨rfl, fun e he => by cases he⟩
  | k + 1, l, h => by
    simp only [errN] at h
    cases h1 : errN fr bs k with
    | none => rw [h1] at h; cases h
    | some m =>
      obtain ⟨i1, i2⟩ := errN_fst h1
      rw [h1] at h
      simp only at h
      rw [fltL_succ, ← i1]
      cases h2 : decide (bs.getD k 0 = fr.getD k 0) with
      | true =>
        rw [h2] at h
        simp only [Option.some.injEq] at h
        subst h
        exact ⟨by simp, i2⟩
      | false =>
        rw [h2] at h
        simp only at h
        cases h3 : kindAt fr bs k with
        | zero => rw [h3] at h; cases h
        | succ q =>
          rw [h3] at h
          simp only [Option.some.injEq] at h
          subst h
          refine ⟨by simp, fun e he => ?_⟩
          rcases List.mem_append.1 he with he | he
          · exact i2 e he
          · have := kindF_le (fr.getD k 0) (nextOf fr k) (decide (k + 1 = fr.length)) (bs.getD k 0)
            have h4 : kindF (fr.getD k 0) (nextOf fr k) (decide (k + 1 = fr.length)) (bs.getD k 0) = kindAt fr bs k := rfl
            rw [List.mem_singleton.1 he]
            show 1 ≤ (q : Int) + 1 ∧ (q : Int) + 1 ≤ 4
            omega
theorem rightsL_at (p : Pg) {k : Nat} (h : k < p.lines.length) : (rightsL p).getD k 0 = rightL p k := by
  have : p.lines[k]? = some p.lines[k] := List.getElem?_eq_getElem h
  rw [List.getD_eq_getElem?_getD]
  simp only [rightsL, List.getElem?_map, this, rightL]
  rfl
theorem dif_flt {p : Pg} (_hok : p.ok = true) : fltL (fun i => !decide ((nowL p).getD i 0 = (rightsL p).getD i 0)) p.lines.length = difL p := by
  refine fltL_congr (fun k hk => ?_)
  rw [rightsL_at p hk]
  rfl
theorem err_law {p : Pg} (hok : p.ok = true) : (errCP p = 0 ∧ (errLP p).map Prod.fst = difL p ∧ ∀ e, e ∈ errLP p → 1 ≤ e.2 ∧ e.2 ≤ 4) ∨ (errCP p = 5 ∧ errLP p = [] ∧ difL p ≠ []) := by
  have hn := nowL_len hok
  unfold errCP errLP errC errL
  cases h : errN (rightsL p) (nowL p) (nowL p).length with
  | some l =>
    obtain ⟨h1, h2⟩ := errN_fst h
    rw [hn, dif_flt hok] at h1
    exact .inl ⟨rfl, h1, h2⟩
  | none =>
    obtain ⟨j, l, c1, c2, c3, c4⟩ := errN_least h
    refine .inr ⟨rfl, rfl, fun h0 => ?_⟩
    rw [hn] at c1
    have : (j : Int) ∈ difL p := by
      rw [← dif_flt hok]
      refine in_fltL.2 ⟨c1, ?_⟩
      rw [decide_eq_false c3]; rfl
    rw [h0] at this
    cases this
theorem mend_dif {p : Pg} {line : Nat} {b : Int} (hok : p.ok = true) (hl : line < p.lines.length) (he : entB p ⟨2, [b, (line : Int), rightL p line]⟩ = true) (j : Nat) (hj : j < p.lines.length) :
    difB (withE p ⟨2, [b, (line : Int), rightL p line]⟩) (stN (withE p ⟨2, [b, (line : Int), rightL p line]⟩) (withE p ⟨2, [b, (line : Int), rightL p line]⟩).log.length) j = (!decide (j = line) && difB p (stN p p.log.length) j) := by
  have hs := (step_line (s := stN p p.log.length) p.log.length j (stN_ok hok _ (Nat.le_refl _)).1 he hj).1
  rw [stN_last]
  have hr : ∀ k, rightL (withE p ⟨2, [b, (line : Int), rightL p line]⟩) k = rightL p k := fun k => rfl
  have hc : chgB ⟨2, [b, (line : Int), rightL p line]⟩ j = decide ((line : Int) = j) := rfl
  rw [hc] at hs
  unfold difB
  rw [hr]
  by_cases h : j = line
  · subst h
    rw [decide_eq_true rfl] at hs
    rw [hs]
    simp
  · have h2 : ¬ (line : Int) = j := by omega
    rw [decide_eq_false h2] at hs
    rw [hs, decide_eq_false h]
    simp
end Go.Vc

namespace Go.Vc
open Go Go.Proofs
variable {g : GG}
def mendE (p : Pg) (k : Int) : Nt := ⟨2, [0, k, rightL p k.toNat]⟩
def mendK (p : Pg) (d : List Int) : Nat → Pg
  | 0 => p
  | i + 1 => withE (mendK p d i) (mendE p (d.getD i 0))
theorem mendK_same (p : Pg) (d : List Int) : ∀ i, (mendK p d i).people = p.people ∧ (mendK p d i).lines = p.lines ∧ (mendK p d i).log.length = p.log.length + i
  | 0 => ⟨rfl, rfl, rfl⟩
  | i + 1 => by
    obtain ⟨h1, h2, h3⟩ := mendK_same p d i
    refine ⟨h1, h2, ?_⟩
    simp only [mendK, withE, List.length_append, h3, List.length_singleton]
    omega
theorem mendK_law (p : Pg) (hok : p.ok = true) (d : List Int) (hd : ∀ x, x ∈ d → ∃ k : Nat, x = k ∧ k < p.lines.length) (hlog : p.log.length + d.length ≤ 10) : ∀ i, i ≤ d.length →
    (mendK p d i).ok = true ∧ ∀ j, j < p.lines.length → difB (mendK p d i) (stN (mendK p d i) (mendK p d i).log.length) j = (difB p (stN p p.log.length) j && !decide ((j : Int) ∈ d.take i))
  | 0, _ => ⟨hok, fun j _ => by simp [mendK]⟩
  | i + 1, hi => by
    obtain ⟨h1, h2⟩ := mendK_law p hok d hd hlog i (by omega)
    obtain ⟨e1, e2, e3⟩ := mendK_same p d i
    obtain ⟨a1, a2, a3, a4, a5, a6, a7⟩ := Pg.ok_len hok
    have hx : d[i]? = some (d.getD i 0) := by
      rw [List.getD_eq_getElem?_getD, List.getElem?_eq_getElem (show i < d.length by omega)]
      rfl
    obtain ⟨k, hk, hkl⟩ := hd _ (List.mem_of_getElem? hx)
    obtain ⟨ln, hln⟩ : ∃ ln, p.lines[k]? = some ln := ⟨_, List.getElem?_eq_getElem hkl⟩
    have hlb := a6 ln (List.mem_of_getElem? hln)
    have hr : rightL (mendK p d i) k = ln.right := by unfold rightL; rw [e2, hln]
    have hE : mendE p (d.getD i 0) = ⟨2, [0, (k : Int), rightL (mendK p d i) k]⟩ := by
      unfold mendE
      rw [hk, hr]
      simp only [Int.toNat_natCast]
      rw [rightL_at hln]
    have hent : entB (mendK p d i) (mendE p (d.getD i 0)) = true := by
      rw [hE, hr]
      simp only [lnB, Bool.and_eq_true] at hlb
      have hp : persB (mendK p d i) 0 = true := by simp [persB, inB, e1]; omega
      have hl : lineB (mendK p d i) (k : Int) = true := by simp [lineB, inB, e2]; omega
      simp only [entB, hp, hl, hlb.2.1, decide_true, Bool.and_self]
    refine ⟨withE_ok h1 hent (by omega), fun j hj => ?_⟩
    have hm := mend_dif (b := 0) h1 (by rw [e2]; exact hkl) (by rw [← hE]; exact hent) j (by rw [e2]; exact hj)
    rw [← hE] at hm
    have hm2 : difB (mendK p d (i + 1)) (stN (mendK p d (i + 1)) (mendK p d (i + 1)).log.length) j = (!decide (j = k) && difB (mendK p d i) (stN (mendK p d i) (mendK p d i).log.length) j) := hm
    rw [hm2, h2 j hj, List.take_add_one, hx, hk]
    have hjk : ((j : Int) = (k : Int)) ↔ j = k := by omega
    cases difB p (stN p p.log.length) j <;> by_cases hjj : j = k <;> simp [hjj] <;> omega
theorem mend_all (p : Pg) (hok : p.ok = true) (hlog : p.log.length ≤ 4) : (mendK p (difL p) (difL p).length).ok = true ∧ difL (mendK p (difL p) (difL p).length) = [] := by
  obtain ⟨a1, a2, a3, a4, a5, a6, a7⟩ := Pg.ok_len hok
  have hdl := difL_len p
  obtain ⟨h1, h2⟩ := mendK_law p hok (difL p) (fun x hx => by
    unfold difL fltL at hx
    obtain ⟨k, hk, rfl⟩ := List.mem_map.1 hx
    exact ⟨k, rfl, List.mem_range.1 (List.mem_filter.1 hk).1⟩) (by omega) (difL p).length (Nat.le_refl _)
  obtain ⟨e1, e2, e3⟩ := mendK_same p (difL p) (difL p).length
  refine ⟨h1, ?_⟩
  generalize hq : mendK p (difL p) (difL p).length = q at *
  rw [List.take_length] at h2
  unfold difL
  rw [e2]
  rw [show fltL (difB q (stN q q.log.length)) p.lines.length = fltL (fun _ => false) p.lines.length from fltL_congr (fun k hk => by
    rw [h2 k hk]
    cases hd : difB p (stN p p.log.length) k with
    | false => rfl
    | true =>
      have : (k : Int) ∈ difL p := in_fltL.2 ⟨hk, hd⟩
      simp [this])]
  simp [fltL]
theorem mem_dif {p : Pg} {x : Int} (hx : x ∈ difL p) : ∃ k : Nat, x = k ∧ k < p.lines.length := by
  unfold difL fltL at hx
  obtain ⟨k, hk, rfl⟩ := List.mem_map.1 hx
  exact ⟨k, rfl, List.mem_range.1 (List.mem_filter.1 hk).1⟩
end Go.Vc
