/- A part of the proof: general laws of a reading of the model by abstract data, or contracts of the functions that the law calls. -/
import Derived.Test.YtjdgidaoknlnlaaGreatDoorVc23
import Derived.Test.YtjdgidaoknlnlaaGreatDoorVc11
import Derived.Test.YtjdgidaoknlnlaaGreatDoorVc46
set_option maxRecDepth 100000
namespace Go.Vc
open Go Go.Proofs Go.RowKit
def ann_law09_mend : Nat → List Nat := fun n => match n with  | _ => []
def vc_law09_mend (P : Ctx) (pre : List ABlk) (a0 a1 a2 : AV) (r : AV) (post : List PB) : Prop :=
  let h0 : Heap := numbered 0 pre
  ALLOC T_api_ProofEntry [.d (.num .i64 0), .zc] 24 h0 fun v6 h1 =>
  MKS T_int 1 [a0, a1, a2] 56 h1 fun v10 h2 =>
  BUILD [(0, 1), (1, 1)] [.d (.num .i64 0), .zc] [(0, (.d (.num .i64 2))), (1, v10)] fun v11 =>
  STORE 2 v6 v11 h2 fun h3 =>
  LOAD true 2 v6 h3 fun r4 =>
  POST r4 h3 pre r post
theorem vc_law09_mend_eq (g : GG) (pre : List ABlk) (a0 a1 a2 : AV) (r : AV) (post : List PB) : vcFn2 (Tz g) false ann_law09_mend Tryz.f30 pre [a0, a1, a2] (.ret r) post = vc_law09_mend (Tz g) pre a0 a1 a2 r post := by kernel_rfl
theorem hf_law09_mend : Tryz.prog.funcs[f_law09_mend]? = some Tryz.f30 := by kernel_rfl
theorem ok_law09_mend : fnVcOK Tryz.prog Tryz.f30 = true := by kernel_rfl
theorem nt_law09_mend : Nat.ble 3 Tryz.f30.ntmps = true := by kernel_rfl
theorem meetsH_law09_mend {g : GG} {pre : List ABlk} {a0 a1 a2 : AV} {r : AV} {post : List PB} (hk : Nat.ble pre.length 24 = true) (h : vc_law09_mend (Tz g) pre a0 a1 a2 r post) : MeetsH (Tz g) f_law09_mend pre [a0, a1, a2] (.ret r) post :=
  meetsH_of_vc (C := Tz g) ann_law09_mend hf_law09_mend ok_law09_mend nt_law09_mend hk (pn := false) (Eq.mpr ((vcFn2_eq _ _ _ _ _ _ _ _).trans (vc_law09_mend_eq g pre a0 a1 a2 r post)) h)
theorem meets_law09_mend {g : GG} {a0 a1 a2 : D} {r : Res} (h : vc_law09_mend (Tz g) [] (.d a0) (.d a1) (.d a2) r.val (r.bl.map .upd)) : Meets (Tz g) f_law09_mend [a0, a1, a2] r := meetsH_law09_mend rfl h
end Go.Vc

namespace Go.Vc
open Go Go.Proofs
variable {g : GG}
attribute [local simp] and_assoc
theorem law09_mend_meets (b line n : Int) : Meets (Tz g) f_law09_mend [int b, int line, int n] ⟨.d (⟨2, [b, line, n]⟩ : Nt).d, []⟩ := by
  refine meets_law09_mend ?_
  unfold vc_law09_mend
  simp [Nt.d, ints]
theorem in_fltL {f : Nat → Bool} {m k : Nat} : (k : Int) ∈ fltL f m ↔ k < m ∧ f k = true := by
  simp only [fltL, List.mem_map, List.mem_filter, List.mem_range]
  constructor
  · rintro ⟨n, ⟨h1, h2⟩, h3⟩
    have : n = k := by omega
    subst this
    exact ⟨h1, h2⟩
  · intro h
    exact ⟨k, h, rfl⟩
theorem fltL_congr {f h : Nat → Bool} {m : Nat} (e : ∀ k, k < m → f k = h k) : fltL f m = fltL h m := by
  unfold fltL
  congr 1
  exact List.filter_congr (fun k hk => e k (List.mem_range.1 hk))
theorem errN_fst {fr bs : List Int} : ∀ {k : Nat} {l : List (Int × Int)}, errN fr bs k = some l → l.map Prod.fst = fltL (fun i => !decide (bs.getD i 0 = fr.getD i 0)) k ∧ ∀ e, e ∈ l → 1 ≤ e.2 ∧ e.2 ≤ 4
  | 0, l, h => by simp only [errN, Option.some.injEq] at h; subst h; exact ⟨rfl, fun e he => by cases he⟩
  | k + 1, l, h => by
    simp only [errN] at h
    cases h1 : errN fr bs k with
    | none => rw [h1] at h; cases h
    | some m =>
      obtain ⟨i1, i2⟩ := errN_fst h1
      rw [h1] at h
      simp only at h
      rw [fltL_succ, ← i1]
      cases h2 : decide (bs.getD k 0 = fr.getD k 0) with
      | true =>
        rw [h2] at h
        simp only [Option.some.injEq] at h
        subst h
        exact ⟨by simp, i2⟩
      | false =>
        rw [h2] at h
        simp only at h
        cases h3 : kindAt fr bs k with
        | zero => rw [h3] at h; cases h
        | succ q =>
          rw [h3] at h
          simp only [Option.some.injEq] at h
          subst h
          refine ⟨by simp, fun e he => ?_⟩
          rcases List.mem_append.1 he with he | he
          · exact i2 e he
          · have := kindF_le (fr.getD k 0) (nextOf fr k) (decide (k + 1 = fr.length)) (bs.getD k 0)
            have h4 : kindF (fr.getD k 0) (nextOf fr k) (decide (k + 1 = fr.length)) (bs.getD k 0) = kindAt fr bs k := rfl
            rw [List.mem_singleton.1 he]
            show 1 ≤ (q : Int) + 1 ∧ (q : Int) + 1 ≤ 4
            omega
theorem rightsL_at (p : Pg) {k : Nat} (h : k < p.lines.length) : (rightsL p).getD k 0 = rightL p k := by
  have : p.lines[k]? = some p.lines[k] := List.getElem?_eq_getElem h
  rw [List.getD_eq_getElem?_getD]
  simp only [rightsL, List.getElem?_map, this, rightL]
  rfl
theorem dif_flt {p : Pg} (_hok : p.ok = true) : fltL (fun i => !decide ((nowL p).getD i 0 = (rightsL p).getD i 0)) p.lines.length = difL p := by
  refine fltL_congr (fun k hk => ?_)
  rw [rightsL_at p hk]
  rfl
theorem err_law {p : Pg} (hok : p.ok = true) : (errCP p = 0 ∧ (errLP p).map Prod.fst = difL p ∧ ∀ e, e ∈ errLP p → 1 ≤ e.2 ∧ e.2 ≤ 4) ∨ (errCP p = 5 ∧ errLP p = [] ∧ difL p ≠ []) := by
  have hn := nowL_len hok
  unfold errCP errLP errC errL
  cases h : errN (rightsL p) (nowL p) (nowL p).length with
  | some l =>
    obtain ⟨h1, h2⟩ := errN_fst h
    rw [hn, dif_flt hok] at h1
    exact .inl ⟨rfl, h1, h2⟩
  | none =>
    obtain ⟨j, l, c1, c2, c3, c4⟩ := errN_least h
    refine .inr ⟨rfl, rfl, fun h0 => ?_⟩
    rw [hn] at c1
    have : (j : Int) ∈ difL p := by
      rw [← dif_flt hok]
      refine in_fltL.2 ⟨c1, ?_⟩
      rw [decide_eq_false c3]; rfl
    rw [h0] at this
    cases this
theorem mend_dif {p : Pg} {line : Nat} {b : Int} (hok : p.ok = true) (hl : line < p.lines.length) (he : entB p ⟨2, [b, (line : Int), rightL p line]⟩ = true) (j : Nat) (hj : j < p.lines.length) :
    difB (withE p ⟨2, [b, (line : Int), rightL p line]⟩) (stN (withE p ⟨2, [b, (line : Int), rightL p line]⟩) (withE p ⟨2, [b, (line : Int), rightL p line]⟩).log.length) j = (!decide (j = line) && difB p (stN p p.log.length) j) := by
  have hs := (step_line (s := stN p p.log.length) p.log.length j (stN_ok hok _ (Nat.le_refl _)).1 he hj).1
  rw [stN_last]
  have hr : ∀ k, rightL (withE p ⟨2, [b, (line : Int), rightL p line]⟩) k = rightL p k := fun k => rfl
  have hc : chgB ⟨2, [b, (line : Int), rightL p line]⟩ j = decide ((line : Int) = j) := rfl
  rw [hc] at hs
  unfold difB
  rw [hr]
  by_cases h : j = line
  · subst h
    rw [decide_eq_true rfl] at hs
    rw [hs]
    simp
  · have h2 : ¬ (line : Int) = j := by omega
    rw [decide_eq_false h2] at hs
    rw [hs, decide_eq_false h]
    simp
end Go.Vc
