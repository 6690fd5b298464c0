/- A part of the proof: general laws of a reading of the model by abstract data, or contracts of the functions that the law calls. -/
import Derived.Test.YtflbianfhogdjaaGreatDoorVc34
set_option maxRecDepth 100000
namespace Go.Vc
open Go Go.Proofs
variable {g : GG}
attribute [local simp] and_assoc
def shF : List Int → Int → List (Int × Int)
  | [], _ => []
  | w :: r, i => (i, w) :: shF r (i + 1)
def shD (x : Int × Int) : D := .agg [int x.1, int x.2]
theorem shF_len : ∀ (l : List Int) (i : Int), (shF l i).length = l.length
  | [], _ => rfl
  | _ :: r, i => by simp [shF, shF_len r (i + 1)]
theorem shF_get : ∀ (l : List Int) (i : Int) (k : Nat) (w : Int), l[k]? = some w → (shF l i)[k]? = some (i + (k : Int), w)
  | [], i, k, w, h => by simp at h
  | x :: r, i, 0, w, h => by simp at h; subst h; simp [shF]
  | x :: r, i, k + 1, w, h => by
    have := shF_get r (i + 1) k w (by simpa using h)
    simp only [shF, List.getElem?_cons_succ, this]
    congr 2
    omega
def shL (p : Plan) (row : Nat) : List (Int × Int) := shF (widths p.starts row 0) 0
theorem shL_len (p : Plan) (row : Nat) : (shL p row).length = p.starts.length := by simp [shL, shF_len, widths_len]
theorem shL_get (p : Plan) (row k : Nat) (s : Sp) (h : p.starts[k]? = some s) : (shL p row)[k]? = some ((k : Int), (s.high - s.low) * (ch row k : Int)) := by
  have := widths_get p.starts row 0 k s h
  simp only [Nat.zero_add] at this
  have := shF_get _ 0 k _ this
  simpa [shL] using this
def onehot (n i : Nat) : List Int := (List.replicate n 0).set i 1
theorem onehot_len (n i : Nat) : (onehot n i).length = n := by simp [onehot]
set_option maxHeartbeats 1000000 in
theorem shares_meets (p : Plan) (row : Nat) (h : p.ok = true) (hr : row ≤ 12) : Meets (Tz g) f_differ_shares [p.d, int row] ⟨.own 0 0, [⟨0, T_differ_share, .lst ((shL p row).map shD)⟩]⟩ := by
  obtain ⟨a1, a2, a3, a4, a5⟩ := Plan.ok_len h
  refine meets_differ_shares ?_
  unfold vc_differ_shares
  simp [Plan.d, spans]
  refine LOOP.mk Nat (fun k => [.d (int row), .ptr 24 0 0 0, .own 80 k, .d (spans p.starts), .d (int p.starts.length), .d (int k)]) (fun k => [(80, some ⟨k, T_differ_share, .lst (((shL p row).map shD).take k)⟩), (24, some ⟨0, T_api_DifferPlan, .box [.d (spans p.starts), .d (int p.rows), .d (int p.guard)]⟩)]) (fun k => k ≤ p.starts.length) (fun k => p.starts.length - k) [(2, T_differ_share)] (by simp) 0 (by omega) (by simp [WEAK, spans]) (fun _ _ => rfl) ?_
  intro k hk
  simp [vc_differ_shares_k1, spans]
  constructor
  · intro hlt
    have hg : p.starts[k]? = some p.starts[k] := List.getElem?_eq_getElem hlt
    have hb := startB_le (a5 p.starts[k] (List.getElem_mem _))
    have hsh := shL_get p row k _ hg
    generalize p.starts[k] = s at hg hb hsh
    simp [hg, Sp.d]
    have hl := shL_len p row
    have hoh : (List.replicate p.starts.length (int 0)).set k (int 1) = (onehot p.starts.length k).map int := by simp [onehot, List.map_set]
    have hol := onehot_len p.starts.length k
    have hv := after_head (onehot p.starts.length k) row (by omega)
    rw [onehot, valL_one p.starts.length k row 0 hlt, Nat.zero_add] at hv
    have hr0 : (List.replicate p.starts.length (D.num IntKind.i64 0))[k]? = some (int 0) := by simp [hlt]
    simp only [hr0]
    simp
    refine ⟨by omega, hlt, ?_⟩
    refine CALL.mk [tabD p (onehot p.starts.length k), int row] _ (by simp [tabD, spans, ints, ← hoh]) (differ_state_meets p (onehot p.starts.length k) row (by omega) (by omega) hr ?_) (.inr (by simp [Res.flatP, AV.flatB, blksFlat, Body.flatP, D.flatB])) (by simp) ?_
    · intro x hx
      simp only [onehot] at hx
      rcases List.mem_or_eq_of_mem_set hx with hx | hx
      · have := (List.mem_replicate.1 hx).2; omega
      · omega
    have hal := afterL_length (onehot p.starts.length k) row
    have hg0 : (afterL row (onehot p.starts.length k))[0]? = some ((afterL row (onehot p.starts.length k)).headD 0) := by
      cases hq : afterL row (onehot p.starts.length k) with
      | nil => rw [hq] at hal; simp at hal; omega
      | cons a r => rfl
    have hv' : (afterL row (onehot p.starts.length k)).headD 0 = (ch row k : Int) := hv
    rw [hv'] at hg0
    have hch := (ch_facts row (by omega) k (by omega)).1
    have hmul : (s.high - s.low) * (ch row k : Int) ≤ 6 * (ch row k : Int) := Int.mul_le_mul_of_nonneg_right (by omega) (by omega)
    have hmul0 : 0 ≤ (s.high - s.low) * (ch row k : Int) := Int.mul_nonneg (by omega) (by omega)
    simp [vc_differ_shares_k0, hg0, hal, hol]
    rw [wrap_id (n := s.high - s.low) (by omega) (by omega), wrap_id (n := (s.high - s.low) * (ch row k : Int)) (by omega) (by omega), wrap_id (n := (k : Int) + 1) (by omega) (by omega)]
    have h7 := take_next (L := (shL p row).map shD) (k := k) (x := shD ((k : Int), (s.high - s.low) * (ch row k : Int))) (by simp [hsh])
    refine ⟨by omega, by omega, rfl, k + 1, by omega, ?_, by omega⟩
    simp [WEAK]
    rw [h7]
    simp [shD]
  · intro hge
    have : k = p.starts.length := by omega
    subst this
    exact take_all (by simp [shL_len])
theorem sum_meets (l : List Int) (hl : l.length ≤ 1000) (h : ∀ w, w ∈ l → 0 ≤ w ∧ w ≤ 6000) : Meets (Tz g) f_differ_sum [ints l] ⟨.d (int (sumL l)), []⟩ := by
  refine meets_differ_sum ?_
  unfold vc_differ_sum
  simp [ints]
  refine LOOP.mk Nat (fun k => [.d (int (sumL (l.take k))), .d (ints l), .d (int l.length), .d (int k)]) (fun k => []) (fun k => k ≤ l.length) (fun k => l.length - k) [] (by simp) 0 (by simp) (by simp [WEAK, ints, sumL]) (fun _ _ => rfl) ?_
  intro k hk
  simp [ints]
  constructor
  · intro hlt
    have hg : l[k]? = some l[k] := List.getElem?_eq_getElem hlt
    have hw := h l[k] (List.getElem_mem _)
    generalize l[k] = w at hg hw
    have hb := sumL_bound (l.take k) (fun x hx => h x (List.mem_of_mem_take hx))
    have hlen : (l.take k).length = k := by simp; omega
    rw [hlen] at hb
    simp [hg]
    rw [wrap_id (n := sumL (l.take k) + w) (by omega) (by omega), wrap_id (n := (k : Int) + 1) (by omega) (by omega)]
    have hs : sumL (l.take (k + 1)) = sumL (l.take k) + w := by rw [take_next hg, sumL_snoc]
    exact ⟨k + 1, by omega, by simp [WEAK, hs], by omega⟩
  · intro hge
    rw [take_all hge]
theorem Blame_1_meets (a b : Int × Int) : Meets (Tz g) f_differ_Blame_1 [shD a, shD b] ⟨.d (.bool (decide (b.2 < a.2))), []⟩ := by
  refine meets_differ_Blame_1 ?_
  unfold vc_differ_Blame_1
  simp [shD]
def bestF : List (Int × Int) → Int × Int → Int × Int
  | [], o => o
  | x :: r, o => bestF r (if o.2 < x.2 then x else o)
@[local simp] theorem shD_cells (x : Int × Int) : (shD x).cells = [int x.1, int x.2] := rfl
theorem best_meets (x0 : Int × Int) (l : List (Int × Int)) (hl : l.length ≤ 1000) : Meets (Tz g) f_differ_best_differ_share [.list ((x0 :: l).map shD), .fn f_differ_Blame_1 [] []] ⟨.d (shD (bestF l x0)), []⟩ := by
  refine meets_differ_best_differ_share ?_
  unfold vc_differ_best_differ_share
  simp
  refine ⟨by rintro _ _ _ _ rfl; rfl, by omega, ?_⟩
  rw [take_all (by simp)]
  refine LOOP.mk (Nat × (Int × Int)) (fun st => [.d (.fn f_differ_Blame_1 [] []), .ptr 24 0 0 0, .ptr 56 0 0 0, .d (.list (l.map shD)), .d (int l.length), .d (int st.1)]) (fun st => [(56, some ⟨0, T_differ_share, .box [.d (int st.2.1), .d (int st.2.2)]⟩), (24, some ⟨0, T_differ_share, .box [.d (int 0), .d (int 0)]⟩)]) (fun st => st.1 ≤ l.length ∧ bestF l x0 = bestF (l.drop st.1) st.2) (fun st => l.length - st.1) [] (by simp) (0, x0) (by simp) (by simp [WEAK]) (fun _ _ => rfl) ?_
  rintro ⟨k, o⟩ ⟨hk, he⟩
  simp only at hk he
  simp [vc_differ_best_differ_share_k0]
  constructor
  · intro hlt
    have hg : l[k]? = some l[k] := List.getElem?_eq_getElem hlt
    rw [List.drop_eq_getElem_cons hlt] at he
    generalize l[k] = x at hg he
    obtain ⟨x1, x2⟩ := x
    obtain ⟨o1, o2⟩ := o
    simp [hg, shD]
    refine CALL.val [shD (x1, x2), shD (o1, o2)] _ (by simp [shD]) (Blame_1_meets _ _) (.inl rfl) ?_
    simp only [bestF] at he
    simp
    rw [wrap_id (n := (k : Int) + 1) (by omega) (by omega)]
    constructor
    · intro hq
      rw [if_pos hq] at he
      exact ⟨k + 1, by omega, x1, x2, he, by simp [WEAK], by omega⟩
    · intro hq
      rw [if_neg (by omega)] at he
      exact ⟨k + 1, by omega, o1, o2, he, by simp [WEAK], by omega⟩
  · intro hge
    rw [List.drop_eq_nil_of_le hge] at he
    simp [he, bestF, shD]
end Go.Vc

namespace Go.Vc
open Go Go.Proofs
variable {g : GG}
attribute [local simp] and_assoc
theorem best_blame : ∀ (l : List Int) (i : Int) (m : Int × Int), bestF (shF l i) m = blameF l i m
  | [], _, _ => rfl
  | w :: r, i, m => by simp only [shF, bestF, blameF]; exact best_blame r (i + 1) _
theorem blame_head (w : Int) (r : List Int) (h : 0 ≤ w) : blameF (w :: r) 0 (0, 0) = blameF r 1 (0, w) := by
  simp only [blameF]
  by_cases hw : 0 < w
  · simp [hw]
  · have : w = 0 := by omega
    subst this; simp
def blamR (m : Int × Int) : Res := if m.2 ≤ 0 then ⟨.tup [.d (int 0), .d (int 5)], []⟩ else ⟨.tup [.d (int m.1), .d (int 0)], []⟩
def blamT (m : Int × Int) : Res := ⟨.tup [.d (int m.1), .d (.bool (decide (0 < m.2)))], []⟩
set_option maxHeartbeats 1000000 in
theorem differ_Blame_ok (p : Plan) (row : Nat) (h : p.ok = true) (hrow : (row : Int) < p.rows) : Meets (Tz g) f_differ_Blame [p.d, int row] (blamR (blameO p row)) := by
  obtain ⟨a1, a2, a3, a4, a5⟩ := Plan.ok_len h
  have hib : inB (row : Int) 0 (p.rows - 1) = true := by simp [inB]; omega
  have hwb := widths_bound row (by omega) p.starts 0 a5 (by omega)
  have hwl := widths_len p.starts row 0
  have hsl := shL_len p row
  refine meets_differ_Blame ?_
  unfold vc_differ_Blame
  simp [Plan.d, spans]
  refine CALL.val [p.d] _ rfl (differ_isPlan_meets p (by omega)) (.inl rfl) ?_
  simp [h]
  refine CALL.val [p.d, int row] _ rfl (differ_hasRow_meets p row ⟨a3, a4⟩) (.inl rfl) ?_
  simp [hib, vc_differ_Blame_k2]
  refine CALL.mk [p.d, int row] _ rfl (shares_meets p row h (by omega)) (.inl rfl) (by simp) ?_
  simp [hsl]
  refine LOOP.mk Nat (fun k => [.own 136 0, .own 184 k, .own 136 0, .d (int p.starts.length), .d (int k)]) (fun k => [(184, some ⟨k, T_int, .lst (((widths p.starts row 0).map int).take k)⟩), (136, some ⟨0, T_differ_share, .lst ((shL p row).map shD)⟩)]) (fun k => k ≤ p.starts.length) (fun k => p.starts.length - k) [(1, T_int)] (by simp) 0 (by omega) (by simp [WEAK]) (fun _ _ => rfl) ?_
  intro k hk
  simp
  constructor
  · intro hlt
    have hg : p.starts[k]? = some p.starts[k] := List.getElem?_eq_getElem hlt
    have hsh := shL_get p row k _ hg
    have hwg := widths_get p.starts row 0 k _ hg
    rw [Nat.zero_add] at hwg
    have h7 := take_next (L := (widths p.starts row 0).map int) (k := k) (x := int ((p.starts[k].high - p.starts[k].low) * (ch row k : Int))) (by simp [hwg])
    generalize (p.starts[k].high - p.starts[k].low) * (ch row k : Int) = w at hsh h7
    simp [vc_differ_Blame_k0, hsh, hsl, shD]
    rw [wrap_id (n := (k : Int) + 1) (by omega) (by omega)]
    refine ⟨hlt, by omega, k + 1, by omega, ?_, by omega⟩
    simp [WEAK]
    rw [h7]
  · intro hge
    have : k = p.starts.length := by omega
    subst this
    rw [take_all (by simp [hwl])]
    simp [vc_differ_Blame_k1]
    refine CALL.val [ints (widths p.starts row 0)] _ (by simp [ints]) (sum_meets _ (by omega) hwb) (.inr rfl) ?_
    have hbs := blame_sum _ hwb
    simp
    constructor
    · intro hs
      have := hbs.1 hs
      simp [blamR, blameO, this]
    · intro hs
      have hm : ¬ (blameF (widths p.starts row 0) 0 (0, 0)).2 ≤ 0 := fun h => hs (hbs.2 h)
      cases hW : widths p.starts row 0 with
      | nil => rw [hW] at hwl; simp at hwl; omega
      | cons w r =>
        rw [hW] at hwb hm
        have hw0 := (hwb w (by simp)).1
        have hsL : shL p row = (0, w) :: shF r 1 := by simp [shL, hW, shF]
        have hlr : r.length ≤ 3 := by rw [hW] at hwl; simp at hwl; omega
        simp [hsL]
        refine CALL.val [.list (((0, w) :: shF r 1).map shD), .fn f_differ_Blame_1 [] []] _ (by simp) (best_meets (0, w) (shF r 1) (by rw [shF_len]; omega)) (.inr rfl) ?_
        rw [best_blame, ← blame_head w r hw0]
        simp [shD, blamR, blameO, hW]
        simp at hm
        rw [if_neg (by omega)]
        simp
theorem differ_Blame_bad (p : Plan) (row : Int) (hl : p.starts.length ≤ 1000) (h : p.ok = false ∨ (p.ok = true ∧ inB row 0 (p.rows - 1) = false)) : Meets (Tz g) f_differ_Blame [p.d, int row] ⟨.tup [.d (int 0), .d (int 2)], []⟩ := by
  refine meets_differ_Blame ?_
  unfold vc_differ_Blame
  simp [Plan.d, spans]
  refine CALL.val [p.d] _ rfl (differ_isPlan_meets p hl) (.inl rfl) ?_
  rcases h with h | ⟨h, hb⟩
  · simp [h]
  · obtain ⟨a1, a2, a3, a4, a5⟩ := Plan.ok_len h
    simp [h]
    refine CALL.val [p.d, int row] _ rfl (differ_hasRow_meets p row ⟨a3, a4⟩) (.inl rfl) ?_
    simp [hb, vc_differ_Blame_k2]
end Go.Vc

namespace Go.Vc
open Go Go.Proofs
variable {g : GG}
attribute [local simp] and_assoc
def blameV (p : Plan) (row : Int) : Int × Int := if (p.ok && inB row 0 (p.rows - 1)) = true then (if (blameO p row.toNat).2 ≤ 0 then (0, 5) else ((blameO p row.toNat).1, 0)) else (0, 2)
def widestV (p : Plan) (i : Int) : Int × Int := if (p.ok && inB i 0 (p.starts.length - 1)) = true then (match p.starts[i.toNat]? with | some s => (match widestO p i.toNat s.low with | some h => (h, 0) | none => (0, 5)) | none => (0, 2)) else (0, 2)
theorem inB_nat {row n : Int} (h : inB row 0 n = true) : ∃ k : Nat, row = k ∧ (k : Int) ≤ n := by
  simp [inB] at h
  exact ⟨row.toNat, by omega, by omega⟩
theorem differ_Blame_meets (p : Plan) (row : Int) (hl : p.starts.length ≤ 1000) : Meets (Tz g) f_differ_Blame [p.d, int row] ⟨.tup [.d (int (blameV p row).1), .d (int (blameV p row).2)], []⟩ := by
  by_cases h : (p.ok && inB row 0 (p.rows - 1)) = true
  · simp only [blameV, if_pos h]
    simp only [Bool.and_eq_true] at h
    obtain ⟨k, rfl, hk⟩ := inB_nat h.2
    have := differ_Blame_ok (g := g) p k h.1 (by omega)
    unfold blamR at this
    simp only [Int.toNat_natCast]
    by_cases hm : (blameO p k).2 ≤ 0
    · simp only [if_pos hm] at this ⊢; exact this
    · simp only [if_neg hm] at this ⊢; exact this
  · simp only [blameV, if_neg h]
    refine differ_Blame_bad p row hl ?_
    cases hok : p.ok with
    | false => exact .inl rfl
    | true => simp [hok] at h; exact .inr ⟨rfl, h⟩
theorem differ_Widest_meets (p : Plan) (i : Int) (hl : p.starts.length ≤ 1000) : Meets (Tz g) f_differ_Widest [p.d, int i] ⟨.tup [.d (int (widestV p i).1), .d (int (widestV p i).2)], []⟩ := by
  by_cases h : (p.ok && inB i 0 (p.starts.length - 1)) = true
  · simp only [widestV, if_pos h]
    simp only [Bool.and_eq_true] at h
    obtain ⟨k, rfl, hk⟩ := inB_nat h.2
    simp only [Int.toNat_natCast]
    have hg : p.starts[k]? = some p.starts[k] := List.getElem?_eq_getElem (by omega)
    have := differ_Widest_ok (g := g) p k _ h.1 hg
    rw [hg]
    simp only
    cases hw : widestO p k p.starts[k].low with
    | none => rw [hw] at this; exact this
    | some x => rw [hw] at this; exact this
  · simp only [widestV, if_neg h]
    refine differ_Widest_bad p i hl ?_
    simpa using h
end Go.Vc
