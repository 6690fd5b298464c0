/- A part of the proof: general laws of a reading of the model by abstract data, or contracts of the functions that the law calls. -/
import Derived.Test.YtcmdbmcggfmmnaaGreatDoorVc26
set_option maxRecDepth 100000
namespace Go.Vc
open Go Go.Proofs
variable {g : GG}
theorem idx_any {α : Type} (q : α → Bool) : ∀ (l : List α) (i : Int), 0 ≤ i → decide (0 ≤ idx q l i) = l.any q := by
  intro l
  induction l with
  | nil => intro i hi; simp [idx]
  | cons x r ih =>
    intro i hi
    simp only [idx, List.any_cons]
    by_cases hq : q x = true
    · simp [hq, hi]
    · have := ih (i + 1) (by omega)
      simp [hq]
      simpa using this
theorem contains_Span_meets (l : List Sp) (f : FuncId) (q : Sp → Bool) (hf : ∀ s, Meets (Tz g) f [s.d] ⟨.d (.bool (q s)), []⟩) (hl : l.length ≤ 1000) : Meets (Tz g) f_slices_ContainsFunc_l_api_Span_api_Span [spans l, .fn f [] []] ⟨.d (.bool (l.any q)), []⟩ := by
  refine meets_slices_ContainsFunc_l_api_Span_api_Span ?_
  unfold vc_slices_ContainsFunc_l_api_Span_api_Span
  refine CALL.val _ _ rfl (index_Span_meets l f q hf hl) (.inl rfl) ?_
  simp [← idx_any q l 0 (by omega)]
def Plan.ok (p : Plan) : Bool := inB p.starts.length 1 4 && (inB p.rows 1 12 && (inB p.guard 0 3 && !p.starts.any fun s => !startB s))
theorem differ_isPlan_meets (p : Plan) (hl : p.starts.length ≤ 1000) : Meets (Tz g) f_differ_isPlan [p.d] ⟨.d (.bool p.ok), []⟩ := by
  refine meets_differ_isPlan ?_
  unfold vc_differ_isPlan
  simp [Plan.d, spans]
  refine CALL.val _ _ rfl (differ_in_meets _ _ _) (.inl rfl) ?_
  simp [Plan.ok]
  constructor
  · intro h1
    refine CALL.val _ _ rfl (differ_in_meets _ _ _) (.inl rfl) ?_
    simp [h1]
    constructor
    · intro h2
      refine CALL.val _ _ rfl (differ_in_meets _ _ _) (.inl rfl) ?_
      simp [h2]
      constructor
      · intro h3
        refine CALL.val _ _ rfl (contains_Span_meets p.starts _ _ differ_isPlan_1_meets hl) (.inl rfl) ?_
        simp [h3]
      · intro h3; simp [h3]
    · intro h2; simp [h2]
  · intro h1; simp [h1]
end Go.Vc

namespace Go.Vc
open Go Go.Proofs
variable {g : GG}
end Go.Vc

namespace Go.Vc
open Go Go.Proofs
variable {g : GG}
end Go.Vc

namespace Go.Vc
open Go Go.Proofs
variable {g : GG}
end Go.Vc

namespace Go.Vc
open Go Go.Proofs
variable {g : GG}
end Go.Vc

namespace Go.Vc
open Go Go.Proofs
variable {g : GG}
end Go.Vc

namespace Go.Vc
open Go Go.Proofs
variable {g : GG}
theorem ref01_in_meets (x lo hi : Int) : Meets (Tz g) f_ref01_in [int x, int lo, int hi] ⟨.d (.bool (inB x lo hi)), []⟩ := by
  refine meets_ref01_in ?_
  unfold vc_ref01_in
  simp [inB]
  constructor
  · intro h; simp [h]
  · intro h; omega
theorem in_min (x a b : Int) : inB x a (min 99999 b) = (inB x a 99999 && decide (x ≤ b)) := by
  unfold inB
  by_cases h1 : a ≤ x <;> by_cases h2 : x ≤ 99999 <;> by_cases h3 : x ≤ b <;> simp [h1, h2, h3] <;> omega
theorem ref01_Start_meets (s : Sp) : Meets (Tz g) f_ref01_Start [s.d] ⟨.d (.bool (startB s)), []⟩ := by
  refine meets_ref01_Start ?_
  unfold vc_ref01_Start
  simp [Sp.d]
  refine CALL.val _ _ rfl (ref01_in_meets _ _ _) (.inl rfl) ?_
  simp [startB]
  constructor
  · intro h
    have h3 := h
    simp [inB] at h3
    rw [wrap_id (by omega) (by omega)]
    refine CALL.val _ _ rfl (ref01_in_meets _ _ _) (.inl rfl) ?_
    rw [in_min]
    simp [h]
  · intro h; simp [h]
def okFrom (ss : List Sp) (k : Nat) : Bool := (ss.drop k).all startB
theorem okFrom_step (ss : List Sp) (k : Nat) (s : Sp) (h : ss[k]? = some s) : okFrom ss k = (startB s && okFrom ss (k + 1)) := by
  have l1 := (List.getElem?_eq_some_iff.1 h).1
  rw [List.getElem?_eq_getElem l1] at h
  unfold okFrom
  rw [List.drop_eq_getElem_cons l1, Option.some.inj h]
  rfl
theorem any_all (ss : List Sp) : (!ss.any fun s => !startB s) = ss.all startB := by
  induction ss with
  | nil => rfl
  | cons s r ih => simp only [List.any_cons, List.all_cons, ← ih]; cases startB s <;> simp
theorem ref01_Plan_meets (p : Plan) (hl : p.starts.length ≤ 1000) : Meets (Tz g) f_ref01_Plan [p.d] ⟨.d (.bool p.ok), []⟩ := by
  refine meets_ref01_Plan ?_
  unfold vc_ref01_Plan
  simp [Plan.d, spans]
  refine CALL.val _ _ rfl (ref01_in_meets _ _ _) (.inl rfl) ?_
  have hok : p.ok = (inB p.starts.length 1 4 && (inB p.rows 1 12 && (inB p.guard 0 3 && p.starts.all startB))) := by
    rw [← any_all]; rfl
  rw [hok]
  clear hok
  generalize hb : p.starts.all startB = b
  simp
  constructor
  · intro h1; simp [h1]
  · intro h1
    refine CALL.val _ _ rfl (ref01_in_meets _ _ _) (.inl rfl) ?_
    simp [h1]
    constructor
    · intro h2; simp [h2]
    · intro h2
      refine CALL.val _ _ rfl (ref01_in_meets _ _ _) (.inl rfl) ?_
      simp [h2]
      constructor
      · intro h3; simp [h3]
      · intro h3
        simp [h3]
        refine LOOP.mk Nat (fun k => [.ptr 24 0 0 0, .d (int k)]) (fun k => [(24, some ⟨0, T_api_DifferPlan, .box [.d (spans p.starts), .d (int p.rows), .d (int p.guard)]⟩)]) (fun k => k ≤ p.starts.length ∧ b = okFrom p.starts k) (fun k => p.starts.length - k) [] (by simp) 0 (by simp [okFrom, ← hb]) (by simp [WEAK, spans]) (fun _ _ => rfl) ?_
        rintro k ⟨hk, he⟩
        simp [spans]
        constructor
        · intro hlt
          have hlt : k < p.starts.length := by omega
          have h4 : p.starts[k]? = some p.starts[k] := List.getElem?_eq_getElem hlt
          simp [h4, Sp.d]
          rw [okFrom_step _ _ _ h4] at he
          refine CALL.val _ _ rfl (ref01_Start_meets p.starts[k]) (.inl rfl) ?_
          simp
          constructor
          · intro hq; rw [he, hq]; simp
          · intro hq
            rw [hq] at he
            rw [wrap_id (n := (k : Int) + 1) (by omega) (by omega)]
            refine ⟨k + 1, ⟨by omega, by simpa using he⟩, ?_, by omega⟩
            simp [WEAK, spans]
        · intro hge
          have : k = p.starts.length := by omega
          subst this
          rw [he]
          simp [okFrom]
theorem law01_short_meets (p : Plan) : Meets (Tz g) f_law01_short [p.d] ⟨.d (.bool (decide (p.starts.length ≤ 6))), []⟩ := by
  refine meets_law01_short ?_
  unfold vc_law01_short
  simp [Plan.d, spans]
  omega
end Go.Vc
