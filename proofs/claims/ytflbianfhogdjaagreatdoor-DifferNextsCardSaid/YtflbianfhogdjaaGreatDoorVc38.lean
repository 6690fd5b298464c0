/- A part of the proof: general laws of a reading of the model by abstract data, or contracts of the functions that the law calls. -/
import Derived.Test.YtflbianfhogdjaaGreatDoorVc37
import Derived.Test.YtflbianfhogdjaaGreatDoorVc30
set_option maxRecDepth 100000
namespace Go.Vc
open Go Go.Proofs
variable {g : GG}
attribute [local simp] and_assoc
attribute [local simp] ints_cells
theorem equal_ints_meets (l m : List Int) (hl : l.length ≤ 1000000) (hm : m.length ≤ 1000000) : Meets (Tz g) f_slices_Equal_l_int_int [ints l, ints m] ⟨.d (.bool (decide (l = m))), []⟩ := by
  refine meets_slices_Equal_l_int_int ?_
  unfold vc_slices_Equal_l_int_int
  simp [ints]
  constructor
  · intro h
    have : l ≠ m := fun e => h (by rw [e])
    simpa using this
  · intro h
    have h : l.length = m.length := by omega
    refine LOOP.mk Nat (fun k => [.d (ints l), .d (ints m), .d (int l.length), .d (int k)]) (fun k => []) (fun k => k ≤ l.length ∧ (l = m ↔ l.drop k = m.drop k)) (fun k => l.length - k) [] (by simp) 0 (by simp) (by simp [WEAK, ints]) (fun _ _ => rfl) ?_
    rintro k ⟨hk, he⟩
    simp [vc_slices_Equal_l_int_int_k0, ints]
    constructor
    · intro hlt
      have hlt : k < l.length := by omega
      have h1 : l[k]? = some l[k] := List.getElem?_eq_getElem hlt
      have h2 : m[k]? = some m[k] := List.getElem?_eq_getElem (by omega)
      rw [List.drop_eq_getElem_cons hlt, List.drop_eq_getElem_cons (show k < m.length by omega)] at he
      generalize l[k] = a at h1 he
      generalize m[k] = b at h2 he
      simp [h1, h2]
      refine ⟨rfl, ?_, ?_⟩
      · intro hq e
        exact hq (List.cons.inj (he.1 e)).1
      · intro hq
        rw [wrap_id (n := (k : Int) + 1) (by omega) (by omega)]
        refine ⟨k + 1, by omega, ?_, by simp [WEAK], by omega⟩
        exact he.trans ⟨fun h' => (List.cons.inj h').2, fun h' => by rw [hq, h']⟩
    · intro hge
      have : k = l.length := by omega
      subst this
      exact he.2 (by rw [List.drop_eq_nil_of_le (by omega), List.drop_eq_nil_of_le (by omega)])
def offB (ls : List (List Int)) (s : Nat) (i : Nat) : Bool := decide (0 < i) && !decide (afterL s (ls.getD (i - 1) []) = ls.getD i [])
def joinK (ls : List (List Int)) (s : Nat) (k : Nat) : List Int := ((List.range k).filter (offB ls s)).map fun (i : Nat) => (i : Int)
def joinsL (ls : List (List Int)) (s : Nat) : List Int := joinK ls s ls.length
theorem joinK_step (ls : List (List Int)) (s k : Nat) : joinK ls s (k + 1) = joinK ls s k ++ (if offB ls s k then [(k : Int)] else []) := by
  unfold joinK
  rw [List.range_succ, List.filter_append, List.map_append]
  congr 1
  by_cases h : offB ls s k = true
  · simp [h]
  · simp [h]
theorem joinK_len (ls : List (List Int)) (s k : Nat) : (joinK ls s k).length ≤ k := by
  unfold joinK
  simp
  have := List.length_filter_le (offB ls s) (List.range k)
  simpa using this
theorem joinK_one (ls : List (List Int)) (s : Nat) : joinK ls s 1 = [] := by
  simp [joinK, offB]
set_option maxHeartbeats 1000000 in
theorem differ_Joins_ok (p : Plan) (ls : List (List Int)) (n s : Nat) (hok : p.ok = true) (hn : p.rows = n) (hs : 1 ≤ s) (hsn : s ≤ n) (hl : ls.length ≤ 100) (hf : firstsB p ls s = true) :
    Meets (Tz g) f_differ_Joins [p.d, listsD ls, int s] ⟨.tup [.own 0 0, .d (int 0)], [⟨0, T_int, .lst ((joinsL ls s).map int)⟩]⟩ := by
  obtain ⟨a1, a2, a3, a4, a5⟩ := Plan.ok_len hok
  have hib : inB (s : Int) 1 p.rows = true := by simp [inB]; omega
  have hall : ∀ l, l ∈ ls → stateB l = true := by
    intro l hl
    simp only [firstsB, Bool.and_eq_true, List.all_eq_true] at hf
    exact (hf.2 l hl).2
  refine meets_differ_Joins ?_
  unfold vc_differ_Joins
  simp [Plan.d, spans, listsD]
  refine CALL.val [p.d] _ rfl (differ_isPlan_meets p (by omega)) (.inl rfl) ?_
  simp [hok]
  refine CALL.val _ _ rfl (differ_in_meets _ _ _) (.inl rfl) ?_
  simp [hib, vc_differ_Joins_k2]
  refine CALL.val [p.d, listsD ls, int s] _ rfl (differ_areFirsts_meets p ls s hok (by omega) (by omega)) (.inl rfl) ?_
  simp [hf]
  refine LOOP.mk Nat (fun k => [.d (listsD ls), .d (int s), .own 216 (joinK ls s k).length, .d (int ls.length), .d (int k)]) (fun k => [(216, some ⟨(joinK ls s k).length, T_int, .lst ((joinK ls s k).map int)⟩)]) (fun k => k ≤ ls.length) (fun k => ls.length - k) [(2, T_int)] (by simp) 0 (by omega) (by simp [WEAK, listsD, joinK]) (fun _ _ => rfl) ?_
  intro k hk
  have hjl := joinK_len ls s k
  have hst := joinK_step ls s k
  simp [vc_differ_Joins_k1, listsD]
  rw [wrap_id (n := (k : Int) + 1) (by omega) (by omega)]
  constructor
  · intro hlt
    have hg : ls[k]? = some ls[k] := List.getElem?_eq_getElem hlt
    constructor
    · intro hpos
      obtain ⟨i, rfl⟩ : ∃ i, k = i + 1 := ⟨k - 1, by omega⟩
      have hgi : ls[i]? = some ls[i] := List.getElem?_eq_getElem (by omega)
      obtain ⟨c1, c2, c3⟩ := stateB_len (hall ls[i] (List.getElem_mem _))
      obtain ⟨d1, d2, d3⟩ := stateB_len (hall ls[i + 1] (List.getElem_mem _))
      have hoff : offB ls s (i + 1) = !decide (afterL s ls[i] = ls[i + 1]) := by simp [offB, hlt, show i < ls.length by omega]
      rw [hoff] at hst
      generalize ls[i] = a at hgi c1 c2 c3 hst
      generalize ls[i + 1] = b at hg d1 d2 d3 hst
      have hal := afterL_length a s
      rw [wrap_id (n := ((i + 1 : Nat) : Int) - 1) (by omega) (by omega)]
      have e1 : ((((i + 1 : Nat) : Int)) - 1) = (i : Int) := by omega
      rw [e1]
      simp [hgi]
      refine CALL.mk [ints a, int s] _ rfl (differ_after_meets a s c1 (by omega) (by omega) c3) (.inl rfl) (by simp) ?_
      have e2 : ((i : Int) + 1).toNat = i + 1 := by omega
      simp [hg]
      refine CALL.val [ints (afterL s a), ints b] _ (by simp [ints]) (equal_ints_meets _ _ (by omega) (by omega)) (.inr rfl) ?_
      simp [vc_differ_Joins_k0]
      refine ⟨rfl, ?_, ?_⟩
      · intro hne
        simp [hne] at hst
        rw [wrap_id (n := (i : Int) + 1 + 1) (by omega) (by omega)]
        refine ⟨by omega, i + 1 + 1, by omega, ?_, by omega⟩
        simp [WEAK, hst]
      · intro heq
        simp [heq] at hst
        rw [wrap_id (n := (i : Int) + 1 + 1) (by omega) (by omega)]
        refine ⟨i + 1 + 1, by omega, ?_, by omega⟩
        simp [WEAK, hst]
    · intro h0
      have : k = 0 := by omega
      subst this
      exact ⟨rfl, 1, by omega, by simp [WEAK, joinK, offB], by omega⟩
  · intro hge
    have : k = ls.length := by omega
    subst this
    simp [joinsL]
theorem differ_Joins_bad (p : Plan) (ls : List (List Int)) (s : Int) (hl : p.starts.length ≤ 1000) (hl2 : ls.length ≤ 1000) (h : p.ok = false ∨ p.ok = true ∧ (inB s 1 p.rows = false ∨ (inB s 1 p.rows = true ∧ firstsB p ls s = false))) :
    Meets (Tz g) f_differ_Joins [p.d, listsD ls, int s] ⟨.tup [.d (.list []), .d (int 2)], []⟩ := by
  refine meets_differ_Joins ?_
  unfold vc_differ_Joins
  simp [Plan.d, spans, listsD]
  refine CALL.val [p.d] _ rfl (differ_isPlan_meets p hl) (.inl rfl) ?_
  rcases h with h | ⟨hok, h⟩
  · simp [h]
  · obtain ⟨a1, a2, a3, a4, a5⟩ := Plan.ok_len hok
    simp [hok]
    refine CALL.val _ _ rfl (differ_in_meets _ _ _) (.inl rfl) ?_
    rcases h with h | ⟨h1, h2⟩
    · simp [h, vc_differ_Joins_k2]
    · have h3 := h1
      simp [inB] at h3
      simp [h1, vc_differ_Joins_k2]
      refine CALL.val [p.d, listsD ls, int s] _ rfl (differ_areFirsts_meets p ls s hok (by omega) (by omega)) (.inl rfl) ?_
      simp [h2]
theorem ref01_SameLists_meets (l m : List (List Int)) (hl : l.length ≤ 1000) (hm : m.length ≤ 1000) (hl2 : ∀ x, x ∈ l → x.length ≤ 1000) (hm2 : ∀ x, x ∈ m → x.length ≤ 1000) : Meets (Tz g) f_ref01_SameLists [listsD l, listsD m] ⟨.d (.bool (decide (l = m))), []⟩ := by
  refine meets_ref01_SameLists ?_
  unfold vc_ref01_SameLists
  simp [listsD]
  constructor
  · intro h
    have : l ≠ m := fun e => h (by rw [e])
    simpa using this
  · intro h
    have h : l.length = m.length := by omega
    refine LOOP.mk Nat (fun k => [.d (listsD l), .d (listsD m), .d (int k)]) (fun k => []) (fun k => k ≤ l.length ∧ (l = m ↔ l.drop k = m.drop k)) (fun k => l.length - k) [] (by simp) 0 (by simp) (by simp [WEAK, listsD]) (fun _ _ => rfl) ?_
    rintro k ⟨hk, he⟩
    simp [vc_ref01_SameLists_k0, listsD]
    constructor
    · intro hlt
      have hlt : k < l.length := by omega
      have h1 : l[k]? = some l[k] := List.getElem?_eq_getElem hlt
      have h2 : m[k]? = some m[k] := List.getElem?_eq_getElem (by omega)
      have e1 := hl2 l[k] (List.getElem_mem _)
      have e2 := hm2 m[k] (List.getElem_mem _)
      rw [List.drop_eq_getElem_cons hlt, List.drop_eq_getElem_cons (show k < m.length by omega)] at he
      generalize l[k] = a at h1 he e1
      generalize m[k] = b at h2 he e2
      simp [h1, h2]
      refine CALL.val [ints a, ints b] _ rfl (ref01_Same_meets _ _ (by omega) (by omega)) (.inl rfl) ?_
      simp
      refine ⟨rfl, ?_, ?_⟩
      · intro hq e
        exact hq (List.cons.inj (he.1 e)).1
      · intro hq
        rw [wrap_id (n := (k : Int) + 1) (by omega) (by omega)]
        refine ⟨k + 1, by omega, ?_, by simp [WEAK], by omega⟩
        exact he.trans ⟨fun h' => (List.cons.inj h').2, fun h' => by rw [hq, h']⟩
    · intro hge
      have : k = l.length := by omega
      subst this
      exact he.2 (by rw [List.drop_eq_nil_of_le (by omega), List.drop_eq_nil_of_le (by omega)])
end Go.Vc

namespace Go.Vc
open Go Go.Proofs
variable {g : GG}
attribute [local simp] and_assoc
attribute [local simp] ints_cells
theorem back_step : ∀ l : List Int, backL (stepL l) = l
  | [] => rfl
  | [a] => rfl
  | a :: b :: r => by
    have ih := back_step (b :: r)
    have hl := stepL_length (b :: r)
    simp only [stepL]
    cases hq : stepL (b :: r) with
    | nil => rw [hq] at hl; simp at hl
    | cons y r' =>
      rw [hq] at ih
      simp only [backL, ih, List.headD_cons]
      congr 1
      omega
theorem backK_after (t : List Int) : ∀ (j k : Nat), j ≤ k → backK j (afterL k t) = afterL (k - j) t
  | 0, k, _ => rfl
  | j + 1, k, h => by
    have ih := backK_after t j k (by omega)
    have e : k - j = (k - (j + 1)) + 1 := by omega
    rw [backK, ih, e, afterL, back_step]
theorem climb_heads (t : List Int) (k n : Nat) (h : k < n) : climbL (k + 1) (afterL k t) = (heads t n).take (k + 1) := by
  rw [climbL_eq]
  refine List.ext_getElem? fun i => ?_
  by_cases hi : i < k + 1
  · rw [List.getElem?_reverse (by simp [backs]; exact hi), List.getElem?_take, if_pos hi]
    have h1 : (backs (k + 1) (afterL k t)).length - 1 - i = k - i := by simp [backs]
    rw [h1]
    have h2 : k - i < k + 1 := by omega
    simp only [backs, heads, List.getElem?_map, List.getElem?_range h2, List.getElem?_range (show i < n by omega), Option.map_some]
    rw [backK_after t (k - i) k (by omega), show k - (k - i) = i by omega]
  · rw [List.getElem?_eq_none (by simp [backs]; omega), List.getElem?_eq_none (by simp; omega)]
theorem after_mem (t : List Int) (k : Nat) (x : Int) (hx : x ∈ afterL k t) : ∃ i, i < t.length ∧ x = valL (t.drop i) k 0 := by
  obtain ⟨i, hi, rfl⟩ := List.mem_iff_getElem.1 hx
  rw [afterL_length] at hi
  have h1 := after_at t k i hi
  rw [List.getElem?_eq_getElem (by rw [afterL_length]; exact hi)] at h1
  exact ⟨i, hi, Option.some.inj h1⟩
theorem after_state (t : List Int) (k : Nat) (hk : k < 12) (hl : 1 ≤ t.length ∧ t.length ≤ 4) (hb : ∀ x, x ∈ t → -99999 ≤ x ∧ x ≤ 99999) : stateB (afterL k t) = true := by
  have hal := afterL_length t k
  simp only [stateB, Bool.and_eq_true, List.all_eq_true]
  refine ⟨by simp [inB]; omega, fun x hx => ?_⟩
  obtain ⟨i, hi, rfl⟩ := after_mem t k x hx
  have := val_232 (t.drop i) k hk (by simp; omega) (fun y hy => hb y (List.mem_of_mem_drop hy))
  simp [farB, inB]
  omega
theorem differ_Table_data (p : Plan) (t : List Int) (n : Nat) (h1 : p.ok = true) (h2 : within p.starts t = true) (hn : p.rows = n) : Meets (Tz g) f_differ_Table [p.d, ints t] ⟨.tup [.d (ints (heads t n)), .d (int 0)], []⟩ := by
  obtain ⟨a1, a2, a3, a4, a5⟩ := Plan.ok_len h1
  have hlen := within_length h2
  refine meets_differ_Table ?_
  unfold vc_differ_Table
  simp [Plan.d, spans]
  refine CALL.val _ _ rfl (differ_isPlan_meets p (by omega)) (.inl rfl) ?_
  simp [h1]
  refine CALL.val _ _ rfl (differ_isTruth_meets p t (by omega) (by omega)) (.inl rfl) ?_
  simp [h2]
  refine CALL.mk [tabD p t] _ rfl (differ_values_meets p t n hn (by omega) (by omega) (by omega) (fun x hx => by have := within_bound a5 h2 x hx; omega)) (.inl rfl) (by simp) ?_
  simp [ints]
end Go.Vc

namespace Go.Vc
open Go Go.Proofs
variable {g : GG}
theorem differ_Table_bad (p : Plan) (t : List Int) (hl : p.starts.length ≤ 1000) (hl2 : t.length ≤ 1000) (h : (p.ok && within p.starts t) = false) : Meets (Tz g) f_differ_Table [p.d, ints t] ⟨.tup [.d (.list []), .d (int 2)], []⟩ := by
  refine meets_differ_Table ?_
  unfold vc_differ_Table
  simp [Plan.d, spans]
  refine CALL.val [p.d] _ rfl (differ_isPlan_meets p hl) (.inl rfl) ?_
  simp
  intro h1
  refine CALL.val [p.d, ints t] _ rfl (differ_isTruth_meets p t hl hl2) (.inl rfl) ?_
  simp [h1] at h
  simp [h]
theorem differ_State_bad (p : Plan) (t : List Int) (row : Int) (hl : p.starts.length ≤ 1000) (hl2 : t.length ≤ 1000) (h : (p.ok && (within p.starts t && inB row 0 (p.rows - 1))) = false) : Meets (Tz g) f_differ_State [p.d, ints t, int row] ⟨.tup [.d (.list []), .d (int 2)], []⟩ := by
  refine meets_differ_State ?_
  unfold vc_differ_State
  simp [Plan.d, spans]
  refine CALL.val [p.d] _ rfl (differ_isPlan_meets p hl) (.inl rfl) ?_
  simp
  intro h1
  obtain ⟨a1, a2, a3, a4, a5⟩ := Plan.ok_len h1
  refine CALL.val [p.d, ints t] _ rfl (differ_isTruth_meets p t hl hl2) (.inl rfl) ?_
  simp
  intro h2
  refine CALL.val [p.d, int row] _ rfl (differ_hasRow_meets p row ⟨a3, a4⟩) (.inl rfl) ?_
  simp [h1, h2] at h
  simp [h]
end Go.Vc
