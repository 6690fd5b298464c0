/- A part of the proof: general laws of a reading of the model by abstract data, or contracts of the functions that the law calls. -/
import Derived.Test.YtnbdfpppcdgkpaaGreatDoorVc43
import Derived.Test.YtnbdfpppcdgkpaaGreatDoorVc25
import Derived.Test.YtnbdfpppcdgkpaaGreatDoorVc11
set_option maxRecDepth 100000
namespace Go.Vc
open Go Go.Proofs
variable {g : GG}
attribute [local simp] and_assoc
attribute [local simp] ints_cells
set_option maxHeartbeats 4000000 in
theorem CutD (p : Plan) (t : List Int) (n s : Nat) (h1 : p.ok = true) (h2 : within p.starts t = true) (hn : p.rows = n) (hs : 1 ≤ s) (hsn : s ≤ n) :
    Meets (Tz g) f_differ_Cut [p.d, ints t, int s] ⟨.tup [.d (listsD (cutL t n s)), .d (int 0)], []⟩ := by
  obtain ⟨a1, a2, a3, a4, a5⟩ := Plan.ok_len h1
  have hlen := within_length h2
  have hib : inB (s : Int) 1 p.rows = true := by simp [inB]; omega
  have hbd : ∀ x, x ∈ t → -1000000000 ≤ x ∧ x ≤ 1000000000 := fun x hx => by have := within_bound a5 h2 x hx; omega
  have hsh := sheets_le n s hs
  refine meets_differ_Cut ?_
  unfold vc_differ_Cut
  simp [Plan.d, spans]
  refine CALL.val [p.d] _ rfl (differ_isPlan_meets p (by omega)) (.inl rfl) ?_
  simp [h1, vc_differ_Cut_k2]
  refine CALL.val [p.d, ints t] _ rfl (differ_isTruth_meets p t (by omega) (by omega)) (.inl rfl) ?_
  simp [h2]
  refine CALL.val _ _ rfl (differ_in_meets _ _ _) (.inl rfl) ?_
  simp [hib, vc_differ_Cut_k1]
  refine LOOP.mk Nat (fun k => [.d (int s), .ptr 24 0 0 0, .ptr 200 0 0 0, .own 232 k, .d (int ((k * s : Nat) : Int))]) (fun k => [(232, some ⟨k, T_l_int, .lst (((cutL t n s).map ints).take k)⟩), (200, some ⟨0, T_differ_table, .box [.d (spans p.starts), .d (int p.rows), .d (int p.guard), .d (ints t)]⟩), (24, some ⟨0, T_api_DifferPlan, .box [.d (spans p.starts), .d (int n), .d (int p.guard)]⟩)]) (fun k => k ≤ sheetsN n s) (fun k => sheetsN n s - k) [(3, T_l_int)] (by simp) 0 (by omega) (by simp [WEAK, spans, ints, hn]) (fun _ _ => rfl) ?_
  intro k hk
  have hlt' := sheets_lt n s k hs
  have hks : ((k * s : Nat) : Int) = (k : Int) * (s : Int) := by simp
  simp [vc_differ_Cut_k0]
  constructor
  · intro hlt
    have hlt2 : k < sheetsN n s := hlt'.2 (by omega)
    have hgk : (cutL t n s)[k]? = some (afterL (k * s) t) := by simp [cutL, hlt2]
    have h7 := take_next (L := (cutL t n s).map ints) (k := k) (x := ints (afterL (k * s) t)) (by simp [hgk])
    refine CALL.mk [tabD p t, int ((k * s : Nat) : Int)] _ (by simp [tabD, spans, ints]) (differ_state_meets p t (k * s) (by omega) (by omega) (by omega) hbd) (.inl rfl) (by simp) ?_
    have hk1 : (((k + 1) * s : Nat) : Int) = (k : Int) * (s : Int) + (s : Int) := by rw [Nat.succ_mul]; simp
    simp
    refine MKSX.of ?_
    simp
    refine APPX.of ?_
    simp
    rw [wrap_id (n := (k : Int) * (s : Int) + (s : Int)) (by omega) (by omega)]
    refine ⟨by omega, k + 1, by omega, ?_, by omega⟩
    simp [WEAK, Int.add_mul]
    rw [h7]
    simp [ints]
  · intro hge
    have : k = sheetsN n s := by
      have : ¬ k < sheetsN n s := fun h => by have := hlt'.1 h; omega
      omega
    subst this
    have e := take_all (L := (cutL t n s).map ints) (k := sheetsN n s) (by simp [cutL_len])
    first | exact e | exact e.symm | simp [e, listsD]
set_option maxHeartbeats 4000000 in
theorem JoinsD (p : Plan) (ls : List (List Int)) (n s : Nat) (hok : p.ok = true) (hn : p.rows = n) (hs : 1 ≤ s) (hsn : s ≤ n) (hl : ls.length ≤ 100) (hf : firstsB p ls s = true) :
    Meets (Tz g) f_differ_Joins [p.d, listsD ls, int s] ⟨.tup [.d (ints (joinsL ls s)), .d (int 0)], []⟩ := by
  obtain ⟨a1, a2, a3, a4, a5⟩ := Plan.ok_len hok
  have hib : inB (s : Int) 1 p.rows = true := by simp [inB]; omega
  have hall : ∀ l, l ∈ ls → stateB l = true := by
    intro l hl
    simp only [firstsB, Bool.and_eq_true, List.all_eq_true] at hf
    exact (hf.2 l hl).2
  refine meets_differ_Joins ?_
  unfold vc_differ_Joins
  simp [Plan.d, spans, listsD]
  refine CALL.val [p.d] _ rfl (differ_isPlan_meets p (by omega)) (.inl rfl) ?_
  simp [hok]
  refine CALL.val _ _ rfl (differ_in_meets _ _ _) (.inl rfl) ?_
  simp [hib, vc_differ_Joins_k2]
  refine CALLX.of ?_
  refine CALL.val [p.d, listsD ls, int s] _ rfl (differ_areFirsts_meets p ls s hok (by omega) (by omega)) (.inl rfl) ?_
  simp [hf]
  refine LOOP.mk Nat (fun k => [.d (listsD ls), .d (int s), .own 216 (joinK ls s k).length, .d (int ls.length), .d (int k)]) (fun k => [(216, some ⟨(joinK ls s k).length, T_int, .lst ((joinK ls s k).map int)⟩)]) (fun k => k ≤ ls.length) (fun k => ls.length - k) [(2, T_int)] (by simp) 0 (by omega) (by simp [WEAK, listsD, joinK]) (fun _ _ => rfl) ?_
  intro k hk
  have hjl := joinK_len ls s k
  have hst := joinK_step ls s k
  simp [vc_differ_Joins_k1, listsD]
  rw [wrap_id (n := (k : Int) + 1) (by omega) (by omega)]
  constructor
  · intro hlt
    have hg : ls[k]? = some ls[k] := List.getElem?_eq_getElem hlt
    constructor
    · intro hpos
      obtain ⟨i, rfl⟩ : ∃ i, k = i + 1 := ⟨k - 1, by omega⟩
      have hgi : ls[i]? = some ls[i] := List.getElem?_eq_getElem (by omega)
      obtain ⟨c1, c2, c3⟩ := stateB_len (hall ls[i] (List.getElem_mem _))
      obtain ⟨d1, d2, d3⟩ := stateB_len (hall ls[i + 1] (List.getElem_mem _))
      have hoff : offB ls s (i + 1) = !decide (afterL s ls[i] = ls[i + 1]) := by simp [offB, hlt, show i < ls.length by omega]
      rw [hoff] at hst
      generalize ls[i] = a at hgi c1 c2 c3 hst
      generalize ls[i + 1] = b at hg d1 d2 d3 hst
      have hal := afterL_length a s
      rw [wrap_id (n := ((i + 1 : Nat) : Int) - 1) (by omega) (by omega)]
      have e1 : ((((i + 1 : Nat) : Int)) - 1) = (i : Int) := by omega
      rw [e1]
      simp [hgi]
      refine CALL.mk [ints a, int s] _ rfl (differ_after_meets a s c1 (by omega) (by omega) c3) (.inl rfl) (by simp) ?_
      have e2 : ((i : Int) + 1).toNat = i + 1 := by omega
      simp [hg]
      refine CALL.val [ints (afterL s a), ints b] _ (by simp [ints]) (equal_ints_meets _ _ (by omega) (by omega)) (.inr rfl) ?_
      simp [vc_differ_Joins_k0]
      refine ⟨rfl, ?_, ?_⟩
      · intro hne
        simp [hne] at hst
        rw [wrap_id (n := (i : Int) + 1 + 1) (by omega) (by omega)]
        refine ⟨by omega, i + 1 + 1, by omega, ?_, by omega⟩
        simp [WEAK, hst]
      · intro heq
        simp [heq] at hst
        rw [wrap_id (n := (i : Int) + 1 + 1) (by omega) (by omega)]
        refine ⟨i + 1 + 1, by omega, ?_, by omega⟩
        simp [WEAK, hst]
    · intro h0
      have : k = 0 := by omega
      subst this
      exact ⟨rfl, 1, by omega, by simp [WEAK, joinK, offB], by omega⟩
  · intro hge
    have : k = ls.length := by omega
    subst this
    simp [joinsL, ints]
end Go.Vc

namespace Go.Vc
open Go Go.Proofs
theorem after_plus (t : List Int) (b : Nat) : ∀ a, afterL (a + b) t = afterL a (afterL b t)
  | 0 => by simp [afterL]
  | a + 1 => by
    rw [show a + 1 + b = (a + b) + 1 by omega]
    simp only [afterL, after_plus t b a]
theorem cut_getD (t : List Int) (n s i : Nat) (h : i < sheetsN n s) : (cutL t n s).getD i [] = afterL (i * s) t := by
  simp [cutL, List.getD_eq_getElem?_getD, h]
theorem cut_off (t : List Int) (n s i : Nat) (h : i < sheetsN n s) : offB (cutL t n s) s i = false := by
  unfold offB
  by_cases h0 : i = 0
  · subst h0; rfl
  · have e : i * s = s + (i - 1) * s := by
      obtain ⟨j, rfl⟩ : ∃ j, i = j + 1 := ⟨i - 1, by omega⟩
      rw [Nat.succ_mul, show j + 1 - 1 = j by omega]
      omega
    rw [cut_getD t n s i h, cut_getD t n s (i - 1) (by omega), ← after_plus, ← e]
    simp
theorem cut_joins (t : List Int) (n s : Nat) : joinsL (cutL t n s) s = [] := by
  unfold joinsL joinK
  rw [List.map_eq_nil_iff, List.filter_eq_nil_iff]
  intro i hi
  have hi := List.mem_range.1 hi
  rw [cutL_len] at hi
  rw [cut_off t n s i hi]
  simp
theorem cut_firsts (p : Plan) (t : List Int) (n s : Nat) (hok : p.ok = true) (hw : within p.starts t = true) (hn : p.rows = n) (hs : 1 ≤ s) (hsn : s ≤ n) : firstsB p (cutL t n s) s = true := by
  obtain ⟨a1, a2, a3, a4, a5⟩ := Plan.ok_len hok
  have htl := within_length hw
  have hq : ((n : Int) + (s : Int) - 1).tdiv (s : Int) = (sheetsN n s : Int) := by
    rw [Int.tdiv_eq_ediv_of_nonneg (by omega)]
    unfold sheetsN
    rw [show (n : Int) + (s : Int) - 1 = ((n + s - 1 : Nat) : Int) by omega]
    exact (Int.natCast_ediv _ _).symm
  unfold firstsB
  rw [cutL_len, hn, hq, decide_eq_true rfl, Bool.true_and, List.all_eq_true]
  intro l hl
  obtain ⟨i, hi, rfl⟩ := List.mem_map.1 hl
  have hi := List.mem_range.1 hi
  have his := (sheets_lt n s i hs).1 hi
  have hlen := afterL_length t (i * s)
  have hb := within_bound a5 hw
  have hbd := afterL_bound 99999 t hb (i * s)
  have hp : (2 : Int) ^ (i * s) ≤ 4096 := by
    have : (2 : Nat) ^ (i * s) ≤ 2 ^ 12 := Nat.pow_le_pow_right (by omega) (by omega)
    have h2 : ((2 ^ (i * s) : Nat) : Int) ≤ ((2 ^ 12 : Nat) : Int) := by exact_mod_cast this
    simpa using h2
  rw [Bool.and_eq_true]
  refine ⟨decide_eq_true (by omega), ?_⟩
  unfold stateB
  rw [Bool.and_eq_true, List.all_eq_true]
  refine ⟨by simp [inB]; omega, fun x hx => ?_⟩
  have := hbd x hx
  simp [farB, inB]
  omega
theorem cut_len (p : Plan) (t : List Int) (n s : Nat) (_hok : p.ok = true) (_hw : within p.starts t = true) (_hn : p.rows = n) (_hs : 1 ≤ s) (_hsn : s ≤ n) : ∀ i, i < (cutL t n s).length → ((cutL t n s).getD i []).length = t.length := by
  intro i hi
  rw [cutL_len] at hi
  rw [cut_getD t n s i hi, afterL_length]
theorem cut_bnd (p : Plan) (t : List Int) (n s : Nat) (hok : p.ok = true) (hw : within p.starts t = true) (hn : p.rows = n) (hs : 1 ≤ s) (_hsn : s ≤ n) : ∀ i, i < (cutL t n s).length → ∀ x, x ∈ (cutL t n s).getD i [] → -500000000 ≤ x ∧ x ≤ 500000000 := by
  obtain ⟨a1, a2, a3, a4, a5⟩ := Plan.ok_len hok
  intro i hi x hx
  rw [cutL_len] at hi
  rw [cut_getD t n s i hi] at hx
  have his := (sheets_lt n s i hs).1 hi
  have hb := within_bound a5 hw
  have hbd := afterL_bound 99999 t hb (i * s)
  have hp : (2 : Int) ^ (i * s) ≤ 4096 := by
    have : (2 : Nat) ^ (i * s) ≤ 2 ^ 12 := Nat.pow_le_pow_right (by omega) (by omega)
    have h2 : ((2 ^ (i * s) : Nat) : Int) ≤ ((2 ^ 12 : Nat) : Int) := by exact_mod_cast this
    simpa using h2
  have := hbd x hx
  omega
end Go.Vc

namespace Go.Vc
open Go Go.Proofs Go.RowKit
variable {g : GG}
def ownsL (i : Nat) : List AV := (List.range i).map fun j => .own (26 + j) 0
def rowB (ls : List (List Int)) (j : Nat) : ABlk := ⟨0, T_int, .lst ((ls.getD j []).map int)⟩
def rowsH (ls : List (List Int)) (i : Nat) : Heap := (List.range i).map fun j => (26 + j, some (rowB ls j))
def xAt : Nat → AV
  | 0 => .zc
  | i + 1 => .own 25 i
def boxAt : Nat → Heap
  | 0 => []
  | i + 1 => [(25, some ⟨i, T_l_int, .box (ownsL (i + 1))⟩)]
theorem look_map (f : Nat → ABlk) (k : Nat) : ∀ l : List Nat, lookH (l.map fun j => (26 + j, some (f j))) k = if 26 ≤ k ∧ k - 26 ∈ l then some (f (k - 26)) else none
  | [] => by simp
  | j :: r => by
    rw [List.map_cons, lookH_cons, look_map f k r]
    by_cases h : 26 + j = k
    · subst h
      simp
    · rw [if_neg h]
      have : ¬ (26 ≤ k ∧ k - 26 = j) := by omega
      by_cases h2 : 26 ≤ k
      · have h3 : ¬ (k - 26 = j) := fun e => this ⟨h2, e⟩
        simp [h2, h3]
      · simp [h2]
theorem look_rows (ls : List (List Int)) (i k : Nat) : lookH (rowsH ls i) k = if 26 ≤ k ∧ k - 26 < i then some (rowB ls (k - 26)) else none := by
  unfold rowsH
  rw [look_map]
  simp
theorem look_row {ls : List (List Int)} {i j : Nat} (h : j < i) : lookH (rowsH ls i) (26 + j) = some (rowB ls j) := by
  rw [look_rows]
  simp [h]
theorem look_ren {π : Nat → Nat} (hπ : ∀ i, π (π i) = i) (id : Nat) : ∀ (h : Heap), lookH (renH π h) id = (lookH h (π id)).map (ABlk.ren π)
  | [] => rfl
  | (k, b) :: r => by
    simp only [renH, lookH_cons_at, look_ren hπ id r]
    by_cases hk : id = π k
    · subst hk
      rw [if_pos rfl, hπ, if_pos rfl]
    · rw [if_neg hk, if_neg (fun e => hk (by rw [← e, hπ]))]
theorem weakH_of {h : Heap} : ∀ {l : Heap}, (∀ p, p ∈ l → lookH h p.1 = p.2) → weakH h l
  | [], _ => trivial
  | p :: r, hl => ⟨hl p (by simp), weakH_of fun q hq => hl q (by simp [hq])⟩
theorem renL_owns {π : Nat → Nat} (i : Nat) (h : ∀ j, j < i → π (26 + j) = 26 + j) : AV.ren.renL π (ownsL i) = ownsL i := by
  have : ∀ l : List Nat, (∀ j, j ∈ l → j < i) → AV.ren.renL π (l.map fun j => AV.own (26 + j) 0) = l.map fun j => AV.own (26 + j) 0 := by
    intro l
    induction l with
    | nil => intro _; rfl
    | cons j r ih =>
      intro hl
      simp only [List.map_cons, AV.ren.renL, AV.ren]
      rw [h j (hl j (by simp)), ih (fun k hk => hl k (by simp [hk]))]
  exact this _ (fun j hj => List.mem_range.1 hj)
theorem renL_app (π : Nat → Nat) : ∀ a b : List AV, AV.ren.renL π (a ++ b) = AV.ren.renL π a ++ AV.ren.renL π b
  | [], _ => rfl
  | x :: r, b => by simp only [List.cons_append, AV.ren.renL, renL_app π r b]
theorem owns_succ (i : Nat) : ownsL (i + 1) = ownsL i ++ [.own (26 + i) 0] := by simp [ownsL, List.range_succ]
theorem owns_at {i j : Nat} (h : j < i) : (ownsL i)[j]? = some (.own (26 + j) 0) := by simp [ownsL, h]
theorem owns_len (i : Nat) : (ownsL i).length = i := by simp [ownsL]
theorem row_ren (π : Nat → Nat) (ls : List (List Int)) (j : Nat) : (rowB ls j).ren π = rowB ls j := rfl
def sw (a b k : Nat) : Nat := if k = a then b else if k = b then a else k
theorem sw_sw (a b k : Nat) : sw a b (sw a b k) = k := by
  unfold sw
  by_cases h1 : k = a
  · subst h1; by_cases h2 : b = k <;> simp [h2]
  · by_cases h2 : k = b
    · subst h2; simp [h1]
    · simp [h1, h2]
theorem sw_ne {a b k : Nat} (h1 : k ≠ a) (h2 : k ≠ b) : sw a b k = k := by simp [sw, h1, h2]
theorem sw_l (a b : Nat) : sw a b a = b := by simp [sw]
theorem sw_r (a b : Nat) : sw a b b = a := by
  by_cases h : b = a
  · subst h; simp [sw]
  · simp [sw, h]
def pi0 (k : Nat) : Nat := sw 848 25 (sw 832 26 k)
theorem pi0_inv (k : Nat) : pi0 (pi0 k) = k := by
  unfold pi0 sw
  by_cases h1 : k = 832 <;> by_cases h2 : k = 26 <;> by_cases h3 : k = 848 <;> by_cases h4 : k = 25 <;> simp_all
def hdH (pb : ABlk) (ls : List (List Int)) (i : Nat) : Heap := (24, some pb) :: (boxAt i ++ rowsH ls i)
theorem rows_weak {h : Heap} {pb : ABlk} {ls : List (List Int)} {i : Nat} (h1 : lookH h 24 = some pb) (h2 : lookH h 25 = some ⟨i, T_l_int, .box (ownsL (i + 1))⟩) (h3 : ∀ j, j < i + 1 → lookH h (26 + j) = some (rowB ls j)) : weakH h (hdH pb ls (i + 1)) := by
  refine weakH_of fun p hp => ?_
  simp only [hdH, boxAt, rowsH, List.mem_cons, List.mem_append, List.mem_map, List.mem_range, List.not_mem_nil, or_false] at hp
  rcases hp with rfl | rfl | ⟨j, hj, rfl⟩
  · exact h1
  · exact h2
  · exact h3 j hj
theorem round0 (pb : ABlk) (hpb : ∀ π, pb.ren π = pb) (ls : List (List Int)) (B : Option ABlk) : weakH (renH pi0 [(848, some ⟨0, T_l_int, .box [.own 832 0]⟩), (840, B), (832, some (rowB ls 0)), (24, some pb)]) (hdH pb ls 1) := by
  refine rows_weak ?_ ?_ (fun j hj => ?_)
  · rw [look_ren pi0_inv]
    simp [pi0, sw]
    exact hpb _
  · rw [look_ren pi0_inv]
    simp [pi0, sw, ABlk.ren, Body.ren, AV.ren.renL, AV.ren, ownsL]
  · have : j = 0 := by omega
    subst this
    rw [look_ren pi0_inv]
    simp [pi0, sw]
    rfl
theorem round1 (pb : ABlk) (hpb : ∀ π, pb.ren π = pb) (ls : List (List Int)) (B : Option ABlk) (i : Nat) (hi : i ≤ 100) :
    weakH (renH (sw 832 (26 + (i + 1))) ((25, some ⟨i + 1, T_l_int, .box (ownsL (i + 1) ++ [.own 832 0])⟩) :: (840, B) :: (832, some (rowB ls (i + 1))) :: hdH pb ls (i + 1))) (hdH pb ls (i + 1 + 1)) := by
  have hs := sw_sw 832 (26 + (i + 1))
  refine rows_weak ?_ ?_ (fun j hj => ?_)
  · rw [look_ren hs, sw_ne (by omega) (by omega)]
    simp [hdH]
    exact hpb _
  · rw [look_ren hs, sw_ne (by omega) (by omega), owns_succ (i + 1)]
    simp only [lookH_cons, if_true, Option.map_some, ABlk.ren, Body.ren, renL_app, AV.ren.renL, AV.ren, sw_l]
    rw [renL_owns (i + 1) (fun j hj => sw_ne (by omega) (by omega))]
  · rw [look_ren hs]
    by_cases h : j = i + 1
    · subst h
      rw [sw_r]
      simp
      rfl
    · rw [sw_ne (by omega) (by omega)]
      have := look_row (ls := ls) (i := i + 1) (j := j) (by omega)
      simp only [hdH, boxAt, lookH_cons, List.cons_append, List.nil_append, if_neg (show ¬ 25 = 26 + j by omega), if_neg (show ¬ 840 = 26 + j by omega), if_neg (show ¬ 832 = 26 + j by omega), if_neg (show ¬ 24 = 26 + j by omega), this, Option.map_some, row_ren]
theorem rows_elems (B : BF) (ls : List (List Int)) (hB : ∀ j, j < ls.length → B (26 + j) 0 = some (T_int, .lst ((ls.getD j []).map int))) : elemsD B (ownsL ls.length) = some (ls.map ints, (List.range ls.length).map fun j => 26 + j) := by
  have key : ∀ (r : List Nat), (∀ j, j ∈ r → j < ls.length) → elemsD B (r.map fun j => AV.own (26 + j) 0) = some (r.map fun j => ints (ls.getD j []), r.map fun j => 26 + j) := by
    intro r
    induction r with
    | nil => intro _; rfl
    | cons j r ih =>
      intro h
      simp only [List.map_cons, elemsD, elemD]
      rw [hB j (h j (by simp)), ih (fun k hk => h k (by simp [hk]))]
      simp [ints]
  have e := key (List.range ls.length) (fun j hj => List.mem_range.1 hj)
  rw [show ownsL ls.length = (List.range ls.length).map fun j => AV.own (26 + j) 0 from rfl, e]
  congr 2
  apply List.ext_getElem?
  intro j
  by_cases hj : j < ls.length
  · simp [hj]
  · simp [hj]
theorem heapIds_app : ∀ a b : Heap, heapIds (a ++ b) = heapIds a ++ heapIds b
  | [], _ => rfl
  | (k, some x) :: r, b => by simp only [List.cons_append, heapIds, heapIds_app r b, List.append_assoc]
  | (k, none) :: r, b => by simp only [List.cons_append, heapIds, heapIds_app r b]
theorem ids_owns (i : Nat) : ∀ k, k ∈ ids.idsL (ownsL i) → k < 26 + i := by
  have key : ∀ l : List Nat, (∀ j, j ∈ l → j < i) → ∀ k, k ∈ ids.idsL (l.map fun j => AV.own (26 + j) 0) → k < 26 + i := by
    intro l
    induction l with
    | nil => intro _ k hk; simp [ids.idsL] at hk
    | cons j r ih =>
      intro hl k hk
      simp only [List.map_cons, ids.idsL, ids, List.mem_append, List.mem_singleton] at hk
      rcases hk with rfl | hk
      · have := hl j (by simp); omega
      · exact ih (fun m hm => hl m (by simp [hm])) k hk
  exact key _ (fun j hj => List.mem_range.1 hj)
theorem ids_rows (ls : List (List Int)) (i : Nat) : ∀ k, k ∈ heapIds (rowsH ls i) → k < 26 + i := by
  have key : ∀ l : List Nat, (∀ j, j ∈ l → j < i) → ∀ k, k ∈ heapIds (l.map fun j => (26 + j, some (rowB ls j))) → k < 26 + i := by
    intro l
    induction l with
    | nil => intro _ k hk; simp [heapIds] at hk
    | cons j r ih =>
      intro hl k hk
      simp only [List.map_cons, heapIds, rowB, Body.ids, List.nil_append, List.mem_cons] at hk
      rcases hk with rfl | hk
      · have := hl j (by simp); omega
      · exact ih (fun m hm => hl m (by simp [hm])) k hk
  exact key _ (fun j hj => List.mem_range.1 hj)
theorem ids_hd (pb : ABlk) (hpb : pb.body.ids = []) (ls : List (List Int)) (i : Nat) (hi : i ≤ 100) : ∀ k, k ∈ heapIds (hdH pb ls i) → k < 696 := by
  intro k hk
  simp only [hdH, heapIds, hpb, List.nil_append, heapIds_app, List.mem_cons, List.mem_append] at hk
  rcases hk with rfl | hk | hk
  · omega
  · cases i with
    | zero => simp [boxAt, heapIds] at hk
    | succ i =>
      simp only [boxAt, heapIds, Body.ids, List.append_nil, List.mem_cons] at hk
      rcases hk with rfl | hk
      · omega
      · have := ids_owns (i + 1) k hk; omega
  · have := ids_rows ls i k hk; omega
theorem look_hd24 (pb : ABlk) (ls : List (List Int)) (i : Nat) : lookH (hdH pb ls i) 24 = some pb := by simp [hdH]
theorem look_hd25 (pb : ABlk) (ls : List (List Int)) (i : Nat) : lookH (hdH pb ls (i + 1)) 25 = some ⟨i, T_l_int, .box (ownsL (i + 1))⟩ := by simp [hdH, boxAt]
theorem look_hdj (pb : ABlk) (ls : List (List Int)) (i j : Nat) (h : j < i) : lookH (hdH pb ls i) (26 + j) = some (rowB ls j) := by
  have := look_row (ls := ls) h
  cases i with
  | zero => omega
  | succ i => simp only [hdH, boxAt, lookH_cons, List.cons_append, List.nil_append, if_neg (show ¬ 25 = 26 + j by omega), if_neg (show ¬ 24 = 26 + j by omega), this]
theorem owns_get {i j : Nat} (h : j < (ownsL i).length) : (ownsL i)[j]'h = .own (26 + j) 0 := by simp [ownsL]
theorem wr_same (h : Heap) : wr h h = [] := by simp [wr]
theorem wr_one (h : Heap) (k : Nat) (b : Option ABlk) : wr h ((k, b) :: h) = [k] := by simp [wr]
theorem ord_sheets (k : Nat) : ORDX [] [0, 0, 3, 7, 0, 0, 0, 96, 224, 0, 992, 2016, 0, 8160, 16383, 32767] [(2, [], [25]), (3, [], [25]), (7, [], [25]), (8, [], [25]), (10, [], [k]), (11, [], [k]), (14, [], [k]), (15, [k], [k])] := by
  have e : ∀ i, i < 15 → Nat.testBit 32767 i = true := by decide
  simp [ORDX, ordX, clash, e 2 (by omega), e 3 (by omega), e 7 (by omega), e 8 (by omega), e 10 (by omega), e 11 (by omega), e 14 (by omega)]
end Go.Vc
