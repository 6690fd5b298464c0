/- A part of the proof: general laws of a reading of the model by abstract data, or contracts of the functions that the law calls. -/
import Derived.Test.YtnbdfpppcdgkpaaGreatDoorVc42
set_option maxRecDepth 100000
namespace Go.Vc
open Go Go.Proofs
variable {g : GG}
attribute [local simp] and_assoc
attribute [local simp] ints_cells
theorem equal_ints_meets (l m : List Int) (hl : l.length ≤ 1000000) (_hm : m.length ≤ 1000000) : Meets (Tz g) f_slices_Equal_l_int_int [ints l, ints m] ⟨.d (.bool (decide (l = m))), []⟩ := by
  refine meets_slices_Equal_l_int_int ?_
  unfold vc_slices_Equal_l_int_int
  simp [ints]
  constructor
  · intro h
    have : l ≠ m := fun e => h (by rw [e])
    simpa using this
  · intro h
    have h : l.length = m.length := by omega
    refine LOOP.mk Nat (fun k => [.d (ints l), .d (ints m), .d (int l.length), .d (int k)]) (fun k => []) (fun k => k ≤ l.length ∧ (l = m ↔ l.drop k = m.drop k)) (fun k => l.length - k) [] (by simp) 0 (by simp) (by simp [WEAK, ints]) (fun _ _ => rfl) ?_
    rintro k ⟨hk, he⟩
    simp [vc_slices_Equal_l_int_int_k0, ints]
    constructor
    · intro hlt
      have hlt : k < l.length := by omega
      have h1 : l[k]? = some l[k] := List.getElem?_eq_getElem hlt
      have h2 : m[k]? = some m[k] := List.getElem?_eq_getElem (by omega)
      rw [List.drop_eq_getElem_cons hlt, List.drop_eq_getElem_cons (show k < m.length by omega)] at he
      generalize l[k] = a at h1 he
      generalize m[k] = b at h2 he
      simp [h1, h2]
      refine ⟨rfl, ?_, ?_⟩
      · intro hq e
        exact hq (List.cons.inj (he.1 e)).1
      · intro hq
        rw [wrap_id (n := (k : Int) + 1) (by omega) (by omega)]
        refine ⟨k + 1, by omega, ?_, by simp [WEAK], by omega⟩
        exact he.trans ⟨fun h' => (List.cons.inj h').2, fun h' => by rw [hq, h']⟩
    · intro hge
      have : k = l.length := by omega
      subst this
      exact he.2 (by rw [List.drop_eq_nil_of_le (by omega), List.drop_eq_nil_of_le (by omega)])
def offB (ls : List (List Int)) (s : Nat) (i : Nat) : Bool := decide (0 < i) && !decide (afterL s (ls.getD (i - 1) []) = ls.getD i [])
def joinK (ls : List (List Int)) (s : Nat) (k : Nat) : List Int := ((List.range k).filter (offB ls s)).map fun (i : Nat) => (i : Int)
def joinsL (ls : List (List Int)) (s : Nat) : List Int := joinK ls s ls.length
theorem joinK_step (ls : List (List Int)) (s k : Nat) : joinK ls s (k + 1) = joinK ls s k ++ (if offB ls s k then [(k : Int)] else []) := by
  unfold joinK
  rw [List.range_succ, List.filter_append, List.map_append]
  congr 1
  by_cases h : offB ls s k = true
  · simp [h]
  · simp [h]
theorem joinK_len (ls : List (List Int)) (s k : Nat) : (joinK ls s k).length ≤ k := by
  unfold joinK
  simp
  have := List.length_filter_le (offB ls s) (List.range k)
  simpa using this
end Go.Vc

namespace Go.Vc
open Go Go.Proofs
theorem stepL_inj : ∀ (a b : List Int), a.length = b.length → stepL a = stepL b → a = b
  | [], [], _, _ => rfl
  | [x], [y], _, h => by simpa [stepL] using h
  | x :: y :: r, x' :: y' :: r', hl, h => by
    simp only [stepL, List.cons.injEq] at h
    obtain ⟨h1, h2⟩ := h
    have := stepL_inj (y :: r) (y' :: r') (by simpa using hl) h2
    simp only [List.cons.injEq] at this
    obtain ⟨rfl, rfl⟩ := this
    have : x = x' := by omega
    rw [this]
  | [], _ :: _, hl, _ => by simp at hl
  | _ :: _, [], hl, _ => by simp at hl
  | [_], _ :: _ :: _, hl, _ => by simp at hl
  | _ :: _ :: _, [_], hl, _ => by simp at hl
theorem afterL_inj (a b : List Int) (hl : a.length = b.length) : ∀ s, afterL s a = afterL s b → a = b
  | 0, h => h
  | s + 1, h => afterL_inj a b hl s (stepL_inj _ _ (by rw [afterL_length, afterL_length, hl]) h)
theorem getD_set {α : Type} (l : List α) (i j : Nat) (x d : α) (hi : i < l.length) : (l.set i x).getD j d = if j = i then x else l.getD j d := by
  rw [List.getD_eq_getElem?_getD, List.getElem?_set, List.getD_eq_getElem?_getD]
  by_cases h : i = j
  · subst h
    simp [hi]
  · rw [if_neg h, if_neg (fun e => h e.symm)]
theorem joins_changed (ls : List (List Int)) (s sheet : Nat) (y : List Int) (hs : sheet < ls.length) (hj : ∀ i, i < ls.length → offB ls s i = false) (hy : y ≠ ls.getD sheet []) (hyl : y.length = (ls.getD sheet []).length) :
    joinK (ls.set sheet y) s ls.length = (if 0 < sheet then [(sheet : Int)] else []) ++ (if sheet + 1 < ls.length then [((sheet + 1 : Nat) : Int)] else []) := by
  have hat := fun j => getD_set ls sheet j y [] hs
  have hgo : ∀ i, 0 < i → i < ls.length → afterL s (ls.getD (i - 1) []) = ls.getD i [] := fun i h0 hi => by
    have := hj i hi
    simp only [offB, Bool.and_eq_false_iff, decide_eq_false_iff_not, Bool.not_eq_false', decide_eq_true_eq] at this
    rcases this with h | h
    · omega
    · exact h
  have hoff : ∀ i, i < ls.length → offB (ls.set sheet y) s i = (decide (i = sheet ∧ 0 < sheet) || decide (i = sheet + 1)) := fun i hi => by
    unfold offB
    rw [hat, hat]
    by_cases h0 : i = 0
    · subst h0
      simp
      omega
    · have hg := hgo i (by omega) hi
      have hd0 : decide (0 < i) = true := decide_eq_true (by omega)
      rw [hd0, Bool.true_and]
      by_cases h1 : i = sheet
      · subst h1
        rw [if_neg (by omega), if_pos rfl, hg, decide_eq_false (fun e => hy e.symm)]
        simp
        omega
      · rw [if_neg h1]
        by_cases h2 : i = sheet + 1
        · subst h2
          rw [if_pos (by omega), ← hg, show sheet + 1 - 1 = sheet by omega, decide_eq_false (fun e => hy (afterL_inj _ _ hyl s e))]
          simp
        · rw [if_neg (by omega), hg, decide_eq_true rfl]
          simp [h1, h2]
  have key : ∀ k, k ≤ ls.length → joinK (ls.set sheet y) s k = (if 0 < sheet ∧ sheet < k then [(sheet : Int)] else []) ++ (if sheet + 1 < k then [((sheet + 1 : Nat) : Int)] else []) := by
    intro k
    induction k with
    | zero => intro _; simp [joinK]
    | succ k ih =>
      intro hk
      rw [joinK_step, ih (by omega), hoff k (by omega)]
      by_cases h1 : k = sheet
      · subst h1
        by_cases h0 : 0 < k
        · simp [h0]
        · simp [h0]
      · by_cases h2 : k = sheet + 1
        · subst h2
          have h3 : sheet < sheet + 1 + 1 := by omega
          by_cases h0 : 0 < sheet
          · simp [h0, h3]
          · simp [h0]
        · have e1 : (0 < sheet ∧ sheet < k + 1) ↔ (0 < sheet ∧ sheet < k) := by omega
          have e2 : (sheet + 1 < k + 1) ↔ (sheet + 1 < k) := by omega
          simp only [e1, e2, h1, h2]
          simp
  have := key ls.length (Nat.le_refl _)
  rw [this]
  congr 1
  by_cases h0 : 0 < sheet
  · rw [if_pos ⟨h0, hs⟩, if_pos h0]
  · rw [if_neg (fun h => h0 h.1), if_neg h0]
end Go.Vc
