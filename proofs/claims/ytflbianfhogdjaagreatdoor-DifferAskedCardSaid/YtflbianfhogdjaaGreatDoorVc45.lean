/- A part of the proof: general laws of a reading of the model by abstract data, or contracts of the functions that the law calls. -/
import Derived.Test.YtflbianfhogdjaaGreatDoorVc41
import Derived.Test.YtflbianfhogdjaaGreatDoorVc42
set_option maxRecDepth 100000
namespace Go.Vc
open Go Go.Proofs
abbrev Ents := List (Sn × Nat)
def entsM : Ents → Nat → List MEnt
  | [], _ => []
  | (k, c) :: r, j => ⟨k.d, int c, j⟩ :: entsM r (j + 1)
def eqS (x y : Sn) : Bool := decide (x.row = y.row) && decide (x.value = y.value)
theorem eqS_iff {x y : Sn} : eqS x y = true ↔ x = y := by
  cases x; cases y
  simp [eqS]
def fnd (x : Sn) : Ents → Nat → Nat → Option (Nat × MEnt)
  | [], _, _ => none
  | (k, c) :: r, i, j => match eqS x k with | true => some (i, ⟨k.d, int c, j⟩) | false => fnd x r (i + 1) (j + 1)
theorem keyEq_Sn (x k : Sn) : keyEq x.d k.d = some (eqS x k) := by
  simp [keyEq, Sn.d, beqAll, eqS, D.beq]
theorem mfind_ents (x : Sn) : ∀ (l : Ents) (i j : Nat), mfind x.d (entsM l j) i = some (fnd x l i j)
  | [], _, _ => rfl
  | (k, c) :: r, i, j => by
    simp only [entsM, mfind, keyEq_Sn, fnd]
    cases eqS x k with
    | true => rfl
    | false => exact mfind_ents x r (i + 1) (j + 1)
def cntE (x : Sn) : Ents → Nat
  | [] => 0
  | (k, c) :: r => match eqS x k with | true => c | false => cntE x r
def bump (x : Sn) : Ents → Ents
  | [] => [(x, 1)]
  | (k, c) :: r => match eqS x k with | true => (k, c + 1) :: r | false => (k, c) :: bump x r
def hasE (x : Sn) : Ents → Bool
  | [] => false
  | (k, _) :: r => match eqS x k with | true => true | false => hasE x r
theorem cntE_bump (x y : Sn) : ∀ l : Ents, cntE y (bump x l) = cntE y l + (match eqS y x with | true => 1 | false => 0)
  | [] => by
    simp only [bump, cntE]
    cases eqS y x <;> rfl
  | (k, c) :: r => by
    simp only [bump, cntE]
    cases hx : eqS x k with
    | true =>
      have e := eqS_iff.1 hx
      subst e
      simp only [cntE]
      cases eqS y x <;> rfl
    | false =>
      simp only [cntE]
      cases hy : eqS y k with
      | true =>
        have e := eqS_iff.1 hy
        subst e
        have : eqS y x = false := by
          cases h : eqS y x with
          | false => rfl
          | true =>
            have := eqS_iff.1 h
            subst this
            rw [hx] at hy
            cases hy
        simp [this]
      | false => exact cntE_bump x y r
theorem fnd_none (x : Sn) : ∀ (l : Ents) (i j : Nat), hasE x l = false → fnd x l i j = none ∧ cntE x l = 0 ∧ bump x l = l ++ [(x, 1)]
  | [], _, _, _ => ⟨rfl, rfl, rfl⟩
  | (k, c) :: r, i, j, h => by
    simp only [hasE] at h
    cases hx : eqS x k with
    | true => rw [hx] at h; cases h
    | false =>
      rw [hx] at h
      obtain ⟨h1, h2, h3⟩ := fnd_none x r (i + 1) (j + 1) h
      simp only [fnd, cntE, bump, hx]
      exact ⟨h1, h2, by rw [h3]; rfl⟩
theorem fnd_some (x : Sn) : ∀ (l : Ents) (i j : Nat), hasE x l = true → ∃ n, fnd x l i j = some (i + n, ⟨x.d, int (cntE x l), j + n⟩) ∧ n < l.length ∧ (entsM l j)[n]? = some ⟨x.d, int (cntE x l), j + n⟩ ∧ mstore ((j + n : Nat) : Int) (int ((cntE x l : Int) + 1)) (entsM l j) = some (entsM (bump x l) j)
  | [], _, _, h => by cases h
  | (k, c) :: r, i, j, h => by
    simp only [hasE] at h
    cases hx : eqS x k with
    | true =>
      have e := eqS_iff.1 hx
      subst e
      refine ⟨0, by simp [fnd, cntE, hx], by simp, by simp [entsM, cntE, hx], ?_⟩
      simp [entsM, mstore, bump, cntE, hx]
    | false =>
      rw [hx] at h
      obtain ⟨n, h1, h2, h3, h4⟩ := fnd_some x r (i + 1) (j + 1) h
      refine ⟨n + 1, ?_, by simp; omega, ?_, ?_⟩
      · simp only [fnd, cntE, hx]
        rw [h1]
        have e1 : i + 1 + n = i + (n + 1) := by omega
        have e2 : j + 1 + n = j + (n + 1) := by omega
        rw [e1, e2]
      · simp only [entsM, cntE, hx, List.getElem?_cons_succ]
        rw [h3]
        have e2 : j + 1 + n = j + (n + 1) := by omega
        rw [e2]
      · simp only [entsM, mstore, bump, cntE, hx]
        have hne : ¬ ((j : Int) = ((j + (n + 1) : Nat) : Int)) := by omega
        rw [if_neg hne]
        have e2 : j + 1 + n = j + (n + 1) := by omega
        rw [e2] at h4
        rw [h4]
        rfl
theorem mstore_last (x : Sn) (v : D) : ∀ (l : Ents) (j : Nat), mstore ((j + l.length : Nat) : Int) v (entsM l j ++ [⟨x.d, int 0, j + l.length⟩]) = some (entsM l j ++ [⟨x.d, v, j + l.length⟩])
  | [], j => by simp [entsM, mstore]
  | (k, c) :: r, j => by
    simp only [entsM, List.cons_append, mstore, List.length_cons]
    have hne : ¬ ((j : Int) = ((j + (r.length + 1) : Nat) : Int)) := by omega
    rw [if_neg hne]
    have e : j + (r.length + 1) = j + 1 + r.length := by omega
    rw [e, mstore_last x v r (j + 1)]
    rfl
theorem entsM_append (x : Sn) (c : Nat) : ∀ (l : Ents) (j : Nat), entsM (l ++ [(x, c)]) j = entsM l j ++ [⟨x.d, int c, j + l.length⟩]
  | [], j => rfl
  | (k, d) :: r, j => by
    simp only [List.cons_append, entsM, List.length_cons]
    rw [entsM_append x c r (j + 1)]
    have e : j + (r.length + 1) = j + 1 + r.length := by omega
    rw [e]
theorem bump_len (x : Sn) (l : Ents) : (bump x l).length = (match hasE x l with | true => l.length | false => l.length + 1) := by
  induction l with
  | nil => rfl
  | cons a r ih =>
    obtain ⟨k, c⟩ := a
    simp only [bump, hasE]
    cases eqS x k with
    | true => rfl
    | false => simp only [List.length_cons, ih]; cases hasE x r <;> rfl
theorem lookup_ents {h : Heap} {id : Nat} {e : TypeId} {l : Ents} {x : Sn} {K : AV → Prop} (hB : bodyOf h id 0 = some (e, .mp (entsM l 0) l.length)) (hK : K (.d (int (cntE x l)))) : LOOKUP 1002 (.num .i64 0) false (.mapv id) (.d x.d) h K := by
  refine ⟨id, e, entsM l 0, l.length, x.d, fnd x l 0 0, by simp only [mapAt, hB], rfl, by simp [keyOK, Sn.d, D.isNum], mfind_ents x l 0 0, ?_⟩
  cases hx : hasE x l with
  | true =>
    obtain ⟨n, h1, _, _, _⟩ := fnd_some x l 0 0 hx
    rw [h1]
    exact hK
  | false =>
    obtain ⟨h1, h2, _⟩ := fnd_none x l 0 0 hx
    rw [h1]
    rw [h2] at hK
    exact hK
theorem count_step {h : Heap} {id : Nat} {e : TypeId} {l : Ents} {x : Sn} {K : Heap → Heap → Prop} (hB : bodyOf h id 0 = some (e, .mp (entsM l 0) l.length)) (hc : cntE x l ≤ 1000000)
    (hK : ∀ b, K ((id, some b) :: h) ((id, some ⟨0, e, .mp (entsM (bump x l) 0) (bump x l).length⟩) :: (id, some b) :: h)) :
    LOOKUP 1002 (.num .i64 0) false (.mapv id) (.d x.d) h (fun v10 => BIN 0 .add v10 (.d (.num .i64 1)) fun v11 => MENTRY 1002 (.num .i64 0) (.mapv id) (.d x.d) h fun v12 h13 => EXT v12 1 fun v14 => MSTORE (.mapv id) v14 v11 h13 fun h15 => K h13 h15) := by
  refine lookup_ents hB ⟨int ((cntE x l : Int) + 1), ?_, id, e, entsM l 0, l.length, x.d, fnd x l 0 0, by simp only [mapAt, hB], rfl, by simp [keyOK, Sn.d, D.isNum], mfind_ents x l 0 0, ?_⟩
  · simp
    exact wrap_id (by omega) (by omega)
  · cases hx : hasE x l with
    | true =>
      obtain ⟨n, h1, h2, h3, h4⟩ := fnd_some x l 0 0 hx
      rw [h1]
      refine ⟨_, rfl, id, e, entsM l 0, l.length, _, _, entsM (bump x l) 0, ?_, rfl, rfl, h4, ?_⟩
      · simp only [mapAt, bodyOf, lookH_cons]
        simp
        have h5 := List.getElem?_eq_some_iff.1 h3
        obtain ⟨h6, h7⟩ := h5
        have : (entsM l 0).set n (entsM l 0)[n] = entsM l 0 := List.set_getElem_self h6
        rw [h7] at this
        simpa using this
      · have hb := bump_len x l
        rw [hx] at hb
        simp only at hb
        rw [← hb]
        exact hK _
    | false =>
      obtain ⟨h1, h2, h3⟩ := fnd_none x l 0 0 hx
      rw [h1]
      refine ⟨_, rfl, id, e, entsM l 0 ++ [⟨x.d, int 0, 0 + l.length⟩], l.length + 1, _, _, entsM (bump x l) 0, ?_, rfl, rfl, ?_, ?_⟩
      · simp only [mapAt, bodyOf, lookH_cons]
        simp
      · have := mstore_last x (int ((cntE x l : Int) + 1)) l 0
        rw [h3, entsM_append]
        rw [h2] at this ⊢
        simpa using this
      · have hb := bump_len x l
        rw [hx] at hb
        simp only at hb
        rw [← hb]
        exact hK _
end Go.Vc

namespace Go.Vc
open Go Go.Proofs
variable {g : GG}
attribute [local simp] and_assoc
def askD (x : Int × Int) : D := .agg [int x.1, int x.2]
@[simp] theorem askD_cells (x : Int × Int) : (askD x).cells.length = 2 := rfl
def bestA : List (Int × Int) → Int × Int → Int × Int
  | [], o => o
  | x :: r, o => bestA r (if x.2 < o.2 then x else o)
theorem Next_1_meets (a b : Int × Int) : Meets (Tz g) f_differ_Next_1 [askD a, askD b] ⟨.d (.bool (decide (a.2 < b.2))), []⟩ := by
  refine meets_differ_Next_1 ?_
  unfold vc_differ_Next_1
  simp [askD]
theorem best_asked_meets (x0 : Int × Int) (l : List (Int × Int)) (hl : l.length ≤ 1000) : Meets (Tz g) f_differ_best_differ_asked [.list ((x0 :: l).map askD), .fn f_differ_Next_1 [] []] ⟨.d (askD (bestA l x0)), []⟩ := by
  refine meets_differ_best_differ_asked ?_
  unfold vc_differ_best_differ_asked
  simp
  refine ⟨by rintro _ _ _ _ rfl; rfl, by omega, ?_⟩
  rw [take_all (by simp)]
  refine LOOP.mk (Nat × (Int × Int)) (fun st => [.d (.fn f_differ_Next_1 [] []), .ptr 24 0 0 0, .ptr 56 0 0 0, .d (.list (l.map askD)), .d (int l.length), .d (int st.1)]) (fun st => [(56, some ⟨0, T_differ_asked, .box [.d (int st.2.1), .d (int st.2.2)]⟩), (24, some ⟨0, T_differ_asked, .box [.d (int 0), .d (int 0)]⟩)]) (fun st => st.1 ≤ l.length ∧ bestA l x0 = bestA (l.drop st.1) st.2) (fun st => l.length - st.1) [] (by simp) (0, x0) (by simp) (by simp [WEAK, askD]) (fun _ _ => rfl) ?_
  rintro ⟨k, o⟩ ⟨hk, he⟩
  simp only at hk he
  simp [vc_differ_best_differ_asked_k1]
  constructor
  · intro hlt
    have hg : l[k]? = some l[k] := List.getElem?_eq_getElem hlt
    rw [List.drop_eq_getElem_cons hlt] at he
    generalize l[k] = x at hg he
    obtain ⟨x1, x2⟩ := x
    obtain ⟨o1, o2⟩ := o
    simp [hg, askD]
    refine CALL.val [askD (x1, x2), askD (o1, o2)] _ (by simp [askD]) (Next_1_meets _ _) (.inl rfl) ?_
    simp only [bestA] at he
    simp [vc_differ_best_differ_asked_k0]
    rw [wrap_id (n := (k : Int) + 1) (by omega) (by omega)]
    constructor
    · intro hq
      rw [if_pos hq] at he
      exact ⟨k + 1, by omega, x1, x2, he, by simp [WEAK], by omega⟩
    · intro hq
      rw [if_neg (by omega)] at he
      exact ⟨k + 1, by omega, o1, o2, he, by simp [WEAK], by omega⟩
  · intro hge
    rw [List.drop_eq_nil_of_le hge] at he
    simp [he, bestA, askD]
def lftN (vs : List Int) : Nat → Nat
  | 0 => 0
  | j + 1 => max (lftN vs j) ((vs.take (j + 1)).count (vs.getD j 0))
def valsR (ts : List (List Int)) (r : Nat) : List Int := ts.map fun t => valL t r 0
def leftR (ts : List (List Int)) (r : Nat) : Nat := lftN (valsR ts r) ts.length
def asksL (ts : List (List Int)) (n : Nat) : List (Int × Int) := (List.range n).map fun (r : Nat) => ((r : Int), (leftR ts r : Int))
def nextA (ts : List (List Int)) (n : Nat) : Int × Int := bestA ((asksL ts n).drop 1) (0, (leftR ts 0 : Int))
end Go.Vc
