/- A part of the proof: general laws of a reading of the model by abstract data, or contracts of the functions that the law calls. -/
import Derived.Test.YtflbianfhogdjaaGreatDoorVc36
import Derived.Test.YtflbianfhogdjaaGreatDoorVc38
set_option maxRecDepth 100000
namespace Go.Vc
open Go Go.Proofs
variable {g : GG}
attribute [local simp] and_assoc
attribute [local simp] ints_cells
theorem POST_aggo {h : Heap} {id ver : Nat} {e : TypeId} {xs : List D} {x y x' y' : D} (h1 : 24 ≤ id ∧ bodyOf h id ver = some (e, .lst xs)) (h2 : x = x') (h3 : y = y') : POST (.agg [.own id ver, .d x, .d y]) h [] (.agg [.own 0 0, .d x', .d y']) [.upd ⟨0, e, .lst xs⟩] := by
  subst h2 h3
  obtain ⟨rs, k1, k2, k3, k4, k5, k6, k7⟩ := POST_own.2 h1
  exact ⟨rs, k1, k2, k3, k4, ⟨k5, by simp [yv, argD, toD], by simp [yv, argD, toD], trivial⟩, k6, by simpa [fz, fz.fzL, ids] using k7⟩
theorem ref01_With_own (p : Plan) (i : Nat) (s : Sp) (h : Int) (hs : p.starts[i]? = some s) (hl : p.starts.length ≤ 1000) : Meets (Tz g) f_ref01_With [p.d, int i, int h] ⟨.agg [.own 0 0, .d (int p.rows), .d (int p.guard)], [⟨0, T_api_Span, .lst ((p.starts.set i ⟨s.low, h⟩).map Sp.d)⟩]⟩ := by
  have hi := (List.getElem?_eq_some_iff.1 hs).1
  refine meets_ref01_With ?_
  unfold vc_ref01_With
  have hse : p.starts[i] = s := by rw [List.getElem?_eq_getElem hi] at hs; exact Option.some.inj hs
  simp [Plan.d, spans, hi, hse, Sp.d]
  refine ⟨by omega, POST_aggo ⟨by omega, ?_⟩ rfl rfl⟩
  simp
def addL : List Int → List Int → List Int
  | a :: r, b :: s => (a + b) :: addL r s
  | _, _ => []
theorem addL_len : ∀ (a b : List Int), a.length = b.length → (addL a b).length = a.length
  | [], [], _ => rfl
  | x :: r, y :: s, h => by simp [addL, addL_len r s (by simpa using h)]
theorem addL_get : ∀ (a b : List Int) (i : Nat) (x y : Int), a[i]? = some x → b[i]? = some y → (addL a b)[i]? = some (x + y)
  | [], _, i, x, y, h, _ => by simp at h
  | _ :: _, [], i, x, y, _, h => by simp at h
  | u :: r, v :: s, 0, x, y, h1, h2 => by simp at h1 h2; simp [addL, h1, h2]
  | u :: r, v :: s, i + 1, x, y, h1, h2 => by
    simp only [addL, List.getElem?_cons_succ] at *
    exact addL_get r s i x y h1 h2
theorem valL_add (n : Nat) : ∀ (a b : List Int) (k : Nat), a.length = b.length → valL (addL a b) n k = valL a n k + valL b n k
  | [], [], _, _ => by simp [addL, valL]
  | x :: r, y :: s, k, h => by
    have := valL_add n r s (k + 1) (by simpa using h)
    simp only [addL, valL, this, Int.add_mul]
    omega
def onesL (l : List Int) : List Sp := l.map fun x => ⟨x, x⟩
theorem onesL_within : ∀ l : List Int, within (onesL l) l = true
  | [] => rfl
  | x :: r => by
    have := onesL_within r
    simp only [onesL, List.map_cons, within] at this ⊢
    rw [this]
    simp [inB]
def narrow (p : Plan) (i : Nat) (nw : Sp) (rows : Int) : Plan := ⟨p.starts.set i nw, rows, p.guard⟩
theorem narrow_lows (p : Plan) (i : Nat) (s nw : Sp) (rows : Int) (hs : p.starts[i]? = some s) (h : s.low ≤ nw.low) (k : Nat) : valL (lows p) k 0 ≤ valL (lows (narrow p i nw rows)) k 0 := by
  refine valL_mono k _ _ 0 (by simp [lows, narrow]) (fun j x y hx hy => ?_)
  simp only [lows, narrow, List.getElem?_map, List.getElem?_set] at hx hy
  by_cases hj : i = j
  · subst hj
    have hi := (List.getElem?_eq_some_iff.1 hs).1
    rw [hs] at hx
    simp [hi] at hx hy
    omega
  · rw [if_neg hj] at hy
    rw [hx] at hy
    simp at hy
    omega
theorem narrow_highs (p : Plan) (i : Nat) (s nw : Sp) (rows : Int) (hs : p.starts[i]? = some s) (h : nw.high ≤ s.high) (k : Nat) : valL (highs (narrow p i nw rows)) k 0 ≤ valL (highs p) k 0 := by
  refine valL_mono k _ _ 0 (by simp [highs, narrow]) (fun j x y hx hy => ?_)
  simp only [highs, narrow, List.getElem?_map, List.getElem?_set] at hx hy
  by_cases hj : i = j
  · subst hj
    have hi := (List.getElem?_eq_some_iff.1 hs).1
    rw [hs] at hy
    simp [hi] at hx hy
    omega
  · rw [if_neg hj] at hx
    rw [hy] at hx
    simp at hx
    omega
theorem narrow_ok (p : Plan) (i : Nat) (s nw : Sp) (rows : Int) (hok : p.ok = true) (hs : p.starts[i]? = some s) (h1 : s.low ≤ nw.low) (h2 : nw.high ≤ s.high) (h3 : nw.low ≤ nw.high) (h4 : 1 ≤ rows) (h5 : rows ≤ p.rows) : (narrow p i nw rows).ok = true := by
  obtain ⟨a1, a2, a3, a4, a5⟩ := Plan.ok_len hok
  have hsb := a5 s (List.mem_of_getElem? hs)
  have hnw : startB nw = true := by
    simp [startB, inB] at hsb ⊢
    omega
  have hall : ∀ x, x ∈ p.starts.set i nw → startB x = true := fun x hx => by
    rcases List.mem_or_eq_of_mem_set hx with hx | hx
    · exact a5 x hx
    · rw [hx]; exact hnw
  simp [Plan.ok, inB] at hok
  simp [Plan.ok, inB, narrow]
  have g1 : 0 ≤ p.guard := by omega
  have g2 : p.guard ≤ 3 := by omega
  have g3 : rows ≤ 12 := by omega
  exact ⟨by omega, by omega, decide_eq_true h4, decide_eq_true g3, decide_eq_true g1, decide_eq_true g2, hall⟩
theorem differ_Table_own (p : Plan) (t : List Int) (n : Nat) (h1 : p.ok = true) (h2 : within p.starts t = true) (hn : p.rows = n) : Meets (Tz g) f_differ_Table [p.d, ints t] ⟨.tup [.own 0 0, .d (int 0)], [⟨0, T_int, .lst ((heads t n).map int)⟩]⟩ := by
  obtain ⟨a1, a2, a3, a4, a5⟩ := Plan.ok_len h1
  have hlen := within_length h2
  refine meets_differ_Table ?_
  unfold vc_differ_Table
  simp [Plan.d, spans]
  refine CALL.val _ _ rfl (differ_isPlan_meets p (by omega)) (.inl rfl) ?_
  simp [h1]
  refine CALL.val _ _ rfl (differ_isTruth_meets p t (by omega) (by omega)) (.inl rfl) ?_
  simp [h2]
  refine CALL.mk [tabD p t] _ rfl (differ_values_meets p t n hn (by omega) (by omega) (by omega) (fun x hx => by have := within_bound a5 h2 x hx; omega)) (.inl rfl) (by simp) ?_
  simp
@[simp high] theorem BIN_Sp_eq (a b : Sp) (K : AV → Prop) : BIN 1002 .eql (.d (.agg [int a.low, int a.high])) (.d (.agg [int b.low, int b.high])) K = K (.d (.bool (decide (a = b)))) := by
  have e : binD 1002 .eql (.agg [int a.low, int a.high]) (.agg [int b.low, int b.high]) = some (.bool (decide (a = b))) := by
    obtain ⟨a1, a2⟩ := a
    obtain ⟨b1, b2⟩ := b
    by_cases h1 : a1 = b1 <;> by_cases h2 : a2 = b2 <;> simp [h1, h2]
  show (∃ r, binD 1002 .eql _ _ = some r ∧ K (.d r)) = _
  rw [e]
  simp
theorem heads_at (t : List Int) (n k : Nat) (h : 1 ≤ t.length) (hk : k < n) : (heads t n)[k]? = some (valL t k 0) := by
  rw [heads_val t n h]
  simp [hk]
def rowAt (p : Plan) (k : Nat) : Sp := ⟨valL (lows p) k 0, valL (highs p) k 0⟩
theorem rowsL_val (p : Plan) (n k : Nat) (hn : p.rows = n) (h : k < n) (h1 : 1 ≤ p.starts.length) : (rowsL p)[k]? = some (rowAt p k) := by
  rw [rowsL_get p n k hn h, after_head _ _ (by rw [lows_len]; exact h1), after_head _ _ (by rw [highs_len]; exact h1)]
  rfl
theorem narrow_self (p : Plan) (i : Nat) (s : Sp) (rows : Int) (hs : p.starts[i]? = some s) (k : Nat) : rowAt (narrow p i s rows) k = rowAt p k := by
  have e : p.starts.set i s = p.starts := by
    have := set_self' hs
    exact this
  simp [rowAt, narrow, lows, highs, e]
end Go.Vc
