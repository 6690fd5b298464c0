/- A part of the proof: general laws of a reading of the model by abstract data, or contracts of the functions that the law calls. -/
import Derived.Test.YtnbdfpppcdgkpaaGreatDoorVc31
set_option maxRecDepth 100000
namespace Go.Vc
open Go Go.Proofs
variable {g : GG}
theorem idx_any {α : Type} (q : α → Bool) : ∀ (l : List α) (i : Int), 0 ≤ i → decide (0 ≤ idx q l i) = l.any q := by
  intro l
  induction l with
  | nil => intro i hi; simp [idx]
  | cons x r ih =>
    intro i hi
    simp only [idx, List.any_cons]
    by_cases hq : q x = true
    · simp [hq, hi]
    · have := ih (i + 1) (by omega)
      simp [hq]
      simpa using this
theorem contains_Span_meets (l : List Sp) (f : FuncId) (q : Sp → Bool) (hf : ∀ s, Meets (Tz g) f [s.d] ⟨.d (.bool (q s)), []⟩) (hl : l.length ≤ 1000) : Meets (Tz g) f_slices_ContainsFunc_l_api_Span_api_Span [spans l, .fn f [] []] ⟨.d (.bool (l.any q)), []⟩ := by
  refine meets_slices_ContainsFunc_l_api_Span_api_Span ?_
  unfold vc_slices_ContainsFunc_l_api_Span_api_Span
  refine CALL.val _ _ rfl (index_Span_meets l f q hf hl) (.inl rfl) ?_
  simp [← idx_any q l 0 (by omega)]
def Plan.ok (p : Plan) : Bool := inB p.starts.length 1 4 && (inB p.rows 1 12 && (inB p.guard 0 3 && !p.starts.any fun s => !startB s))
theorem differ_isPlan_meets (p : Plan) (hl : p.starts.length ≤ 1000) : Meets (Tz g) f_differ_isPlan [p.d] ⟨.d (.bool p.ok), []⟩ := by
  refine meets_differ_isPlan ?_
  unfold vc_differ_isPlan
  simp [Plan.d, spans]
  refine CALL.val _ _ rfl (differ_in_meets _ _ _) (.inl rfl) ?_
  simp [Plan.ok]
  constructor
  · intro h1
    refine CALL.val _ _ rfl (differ_in_meets _ _ _) (.inl rfl) ?_
    simp [h1]
    constructor
    · intro h2
      refine CALL.val _ _ rfl (differ_in_meets _ _ _) (.inl rfl) ?_
      simp [h2]
      constructor
      · intro h3
        refine CALL.val _ _ rfl (contains_Span_meets p.starts _ _ differ_isPlan_1_meets hl) (.inl rfl) ?_
        simp [h3]
      · intro h3; simp [h3]
    · intro h2; simp [h2]
  · intro h1; simp [h1]
theorem clone_ints_meets (l : List Int) (hl : l.length ≤ 1000) : Meets (Tz g) f_slices_Clone_l_int_int [ints l] ⟨.own 0 0, [⟨0, T_int, .lst (l.map int)⟩]⟩ := by
  refine meets_slices_Clone_l_int_int ?_
  unfold vc_slices_Clone_l_int_int
  cases l with
  | nil => simp [ints]
  | cons n r =>
    simp at hl
    simp [ints]
    omega
end Go.Vc

namespace Go.Vc
open Go Go.Proofs
variable {g : GG}
def stepL : List Int → List Int
  | a :: b :: r => (a + b) :: stepL (b :: r)
  | l => l
def afterL : Nat → List Int → List Int
  | 0, l => l
  | k + 1, l => stepL (afterL k l)
theorem stepL_length : ∀ l : List Int, (stepL l).length = l.length
  | [] => rfl
  | [_] => rfl
  | a :: b :: r => by simp [stepL, stepL_length (b :: r)]
theorem afterL_length (l : List Int) : ∀ k, (afterL k l).length = l.length
  | 0 => rfl
  | k + 1 => by simp [afterL, stepL_length, afterL_length l k]
theorem stepL_get : ∀ (l : List Int) (i : Nat) (a b : Int), l[i]? = some a → l[i + 1]? = some b → (stepL l)[i]? = some (a + b)
  | [], i, a, b, h, _ => by simp at h
  | [x], i, a, b, h, h' => by simp at h'
  | x :: y :: r, 0, a, b, h, h' => by simp at h h'; subst h; subst h'; simp [stepL]
  | x :: y :: r, i + 1, a, b, h, h' => by simp only [stepL, List.getElem?_cons_succ]; exact stepL_get (y :: r) i a b (by simpa using h) (by simpa using h')
theorem stepL_last : ∀ (l : List Int) (i : Nat), i + 1 = l.length → (stepL l)[i]? = l[i]?
  | [], i, h => by simp at h
  | [x], 0, _ => rfl
  | [x], i + 1, h => by simp at h
  | x :: y :: r, 0, h => by simp at h
  | x :: y :: r, i + 1, h => by simp only [stepL, List.getElem?_cons_succ]; exact stepL_last (y :: r) i (by simpa using h)
theorem stepL_bound (b : Int) : ∀ (l : List Int), (∀ x, x ∈ l → -b ≤ x ∧ x ≤ b) → ∀ x, x ∈ stepL l → -(2 * b) ≤ x ∧ x ≤ 2 * b
  | [], h, x, hx => by simp [stepL] at hx
  | [y], h, x, hx => by simp [stepL] at hx; subst hx; have := h x (by simp); omega
  | y :: z :: r, h, x, hx => by
    simp only [stepL, List.mem_cons] at hx
    rcases hx with hx | hx
    · have h1 := h y (by simp); have h2 := h z (by simp); omega
    · exact stepL_bound b (z :: r) (fun w hw => h w (by simp at hw ⊢; exact .inr hw)) x hx
theorem afterL_bound (b : Int) (l : List Int) (h : ∀ x, x ∈ l → -b ≤ x ∧ x ≤ b) : ∀ k x, x ∈ afterL k l → -(2 ^ k * b) ≤ x ∧ x ≤ 2 ^ k * b
  | 0, x, hx => by simpa using h x hx
  | k + 1, x, hx => by
    have := stepL_bound (2 ^ k * b) (afterL k l) (afterL_bound b l h k) x hx
    rw [Int.pow_succ]
    have e : (2 : Int) ^ k * 2 * b = 2 * (2 ^ k * b) := by rw [Int.mul_comm ((2 : Int) ^ k) 2, Int.mul_assoc]
    rw [e]; exact this
end Go.Vc

namespace Go.Vc
open Go Go.Proofs
variable {g : GG}
def mix (s : List Int) (i : Nat) : List Int := (stepL s).take i ++ s.drop i
theorem mix_get (s : List Int) (i j : Nat) (hi : i ≤ s.length) : (mix s i)[j]? = if j < i then (stepL s)[j]? else s[j]? := by
  have hl := stepL_length s
  unfold mix
  by_cases h : j < i
  · rw [List.getElem?_append_left (by simp; omega), if_pos h, List.getElem?_take, if_pos h]
  · rw [List.getElem?_append_right (by simp; omega), if_neg h, List.getElem?_drop]
    congr 1
    simp
    omega
theorem mix_step (s : List Int) (i : Nat) (h : i + 1 < s.length) : (mix s i).set i (s[i] + s[i + 1]) = mix s (i + 1) := by
  have hl := stepL_length s
  refine List.ext_getElem? fun j => ?_
  rw [List.getElem?_set, mix_get s (i + 1) j (by omega), mix_get s i j (by omega)]
  by_cases hj : i = j
  · subst hj
    have hm : i < (mix s i).length := by simp [mix, hl]; omega
    rw [if_pos rfl, if_pos hm, if_pos (by omega), stepL_get s i s[i] s[i + 1] (List.getElem?_eq_getElem (by omega)) (List.getElem?_eq_getElem (by omega))]
  · rw [if_neg hj]
    by_cases h2 : j < i
    · rw [if_pos h2, if_pos (by omega)]
    · rw [if_neg h2, if_neg (by omega)]
theorem mix_end (s : List Int) (i : Nat) (h : i + 1 = s.length) : mix s i = stepL s := by
  have hl := stepL_length s
  refine List.ext_getElem? fun j => ?_
  rw [mix_get s i j (by omega)]
  by_cases h2 : j < i
  · rw [if_pos h2]
  · rw [if_neg h2]
    by_cases h3 : j = i
    · subst h3; exact (stepL_last s j h).symm
    · rw [List.getElem?_eq_none (by omega), List.getElem?_eq_none (by omega)]
set_option maxHeartbeats 1000000 in
theorem differ_after_meets (l : List Int) (rows : Nat) (hl : 1 ≤ l.length) (hl2 : l.length ≤ 1000) (hr : rows ≤ 12) (hb : ∀ x, x ∈ l → -1000000000 ≤ x ∧ x ≤ 1000000000) :
    Meets (Tz g) f_differ_after [ints l, int rows] ⟨.own 0 0, [⟨0, T_int, .lst ((afterL rows l).map int)⟩]⟩ := by
  refine meets_differ_after ?_
  unfold vc_differ_after
  refine CALL.mk _ _ rfl (clone_ints_meets l hl2) (.inl rfl) (by simp) ?_
  refine LOOP.mk Nat (fun k => [.own 40 0, .d (int rows), .d (int k)]) (fun k => [(40, some ⟨0, T_int, .lst ((afterL k l).map int)⟩)]) (fun k => k ≤ rows) (fun k => rows - k) [] (by simp) 0 (by omega) (by simp [WEAK, afterL]) (fun _ _ => rfl) ?_
  intro k hk
  simp
  constructor
  · intro hlt
    have hsl : (afterL k l).length = l.length := afterL_length l k
    generalize hs : afterL k l = s at hsl
    rw [wrap_id (by omega) (by omega)]
    refine LOOP.mk Nat (fun i => [.own 40 0, .d (int rows), .d (int k), .d (int (s.length - 1)), .d (int i)]) (fun i => [(40, some ⟨0, T_int, .lst ((mix s i).map int)⟩)]) (fun i => i + 1 ≤ s.length) (fun i => s.length - i) [] (by simp) 0 (by omega) (by simp [WEAK, mix]) (fun _ _ => rfl) ?_
    intro i hi
    simp
    constructor
    · intro hi2
      have hi3 : i + 1 < s.length := by omega
      have hm : (mix s i).length = s.length := by simp [mix, stepL_length]; omega
      have hg0 : (mix s i)[i]? = some s[i] := by
        simp only [mix]
        rw [List.getElem?_append_right (by simp; omega)]
        simp [stepL_length]
        rw [show i - min i s.length = 0 by omega]
        simp
      have hg1 : (mix s i)[i + 1]? = some s[i + 1] := by
        simp only [mix]
        rw [List.getElem?_append_right (by simp; omega)]
        simp [stepL_length]
        rw [show i + 1 - min i s.length = 1 by omega]
        simp
      rw [wrap_id (n := (i : Int) + 1) (by omega) (by omega)]
      have e1 : ((i : Int) + 1).toNat = i + 1 := by omega
      simp [hg0, hg1, hm, e1]
      have hbd : ∀ x, x ∈ s → -(2 ^ k * 1000000000) ≤ x ∧ x ≤ 2 ^ k * 1000000000 := by rw [← hs]; exact afterL_bound 1000000000 l hb k
      have hp : (2 : Int) ^ k ≤ 4096 := by
        have : (2 : Nat) ^ k ≤ 2 ^ 12 := Nat.pow_le_pow_right (by omega) (by omega)
        have h2 : ((2 ^ k : Nat) : Int) ≤ ((2 ^ 12 : Nat) : Int) := by exact_mod_cast this
        simpa using h2
      have b0 := hbd s[i] (List.getElem_mem _)
      have b1 := hbd s[i + 1] (List.getElem_mem _)
      rw [wrap_id (n := s[i] + s[i + 1]) (by omega) (by omega)]
      refine ⟨by omega, by omega, by omega, by omega, rfl, ?_⟩
      refine ⟨i + 1, by omega, ?_, by omega⟩
      simp [WEAK]
      rw [← mix_step s i hi3, List.map_set]
    · intro hge
      rw [wrap_id (n := (k : Int) + 1) (by omega) (by omega)]
      refine ⟨k + 1, by omega, ?_, by omega⟩
      simp [WEAK, afterL, hs]
      rw [mix_end s i (by omega)]
  · intro hge
    have : k = rows := by omega
    subst this
    simp
end Go.Vc

namespace Go.Vc
open Go Go.Proofs
variable {g : GG}
def tabD (p : Plan) (t : List Int) : D := .agg [spans p.starts, int p.rows, int p.guard, ints t]
theorem differ_state_meets (p : Plan) (t : List Int) (row : Nat) (hl : 1 ≤ t.length) (hl2 : t.length ≤ 1000) (hr : row ≤ 12) (hb : ∀ x, x ∈ t → -1000000000 ≤ x ∧ x ≤ 1000000000) :
    Meets (Tz g) f_differ_table_state [tabD p t, int row] ⟨.own 0 0, [⟨0, T_int, .lst ((afterL row t).map int)⟩]⟩ := by
  refine meets_differ_table_state ?_
  unfold vc_differ_table_state
  simp [tabD, ints, spans]
  refine CALL.mk _ _ rfl (differ_after_meets t row hl hl2 hr hb) (.inl rfl) (by simp) ?_
  simp
end Go.Vc

namespace Go.Vc
open Go Go.Proofs
variable {g : GG}
def within : List Sp → List Int → Bool
  | s :: ss, n :: ns => inB n s.low s.high && within ss ns
  | [], [] => true
  | _, _ => false
def from' (ss : List Sp) (ns : List Int) (k : Nat) : Bool := within (ss.drop k) (ns.drop k)
theorem within_length : ∀ {ss : List Sp} {ns : List Int}, within ss ns = true → ss.length = ns.length
  | [], [], _ => rfl
  | s :: ss, n :: ns, h => by simp [within] at h; simp [within_length h.2]
  | [], _ :: _, h => by simp [within] at h
  | _ :: _, [], h => by simp [within] at h
theorem within_ne : ∀ {ss : List Sp} {ns : List Int}, ss.length ≠ ns.length → within ss ns = false := fun {ss ns} h => by
  cases hw : within ss ns with
  | false => rfl
  | true => exact absurd (within_length hw) h
theorem from_step (ss : List Sp) (ns : List Int) (k : Nat) (s : Sp) (n : Int) (h1 : ss[k]? = some s) (h2 : ns[k]? = some n) : from' ss ns k = (inB n s.low s.high && from' ss ns (k + 1)) := by
  have l1 := (List.getElem?_eq_some_iff.1 h1).1
  have l2 := (List.getElem?_eq_some_iff.1 h2).1
  rw [List.getElem?_eq_getElem l1] at h1
  rw [List.getElem?_eq_getElem l2] at h2
  unfold from'
  rw [List.drop_eq_getElem_cons l1, List.drop_eq_getElem_cons l2, Option.some.inj h1, Option.some.inj h2]
  rfl
theorem differ_isTruth_meets (p : Plan) (t : List Int) (hl : p.starts.length ≤ 1000) (hl2 : t.length ≤ 1000) : Meets (Tz g) f_differ_isTruth [p.d, ints t] ⟨.d (.bool (within p.starts t)), []⟩ := by
  refine meets_differ_isTruth ?_
  unfold vc_differ_isTruth
  simp [Plan.d, ints, spans]
  constructor
  · intro h
    exact within_ne (ss := p.starts) (ns := t) (by omega)
  · intro h
    refine LOOP.mk Nat (fun k => [.ptr 24 0 0 0, .d (ints t), .d (int t.length), .d (int k)]) (fun k => [(24, some ⟨0, T_api_DifferPlan, .box [.d (spans p.starts), .d (int p.rows), .d (int p.guard)]⟩)]) (fun k => k ≤ t.length ∧ within p.starts t = from' p.starts t k) (fun k => t.length - k) [] (by simp) 0 (by simp [from']) (by simp [WEAK, spans, ints]) (fun _ _ => rfl) ?_
    rintro k ⟨hk, he⟩
    simp [ints, spans]
    constructor
    · intro hlt
      have hlt : k < t.length := by omega
      have h1 : t[k]? = some t[k] := List.getElem?_eq_getElem hlt
      have h2 : p.starts[k]? = some p.starts[k] := List.getElem?_eq_getElem (by omega)
      simp [h1, h2, Sp.d]
      rw [from_step _ _ _ _ _ h2 h1] at he
      refine CALL.val _ _ rfl (differ_in_meets _ _ _) (.inl rfl) ?_
      simp
      refine ⟨rfl, ?_, ?_⟩
      · intro hq
        rw [hq] at he
        simpa using he
      · intro hq
        rw [hq] at he
        rw [wrap_id (n := (k : Int) + 1) (by omega) (by omega)]
        refine ⟨k + 1, ⟨by omega, by simpa using he⟩, ?_, by omega⟩
        simp [WEAK, ints, spans]
    · intro hge
      have : k = t.length := by omega
      subst this
      rw [he]
      unfold from'
      rw [List.drop_eq_nil_of_le (by omega), List.drop_eq_nil_of_le (by omega)]
      simp [within]
end Go.Vc

namespace Go.Vc
open Go Go.Proofs
variable {g : GG}
theorem Plan.ok_len {p : Plan} (h : p.ok = true) : 1 ≤ p.starts.length ∧ p.starts.length ≤ 4 ∧ 1 ≤ p.rows ∧ p.rows ≤ 12 ∧ ∀ s, s ∈ p.starts → startB s = true := by
  simp [Plan.ok, inB] at h
  refine ⟨by omega, by omega, by omega, by omega, h.2.2.2⟩
theorem within_bound : ∀ {ss : List Sp} {ns : List Int}, (∀ s, s ∈ ss → startB s = true) → within ss ns = true → ∀ n, n ∈ ns → -99999 ≤ n ∧ n ≤ 99999
  | [], [], _, _, n, hn => by simp at hn
  | s :: ss, m :: ns, h, hw, n, hn => by
    simp [within] at hw
    rcases List.mem_cons.1 hn with rfl | hn
    · have h1 := h s (by simp)
      simp [startB, inB] at h1 hw
      omega
    · exact within_bound (fun s hs => h s (by simp [hs])) hw.2 n hn
  | [], _ :: _, _, h, _, _ => by simp [within] at h
  | _ :: _, [], _, h, _, _ => by simp [within] at h
end Go.Vc

namespace Go.Vc
open Go Go.Proofs
variable {g : GG}
theorem ref01_in_meets (x lo hi : Int) : Meets (Tz g) f_ref01_in [int x, int lo, int hi] ⟨.d (.bool (inB x lo hi)), []⟩ := by
  refine meets_ref01_in ?_
  unfold vc_ref01_in
  simp [inB]
  constructor
  · intro h; simp [h]
  · intro h; omega
theorem in_min (x a b : Int) : inB x a (min 99999 b) = (inB x a 99999 && decide (x ≤ b)) := by
  unfold inB
  by_cases h1 : a ≤ x <;> by_cases h2 : x ≤ 99999 <;> by_cases h3 : x ≤ b <;> simp [h1, h2, h3] <;> omega
theorem ref01_Start_meets (s : Sp) : Meets (Tz g) f_ref01_Start [s.d] ⟨.d (.bool (startB s)), []⟩ := by
  refine meets_ref01_Start ?_
  unfold vc_ref01_Start
  simp [Sp.d]
  refine CALL.val _ _ rfl (ref01_in_meets _ _ _) (.inl rfl) ?_
  simp [startB]
  constructor
  · intro h
    have h3 := h
    simp [inB] at h3
    rw [wrap_id (by omega) (by omega)]
    refine CALL.val _ _ rfl (ref01_in_meets _ _ _) (.inl rfl) ?_
    rw [in_min]
    simp [h]
  · intro h; simp [h]
def okFrom (ss : List Sp) (k : Nat) : Bool := (ss.drop k).all startB
theorem okFrom_step (ss : List Sp) (k : Nat) (s : Sp) (h : ss[k]? = some s) : okFrom ss k = (startB s && okFrom ss (k + 1)) := by
  have l1 := (List.getElem?_eq_some_iff.1 h).1
  rw [List.getElem?_eq_getElem l1] at h
  unfold okFrom
  rw [List.drop_eq_getElem_cons l1, Option.some.inj h]
  rfl
theorem any_all (ss : List Sp) : (!ss.any fun s => !startB s) = ss.all startB := by
  induction ss with
  | nil => rfl
  | cons s r ih => simp only [List.any_cons, List.all_cons, ← ih]; cases startB s <;> simp
theorem ref01_Plan_meets (p : Plan) (hl : p.starts.length ≤ 1000) : Meets (Tz g) f_ref01_Plan [p.d] ⟨.d (.bool p.ok), []⟩ := by
  refine meets_ref01_Plan ?_
  unfold vc_ref01_Plan
  simp [Plan.d, spans]
  refine CALL.val _ _ rfl (ref01_in_meets _ _ _) (.inl rfl) ?_
  have hok : p.ok = (inB p.starts.length 1 4 && (inB p.rows 1 12 && (inB p.guard 0 3 && p.starts.all startB))) := by
    rw [← any_all]; rfl
  rw [hok]
  clear hok
  generalize hb : p.starts.all startB = b
  simp
  constructor
  · intro h1; simp [h1]
  · intro h1
    refine CALL.val _ _ rfl (ref01_in_meets _ _ _) (.inl rfl) ?_
    simp [h1]
    constructor
    · intro h2; simp [h2]
    · intro h2
      refine CALL.val _ _ rfl (ref01_in_meets _ _ _) (.inl rfl) ?_
      simp [h2]
      constructor
      · intro h3; simp [h3]
      · intro h3
        simp [h3]
        refine LOOP.mk Nat (fun k => [.ptr 24 0 0 0, .d (int k)]) (fun k => [(24, some ⟨0, T_api_DifferPlan, .box [.d (spans p.starts), .d (int p.rows), .d (int p.guard)]⟩)]) (fun k => k ≤ p.starts.length ∧ b = okFrom p.starts k) (fun k => p.starts.length - k) [] (by simp) 0 (by simp [okFrom, ← hb]) (by simp [WEAK, spans]) (fun _ _ => rfl) ?_
        rintro k ⟨hk, he⟩
        simp [spans]
        constructor
        · intro hlt
          have hlt : k < p.starts.length := by omega
          have h4 : p.starts[k]? = some p.starts[k] := List.getElem?_eq_getElem hlt
          simp [h4, Sp.d]
          rw [okFrom_step _ _ _ h4] at he
          refine CALL.val _ _ rfl (ref01_Start_meets p.starts[k]) (.inl rfl) ?_
          simp
          constructor
          · intro hq; rw [he, hq]; simp
          · intro hq
            rw [hq] at he
            rw [wrap_id (n := (k : Int) + 1) (by omega) (by omega)]
            refine ⟨k + 1, ⟨by omega, by simpa using he⟩, ?_, by omega⟩
            simp [WEAK, spans]
        · intro hge
          have : k = p.starts.length := by omega
          subst this
          rw [he]
          simp [okFrom]
theorem ref01_Truth_meets (p : Plan) (t : List Int) (hl : p.starts.length ≤ 1000) (hl2 : t.length ≤ 1000) : Meets (Tz g) f_ref01_Truth [p.d, ints t] ⟨.d (.bool (within p.starts t)), []⟩ := by
  refine meets_ref01_Truth ?_
  unfold vc_ref01_Truth
  simp [Plan.d, ints, spans]
  constructor
  · intro h
    exact within_ne (ss := p.starts) (ns := t) (by omega)
  · intro h
    refine LOOP.mk Nat (fun k => [.d (ints t), .ptr 24 0 0 0, .d (int k)]) (fun k => [(24, some ⟨0, T_api_DifferPlan, .box [.d (spans p.starts), .d (int p.rows), .d (int p.guard)]⟩)]) (fun k => k ≤ t.length ∧ within p.starts t = from' p.starts t k) (fun k => t.length - k) [] (by simp) 0 (by simp [from']) (by simp [WEAK, spans, ints]) (fun _ _ => rfl) ?_
    rintro k ⟨hk, he⟩
    simp [ints, spans]
    constructor
    · intro hlt
      have hlt : k < t.length := by omega
      have h1 : t[k]? = some t[k] := List.getElem?_eq_getElem hlt
      have h2 : p.starts[k]? = some p.starts[k] := List.getElem?_eq_getElem (by omega)
      simp [h1, h2, Sp.d]
      rw [from_step _ _ _ _ _ h2 h1] at he
      refine CALL.val _ _ rfl (ref01_in_meets _ _ _) (.inl rfl) ?_
      simp
      refine ⟨rfl, ?_, ?_⟩
      · intro hq
        rw [hq] at he
        simpa using he
      · intro hq
        rw [hq] at he
        rw [wrap_id (n := (k : Int) + 1) (by omega) (by omega)]
        refine ⟨k + 1, ⟨by omega, by simpa using he⟩, ?_, by omega⟩
        simp [WEAK, ints, spans]
    · intro hge
      have : k = t.length := by omega
      subst this
      rw [he]
      unfold from'
      rw [List.drop_eq_nil_of_le (by omega), List.drop_eq_nil_of_le (by omega)]
      simp [within]
theorem ref01_Same_meets (l m : List Int) (hl : l.length ≤ 1000000) (hm : m.length ≤ 1000000) : Meets (Tz g) f_ref01_Same [ints l, ints m] ⟨.d (.bool (decide (l = m))), []⟩ := by
  refine meets_ref01_Same ?_
  unfold vc_ref01_Same
  simp [ints]
  constructor
  · intro h
    have : l ≠ m := fun e => h (by rw [e])
    simpa using this
  · intro h
    have h : l.length = m.length := by omega
    refine LOOP.mk Nat (fun k => [.d (ints l), .d (ints m), .d (int k)]) (fun k => []) (fun k => k ≤ l.length ∧ (l = m ↔ l.drop k = m.drop k)) (fun k => l.length - k) [] (by simp) 0 (by simp) (by simp [WEAK, ints]) (fun _ _ => rfl) ?_
    rintro k ⟨hk, he⟩
    simp [ints]
    constructor
    · intro hlt
      have hlt : k < l.length := by omega
      have h1 : l[k]? = some l[k] := List.getElem?_eq_getElem hlt
      have h2 : m[k]? = some m[k] := List.getElem?_eq_getElem (by omega)
      rw [List.drop_eq_getElem_cons hlt, List.drop_eq_getElem_cons (show k < m.length by omega)] at he
      simp [h1, h2]
      refine ⟨rfl, ?_, ?_⟩
      · intro hq
        intro e
        exact hq (List.cons.inj (he.1 e)).1
      · intro hq
        rw [wrap_id (n := (k : Int) + 1) (by omega) (by omega)]
        refine ⟨k + 1, ⟨by omega, ?_⟩, ?_, by omega⟩
        · refine he.trans ⟨fun h' => (List.cons.inj h').2, fun h' => by rw [hq, h']⟩
        · simp [WEAK, ints]
    · intro hge
      have : k = l.length := by omega
      subst this
      exact he.2 (by rw [List.drop_eq_nil_of_le (by omega), List.drop_eq_nil_of_le (by omega)])
theorem law01_short_meets (p : Plan) : Meets (Tz g) f_law01_short [p.d] ⟨.d (.bool (decide (p.starts.length ≤ 6))), []⟩ := by
  refine meets_law01_short ?_
  unfold vc_law01_short
  simp [Plan.d, spans]
  omega
def rightB (p : Plan) (t : List Int) : Bool := decide (p.starts.length ≤ 6) && (decide (t.length ≤ 6) && (p.ok && within p.starts t))
theorem law01_right_meets (p : Plan) (t : List Int) : Meets (Tz g) f_law01_right [p.d, ints t] ⟨.d (.bool (rightB p t)), []⟩ := by
  refine meets_law01_right ?_
  unfold vc_law01_right
  simp [Plan.d, spans, ints]
  refine CALL.val [p.d] _ rfl (law01_short_meets p) (.inl rfl) ?_
  simp
  constructor
  · intro h1
    constructor
    · intro h2
      refine CALL.val [p.d] _ rfl (ref01_Plan_meets p (by omega)) (.inl rfl) ?_
      simp
      constructor
      · intro h3
        refine CALL.val [p.d, ints t] _ rfl (ref01_Truth_meets p t (by omega) (by omega)) (.inl rfl) ?_
        simp [rightB, h1, h3]
        intro _
        omega
      · intro h3; simp [rightB, h3]
    · intro h2
      simp [rightB]
      intro _ h; omega
  · intro h1
    simp [rightB]
    intro h; omega
end Go.Vc
