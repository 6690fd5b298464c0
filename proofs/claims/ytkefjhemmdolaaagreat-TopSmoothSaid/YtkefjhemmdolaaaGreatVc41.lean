/- A part of the proof: general laws of a reading of the model by abstract data, or contracts of the functions that the law calls. -/
import Derived.Test.YtkefjhemmdolaaaGreatVc29
import Derived.Test.YtkefjhemmdolaaaGreatVc34
import Derived.Test.YtkefjhemmdolaaaGreatVc34
import Derived.Test.YtkefjhemmdolaaaGreatVc35
set_option maxRecDepth 100000
namespace Go.Vc
open Go Go.Proofs
variable {g : GG}
attribute [local simp] and_assoc
structure Tb where
  vals : List Sp
  rule : Int
  off : Int
def Tb.d (t : Tb) : D := .agg [spans t.vals, int t.rule, int t.off]
def valB (s : Sp) : Bool := inB s.low (-9999) 9999 && inB s.high s.low (min 9999 (s.low + 4))
def Tb.ok (t : Tb) : Bool := t.vals.all valB && (inB t.vals.length 2 13 && (inB t.rule 1 4 && inB t.off 0 100))
theorem valB_facts {s : Sp} (h : valB s = true) : -9999 ≤ s.low ∧ s.low ≤ s.high ∧ s.high ≤ 9999 ∧ s.high ≤ s.low + 4 := by
  simp [valB, inB] at h
  omega
theorem Tb.ok_facts {t : Tb} (h : t.ok = true) : (∀ s, s ∈ t.vals → valB s = true) ∧ (2 ≤ t.vals.length ∧ t.vals.length ≤ 13) ∧ (1 ≤ t.rule ∧ t.rule ≤ 4) ∧ 0 ≤ t.off ∧ t.off ≤ 100 := by
  simp only [Tb.ok, inB, Bool.and_eq_true, decide_eq_true_eq, List.all_eq_true] at h
  refine ⟨h.1, ?_, h.2.2.1, h.2.2.2⟩
  omega
theorem ref04_Rule_meets (r : Int) : Meets (Tz g) f_ref04_Rule [int r] ⟨.d (.bool (inB r 1 4)), []⟩ := by
  refine meets_ref04_Rule ?_
  unfold vc_ref04_Rule
  simp [inB]
  constructor
  · intro h; simp [h]
  · intro h; omega
theorem ref05_in_meets (x lo hi : Int) : Meets (Tz g) f_ref05_in [int x, int lo, int hi] ⟨.d (.bool (inB x lo hi)), []⟩ := by
  refine meets_ref05_in ?_
  unfold vc_ref05_in
  simp [inB]
  constructor
  · intro h; simp [h]
  · intro h; omega
theorem ref05_Off_meets (x : Int) : Meets (Tz g) f_ref05_Off [int x] ⟨.d (.bool (inB x 0 100)), []⟩ := by
  refine meets_ref05_Off ?_
  unfold vc_ref05_Off
  exact CALL.val [int x, int 0, int 100] _ rfl (ref05_in_meets x 0 100) (.inl rfl) (by simp)
theorem ref05_Value_meets (s : Sp) : Meets (Tz g) f_ref05_Value [s.d] ⟨.d (.bool (valB s)), []⟩ := by
  refine meets_ref05_Value ?_
  unfold vc_ref05_Value
  simp [Sp.d, lookH]
  refine CALL.val [int s.low, int (-9999), int 9999] _ rfl (ref05_in_meets _ _ _) (.inl rfl) ?_
  cases h : inB s.low (-9999) 9999 with
  | true =>
    have h' := h
    simp [inB] at h'
    have w := wrap_id (n := s.low + 4) (by omega) (by omega)
    simp [vc_ref05_Value_k0, lookH, w]
    refine CALL.val [int s.high, int s.low, int (min 9999 (s.low + 4))] _ rfl (ref05_in_meets _ _ _) (.inl rfl) ?_
    simp [valB, h]
  | false => simp [vc_ref05_Value_k0, valB, h]
theorem all_from {α : Type} (q : α → Bool) {l : List α} {k : Nat} {x : α} (h : l[k]? = some x) : (l.drop k).all q = (q x && (l.drop (k + 1)).all q) := by
  have hlt := (List.getElem?_eq_some_iff.1 h).1
  rw [List.drop_eq_getElem_cons hlt, List.all_cons]
  rw [List.getElem?_eq_getElem hlt] at h
  injection h with h
  rw [h]
theorem ref05_Table_meets (t : Tb) (hl : t.vals.length ≤ 1000000) : Meets (Tz g) f_ref05_Table [t.d] ⟨.d (.bool t.ok), []⟩ := by
  refine meets_ref05_Table ?_
  unfold vc_ref05_Table
  simp [Tb.d, spans]
  refine LOOP.mk Nat (fun i => [.ptr 24 0 0 0, .d (int i)]) (fun i => [(24, some ⟨0, T_api_StepTable, .box [.d (spans t.vals), .d (int t.rule), .d (int t.off)]⟩)]) (fun i => i ≤ t.vals.length ∧ t.vals.all valB = (t.vals.drop i).all valB) (fun i => t.vals.length - i) [] (by simp) 0 (by simp) (by simp [WEAK, lookH, spans]) (fun _ _ => rfl) ?_
  rintro i ⟨hi, he⟩
  have w1 := wrap_id (n := (i : Int) + 1) (by omega) (by omega)
  simp [vc_ref05_Table_k1, lookH, spans]
  refine ⟨fun hlt => ?_, fun hge => ?_⟩
  · have hg : t.vals[i]? = some t.vals[i] := List.getElem?_eq_getElem hlt
    refine ⟨_, ⟨_, hg, rfl⟩, rfl, ?_⟩
    simp [Sp.d]
    refine CALL.val [(t.vals[i]).d] _ rfl (ref05_Value_meets _) (.inl rfl) ?_
    rw [all_from valB hg] at he
    cases hv : valB t.vals[i] with
    | true =>
      rw [hv] at he
      simp [w1]
      exact ⟨i + 1, by omega, by simpa using he, by simp [WEAK, lookH, spans], by omega⟩
    | false =>
      rw [hv, Bool.false_and] at he
      simp [Tb.ok, he]
  · have : i = t.vals.length := by omega
    subst this
    simp at he
    have he : t.vals.all valB = true := by rw [List.all_eq_true]; exact he
    refine CALL.val [int t.vals.length, int 2, int 13] _ rfl (ref05_in_meets _ _ _) (.inl rfl) ?_
    cases h1 : inB t.vals.length 2 13 with
    | false => simp [vc_ref05_Table_k0, Tb.ok, h1]
    | true =>
      simp [vc_ref05_Table_k0, lookH, spans]
      refine CALL.val [int t.rule] _ rfl (ref04_Rule_meets _) (.inl rfl) ?_
      cases h2 : inB t.rule 1 4 with
      | false => simp [Tb.ok, h1, h2]
      | true =>
        simp [lookH]
        refine CALL.val [int t.off] _ rfl (ref05_Off_meets _) (.inl rfl) ?_
        simp [Tb.ok, h1, h2, he]
theorem step_in_meets (x lo hi : Int) : Meets (Tz g) f_step_in [int x, int lo, int hi] ⟨.d (.bool (inB x lo hi)), []⟩ := by
  refine meets_step_in ?_
  unfold vc_step_in
  simp [inB]
  constructor
  · intro h; simp [h]
  · intro h; omega
theorem step_isRule_meets (r : Int) : Meets (Tz g) f_step_isRule [int r] ⟨.d (.bool (inB r 1 4)), []⟩ := by
  refine meets_step_isRule ?_
  unfold vc_step_isRule
  simp [inB]
  constructor
  · intro h; simp [h]
  · intro h; omega
theorem isTable_1_meets (s : Sp) : Meets (Tz g) f_step_isTable_1 [s.d] ⟨.d (.bool (!valB s)), []⟩ := by
  refine meets_step_isTable_1 ?_
  unfold vc_step_isTable_1
  simp [Sp.d, lookH]
  refine CALL.val [int s.low, int (-9999), int 9999] _ rfl (step_in_meets _ _ _) (.inl rfl) ?_
  cases h1 : inB s.low (-9999) 9999 with
  | false => simp [vc_step_isTable_1_k1, valB, h1]
  | true =>
    simp [vc_step_isTable_1_k1, lookH]
    refine CALL.val [int s.high, int s.low, int 9999] _ rfl (step_in_meets _ _ _) (.inl rfl) ?_
    cases h2 : inB s.high s.low 9999 with
    | false =>
      have e : inB s.high s.low (min 9999 (s.low + 4)) = false := by
        simp only [inB, Bool.and_eq_false_iff, decide_eq_false_iff_not] at h2 ⊢
        omega
      simp [vc_step_isTable_1_k0, valB, e]
    | true =>
      have h1' := h1
      have h2' := h2
      simp [inB] at h1' h2'
      have w := wrap_id (n := s.high - s.low) (by omega) (by omega)
      simp [vc_step_isTable_1_k0, lookH, w, valB, h1]
      by_cases h3 : s.high ≤ s.low + 4
      · have e : inB s.high s.low (min 9999 (s.low + 4)) = true := by
          simp only [inB, Bool.and_eq_true, decide_eq_true_eq]; omega
        rw [e]; simp; omega
      · have e : inB s.high s.low (min 9999 (s.low + 4)) = false := by
          simp only [inB, Bool.and_eq_false_iff, decide_eq_false_iff_not]; omega
        rw [e]; simp; omega
theorem isTable_meets (t : Tb) (h : t.ok = true) : Meets (Tz g) f_step_isTable [t.d] ⟨.d (.bool true), []⟩ := by
  obtain ⟨f1, f2, f3, f4⟩ := Tb.ok_facts h
  refine meets_step_isTable ?_
  unfold vc_step_isTable
  simp [Tb.d, lookH, spans]
  refine CALL.val [int t.vals.length, int 2, int 13] _ rfl (step_in_meets _ _ _) (.inl rfl) ?_
  have e1 : inB t.vals.length 2 13 = true := by simp [inB]; omega
  have e2 : inB t.rule 1 4 = true := by simp [inB]; omega
  have e3 : inB t.off 0 100 = true := by simp [inB]; omega
  have e4 : (t.vals.any fun s => !valB s) = false := by
    rw [List.any_eq_false]
    intro s hs
    simp [f1 s hs]
  simp [e1, lookH]
  refine CALL.val [int t.rule] _ rfl (step_isRule_meets _) (.inl rfl) ?_
  simp [e2, vc_step_isTable_k1, lookH]
  refine CALL.val [int t.off, int 0, int 100] _ rfl (step_in_meets _ _ _) (.inl rfl) ?_
  simp [e3, vc_step_isTable_k0, lookH]
  refine CALL.val [spans t.vals, .fn f_step_isTable_1 [] []] _ rfl (contains_Span_meets t.vals _ (fun s => !valB s) isTable_1_meets (by omega)) (.inl rfl) ?_
  rw [e4]
  simp
theorem step_sum_meets (a b : Int) (h1 : -1000000000 ≤ a) (h2 : a ≤ 1000000000) (h3 : -1000000000 ≤ b) (h4 : b ≤ 1000000000) : Meets (Tz g) f_step_sum [ints [a, b]] ⟨.d (int (a + b)), []⟩ := by
  refine meets_step_sum ?_
  unfold vc_step_sum
  simp [ints]
  refine LOOP.mk Nat (fun i => [.d (int (([a, b].take i).foldl (· + ·) 0)), .d (ints [a, b]), .d (int 2), .d (int i)]) (fun i => []) (fun i => i ≤ 2) (fun i => 2 - i) [] (by simp) 0 (by omega) (by simp [WEAK, ints]) (fun _ _ => rfl) ?_
  intro i hi
  have w1 := wrap_id (n := (i : Int) + 1) (by omega) (by omega)
  have wa := wrap_id (n := a) (by omega) (by omega)
  have wab := wrap_id (n := a + b) (by omega) (by omega)
  simp [vc_step_sum_k0, ints]
  rcases (by omega : i = 0 ∨ i = 1 ∨ i = 2) with rfl | rfl | rfl
  · simp [wa]
    exact ⟨1, by omega, by simp [WEAK, ints, wrap_id], by omega⟩
  · simp [wab]
    exact ⟨2, by omega, by simp [WEAK, ints, wrap_id], by omega⟩
  · simp
theorem low_meets (s : Sp) : Meets (Tz g) f_step_bounds_low [s.d] ⟨.d (int s.low), []⟩ := by
  refine meets_step_bounds_low ?_
  unfold vc_step_bounds_low
  simp [Sp.d, lookH]
theorem high_meets (s : Sp) : Meets (Tz g) f_step_bounds_high [s.d] ⟨.d (int s.high), []⟩ := by
  refine meets_step_bounds_high ?_
  unfold vc_step_bounds_high
  simp [Sp.d, lookH]
end Go.Vc

namespace Go.Vc
open Go Go.Proofs
variable {g : GG}
attribute [local simp] and_assoc
def incB : List Int → Bool
  | a :: b :: r => decide (a < b) && incB (b :: r)
  | _ => true
def keptB (n : Nat) (k : List Int) : Bool := decide (2 ≤ k.length) && (decide (k[0]? = some 0) && (decide (k[k.length - 1]? = some ((n : Int) - 1)) && incB k))
theorem inc_drop {k : List Int} {i : Nat} {a b : Int} (ha : k[i]? = some a) (hb : k[i + 1]? = some b) : incB (k.drop i) = (decide (a < b) && incB (k.drop (i + 1))) := by
  have h1 := (List.getElem?_eq_some_iff.1 ha).1
  have h2 := (List.getElem?_eq_some_iff.1 hb).1
  rw [List.drop_eq_getElem_cons h1, List.drop_eq_getElem_cons h2]
  rw [List.getElem?_eq_getElem h1] at ha
  rw [List.getElem?_eq_getElem h2] at hb
  injection ha with ha
  injection hb with hb
  rw [ha, hb]
  rfl
theorem inc_short (k : List Int) (i : Nat) (h : k.length ≤ i + 1) : incB (k.drop i) = true := by
  cases hd : k.drop i with
  | nil => rfl
  | cons a r =>
    cases r with
    | nil => rfl
    | cons b r =>
      have := congrArg List.length hd
      simp at this
      omega
theorem inc_next : ∀ {k : List Int}, incB k = true → ∀ (i : Nat) (a b : Int), k[i]? = some a → k[i + 1]? = some b → a < b
  | [], _, i, a, b, h, _ => by simp at h
  | [x], _, i, a, b, h, h2 => by simp at h2
  | x :: y :: r, h, i, a, b, ha, hb => by
    simp only [incB, Bool.and_eq_true, decide_eq_true_eq] at h
    cases i with
    | zero =>
      simp at ha hb
      subst ha hb
      exact h.1
    | succ i => exact inc_next h.2 i a b (by simpa using ha) (by simpa using hb)
theorem inc_lt {k : List Int} (h : incB k = true) : ∀ (d i : Nat) (a b : Int), k[i]? = some a → k[i + d + 1]? = some b → a < b
  | 0, i, a, b, ha, hb => inc_next h i a b ha hb
  | d + 1, i, a, b, ha, hb => by
    have hlt := (List.getElem?_eq_some_iff.1 hb).1
    obtain ⟨c, hc⟩ : ∃ c, k[i + d + 1]? = some c := ⟨_, List.getElem?_eq_getElem (by omega)⟩
    have h1 := inc_lt h d i a c ha hc
    have h2 := inc_next h (i + d + 1) c b hc (by rw [show i + d + 1 + 1 = i + (d + 1) + 1 by omega]; exact hb)
    omega
theorem inc_le {k : List Int} (h : incB k = true) {i j : Nat} {a b : Int} (hij : i ≤ j) (ha : k[i]? = some a) (hb : k[j]? = some b) : a ≤ b := by
  rcases Nat.lt_or_ge i j with hlt | hge
  · have := inc_lt h (j - i - 1) i a b ha (by rw [show i + (j - i - 1) + 1 = j by omega]; exact hb)
    omega
  · have : i = j := by omega
    subst this
    rw [ha] at hb
    injection hb with hb
    omega
structure KeptOK (n : Nat) (k : List Int) : Prop where
  len : 2 ≤ k.length
  first : k[0]? = some 0
  last : k[k.length - 1]? = some ((n : Int) - 1)
  inc : incB k = true
theorem kept_iff {n : Nat} {k : List Int} : keptB n k = true ↔ KeptOK n k := by
  simp only [keptB, Bool.and_eq_true, decide_eq_true_eq]
  exact ⟨fun h => ⟨h.1, h.2.1, h.2.2.1, h.2.2.2⟩, fun h => ⟨h.len, h.first, h.last, h.inc⟩⟩
theorem KeptOK.bnd {n : Nat} {k : List Int} (h : KeptOK n k) {i : Nat} {a : Int} (ha : k[i]? = some a) : 0 ≤ a ∧ a ≤ (n : Int) - 1 := by
  have hlt := (List.getElem?_eq_some_iff.1 ha).1
  exact ⟨inc_le h.inc (Nat.zero_le i) h.first ha, inc_le h.inc (by omega) ha h.last⟩
theorem KeptOK.short {n : Nat} {k : List Int} (h : KeptOK n k) : k.length ≤ n := by
  have key : ∀ (i : Nat) (a : Int), k[i]? = some a → (i : Int) ≤ a := by
    intro i
    induction i with
    | zero => intro a ha; have := (h.bnd ha).1; omega
    | succ i ih =>
      intro a ha
      have hlt := (List.getElem?_eq_some_iff.1 ha).1
      obtain ⟨b, hb⟩ : ∃ b, k[i]? = some b := ⟨_, List.getElem?_eq_getElem (by omega)⟩
      have h1 := ih b hb
      have h2 := inc_next h.inc i b a hb ha
      omega
  have := key _ _ h.last
  have := h.len
  omega
set_option maxHeartbeats 4000000 in
theorem ref05_Kept_meets (t : Tb) (k : List Int) (hl : t.vals.length ≤ 1000000) (hk : k.length ≤ 1000000) : Meets (Tz g) f_ref05_Kept [t.d, ints k] ⟨.d (.bool (keptB t.vals.length k)), []⟩ := by
  refine meets_ref05_Kept ?_
  unfold vc_ref05_Kept
  simp [Tb.d, ints, lookH, spans]
  have w1 := wrap_id (n := (k.length : Int) - 1) (by omega) (by omega)
  have w2 := wrap_id (n := (t.vals.length : Int) - 1) (by omega) (by omega)
  refine ⟨fun h2 => ?_, fun h2 => ?_⟩
  · refine ⟨rfl, ?_⟩
    have e : decide (2 ≤ k.length) = false := decide_eq_false (by omega)
    simp [keptB, e]
  obtain ⟨a, ha⟩ : ∃ a, k[0]? = some a := ⟨_, List.getElem?_eq_getElem (by omega)⟩
  obtain ⟨b, hb⟩ : ∃ b, k[k.length - 1]? = some b := ⟨_, List.getElem?_eq_getElem (by omega)⟩
  have e0 : decide (2 ≤ k.length) = true := decide_eq_true (by omega)
  have e1 : ((k.length : Int) - 1).toNat = k.length - 1 := by omega
  simp [ha, w1, w2, e1, hb]
  refine ⟨fun h3 => ⟨rfl, ?_⟩, fun h3 => ⟨by omega, rfl, ?_⟩⟩
  · have e : decide (k[0]? = some 0) = false := decide_eq_false (by rw [ha]; intro h; injection h with h; exact h3 h)
    simp only [keptB, e]
    simp
  subst h3
  refine ⟨fun h4 => ?_, fun h4 => ?_⟩
  · have e : decide (k[k.length - 1]? = some ((t.vals.length : Int) - 1)) = false := decide_eq_false (by rw [hb]; intro h; injection h with h; exact h4 h)
    simp only [keptB, e]
    simp
  subst h4
  have hkb : keptB t.vals.length k = incB k := by
    have e2 : decide (k[0]? = some 0) = true := decide_eq_true ha
    have e3 : decide (k[k.length - 1]? = some ((t.vals.length : Int) - 1)) = true := decide_eq_true hb
    simp only [keptB, e0, e2, e3, Bool.true_and]
  rw [hkb]
  refine LOOP.mk Nat (fun i => [.d (ints k), .d (int ((i + 1 : Nat) : Int))]) (fun i => []) (fun i => i + 1 ≤ k.length ∧ incB k = incB (k.drop i)) (fun i => k.length - i) [] (by simp) 0 ⟨by omega, by simp⟩ (by simp [WEAK, ints]) (fun _ _ => rfl) ?_
  rintro i ⟨hi, he⟩
  have w3 := wrap_id (n := (i : Int) + 1 - 1) (by omega) (by omega)
  have w4 := wrap_id (n := (i : Int) + 1 + 1) (by omega) (by omega)
  simp [vc_ref05_Kept_k0, ints]
  refine ⟨fun hlt => ?_, fun hge => ?_⟩
  · obtain ⟨x, hx⟩ : ∃ x, k[i]? = some x := ⟨_, List.getElem?_eq_getElem (by omega)⟩
    obtain ⟨y, hy⟩ : ∃ y, k[i + 1]? = some y := ⟨_, List.getElem?_eq_getElem (by omega)⟩
    have e3 : ((i : Int) + 1).toNat = i + 1 := by omega
    have e4 : ((i : Int) + 1 - 1).toNat = i := by omega
    rw [inc_drop hx hy] at he
    have w5 := wrap_id (n := (i : Int)) (by omega) (by omega)
    simp [w4, w5, e3, hx, hy]
    refine ⟨by omega, rfl, fun h5 => ?_, fun h5 => ?_⟩
    · rw [he, decide_eq_false (by omega)]; simp
    · rw [decide_eq_true (by omega), Bool.true_and] at he
      exact ⟨i + 1, by omega, he, by simp [WEAK, ints], by omega⟩
  · rw [inc_short k i (by omega)] at he
    rw [he]
end Go.Vc
