/- A part of the proof: general laws of a reading of the model by abstract data, or contracts of the functions that the law calls. -/
import Derived.Test.YtkefjhemmdolaaaGreatVc48
import Derived.Test.YtkefjhemmdolaaaGreatVc45
import Derived.Test.YtkefjhemmdolaaaGreatVc30
set_option maxRecDepth 100000
namespace Go.Vc
open Go Go.Proofs
variable {g : GG}
theorem even_mono (u v w : Int) (hu : 1 ≤ u) (h : v ≤ w) : evenV u v ≤ evenV u w := by
  have hq : (2 * v + u) / (2 * u) ≤ (2 * w + u) / (2 * u) := Int.ediv_le_ediv (by omega) (by omega)
  have hw := Int.mul_ediv_add_emod (2 * w + u) (2 * u)
  have hw0 := Int.emod_nonneg (2 * w + u) (show 2 * u ≠ 0 by omega)
  have hv := Int.mul_ediv_add_emod (2 * v + u) (2 * u)
  have hv0 := Int.emod_nonneg (2 * v + u) (show 2 * u ≠ 0 by omega)
  unfold evenV
  generalize hqv : (2 * v + u) / (2 * u) = qv at *
  generalize hqw : (2 * w + u) / (2 * u) = qw at *
  by_cases he : qv = qw
  · subst he
    by_cases hc : 2 * w + u = 2 * u * qv ∧ qv % 2 ≠ 0
    · have : v = w := by omega
      subst this
      exact Int.le_refl _
    · rw [if_neg hc]
      split <;> omega
  · split <;> split <;> omega
theorem rdV_mono (rule u v w : Int) (hu : 1 ≤ u) (h : v ≤ w) : rdV rule v u ≤ rdV rule w u := by
  unfold rdV
  split
  · exact Int.ediv_le_ediv (by omega) h
  · split
    · have := Int.ediv_le_ediv (a := -w) (b := -v) (c := u) (by omega) (by omega)
      omega
    · split
      · exact Int.ediv_le_ediv (by omega) (by omega)
      · exact even_mono u v w hu h
theorem rdV_whole (rule u c : Int) (hu : 1 ≤ u) : rdV rule (c * u) u = c := by
  have h1 : c * u / u = c := Int.mul_ediv_cancel c (by omega)
  have h2 : -(c * u) / u = -c := by rw [← Int.neg_mul]; exact Int.mul_ediv_cancel (-c) (by omega)
  have h3 : (2 * (c * u) + u) / (2 * u) = c := by
    have e : 2 * (c * u) + u = u + c * (2 * u) := by
      rw [show c * (2 * u) = 2 * (c * u) by rw [Int.mul_left_comm]]
      omega
    rw [e, Int.add_mul_ediv_right _ _ (by omega), Int.ediv_eq_zero_of_lt (by omega) (by omega)]
    omega
  unfold rdV evenV
  rw [h1, h2, h3]
  split
  · rfl
  · split
    · omega
    · split
      · rfl
      · rw [if_neg]
        rintro ⟨h, _⟩
        have e : 2 * u * c = 2 * (c * u) := by rw [Int.mul_assoc, Int.mul_comm u c]
        omega
theorem figP_mono (rule a b x y x' y' row : Int) (h1 : a < b) (h3 : a ≤ row) (h4 : row ≤ b) (hx : x ≤ x') (hy : y ≤ y') : figP rule a b x y row ≤ figP rule a b x' y' row := by
  have m1 := Int.mul_le_mul_of_nonneg_right hx (show 0 ≤ b - row by omega)
  have m2 := Int.mul_le_mul_of_nonneg_right hy (show 0 ≤ row - a by omega)
  exact rdV_mono _ _ _ _ (by omega) (by omega)
theorem figP_same (rule a b c row : Int) (h1 : a < b) : figP rule a b c c row = c := by
  unfold figP
  have e : c * (b - row) + c * (row - a) = c * (b - a) := by rw [← Int.mul_add]; congr 1; omega
  rw [e]
  exact rdV_whole rule (b - a) c (by omega)
theorem own_at {t : Tb} {own : List Int} (hok : t.ok = true) (hw : within t.vals own = true) {i : Int} (h0 : 0 ≤ i) (h1 : i ≤ (t.vals.length : Int) - 1) : vLo t i ≤ own.getD i.toNat 0 ∧ own.getD i.toNat 0 ≤ vHi t i ∧ -9999 ≤ vLo t i ∧ vHi t i ≤ 9999 := by
  obtain ⟨s, gs, l1, l2, b1, b2, b3, b4⟩ := val_at hok h0 h1
  have hl := within_length hw
  have hg : own[i.toNat]? = some (own[i.toNat]'(by omega)) := List.getElem?_eq_getElem (by omega)
  have := within_get hw _ _ _ gs hg
  rw [List.getD_eq_getElem?_getD, hg, l1, l2, Option.getD_some]
  omega
theorem own_bnd {t : Tb} {own : List Int} (hok : t.ok = true) (hw : within t.vals own = true) : ∀ x, x ∈ own → -9999 ≤ x ∧ x ≤ 9999 := by
  intro x hx
  obtain ⟨i, hi, rfl⟩ := List.getElem_of_mem hx
  have hl := within_length hw
  have := own_at hok hw (i := (i : Int)) (by omega) (by omega)
  have e : own.getD (i : Int).toNat 0 = own[i] := by simp [List.getD_eq_getElem?_getD, hi]
  rw [e] at this
  omega
theorem db_mem (t : Tb) (k : List Int) (i : Nat) (h : (arP k i).1 < (arP k i).2 ∧ t.off < offP t (arP k i).1 (arP k i).2 i) : ∀ n, i < n → (i : Int) ∈ dbL t k n
  | 0, hn => by omega
  | n + 1, hn => by
    unfold dbL
    by_cases e : i = n
    · subst e
      rw [if_pos h]
      simp
    · have ih := db_mem t k i h n (by omega)
      split
      · exact List.mem_append.2 (.inl ih)
      · exact ih
theorem steps_law {t : Tb} {k own : List Int} (hok : t.ok = true) (hK : KeptOK t.vals.length k) (hw : within t.vals own = true) (i : Nat) (hi : i < own.length) :
    (-9999 ≤ fgv t k own i ∧ fgv t k own i ≤ 9999) ∧ ((i : Int) ∉ dbL t k own.length → max (fgv t k own i - own.getD i 0) (own.getD i 0 - fgv t k own i) ≤ t.off) := by
  have hl := within_length hw
  obtain ⟨f1, f2, f3, f4⟩ := Tb.ok_facts hok
  have hf := ar_facts hK (row := i) (by omega) (by omega)
  have hdb := db_mem t k i
  have ho := own_at hok hw (i := (i : Int)) (by omega) (by omega)
  rw [show (i : Int).toNat = i by omega] at ho
  unfold fgv
  rcases hp : arP k (i : Int) with ⟨a, b⟩
  rw [hp] at hf hdb
  simp only at hf hdb ⊢
  by_cases h : a < b
  · obtain ⟨q1, q2, q3, q4⟩ := hf h
    rw [if_pos h]
    have oa := own_at hok hw (i := a) (by omega) (by omega)
    have ob := own_at hok hw (i := b) (by omega) (by omega)
    have m1 := figP_mono t.rule a b (own.getD a.toNat 0) (own.getD b.toNat 0) (vHi t a) (vHi t b) i h (by omega) (by omega) (by omega) (by omega)
    have m2 := figP_mono t.rule a b (vLo t a) (vLo t b) (own.getD a.toNat 0) (own.getD b.toNat 0) i h (by omega) (by omega) (by omega) (by omega)
    have m3 := figP_mono t.rule a b (own.getD a.toNat 0) (own.getD b.toNat 0) 9999 9999 i h (by omega) (by omega) (by omega) (by omega)
    have m4 := figP_mono t.rule a b (-9999) (-9999) (own.getD a.toNat 0) (own.getD b.toNat 0) i h (by omega) (by omega) (by omega) (by omega)
    rw [figP_same _ _ _ _ _ h] at m3 m4
    refine ⟨⟨m4, m3⟩, fun hn => ?_⟩
    have hoff : ¬ t.off < offP t a b i := fun hlt => hn (hdb ⟨h, hlt⟩ _ hi)
    unfold offP at hoff
    omega
  · rw [if_neg h, show (i : Int).toNat = i by omega]
    exact ⟨by omega, fun _ => by omega⟩
theorem steps_right {t : Tb} {k own : List Int} (hok : t.ok = true) (hK : KeptOK t.vals.length k) (hw : within t.vals own = true) (hd : dbL t k own.length = []) : rgtB t k own own.length = true := by
  unfold rgtB
  rw [List.all_eq_true]
  intro i hi
  have hi := List.mem_range.1 hi
  exact decide_eq_true ((steps_law hok hK hw i hi).2 (by rw [hd]; simp))
theorem own_rows {p : Plan} {t : List Int} (hp : p.ok = true) (hw : within p.starts t = true) : within (rowsL p) (heads t p.rows.toNat) = true := by
  obtain ⟨a1, a2, a3, a4, a5⟩ := Plan.ok_len hp
  have hl := within_length hw
  have key : ∀ (l : List Nat), within (l.map fun k => (⟨(afterL k (lows p)).headD 0, (afterL k (highs p)).headD 0⟩ : Sp)) (l.map fun k => (afterL k t).headD 0) = true := by
    intro l
    induction l with
    | nil => rfl
    | cons k r ih =>
      simp only [List.map_cons, within, ih, Bool.and_true]
      have e1 := after_head (lows p) k (by simp [lows]; omega)
      have e2 := after_head (highs p) k (by simp [highs]; omega)
      have e3 := after_head t k (by omega)
      have v1 := val_low hw k
      have v2 := val_high hw k
      rw [e1, e2, e3]
      simp [inB]
      omega
  exact key _
end Go.Vc
