/- A part of the proof: general laws of a reading of the model by abstract data, or contracts of the functions that the law calls. -/
import Derived.Test.YtkefjhemmdolaaaGreatVc28
import Derived.Test.YtkefjhemmdolaaaGreatVc33
set_option maxRecDepth 100000
namespace Go.Vc
open Go Go.Proofs
variable {g : GG}
attribute [local simp] and_assoc
theorem round_in_meets (x lo hi : Int) : Meets (Tz g) f_round_in [int x, int lo, int hi] ⟨.d (.bool (inB x lo hi)), []⟩ := by
  refine meets_round_in ?_
  unfold vc_round_in
  simp [inB]
  constructor
  · intro h; simp [h]
  · intro h; omega
theorem round_isRule_meets (r : Int) : Meets (Tz g) f_round_isRule [int r] ⟨.d (.bool (inB r 1 4)), []⟩ := by
  refine meets_round_isRule ?_
  unfold vc_round_isRule
  simp [inB]
  constructor
  · intro h; simp [h]
  · intro h; omega
theorem floor_eq (v u : Int) (hu : 0 < u) : (v < v.tdiv u * u → v.tdiv u - 1 = v / u) ∧ (¬ v < v.tdiv u * u → v.tdiv u = v / u) := by
  have h1 : u * (v / u) + v % u = v := Int.mul_ediv_add_emod v u
  have h2 : 0 ≤ v % u := Int.emod_nonneg v (by omega)
  have h3 : v % u < u := Int.emod_lt_of_pos v (by omega)
  have hs : u.sign = 1 := Int.sign_eq_one_of_pos hu
  have key := Int.tdiv_eq_ediv (a := v) (b := u)
  rw [hs] at key
  have hm : u * (v / u) = v / u * u := Int.mul_comm _ _
  split at key
  · have e : v.tdiv u = v / u := by omega
    rw [e]
    refine ⟨fun h => ?_, fun _ => rfl⟩
    omega
  · rename_i hn
    have e : v.tdiv u = v / u + 1 := by omega
    rw [e]
    have hx : (v / u + 1) * u = v / u * u + u := by rw [Int.add_mul, Int.one_mul]
    rw [hx]
    refine ⟨fun h => by omega, fun h => ?_⟩
    exfalso
    have : v % u ≠ 0 := fun h0 => hn (.inr (Int.dvd_of_emod_eq_zero h0))
    omega
theorem quo_bnd (v u : Int) (hu : 0 < u) (B : Int) (hB : 0 ≤ B) (h1 : -B ≤ v) (h2 : v ≤ B) : -B ≤ v / u ∧ v / u ≤ B := by
  refine ⟨?_, ?_⟩
  · have : -B / u ≤ v / u := Int.ediv_le_ediv hu h1
    have h3 : -B ≤ -B / u := by
      rw [Int.le_ediv_iff_mul_le hu]
      have : B * 1 ≤ B * u := Int.mul_le_mul_of_nonneg_left (by omega) hB
      rw [Int.neg_mul]; omega
    omega
  · have : v / u ≤ B / u := Int.ediv_le_ediv hu h2
    have h3 : B / u ≤ B := Int.ediv_le_self u hB
    omega
theorem tquo_bnd (v u : Int) (hu : 0 < u) (B : Int) (hB : 0 ≤ B) (h1 : -B ≤ v) (h2 : v ≤ B) : -B - 1 ≤ v.tdiv u ∧ v.tdiv u ≤ B + 1 := by
  obtain ⟨f1, f2⟩ := floor_eq v u hu
  obtain ⟨q1, q2⟩ := quo_bnd v u hu B hB h1 h2
  by_cases h : v < v.tdiv u * u
  · have := f1 h; omega
  · have := f2 h; omega
theorem tmul_bnd (v u : Int) (hu : 0 < u) (B : Int) (h1 : -B ≤ v) (h2 : v ≤ B) : -B - u ≤ v.tdiv u * u ∧ v.tdiv u * u ≤ B + u := by
  have h1' : u * (v / u) + v % u = v := Int.mul_ediv_add_emod v u
  have h2' : 0 ≤ v % u := Int.emod_nonneg v (by omega)
  have h3' : v % u < u := Int.emod_lt_of_pos v (by omega)
  have hm : u * (v / u) = v / u * u := Int.mul_comm _ _
  obtain ⟨f1, f2⟩ := floor_eq v u hu
  by_cases h : v < v.tdiv u * u
  · have e : v.tdiv u = v / u + 1 := by have := f1 h; omega
    rw [e, Int.add_mul, Int.one_mul]
    omega
  · rw [f2 h]; omega
def rul (u : Int) : D := .agg [int u]
theorem down_meets (u v : Int) (hu : 1 ≤ u) (hu2 : u ≤ 2097152) (h1 : -2199024304128 ≤ v) (h2 : v ≤ 2199024304128) : Meets (Tz g) f_round_ruler_down [rul u, int v] ⟨.d (int (v / u)), []⟩ := by
  obtain ⟨f1, f2⟩ := floor_eq v u (by omega)
  obtain ⟨q1, q2⟩ := tquo_bnd v u (by omega) 2199024304128 (by omega) h1 h2
  obtain ⟨m1, m2⟩ := tmul_bnd v u (by omega) 2199024304128 h1 h2
  have w1 := wrap_id (n := v.tdiv u) (by omega) (by omega)
  have w2 := wrap_id (n := v.tdiv u * u) (by omega) (by omega)
  have w3 := wrap_id (n := v.tdiv u - 1) (by omega) (by omega)
  refine meets_round_ruler_down ?_
  unfold vc_round_ruler_down
  have hne : ¬ u = 0 := by omega
  simp [rul, lookH, hne, w1, w2, w3]
  exact ⟨f1, fun h => f2 (by omega)⟩
theorem up_meets (u v : Int) (hu : 1 ≤ u) (hu2 : u ≤ 1048576) (h1 : -1099511627776 ≤ v) (h2 : v ≤ 1099511627776) : Meets (Tz g) f_round_ruler_up [rul u, int v] ⟨.d (int (-((-v) / u))), []⟩ := by
  have w1 := wrap_id (n := -v) (by omega) (by omega)
  obtain ⟨q1, q2⟩ := quo_bnd (-v) u (by omega) 1099511627776 (by omega) (by omega) (by omega)
  have w2 := wrap_id (n := -((-v) / u)) (by omega) (by omega)
  refine meets_round_ruler_up ?_
  unfold vc_round_ruler_up
  simp [rul, lookH, w1]
  refine CALL.val [rul u, int (-v)] _ rfl (down_meets u (-v) hu (by omega) (by omega) (by omega)) (.inl rfl) ?_
  simp [w2]
theorem near_meets (u v : Int) (hu : 1 ≤ u) (hu2 : u ≤ 1048576) (h1 : -1099511627776 ≤ v) (h2 : v ≤ 1099511627776) : Meets (Tz g) f_round_ruler_near [rul u, int v] ⟨.d (int ((2 * v + u) / (2 * u))), []⟩ := by
  have w1 := wrap_id (n := 2 * u) (by omega) (by omega)
  have w2 := wrap_id (n := 2 * v) (by omega) (by omega)
  have w3 := wrap_id (n := 2 * v + u) (by omega) (by omega)
  refine meets_round_ruler_near ?_
  unfold vc_round_ruler_near
  simp [rul, lookH, w1, w2, w3]
  refine CALL.val [rul (2 * u), int (2 * v + u)] _ rfl (down_meets (2 * u) (2 * v + u) (by omega) (by omega) (by omega) (by omega)) (.inl rfl) ?_
  simp
def evenV (u v : Int) : Int := if 2 * v + u = 2 * u * ((2 * v + u) / (2 * u)) ∧ ((2 * v + u) / (2 * u)) % 2 ≠ 0 then (2 * v + u) / (2 * u) - 1 else (2 * v + u) / (2 * u)
theorem even_meets (u v : Int) (hu : 1 ≤ u) (hu2 : u ≤ 1048576) (h1 : -1099511627776 ≤ v) (h2 : v ≤ 1099511627776) : Meets (Tz g) f_round_ruler_even [rul u, int v] ⟨.d (int (evenV u v)), []⟩ := by
  have w1 := wrap_id (n := 2 * u) (by omega) (by omega)
  have w2 := wrap_id (n := 2 * v) (by omega) (by omega)
  have w3 := wrap_id (n := 2 * v + u) (by omega) (by omega)
  obtain ⟨q1, q2⟩ := quo_bnd (2 * v + u) (2 * u) (by omega) 2200072880128 (by omega) (by omega) (by omega)
  have hmod : 2 * u * ((2 * v + u) / (2 * u)) + (2 * v + u) % (2 * u) = 2 * v + u := Int.mul_ediv_add_emod _ _
  have hm0 : 0 ≤ (2 * v + u) % (2 * u) := Int.emod_nonneg _ (by omega)
  have hm1 : (2 * v + u) % (2 * u) < 2 * u := Int.emod_lt_of_pos _ (by omega)
  have w4 := wrap_id (n := 2 * u * ((2 * v + u) / (2 * u))) (by omega) (by omega)
  unfold evenV
  have hN := near_meets (g := g) u v hu hu2 h1 h2
  generalize (2 * v + u) / (2 * u) = n at *
  have w5 := wrap_id (n := n - 1) (by omega) (by omega)
  have ht : (n.tmod 2 = 0) ↔ (n % 2 = 0) := by
    have := Int.tmod_eq_emod (a := n) (b := 2)
    split at this <;> omega
  have w6 := wrap_id (n := n.tmod 2) (by have := Int.tmod_lt_of_pos n (show (0 : Int) < 2 by omega); have := Int.lt_tmod_of_pos n (show (0 : Int) < 2 by omega); omega) (by have := Int.tmod_lt_of_pos n (show (0 : Int) < 2 by omega); omega)
  refine meets_round_ruler_even ?_
  unfold vc_round_ruler_even
  simp [rul, lookH]
  refine CALL.val [rul u, int v] _ rfl hN (.inl rfl) ?_
  simp [vc_round_ruler_even_k0, lookH, w1, w2, w3, w4, w5, w6]
  refine ⟨fun h => ⟨fun h3 => ?_, fun h3 => ?_⟩, fun h => ?_⟩
  · intro hx; exact absurd (ht.2 (hx h)) h3
  · intro _ hx; exact absurd (ht.1 h3) hx
  · intro hx; exact absurd hx h
theorem rules_meets (u : Int) : Meets (Tz g) f_round_ruler_rules [rul u] ⟨.agg [.d .nilf, .fn f_round_ruler_down [.d (rul u)] [], .fn f_round_ruler_up [.d (rul u)] [], .fn f_round_ruler_near [.d (rul u)] [], .fn f_round_ruler_even [.d (rul u)] []], []⟩ := by
  refine meets_round_ruler_rules ?_
  unfold vc_round_ruler_rules
  simp [rul, lookH]
  refine ⟨[], ?_⟩
  simp [yv, yv.yvL, yh, fz, fz.fzL, fzH, stay, NodupB, disjB, argD, toD, toDs]
def rdV (rule v u : Int) : Int := if rule = 1 then v / u else if rule = 2 then -((-v) / u) else if rule = 3 then (2 * v + u) / (2 * u) else evenV u v
theorem To_meets (v u rule : Int) (h1 : -1099511627776 ≤ v) (h2 : v ≤ 1099511627776) (hu : 1 ≤ u) (hu2 : u ≤ 1048576) (hr : 1 ≤ rule) (hr2 : rule ≤ 4) : Meets (Tz g) f_round_To [int v, int u, int rule] ⟨.tup [.d (int (rdV rule v u)), .d (int 0)], []⟩ := by
  refine meets_round_To ?_
  unfold vc_round_To
  refine CALL.val _ _ rfl (round_in_meets _ _ _) (.inl rfl) ?_
  have e1 : inB v (-1099511627776) 1099511627776 = true := by simp [inB]; omega
  have e2 : inB u 1 1048576 = true := by simp [inB]; omega
  have e3 : inB rule 1 4 = true := by simp [inB]; omega
  simp [e1, vc_round_To_k1]
  refine CALL.val _ _ rfl (round_in_meets _ _ _) (.inl rfl) ?_
  simp [e2]
  refine CALL.val _ _ rfl (round_isRule_meets _) (.inl rfl) ?_
  simp [e3, vc_round_To_k0]
  refine CALL.mk [rul u] _ rfl (rules_meets u) (.inl rfl) (by simp) ?_
  rcases (by omega : rule = 1 ∨ rule = 2 ∨ rule = 3 ∨ rule = 4) with rfl | rfl | rfl | rfl
  · simp [AV.ren, AV.ren.renL]
    refine CALL.val [rul u, int v] _ rfl (down_meets u v hu (by omega) (by omega) (by omega)) (.inl rfl) ?_
    simp [rdV]
  · simp [AV.ren, AV.ren.renL]
    refine CALL.val [rul u, int v] _ rfl (up_meets u v hu (by omega) (by omega) (by omega)) (.inl rfl) ?_
    simp [rdV]
  · simp [AV.ren, AV.ren.renL]
    refine CALL.val [rul u, int v] _ rfl (near_meets u v hu (by omega) (by omega) (by omega)) (.inl rfl) ?_
    simp [rdV]
  · simp [AV.ren, AV.ren.renL]
    refine CALL.val [rul u, int v] _ rfl (even_meets u v hu (by omega) (by omega) (by omega)) (.inl rfl) ?_
    simp [rdV]
end Go.Vc
