/- A part of the proof: general laws of a reading of the model by abstract data, or contracts of the functions that the law calls. -/
import Derived.Test.YtcmdbmcggfmmnaaGreatDoorVc30
import Derived.Test.YtcmdbmcggfmmnaaGreatDoorVc34
set_option maxRecDepth 100000
namespace Go.Vc
open Go
theorem splL_set (c : UInt8) : ∀ (s : Str) (k : Nat) (a d : UInt8), s[k]? = some a → a ≠ c → d ≠ c → ∃ (i j : Nat) (row : Str), (splL c s)[i]? = some row ∧ row[j]? = some a ∧ splL c (s.set k d) = (splL c s).set i (row.set j d)
  | [], k, a, d, h, _, _ => by simp at h
  | b :: r, 0, a, d, h, ha, hd => by
    have h : some b = some a := h
    injection h with h
    subst h
    simp only [List.set_cons_zero, splL, if_neg ha, if_neg hd]
    cases hs : splL c r with
    | nil => exact ⟨0, 0, [b], rfl, rfl, rfl⟩
    | cons x xs => exact ⟨0, 0, b :: x, rfl, rfl, rfl⟩
  | b :: r, k + 1, a, d, h, ha, hd => by
    have h : r[k]? = some a := by simpa using h
    obtain ⟨i, j, row, h1, h2, h3⟩ := splL_set c r k a d h ha hd
    simp only [List.set_cons_succ, splL]
    by_cases hb : b = c
    · simp only [if_pos hb, h3]
      exact ⟨i + 1, j, row, h1, h2, rfl⟩
    · simp only [if_neg hb, h3]
      cases hs : splL c r with
      | nil => rw [hs] at h1; simp at h1
      | cons x xs =>
        rw [hs] at h1
        cases i with
        | zero =>
          have h1 : some x = some row := h1
          injection h1 with h1
          subst h1
          exact ⟨0, j + 1, b :: x, rfl, h2, rfl⟩
        | succ i =>
          exact ⟨i + 1, j, row, h1, h2, rfl⟩
theorem chkRow_set (i : Nat) : ∀ (r : Str) (k j : Nat) (a d : UInt8), r[j]? = some a → chkRow i k (r.set j d) + a.toNat * (k + j + 1) * (i + 1) = chkRow i k r + d.toNat * (k + j + 1) * (i + 1)
  | [], k, j, a, d, h => by simp at h
  | b :: r, k, 0, a, d, h => by
    have h : some b = some a := h
    injection h with h
    subst h
    simp only [List.set_cons_zero, chkRow, Nat.add_zero]
    omega
  | b :: r, k, j + 1, a, d, h => by
    have ih := chkRow_set i r (k + 1) j a d (by simpa using h)
    have e : k + 1 + j + 1 = k + (j + 1) + 1 := by omega
    rw [e] at ih
    simp only [List.set_cons_succ, chkRow]
    omega
theorem chkRows_set : ∀ (rows : List Str) (k i : Nat) (row row' : Str), rows[i]? = some row → chkRows k (rows.set i row') + chkRow (k + i) 0 row = chkRows k rows + chkRow (k + i) 0 row'
  | [], k, i, row, row', h => by simp at h
  | r :: rs, k, 0, row, row', h => by
    have h : some r = some row := h
    injection h with h
    subst h
    simp only [List.set_cons_zero, chkRows, Nat.add_zero]
    omega
  | r :: rs, k, i + 1, row, row', h => by
    have ih := chkRows_set rs (k + 1) i row row' (by simpa using h)
    have e : k + 1 + i = k + (i + 1) := by omega
    rw [e] at ih
    simp only [List.set_cons_succ, chkRows]
    omega
def PrM (m : Nat) : Prop := ∀ a, a < m → 0 < a → Nat.gcd m a = 1
theorem prm_mul {m a b : Nat} (hm : PrM m) (ha : 0 < a) (ha2 : a < m) (h : m ∣ a * b) : m ∣ b :=
  Nat.Coprime.dvd_of_dvd_mul_left (hm a ha2 ha) h
theorem prm_three {m a b c : Nat} (hm : PrM m) (ha : 0 < a ∧ a < m) (hb : 0 < b ∧ b < m) (hc : 0 < c ∧ c < m) (h : m ∣ a * b * c) : False := by
  rw [Nat.mul_assoc] at h
  have h1 := prm_mul hm ha.1 ha.2 h
  have h2 := prm_mul hm hb.1 hb.2 h1
  have := Nat.le_of_dvd hc.1 h2
  omega
theorem chk_differs {m x y a d p q : Nat} (hm : PrM m) (hm9 : 10 ≤ m) (h : x + a * p * q = y + d * p * q) (hne : a ≠ d) (ha : a < 10 + d) (hd : d < 10 + a) (hp : 0 < p ∧ p < m) (hq : 0 < q ∧ q < m) (hx : x % m = y % m) : False := by
  rcases (by omega : a < d ∨ d < a) with hlt | hlt
  · obtain ⟨e, rfl⟩ : ∃ e, d = a + e := ⟨d - a, by omega⟩
    have h2 : x = y + e * p * q := by
      have : (a + e) * p * q = a * p * q + e * p * q := by rw [Nat.add_mul, Nat.add_mul]
      omega
    have h3 : m ∣ e * p * q := by
      have : (y + e * p * q) % m = y % m := by rw [← h2]; exact hx
      exact (Nat.dvd_iff_mod_eq_zero ..).2 (by
        have h4 := Nat.sub_mod_eq_zero_of_mod_eq this
        have e2 : y + e * p * q - y = e * p * q := by omega
        rw [e2] at h4
        exact h4)
    exact prm_three hm ⟨by omega, by omega⟩ hp hq h3
  · obtain ⟨e, rfl⟩ : ∃ e, a = d + e := ⟨a - d, by omega⟩
    have h2 : y = x + e * p * q := by
      have : (d + e) * p * q = d * p * q + e * p * q := by rw [Nat.add_mul, Nat.add_mul]
      omega
    have h3 : m ∣ e * p * q := by
      have : (x + e * p * q) % m = x % m := by rw [← h2]; exact hx.symm
      exact (Nat.dvd_iff_mod_eq_zero ..).2 (by
        have h4 := Nat.sub_mod_eq_zero_of_mod_eq this
        have e2 : x + e * p * q - x = e * p * q := by omega
        rw [e2] at h4
        exact h4)
    exact prm_three hm ⟨by omega, by omega⟩ hp hq h3
theorem prm_227 : PrM 227 := by
  have h : ∀ a : Fin 227, 0 < a.1 → Nat.gcd 227 a.1 = 1 := by decide
  exact fun a ha h0 => h ⟨a, ha⟩ h0
theorem seal_spoilt {m : Nat} (hm : PrM m) (hm9 : 10 ≤ m) (hm1 : m ≤ 1000) {R S : List Str} (hR : ∀ r, r ∈ R → (10 : UInt8) ∉ r) (hS : ∀ r, r ∈ S → (10 : UInt8) ∉ r) (hl : R.length < m) (hr : ∀ r, r ∈ R → r.length < m) {k : Nat} {a d : UInt8} (hk : (sealT m R)[k]? = some a) (ha : isD a = true) (hd : isD d = true) (hne : a ≠ d) : (sealT m R).set k d ≠ sealT m S := fun he => by
  have h10 : ∀ c : UInt8, isD c = true → c ≠ 10 := by
    rintro c hc rfl
    simp [isD] at hc
  obtain ⟨i, j, row, h1, h2, h3⟩ := splL_set 10 (sealT m R) k a d hk (h10 a ha) (h10 d hd)
  have s1 := seal_split (m := m) (by omega) hm1 hR
  have s2 := seal_split (m := m) (by omega) hm1 hS
  have c1 := Nat.mod_lt (chkRows 0 R) (show 0 < m by omega)
  have c2 := Nat.mod_lt (chkRows 0 S) (show 0 < m by omega)
  rw [he, s1, s2] at h3
  rw [s1] at h1
  have hlen : S.length = R.length := by
    have := congrArg List.length h3
    simp at this
    omega
  simp only [isD, Bool.and_eq_true, decide_eq_true_eq] at ha hd
  have hnat : a.toNat ≠ d.toNat := fun e => hne (UInt8.toNat_inj.1 e)
  have hiL := (List.getElem?_eq_some_iff.1 h1).1
  simp only [List.length_append, List.length_cons, List.length_nil] at hiL
  rcases (by omega : i < R.length ∨ i = R.length ∨ i = R.length + 1) with hi | hi | hi
  · rw [List.getElem?_append_left hi] at h1
    rw [List.set_append_left _ _ hi] at h3
    obtain ⟨e1, e2⟩ := List.append_inj h3 (by simp [hlen])
    injection e2 with e2 _
    have hE := endT_inj (by omega) (by omega) e2
    have q1 := chkRows_set R 0 i row (row.set j d) h1
    have q2 := chkRow_set (0 + i) row 0 j a d h2
    rw [← e1] at q1
    have hjl := (List.getElem?_eq_some_iff.1 h2).1
    have hrl := hr row (List.mem_of_getElem? h1)
    simp only [Nat.zero_add] at q1 q2
    exact chk_differs hm hm9 (x := chkRows 0 S) (y := chkRows 0 R) (a := a.toNat) (d := d.toNat) (p := j + 1) (q := i + 1) (by omega) hnat (by omega) (by omega) ⟨by omega, by omega⟩ ⟨by omega, by omega⟩ hE
  · subst hi
    rw [List.getElem?_append_right (Nat.le_refl _)] at h1
    simp only [Nat.sub_self, List.getElem?_cons_zero] at h1
    injection h1 with h1
    rw [List.set_append_right _ _ (Nat.le_refl _)] at h3
    simp only [Nat.sub_self, List.set_cons_zero] at h3
    obtain ⟨e1, e2⟩ := List.append_inj h3 hlen
    subst e1
    injection e2 with e2 _
    rw [h1] at e2
    have := congrArg (fun l => l[j]?) e2
    simp only [List.getElem?_set_self (List.getElem?_eq_some_iff.1 h2).1, h2] at this
    injection this with this
    exact hne this
  · subst hi
    rw [List.getElem?_append_right (by omega)] at h1
    have e : R.length + 1 - R.length = 1 := by omega
    rw [e] at h1
    simp only [List.getElem?_cons_succ, List.getElem?_cons_zero] at h1
    injection h1 with h1
    rw [← h1] at h2
    simp at h2
end Go.Vc

namespace Go.Vc
open Go Go.Proofs
theorem spoilt_law {p : Plan} (hok : p.ok = true) {k : Nat} {a d : UInt8} (hk : (textP p)[k]? = some a) (ha : isD a = true) (hd : isD d = true) (hne : a ≠ d) : readQ ((textP p).set k d) = none := by
  obtain ⟨a1, a2, a3, a4, a5, a6, a7⟩ := ok_facts hok
  have hTx := TxOK_ok hok
  have hsh := text_short hok
  have hrl : ∀ r, r ∈ rowsP p → r.length < 227 := fun r hr => by
    rcases List.mem_cons.1 hr with rfl | hr
    · have h1 := (itoa_few 1 (n := p.rows) (by omega) (by omega) (by omega)).1
      have h2 := (itoa_few 0 (n := p.guard) (by omega) (by omega) (by omega)).1
      rw [rowT2]
      have : planW.length = 4 := rfl
      omega
    · obtain ⟨s, hs, rfl⟩ := List.mem_map.1 hr
      obtain ⟨c1, c2⟩ := a7 s hs
      have d1 := (itoa_few 4 (n := s.low) (by omega) (by omega) (by omega)).1
      have d2 := (itoa_few 4 (n := s.high) (by omega) (by omega) (by omega)).1
      unfold startT
      rw [rowT2]
      have : startW.length = 5 := rfl
      omega
  cases hq : readQ ((textP p).set k d) with
  | none => rfl
  | some q =>
    have hTq := TxOK_read hq (by simp; omega)
    obtain ⟨_, _, _, _, _, _, _, _, _, hT⟩ := readQ_some hq
    refine absurd hT.symm ?_
    have hl : (rowsP p).length < 227 := by simp [rowsP]; omega
    exact seal_spoilt prm_227 (by omega) (by omega) (rowsP_no hTx) (rowsP_no hTq) hl hrl hk ha hd hne
end Go.Vc
