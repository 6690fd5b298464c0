/- A part of the proof: general laws of a reading of the model by abstract data, or contracts of the functions that the law calls. -/
import Derived.Test.YtonajancjagefaaGreatVc33
import Derived.Test.YtonajancjagefaaGreatVc29
set_option maxRecDepth 100000
namespace Go.Vc
open Go Go.Proofs
variable {g : GG}
attribute [local simp] and_assoc
theorem ref09_in_meets (x lo hi : Int) : Meets (Tz g) f_ref09_in [int x, int lo, int hi] ⟨.d (.bool (inB x lo hi)), []⟩ := by
  refine meets_ref09_in ?_
  unfold vc_ref09_in
  simp [inB]
  constructor
  · intro h; simp [h]
  · intro h; omega
theorem ref02_in_meets (x lo hi : Int) : Meets (Tz g) f_ref02_in [int x, int lo, int hi] ⟨.d (.bool (inB x lo hi)), []⟩ := by
  refine meets_ref02_in ?_
  unfold vc_ref02_in
  simp [inB]
  constructor
  · intro h; simp [h]
  · intro h; omega
theorem ref02_Number_meets (n : Int) : Meets (Tz g) f_ref02_Number [int n] ⟨.d (.bool (numB n)), []⟩ := by
  refine meets_ref02_Number ?_
  unfold vc_ref02_Number
  refine CALL.val [int n, int (-999), int 999] _ rfl (ref02_in_meets _ _ _) (.inl rfl) ?_
  simp [numB]
theorem ref09_Line_meets (p : Pg) (n : Int) (hl : p.lines.length ≤ 1000) : Meets (Tz g) f_ref09_Line [p.d, int n] ⟨.d (.bool (lineB p n)), []⟩ := by
  refine meets_ref09_Line ?_
  unfold vc_ref09_Line
  simp [Pg.d, lns]
  rw [wrap_id (n := (p.lines.length : Int) - 1) (by omega) (by omega)]
  refine CALL.val [int n, int 0, int ((p.lines.length : Int) - 1)] _ rfl (ref09_in_meets _ _ _) (.inl rfl) ?_
  simp [lineB]
theorem ref09_Person_meets (p : Pg) (n : Int) (hl : -1000 ≤ p.people ∧ p.people ≤ 1000) : Meets (Tz g) f_ref09_Person [p.d, int n] ⟨.d (.bool (persB p n)), []⟩ := by
  refine meets_ref09_Person ?_
  unfold vc_ref09_Person
  simp [Pg.d]
  rw [wrap_id (n := p.people - 1) (by omega) (by omega)]
  refine CALL.val [int n, int 0, int (p.people - 1)] _ rfl (ref09_in_meets _ _ _) (.inl rfl) ?_
  simp [persB]
def pairB (p : Pg) (a b : Int) : Bool := persB p a && (persB p b && decide (a < b))
theorem ref09_Pair_meets (p : Pg) (a b : Int) (hl : -1000 ≤ p.people ∧ p.people ≤ 1000) : Meets (Tz g) f_ref09_Pair [p.d, int a, int b] ⟨.d (.bool (pairB p a b)), []⟩ := by
  have hP : ∀ n, Meets (Tz g) f_ref09_Person [p.d, int n] ⟨.d (.bool (persB p n)), []⟩ := fun n => ref09_Person_meets p n hl
  refine meets_ref09_Pair ?_
  unfold vc_ref09_Pair
  simp [Pg.d]
  refine CALL.val [p.d, int a] _ rfl (hP a) (.inl rfl) ?_
  cases ha : persB p a with
  | false => simp [pairB, ha]
  | true =>
    simp
    refine CALL.val [p.d, int b] _ rfl (hP b) (.inl rfl) ?_
    cases hb : persB p b with
    | false => simp [pairB, ha, hb]
    | true => simp [pairB, ha, hb]
set_option maxHeartbeats 2000000 in
theorem ref09_Entry_meets (p : Pg) (e : Nt) (hl : p.lines.length ≤ 1000) (hp : -1000 ≤ p.people ∧ p.people ≤ 1000) : Meets (Tz g) f_ref09_Entry [p.d, e.d] ⟨.d (.bool (entB p e)), []⟩ := by
  have hL : ∀ n, Meets (Tz g) f_ref09_Line [p.d, int n] ⟨.d (.bool (lineB p n)), []⟩ := fun n => ref09_Line_meets p n hl
  have hP : ∀ n, Meets (Tz g) f_ref09_Person [p.d, int n] ⟨.d (.bool (persB p n)), []⟩ := fun n => ref09_Person_meets p n hp
  have hN : ∀ n, Meets (Tz g) f_ref02_Number [int n] ⟨.d (.bool (numB n)), []⟩ := fun n => ref02_Number_meets n
  obtain ⟨k, ns⟩ := e
  refine meets_ref09_Entry ?_
  unfold vc_ref09_Entry
  by_cases k1 : k = 1
  · subst k1
    rcases ns with _ | ⟨a, _ | ⟨b, _ | ⟨c, _ | ⟨d, _ | ⟨f, r⟩⟩⟩⟩⟩
    · simp [Pg.d, lns, Nt.d, ints, entB, vc_ref09_Entry_k27, vc_ref09_Entry_k10]
      rfl
    · simp [Pg.d, lns, Nt.d, ints, entB, vc_ref09_Entry_k27, vc_ref09_Entry_k10]
      rfl
    · simp [Pg.d, lns, Nt.d, ints, entB, vc_ref09_Entry_k27, vc_ref09_Entry_k10]
      rfl
    · simp [Pg.d, lns, Nt.d, ints, entB, vc_ref09_Entry_k27, vc_ref09_Entry_k10]
      rfl
    · have e1 : entB p ⟨1, [a, b, c, d]⟩ = (pairB p a b && (lineB p c && (lineB p d && decide (c ≤ d)))) := by simp [entB, pairB, Bool.and_assoc]
      rw [e1]
      simp [Pg.d, lns, Nt.d, ints, vc_ref09_Entry_k27, vc_ref09_Entry_k9]
      refine CALL.val [p.d, int a, int b] _ rfl (ref09_Pair_meets p a b hp) (.inl rfl) ?_
      cases hb4 : pairB p a b with
      | false => simp [vc_ref09_Entry_k8, vc_ref09_Entry_k7]; rfl
      | true =>
        simp [vc_ref09_Entry_k8, vc_ref09_Entry_k6]
        refine CALL.val [p.d, int c] _ rfl (hL c) (.inl rfl) ?_
        cases hb3 : lineB p c with
        | false => simp [vc_ref09_Entry_k5, vc_ref09_Entry_k4]; rfl
        | true =>
          simp [vc_ref09_Entry_k5, vc_ref09_Entry_k3]
          refine CALL.val [p.d, int d] _ rfl (hL d) (.inl rfl) ?_
          cases hb2 : lineB p d with
          | false => simp [vc_ref09_Entry_k2, vc_ref09_Entry_k1]; rfl
          | true =>
            simp [vc_ref09_Entry_k2, vc_ref09_Entry_k0]
            rfl
    · have : ¬ ((r.length : Int) + 1 + 1 + 1 + 1 + 1 = 4) := by omega
      simp [Pg.d, lns, Nt.d, ints, entB, this, vc_ref09_Entry_k27, vc_ref09_Entry_k10]
      rfl
  · by_cases k2 : k = 2
    · subst k2
      rcases ns with _ | ⟨a, _ | ⟨b, _ | ⟨c, _ | ⟨d, r⟩⟩⟩⟩
      · simp [Pg.d, lns, Nt.d, ints, entB, vc_ref09_Entry_k28, vc_ref09_Entry_k25, vc_ref09_Entry_k19]
        rfl
      · simp [Pg.d, lns, Nt.d, ints, entB, vc_ref09_Entry_k28, vc_ref09_Entry_k25, vc_ref09_Entry_k19]
        rfl
      · simp [Pg.d, lns, Nt.d, ints, entB, vc_ref09_Entry_k28, vc_ref09_Entry_k25, vc_ref09_Entry_k19]
        rfl
      · simp [Pg.d, lns, Nt.d, ints, entB, vc_ref09_Entry_k28, vc_ref09_Entry_k25, vc_ref09_Entry_k18]
        refine CALL.val [p.d, int a] _ rfl (hP a) (.inl rfl) ?_
        cases hb3 : persB p a with
        | false => simp [vc_ref09_Entry_k17, vc_ref09_Entry_k16]; rfl
        | true =>
          simp [vc_ref09_Entry_k17, vc_ref09_Entry_k15]
          refine CALL.val [p.d, int b] _ rfl (hL b) (.inl rfl) ?_
          cases hb2 : lineB p b with
          | false => simp [vc_ref09_Entry_k14, vc_ref09_Entry_k13]; rfl
          | true =>
            simp [vc_ref09_Entry_k14, vc_ref09_Entry_k12]
            refine CALL.val [int c] _ rfl (hN c) (.inl rfl) ?_
            simp [vc_ref09_Entry_k11]
            rfl
      · have : ¬ ((r.length : Int) + 1 + 1 + 1 + 1 = 3) := by omega
        have e1 : entB p ⟨2, a :: b :: c :: d :: r⟩ = false := by cases r <;> simp [entB]
        simp [Pg.d, lns, Nt.d, ints, e1, this, vc_ref09_Entry_k28, vc_ref09_Entry_k25, vc_ref09_Entry_k19]
        rfl
    · by_cases k3 : k = 3
      · subst k3
        rcases ns with _ | ⟨a, _ | ⟨b, r⟩⟩
        · simp [Pg.d, lns, Nt.d, ints, entB, vc_ref09_Entry_k28, vc_ref09_Entry_k26, vc_ref09_Entry_k23, vc_ref09_Entry_k22]
          rfl
        · simp [Pg.d, lns, Nt.d, ints, entB, vc_ref09_Entry_k28, vc_ref09_Entry_k26, vc_ref09_Entry_k23, vc_ref09_Entry_k21]
          refine CALL.val [p.d, int a] _ rfl (hL a) (.inl rfl) ?_
          simp [vc_ref09_Entry_k20]
          rfl
        · have : ¬ ((r.length : Int) + 1 + 1 = 1) := by omega
          have e1 : entB p ⟨3, a :: b :: r⟩ = false := by
            rcases r with _ | ⟨c, _ | ⟨d, _ | ⟨f, r⟩⟩⟩ <;> simp [entB]
          simp [Pg.d, lns, Nt.d, ints, e1, this, vc_ref09_Entry_k28, vc_ref09_Entry_k26, vc_ref09_Entry_k23, vc_ref09_Entry_k22]
          rfl
      · have e1 : entB p ⟨k, ns⟩ = false := by
          rcases ns with _ | ⟨a, _ | ⟨b, _ | ⟨c, _ | ⟨d, _ | ⟨f, r⟩⟩⟩⟩⟩ <;> simp [entB, k1, k2, k3]
        simp [Pg.d, lns, Nt.d, ints, e1, k1, k2, k3, vc_ref09_Entry_k28, vc_ref09_Entry_k26, vc_ref09_Entry_k24]
        rfl
end Go.Vc

namespace Go.Vc
open Go Go.Proofs
variable {g : GG}
attribute [local simp] and_assoc
theorem ref09_Page_meets (p : Pg) (hl : p.lines.length ≤ 1000) (hl2 : p.log.length ≤ 1000) : Meets (Tz g) f_ref09_Page [p.d] ⟨.d (.bool p.ok), []⟩ := by
  refine meets_ref09_Page ?_
  unfold vc_ref09_Page
  simp [Pg.d, lns, ents]
  refine CALL.val [int p.people, int 2, int 6] _ rfl (ref09_in_meets _ _ _) (.inl rfl) ?_
  cases h1 : inB p.people 2 6 with
  | false => simp [Pg.ok, h1, vc_ref09_Page_k13]
  | true =>
    have h1' := h1
    simp [inB] at h1'
    simp [vc_ref09_Page_k13]
    refine CALL.val [int p.lines.length, int 1, int 6] _ rfl (ref09_in_meets _ _ _) (.inl rfl) ?_
    cases h2 : inB p.lines.length 1 6 with
    | false => simp [Pg.ok, h1, h2, vc_ref09_Page_k12]
    | true =>
      simp [vc_ref09_Page_k12]
      constructor
      · intro h3
        have : ¬ p.log.length ≤ 10 := by omega
        simp [Pg.ok, this]
      · intro h3
        have h3' : p.log.length ≤ 10 := by omega
        have hok : p.ok = (!p.lines.any (fun l => !lnB p l) && !p.log.any (fun e => !entB p e)) := by simp only [Pg.ok, h1, h2, decide_eq_true h3', Bool.true_and]
        have hP : ∀ n, Meets (Tz g) f_ref09_Person [p.d, int n] ⟨.d (.bool (persB p n)), []⟩ := fun n => ref09_Person_meets p n (by omega)
        have hN : ∀ n, Meets (Tz g) f_ref02_Number [int n] ⟨.d (.bool (numB n)), []⟩ := fun n => ref02_Number_meets n
        have hE : ∀ e, Meets (Tz g) f_ref09_Entry [p.d, e.d] ⟨.d (.bool (entB p e)), []⟩ := fun e => ref09_Entry_meets p e hl (by omega)
        rw [hok]
        refine LOOP.mk Nat (fun k => [.ptr 24 0 0 0, .d (int k)]) (fun _ => [(24, some ⟨0, T_api_ProofPage, .box [.d (int p.people), .d (.list (p.lines.map Ln.d)), .d (.list (p.log.map Nt.d))]⟩)])
          (fun k => k ≤ p.lines.length ∧ p.lines.any (fun l => !lnB p l) = (p.lines.drop k).any (fun l => !lnB p l)) (fun k => p.lines.length - k) [] (by simp) 0 ⟨by omega, rfl⟩ (by simp [WEAK]) (fun _ _ => rfl) ?_
        rintro k ⟨hk, he⟩
        simp [vc_ref09_Page_k11, -List.any_eq_true, -List.any_eq_false]
        constructor
        · intro hlt
          have hg : p.lines[k]? = some p.lines[k] := List.getElem?_eq_getElem (by omega)
          rw [List.drop_eq_getElem_cons hlt] at he
          generalize p.lines[k] = x at hg he
          simp only [List.any_cons] at he
          simp [vc_ref09_Page_k9, hg, Ln.d, -List.any_eq_true, -List.any_eq_false]
          refine CALL.val [p.d, int x.setter] _ rfl (hP x.setter) (.inl rfl) ?_
          cases c1 : persB p x.setter with
          | false =>
            have : lnB p x = false := by simp [lnB, c1]
            rw [he, this]
            simp [vc_ref09_Page_k6, vc_ref09_Page_k4]
            rfl
          | true =>
            simp [vc_ref09_Page_k6, vc_ref09_Page_k5, hg, Ln.d, -List.any_eq_true, -List.any_eq_false]
            refine CALL.val [int x.right] _ rfl (hN x.right) (.inl rfl) ?_
            cases c2 : numB x.right with
            | false =>
              have : lnB p x = false := by simp [lnB, c1, c2]
              rw [he, this]
              simp [vc_ref09_Page_k3, vc_ref09_Page_k1]
              rfl
            | true =>
              simp [vc_ref09_Page_k3, vc_ref09_Page_k2, hg, Ln.d, -List.any_eq_true, -List.any_eq_false]
              refine CALL.val [int x.set] _ rfl (hN x.set) (.inl rfl) ?_
              cases c3 : numB x.set with
              | false =>
                have : lnB p x = false := by simp [lnB, c1, c2, c3]
                rw [he, this]
                simp [vc_ref09_Page_k0]
                rfl
              | true =>
                have : lnB p x = true := by simp [lnB, c1, c2, c3]
                rw [this, Bool.not_true, Bool.false_or] at he
                simp [vc_ref09_Page_k0, -List.any_eq_true, -List.any_eq_false]
                refine ⟨rfl, ?_⟩
                rw [wrap_id (n := (k : Int) + 1) (by omega) (by omega)]
                exact ⟨k + 1, by omega, he, by simp [WEAK], by omega⟩
        · intro hge
          rw [List.drop_eq_nil_of_le hge, List.any_nil] at he
          rw [he, Bool.not_false, Bool.true_and]
          simp [vc_ref09_Page_k10, -List.any_eq_true, -List.any_eq_false]
          refine LOOP.mk Nat (fun k => [.ptr 24 0 0 0, .d (int k)]) (fun _ => [(24, some ⟨0, T_api_ProofPage, .box [.d (int p.people), .d (.list (p.lines.map Ln.d)), .d (.list (p.log.map Nt.d))]⟩)])
            (fun k => k ≤ p.log.length ∧ p.log.any (fun e => !entB p e) = (p.log.drop k).any (fun e => !entB p e)) (fun k => p.log.length - k) [] (by simp) 0 ⟨by omega, rfl⟩ (by simp [WEAK]) (fun _ _ => rfl) ?_
          rintro k ⟨hk, he⟩
          simp [vc_ref09_Page_k8, -List.any_eq_true, -List.any_eq_false]
          constructor
          · intro hlt
            have hg : p.log[k]? = some p.log[k] := List.getElem?_eq_getElem (by omega)
            rw [List.drop_eq_getElem_cons hlt] at he
            generalize p.log[k] = x at hg he
            simp only [List.any_cons] at he
            simp [hg, Nt.d, -List.any_eq_true, -List.any_eq_false]
            refine CALL.val [p.d, x.d] _ rfl (hE x) (.inl rfl) ?_
            cases c1 : entB p x with
            | false =>
              rw [he, c1]
              simp [vc_ref09_Page_k7]
              rfl
            | true =>
              rw [c1, Bool.not_true, Bool.false_or] at he
              simp [vc_ref09_Page_k7, -List.any_eq_true, -List.any_eq_false]
              refine ⟨rfl, ?_⟩
              rw [wrap_id (n := (k : Int) + 1) (by omega) (by omega)]
              exact ⟨k + 1, by omega, he, by simp [WEAK], by omega⟩
          · intro hge
            rw [List.drop_eq_nil_of_le hge, List.any_nil] at he
            rw [he]
end Go.Vc
