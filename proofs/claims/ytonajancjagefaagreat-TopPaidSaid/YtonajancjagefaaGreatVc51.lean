/- A part of the proof: general laws of a reading of the model by abstract data, or contracts of the functions that the law calls. -/
import Derived.Test.YtonajancjagefaaGreatVc50
import Derived.Test.YtonajancjagefaaGreatVc28
import Derived.Test.YtonajancjagefaaGreatVc31
set_option maxRecDepth 100000
namespace Go.Vc
open Go Go.Proofs Go.RowKit
variable {g : GG}
attribute [local simp] and_assoc
def hgt (c : Nat) : Nat := [3, 2, 1, 1, 2, 1].getD c 0
theorem hgt_kids {c c' : Nat} (hc : c < 6) (h : c' ∈ kidsA c) : c' < 6 ∧ hgt c' + 1 ≤ hgt c := by
  rcases (by omega : c = 0 ∨ c = 1 ∨ c = 2 ∨ c = 3 ∨ c = 4 ∨ c = 5) with rfl | rfl | rfl | rfl | rfl | rfl <;> simp [kidsA] at h <;> rcases h with rfl | rfl <;> simp [hgt]
theorem mvA_at {c : Nat} (hc : c < 6) : ([AV.own 1 0, .own 2 0, .zc, .zc, .own 3 0, .zc] : List AV)[c]? = some (mvA c) := by
  rcases (by omega : c = 0 ∨ c = 1 ∨ c = 2 ∨ c = 3 ∨ c = 4 ∨ c = 5) with rfl | rfl | rfl | rfl | rfl | rfl <;> rfl
set_option maxHeartbeats 4000000 in
theorem least_meets (p : Nat) (hp2 : p < 2) : ∀ (k c : Nat), c < 6 → hgt c ≤ k → LOK g p (leastP p k) c := by
  intro k
  induction k with
  | zero =>
    intro c hc h
    exfalso
    rcases (by omega : c = 0 ∨ c = 1 ∨ c = 2 ∨ c = 3 ∨ c = 4 ∨ c = 5) with rfl | rfl | rfl | rfl | rfl | rfl <;> simp [hgt] at h
  | succ k ih =>
    intro c hc hk st f hI h0 h9
    have hL : ∀ c', c' ∈ kidsA c → LOK g p (leastP p k) c' := fun c' h' => by
      obtain ⟨h1, h2⟩ := hgt_kids hc h'
      exact ih c' h1 (by omega)
    have hf := mfind_ents c f st 0
    unfold cp_keyD at hf
    cases hfs : findS c f st 0 with
    | some x =>
      obtain ⟨j, e⟩ := x
      have e1 : leastP p (k + 1) st c f = (e.n, st) := by simp only [leastP, hfs]
      rw [e1]
      have hb := hI e (findS_mem hfs)
      refine ⟨?_, hI, hb.1, hb.2⟩
      rw [hfs] at hf
      refine meetsH_copies_reading_least rfl ?_
      unfold vc_copies_reading_least
      simp [numbered, preC, cp_rdA, lookH, cp_keyD, mapA]
      refine ⟨rfl, rfl, _, hf, ?_⟩
      simp [entR]
      refine ⟨[], ?_⟩
      simp [postC, yv, yv.yvL, yh, yb, yver, bodyOf, fz, fz.fzL, fzH, fzB, stay, src, lookH, NodupB, disjB, preC, boxA, lstA, mapA]
    | none =>
      rw [hfs] at hf
      cases hfb : fitB p c f with
      | false =>
        have e1 : leastP p (k + 1) st c f = (sumP (kidsP (FW p k f) (kidsA c) ([1000], st)).1, putS (kidsP (FW p k f) (kidsA c) ([1000], st)).2 c f (sumP (kidsP (FW p k f) (kidsA c) ([1000], st)).1)) := by simp only [leastP, hfs, hfb]
        have hki := kids_inv p k f hL ([1000], st) hI (fun x hx => by obtain rfl := List.mem_singleton.1 hx; omega) (kidsA c).length
        rw [List.take_of_length_le (Nat.le_refl _)] at hki
        have hs := sum_bnd _ hki.2
        have hlp := kloop_0 p k c f hc hL ([1000], st) hI (fun x hx => by obtain rfl := List.mem_singleton.1 hx; omega) (by simp) st
        rw [e1]
        refine ⟨?_, hki.1.put hs.1 hs.2, hs.1, hs.2⟩
        refine meetsH_copies_reading_least rfl ?_
        unfold vc_copies_reading_least
        simp [numbered, preC, cp_rdA, lookH, cp_keyD, mapA]
        refine ⟨rfl, rfl, _, hf, ?_⟩
        simp [entR]
        refine CALL.val [treA, int c, int p, int f] _ rfl (fits_meets p c f hp2 hc) (.inl rfl) ?_
        simp [hfb, vc_copies_reading_least_k4, boxA, lstA]
        refine ⟨by omega, mvA c, mvA_at hc, (kidsA c).length, ?_, ?_⟩
        · rcases (by omega : c = 0 ∨ c = 1 ∨ c = 2 ∨ c = 3 ∨ c = 4 ∨ c = 5) with rfl | rfl | rfl | rfl | rfl | rfl <;> rfl
        · refine hlp _ _ (sumP (kidsP (FW p k f) (kidsA c) ([1000], st)).1, putS (kidsP (FW p k f) (kidsA c) ([1000], st)).2 c f (sumP (kidsP (FW p k f) (kidsA c) ([1000], st)).1)) rfl ?_
          rcases (by omega : c = 0 ∨ c = 1 ∨ c = 2 ∨ c = 3 ∨ c = 4 ∨ c = 5) with rfl | rfl | rfl | rfl | rfl | rfl <;> simp [WEAK, lookH, hK, hC, boxR, boxS, boxA, lstA, mapA, mvA, kidsA]
      | true =>
        have e1 : leastP p (k + 1) st c f = (sumP (kidsP (FW p k f) (kidsA c) ([], st)).1, putS (kidsP (FW p k f) (kidsA c) ([], st)).2 c f (sumP (kidsP (FW p k f) (kidsA c) ([], st)).1)) := by simp only [leastP, hfs, hfb]
        have hki := kids_inv p k f hL ([], st) hI (fun x hx => by cases hx) (kidsA c).length
        rw [List.take_of_length_le (Nat.le_refl _)] at hki
        have hs := sum_bnd _ hki.2
        have hlp := kloop_2 p k c f hc hL ([], st) hI (fun x hx => by cases hx) (by simp) st
        rw [e1]
        refine ⟨?_, hki.1.put hs.1 hs.2, hs.1, hs.2⟩
        refine meetsH_copies_reading_least rfl ?_
        unfold vc_copies_reading_least
        simp [numbered, preC, cp_rdA, lookH, cp_keyD, mapA]
        refine ⟨rfl, rfl, _, hf, ?_⟩
        simp [entR]
        refine CALL.val [treA, int c, int p, int f] _ rfl (fits_meets p c f hp2 hc) (.inl rfl) ?_
        simp [hfb, vc_copies_reading_least_k5, boxA, lstA]
        refine ⟨by omega, mvA c, mvA_at hc, (kidsA c).length, ?_, ?_⟩
        · rcases (by omega : c = 0 ∨ c = 1 ∨ c = 2 ∨ c = 3 ∨ c = 4 ∨ c = 5) with rfl | rfl | rfl | rfl | rfl | rfl <;> rfl
        · refine hlp _ _ (sumP (kidsP (FW p k f) (kidsA c) ([], st)).1, putS (kidsP (FW p k f) (kidsA c) ([], st)).2 c f (sumP (kidsP (FW p k f) (kidsA c) ([], st)).1)) rfl ?_
          rcases (by omega : c = 0 ∨ c = 1 ∨ c = 2 ∨ c = 3 ∨ c = 4 ∨ c = 5) with rfl | rfl | rfl | rfl | rfl | rfl <;> simp [WEAK, lookH, hK, hC, boxR, boxS, boxA, lstA, mapA, mvA, kidsA]
end Go.Vc

namespace Go.Vc
open Go Go.Proofs Go.RowKit
variable {g : GG}
attribute [local simp] and_assoc
def errP (L : Ms → Nat → Int → Int × Ms) : Nat → Int × Ms
  | 0 => (1000, [])
  | i + 1 => match errP L i with
    | (n, st1) => match L st1 0 i with
      | (m, st2) => (min n m, st2)
theorem errP_zero (L : Ms → Nat → Int → Int × Ms) : errP L 0 = (1000, []) := rfl
theorem errP_succ (L : Ms → Nat → Int → Int × Ms) (i : Nat) : errP L (i + 1) = (min (errP L i).1 (L (errP L i).2 0 i).1, (L (errP L i).2 0 i).2) := rfl
theorem err_inv (p : Nat) {L : Ms → Nat → Int → Int × Ms} (hL : LOK g p L 0) : ∀ i, i ≤ 10 → InvM (errP L i).2 ∧ 0 ≤ (errP L i).1 ∧ (errP L i).1 ≤ 1000
  | 0, _ => ⟨fun e he => (by cases he), by show (0 : Int) ≤ 1000; omega, by show (1000 : Int) ≤ 1000; omega⟩
  | i + 1, hi => by
    obtain ⟨h1, h2, h3⟩ := err_inv p hL i (by omega)
    obtain ⟨_, k1, k2, k3⟩ := hL (errP L i).2 i h1 (by omega) (by omega)
    rw [errP_succ]
    refine ⟨k1, ?_, ?_⟩
    · show 0 ≤ min _ _
      omega
    · show min _ _ ≤ 1000
      omega
theorem errors_meets (p : Nat) {L : Ms → Nat → Int → Int × Ms} (hL : LOK g p L 0) : MeetsH (Tz g) f_copies_reading_errors (preC []) (cp_rdA p :: ([] : List D).map .d) (.ret (.d (int (errP L 10).1))) (postC (errP L 10).2) := by
  refine meetsH_copies_reading_errors rfl ?_
  unfold vc_copies_reading_errors
  simp [numbered, preC, cp_rdA]
  refine LOOP.mk Nat (fun i => [.ptr 24 0 0 0, .d (int (errP L i).1), .d (int i)]) (fun i => hC p (errP L i).2) (fun i => i ≤ 10) (fun i => 10 - i) [] (by simp) 0 (by omega) (by simp [WEAK, lookH, hC, errP_zero, boxR]) (fun _ _ => rfl) ?_
  intro i hi
  obtain ⟨h1, b0, b1⟩ := err_inv p hL i hi
  simp [vc_copies_reading_errors_k0]
  refine ⟨fun hlt => ?_, fun hge => ?_⟩
  · obtain ⟨hM, k1, k2, k3⟩ := hL (errP L i).2 i h1 (by omega) (by omega)
    have w1 := wrap_id (n := (i : Int) + 1) (by omega) (by omega)
    simp [hC, lookH, boxR]
    refine CALL.rd (ds := [cp_keyD 0 i]) hM rfl rfl rfl rfl rfl (fun rd => ?_)
    simp [w1]
    refine ⟨i + 1, by omega, ?_, by omega⟩
    simp [WEAK, lookH, errP_succ, boxR]
  · have : i = 10 := by omega
    subst this
    refine ⟨[], ?_⟩
    simp [postC, yv, yv.yvL, yh, yb, yver, bodyOf, fz, fz.fzL, fzH, fzB, stay, src, lookH, NodupB, disjB, hC, boxA, lstA, mapA]
theorem run_isTree : EV f_copies_isTree [treA] = some (.ret (.d (.bool true)), []) := by kernel_rfl
theorem run_readingOf0 : EV f_copies_readingOf [treA, int 0] = some (.ret (cp_rdA 0), (preC []).map .upd) := by kernel_rfl
theorem run_readingOf1 : EV f_copies_readingOf [treA, int 1] = some (.ret (cp_rdA 1), (preC []).map .upd) := by kernel_rfl
theorem err0 : (errP (leastP 0 3) 10).1 = 1 := by decide +kernel
theorem err1 : (errP (leastP 1 3) 10).1 = 1 := by decide +kernel
end Go.Vc

namespace Go.Vc
open Go Go.Proofs Go.RowKit
variable {g : GG}
attribute [local simp] and_assoc
theorem isTree_meets : Meets (Tz g) f_copies_isTree [treA] ⟨.d (.bool true), []⟩ := ev_ok (C := Tz g) rfl tab_ok ext_ok dm2 1000 20 (.fnc f_copies_isTree) [] _ _ _ run_isTree
theorem readingOf_meets (p : Nat) (hp : p < 2) : Meets (Tz g) f_copies_readingOf [treA, int p] ⟨cp_rdA p, preC []⟩ := by
  rcases (by omega : p = 0 ∨ p = 1) with rfl | rfl
  · exact ev_ok (C := Tz g) rfl tab_ok ext_ok dm2 1000 20 (.fnc f_copies_readingOf) [] _ _ _ run_readingOf0
  · exact ev_ok (C := Tz g) rfl tab_ok ext_ok dm2 1000 20 (.fnc f_copies_readingOf) [] _ _ _ run_readingOf1
theorem errs_meets (p : Nat) (hp : p < 2) : ∃ st, MeetsH (Tz g) f_copies_reading_errors (preC []) [cp_rdA p] (.ret (.d (int 1))) (postC st) := by
  have h := errors_meets (g := g) p (least_meets p hp 3 0 (by omega) (Nat.le_refl _))
  rcases (by omega : p = 0 ∨ p = 1) with rfl | rfl
  · rw [err0] at h; exact ⟨_, h⟩
  · rw [err1] at h; exact ⟨_, h⟩
theorem cFewest_meets : Meets (Tz g) f_copies_Fewest [treA] ⟨.tup [.d (int 2), .d (int 0)], []⟩ := by
  refine meets_copies_Fewest ?_
  unfold vc_copies_Fewest
  simp [treA]
  refine CALL.val [treA] _ rfl isTree_meets (.inl rfl) ?_
  simp [vc_copies_Fewest_k1, lookH]
  refine LOOP.mk Nat (fun i => [.ptr 24 0 0 0, .d (int i), .d (int 2), .d (int i)]) (fun i => [(24, some ⟨0, T_api_CopiesTree, .box [.d (int 2), .d copsA]⟩)]) (fun i => i ≤ 2) (fun i => 2 - i) [] (by simp) 0 (by omega) (by simp [WEAK, lookH]) (fun _ _ => rfl) ?_
  intro i hi
  simp [vc_copies_Fewest_k0]
  refine ⟨fun hlt => ?_, fun hge => ?_⟩
  · have hlt : i < 2 := by omega
    have w1 := wrap_id (n := (i : Int) + 1) (by omega) (by omega)
    obtain ⟨st, hM⟩ := errs_meets (g := g) i hlt
    refine CALL.mk [treA, int i] _ rfl (readingOf_meets i hlt) (.inl rfl) (by simp [preC]) ?_
    simp [cp_rdA, AV.ren, AV.ren.renL, rho]
    refine CALL.gen [160, 161, 162, 163, 164] [false] [cp_rdA i] (preC []) _ _ hM rfl (by simp [argsM, cp_rdA, AV.ren, AV.ren.renL, rho]) ?_ ?_ ?_ ?_ ?_
    · simp [preC, preB, bodyOf, lookH, upsP, boxA, lstA, mapA, ABlk.ren, Body.ren, AV.ren, AV.ren.renL, rho, ments]
    · simp [cp_rdA, ids.idsL, ids, preC, preIds, boxA, lstA, mapA, Body.ids, lowL]
    · simp [lentL, disjB]
    · simp [preC, postC]
    · simp [AV.ren, postC, upsP, rho, mapA, ABlk.ren, Body.ren, lentL, kills, w1]
      refine ⟨i + 1, by omega, ?_, by omega⟩
      simp [WEAK, lookH, preC, upsP, mapA, boxA, lstA, ABlk.ren]
  · have : i = 2 := by omega
    subst this
    simp
end Go.Vc
