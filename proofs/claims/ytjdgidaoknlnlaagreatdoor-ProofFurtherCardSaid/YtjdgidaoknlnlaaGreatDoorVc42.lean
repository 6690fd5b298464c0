/- A part of the proof: general laws of a reading of the model by abstract data, or contracts of the functions that the law calls. -/
import Derived.Test.YtjdgidaoknlnlaaGreatDoorVc41
set_option maxRecDepth 100000
namespace Go.Vc
open Go Go.Proofs
variable {g : GG}
attribute [local simp] and_assoc
def passB (p : Pg) (s : Ps) (line : Nat) : Bool := decide (2 ≤ rdN p s line)
theorem attempt_line (p : Pg) (s : Ps) (line : Nat) (hok : p.ok = true) (hs : PsOK p s) (hl : line < p.lines.length) : MeetsH (Tz g) f_proof_attempt (preS p s line) [cloL] (.ret (.d (int (match passB p s line with | true => 0 | false => 7)))) ((preS p s line).map .upd) := by
  cases h : passB p s line with
  | true => exact attL_meets (passing_1_ret p s line hok hs hl (of_decide_eq_true h)) (att_retL _ _ _ _ _ _ _ _ _ _)
  | false => exact attL_meets (passing_1_pan p s line hok hs hl (by have := of_decide_eq_false h; omega)) (att_panL _ _ _ _ _ _ _ _ _ _ _)
def passL (p : Pg) (s : Ps) : List Int := fltL (passB p s) p.lines.length
set_option maxHeartbeats 4000000 in
theorem passing_meets (p : Pg) (s : Ps) (hok : p.ok = true) (hs : PsOK p s) : MeetsH (Tz g) f_p_proof_page_passing (stBlks 0 (fun _ => 0) p s) [.ptr 0 0 0 0] (.ret (.own 6 0)) (sames ++ [.upd ⟨0, T_int, .lst ((passL p s).map int)⟩]) := by
  obtain ⟨a1, a2, a3, a4, a5, _⟩ := Pg.ok_len hok
  have hatt := fun line hl => attempt_line (g := g) p s line hok hs hl
  refine meetsH_p_proof_page_passing rfl ?_
  unfold vc_p_proof_page_passing
  simp [stBlks, stBox, numbered, lookH, lns]
  refine LOOP.mk Nat (fun k => [.ptr 24 0 0 0, .own 104 (fltL (passB p s) k).length, .d (int p.lines.length), .d (int k)]) (fun k => (104, some ⟨(fltL (passB p s) k).length, T_int, .lst ((fltL (passB p s) k).map int)⟩) :: (24, some ⟨0, T_p_proof_page, .box [.ptr 0 0 0 0]⟩) :: numbered 0 (stBlks 0 (fun _ => 0) p s))
    (fun k => k ≤ p.lines.length) (fun k => p.lines.length - k) [(1, T_int)] (by simp) 0 (by omega) (by simp [WEAK, lookH, numbered, stBlks, stBox, lns, fltL]) (fun _ _ => rfl) ?_
  intro k hk
  have hfl := fltL_len (passB p s) k
  have hfs := fltL_succ (passB p s) k
  have hw := wrap_id (n := (k : Int) + 1) (by omega) (by omega)
  simp [vc_p_proof_page_passing_k1, stBlks, stBox, numbered]
  constructor
  · intro hlt
    refine CALL.gen [24, 0, 1, 2, 3, 4, 5, 128] [false] [cloL] (preS p s k) _ _ (hatt k hlt) rfl (by simp [argsM, AV.ren, AV.ren.renL, rho]) ?_ ?_ ?_ ?_ ?_
    · simp [preB, preS, preL, pgBs, lineB1, rho, bodyOf, lookH, Body.ren, AV.ren, AV.ren.renL]
    · simp [ids.idsL, ids, preIds, preS, preL, pgBs, lineB1, Body.ids, lowL]
    · simp [lentL, disjB]
    · simp [preS, preL, pgBs]
    · cases hp : passB p s k with
      | true =>
        rw [hp] at hfs
        simp [AV.ren, AV.ren.renL, preS, preL, pgBs, lineB1, upsP, rho, ABlk.ren, Body.ren, lentL, kills, lookH, vc_p_proof_page_passing_k0, hw]
        exact ⟨by omega, k + 1, by omega, by simp [WEAK, lookH, hfs], by omega⟩
      | false =>
        rw [hp] at hfs
        simp [AV.ren, AV.ren.renL, preS, preL, pgBs, lineB1, upsP, rho, ABlk.ren, Body.ren, lentL, kills, lookH, vc_p_proof_page_passing_k0, hw]
        exact ⟨k + 1, by omega, by simp [WEAK, lookH, hfs], by omega⟩
  · intro hge
    have : k = p.lines.length := by omega
    subst this
    refine ⟨[some 104], ?_⟩
    simp [passL, sames, yv, yh, yb, yver, bodyOf, fz, fzH, fzB, stay, src, lookH, NodupB, disjB, lns]
theorem passes_1_ret (p : Pg) (s : Ps) (hok : p.ok = true) (hs : PsOK p s) (hall : ∀ k, k < p.lines.length → 2 ≤ rdN p s k) : MeetsH (Tz g) f_p_proof_page_passes_1 (preT p s) [.ptr 0 0 0 0] (.ret (.tup [])) same7 := by
  obtain ⟨a1, a2, a3, a4, a5, _⟩ := Pg.ok_len hok
  refine meetsH_p_proof_page_passes_1 rfl ?_
  unfold vc_p_proof_page_passes_1
  simp [preT, preP, pgBs, numbered, lookH, lns]
  refine LOOP.mk Nat (fun k => [.ptr 0 0 0 0, .d (int p.lines.length), .d (int k)]) (fun _ => numbered 0 (preT p s))
    (fun k => k ≤ p.lines.length) (fun k => p.lines.length - k) [] (by simp) 0 (by omega) (by simp [WEAK, lookH, numbered, preT, preP, pgBs, lns]) (fun _ _ => rfl) ?_
  intro k hk
  have hw := wrap_id (n := (k : Int) + 1) (by omega) (by omega)
  simp [vc_p_proof_page_passes_1_k0, numbered, preT, preP, pgBs]
  constructor
  · intro hlt
    refine CALL.gen [1, 2, 3, 4, 5, 6] [false, false] [.ptr 0 0 0 0, .d (int k)] (stBlks 0 (fun _ => 0) p s) _ _ (mustPass_ret p s k hok hs hlt (hall k hlt)) rfl (by simp [argsM, AV.ren, rho]) ?_ ?_ ?_ ?_ ?_
    · simp [preB, stBlks, stBox, rho, bodyOf, lookH, Body.ren, AV.ren, AV.ren.renL]
    · simp [ids.idsL, ids, preIds, stBlks, stBox, Body.ids, lowL]
    · simp [lentL, disjB]
    · simp [stBlks, sames]
    · simp [sames, upsP, lentL, kills, hw]
      exact ⟨k + 1, by omega, by simp [WEAK, lookH], by omega⟩
  · intro hge
    refine ⟨[], ?_⟩
    simp [same7, yv, yv.yvL, yh, fz, fz.fzL, fzH, stay, src, lookH, NodupB, disjB, lns]
theorem passes_1_pan (p : Pg) (s : Ps) (j : Nat) (hok : p.ok = true) (hs : PsOK p s) (hall : ∀ k, k < j → 2 ≤ rdN p s k) (hj : j < p.lines.length) (hlt2 : rdN p s j < 2) : MeetsH (Tz g) f_p_proof_page_passes_1 (preT p s) [.ptr 0 0 0 0] (.pan (.d (.iface T_proof_short (.agg [int j])))) same7 := by
  obtain ⟨a1, a2, a3, a4, a5, _⟩ := Pg.ok_len hok
  refine meetsHp_p_proof_page_passes_1 rfl ?_
  unfold vcp_p_proof_page_passes_1
  simp [preT, preP, pgBs, numbered, lookH, lns]
  refine LOOP.mk Nat (fun k => [.ptr 0 0 0 0, .d (int p.lines.length), .d (int k)]) (fun _ => numbered 0 (preT p s))
    (fun k => k ≤ j) (fun k => p.lines.length - k) [] (by simp) 0 (by omega) (by simp [WEAK, lookH, numbered, preT, preP, pgBs, lns]) (fun _ _ => rfl) ?_
  intro k hk
  have hw := wrap_id (n := (k : Int) + 1) (by omega) (by omega)
  have hlt : k < p.lines.length := by omega
  simp [vcp_p_proof_page_passes_1_k0, numbered, preT, preP, pgBs, hlt]
  by_cases hkj : k = j
  · subst hkj
    refine CALL.genp [1, 2, 3, 4, 5, 6] [false, false] [.ptr 0 0 0 0, .d (int k)] (stBlks 0 (fun _ => 0) p s) _ _ (mustPass_pan p s k hok hs hlt hlt2) rfl (by simp [argsM, AV.ren, rho]) ?_ ?_ ?_ ?_ ?_
    · simp [preB, stBlks, stBox, rho, bodyOf, lookH, Body.ren, AV.ren, AV.ren.renL]
    · simp [ids.idsL, ids, preIds, stBlks, stBox, Body.ids, lowL]
    · simp [lentL, disjB]
    · simp [stBlks, sames]
    · simp [AV.ren, sames, upsP, lentL, kills]
      refine ⟨[], ?_⟩
      simp [same7, yv, yh, fz, fzH, stay, src, lookH, NodupB, disjB, argD, toD, lns]
  · refine CALL.gen [1, 2, 3, 4, 5, 6] [false, false] [.ptr 0 0 0 0, .d (int k)] (stBlks 0 (fun _ => 0) p s) _ _ (mustPass_ret p s k hok hs hlt (hall k (by omega))) rfl (by simp [argsM, AV.ren, rho]) ?_ ?_ ?_ ?_ ?_
    · simp [preB, stBlks, stBox, rho, bodyOf, lookH, Body.ren, AV.ren, AV.ren.renL]
    · simp [ids.idsL, ids, preIds, stBlks, stBox, Body.ids, lowL]
    · simp [lentL, disjB]
    · simp [stBlks, sames]
    · simp [sames, upsP, lentL, kills, hw]
      exact ⟨k + 1, by omega, by simp [WEAK, lookH], by omega⟩
theorem fltL_all (f : Nat → Bool) (m : Nat) : (fltL f m).length = m ↔ ∀ k, k < m → f k = true := by
  simp only [fltL, List.length_map]
  have : (List.range m).length = m := List.length_range
  constructor
  · intro h k hk
    have := (List.filter_sublist (l := List.range m) (p := f)).eq_of_length (by rw [h, this])
    have hm : k ∈ (List.range m).filter f := by rw [this]; exact List.mem_range.2 hk
    exact (List.mem_filter.1 hm).2
  · intro h
    rw [List.filter_eq_self.2 (fun k hk => h k (List.mem_range.1 hk)), this]
theorem least {f : Nat → Bool} : ∀ m, (∀ k, k < m → f k = true) ∨ ∃ j, j < m ∧ f j = false ∧ ∀ k, k < j → f k = true
  | 0 => .inl (fun k hk => by omega)
  | m + 1 => by
    rcases least (f := f) m with h | ⟨j, h1, h2, h3⟩
    · cases hf : f m with
      | true =>
        refine .inl (fun k hk => ?_)
        by_cases e : k = m
        · rw [e]; exact hf
        · exact h k (by omega)
      | false => exact .inr ⟨m, by omega, hf, h⟩
    · exact .inr ⟨j, by omega, h2, h3⟩
def allB (p : Pg) (s : Ps) : Bool := decide ((passL p s).length = p.lines.length)
theorem attempt_page (p : Pg) (s : Ps) (hok : p.ok = true) (hs : PsOK p s) : MeetsH (Tz g) f_proof_attempt (preT p s) [cloP] (.ret (.d (int (match allB p s with | true => 0 | false => 7)))) ((preT p s).map .upd) := by
  have ha := fltL_all (passB p s) p.lines.length
  rcases least (f := passB p s) p.lines.length with h | ⟨j, h1, h2, h3⟩
  · have hb : allB p s = true := decide_eq_true (ha.2 h)
    rw [hb]
    exact attP_meets (passes_1_ret p s hok hs (fun k hk => of_decide_eq_true (h k hk))) (att_retP _ _ _ _ _ _ _ _ _)
  · have hb : allB p s = false := decide_eq_false (fun e => by
      have := ha.1 e j h1
      rw [h2] at this
      cases this)
    rw [hb]
    exact attP_meets (passes_1_pan p s j hok hs (fun k hk => of_decide_eq_true (h3 k hk)) h1 (by have := of_decide_eq_false h2; omega)) (att_panP _ _ _ _ _ _ _ _ _ _)
theorem passes_meets (p : Pg) (s : Ps) (hok : p.ok = true) (hs : PsOK p s) : MeetsH (Tz g) f_p_proof_page_passes (stBlks 0 (fun _ => 0) p s) [.ptr 0 0 0 0] (.ret (.d (.bool (allB p s)))) sames := by
  have hatt := attempt_page (g := g) p s hok hs
  refine meetsH_p_proof_page_passes rfl ?_
  unfold vc_p_proof_page_passes
  simp [stBlks, stBox, numbered]
  refine CALL.gen [24, 0, 1, 2, 3, 4, 5] [false] [cloP] (preT p s) _ _ hatt rfl (by simp [argsM, AV.ren, AV.ren.renL, rho]) ?_ ?_ ?_ ?_ ?_
  · simp [preB, preT, preP, pgBs, rho, bodyOf, lookH, Body.ren, AV.ren, AV.ren.renL]
  · simp [ids.idsL, ids, preIds, preT, preP, pgBs, Body.ids, lowL]
  · simp [lentL, disjB]
  · simp [preT, preP, pgBs]
  · simp [AV.ren, AV.ren.renL, preT, preP, pgBs, upsP, rho, ABlk.ren, Body.ren, lentL, kills]
    refine ⟨[], ?_⟩
    simp [sames, yv, yh, fz, fzH, stay, src, lookH, NodupB, disjB, argD, toD]
    cases allB p s <;> simp
end Go.Vc

namespace Go.Vc
open Go Go.Proofs
variable {g : GG}
attribute [local simp] and_assoc
def passP (p : Pg) : List Int := passL p (stN p p.log.length)
def allP (p : Pg) : Bool := allB p (stN p p.log.length)
theorem ref09_Passes_meets (p : Pg) (hok : p.ok = true) : Meets (Tz g) f_ref09_Passes [p.d] ⟨.d (ints (passP p)), []⟩ := by
  obtain ⟨a1, a2, a3, a4, a5, _⟩ := Pg.ok_len hok
  have hb : ∀ k, passB p (stN p p.log.length) k = decide (2 ≤ (readersP p k).length) := fun k => rfl
  unfold passP passL
  generalize passB p (stN p p.log.length) = f at hb
  refine meets_ref09_Passes ?_
  unfold vc_ref09_Passes
  simp [Pg.d, lns, ents]
  refine LOOP.mk Nat (fun k => [.ptr 24 0 0 0, .own 56 (fltL f k).length, .d (int k)]) (fun k => [(56, some ⟨(fltL f k).length, T_int, .lst ((fltL f k).map int)⟩), (24, some ⟨0, T_api_ProofPage, .box [.d (int p.people), .d (.list (p.lines.map Ln.d)), .d (.list (p.log.map Nt.d))]⟩)])
    (fun k => k ≤ p.lines.length) (fun k => p.lines.length - k) [(1, T_int)] (by simp) 0 (by omega) (by simp [WEAK, lookH, fltL]) (fun _ _ => rfl) ?_
  intro k hk
  have hfl := fltL_len f k
  have hfs := fltL_succ f k
  have hw := wrap_id (n := (k : Int) + 1) (by omega) (by omega)
  rw [hb k] at hfs
  simp [vc_ref09_Passes_k1]
  constructor
  · intro hlt
    refine CALL.mk [p.d, int k] _ rfl (ref09_Readers_meets p k hok hlt) (.inl rfl) (by simp) ?_
    simp [vc_ref09_Passes_k0, ints, hw]
    refine ⟨fun h => ?_, fun h => ?_⟩
    · rw [decide_eq_true (by omega)] at hfs
      exact ⟨by omega, k + 1, by omega, by simp [WEAK, lookH, hfs], by omega⟩
    · rw [decide_eq_false (by omega)] at hfs
      exact ⟨k + 1, by omega, by simp [WEAK, lookH, hfs], by omega⟩
  · intro hge
    have : k = p.lines.length := by omega
    subst this
    simp [ints]
theorem ref09_Pass_meets (p : Pg) (hok : p.ok = true) : Meets (Tz g) f_ref09_Pass [p.d] ⟨.d (.bool (allP p)), []⟩ := by
  refine meets_ref09_Pass ?_
  unfold vc_ref09_Pass
  simp [Pg.d, lns, ents]
  refine CALL.mk [p.d] _ rfl (ref09_Passes_meets p hok) (.inl rfl) (by simp) ?_
  simp [vc_ref09_Pass_k0, ints]
  refine ⟨rfl, ?_⟩
  have : (allP p) = decide ((passP p).length = p.lines.length) := rfl
  rw [this]
  exact decide_eq_decide.2 (by omega)
end Go.Vc
