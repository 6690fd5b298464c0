/- A part of the proof: general laws of a reading of the model by abstract data, or contracts of the functions that the law calls. -/
import Derived.Test.YtonajancjagefaaGreatVc45
import Derived.Test.YtonajancjagefaaGreatVc43
import Derived.Test.YtonajancjagefaaGreatVc44
set_option maxRecDepth 100000
namespace Go.Vc
open Go Go.Proofs Go.RowKit
variable {g : GG}
attribute [local simp] and_assoc
theorem errN_least {fr to : List Int} : ∀ {m : Nat}, errN fr to m = none → ∃ j l, j < m ∧ errN fr to j = some l ∧ ¬ to.getD j 0 = fr.getD j 0 ∧ kindAt fr to j = 0
  | 0, h => by simp [errN] at h
  | m + 1, h => by
    cases h1 : errN fr to m with
    | none =>
      obtain ⟨j, l, a, b, c, d⟩ := errN_least h1
      exact ⟨j, l, by omega, b, c, d⟩
    | some l =>
      simp only [errN, h1] at h
      refine ⟨m, l, by omega, h1, ?_⟩
      cases h2 : decide (to.getD m 0 = fr.getD m 0) with
      | true => rw [h2] at h; cases h
      | false =>
        rw [h2] at h
        simp only at h
        refine ⟨of_decide_eq_false h2, ?_⟩
        cases h3 : kindAt fr to m with
        | zero => rfl
        | succ q => rw [h3] at h; cases h
theorem copied_pan (fr to : List Int) (j : Nat) (l : List (Int × Int)) (hl : fr.length = to.length) (hl2 : to.length ≤ 6) (hb : ∀ x, x ∈ fr → -999 ≤ x ∧ x ≤ 999) (hj : j < to.length) (he : errN fr to j = some l) (hne : ¬ to.getD j 0 = fr.getD j 0) (hk0 : kindAt fr to j = 0) : MeetsP (Tz g) f_hands_copied [ints fr, ints to] (.iface T_hands_unlike (.agg [int j])) := by
  refine meetsP_hands_copied ?_
  unfold vcp_hands_copied
  simp [ints]
  refine LOOP.mk Nat (fun k => [.d (ints fr), .own 64 ((errN fr to k).getD []).length, .d (ints to), .d (int to.length), .d (int k)]) (fun k => [(64, some ⟨((errN fr to k).getD []).length, T_api_HandsError, .lst (((errN fr to k).getD []).map errD)⟩)])
    (fun k => k ≤ j) (fun k => to.length - k) [(1, T_api_HandsError)] (by simp) 0 (by simp) (by simp [WEAK, ints, errN]) (fun _ _ => rfl) ?_
  intro k hk
  have hlt : k < to.length := by omega
  have hw := wrap_id (n := (k : Int) + 1) (by omega) (by omega)
  obtain ⟨l1, h1⟩ := errN_some he hk
  have hlen := errN_len _ _ _ _ h1
  have hgf := getD_some (l := fr) (k := k) (by omega)
  have hgt := getD_some (l := to) (k := k) hlt
  have hbk := hb _ (getD_mem (l := fr) (k := k) (by omega))
  have hOf := of_meets (g := g) fr k _ hgf (by omega)
  have hKi := kind_meets (g := g) (fr.getD k 0) (nextOf fr k) (to.getD k 0) (decide (k + 1 = fr.length)) hbk
  have hka : kindF (fr.getD k 0) (nextOf fr k) (decide (k + 1 = fr.length)) (to.getD k 0) = kindAt fr to k := rfl
  rw [hka] at hKi
  by_cases hkj : k = j
  · subst hkj
    rw [hk0] at hKi
    generalize fr.getD k 0 = a at *
    generalize to.getD k 0 = b at *
    have hlt' : (k : Int) < (to.length : Int) := by omega
    clear hlt
    simp only [vcp_hands_copied_k1, ints]
    refine R_BIN rfl (R_COND (fun _ => ?_) (fun h => absurd hlt' (of_decide_eq_false h)))
    simp [h1, hgf, hgt, hw, hne]
    refine CALL.val [ints fr, int k] _ rfl hOf (.inl rfl) ?_
    refine CALL.val [rightD a (nextOf fr k) (decide (k + 1 = fr.length)), int b] _ rfl hKi (.inl rfl) ?_
    simp [vcp_hands_copied_k0]
  · obtain ⟨l2, h2⟩ := errN_some he (show k + 1 ≤ j by omega)
    have h2' := h2
    simp only [errN, h1] at h2'
    generalize fr.getD k 0 = a at *
    generalize to.getD k 0 = b at *
    have hlt' : (k : Int) < (to.length : Int) := by omega
    clear hlt
    simp only [vcp_hands_copied_k1, ints]
    refine R_BIN rfl (R_COND (fun _ => ?_) (fun h => absurd hlt' (of_decide_eq_false h)))
    simp [h1, hgf, hgt, hw]
    refine ⟨fun h => ?_, fun h => ?_⟩
    · rw [decide_eq_true h] at h2'
      simp only [Option.some.injEq] at h2'
      subst h2'
      exact ⟨k + 1, by omega, by simp [WEAK, lookH, h2], by omega⟩
    · rw [decide_eq_false h] at h2'
      simp only at h2'
      refine CALL.val [ints fr, int k] _ rfl hOf (.inl rfl) ?_
      refine CALL.val [rightD a (nextOf fr k) (decide (k + 1 = fr.length)), int b] _ rfl hKi (.inl rfl) ?_
      cases hq : kindAt fr to k with
      | zero => rw [hq] at h2'; cases h2'
      | succ q =>
        rw [hq] at h2'
        simp only [Option.some.injEq] at h2'
        subst h2'
        have hne : ¬ ((q : Int) + 1 = 0) := by omega
        simp [vcp_hands_copied_k0, hne, hw]
        exact ⟨by omega, k + 1, by omega, by simp [WEAK, lookH, h2, errD], by omega⟩
noncomputable abbrev runAttE (go : GoB) (pre : List ABlk) (v : AV) := evTab Tryz.prog tab (dm0, go) 100 f_hands_attempt pre [v]
abbrev preE (a b : D) : List ABlk := [⟨0, T_l_int, .box [.d a]⟩, ⟨0, T_l_int, .box [.d b]⟩, ⟨0, T_l_api_HandsError, .box [.zc]⟩]
abbrev cloE : AV := .fn f_hands_Errors_1 [] [.ptr 0 0 0 0, .ptr 1 0 0 0, .ptr 2 0 0 0]
def postE (xs : List D) : List PB := [.same, .same, .upd ⟨0, T_l_api_HandsError, .box [.own 3 0]⟩, .upd ⟨0, T_api_HandsError, .lst xs⟩]
def postE2 (a b : D) (xs : List D) : List PB := [.upd ⟨0, T_l_int, .box [.d a]⟩, .upd ⟨0, T_l_int, .box [.d b]⟩, .upd ⟨0, T_l_api_HandsError, .box [.own 3 0]⟩, .upd ⟨0, T_api_HandsError, .lst xs⟩]
def same3 : List PB := [.same, .same, .same]
theorem att_goE (go : GoB) (a b : D) : runAttE go (preE a b) cloE = runAttE (fun _ _ _ => go (.fnc f_hands_Errors_1) (preE a b) [.ptr 0 0 0 0, .ptr 1 0 0 0, .ptr 2 0 0 0]) (preE a b) cloE := by kernel_rfl
theorem att_retE (a b : D) (xs : List D) : runAttE (fun _ _ _ => some (.ret (.tup []), postE xs)) (preE a b) cloE = some (.ret (.d (int 0)), postE2 a b xs) := by kernel_rfl
theorem att_panE (a b : D) (n : Int) : runAttE (fun _ _ _ => some (.pan (.d (.iface T_hands_unlike (.agg [int n]))), same3)) (preE a b) cloE = some (.ret (.d (int 5)), (preE a b).map .upd) := by kernel_rfl
theorem Errors_1_ret (fr to : List Int) (l : List (Int × Int)) (hl : fr.length = to.length) (hl2 : to.length ≤ 6) (hb : ∀ x, x ∈ fr → -999 ≤ x ∧ x ≤ 999) (he : errN fr to to.length = some l) : MeetsH (Tz g) f_hands_Errors_1 (preE (ints fr) (ints to)) [.ptr 0 0 0 0, .ptr 1 0 0 0, .ptr 2 0 0 0] (.ret (.tup [])) (postE (l.map errD)) := by
  refine meetsH_hands_Errors_1 rfl ?_
  unfold vc_hands_Errors_1
  simp [preE, numbered, lookH, ints]
  refine CALL.mk [ints fr, ints to] _ rfl (copied_meets fr to l hl hl2 hb he) (.inl rfl) (by simp) ?_
  simp [lookH]
  refine ⟨[some 40], ?_⟩
  simp [postE, yv, yv.yvL, yh, yb, yver, bodyOf, fz, fz.fzL, fzH, fzB, stay, src, lookH, NodupB, disjB]
theorem Errors_1_pan (fr to : List Int) (j : Nat) (l : List (Int × Int)) (hl : fr.length = to.length) (hl2 : to.length ≤ 6) (hb : ∀ x, x ∈ fr → -999 ≤ x ∧ x ≤ 999) (hj : j < to.length) (he : errN fr to j = some l) (hne : ¬ to.getD j 0 = fr.getD j 0) (hk0 : kindAt fr to j = 0) : MeetsH (Tz g) f_hands_Errors_1 (preE (ints fr) (ints to)) [.ptr 0 0 0 0, .ptr 1 0 0 0, .ptr 2 0 0 0] (.pan (.d (.iface T_hands_unlike (.agg [int j])))) same3 := by
  refine meetsHp_hands_Errors_1 rfl ?_
  unfold vcp_hands_Errors_1
  simp [preE, numbered, lookH, ints]
  refine CALL.pan [ints fr, ints to] _ rfl (copied_pan fr to j l hl hl2 hb hj he hne hk0) ?_
  simp
  refine ⟨[], ?_⟩
  simp [same3, yv, yh, fz, fzH, stay, src, lookH, NodupB, disjB, argD, toD]
theorem attE_meets {a b : D} {out o2 : Out} {po po2 : List PB} (h : MeetsH (Tz g) f_hands_Errors_1 (preE a b) [.ptr 0 0 0 0, .ptr 1 0 0 0, .ptr 2 0 0 0] out po) (h2 : runAttE (fun _ _ _ => some (out, po)) (preE a b) cloE = some (o2, po2)) : MeetsH (Tz g) f_hands_attempt (preE a b) [cloE] o2 po2 := by
  refine evTab_ok (C := Tz g) rfl tab_ok (onB_ok h) 100 ?_
  have h1 := att_goE (onB f_hands_Errors_1 (preE a b) [.ptr 0 0 0 0, .ptr 1 0 0 0, .ptr 2 0 0 0] out po) a b
  rw [onB_at] at h1
  exact h1.trans h2
theorem colB_num {l : List Int} (h : colB l = true) : 1 ≤ l.length ∧ l.length ≤ 6 ∧ ∀ x, x ∈ l → -999 ≤ x ∧ x ≤ 999 := by
  simp only [colB, inB, Bool.and_eq_true, decide_eq_true_eq, Bool.not_eq_true'] at h
  obtain ⟨⟨h1, h2⟩, h3⟩ := h
  refine ⟨by omega, by omega, fun x hx => ?_⟩
  have := (List.any_eq_false.1 h3) x hx
  simp [numB, inB] at this
  exact this
def errL (fr to : List Int) : List (Int × Int) := (errN fr to to.length).getD []
def errC (fr to : List Int) : Int := match errN fr to to.length with | some _ => 0 | none => 5
set_option maxHeartbeats 4000000 in
theorem hands_Errors_meets (fr to : List Int) (h1 : colB fr = true) (h2 : colB to = true) (hl : fr.length = to.length) : Meets (Tz g) f_hands_Errors [ints fr, ints to] ⟨.tup [.own 0 0, .d (int (errC fr to))], [⟨0, T_api_HandsError, .lst ((errL fr to).map errD)⟩]⟩ := by
  obtain ⟨a1, a2, a3⟩ := colB_num h1
  obtain ⟨b1, b2, b3⟩ := colB_num h2
  refine meets_hands_Errors ?_
  unfold vc_hands_Errors
  simp [ints, lookH]
  refine CALL.val [ints fr] _ rfl (hands_isColumn_meets fr (by omega)) (.inl rfl) ?_
  simp [h1, lookH]
  refine CALL.val [ints to] _ rfl (hands_isColumn_meets to (by omega)) (.inl rfl) ?_
  simp [vc_hands_Errors_k0, h2, lookH, hl]
  cases he : errN fr to to.length with
  | some l =>
    have hA := attE_meets (Errors_1_ret (g := g) fr to l hl b2 a3 he) (att_retE (ints fr) (ints to) (l.map errD))
    refine CALL.gen [24, 32, 176] [false] [cloE] (preE (ints fr) (ints to)) _ _ hA rfl (by simp [argsM, AV.ren, AV.ren.renL, rho]) ?_ ?_ ?_ ?_ ?_
    · simp [preB, bodyOf, lookH, Body.ren, AV.ren, AV.ren.renL, ints]
    · simp [ids.idsL, ids, preIds, Body.ids, lowL]
    · simp [lentL, disjB]
    · simp [preE, postE2]
    · simp [AV.ren, AV.ren.renL, postE2, upsP, rho, ABlk.ren, Body.ren, lentL, kills, lookH, errC, errL, he]
  | none =>
    obtain ⟨j, l, c1, c2, c3, c4⟩ := errN_least he
    have hA := attE_meets (Errors_1_pan (g := g) fr to j l hl b2 a3 c1 c2 c3 c4) (att_panE (ints fr) (ints to) j)
    refine CALL.gen [24, 32, 176] [false] [cloE] (preE (ints fr) (ints to)) _ _ hA rfl (by simp [argsM, AV.ren, AV.ren.renL, rho]) ?_ ?_ ?_ ?_ ?_
    · simp [preB, bodyOf, lookH, Body.ren, AV.ren, AV.ren.renL, ints]
    · simp [ids.idsL, ids, preIds, Body.ids, lowL]
    · simp [lentL, disjB]
    · simp [preE]
    · simp [AV.ren, AV.ren.renL, preE, upsP, rho, ABlk.ren, Body.ren, lentL, kills, lookH, errC, errL, he]
end Go.Vc

namespace Go.Vc
open Go Go.Proofs
variable {g : GG}
attribute [local simp] and_assoc
def rightsL (p : Pg) : List Int := p.lines.map Ln.right
theorem colB_of {l : List Int} (h1 : 1 ≤ l.length) (h2 : l.length ≤ 6) (h3 : ∀ x, x ∈ l → -999 ≤ x ∧ x ≤ 999) : colB l = true := by
  have : (l.any fun n => !numB n) = false := by
    rw [List.any_eq_false]
    intro x hx
    have := h3 x hx
    simp [numB, inB, this]
  simp only [colB, this, inB, Bool.not_false, Bool.and_true, Bool.and_eq_true, decide_eq_true_eq]
  omega
theorem rights_col {p : Pg} (hok : p.ok = true) : colB (rightsL p) = true := by
  obtain ⟨a1, a2, a3, a4, a5, a6, a7⟩ := Pg.ok_len hok
  refine colB_of (by simp [rightsL]; omega) (by simp [rightsL]; omega) (fun x hx => ?_)
  simp only [rightsL, List.mem_map] at hx
  obtain ⟨l, hl, rfl⟩ := hx
  have := a6 l hl
  simp [lnB, numB, inB] at this
  omega
theorem now_col {p : Pg} (hok : p.ok = true) : colB (nowL p) = true := by
  obtain ⟨a1, a2, a3, a4, a5, a6, a7⟩ := Pg.ok_len hok
  have hn := nowL_len hok
  exact colB_of (by omega) (by omega) (stN_ok hok _ (Nat.le_refl _)).1.num
theorem rights_now {p : Pg} (hok : p.ok = true) : (rightsL p).length = (nowL p).length := by rw [nowL_len hok]; simp [rightsL]
def errLP (p : Pg) : List (Int × Int) := errL (rightsL p) (nowL p)
def errCP (p : Pg) : Int := errC (rightsL p) (nowL p)
set_option maxHeartbeats 4000000 in
theorem proof_Errors_data (p : Pg) (hok : p.ok = true) : Meets (Tz g) f_proof_Errors [p.d] ⟨.tup [.d (.list ((errLP p).map errD)), .d (int (errCP p))], []⟩ := by
  obtain ⟨a1, a2, a3, a4, a5, a6, a7⟩ := Pg.ok_len hok
  have hE := hands_Errors_meets (g := g) (rightsL p) (nowL p) (rights_col hok) (now_col hok) (rights_now hok)
  have hP := pageOf_meets (g := g) p hok
  refine meets_proof_Errors ?_
  unfold vc_proof_Errors
  simp [Pg.d, lns, ents]
  refine CALL.val [p.d] _ rfl (proof_isPage_meets p (by omega) (by omega)) (.inl rfl) ?_
  simp [vc_proof_Errors_k2, hok, lookH]
  refine LOOP.mk Nat (fun k => [.ptr 24 0 0 0, .own 112 k, .d (lns p.lines), .d (int p.lines.length), .d (int k)]) (fun k => [(112, some ⟨k, T_int, .lst (((rightsL p).take k).map int)⟩), (24, some ⟨0, T_api_ProofPage, .box [.d (int p.people), .d (.list (p.lines.map Ln.d)), .d (.list (p.log.map Nt.d))]⟩)])
    (fun k => k ≤ p.lines.length) (fun k => p.lines.length - k) [(1, T_int)] (by simp) 0 (by omega) (by simp [WEAK, lookH, lns]) (fun _ _ => rfl) ?_
  intro k hk
  have hw := wrap_id (n := (k : Int) + 1) (by omega) (by omega)
  simp [vc_proof_Errors_k1, lns]
  constructor
  · intro hlt
    have hg : p.lines[k]? = some p.lines[k] := List.getElem?_eq_getElem hlt
    generalize p.lines[k] = l at hg
    have hr : ((rightsL p).map int)[k]? = some (int l.right) := by simp [rightsL, hg]
    have ht := take_next hr
    simp [hg, Ln.d, lookH, hw]
    refine ⟨by simp [rightsL]; omega, k + 1, by omega, ?_, by omega⟩
    simp [WEAK, lookH, ht]
  · intro hge
    have : k = p.lines.length := by omega
    subst this
    have ht : ((rightsL p).map int).take p.lines.length = (rightsL p).map int := take_all (by simp [rightsL])
    rw [ht]
    refine CALL.gen [] [false] [.d p.d] [] _ _ hP rfl (by simp [argsM, AV.ren, Pg.d, lns, ents]) (by simp [preB]) (by simp [lowL, ids.idsL, ids, preIds]) (by simp [lentL, disjB]) (by simp [stBlks]) ?_
    simp [AV.ren, AV.ren.renL, stBlks, stBox, upsP, rho, ABlk.ren, Body.ren, lentL, kills, lookH, vc_proof_Errors_k0]
    refine CALL.mk [ints (rightsL p), ints (nowL p)] _ (by simp [ints, nowL, lookH]) hE (.inr ⟨by trivial, ?_⟩) (by simp) ?_
    · refine ⟨fun d hd => ?_, trivial⟩
      obtain ⟨x, _, rfl⟩ := List.mem_map.1 hd
      rfl
    · simp [lookH, errLP, errCP]
end Go.Vc
