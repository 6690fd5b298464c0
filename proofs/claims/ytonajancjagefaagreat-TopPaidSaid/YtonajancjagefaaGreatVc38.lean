/- A part of the proof: general laws of a reading of the model by abstract data, or contracts of the functions that the law calls. -/
import Derived.Test.YtonajancjagefaaGreatVc37
import Derived.Test.YtonajancjagefaaGreatVc25
set_option maxRecDepth 100000
namespace Go.Vc
open Go Go.Proofs
variable {g : GG}
attribute [local simp] and_assoc
theorem PsOK.readOne {p : Pg} {s : Ps} (h : PsOK p s) (i : Nat) (a b : Int) (line : Nat) : PsOK p (readOne p i a b line s) := ⟨h.now, h.setters, h.changed, h.num, h.len⟩
theorem PsOK.addS {p : Pg} {s : Ps} (h : PsOK p s) (k : Int × Int) : PsOK p (addS k s) := ⟨h.now, h.setters, h.changed, h.num, h.len⟩
theorem readOne_missed (p : Pg) (i : Nat) (a b : Int) (line : Nat) (s : Ps) : (readOne p i a b line s).missed.length ≤ s.missed.length + 1 := by
  unfold readOne
  simp only
  cases difB p s line <;> simp
set_option maxHeartbeats 4000000 in
theorem reads_meets (v : Nat) (p : Pg) (s : Ps) (i c n : Nat) (a b d : Int) (hs : PsOK p s) (hd : d = (c : Int) + n - 1) (hl : c + n ≤ p.lines.length) (hms : s.missed.length ≤ 900) : MeetsH (Tz g) f_p_proof_page_reads (stBlks v id p s) [.ptr 0 0 0 0, .d (int i), .d (ints [a, b, c, d])] (.ret (.tup [])) ((stBlks v id p (readN p i a b n c s)).map .upd) := by
  have hlen := hs.len
  refine meetsH_p_proof_page_reads rfl ?_
  unfold vc_p_proof_page_reads
  simp [ints]
  refine LOOP.mk (Nat × Ps) (fun st => [.ptr 0 0 0 0, .d (int i), .d (.list [int a, int b, int c, int d]), .d (int ((c + st.1 : Nat) : Int))]) (fun st => numbered 0 (stBlks v id p st.2)) (fun st => st.1 ≤ n ∧ PsOK p st.2 ∧ st.2.missed.length ≤ s.missed.length + st.1 ∧ readN p i a b (n - st.1) (c + st.1) st.2 = readN p i a b n c s) (fun st => n - st.1) [] (by simp) (0, s) ⟨by omega, hs, by simp, rfl⟩ (by simp [WEAK, stBlks, stBox, numbered, lookH]) (fun _ _ => rfl) ?_
  rintro ⟨k, s1⟩ ⟨hk, hs1, hm1, he⟩
  simp only at hk hs1 hm1 he
  simp [vc_p_proof_page_reads_k1, stBlks, stBox, numbered, lookH, -MUPD]
  constructor
  · intro hlt
    refine mupd_step (e := 0) (k := (((c + k : Nat) : Int), a)) (ks := s1.keys) (ck := s1.ck) (by simp) ?_
    obtain ⟨ks1, ck1, h1⟩ : ∃ ks1 ck1, addK (((c + k : Nat) : Int), a) s1.keys s1.ck = (ks1, ck1) := ⟨_, _, rfl⟩
    rw [h1]
    refine ⟨rfl, ?_⟩
    simp [lookH, -MUPD]
    refine mupd_step (e := 0) (k := (((c + k : Nat) : Int), b)) (ks := ks1) (ck := ck1) (by simp [lookH]) ?_
    obtain ⟨ks2, ck2, h2⟩ : ∃ ks2 ck2, addK (((c + k : Nat) : Int), b) ks1 ck1 = (ks2, ck2) := ⟨_, _, rfl⟩
    rw [h2]
    refine ⟨rfl, ?_⟩
    have hs2 : PsOK p ⟨s1.now, s1.setters, ks2, ck2, s1.changed, s1.missed⟩ := ⟨hs1.now, hs1.setters, hs1.changed, hs1.num, hs1.len⟩
    have hdf := differs_meets (g := g) v id p _ (c + k) hs2 (by omega)
    have hro : readOne p i a b (c + k) s1 = ⟨s1.now, s1.setters, ks2, ck2, s1.changed, match difB p s1 (c + k) with | true => s1.missed ++ [((i : Int), ((c + k : Nat) : Int))] | false => s1.missed⟩ := by
      simp only [readOne, addS, h1, h2]
      cases difB p s1 (c + k) <;> rfl
    have hde : difB p ⟨s1.now, s1.setters, ks2, ck2, s1.changed, s1.missed⟩ (c + k) = difB p s1 (c + k) := rfl
    rw [hde] at hdf
    have hnk : n - k = (n - (k + 1)) + 1 := by omega
    rw [hnk] at he
    simp only [readN] at he
    have hm3 := readOne_missed p i a b (c + k) s1
    have hck : c + k + 1 = c + (k + 1) := by omega
    rw [hck] at he
    refine CALL.gen [0, 1, 2, 3, 4, 5] [false, false] [.ptr 0 0 0 0, .d (int ((c + k : Nat) : Int))] (stBlks v id p ⟨s1.now, s1.setters, ks2, ck2, s1.changed, s1.missed⟩) _ _ hdf rfl (by simp [argsM, AV.ren, rho]) ?_ ?_ ?_ ?_ ?_
    · simp [preB, stBlks, stBox, rho, bodyOf, lookH, Body.ren, AV.ren, AV.ren.renL]
    · simp [ids.idsL, ids, preIds, stBlks, stBox, Body.ids, lowL]
    · simp [lentL, disjB]
    · simp [stBlks, sames]
    · simp [sames, upsP, AV.ren, lentL, kills]
      cases hdb : difB p s1 (c + k) with
      | true =>
        rw [hdb] at hro
        simp [vc_p_proof_page_reads_k0]
        rw [wrap_id (n := (c : Int) + (k : Int) + 1) (by omega) (by omega)]
        refine ⟨by omega, k + 1, by omega, readOne p i a b (c + k) s1, hs1.readOne _ _ _ _, by omega, he, ?_, by omega⟩
        rw [hro]
        simp [WEAK, missD, lookH]
        omega
      | false =>
        rw [hdb] at hro
        simp [vc_p_proof_page_reads_k0]
        rw [wrap_id (n := (c : Int) + (k : Int) + 1) (by omega) (by omega)]
        refine ⟨k + 1, by omega, readOne p i a b (c + k) s1, hs1.readOne _ _ _ _, by omega, he, ?_, by omega⟩
        rw [hro]
        simp [WEAK, lookH]
        omega
  · intro hge
    have : k = n := by omega
    subst this
    simp only [Nat.sub_self, readN] at he
    rw [← he]
    refine ⟨[], ?_⟩
    simp [yv, yv.yvL, yh, yb, yver, bodyOf, fz, fz.fzL, fzH, fzB, stay, src, lookH, NodupB, disjB, argD, toD]
end Go.Vc

namespace Go.Vc
open Go Go.Proofs
variable {g : GG}
attribute [local simp] and_assoc
end Go.Vc

namespace Go.Vc
open Go Go.Proofs
variable {g : GG}
attribute [local simp] and_assoc
theorem entB_cases {p : Pg} {e : Nt} (h : entB p e = true) : (∃ a : Nat, e = ⟨3, [(a : Int)]⟩ ∧ a < p.lines.length) ∨ (∃ (a : Int) (b : Nat) (c : Int), e = ⟨2, [a, (b : Int), c]⟩ ∧ persB p a = true ∧ b < p.lines.length ∧ numB c = true) ∨
    (∃ (a b : Int) (c n : Nat), e = ⟨1, [a, b, (c : Int), (c : Int) + n - 1]⟩ ∧ persB p a = true ∧ persB p b = true ∧ a < b ∧ c + n ≤ p.lines.length ∧ 1 ≤ n) := by
  obtain ⟨k, ns⟩ := e
  rcases ns with _ | ⟨a, _ | ⟨b, _ | ⟨c, _ | ⟨d, _ | ⟨f, r⟩⟩⟩⟩⟩
  · simp [entB] at h
  · simp [entB] at h
    obtain ⟨rfl, h2⟩ := h
    obtain ⟨m, rfl, hm⟩ := inB_nat h2
    exact .inl ⟨m, rfl, by omega⟩
  · simp [entB] at h
  · simp [entB] at h
    obtain ⟨rfl, h2, h3, h4⟩ := h
    obtain ⟨m, rfl, hm⟩ := inB_nat h3
    exact .inr (.inl ⟨a, m, c, rfl, h2, by omega, h4⟩)
  · simp [entB] at h
    obtain ⟨rfl, h2, h3, h4, h5, h6, h7⟩ := h
    obtain ⟨m, rfl, hm⟩ := inB_nat h5
    obtain ⟨q, rfl, hq⟩ := inB_nat h6
    refine .inr (.inr ⟨a, b, m, q - m + 1, ?_, h2, h3, h4, by omega, by omega⟩)
    have : (m : Int) + ((q - m + 1 : Nat) : Int) - 1 = q := by omega
    rw [this]
  · simp [entB] at h
theorem PsOK.readN {p : Pg} (i : Nat) (a b : Int) : ∀ (n c : Nat) (s : Ps), PsOK p s → PsOK p (readN p i a b n c s)
  | 0, _, _, h => h
  | n + 1, c, _s, h => PsOK.readN i a b n (c + 1) _ (h.readOne i a b c)
theorem readN_missed (p : Pg) (i : Nat) (a b : Int) : ∀ (n c : Nat) (s : Ps), (readN p i a b n c s).missed.length ≤ s.missed.length + n
  | 0, _, _ => by simp [readN]
  | n + 1, c, s => by
    have h1 := readN_missed p i a b n (c + 1) (readOne p i a b c s)
    have h2 := readOne_missed p i a b c s
    simp only [readN]
    omega
theorem PsOK.changeS {p : Pg} {s : Ps} (h : PsOK p s) (i line : Nat) (n : Int) (hn : -999 ≤ n ∧ n ≤ 999) : PsOK p (changeS p i line n s) := by
  refine ⟨by simp [Go.Vc.changeS, h.now], h.setters, by simp [Go.Vc.changeS, h.changed], fun x hx => ?_, h.len⟩
  rcases List.mem_or_eq_of_mem_set hx with hx | rfl
  · exact h.num x hx
  · exact hn
theorem PsOK.stepS {p : Pg} {s : Ps} (h : PsOK p s) (i : Nat) (e : Nt) (he : entB p e = true) : PsOK p (stepS p i e s) ∧ (stepS p i e s).missed.length ≤ s.missed.length + 6 := by
  rcases entB_cases he with ⟨a, rfl, ha⟩ | ⟨a, b, c, rfl, ha, hb, hc⟩ | ⟨a, b, c, n, rfl, ha, hb, hab, hcn, hn⟩
  · refine ⟨?_, by simp [Go.Vc.stepS, Go.Vc.changeS]⟩
    simp only [Go.Vc.stepS]
    refine h.changeS _ _ _ (tdiv10 _ ?_)
    obtain ⟨x, hx⟩ : ∃ x, s.now[a]? = some x := ⟨_, List.getElem?_eq_getElem (by have := h.now; omega)⟩
    have := h.num x (List.mem_of_getElem? hx)
    simpa [hx] using this
  · simp [numB, inB] at hc
    have h1 := h.changeS i b c (by omega)
    simp only [Go.Vc.stepS, Int.toNat_natCast]
    exact ⟨⟨h1.now, by simp [h.setters], h1.changed, h1.num, h1.len⟩, by simp [Go.Vc.changeS]⟩
  · have e1 : ((c : Int) + n - 1 - c + 1).toNat = n := by omega
    simp only [Go.Vc.stepS, Int.toNat_natCast, e1]
    have := readN_missed p i a b n c s
    have := h.len
    exact ⟨h.readN i a b n c, by omega⟩
theorem st0_ok {p : Pg} (h : p.ok = true) : PsOK p (st0 p) := by
  obtain ⟨a1, a2, a3, a4, a5, a6, a7⟩ := Pg.ok_len h
  refine ⟨by simp [st0], by simp [st0], by simp [st0], fun n hn => ?_, a4⟩
  simp only [st0, List.mem_map] at hn
  obtain ⟨l, hl, rfl⟩ := hn
  have := a6 l hl
  simp [lnB, numB, inB] at this
  omega
theorem stN_ok {p : Pg} (h : p.ok = true) : ∀ i, i ≤ p.log.length → PsOK p (stN p i) ∧ (stN p i).missed.length ≤ 6 * i
  | 0, _ => ⟨st0_ok h, by simp [stN, st0]⟩
  | i + 1, hi => by
    obtain ⟨h1, h2⟩ := stN_ok h i (by omega)
    have hg : p.log[i]? = some p.log[i] := List.getElem?_eq_getElem (by omega)
    have he := (Pg.ok_len h).2.2.2.2.2.2 _ (List.getElem_mem (show i < p.log.length by omega))
    simp only [stN, hg]
    obtain ⟨h3, h4⟩ := h1.stepS i _ he
    exact ⟨h3, by omega⟩
set_option maxHeartbeats 4000000 in
theorem pageOf_meets (p : Pg) (hok : p.ok = true) : MeetsH (Tz g) f_proof_pageOf [] [.d p.d] (.ret (.ptr 0 0 0 0)) ((stBlks 0 (fun _ => 0) p (stN p p.log.length)).map .upd) := by
  obtain ⟨a1, a2, a3, a4, a5, a6, a7⟩ := Pg.ok_len hok
  obtain ⟨m, hm⟩ : ∃ m : Nat, p.people = m := ⟨p.people.toNat, by omega⟩
  refine meetsH_proof_pageOf rfl ?_
  unfold vc_proof_pageOf
  simp [Pg.d, lns, ents]
  refine LOOP.mkB Nat (fun k => [.ptr 24 0 0 0, .ptr 64 0 0 0, .d (lns p.lines), .d (int p.lines.length), .d (int k)])
    (fun k => [(64, some ⟨0, T_proof_page, .box [.d (int p.people), .d (lns p.lines), .d (ents p.log), .own 112 k, .own 113 k, .mapv 48, .own 114 k, .zc]⟩), (112, some ⟨k, T_int, .lst (((p.lines.map Ln.set).take k).map int)⟩), (113, some ⟨k, T_int, .lst (((p.lines.map Ln.setter).take k).map int)⟩), (114, some ⟨k, T_int, .lst (((p.lines.map (fun _ => (-1 : Int))).take k).map int)⟩), (48, some ⟨0, 0, .mp [] 0⟩), (24, some ⟨0, T_api_ProofPage, .box [.d (int p.people), .d (lns p.lines), .d (ents p.log)]⟩)])
    (fun k => k ≤ p.lines.length) (fun k => p.lines.length - k) [] [(64, 3, T_int), (64, 4, T_int), (64, 6, T_int)] (by simp) 0 (by omega) (by simp [WEAK, lns, ents, lookH]) (fun _ _ => rfl) ?_
  intro k hk
  simp [lns, ents]
  constructor
  · intro hlt
    have hg : p.lines[k]? = some p.lines[k] := List.getElem?_eq_getElem (by omega)
    generalize p.lines[k] = l at hg
    have hgD : (p.lines.map Ln.d)[k]? = some l.d := by rw [List.getElem?_map, hg]; rfl
    unfold vc_proof_pageOf_k2
    refine R_IADDRd hgD rfl ?_
    refine R_LOADct (Nat.le_refl 3) ?_
    refine R_ALLOC ?_
    refine R_STOREall rfl rfl rfl ?_
    refine R_FADDR rfl ?_
    refine R_FADDR rfl ?_
    refine R_LOADb rfl rfl ?_
    refine R_FADDR rfl ?_
    refine R_LOADb rfl rfl ?_
    refine R_MKS1 rfl ?_
    refine R_APP rfl (by simp) rfl (by simp; omega) ?_
    refine R_FADDR rfl ?_
    refine R_FADDR rfl ?_
    refine R_LOADb rfl rfl ?_
    refine R_FADDR rfl ?_
    refine R_LOADb rfl rfl ?_
    refine R_MKS1 rfl ?_
    refine R_APP rfl (by simp) rfl (by simp; omega) ?_
    refine R_FADDR rfl ?_
    refine R_FADDR rfl ?_
    refine R_LOADb rfl rfl ?_
    refine R_MKS1 rfl ?_
    refine R_APP rfl (by simp) rfl (by simp; omega) ?_
    refine R_FADDR rfl ?_
    refine R_FADDR rfl ?_
    refine R_STOREb rfl rfl (by simp) ?_
    refine R_FADDR rfl ?_
    refine R_FADDR rfl ?_
    refine R_STOREb rfl rfl (by simp) ?_
    refine R_FADDR rfl ?_
    refine R_FADDR rfl ?_
    refine R_STOREb rfl rfl (by simp) ?_
    refine ⟨rfl, ?_⟩
    refine R_BIN rfl ?_
    rw [wrap_id (n := (k : Int) + 1) (by omega) (by omega)]
    refine ⟨k + 1, by omega, ?_, by omega⟩
    have t1 : (p.lines.map (int ∘ Ln.set)).take (k + 1) = (p.lines.map (int ∘ Ln.set)).take k ++ [int l.set] := take_next (by simp [hg])
    have t2 : (p.lines.map (int ∘ Ln.setter)).take (k + 1) = (p.lines.map (int ∘ Ln.setter)).take k ++ [int l.setter] := take_next (by simp [hg])
    have t3 : (p.lines.map (int ∘ fun (_ : Ln) => (-1 : Int))).take (k + 1) = (p.lines.map (int ∘ fun (_ : Ln) => (-1 : Int))).take k ++ [int (-1)] := take_next (by simp [hg])
    rw [t1, t2, t3]
    simp [WEAK, lookH]
  · intro hge
    have : k = p.lines.length := by omega
    subst this
    have u1 : (p.lines.map (int ∘ Ln.set)).take p.lines.length = (st0 p).now.map int := by rw [take_all (by simp)]; simp [st0]
    have u2 : (p.lines.map (int ∘ Ln.setter)).take p.lines.length = (st0 p).setters.map int := by rw [take_all (by simp)]; simp [st0]
    have u3 : (p.lines.map (int ∘ fun (_ : Ln) => (-1 : Int))).take p.lines.length = (st0 p).changed.map int := by rw [take_all (by simp)]; simp [st0]
    rw [u1, u2, u3]
    simp [vc_proof_pageOf_k3, lookH]
    refine LOOP.mkB Nat (fun i => [.ptr 64 0 0 0, .ptr 136 0 0 0, .d (.list (p.log.map Nt.d)), .d (int p.log.length), .d (int i)])
      (fun i => [(64, some ⟨0, T_proof_page, .box [.d (int p.people), .d (.list (p.lines.map Ln.d)), .d (.list (p.log.map Nt.d)), .own 112 p.lines.length, .own 113 p.lines.length, .mapv 48, .own 114 p.lines.length, .own 184 (stN p i).missed.length]⟩), (112, some ⟨p.lines.length, T_int, .lst ((stN p i).now.map int)⟩), (113, some ⟨p.lines.length, T_int, .lst ((stN p i).setters.map int)⟩), (48, some ⟨0, 0, .mp (keysM (stN p i).keys) (stN p i).ck⟩), (114, some ⟨p.lines.length, T_int, .lst ((stN p i).changed.map int)⟩), (184, some ⟨(stN p i).missed.length, T_api_ProofMiss, .lst ((stN p i).missed.map missD)⟩), (136, some ⟨0, T_3_func_p_proof_page_int_l_int, .box [.d (.fn f_p_proof_page_reads [] []), .d (.fn f_p_proof_page_mends [] []), .d (.fn f_p_proof_page_falls [] [])]⟩)])
      (fun i => i ≤ p.log.length) (fun i => p.log.length - i) [] [(64, 7, T_api_ProofMiss)] (by simp) 0 (by omega) (by simp [WEAK, lookH, stN, st0, keysM]) (fun _ _ => rfl) ?_
    intro i hi
    obtain ⟨hps, hmi⟩ := stN_ok hok i hi
    simp only [vc_proof_pageOf_k1]
    refine R_BIN rfl (R_COND (fun hlt => ?_) (fun hge => ?_))
    · have hlt : i < p.log.length := by simpa using hlt
      have hg : p.log[i]? = some p.log[i] := List.getElem?_eq_getElem hlt
      have he := a7 _ (List.getElem_mem hlt)
      generalize p.log[i] = e at hg he
      have hst : stN p (i + 1) = stepS p i e (stN p i) := by simp [stN, hg]
      have hgD : (p.log.map Nt.d)[i]? = some e.d := by rw [List.getElem?_map, hg]; rfl
      refine R_IADDRd hgD rfl ?_
      refine R_LOADct (Nat.le_refl 2) ?_
      refine R_ALLOC ?_
      refine R_STOREall rfl rfl rfl ?_
      refine R_FADDR rfl ?_
      refine R_LOADb rfl rfl ?_
      generalize stN p i = s at hps hmi hst ⊢
      rcases entB_cases he with ⟨a, rfl, ha⟩ | ⟨a, b, c, rfl, ha, hb, hc⟩ | ⟨a, b, c, n, rfl, ha, hb, hab, hcn, hn⟩
      · refine R_BIN rfl ?_
        rw [wrap_id (by simp) (by simp)]
        refine R_AADDR (by simp) (by simp) rfl ?_
        refine R_LOADb rfl rfl ?_
        refine R_FADDR rfl ?_
        refine R_LOADb rfl rfl ?_
        refine R_CALLV ?_
        have hC := falls_meets (g := g) p.lines.length id p s i a m hps ha hm (by omega)
        have hok2 := (hps.stepS i _ he).1
        have hst2 := hst
        generalize stepS p i ⟨3, [(a : Int)]⟩ s = s2 at hC hok2 hst2
        refine CALL.gen [64, 112, 113, 48, 114, 184] [false, false, false] [.ptr 0 0 0 0, .d (int i), .d (ints [(a : Int)])] (stBlks p.lines.length id p s) _ _ hC rfl (by simp [argsM, AV.ren, rho, Nt.d, ints]) ?_ ?_ ?_ ?_ ?_
        · simp [preB, stBlks, stBox, rho, bodyOf, lookH, Body.ren, AV.ren, AV.ren.renL, lns, ents]
        · simp [ids.idsL, ids, preIds, stBlks, stBox, Body.ids, lowL]
        · simp [lentL, disjB]
        · simp [stBlks]
        · simp [vc_proof_pageOf_k0, AV.ren, stBlks, stBox, upsP, rho, ABlk.ren, Body.ren, AV.ren.renL, lentL, kills]
          refine ⟨rfl, ?_⟩
          rw [wrap_id (n := (i : Int) + 1) (by omega) (by omega)]
          refine ⟨i + 1, by omega, ?_, by omega⟩
          rw [hst2]
          simp [WEAK, lookH, lns, ents]
      · refine R_BIN rfl ?_
        rw [wrap_id (by simp) (by simp)]
        refine R_AADDR (by simp) (by simp) rfl ?_
        refine R_LOADb rfl rfl ?_
        refine R_FADDR rfl ?_
        refine R_LOADb rfl rfl ?_
        refine R_CALLV ?_
        have hC := mends_meets (g := g) p.lines.length id p s i b m a c hps hb hm (by omega)
        have hok2 := (hps.stepS i _ he).1
        have hst2 := hst
        generalize stepS p i ⟨2, [a, (b : Int), c]⟩ s = s2 at hC hok2 hst2
        refine CALL.gen [64, 112, 113, 48, 114, 184] [false, false, false] [.ptr 0 0 0 0, .d (int i), .d (ints [a, (b : Int), c])] (stBlks p.lines.length id p s) _ _ hC rfl (by simp [argsM, AV.ren, rho, Nt.d, ints]) ?_ ?_ ?_ ?_ ?_
        · simp [preB, stBlks, stBox, rho, bodyOf, lookH, Body.ren, AV.ren, AV.ren.renL, lns, ents]
        · simp [ids.idsL, ids, preIds, stBlks, stBox, Body.ids, lowL]
        · simp [lentL, disjB]
        · simp [stBlks]
        · simp [vc_proof_pageOf_k0, AV.ren, stBlks, stBox, upsP, rho, ABlk.ren, Body.ren, AV.ren.renL, lentL, kills]
          refine ⟨rfl, ?_⟩
          rw [wrap_id (n := (i : Int) + 1) (by omega) (by omega)]
          refine ⟨i + 1, by omega, ?_, by omega⟩
          rw [hst2]
          simp [WEAK, lookH, lns, ents]
      · have e1 : stepS p i ⟨1, [a, b, (c : Int), (c : Int) + n - 1]⟩ s = readN p i a b n c s := by
          have e2 : ((c : Int) + n - 1 - c + 1).toNat = n := by omega
          simp only [stepS, Int.toNat_natCast, e2]
        refine R_BIN rfl ?_
        rw [wrap_id (by simp) (by simp)]
        refine R_AADDR (by simp) (by simp) rfl ?_
        refine R_LOADb rfl rfl ?_
        refine R_FADDR rfl ?_
        refine R_LOADb rfl rfl ?_
        refine R_CALLV ?_
        have hC := reads_meets (g := g) p.lines.length p s i c n a b ((c : Int) + n - 1) hps rfl hcn (by omega)
        rw [← e1] at hC
        have hok2 := (hps.stepS i _ he).1
        have hst2 := hst
        generalize stepS p i ⟨1, [a, b, (c : Int), (c : Int) + n - 1]⟩ s = s2 at hC hok2 hst2
        refine CALL.gen [64, 112, 113, 48, 114, 184] [false, false, false] [.ptr 0 0 0 0, .d (int i), .d (ints [a, b, (c : Int), (c : Int) + n - 1])] (stBlks p.lines.length id p s) _ _ hC rfl (by simp [argsM, AV.ren, rho, Nt.d, ints]) ?_ ?_ ?_ ?_ ?_
        · simp [preB, stBlks, stBox, rho, bodyOf, lookH, Body.ren, AV.ren, AV.ren.renL, lns, ents]
        · simp [ids.idsL, ids, preIds, stBlks, stBox, Body.ids, lowL]
        · simp [lentL, disjB]
        · simp [stBlks]
        · simp [vc_proof_pageOf_k0, AV.ren, stBlks, stBox, upsP, rho, ABlk.ren, Body.ren, AV.ren.renL, lentL, kills]
          refine ⟨rfl, ?_⟩
          rw [wrap_id (n := (i : Int) + 1) (by omega) (by omega)]
          refine ⟨i + 1, by omega, ?_, by omega⟩
          rw [hst2]
          simp [WEAK, lookH, lns, ents]
    · have : i = p.log.length := by
        have : ¬ i < p.log.length := by simpa using hge
        omega
      subst this
      refine ⟨[some 64, some 112, some 113, some 48, some 114, some 184], ?_⟩
      simp [stBlks, stBox, yv, yv.yvL, yh, yb, yver, bodyOf, fz, fz.fzL, fzH, fzB, stay, src, lookH, NodupB, disjB, argD, toD, lns, ents]
end Go.Vc
