/- A part of the proof: general laws of a reading of the model by abstract data, or contracts of the functions that the law calls. -/
import Derived.Test.YtjdgidaoknlnlaaGreatDoorVc52
import Derived.Test.YtjdgidaoknlnlaaGreatDoorVc52
import Derived.Test.YtjdgidaoknlnlaaGreatDoorVc52
import Derived.Test.YtjdgidaoknlnlaaGreatDoorVc52
import Derived.Test.YtjdgidaoknlnlaaGreatDoorVc43
import Derived.Test.YtjdgidaoknlnlaaGreatDoorVc24
import Derived.Test.YtjdgidaoknlnlaaGreatDoorVc50
set_option maxRecDepth 100000
namespace Go.Vc
open Go Go.Proofs
variable {g : GG}
attribute [local simp] and_assoc
theorem CALLG.gen {P : Ctx} {cal : Cal} {args : List AV} {new : Nat} {h : Heap} {K KP : List Nat → AV → Heap → Prop} (ks : List Nat) (cal' : Cal) (cs : List Bool) (args' : List AV) (pre : List ABlk) (v : AV) (post : List PB) (h1 : MeetsC P pre args' (.ret v) post cal')
    (h2 : NodupB ks = true) (hc : cal = cal'.ren (rho ks new)) (h3 : argsM (bodyOf h) (rho ks new) cs args args') (h4 : preB (bodyOf h) (rho ks new) ks pre) (h5 : lowL ks.length (cal'.ids ++ ids.idsL args' ++ preIds pre) = true) (h6 : disjB (lentL cs args) ks = true) (h7 : pre.length ≤ post.length ∧ post.length ≤ pre.length + 8)
    (h8 : K (ids.idsL args ++ cal.ids ++ ks) (v.ren (rho ks new)) (upsP (rho ks new) post 0 ++ kills (lentL cs args) ++ h)) : CALLG P cal args new h K KP :=
  ⟨ids.idsL args ++ cal.ids ++ ks, .ok (v.ren (rho ks new)) (upsP (rho ks new) post 0 ++ kills (lentL cs args)), ⟨ks, cal', cs, args', pre, .ret v, post, true, h1, h2, hc, h3, h4, h5, h6, h7.1, h7.2, rfl, fun h => (by cases h), rfl⟩, h8⟩
def prow (a k : Nat) : List (Int × Int) := (List.range k).map fun (b : Nat) => ((a : Int), ((a + 1 + b : Nat) : Int))
def pall (m a : Nat) : List (Int × Int) := (List.range a).flatMap fun (i : Nat) => prow i (m - (i + 1))
def pairsL (m : Nat) : List (Int × Int) := pall m m
theorem prow_succ (a k : Nat) : prow a (k + 1) = prow a k ++ [((a : Int), ((a + 1 + k : Nat) : Int))] := by
  unfold prow; rw [List.range_succ, List.map_append]; rfl
theorem prow_len (a k : Nat) : (prow a k).length = k := by simp [prow]
theorem pall_succ (m a : Nat) : pall m (a + 1) = pall m a ++ prow a (m - (a + 1)) := by
  unfold pall; rw [List.range_succ, List.flatMap_append]; simp
theorem pall_len (m : Nat) : ∀ a, (pall m a).length ≤ a * m
  | 0 => by simp [pall]
  | a + 1 => by
    have := pall_len m a
    rw [pall_succ, List.length_append, prow_len, Nat.succ_mul]
    omega
def pageC (p : Pg) : D := .cp [int p.people, lns p.lines, ents p.log]
theorem proof_pairs_meets (p : Pg) : Meets (Tz g) f_proof_pairs [p.d] ⟨.d (.fn f_proof_pairs_1 [] [pageC p]), []⟩ := by
  refine meets_proof_pairs ?_
  unfold vc_proof_pairs
  simp [Pg.d, pageC, lns, ents]
noncomputable def loopC (i : Nat) : LoopA := ⟨.ready, none, 13, [(2, .ptr i 0 0 0)], [7], rfA_slices_AppendSeq_l_api_ProofPair_api_ProofPair, rfB_slices_AppendSeq_l_api_ProofPair_api_ProofPair⟩
noncomputable def SC (xs : List D) : List ABlk := [⟨0, 0, .loop (loopC 1)⟩, ⟨0, T_l_api_ProofPair, .box [.own 2 xs.length]⟩, ⟨xs.length, T_api_ProofPair, .lst xs⟩]
theorem roundC_meets (xs : List D) (x : Int × Int) (hx : xs.length < 1000000) : MeetsY (Tz g) 0 (SC xs) [.d (missD x)] (.ret (.d (.bool true))) ((SC (xs ++ [missD x])).map .upd) := by
  refine meetsY_slices_AppendSeq_l_api_ProofPair_api_ProofPair (k2 := .ptr 1 0 0 0) (e := 0) (by simp [SC, loopC]) rfl ?_
  unfold vcr_slices_AppendSeq_l_api_ProofPair_api_ProofPair
  simp [SC, missD, RDA, loopC, RDB, stOf]
  refine ⟨by omega, ?_⟩
  exact ⟨[], by simp [ENDR, yv, yv.yvL, yh, yb, yver, yvT, bodyOf, fz, fz.fzL, fzH, fzB, fzT, stay, src, lookH, NodupB, disjB, argD, toD]⟩
def pmD (m a : Nat) : List D := (pall m a).map missD
def pmk (m a k : Nat) : List D := (pall m a ++ prow a k).map missD
theorem pmk_zero (m a : Nat) : pmk m a 0 = pmD m a := by simp [pmk, pmD, prow]
theorem pmk_succ (m a k : Nat) : pmk m a k ++ [missD ((a : Int), (a : Int) + 1 + k)] = pmk m a (k + 1) := by
  unfold pmk
  rw [prow_succ]; simp [missD]
theorem pmk_end (m a : Nat) : pmk m a (m - (a + 1)) = pmD m (a + 1) := by unfold pmk pmD; rw [pall_succ]
theorem pmk_len (m a k : Nat) (ha : a ≤ 6) (hm : m ≤ 6) (hk : k ≤ 6) : (pmk m a k).length ≤ 100 := by
  have hpl := pall_len m a
  have hpl2 : a * m ≤ 36 := Nat.le_trans (Nat.mul_le_mul ha hm) (by omega)
  simp [pmk, prow_len]; omega
set_option maxHeartbeats 4000000 in
theorem pairs_1_C (p : Pg) (m : Nat) (hp : p.people = m) (hm : m ≤ 6) : MeetsH (Tz g) f_proof_pairs_1 (SC []) [.yld 0, .d (pageC p)] (.ret (.tup [])) ((SC (pmD m m)).map .upd) := by
  refine meetsH_proof_pairs_1 rfl ?_
  unfold vc_proof_pairs_1
  have h00 : pmD m 0 = [] := rfl
  simp [SC, pageC, hp]
  refine LOOP.mk Nat (fun a => [.yld 0, .d (pageC p), .d (int m), .d (int a)]) (fun a => numbered 0 (SC (pmD m a)))
    (fun a => a ≤ m) (fun a => m - a) [] (by simp) 0 (by omega) (by simp [WEAK, lookH, h00, SC, numbered, pageC, hp]) (fun _ _ => rfl) ?_
  intro a ha
  have hw := wrap_id (n := (a : Int) + 1) (by omega) (by omega)
  simp [vc_proof_pairs_1_k1]
  refine ⟨fun hlt => ?_, fun hge => ?_⟩
  · rw [hw]
    refine LOOP.mk Nat (fun k => [.yld 0, .d (pageC p), .d (int a), .d (int ((a : Int) + 1 + k)), .d (int m), .d (int a)]) (fun k => numbered 0 (SC (pmk m a k)))
      (fun k => k ≤ m - (a + 1)) (fun k => m - (a + 1) - k) [] (by simp) 0 (by omega) (by simp [WEAK, lookH, pmk_zero, SC, numbered]) (fun _ _ => rfl) ?_
    intro k hk
    have hwk := wrap_id (n := (a : Int) + 1 + k + 1) (by omega) (by omega)
    have hkl := pmk_len m a k (by omega) hm (by omega)
    have hR := roundC_meets (g := g) (pmk m a k) ((a : Int), (a : Int) + 1 + k) (by omega)
    rw [pmk_succ] at hR
    simp [vc_proof_pairs_1_k0, pageC, hp, SC, numbered]
    refine ⟨fun hlt2 => ?_, fun hge2 => ?_⟩
    · refine CALLG.gen [0, 1, 2] (.yld 0) [false] [.d (missD ((a : Int), (a : Int) + 1 + k))] (SC (pmk m a k)) _ _ hR rfl rfl (by simp [argsM, missD, AV.ren]) ?_ ?_ ?_ ?_ ?_
      · simp [preB, SC, loopC, rho, bodyOf, lookH, Body.ren, AV.ren, AV.ren.renL, renT]
      · simp [Cal.ids, ids.idsL, ids, preIds, SC, loopC, Body.ids, tmpIds, lowL]
      · simp [lentL, disjB]
      · simp [SC]
      · simp [AV.ren, SC, upsP, rho, ABlk.ren, Body.ren, AV.ren.renL, renT, loopC, lentL, kills, hwk]
        refine ⟨k + 1, by omega, ?_, by omega⟩
        simp [WEAK, lookH]
        omega
    · have hkm : k = m - (a + 1) := by omega
      simp [hw]
      refine ⟨a + 1, by omega, ?_, by omega⟩
      rw [hkm, pmk_end]
      simp [WEAK, lookH]
  · have : a = m := by omega
    subst this
    exact ⟨[], by simp [SC, loopC, ENDR, yv, yv.yvL, yh, yb, yver, yvT, bodyOf, fz, fz.fzL, fzH, fzB, fzT, stay, src, lookH, NodupB, disjB]⟩
set_option maxHeartbeats 2000000 in
theorem AppendSeq_meets (p : Pg) (m : Nat) (hp : p.people = m) (hm : m ≤ 6) : MeetsH (Tz g) f_slices_AppendSeq_l_api_ProofPair_api_ProofPair [] [.zc, .d (.fn f_proof_pairs_1 [] [pageC p])] (.ret (.d (.list ((pairsL m).map missD)))) [] := by
  refine meetsH_slices_AppendSeq_l_api_ProofPair_api_ProofPair rfl ?_
  unfold vc_slices_AppendSeq_l_api_ProofPair_api_ProofPair
  simp [CALLF]
  have hw : MeetsH (Tz g) f_proof_pairs_1 [⟨0, 0, .loop (loopC 1)⟩, ⟨0, T_l_api_ProofPair, .box [.zc]⟩] [.yld 0, .d (pageC p)] (.ret (.tup [])) ((SC (pmD m m)).map .upd) :=
    MeetsH.weak (pairs_1_C p m hp hm) ⟨[none], by simp [SC, loopC, numbered, ENDR, yv, yv.yvL, yh, yb, yver, yvT, bodyOf, fz, fz.fzL, fzH, fzB, fzT, stay, src, lookH, NodupB, disjB, argD, toD]⟩ (by simp [SC, noSame]) (by simp)
  refine CALL.gen [48, 24] [false, false] [.yld 0, .d (pageC p)] _ _ _ hw rfl (by simp [argsM, AV.ren, rho]) ?_ ?_ ?_ ?_ ?_
  · simp [preB, loopC, rho, bodyOf, lookH, Body.ren, AV.ren, AV.ren.renL, renT]
  · simp [ids.idsL, ids, preIds, loopC, Body.ids, tmpIds, lowL]
  · simp [lentL, disjB]
  · simp [SC]
  · simp [AV.ren, SC, upsP, rho, ABlk.ren, Body.ren, AV.ren.renL, renT, loopC, lentL, kills, lookH, pmD, pairsL]
theorem Collect_meets (p : Pg) (m : Nat) (hp : p.people = m) (hm : m ≤ 6) : Meets (Tz g) f_slices_Collect_api_ProofPair [.fn f_proof_pairs_1 [] [pageC p]] ⟨.d (.list ((pairsL m).map missD)), []⟩ := by
  refine meets_slices_Collect_api_ProofPair ?_
  unfold vc_slices_Collect_api_ProofPair
  refine CALL.gen [] [false, false] [.zc, .d (.fn f_proof_pairs_1 [] [pageC p])] [] _ _ (AppendSeq_meets p m hp hm) rfl (by simp [argsM, AV.ren]) (by simp [preB]) (by simp [ids.idsL, ids, preIds, lowL]) (by simp [lentL, disjB]) (by simp) ?_
  simp [AV.ren, upsP, lentL, kills]
end Go.Vc

namespace Go.Vc
open Go Go.Proofs
variable {g : GG}
attribute [local simp] and_assoc
def readE (p : Pg) (x : Int × Int) : Nt := ⟨1, [x.1, x.2, 0, (p.lines.length : Int) - 1]⟩
def afterP (p : Pg) (l : List (Int × Int)) : Pg := logE p (p.log ++ l.map (readE p))
theorem readE_ok {p : Pg} (hok : p.ok = true) {x : Int × Int} (hx : pairB p x.1 x.2 = true) : entB p (readE p x) = true := by
  obtain ⟨a1, a2, a3, a4, _⟩ := Pg.ok_len hok
  simp only [pairB, Bool.and_eq_true] at hx
  obtain ⟨h1, h2, h3⟩ := hx
  have hl : lineB p 0 = true := by simp [lineB, inB]; omega
  have hl2 : lineB p ((p.lines.length : Int) - 1) = true := by simp [lineB, inB]; omega
  have hd : decide ((0 : Int) ≤ (p.lines.length : Int) - 1) = true := decide_eq_true (by omega)
  simp only [entB, readE, h1, h2, h3, hl, hl2, hd, Bool.and_true, decide_true]
theorem afterP_mem {p : Pg} (hok : p.ok = true) {l : List (Int × Int)} (hx : ∀ x, x ∈ l → pairB p x.1 x.2 = true) : ∀ e, e ∈ p.log ++ l.map (readE p) → entB p e = true := fun e he => by
  rcases List.mem_append.1 he with h | h
  · exact (Pg.ok_len hok).2.2.2.2.2.2 e h
  · obtain ⟨x, h1, rfl⟩ := List.mem_map.1 h
    exact readE_ok hok (hx x h1)
theorem afterP_okw {p : Pg} (hok : p.ok = true) {l : List (Int × Int)} (hl : l.length ≤ 10) (hx : ∀ x, x ∈ l → pairB p x.1 x.2 = true) : (afterP p l).okw = true :=
  logE_okw hok (by have := (Pg.ok_len hok).2.2.2.2.1; simp; omega) (afterP_mem hok hx)
theorem clone_ents (L : List Nt) (h : L.length ≤ 1000) : Meets (Tz g) f_slices_Clone_l_api_ProofEntry_api_ProofEntry [.list (L.map Nt.d)] ⟨.own 0 0, [⟨0, T_api_ProofEntry, .lst (L.map Nt.d)⟩]⟩ :=
  clone_ProofEntry_X _ _ _ (by
    have h1 : (L.map Nt.d).all (fun y => Nat.beq y.cells.length 2) = true := by
      rw [List.all_eq_true]
      intro y hy
      obtain ⟨e, _, rfl⟩ := List.mem_map.1 hy
      rfl
    have h2 : Nat.ble (L.map Nt.d).length 1000000 = true := Nat.ble_eq_true_of_le (by simp; omega)
    simp only [List.map_cons, List.map_nil, cloneX, h1, h2, Bool.and_true])
theorem clone_pairs (L : List (Int × Int)) (h : L.length ≤ 1000) : Meets (Tz g) f_slices_Clone_l_api_ProofPair_api_ProofPair [.list (L.map missD)] ⟨.own 0 0, [⟨0, T_api_ProofPair, .lst (L.map missD)⟩]⟩ :=
  clone_ProofPair_X _ _ _ (by
    have h1 : (L.map missD).all (fun y => Nat.beq y.cells.length 2) = true := by
      rw [List.all_eq_true]
      intro y hy
      obtain ⟨e, _, rfl⟩ := List.mem_map.1 hy
      rfl
    have h2 : Nat.ble (L.map missD).length 1000000 = true := Nat.ble_eq_true_of_le (by simp; omega)
    simp only [List.map_cons, List.map_nil, cloneX, h1, h2, Bool.and_true])
def logK (p : Pg) (l : List (Int × Int)) (k : Nat) : List D := (p.log ++ (l.take k).map (readE p)).map Nt.d
theorem logK_succ {p : Pg} {l : List (Int × Int)} {k : Nat} {x : Int × Int} (h : l[k]? = some x) : logK p l (k + 1) = logK p l k ++ [(readE p x).d] := by
  unfold logK
  rw [take_next h]
  simp
set_option maxHeartbeats 4000000 in
theorem after_meets (p : Pg) (l : List (Int × Int)) (hok : p.ok = true) (hl : l.length ≤ 10) (hx : ∀ x, x ∈ l → pairB p x.1 x.2 = true) : MeetsH (Tz g) f_proof_after [] [.d p.d, .d (.list (l.map missD))] (.ret (.ptr 0 0 0 0)) ((stBlks 0 (fun _ => 0) (afterP p l) (stN (afterP p l) (afterP p l).log.length)).map .upd) := by
  obtain ⟨a1, a2, a3, a4, a5, a6, a7⟩ := Pg.ok_len hok
  have hP := W9.pageOf_meets (g := g) (afterP p l) (afterP_okw hok hl hx)
  have hL0 : logK p l 0 = p.log.map Nt.d := by simp [logK]
  have hLn : logK p l l.length = (afterP p l).log.map Nt.d := by simp [logK, afterP, logE]
  have hlen : ∀ k, (logK p l k).length ≤ 20 := fun k => by
    have := List.length_take_le k l
    have := List.length_take_le' k l
    simp [logK]
    omega
  refine meetsH_proof_after rfl ?_
  unfold vc_proof_after
  simp [Pg.d, lns, ents]
  refine CALL.mk [.list (p.log.map Nt.d)] _ rfl (clone_ents p.log (by omega)) (.inl rfl) (by simp) ?_
  simp
  refine LOOP.mk Nat (fun k => [.ptr 24 0 0 0, .d (.list (l.map missD)), .d (int l.length), .d (int k)]) (fun k => [(24, some ⟨0, T_api_ProofPage, .box [.d (int p.people), .d (.list (p.lines.map Ln.d)), .own 56 k]⟩), (56, some ⟨k, T_api_ProofEntry, .lst (logK p l k)⟩)])
    (fun k => k ≤ l.length) (fun k => l.length - k) [] (by simp) 0 (by omega) (by simp [WEAK, lookH, hL0]) (fun _ _ => rfl) ?_
  intro k hk
  have hw := wrap_id (n := (k : Int) + 1) (by omega) (by omega)
  have hwl := wrap_id (n := (p.lines.length : Int) - 1) (by omega) (by omega)
  have hkl := hlen k
  simp [vc_proof_after_k0]
  refine ⟨fun hlt => ?_, fun hge => ?_⟩
  · obtain ⟨x, hg⟩ : ∃ x, l[k]? = some x := ⟨_, List.getElem?_eq_getElem hlt⟩
    have hs := logK_succ (p := p) hg
    obtain ⟨x1, x2⟩ := x
    simp [hg, missD, lookH, hw, hwl]
    refine ⟨by omega, k + 1, by omega, ?_, by omega⟩
    simp [WEAK, lookH, hs, readE, Nt.d, ints]
  · have : k = l.length := by omega
    subst this
    rw [hLn]
    simp only [stBlks, stBox] at hP
    generalize hq : stN (afterP p l) (afterP p l).log.length = s at hP ⊢
    refine CALL.gen [] [true] [.d (afterP p l).d] [] _ _ hP rfl (by simp [argsM, argD, toD, Pg.d, lns, ents, afterP, logE, lookH]) (by simp [preB]) (by simp [lowL, ids.idsL, ids, preIds]) (by simp [lentL, ids, disjB]) (by simp) ?_
    simp [AV.ren, AV.ren.renL, stBlks, stBox, upsP, rho, ABlk.ren, Body.ren, lentL, kills]
    exact ⟨[some 128, some 129, some 130, some 131, some 132, some 133], by simp [ENDR, yv, yv.yvL, yh, yb, yver, bodyOf, fz, fz.fzL, fzH, fzB, stay, src, lookH, NodupB, disjB, argD, toD]⟩
end Go.Vc

namespace Go.Vc
open Go Go.Proofs
variable {g : GG}
attribute [local simp] and_assoc
def triD (t : Int × Int × Int) : D := .agg [int t.1, int t.2.1, int t.2.2]
@[simp] theorem triD_cells (t : Int × Int × Int) : (triD t).cells = [int t.1, int t.2.1, int t.2.2] := rfl
def passN (p : Pg) (l : List (Int × Int)) : Nat := (passP (afterP p l)).length
theorem passN_le (p : Pg) (l : List (Int × Int)) : passN p l ≤ p.lines.length := passP_len (afterP p l)
def triOf (p : Pg) (x : Int × Int) : Int × Int × Int := (x.1, x.2, passN p [x])
noncomputable def loopB (i j : Nat) : LoopA := ⟨.ready, none, 36, [(1, .ptr i 0 0 0), (6, .ptr j 0 0 0)], [14], rfA_proof_Best, rfB_proof_Best⟩
noncomputable def SB (p : Pg) (xs : List D) : List ABlk := [⟨0, 0, .loop (loopB 1 2)⟩, ⟨0, T_api_ProofPage, .box [.d (int p.people), .d (lns p.lines), .d (ents p.log)]⟩, ⟨0, T_l_proof_chosen, .box [.own 3 xs.length]⟩, ⟨xs.length, T_proof_chosen, .lst xs⟩]
set_option maxHeartbeats 4000000 in
theorem roundB_meets (p : Pg) (xs : List D) (x : Int × Int) (hok : p.ok = true) (hpx : pairB p x.1 x.2 = true) (hx : xs.length < 1000000) : MeetsY (Tz g) 0 (SB p xs) [.d (missD x)] (.ret (.d (.bool true))) ((SB p (xs ++ [triD (triOf p x)])).map .upd) := by
  have hok2 := afterP_okw hok (l := [x]) (by simp) (fun y hy => by simp at hy; rw [hy]; exact hpx)
  have hA := after_meets (g := g) p [x] hok (by simp) (fun y hy => by simp at hy; rw [hy]; exact hpx)
  have hps := (W9.stN_ok hok2 _ (Nat.le_refl _)).1
  have hC := W9.passing_meets (g := g) _ _ hok2 hps
  have hn : (passL (afterP p [x]) (stN (afterP p [x]) (afterP p [x]).log.length)).length = passN p [x] := rfl
  generalize stN (afterP p [x]) (afterP p [x]).log.length = s at hA hC hn
  refine meetsY_proof_Best (k1 := .ptr 1 0 0 0) (k6 := .ptr 2 0 0 0) (e := 0) (by simp [SB, loopB]) rfl ?_
  unfold vcr_proof_Best
  simp [SB, missD, RDA, loopB]
  refine CALL.gen [] [false, true] [.d p.d, .d (.list [missD x])] [] _ _ hA rfl (by simp [argsM, argD, toD, Pg.d, missD, AV.ren, lookH]) (by simp [preB]) (by simp [lowL, ids.idsL, ids, preIds]) (by simp [lentL, ids, disjB]) (by simp [stBlks]) ?_
  simp [AV.ren, AV.ren.renL, stBlks, stBox, upsP, rho, ABlk.ren, Body.ren, lentL, kills]
  refine CALL.gen [80, 81, 82, 83, 84, 85] [false] [.ptr 0 0 0 0] (stBlks 0 (fun _ => 0) (afterP p [x]) s) _ _ hC rfl (by simp [argsM, AV.ren, rho]) ?_ ?_ ?_ ?_ ?_
  · simp [preB, stBlks, stBox, rho, bodyOf, lookH, Body.ren, AV.ren, AV.ren.renL]
  · simp [ids.idsL, ids, preIds, stBlks, stBox, Body.ids, lowL]
  · simp [lentL, disjB]
  · simp [stBlks, sames]
  · simp [AV.ren, sames, upsP, rho, ABlk.ren, Body.ren, lentL, kills, lookH, hn, vc_proof_Best_k3, RDB, stOf]
    refine ⟨by omega, rfl, ?_⟩
    exact ⟨[], by simp [triD, triOf, ENDR, yv, yv.yvL, yh, yb, yver, yvT, bodyOf, fz, fz.fzL, fzH, fzB, fzT, stay, src, lookH, NodupB, disjB, argD, toD]⟩
end Go.Vc

namespace Go.Vc
open Go Go.Proofs
variable {g : GG}
attribute [local simp] and_assoc
def tmD (p : Pg) (m a : Nat) : List D := (pall m a).map fun x => triD (triOf p x)
def tmk (p : Pg) (m a k : Nat) : List D := (pall m a ++ prow a k).map fun x => triD (triOf p x)
theorem tmk_zero (p : Pg) (m a : Nat) : tmk p m a 0 = tmD p m a := by simp [tmk, tmD, prow]
theorem tmk_succ (p : Pg) (m a k : Nat) : tmk p m a k ++ [triD (triOf p ((a : Int), (a : Int) + 1 + k))] = tmk p m a (k + 1) := by
  unfold tmk
  rw [prow_succ]; simp
theorem tmk_end (p : Pg) (m a : Nat) : tmk p m a (m - (a + 1)) = tmD p m (a + 1) := by unfold tmk tmD; rw [pall_succ]
theorem tmk_len (p : Pg) (m a k : Nat) (ha : a ≤ 6) (hm : m ≤ 6) (hk : k ≤ 6) : (tmk p m a k).length ≤ 100 := by
  have hpl := pall_len m a
  have hpl2 : a * m ≤ 36 := Nat.le_trans (Nat.mul_le_mul ha hm) (by omega)
  simp [tmk, prow_len]; omega
set_option maxHeartbeats 4000000 in
theorem pairs_1_B (p : Pg) (m : Nat) (hok : p.ok = true) (hp : p.people = m) (hm : m ≤ 6) : MeetsH (Tz g) f_proof_pairs_1 (SB p []) [.yld 0, .d (pageC p)] (.ret (.tup [])) ((SB p (tmD p m m)).map .upd) := by
  refine meetsH_proof_pairs_1 rfl ?_
  unfold vc_proof_pairs_1
  have h00 : tmD p m 0 = [] := rfl
  simp [SB, pageC, hp]
  refine LOOP.mk Nat (fun a => [.yld 0, .d (pageC p), .d (int m), .d (int a)]) (fun a => numbered 0 (SB p (tmD p m a)))
    (fun a => a ≤ m) (fun a => m - a) [] (by simp) 0 (by omega) (by simp [WEAK, lookH, h00, SB, numbered, pageC, hp]) (fun _ _ => rfl) ?_
  intro a ha
  have hw := wrap_id (n := (a : Int) + 1) (by omega) (by omega)
  simp [vc_proof_pairs_1_k1]
  refine ⟨fun hlt => ?_, fun hge => ?_⟩
  · rw [hw]
    refine LOOP.mk Nat (fun k => [.yld 0, .d (pageC p), .d (int a), .d (int ((a : Int) + 1 + k)), .d (int m), .d (int a)]) (fun k => numbered 0 (SB p (tmk p m a k)))
      (fun k => k ≤ m - (a + 1)) (fun k => m - (a + 1) - k) [] (by simp) 0 (by omega) (by simp [WEAK, lookH, tmk_zero, SB, numbered]) (fun _ _ => rfl) ?_
    intro k hk
    have hwk := wrap_id (n := (a : Int) + 1 + k + 1) (by omega) (by omega)
    have hkl := tmk_len p m a k (by omega) hm (by omega)
    simp [vc_proof_pairs_1_k0, pageC, hp, SB, numbered]
    refine ⟨fun hlt2 => ?_, fun hge2 => ?_⟩
    · have hR := roundB_meets (g := g) p (tmk p m a k) ((a : Int), (a : Int) + 1 + k) hok (by simp [pairB, persB, inB]; omega) (by omega)
      rw [tmk_succ] at hR
      refine CALLG.gen [0, 1, 2, 3] (.yld 0) [false] [.d (missD ((a : Int), (a : Int) + 1 + k))] (SB p (tmk p m a k)) _ _ hR rfl rfl (by simp [argsM, missD, AV.ren]) ?_ ?_ ?_ ?_ ?_
      · simp [preB, SB, loopB, rho, bodyOf, lookH, Body.ren, AV.ren, AV.ren.renL, renT, hp]
      · simp [Cal.ids, ids.idsL, ids, preIds, SB, loopB, Body.ids, tmpIds, lowL]
      · simp [lentL, disjB]
      · simp [SB]
      · simp [AV.ren, SB, upsP, rho, ABlk.ren, Body.ren, AV.ren.renL, renT, loopB, lentL, kills, hwk]
        refine ⟨k + 1, by omega, ?_, by omega⟩
        simp [WEAK, lookH]
        omega
    · have hkm : k = m - (a + 1) := by omega
      simp [hw]
      refine ⟨a + 1, by omega, ?_, by omega⟩
      rw [hkm, tmk_end]
      simp [WEAK, lookH]
  · have : a = m := by omega
    subst this
    exact ⟨[], by simp [SB, hp, loopB, ENDR, yv, yv.yvL, yh, yb, yver, yvT, bodyOf, fz, fz.fzL, fzH, fzB, fzT, stay, src, lookH, NodupB, disjB, argD, toD]⟩
theorem Best_1_meets (a b : Int × Int × Int) : Meets (Tz g) f_proof_Best_1 [triD a, triD b] ⟨.d (.bool (decide (b.2.2 < a.2.2))), []⟩ := by
  refine meets_proof_Best_1 ?_
  unfold vc_proof_Best_1
  simp [triD]
def bestT (l : List (Int × Int × Int)) (k : Nat) : Int × Int × Int := l.getD (bestI (fun k => (l.getD k (0, 0, 0)).2.2) k) (0, 0, 0)
theorem bestT_succ (l : List (Int × Int × Int)) (k : Nat) (y : Int × Int × Int) (h : l[k + 1]? = some y) : bestT l (k + 1) = (match decide ((bestT l k).2.2 < y.2.2) with | true => y | false => bestT l k) := by
  have hy : l.getD (k + 1) (0, 0, 0) = y := by rw [List.getD_eq_getElem?_getD, h]; rfl
  unfold bestT
  simp only [bestI, hy]
  cases decide ((l.getD (bestI (fun k => (l.getD k (0, 0, 0)).2.2) k) (0, 0, 0)).2.2 < y.2.2) with
  | true => exact hy
  | false => rfl
set_option maxHeartbeats 4000000 in
theorem best_chosen_meets (l : List (Int × Int × Int)) (n : Nat) (hn : l.length = n + 1) (hn2 : n ≤ 1000) : Meets (Tz g) f_proof_best_proof_chosen [.list (l.map triD), .fn f_proof_Best_1 [] []] ⟨.d (triD (bestT l n)), []⟩ := by
  obtain ⟨x0, r, rfl⟩ : ∃ x r, l = x :: r := by
    cases l with
    | nil => simp at hn
    | cons x r => exact ⟨x, r, rfl⟩
  have hr : r.length = n := by simpa using hn
  have hb0 : bestT (x0 :: r) 0 = x0 := rfl
  have hbs := fun k y (h : r[k]? = some y) => bestT_succ (x0 :: r) k y (by simpa using h)
  refine meets_proof_best_proof_chosen ?_
  unfold vc_proof_best_proof_chosen
  simp [triD]
  refine ⟨fun a b c y _ h => by subst h; rfl, by omega, ?_⟩
  rw [List.take_of_length_le (by simp)]
  refine LOOP.mk Nat (fun k => [.d (.fn f_proof_Best_1 [] []), .ptr 24 0 0 0, .ptr 56 0 0 0, .d (.list (r.map triD)), .d (int n), .d (int k)]) (fun k => [(24, some ⟨0, T_proof_chosen, .box [.d (int 0), .d (int 0), .d (int 0)]⟩), (56, some ⟨0, T_proof_chosen, .box [.d (int (bestT (x0 :: r) k).1), .d (int (bestT (x0 :: r) k).2.1), .d (int (bestT (x0 :: r) k).2.2)]⟩)]) (fun k => k ≤ n) (fun k => n - k) [] (by simp) 0 (by omega) (by simp [WEAK, lookH, hr, hb0]) (fun _ _ => rfl) ?_
  intro k hk
  have hw := wrap_id (n := (k : Int) + 1) (by omega) (by omega)
  simp [vc_proof_best_proof_chosen_k1]
  constructor
  · intro hlt
    have hg : r[k]? = some r[k] := List.getElem?_eq_getElem (by omega)
    generalize r[k] = y at hg
    have hs := hbs k y hg
    generalize bestT (x0 :: r) k = z at hs ⊢
    obtain ⟨y1, y2, y3⟩ := y
    simp [hg, triD]
    refine CALL.val [triD (y1, y2, y3), triD z] _ rfl (Best_1_meets (y1, y2, y3) z) (.inl rfl) ?_
    simp [vc_proof_best_proof_chosen_k0, hw]
    refine ⟨fun h => ?_, fun h => ?_⟩
    · rw [decide_eq_true h] at hs
      exact ⟨k + 1, by omega, by simp [WEAK, lookH, hs], by omega⟩
    · have : ¬ z.2.2 < y3 := by omega
      rw [decide_eq_false this] at hs
      exact ⟨k + 1, by omega, by simp [WEAK, lookH, hs], by omega⟩
  · intro hge
    have : k = n := by omega
    subst this
    exact ⟨rfl, rfl, rfl⟩
def bestW (p : Pg) : Nat := bestI (fun k => (passN p [(pairsL p.people.toNat).getD k (0, 0)] : Int)) ((pairsL p.people.toNat).length - 1)
def bestX (p : Pg) : Int × Int := (pairsL p.people.toNat).getD (bestW p) (0, 0)
theorem bestI_congr {f h : Nat → Int} : ∀ k, (∀ j, j ≤ k → f j = h j) → bestI f k = bestI h k
  | 0, _ => rfl
  | k + 1, e => by
    have ih := bestI_congr k (fun j hj => e j (by omega))
    have h2 := bestI_le h k
    simp only [bestI, ih]
    rw [e _ (by omega), e _ (Nat.le_refl _)]
theorem pairsL_ne {m : Nat} (hm : 2 ≤ m) : 1 ≤ (pairsL m).length := by
  have : (pairsL m) = pall m (m - 1 + 1) := by unfold pairsL; congr 1; omega
  have h0 : prow 0 (m - (0 + 1)) ≠ [] := fun h => by
    have := congrArg List.length h
    rw [prow_len] at this
    simp at this; omega
  unfold pairsL pall
  obtain ⟨k, rfl⟩ : ∃ k, m = k + 1 := ⟨m - 1, by omega⟩
  rw [List.range_succ_eq_map]
  simp only [List.flatMap_cons, List.length_append, prow_len]
  omega
theorem bestT_pairs (p : Pg) (hp : 2 ≤ p.people) : bestT ((pairsL p.people.toNat).map (triOf p)) ((pairsL p.people.toNat).length - 1) = ((bestX p).1, (bestX p).2, (passN p [bestX p] : Int)) := by
  have hne := pairsL_ne (m := p.people.toNat) (by omega)
  have hg : ∀ k, k < (pairsL p.people.toNat).length → ((pairsL p.people.toNat).map (triOf p)).getD k (0, 0, 0) = triOf p ((pairsL p.people.toNat).getD k (0, 0)) := fun k hk => by
    rw [List.getD_eq_getElem?_getD, List.getD_eq_getElem?_getD, List.getElem?_map, List.getElem?_eq_getElem hk]; rfl
  unfold bestT
  have e : bestI (fun k => (((pairsL p.people.toNat).map (triOf p)).getD k (0, 0, 0)).2.2) ((pairsL p.people.toNat).length - 1) = bestW p := by
    unfold bestW
    apply bestI_congr
    intro j hj
    rw [hg j (by omega)]
    rfl
  rw [e, hg _ (by have := bestI_le (fun k => (passN p [(pairsL p.people.toNat).getD k (0, 0)] : Int)) ((pairsL p.people.toNat).length - 1); unfold bestW; omega)]
  rfl
theorem tmD_tri (p : Pg) (m : Nat) : tmD p m m = ((pairsL m).map (triOf p)).map triD := by simp [tmD, pairsL]
set_option maxHeartbeats 4000000 in
theorem proof_Best_data (p : Pg) (hok : p.ok = true) : Meets (Tz g) f_proof_Best [p.d] ⟨.tup [.d (int (bestX p).1), .d (int (bestX p).2), .d (int (passN p [bestX p])), .d (int 0)], []⟩ := by
  obtain ⟨a1, a2, a3, a4, a5, a6, a7⟩ := Pg.ok_len hok
  obtain ⟨m, hm⟩ : ∃ m : Nat, p.people = m := ⟨p.people.toNat, by omega⟩
  have hpn : p.people.toNat = m := by omega
  have hbt := bestT_pairs p a1
  rw [hpn] at hbt
  have hne := pairsL_ne (m := m) (by omega)
  have hpl := pall_len m m
  have hpl2 : m * m ≤ 36 := Nat.le_trans (Nat.mul_le_mul (show m ≤ 6 by omega) (show m ≤ 6 by omega)) (by omega)
  have hC := best_chosen_meets (g := g) ((pairsL m).map (triOf p)) ((pairsL m).length - 1) (by simp; omega) (by unfold pairsL; omega)
  rw [hbt] at hC
  generalize bestX p = W at *
  have hB := pairs_1_B (g := g) p m hok hm (by omega)
  rw [tmD_tri] at hB
  generalize ((pairsL m).map (triOf p)).map triD = L at hB hC
  refine meets_proof_Best ?_
  unfold vc_proof_Best
  simp [Pg.d, lns, ents]
  refine CALL.val [p.d] _ rfl (proof_isPage_meets p (by omega) (by omega)) (.inl rfl) ?_
  simp [vc_proof_Best_k2, hok]
  refine CALL.val [p.d] _ rfl (proof_pairs_meets p) (.inl rfl) ?_
  simp [vc_proof_Best_k1, CALLF]
  have hw : MeetsH (Tz g) f_proof_pairs_1 [⟨0, 0, .loop (loopB 1 2)⟩, ⟨0, T_api_ProofPage, .box [.d (int p.people), .d (lns p.lines), .d (ents p.log)]⟩, ⟨0, T_l_proof_chosen, .box [.zc]⟩] [.yld 0, .d (pageC p)] (.ret (.tup [])) ((SB p L).map .upd) :=
    MeetsH.weak hB ⟨[none], by simp [SB, loopB, numbered, ENDR, yv, yv.yvL, yh, yb, yver, yvT, bodyOf, fz, fz.fzL, fzH, fzB, fzT, stay, src, lookH, NodupB, disjB, argD, toD]⟩ (by simp [SB, noSame]) (by simp)
  refine CALL.gen [112, 24, 88] [false, false] [.yld 0, .d (pageC p)] _ _ _ hw rfl (by simp [argsM, AV.ren, rho]) ?_ ?_ ?_ ?_ ?_
  · simp [preB, loopB, rho, bodyOf, lookH, Body.ren, AV.ren, AV.ren.renL, renT, lns, ents]
  · simp [ids.idsL, ids, preIds, loopB, Body.ids, tmpIds, lowL]
  · simp [lentL, disjB]
  · simp [SB]
  · simp [AV.ren, SB, upsP, rho, ABlk.ren, Body.ren, AV.ren.renL, renT, loopB, lentL, kills, lookH]
    refine CALL.val [.list L, .fn f_proof_Best_1 [] []] _ (by simp [argsD, argD, toD, lookH]) hC (.inr rfl) ?_
    simp [vc_proof_Best_k0, triD]
    refine ⟨rfl, ?_⟩
    exact POST.auto (by simp)
end Go.Vc

namespace Go.Vc
open Go Go.Proofs
variable {g : GG}
attribute [local simp] and_assoc
theorem ref09_Whole_meets (p : Pg) (x : Int × Int) (hl : p.lines.length ≤ 1000) : Meets (Tz g) f_ref09_Whole [p.d, int x.1, int x.2] ⟨.d (readE p x).d, []⟩ := by
  have hw := wrap_id (n := (p.lines.length : Int) - 1) (by omega) (by omega)
  refine meets_ref09_Whole ?_
  unfold vc_ref09_Whole
  simp [Pg.d, lns, ents, hw, readE, Nt.d, ints]
theorem pairsL_ok {p : Pg} {m : Nat} (hm : p.people = m) {x : Int × Int} (h : x ∈ pairsL m) : pairB p x.1 x.2 = true := by
  unfold pairsL pall at h
  obtain ⟨a, ha, h⟩ := List.mem_flatMap.1 h
  have ha := List.mem_range.1 ha
  unfold prow at h
  obtain ⟨k, hk, rfl⟩ := List.mem_map.1 h
  have hk := List.mem_range.1 hk
  simp [pairB, persB, inB]
  omega
def enoughB (p : Pg) (l : List (Int × Int)) : Bool := allP (afterP p l)
end Go.Vc

namespace Go.Vc
open Go Go.Proofs
variable {g : GG}
attribute [local simp] and_assoc
abbrev Prs := List (Int × Int)
theorem drop_at {α : Type} {L : List α} {i : Nat} {e : α} (hg : L[i]? = some e) : L.drop i = e :: L.drop (i + 1) := by
  obtain ⟨h1, h2⟩ := List.getElem?_eq_some_iff.1 hg
  rw [List.drop_eq_getElem_cons h1, h2]
def prsD (l : Prs) : D := .list (l.map missD)
@[simp] theorem prsD_cells (l : Prs) : (prsD l).cells = [prsD l] := rfl
def listsF (many : Nat) : Prs → Prs → List Prs
  | now, [] => match decide (now.length = many) with | true => [now] | false => []
  | now, x :: r => match decide (now.length = many) with | true => [now] | false => listsF many (now ++ [x]) r ++ listsF many now r
theorem listsF_eq {many : Nat} {now l : Prs} (h : now.length = many) : listsF many now l = [now] := by
  cases l <;> simp [listsF, h]
theorem listsF_cons {many : Nat} {now r : Prs} {x : Int × Int} (h : now.length ≠ many) : listsF many now (x :: r) = listsF many (now ++ [x]) r ++ listsF many now r := by
  simp [listsF, h]
theorem listsF_nil {many : Nat} {now : Prs} (h : now.length ≠ many) : listsF many now [] = [] := by simp [listsF, h]
theorem listsF_mem {many : Nat} : ∀ {l now x : Prs}, x ∈ listsF many now l → x.length = many ∧ ∀ y, y ∈ x → y ∈ now ∨ y ∈ l
  | [], now, x, h => by
    simp only [listsF] at h
    split at h
    · rename_i hd
      simp at h hd
      subst h
      exact ⟨hd, fun y hy => .inl hy⟩
    · cases h
  | a :: r, now, x, h => by
    simp only [listsF] at h
    split at h
    · rename_i hd
      simp at h hd
      subst h
      exact ⟨hd, fun y hy => .inl hy⟩
    · rcases List.mem_append.1 h with h | h
      · obtain ⟨h1, h2⟩ := listsF_mem h
        refine ⟨h1, fun y hy => ?_⟩
        rcases h2 y hy with h3 | h3
        · rcases List.mem_append.1 h3 with h4 | h4
          · exact .inl h4
          · right; simp at h4; rw [h4]; exact List.mem_cons_self
        · exact .inr (List.mem_cons_of_mem _ h3)
      · obtain ⟨h1, h2⟩ := listsF_mem h
        exact ⟨h1, fun y hy => (h2 y hy).imp id (List.mem_cons_of_mem _)⟩
def listsK (many : Nat) (now l : Prs) : Nat → List Prs
  | 0 => []
  | i + 1 => listsK many now l i ++ (match l[i]? with | some x => listsF many (now ++ [x]) (l.drop (i + 1)) | none => [])
theorem listsK_all {many : Nat} {now l : Prs} (h : now.length ≠ many) : ∀ i, i ≤ l.length → listsK many now l i ++ listsF many now (l.drop i) = listsF many now l
  | 0, _ => by simp [listsK]
  | i + 1, hi => by
    have ih := listsK_all (l := l) h i (by omega)
    have hg : l[i]? = some l[i] := List.getElem?_eq_getElem (by omega)
    rw [drop_at hg, listsF_cons h] at ih
    simp only [listsK, hg, List.append_assoc]
    exact ih
theorem listsK_end {many : Nat} {now l : Prs} (h : now.length ≠ many) : listsK many now l l.length = listsF many now l := by
  have := listsK_all (l := l) h l.length (Nat.le_refl _)
  rw [List.drop_length, listsF_nil h, List.append_nil] at this
  exact this
end Go.Vc

namespace Go.Vc
open Go Go.Proofs
variable {g : GG}
attribute [local simp] and_assoc
theorem pairsL_15 {m : Nat} (hm : m ≤ 6) : (pairsL m).length ≤ 15 := by
  rcases m with _ | _ | _ | _ | _ | _ | _ | m
  · decide
  · decide
  · decide
  · decide
  · decide
  · decide
  · decide
  · omega
def findE (p : Pg) (L : List Prs) : Option Prs := L.find? (enoughB p)
def fewK (p : Pg) : Nat → Option Prs
  | 0 => none
  | k + 1 => match fewK p k with | some x => some x | none => findE p (listsF k [] (pairsL p.people.toNat))
theorem fewK_mono {p : Pg} {k : Nat} {x : Prs} (h : fewK p k = some x) : ∀ j, fewK p (k + j) = some x
  | 0 => h
  | j + 1 => by
    have := fewK_mono h j
    show fewK p (k + j + 1) = some x
    simp only [fewK, this]
def fewP (p : Pg) : Option Prs := fewK p 3
theorem fewK_some {p : Pg} : ∀ {k : Nat} {x : Prs}, fewK p k = some x → x.length < k ∧ x ∈ listsF x.length [] (pairsL p.people.toNat) ∧ enoughB p x = true
  | 0, x, h => by cases h
  | k + 1, x, h => by
    simp only [fewK] at h
    cases hk : fewK p k with
    | some y =>
      rw [hk] at h
      injection h with h
      subst h
      obtain ⟨h1, h2⟩ := fewK_some hk
      exact ⟨by omega, h2⟩
    | none =>
      rw [hk] at h
      have h : findE p (listsF k [] (pairsL p.people.toNat)) = some x := h
      have hm := List.mem_of_find?_eq_some h
      have hl := (listsF_mem hm).1
      rw [hl]
      exact ⟨by omega, hm, List.find?_some h⟩
end Go.Vc

namespace Go.Vc
open Go Go.Proofs
variable {g : GG}
attribute [local simp] and_assoc
def stepF (p : Pg) (st : Option Prs) (L : List Prs) : Option Prs := match st with | some x => some x | none => findE p L
theorem stepF_append (p : Pg) (st : Option Prs) (L M : List Prs) : stepF p st (L ++ M) = stepF p (stepF p st L) M := by
  cases st with
  | some x => rfl
  | none =>
    simp only [stepF, findE]
    rw [List.find?_append]
    all_goals (cases List.find? (enoughB p) L <;> rfl)
def metD (st : Option Prs) : AV := .d (.bool st.isSome)
def fndA (st : Option Prs) : AV := match st with | some x => .d (prsD x) | none => .zc
noncomputable def SF (p : Pg) (all : Prs) (many : Nat) (st : Option Prs) : List ABlk := [⟨0, T_bool, .box [metD st]⟩, ⟨0, T_int, .box [.d (int many)]⟩, ⟨0, T_api_ProofPage, .box [.d (int p.people), .d (lns p.lines), .d (ents p.log)]⟩, ⟨0, T_l_api_ProofPair, .box [fndA st]⟩, ⟨0, T_l_api_ProofPair, .box [.d (prsD all)]⟩, ⟨0, T_func_l_api_ProofPair_int, .box [.fn f_proof_Fewest_1 [] [.ptr 0 0 0 0, .ptr 1 0 0 0, .ptr 2 0 0 0, .ptr 3 0 0 0, .ptr 4 0 0 0, .ptr 5 0 0 0]]⟩]
theorem put_met (p : Pg) (all now : Prs) (many : Nat) (from' : Int) (x : Prs) : MeetsH (Tz g) f_proof_Fewest_1 (SF p all many (some x)) [.d (prsD now), .d (int from'), .ptr 0 0 0 0, .ptr 1 0 0 0, .ptr 2 0 0 0, .ptr 3 0 0 0, .ptr 4 0 0 0, .ptr 5 0 0 0] (.ret (.tup [])) ((SF p all many (some x)).map .upd) := by
  refine meetsH_proof_Fewest_1 rfl ?_
  unfold vc_proof_Fewest_1
  simp [SF, metD, fndA, numbered, lookH, vc_proof_Fewest_1_k3]
  exact ⟨[], by simp [ENDR, yv, yv.yvL, yh, yb, yver, bodyOf, fz, fz.fzL, fzH, fzB, stay, src, lookH, NodupB, disjB, argD, toD]⟩
set_option maxHeartbeats 8000000 in
theorem put_enough (p : Pg) (all now : Prs) (many : Nat) (from' : Int) (hok : p.ok = true) (hm : many ≤ 2) (hl : now.length = many) (hx : ∀ x, x ∈ now → pairB p x.1 x.2 = true) : MeetsH (Tz g) f_proof_Fewest_1 (SF p all many none) [.d (prsD now), .d (int from'), .ptr 0 0 0 0, .ptr 1 0 0 0, .ptr 2 0 0 0, .ptr 3 0 0 0, .ptr 4 0 0 0, .ptr 5 0 0 0] (.ret (.tup [])) ((SF p all many (findE p [now])).map .upd) := by
  have hokw := afterP_okw hok (l := now) (by omega) hx
  have hA := after_meets (g := g) p now hok (by omega) hx
  have hps := (W9.stN_ok hokw _ (Nat.le_refl _)).1
  have hC := W9.passes_meets (g := g) _ _ hokw hps
  have hb : allB (afterP p now) (stN (afterP p now) (afterP p now).log.length) = enoughB p now := rfl
  rw [hb] at hC
  have hf : findE p [now] = match enoughB p now with | true => some now | false => none := by
    simp only [findE, List.find?_cons, List.find?_nil]
    all_goals (cases enoughB p now <;> rfl)
  generalize stN (afterP p now) (afterP p now).log.length = s at hA hC
  refine meetsH_proof_Fewest_1 rfl ?_
  unfold vc_proof_Fewest_1
  simp [SF, metD, fndA, numbered, lookH, vc_proof_Fewest_1_k4, prsD, hl]
  refine CALL.gen [] [false, false] [.d p.d, .d (prsD now)] [] _ _ hA rfl (by simp [argsM, Pg.d, prsD, AV.ren]) (by simp [preB]) (by simp [lowL, ids.idsL, ids, preIds]) (by simp [lentL, disjB]) (by simp [stBlks]) ?_
  simp [AV.ren, AV.ren.renL, stBlks, stBox, upsP, rho, ABlk.ren, Body.ren, lentL, kills]
  refine CALL.gen [120, 121, 122, 123, 124, 125] [false] [.ptr 0 0 0 0] (stBlks 0 (fun _ => 0) (afterP p now) s) _ _ hC rfl (by simp [argsM, AV.ren, rho]) ?_ ?_ ?_ ?_ ?_
  · simp [preB, stBlks, stBox, rho, bodyOf, lookH, Body.ren, AV.ren, AV.ren.renL]
  · simp [ids.idsL, ids, preIds, stBlks, stBox, Body.ids, lowL]
  · simp [lentL, disjB]
  · simp [stBlks, sames]
  · rw [hf]
    cases he : enoughB p now with
    | true =>
      simp [AV.ren, sames, upsP, lentL, kills, lookH]
      exact ⟨[], by simp [ENDR, yv, yv.yvL, yh, yb, yver, bodyOf, fz, fz.fzL, fzH, fzB, stay, src, lookH, NodupB, disjB, argD, toD]⟩
    | false =>
      simp [AV.ren, sames, upsP, lentL, kills, lookH]
      exact ⟨[], by simp [ENDR, yv, yv.yvL, yh, yb, yver, bodyOf, fz, fz.fzL, fzH, fzB, stay, src, lookH, NodupB, disjB, argD, toD]⟩
end Go.Vc

namespace Go.Vc
open Go Go.Proofs
variable {g : GG}
attribute [local simp] and_assoc
set_option maxHeartbeats 16000000 in
theorem put_meets (p : Pg) (all : Prs) (many : Nat) (hok : p.ok = true) (hm : many ≤ 2) (hal : all.length ≤ 15) (hall : ∀ x, x ∈ all → pairB p x.1 x.2 = true) :
    ∀ (d : Nat) (now : Prs) (fr : Nat) (st : Option Prs), all.length - fr = d → fr ≤ all.length → now.length + d ≤ 100 → (∀ x, x ∈ now → pairB p x.1 x.2 = true) →
      MeetsH (Tz g) f_proof_Fewest_1 (SF p all many st) [.d (prsD now), .d (int fr), .ptr 0 0 0 0, .ptr 1 0 0 0, .ptr 2 0 0 0, .ptr 3 0 0 0, .ptr 4 0 0 0, .ptr 5 0 0 0] (.ret (.tup [])) ((SF p all many (stepF p st (listsF many now (all.drop fr)))).map .upd) := by
  intro d
  induction d using Nat.strongRecOn with
  | _ d ih =>
  intro now fr st hd hfr hn hx
  cases st with
  | some x => exact put_met p all now many fr x
  | none =>
  by_cases h : now.length = many
  · rw [listsF_eq h]
    exact put_enough p all now many fr hok hm h hx
  have hz : ¬ ((now.length : Int) = (many : Int)) := by omega
  obtain ⟨l, hl⟩ : ∃ l, l = all.drop fr := ⟨_, rfl⟩
  have hll : l.length = all.length - fr := by rw [hl]; simp
  have hend := listsK_end (l := l) h
  rw [← hl, ← hend]
  refine meetsH_proof_Fewest_1 rfl ?_
  unfold vc_proof_Fewest_1
  simp [SF, metD, fndA, numbered, lookH, vc_proof_Fewest_1_k4, prsD, hz]
  refine LOOP.mk Nat (fun j => [.d (prsD now), .ptr 4 0 0 0, .ptr 5 0 0 0, .d (int ((fr : Int) + j))]) (fun j => numbered 0 (SF p all many (stepF p none (listsK many now l j))))
    (fun j => j ≤ l.length) (fun j => l.length - j) [] (by simp) 0 (by omega) (by simp [WEAK, lookH, SF, numbered, metD, fndA, prsD, listsK, stepF, findE]) (fun j _ => by generalize stepF p none (listsK many now l j) = st; cases st <;> rfl) ?_
  intro j hj
  have hw := wrap_id (n := (fr : Int) + j + 1) (by omega) (by omega)
  refine id ?_
  by_cases hlt : j < l.length
  · obtain ⟨x, hg⟩ : ∃ x, l[j]? = some x := ⟨_, List.getElem?_eq_getElem hlt⟩
    have hga : all[fr + j]? = some x := by rw [hl, List.getElem?_drop] at hg; exact hg
    have hdr : all.drop (fr + j + 1) = l.drop (j + 1) := by rw [hl, List.drop_drop]; congr 1
    have hS : stepF p none (listsK many now l (j + 1)) = stepF p (stepF p none (listsK many now l j)) (listsF many (now ++ [x]) (l.drop (j + 1))) := by
      rw [← stepF_append]
      simp only [listsK, hg]
    have hxa := hall x (List.mem_of_getElem? hga)
    have hI := fun st => ih (all.length - (fr + j + 1)) (by omega) (now ++ [x]) (fr + j + 1) st rfl (by omega) (by simp; omega) (fun y hy => by
      rcases List.mem_append.1 hy with hy | hy
      · exact hx y hy
      · simp at hy; rw [hy]; exact hxa)
    rw [hdr] at hI
    have hI := hI (stepF p none (listsK many now l j))
    rw [← hS] at hI
    have hIc : ((fr + j + 1 : Nat) : Int) = (fr : Int) + j + 1 := by omega
    rw [hIc] at hI
    have hlt2 : (fr : Int) + j < all.length := by omega
    have htn : ((fr : Int) + j).toNat = fr + j := by omega
    obtain ⟨x1, x2⟩ := x
    generalize hS2 : stepF p none (listsK many now l (j + 1)) = st2 at hI
    generalize stepF p none (listsK many now l j) = st1 at hI ⊢
    have key : ∀ (a b : AV), (∀ ρ, a.ren ρ = a) → (∀ ρ, b.ren ρ = b) → True := fun _ _ _ _ => trivial
    have hcut : (∀ X : Prop, ((all.length : Int) ≤ (fr : Int) + j → X)) := fun X hx => absurd hx (by omega)
    cases st1 <;> cases st2
    all_goals simp [vc_proof_Fewest_1_k2, SF, numbered, metD, fndA, prsD, lookH, hlt2]
    all_goals refine ⟨?_, fun h => absurd h (by omega)⟩
    all_goals refine CALL.mk [prsD now] _ rfl (clone_pairs now (by omega)) (.inl rfl) (by simp) ?_
    all_goals simp [vc_proof_Fewest_1_k1, lookH, hga, htn, missD, hw]
    all_goals refine ⟨by omega, by omega, ?_⟩
    all_goals refine CALL.gen [0, 1, 2, 3, 4, 5] [true, false, false, false, false, false, false, false] _ _ _ _ hI rfl (by simp [argsM, argD, toD, lookH, AV.ren, rho, prsD, missD]) ?_ ?_ ?_ ?_ ?_
    all_goals first | (simp [preB, SF, metD, fndA, rho, bodyOf, lookH, Body.ren, AV.ren, AV.ren.renL, prsD]; done) | (simp [ids.idsL, ids, SF, metD, fndA]; done) | (simp [lentL, ids]; done) | (simp [SF]; done) | skip
    all_goals simp [AV.ren, SF, metD, fndA, upsP, rho, ABlk.ren, Body.ren, AV.ren.renL, lentL, kills, vc_proof_Fewest_1_k0, hw]
    all_goals refine ⟨rfl, j + 1, by omega, ?_, by omega⟩
    all_goals rw [hS2]
    all_goals simp [WEAK, lookH, prsD]
    all_goals omega
  · have : j = l.length := by omega
    subst this
    have hnl : ¬ ((fr : Int) + l.length < all.length) := by omega
    generalize stepF p none (listsK many now l l.length) = st1
    cases st1
    all_goals simp [vc_proof_Fewest_1_k2, SF, numbered, metD, fndA, prsD, lookH, hnl]
    all_goals intro _
    all_goals exact ⟨[], by simp [ENDR, yv, yv.yvL, yh, yb, yver, bodyOf, fz, fz.fzL, fzH, fzB, stay, src, lookH, NodupB, disjB, argD, toD]⟩
end Go.Vc

namespace Go.Vc
open Go Go.Proofs
variable {g : GG}
attribute [local simp] and_assoc
theorem listsF_short {many : Nat} : ∀ {l now : Prs}, now.length + l.length < many → listsF many now l = []
  | [], now, h => listsF_nil (by simp at h; omega)
  | x :: r, now, h => by
    have h : now.length + (r.length + 1) < many := h
    rw [listsF_cons (by omega), listsF_short (by simp; omega), listsF_short (by omega)]
    rfl
theorem rdB_two {p : Pg} {s : Ps} {line a b : Nat} (hab : a < b) (hb : (b : Int) < p.people) (h1 : rdB s line a = true) (h2 : rdB s line b = true) : 2 ≤ rdN p s line := by
  unfold rdN readersL
  rw [List.length_map]
  have hs : [a, b].Sublist ((List.range p.people.toNat).filter (rdB s line)) := by
    have e : [a, b] = [a, b].filter (rdB s line) := by simp [h1, h2]
    rw [e]
    apply List.Sublist.filter
    have hr : List.range p.people.toNat = List.range (a + 1) ++ ((List.range' (a + 1) (p.people.toNat - (a + 1)))) := by
      rw [List.range_eq_range', List.range_eq_range']
      have := List.range'_append_1 (s := 0) (m := a + 1) (n := p.people.toNat - (a + 1))
      simp only [Nat.zero_add] at this
      rw [this]
      congr 1; omega
    rw [hr, List.range_succ, List.append_assoc]
    refine List.Sublist.trans ?_ (List.sublist_append_right _ _)
    refine List.Sublist.cons_cons _ ?_
    exact List.singleton_sublist.2 (List.mem_range'_1.2 ⟨by omega, by omega⟩)
  exact hs.length_le
theorem two_enough {p : Pg} (hok : p.ok = true) (h3 : 3 ≤ p.people) : enoughB p [(0, 1), (0, 2)] = true := by
  obtain ⟨a1, a2, a3, a4, a5, a6, a7⟩ := Pg.ok_len hok
  have hx : ∀ x, x ∈ [((0 : Int), (1 : Int)), (0, 2)] → pairB p x.1 x.2 = true := fun x hx => by
    simp only [List.mem_cons, List.not_mem_nil, or_false] at hx
    rcases hx with rfl | rfl
    · simp [pairB, persB, inB]; omega
    · simp [pairB, persB, inB]; omega
  have hw := afterP_okw hok (l := [(0, 1), (0, 2)]) (by simp) hx
  have hlog : (afterP p [(0, 1), (0, 2)]).log = p.log ++ [readE p (0, 1), readE p (0, 2)] := rfl
  unfold enoughB allP allB
  refine decide_eq_true ?_
  refine (fltL_all _ _).2 (fun k hk => ?_)
  have hk' : k < p.lines.length := hk
  refine decide_eq_true ?_
  have hR : ∀ n : Nat, (n : Int) < p.people → rdB (stN (afterP p [(0, 1), (0, 2)]) (afterP p [(0, 1), (0, 2)]).log.length) k n = ((decide (n = 0) || decide (n = 1) || decide (n = 2) || (p.log.foldl (hasO k n) false)) && !decide ((n : Int) = p.log.foldl (setO k) ((st0 p).setters.getD k 0))) := fun n hn => by
    rw [W9.rdB_law hw (line := k) (n := n) hk hn, hlog, List.foldl_append, List.foldl_append]
    have e0 : st0 (afterP p [(0, 1), (0, 2)]) = st0 p := rfl
    rw [e0]
    have hin : inB (k : Int) 0 ((p.lines.length : Int) - 1) = true := by simp [inB]; omega
    have er : ∀ x, rdnB (readE p x) k n = (decide (x.1 = (n : Int)) || decide (x.2 = (n : Int))) := fun x => by simp only [rdnB, readE, hin, Bool.true_and]
    have es : ∀ x v, setO k v (readE p x) = v := fun x v => by simp [setO, chgB, readE]
    have eh : ∀ x v, hasO k n v (readE p x) = (v || rdnB (readE p x) k n) := fun x v => by simp [hasO, chgB, readE]
    simp only [List.foldl_cons, List.foldl_nil, es, eh, er]
    congr 1
    have c1 : decide ((0 : Int) = (n : Int)) = decide (n = 0) := decide_eq_decide.2 (by omega)
    have c2 : decide ((1 : Int) = (n : Int)) = decide (n = 1) := decide_eq_decide.2 (by omega)
    have c3 : decide ((2 : Int) = (n : Int)) = decide (n = 2) := decide_eq_decide.2 (by omega)
    rw [c1, c2, c3]
    generalize List.foldl (hasO ↑k ↑n) false p.log = v
    cases v <;> cases decide (n = 0) <;> cases decide (n = 1) <;> cases decide (n = 2) <;> rfl
  generalize p.log.foldl (setO k) ((st0 p).setters.getD k 0) = q at hR
  have hp : (afterP p [(0, 1), (0, 2)]).people = p.people := rfl
  have h0 := hR 0 (by omega)
  have h1 := hR 1 (by omega)
  have h2 := hR 2 (by omega)
  simp at h0 h1 h2
  by_cases q0 : (0 : Int) = q
  · refine rdB_two (a := 1) (b := 2) (by omega) (by rw [hp]; omega) ?_ ?_
    · rw [h1]; simp; omega
    · rw [h2]; simp; omega
  · by_cases q1 : (1 : Int) = q
    · refine rdB_two (a := 0) (b := 2) (by omega) (by rw [hp]; omega) ?_ ?_
      · rw [h0]; simp; omega
      · rw [h2]; simp; omega
    · refine rdB_two (a := 0) (b := 1) (by omega) (by rw [hp]; omega) ?_ ?_
      · rw [h0]; simp; omega
      · rw [h1]; simp; omega
theorem two_listed {m : Nat} (h3 : 3 ≤ m) (h6 : m ≤ 6) : [((0 : Int), (1 : Int)), (0, 2)] ∈ listsF 2 [] (pairsL m) := by
  rcases m with _ | _ | _ | _ | _ | _ | _ | m
  · omega
  · omega
  · omega
  · decide +kernel
  · decide +kernel
  · decide +kernel
  · decide +kernel
  · omega
theorem fewP_three {p : Pg} (hok : p.ok = true) (h3 : 3 ≤ p.people) : fewP p ≠ none := fun h => by
  obtain ⟨a1, a2, _⟩ := Pg.ok_len hok
  have hm := two_listed (m := p.people.toNat) (by omega) (by omega)
  unfold fewP at h
  simp only [fewK] at h
  cases h2 : fewK p 2 with
  | some x => simp only [fewK] at h2; rw [h2] at h; cases h
  | none =>
    simp only [fewK] at h2
    rw [h2] at h
    have h : findE p (listsF 2 [] (pairsL p.people.toNat)) = none := h
    have := List.find?_eq_none.1 h _ hm
    exact this (two_enough hok h3)
set_option maxHeartbeats 8000000 in
theorem proof_Fewest_data (p : Pg) (hok : p.ok = true) : Meets (Tz g) f_proof_Fewest [p.d] ⟨.tup [.d (prsD ((fewP p).getD [])), .d (int (match fewP p with | some _ => 0 | none => 5))], []⟩ := by
  obtain ⟨a1, a2, a3, a4, a5, a6, a7⟩ := Pg.ok_len hok
  obtain ⟨m, hm⟩ : ∃ m : Nat, p.people = m := ⟨p.people.toNat, by omega⟩
  have hpn : p.people.toNat = m := by omega
  have h15 := pairsL_15 (m := m) (by omega)
  have hpo := fun x (h : x ∈ pairsL m) => pairsL_ok hm h
  have hCo := Collect_meets (g := g) p m hm (by omega)
  have hK : ∀ k, fewK p (k + 1) = match fewK p k with | some x => some x | none => findE p (listsF k [] (pairsL m)) := fun k => by simp only [fewK, hpn] <;> cases fewK p k <;> rfl
  have hthree : 3 ≤ (pairsL m).length → fewP p ≠ none := fun h => fewP_three hok (by
    rcases Nat.lt_or_ge m 3 with h2 | h2
    · have : m = 2 := by omega
      subst this
      exact absurd h (by decide)
    · omega)
  have hput := fun k (hk : k ≤ 2) st => put_meets (g := g) p (pairsL m) k hok hk h15 hpo ((pairsL m).length - 0) [] 0 st rfl (by omega) (by simp; omega) (fun x hx => by cases hx)
  simp only [List.drop_zero] at hput
  generalize pairsL m = P at *
  refine meets_proof_Fewest ?_
  unfold vc_proof_Fewest
  simp [Pg.d, lns, ents]
  refine CALL.val [p.d] _ rfl (proof_isPage_meets p (by omega) (by omega)) (.inl rfl) ?_
  simp [vc_proof_Fewest_k2, hok]
  refine CALL.val [p.d] _ rfl (proof_pairs_meets p) (.inl rfl) ?_
  refine CALL.val [.fn f_proof_pairs_1 [] [pageC p]] _ (by simp [argsD, argD, toD]) hCo (.inl rfl) ?_
  have hw1 := wrap_id (n := (P.length : Int) + 1) (by omega) (by omega)
  simp [vc_proof_Fewest_k1, hw1]
  refine LOOP.mk Nat (fun k => [.ptr 24 0 0 0, .ptr 96 0 0 0, .d (int ((P.length : Int) + 1)), .d (int k)]) (fun _ => [(24, some ⟨0, T_api_ProofPage, .box [.d (int p.people), .d (.list (p.lines.map Ln.d)), .d (.list (p.log.map Nt.d))]⟩), (96, some ⟨0, T_l_api_ProofPair, .box [.d (prsD P)]⟩)])
    (fun k => k ≤ P.length + 1 ∧ k ≤ 3 ∧ fewK p k = none) (fun k => P.length + 1 - k) [] (by simp) 0 ⟨by omega, by omega, rfl⟩ (by simp [WEAK, lookH, prsD]) (fun _ _ => rfl) ?_
  rintro k ⟨hk1, hk3, hnone⟩
  have hKk := hK k
  rw [hnone] at hKk
  have hKk : fewK p (k + 1) = findE p (listsF k [] P) := hKk
  have hw := wrap_id (n := (k : Int) + 1) (by omega) (by omega)
  simp [vc_proof_Fewest_k0]
  refine ⟨fun hlt => ?_, fun hge => ?_⟩
  · have hk2 : k ≤ 2 := by
      rcases Nat.lt_or_ge k 3 with h | h
      · omega
      · have : k = 3 := by omega
        subst this
        exact absurd hnone (hthree (by omega))
    have hC := hput k hk2 none
    have hst : stepF p none (listsF k [] P) = fewK p (k + 1) := hKk.symm
    rw [hst] at hC
    refine CALL.gen [192, 168, 24, 184, 96, 208] [true, false, false, false, false, false, false, false] _ _ _ _ hC rfl (by simp [argsM, argD, toD, AV.ren, rho, prsD]) ?_ ?_ ?_ ?_ ?_
    · simp [preB, SF, metD, fndA, rho, bodyOf, lookH, Body.ren, AV.ren, AV.ren.renL, lns, ents]
    · simp [ids.idsL, ids, preIds, SF, metD, fndA, Body.ids, lowL]
    · simp [lentL, ids, disjB]
    · simp [SF]
    · cases he : fewK p (k + 1) with
      | some x =>
        have hfe : fewP p = some x := by
          have := fewK_mono he (2 - k)
          have e : k + 1 + (2 - k) = 3 := by omega
          rw [e] at this
          exact this
        rw [hfe]
        simp [AV.ren, SF, metD, fndA, upsP, rho, ABlk.ren, Body.ren, AV.ren.renL, lentL, kills, lookH]
      | none =>
        simp [AV.ren, SF, metD, fndA, upsP, rho, ABlk.ren, Body.ren, AV.ren.renL, lentL, kills, lookH, hw]
        exact ⟨k + 1, by omega, by omega, he, by simp [WEAK, lookH, lns, ents], by omega⟩
  · have hkP : k = P.length + 1 := by omega
    have hall : ∀ j, k + j ≤ 3 → fewK p (k + j) = none := fun j => by
      induction j with
      | zero => intro _; exact hnone
      | succ j ih =>
        intro h
        have := ih (by omega)
        show fewK p (k + j + 1) = none
        rw [hK, this]
        show findE p (listsF (k + j) [] P) = none
        rw [listsF_short (by simp; omega)]
        rfl
    have hfe : fewP p = none := by
      have := hall (3 - k) (by omega)
      have e : k + (3 - k) = 3 := by omega
      rw [e] at this
      exact this
    rw [hfe]
    simp [prsD]
end Go.Vc

namespace Go.Vc
open Go Go.Proofs
variable {g : GG}
attribute [local simp] and_assoc
def ltB (x y : Int × Int) : Bool := decide (x.1 < y.1) || (decide (x.1 = y.1) && decide (x.2 < y.2))
theorem ltB_asymm {x y : Int × Int} (h : ltB x y = true) : ltB y x = false := by
  simp only [ltB, Bool.or_eq_true, Bool.and_eq_true, decide_eq_true_eq] at h
  cases hy : ltB y x with
  | false => rfl
  | true =>
    simp only [ltB, Bool.or_eq_true, Bool.and_eq_true, decide_eq_true_eq] at hy
    omega
theorem ltB_irr (x : Int × Int) : ltB x x = false := by
  cases hy : ltB x x with
  | false => rfl
  | true =>
    simp only [ltB, Bool.or_eq_true, Bool.and_eq_true, decide_eq_true_eq] at hy
    omega
theorem pairs_sorted {m : Nat} (hm : m ≤ 6) : (pairsL m).Pairwise (fun x y => ltB x y = true) := by
  rcases m with _ | _ | _ | _ | _ | _ | _ | m
  · decide +kernel
  · decide +kernel
  · decide +kernel
  · decide +kernel
  · decide +kernel
  · decide +kernel
  · decide +kernel
  · omega
theorem mem_pairsL {p : Pg} {a b : Int} (h : pairB p a b = true) : (a, b) ∈ pairsL p.people.toNat := by
  simp only [pairB, persB, inB, Bool.and_eq_true, decide_eq_true_eq] at h
  obtain ⟨⟨h1, h2⟩, ⟨h3, h4⟩, h5⟩ := h
  unfold pairsL pall
  refine List.mem_flatMap.2 ⟨a.toNat, List.mem_range.2 (by omega), ?_⟩
  unfold prow
  refine List.mem_map.2 ⟨(b - a - 1).toNat, List.mem_range.2 (by omega), ?_⟩
  have e1 : ((a.toNat : Nat) : Int) = a := by omega
  have e2 : ((a.toNat + 1 + (b - a - 1).toNat : Nat) : Int) = b := by omega
  rw [e1, e2]
theorem bestX_mem {p : Pg} (hp : 2 ≤ p.people) : (pairsL p.people.toNat)[bestW p]? = some (bestX p) := by
  have hne := pairsL_ne (m := p.people.toNat) (by omega)
  have hble := bestI_le (fun k => (passN p [(pairsL p.people.toNat).getD k (0, 0)] : Int)) ((pairsL p.people.toNat).length - 1)
  have hlt : bestW p < (pairsL p.people.toNat).length := by unfold bestW; omega
  unfold bestX
  rw [List.getD_eq_getElem?_getD, List.getElem?_eq_getElem hlt]; rfl
theorem bestX_ok {p : Pg} (hok : p.ok = true) : pairB p (bestX p).1 (bestX p).2 = true := by
  obtain ⟨a1, _⟩ := Pg.ok_len hok
  exact pairsL_ok (m := p.people.toNat) (by omega) (List.mem_of_getElem? (bestX_mem a1))
theorem best_law {p : Pg} (hok : p.ok = true) {x : Int × Int} (hx : pairB p x.1 x.2 = true) : passN p [x] ≤ passN p [bestX p] ∧ (passN p [x] = passN p [bestX p] → ltB x (bestX p) = false) := by
  obtain ⟨a1, a2, _⟩ := Pg.ok_len hok
  have hm : x ∈ pairsL p.people.toNat := mem_pairsL (a := x.1) (b := x.2) hx
  obtain ⟨j, hj⟩ := List.getElem?_of_mem hm
  have hjl := (List.getElem?_eq_some_iff.1 hj).1
  have hb := bestX_mem (p := p) a1
  have hbl := (List.getElem?_eq_some_iff.1 hb).1
  have hs := pairs_sorted (m := p.people.toNat) (by omega)
  have hF : ∀ i y, (pairsL p.people.toNat)[i]? = some y → (fun k => (passN p [(pairsL p.people.toNat).getD k (0, 0)] : Int)) i = (passN p [y] : Int) := fun i y h => by
    simp only [List.getD_eq_getElem?_getD, h, Option.getD_some]
  have hmax := bestI_max (fun k => (passN p [(pairsL p.people.toNat).getD k (0, 0)] : Int)) ((pairsL p.people.toNat).length - 1) j (by omega)
  have hfst := bestI_first (fun k => (passN p [(pairsL p.people.toNat).getD k (0, 0)] : Int)) ((pairsL p.people.toNat).length - 1) j
  have e : bestI (fun k => (passN p [(pairsL p.people.toNat).getD k (0, 0)] : Int)) ((pairsL p.people.toNat).length - 1) = bestW p := rfl
  rw [e] at hmax hfst
  have hFj := hF j x hj
  have hFb := hF (bestW p) _ hb
  simp only at hFj hFb
  rw [hFj, hFb] at hmax hfst
  refine ⟨by omega, fun heq => ?_⟩
  have hge : bestW p ≤ j := by
    rcases Nat.lt_or_ge j (bestW p) with h | h
    · have := hfst h
      omega
    · exact h
  rcases Nat.eq_or_lt_of_le hge with h | h
  · rw [h, hj] at hb
    injection hb with hb
    rw [← hb]; exact ltB_irr x
  · have := List.pairwise_iff_getElem.1 hs (bestW p) j hbl hjl h
    rw [List.getElem?_eq_getElem hbl] at hb
    rw [List.getElem?_eq_getElem hjl] at hj
    injection hb with hb
    injection hj with hj
    rw [hb, hj] at this
    exact ltB_asymm this
theorem listsF_one : ∀ l : Prs, listsF 1 [] l = l.map fun x => [x]
  | [] => rfl
  | x :: r => by
    rw [listsF_cons (by simp), listsF_one r, listsF_eq (by simp)]
    rfl
theorem afterP_nil (p : Pg) : afterP p [] = p := by simp [afterP, logE]
theorem fewK_one (p : Pg) : fewK p 1 = match allP p with | true => some [] | false => none := by
  have e : enoughB p [] = allP p := by unfold enoughB; rw [afterP_nil]
  simp only [fewK, findE]
  rw [listsF_eq (many := 0) (now := []) rfl]
  simp only [List.find?_cons, List.find?_nil, e]
  all_goals (cases allP p <;> rfl)
def lenIs (n : Nat) (o : Option Prs) : Bool := match o with | some x => decide (x.length = n) | none => false
theorem few_zero (p : Pg) : lenIs 0 (fewP p) = allP p := by
  have h1 := fewK_one p
  cases ha : allP p with
  | true =>
    rw [ha] at h1
    have := fewK_mono h1 2
    have e : fewP p = some [] := this
    rw [e]; rfl
  | false =>
    rw [ha] at h1
    cases hf : fewP p with
    | none => rfl
    | some x =>
      obtain ⟨g1, g2, g3⟩ := fewK_some hf
      cases x with
      | cons y r => simp [lenIs]
      | nil =>
        have e : enoughB p [] = allP p := by unfold enoughB; rw [afterP_nil]
        rw [e, ha] at g3
        cases g3
theorem enough_one (p : Pg) (x : Int × Int) : enoughB p [x] = decide (passN p [x] = p.lines.length) := rfl
theorem few_one {p : Pg} (hok : p.ok = true) : lenIs 1 (fewP p) = (!allP p && decide (passN p [bestX p] = p.lines.length)) := by
  obtain ⟨a1, a2, _⟩ := Pg.ok_len hok
  have h1 := fewK_one p
  cases ha : allP p with
  | true =>
    rw [ha] at h1
    have := fewK_mono h1 2
    have e : fewP p = some [] := this
    rw [e]; rfl
  | false =>
    rw [ha] at h1
    have h1 : fewK p 1 = none := h1
    have h2 : fewK p 2 = findE p (listsF 1 [] (pairsL p.people.toNat)) := by
      show (match fewK p 1 with | some x => some x | none => _) = _
      rw [h1]
    simp only [Bool.not_false, Bool.true_and]
    by_cases hb : passN p [bestX p] = p.lines.length
    · rw [decide_eq_true hb]
      have hm : [bestX p] ∈ listsF 1 [] (pairsL p.people.toNat) := by
        rw [listsF_one]
        exact List.mem_map.2 ⟨bestX p, List.mem_of_getElem? (bestX_mem a1), rfl⟩
      cases hf : findE p (listsF 1 [] (pairsL p.people.toNat)) with
      | none =>
        have := List.find?_eq_none.1 hf _ hm
        exact absurd (by rw [enough_one]; exact decide_eq_true hb) this
      | some x =>
        rw [hf] at h2
        have e : fewP p = some x := fewK_mono h2 1
        have hx := List.mem_of_find?_eq_some hf
        rw [e]
        exact decide_eq_true (listsF_mem hx).1
    · rw [decide_eq_false hb]
      cases hf : fewP p with
      | none => rfl
      | some x =>
        refine decide_eq_false (fun hl => ?_)
        obtain ⟨g1, g2, g3⟩ := fewK_some hf
        rw [hl, listsF_one] at g2
        obtain ⟨y, hy, rfl⟩ := List.mem_map.1 g2
        have hyo := pairsL_ok (p := p) (m := p.people.toNat) (by omega) hy
        have := (best_law hok hyo).1
        have hle := passN_le p [bestX p]
        rw [enough_one] at g3
        have g3 := of_decide_eq_true g3
        omega
end Go.Vc

namespace Go.Vc
open Go Go.Proofs
variable {g : GG}
attribute [local simp] and_assoc
end Go.Vc
