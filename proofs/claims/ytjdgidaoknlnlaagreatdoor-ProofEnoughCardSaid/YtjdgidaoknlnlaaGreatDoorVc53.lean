/- A part of the proof: general laws of a reading of the model by abstract data, or contracts of the functions that the law calls. -/
import Derived.Test.YtjdgidaoknlnlaaGreatDoorVc52
import Derived.Test.YtjdgidaoknlnlaaGreatDoorVc52
import Derived.Test.YtjdgidaoknlnlaaGreatDoorVc52
import Derived.Test.YtjdgidaoknlnlaaGreatDoorVc52
import Derived.Test.YtjdgidaoknlnlaaGreatDoorVc43
import Derived.Test.YtjdgidaoknlnlaaGreatDoorVc24
import Derived.Test.YtjdgidaoknlnlaaGreatDoorVc50
set_option maxRecDepth 100000
namespace Go.Vc
open Go Go.Proofs
variable {g : GG}
attribute [local simp] and_assoc
theorem CALLG.gen {P : Ctx} {cal : Cal} {args : List AV} {new : Nat} {h : Heap} {K KP : List Nat → AV → Heap → Prop} (ks : List Nat) (cal' : Cal) (cs : List Bool) (args' : List AV) (pre : List ABlk) (v : AV) (post : List PB) (h1 : MeetsC P pre args' (.ret v) post cal')
    (h2 : NodupB ks = true) (hc : cal = cal'.ren (rho ks new)) (h3 : argsM (bodyOf h) (rho ks new) cs args args') (h4 : preB (bodyOf h) (rho ks new) ks pre) (h5 : lowL ks.length (cal'.ids ++ ids.idsL args' ++ preIds pre) = true) (h6 : disjB (lentL cs args) ks = true) (h7 : pre.length ≤ post.length ∧ post.length ≤ pre.length + 8)
    (h8 : K (ids.idsL args ++ cal.ids ++ ks) (v.ren (rho ks new)) (upsP (rho ks new) post 0 ++ kills (lentL cs args) ++ h)) : CALLG P cal args new h K KP :=
  ⟨ids.idsL args ++ cal.ids ++ ks, .ok (v.ren (rho ks new)) (upsP (rho ks new) post 0 ++ kills (lentL cs args)), ⟨ks, cal', cs, args', pre, .ret v, post, true, h1, h2, hc, h3, h4, h5, h6, h7.1, h7.2, rfl, fun h => (by cases h), rfl⟩, h8⟩
def prow (a k : Nat) : List (Int × Int) := (List.range k).map fun (b : Nat) => ((a : Int), ((a + 1 + b : Nat) : Int))
def pall (m a : Nat) : List (Int × Int) := (List.range a).flatMap fun (i : Nat) => prow i (m - (i + 1))
def pairsL (m : Nat) : List (Int × Int) := pall m m
theorem prow_succ (a k : Nat) : prow a (k + 1) = prow a k ++ [((a : Int), ((a + 1 + k : Nat) : Int))] := by
  unfold prow; rw [List.range_succ, List.map_append]; rfl
theorem prow_len (a k : Nat) : (prow a k).length = k := by simp [prow]
theorem pall_succ (m a : Nat) : pall m (a + 1) = pall m a ++ prow a (m - (a + 1)) := by
  unfold pall; rw [List.range_succ, List.flatMap_append]; simp
theorem pall_len (m : Nat) : ∀ a, (pall m a).length ≤ a * m
  | 0 => by simp [pall]
  | a + 1 => by
    have := pall_len m a
    rw [pall_succ, List.length_append, prow_len, Nat.succ_mul]
    omega
def pageC (p : Pg) : D := .cp [int p.people, lns p.lines, ents p.log]
theorem proof_pairs_meets (p : Pg) : Meets (Tz g) f_proof_pairs [p.d] ⟨.d (.fn f_proof_pairs_1 [] [pageC p]), []⟩ := by
  refine meets_proof_pairs ?_
  unfold vc_proof_pairs
  simp [Pg.d, pageC, lns, ents]
noncomputable def loopC (i : Nat) : LoopA := ⟨.ready, none, 13, [(2, .ptr i 0 0 0)], [7], rfA_slices_AppendSeq_l_api_ProofPair_api_ProofPair, rfB_slices_AppendSeq_l_api_ProofPair_api_ProofPair⟩
noncomputable def SC (xs : List D) : List ABlk := [⟨0, 0, .loop (loopC 1)⟩, ⟨0, T_l_api_ProofPair, .box [.own 2 xs.length]⟩, ⟨xs.length, T_api_ProofPair, .lst xs⟩]
theorem roundC_meets (xs : List D) (x : Int × Int) (hx : xs.length < 1000000) : MeetsY (Tz g) 0 (SC xs) [.d (missD x)] (.ret (.d (.bool true))) ((SC (xs ++ [missD x])).map .upd) := by
  refine meetsY_slices_AppendSeq_l_api_ProofPair_api_ProofPair (k2 := .ptr 1 0 0 0) (e := 0) (by simp [SC, loopC]) rfl ?_
  unfold vcr_slices_AppendSeq_l_api_ProofPair_api_ProofPair
  simp [SC, missD, RDA, loopC, RDB, stOf]
  refine ⟨by omega, ?_⟩
  exact ⟨[], by simp [ENDR, yv, yv.yvL, yh, yb, yver, yvT, bodyOf, fz, fz.fzL, fzH, fzB, fzT, stay, src, lookH, NodupB, disjB, argD, toD]⟩
def pmD (m a : Nat) : List D := (pall m a).map missD
def pmk (m a k : Nat) : List D := (pall m a ++ prow a k).map missD
theorem pmk_zero (m a : Nat) : pmk m a 0 = pmD m a := by simp [pmk, pmD, prow]
theorem pmk_succ (m a k : Nat) : pmk m a k ++ [missD ((a : Int), (a : Int) + 1 + k)] = pmk m a (k + 1) := by
  unfold pmk
  rw [prow_succ]; simp [missD]
theorem pmk_end (m a : Nat) : pmk m a (m - (a + 1)) = pmD m (a + 1) := by unfold pmk pmD; rw [pall_succ]
theorem pmk_len (m a k : Nat) (ha : a ≤ 6) (hm : m ≤ 6) (hk : k ≤ 6) : (pmk m a k).length ≤ 100 := by
  have hpl := pall_len m a
  have hpl2 : a * m ≤ 36 := Nat.le_trans (Nat.mul_le_mul ha hm) (by omega)
  simp [pmk, prow_len]; omega
set_option maxHeartbeats 4000000 in
theorem pairs_1_C (p : Pg) (m : Nat) (hp : p.people = m) (hm : m ≤ 6) : MeetsH (Tz g) f_proof_pairs_1 (SC []) [.yld 0, .d (pageC p)] (.ret (.tup [])) ((SC (pmD m m)).map .upd) := by
  refine meetsH_proof_pairs_1 rfl ?_
  unfold vc_proof_pairs_1
  have h00 : pmD m 0 = [] := rfl
  simp [SC, pageC, hp]
  refine LOOP.mk Nat (fun a => [.yld 0, .d (pageC p), .d (int m), .d (int a)]) (fun a => numbered 0 (SC (pmD m a)))
    (fun a => a ≤ m) (fun a => m - a) [] (by simp) 0 (by omega) (by simp [WEAK, lookH, h00, SC, numbered, pageC, hp]) (fun _ _ => rfl) ?_
  intro a ha
  have hw := wrap_id (n := (a : Int) + 1) (by omega) (by omega)
  simp [vc_proof_pairs_1_k1]
  refine ⟨fun hlt => ?_, fun hge => ?_⟩
  · rw [hw]
    refine LOOP.mk Nat (fun k => [.yld 0, .d (pageC p), .d (int a), .d (int ((a : Int) + 1 + k)), .d (int m), .d (int a)]) (fun k => numbered 0 (SC (pmk m a k)))
      (fun k => k ≤ m - (a + 1)) (fun k => m - (a + 1) - k) [] (by simp) 0 (by omega) (by simp [WEAK, lookH, pmk_zero, SC, numbered]) (fun _ _ => rfl) ?_
    intro k hk
    have hwk := wrap_id (n := (a : Int) + 1 + k + 1) (by omega) (by omega)
    have hkl := pmk_len m a k (by omega) hm (by omega)
    have hR := roundC_meets (g := g) (pmk m a k) ((a : Int), (a : Int) + 1 + k) (by omega)
    rw [pmk_succ] at hR
    simp [vc_proof_pairs_1_k0, pageC, hp, SC, numbered]
    refine ⟨fun hlt2 => ?_, fun hge2 => ?_⟩
    · refine CALLG.gen [0, 1, 2] (.yld 0) [false] [.d (missD ((a : Int), (a : Int) + 1 + k))] (SC (pmk m a k)) _ _ hR rfl rfl (by simp [argsM, missD, AV.ren]) ?_ ?_ ?_ ?_ ?_
      · simp [preB, SC, loopC, rho, bodyOf, lookH, Body.ren, AV.ren, AV.ren.renL, renT]
      · simp [Cal.ids, ids.idsL, ids, preIds, SC, loopC, Body.ids, tmpIds, lowL]
      · simp [lentL, disjB]
      · simp [SC]
      · simp [AV.ren, SC, upsP, rho, ABlk.ren, Body.ren, AV.ren.renL, renT, loopC, lentL, kills, hwk]
        refine ⟨k + 1, by omega, ?_, by omega⟩
        simp [WEAK, lookH]
        omega
    · have hkm : k = m - (a + 1) := by omega
      simp [hw]
      refine ⟨a + 1, by omega, ?_, by omega⟩
      rw [hkm, pmk_end]
      simp [WEAK, lookH]
  · have : a = m := by omega
    subst this
    exact ⟨[], by simp [SC, loopC, ENDR, yv, yv.yvL, yh, yb, yver, yvT, bodyOf, fz, fz.fzL, fzH, fzB, fzT, stay, src, lookH, NodupB, disjB]⟩
set_option maxHeartbeats 2000000 in
theorem AppendSeq_meets (p : Pg) (m : Nat) (hp : p.people = m) (hm : m ≤ 6) : MeetsH (Tz g) f_slices_AppendSeq_l_api_ProofPair_api_ProofPair [] [.zc, .d (.fn f_proof_pairs_1 [] [pageC p])] (.ret (.d (.list ((pairsL m).map missD)))) [] := by
  refine meetsH_slices_AppendSeq_l_api_ProofPair_api_ProofPair rfl ?_
  unfold vc_slices_AppendSeq_l_api_ProofPair_api_ProofPair
  simp [CALLF]
  have hw : MeetsH (Tz g) f_proof_pairs_1 [⟨0, 0, .loop (loopC 1)⟩, ⟨0, T_l_api_ProofPair, .box [.zc]⟩] [.yld 0, .d (pageC p)] (.ret (.tup [])) ((SC (pmD m m)).map .upd) :=
    MeetsH.weak (pairs_1_C p m hp hm) ⟨[none], by simp [SC, loopC, numbered, ENDR, yv, yv.yvL, yh, yb, yver, yvT, bodyOf, fz, fz.fzL, fzH, fzB, fzT, stay, src, lookH, NodupB, disjB, argD, toD]⟩ (by simp [SC, noSame]) (by simp)
  refine CALL.gen [48, 24] [false, false] [.yld 0, .d (pageC p)] _ _ _ hw rfl (by simp [argsM, AV.ren, rho]) ?_ ?_ ?_ ?_ ?_
  · simp [preB, loopC, rho, bodyOf, lookH, Body.ren, AV.ren, AV.ren.renL, renT]
  · simp [ids.idsL, ids, preIds, loopC, Body.ids, tmpIds, lowL]
  · simp [lentL, disjB]
  · simp [SC]
  · simp [AV.ren, SC, upsP, rho, ABlk.ren, Body.ren, AV.ren.renL, renT, loopC, lentL, kills, lookH, pmD, pairsL]
theorem Collect_meets (p : Pg) (m : Nat) (hp : p.people = m) (hm : m ≤ 6) : Meets (Tz g) f_slices_Collect_api_ProofPair [.fn f_proof_pairs_1 [] [pageC p]] ⟨.d (.list ((pairsL m).map missD)), []⟩ := by
  refine meets_slices_Collect_api_ProofPair ?_
  unfold vc_slices_Collect_api_ProofPair
  refine CALL.gen [] [false, false] [.zc, .d (.fn f_proof_pairs_1 [] [pageC p])] [] _ _ (AppendSeq_meets p m hp hm) rfl (by simp [argsM, AV.ren]) (by simp [preB]) (by simp [ids.idsL, ids, preIds, lowL]) (by simp [lentL, disjB]) (by simp) ?_
  simp [AV.ren, upsP, lentL, kills]
end Go.Vc

namespace Go.Vc
open Go Go.Proofs
variable {g : GG}
attribute [local simp] and_assoc
def readE (p : Pg) (x : Int × Int) : Nt := ⟨1, [x.1, x.2, 0, (p.lines.length : Int) - 1]⟩
def afterP (p : Pg) (l : List (Int × Int)) : Pg := logE p (p.log ++ l.map (readE p))
theorem readE_ok {p : Pg} (hok : p.ok = true) {x : Int × Int} (hx : pairB p x.1 x.2 = true) : entB p (readE p x) = true := by
  obtain ⟨a1, a2, a3, a4, _⟩ := Pg.ok_len hok
  simp only [pairB, Bool.and_eq_true] at hx
  obtain ⟨h1, h2, h3⟩ := hx
  have hl : lineB p 0 = true := by simp [lineB, inB]; omega
  have hl2 : lineB p ((p.lines.length : Int) - 1) = true := by simp [lineB, inB]; omega
  have hd : decide ((0 : Int) ≤ (p.lines.length : Int) - 1) = true := decide_eq_true (by omega)
  simp only [entB, readE, h1, h2, h3, hl, hl2, hd, Bool.and_true, decide_true]
theorem afterP_mem {p : Pg} (hok : p.ok = true) {l : List (Int × Int)} (hx : ∀ x, x ∈ l → pairB p x.1 x.2 = true) : ∀ e, e ∈ p.log ++ l.map (readE p) → entB p e = true := fun e he => by
  rcases List.mem_append.1 he with h | h
  · exact (Pg.ok_len hok).2.2.2.2.2.2 e h
  · obtain ⟨x, h1, rfl⟩ := List.mem_map.1 h
    exact readE_ok hok (hx x h1)
theorem afterP_okw {p : Pg} (hok : p.ok = true) {l : List (Int × Int)} (hl : l.length ≤ 10) (hx : ∀ x, x ∈ l → pairB p x.1 x.2 = true) : (afterP p l).okw = true :=
  logE_okw hok (by have := (Pg.ok_len hok).2.2.2.2.1; simp; omega) (afterP_mem hok hx)
theorem clone_ents (L : List Nt) (h : L.length ≤ 1000) : Meets (Tz g) f_slices_Clone_l_api_ProofEntry_api_ProofEntry [.list (L.map Nt.d)] ⟨.own 0 0, [⟨0, T_api_ProofEntry, .lst (L.map Nt.d)⟩]⟩ :=
  clone_ProofEntry_X _ _ _ (by
    have h1 : (L.map Nt.d).all (fun y => Nat.beq y.cells.length 2) = true := by
      rw [List.all_eq_true]
      intro y hy
      obtain ⟨e, _, rfl⟩ := List.mem_map.1 hy
      rfl
    have h2 : Nat.ble (L.map Nt.d).length 1000000 = true := Nat.ble_eq_true_of_le (by simp; omega)
    simp only [List.map_cons, List.map_nil, cloneX, h1, h2, Bool.and_true])
theorem clone_pairs (L : List (Int × Int)) (h : L.length ≤ 1000) : Meets (Tz g) f_slices_Clone_l_api_ProofPair_api_ProofPair [.list (L.map missD)] ⟨.own 0 0, [⟨0, T_api_ProofPair, .lst (L.map missD)⟩]⟩ :=
  clone_ProofPair_X _ _ _ (by
    have h1 : (L.map missD).all (fun y => Nat.beq y.cells.length 2) = true := by
      rw [List.all_eq_true]
      intro y hy
      obtain ⟨e, _, rfl⟩ := List.mem_map.1 hy
      rfl
    have h2 : Nat.ble (L.map missD).length 1000000 = true := Nat.ble_eq_true_of_le (by simp; omega)
    simp only [List.map_cons, List.map_nil, cloneX, h1, h2, Bool.and_true])
def logK (p : Pg) (l : List (Int × Int)) (k : Nat) : List D := (p.log ++ (l.take k).map (readE p)).map Nt.d
theorem logK_succ {p : Pg} {l : List (Int × Int)} {k : Nat} {x : Int × Int} (h : l[k]? = some x) : logK p l (k + 1) = logK p l k ++ [(readE p x).d] := by
  unfold logK
  rw [take_next h]
  simp
set_option maxHeartbeats 4000000 in
theorem after_meets (p : Pg) (l : List (Int × Int)) (hok : p.ok = true) (hl : l.length ≤ 10) (hx : ∀ x, x ∈ l → pairB p x.1 x.2 = true) : MeetsH (Tz g) f_proof_after [] [.d p.d, .d (.list (l.map missD))] (.ret (.ptr 0 0 0 0)) ((stBlks 0 (fun _ => 0) (afterP p l) (stN (afterP p l) (afterP p l).log.length)).map .upd) := by
  obtain ⟨a1, a2, a3, a4, a5, a6, a7⟩ := Pg.ok_len hok
  have hP := W9.pageOf_meets (g := g) (afterP p l) (afterP_okw hok hl hx)
  have hL0 : logK p l 0 = p.log.map Nt.d := by simp [logK]
  have hLn : logK p l l.length = (afterP p l).log.map Nt.d := by simp [logK, afterP, logE]
  have hlen : ∀ k, (logK p l k).length ≤ 20 := fun k => by
    have := List.length_take_le k l
    have := List.length_take_le' k l
    simp [logK]
    omega
  refine meetsH_proof_after rfl ?_
  unfold vc_proof_after
  simp [Pg.d, lns, ents]
  refine CALL.mk [.list (p.log.map Nt.d)] _ rfl (clone_ents p.log (by omega)) (.inl rfl) (by simp) ?_
  simp
  refine LOOP.mk Nat (fun k => [.ptr 24 0 0 0, .d (.list (l.map missD)), .d (int l.length), .d (int k)]) (fun k => [(24, some ⟨0, T_api_ProofPage, .box [.d (int p.people), .d (.list (p.lines.map Ln.d)), .own 56 k]⟩), (56, some ⟨k, T_api_ProofEntry, .lst (logK p l k)⟩)])
    (fun k => k ≤ l.length) (fun k => l.length - k) [] (by simp) 0 (by omega) (by simp [WEAK, lookH, hL0]) (fun _ _ => rfl) ?_
  intro k hk
  have hw := wrap_id (n := (k : Int) + 1) (by omega) (by omega)
  have hwl := wrap_id (n := (p.lines.length : Int) - 1) (by omega) (by omega)
  have hkl := hlen k
  simp [vc_proof_after_k0]
  refine ⟨fun hlt => ?_, fun hge => ?_⟩
  · obtain ⟨x, hg⟩ : ∃ x, l[k]? = some x := ⟨_, List.getElem?_eq_getElem hlt⟩
    have hs := logK_succ (p := p) hg
    obtain ⟨x1, x2⟩ := x
    simp [hg, missD, lookH, hw, hwl]
    refine ⟨by omega, k + 1, by omega, ?_, by omega⟩
    simp [WEAK, lookH, hs, readE, Nt.d, ints]
  · have : k = l.length := by omega
    subst this
    rw [hLn]
    simp only [stBlks, stBox] at hP
    generalize hq : stN (afterP p l) (afterP p l).log.length = s at hP ⊢
    refine CALL.gen [] [true] [.d (afterP p l).d] [] _ _ hP rfl (by simp [argsM, argD, toD, Pg.d, lns, ents, afterP, logE, lookH]) (by simp [preB]) (by simp [lowL, ids.idsL, ids, preIds]) (by simp [lentL, ids, disjB]) (by simp) ?_
    simp [AV.ren, AV.ren.renL, stBlks, stBox, upsP, rho, ABlk.ren, Body.ren, lentL, kills]
    exact ⟨[some 128, some 129, some 130, some 131, some 132, some 133], by simp [ENDR, yv, yv.yvL, yh, yb, yver, bodyOf, fz, fz.fzL, fzH, fzB, stay, src, lookH, NodupB, disjB, argD, toD]⟩
end Go.Vc

namespace Go.Vc
open Go Go.Proofs
variable {g : GG}
attribute [local simp] and_assoc
def triD (t : Int × Int × Int) : D := .agg [int t.1, int t.2.1, int t.2.2]
@[simp] theorem triD_cells (t : Int × Int × Int) : (triD t).cells = [int t.1, int t.2.1, int t.2.2] := rfl
end Go.Vc

namespace Go.Vc
open Go Go.Proofs
variable {g : GG}
attribute [local simp] and_assoc
end Go.Vc

namespace Go.Vc
open Go Go.Proofs
variable {g : GG}
attribute [local simp] and_assoc
theorem ref09_Whole_meets (p : Pg) (x : Int × Int) (hl : p.lines.length ≤ 1000) : Meets (Tz g) f_ref09_Whole [p.d, int x.1, int x.2] ⟨.d (readE p x).d, []⟩ := by
  have hw := wrap_id (n := (p.lines.length : Int) - 1) (by omega) (by omega)
  refine meets_ref09_Whole ?_
  unfold vc_ref09_Whole
  simp [Pg.d, lns, ents, hw, readE, Nt.d, ints]
theorem pairsL_ok {p : Pg} {m : Nat} (hm : p.people = m) {x : Int × Int} (h : x ∈ pairsL m) : pairB p x.1 x.2 = true := by
  unfold pairsL pall at h
  obtain ⟨a, ha, h⟩ := List.mem_flatMap.1 h
  have ha := List.mem_range.1 ha
  unfold prow at h
  obtain ⟨k, hk, rfl⟩ := List.mem_map.1 h
  have hk := List.mem_range.1 hk
  simp [pairB, persB, inB]
  omega
def enoughB (p : Pg) (l : List (Int × Int)) : Bool := allP (afterP p l)
theorem afterP_next {p : Pg} {l : List (Int × Int)} {k : Nat} {x : Int × Int} (h : l[k]? = some x) : withE (afterP p (l.take k)) (readE (afterP p (l.take k)) x) = afterP p (l.take (k + 1)) := by
  have e : readE (afterP p (l.take k)) x = readE p x := rfl
  rw [e, take_next h]
  simp [withE, afterP, logE]
end Go.Vc

namespace Go.Vc
open Go Go.Proofs
variable {g : GG}
attribute [local simp] and_assoc
abbrev Prs := List (Int × Int)
theorem drop_at {α : Type} {L : List α} {i : Nat} {e : α} (hg : L[i]? = some e) : L.drop i = e :: L.drop (i + 1) := by
  obtain ⟨h1, h2⟩ := List.getElem?_eq_some_iff.1 hg
  rw [List.drop_eq_getElem_cons h1, h2]
def prsD (l : Prs) : D := .list (l.map missD)
@[simp] theorem prsD_cells (l : Prs) : (prsD l).cells = [prsD l] := rfl
def listsF (many : Nat) : Prs → Prs → List Prs
  | now, [] => match decide (now.length = many) with | true => [now] | false => []
  | now, x :: r => match decide (now.length = many) with | true => [now] | false => listsF many (now ++ [x]) r ++ listsF many now r
theorem listsF_eq {many : Nat} {now l : Prs} (h : now.length = many) : listsF many now l = [now] := by
  cases l <;> simp [listsF, h]
theorem listsF_cons {many : Nat} {now r : Prs} {x : Int × Int} (h : now.length ≠ many) : listsF many now (x :: r) = listsF many (now ++ [x]) r ++ listsF many now r := by
  simp [listsF, h]
theorem listsF_nil {many : Nat} {now : Prs} (h : now.length ≠ many) : listsF many now [] = [] := by simp [listsF, h]
theorem listsF_mem {many : Nat} : ∀ {l now x : Prs}, x ∈ listsF many now l → x.length = many ∧ ∀ y, y ∈ x → y ∈ now ∨ y ∈ l
  | [], now, x, h => by
    simp only [listsF] at h
    split at h
    · rename_i hd
      simp at h hd
      subst h
      exact ⟨hd, fun y hy => .inl hy⟩
    · cases h
  | a :: r, now, x, h => by
    simp only [listsF] at h
    split at h
    · rename_i hd
      simp at h hd
      subst h
      exact ⟨hd, fun y hy => .inl hy⟩
    · rcases List.mem_append.1 h with h | h
      · obtain ⟨h1, h2⟩ := listsF_mem h
        refine ⟨h1, fun y hy => ?_⟩
        rcases h2 y hy with h3 | h3
        · rcases List.mem_append.1 h3 with h4 | h4
          · exact .inl h4
          · right; simp at h4; rw [h4]; exact List.mem_cons_self
        · exact .inr (List.mem_cons_of_mem _ h3)
      · obtain ⟨h1, h2⟩ := listsF_mem h
        exact ⟨h1, fun y hy => (h2 y hy).imp id (List.mem_cons_of_mem _)⟩
def listsK (many : Nat) (now l : Prs) : Nat → List Prs
  | 0 => []
  | i + 1 => listsK many now l i ++ (match l[i]? with | some x => listsF many (now ++ [x]) (l.drop (i + 1)) | none => [])
theorem listsK_all {many : Nat} {now l : Prs} (h : now.length ≠ many) : ∀ i, i ≤ l.length → listsK many now l i ++ listsF many now (l.drop i) = listsF many now l
  | 0, _ => by simp [listsK]
  | i + 1, hi => by
    have ih := listsK_all (l := l) h i (by omega)
    have hg : l[i]? = some l[i] := List.getElem?_eq_getElem (by omega)
    rw [drop_at hg, listsF_cons h] at ih
    simp only [listsK, hg, List.append_assoc]
    exact ih
theorem listsK_end {many : Nat} {now l : Prs} (h : now.length ≠ many) : listsK many now l l.length = listsF many now l := by
  have := listsK_all (l := l) h l.length (Nat.le_refl _)
  rw [List.drop_length, listsF_nil h, List.append_nil] at this
  exact this
end Go.Vc

namespace Go.Vc
open Go Go.Proofs
variable {g : GG}
attribute [local simp] and_assoc
theorem pairsL_15 {m : Nat} (hm : m ≤ 6) : (pairsL m).length ≤ 15 := by
  rcases m with _ | _ | _ | _ | _ | _ | _ | m
  · decide
  · decide
  · decide
  · decide
  · decide
  · decide
  · decide
  · omega
def findE (p : Pg) (L : List Prs) : Option Prs := L.find? (enoughB p)
def fewK (p : Pg) : Nat → Option Prs
  | 0 => none
  | k + 1 => match fewK p k with | some x => some x | none => findE p (listsF k [] (pairsL p.people.toNat))
theorem fewK_mono {p : Pg} {k : Nat} {x : Prs} (h : fewK p k = some x) : ∀ j, fewK p (k + j) = some x
  | 0 => h
  | j + 1 => by
    have := fewK_mono h j
    show fewK p (k + j + 1) = some x
    simp only [fewK, this]
def fewP (p : Pg) : Option Prs := fewK p 3
theorem fewK_some {p : Pg} : ∀ {k : Nat} {x : Prs}, fewK p k = some x → x.length < k ∧ x ∈ listsF x.length [] (pairsL p.people.toNat) ∧ enoughB p x = true
  | 0, x, h => by cases h
  | k + 1, x, h => by
    simp only [fewK] at h
    cases hk : fewK p k with
    | some y =>
      rw [hk] at h
      injection h with h
      subst h
      obtain ⟨h1, h2⟩ := fewK_some hk
      exact ⟨by omega, h2⟩
    | none =>
      rw [hk] at h
      have h : findE p (listsF k [] (pairsL p.people.toNat)) = some x := h
      have hm := List.mem_of_find?_eq_some h
      have hl := (listsF_mem hm).1
      rw [hl]
      exact ⟨by omega, hm, List.find?_some h⟩
theorem fewP_ok {p : Pg} (hok : p.ok = true) {x : Prs} (h : fewP p = some x) : x.length ≤ 2 ∧ ∀ y, y ∈ x → pairB p y.1 y.2 = true := by
  obtain ⟨a1, a2, _⟩ := Pg.ok_len hok
  obtain ⟨h1, h2, _⟩ := fewK_some h
  refine ⟨by omega, fun y hy => ?_⟩
  rcases (listsF_mem h2).2 y hy with h3 | h3
  · cases h3
  · exact pairsL_ok (m := p.people.toNat) (by omega) h3
end Go.Vc

namespace Go.Vc
open Go Go.Proofs
variable {g : GG}
attribute [local simp] and_assoc
def stepF (p : Pg) (st : Option Prs) (L : List Prs) : Option Prs := match st with | some x => some x | none => findE p L
theorem stepF_append (p : Pg) (st : Option Prs) (L M : List Prs) : stepF p st (L ++ M) = stepF p (stepF p st L) M := by
  cases st with
  | some x => rfl
  | none =>
    simp only [stepF, findE]
    rw [List.find?_append]
    all_goals (cases List.find? (enoughB p) L <;> rfl)
def metD (st : Option Prs) : AV := .d (.bool st.isSome)
def fndA (st : Option Prs) : AV := match st with | some x => .d (prsD x) | none => .zc
noncomputable def SF (p : Pg) (all : Prs) (many : Nat) (st : Option Prs) : List ABlk := [⟨0, T_bool, .box [metD st]⟩, ⟨0, T_int, .box [.d (int many)]⟩, ⟨0, T_api_ProofPage, .box [.d (int p.people), .d (lns p.lines), .d (ents p.log)]⟩, ⟨0, T_l_api_ProofPair, .box [fndA st]⟩, ⟨0, T_l_api_ProofPair, .box [.d (prsD all)]⟩, ⟨0, T_func_l_api_ProofPair_int, .box [.fn f_proof_Fewest_1 [] [.ptr 0 0 0 0, .ptr 1 0 0 0, .ptr 2 0 0 0, .ptr 3 0 0 0, .ptr 4 0 0 0, .ptr 5 0 0 0]]⟩]
theorem put_met (p : Pg) (all now : Prs) (many : Nat) (from' : Int) (x : Prs) : MeetsH (Tz g) f_proof_Fewest_1 (SF p all many (some x)) [.d (prsD now), .d (int from'), .ptr 0 0 0 0, .ptr 1 0 0 0, .ptr 2 0 0 0, .ptr 3 0 0 0, .ptr 4 0 0 0, .ptr 5 0 0 0] (.ret (.tup [])) ((SF p all many (some x)).map .upd) := by
  refine meetsH_proof_Fewest_1 rfl ?_
  unfold vc_proof_Fewest_1
  simp [SF, metD, fndA, numbered, lookH, vc_proof_Fewest_1_k3]
  exact ⟨[], by simp [ENDR, yv, yv.yvL, yh, yb, yver, bodyOf, fz, fz.fzL, fzH, fzB, stay, src, lookH, NodupB, disjB, argD, toD]⟩
set_option maxHeartbeats 8000000 in
theorem put_enough (p : Pg) (all now : Prs) (many : Nat) (from' : Int) (hok : p.ok = true) (hm : many ≤ 2) (hl : now.length = many) (hx : ∀ x, x ∈ now → pairB p x.1 x.2 = true) : MeetsH (Tz g) f_proof_Fewest_1 (SF p all many none) [.d (prsD now), .d (int from'), .ptr 0 0 0 0, .ptr 1 0 0 0, .ptr 2 0 0 0, .ptr 3 0 0 0, .ptr 4 0 0 0, .ptr 5 0 0 0] (.ret (.tup [])) ((SF p all many (findE p [now])).map .upd) := by
  have hokw := afterP_okw hok (l := now) (by omega) hx
  have hA := after_meets (g := g) p now hok (by omega) hx
  have hps := (W9.stN_ok hokw _ (Nat.le_refl _)).1
  have hC := W9.passes_meets (g := g) _ _ hokw hps
  have hb : allB (afterP p now) (stN (afterP p now) (afterP p now).log.length) = enoughB p now := rfl
  rw [hb] at hC
  have hf : findE p [now] = match enoughB p now with | true => some now | false => none := by
    simp only [findE, List.find?_cons, List.find?_nil]
    all_goals (cases enoughB p now <;> rfl)
  generalize stN (afterP p now) (afterP p now).log.length = s at hA hC
  refine meetsH_proof_Fewest_1 rfl ?_
  unfold vc_proof_Fewest_1
  simp [SF, metD, fndA, numbered, lookH, vc_proof_Fewest_1_k4, prsD, hl]
  refine CALL.gen [] [false, false] [.d p.d, .d (prsD now)] [] _ _ hA rfl (by simp [argsM, Pg.d, prsD, AV.ren]) (by simp [preB]) (by simp [lowL, ids.idsL, ids, preIds]) (by simp [lentL, disjB]) (by simp [stBlks]) ?_
  simp [AV.ren, AV.ren.renL, stBlks, stBox, upsP, rho, ABlk.ren, Body.ren, lentL, kills]
  refine CALL.gen [120, 121, 122, 123, 124, 125] [false] [.ptr 0 0 0 0] (stBlks 0 (fun _ => 0) (afterP p now) s) _ _ hC rfl (by simp [argsM, AV.ren, rho]) ?_ ?_ ?_ ?_ ?_
  · simp [preB, stBlks, stBox, rho, bodyOf, lookH, Body.ren, AV.ren, AV.ren.renL]
  · simp [ids.idsL, ids, preIds, stBlks, stBox, Body.ids, lowL]
  · simp [lentL, disjB]
  · simp [stBlks, sames]
  · rw [hf]
    cases he : enoughB p now with
    | true =>
      simp [AV.ren, sames, upsP, lentL, kills, lookH]
      exact ⟨[], by simp [ENDR, yv, yv.yvL, yh, yb, yver, bodyOf, fz, fz.fzL, fzH, fzB, stay, src, lookH, NodupB, disjB, argD, toD]⟩
    | false =>
      simp [AV.ren, sames, upsP, lentL, kills, lookH]
      exact ⟨[], by simp [ENDR, yv, yv.yvL, yh, yb, yver, bodyOf, fz, fz.fzL, fzH, fzB, stay, src, lookH, NodupB, disjB, argD, toD]⟩
end Go.Vc

namespace Go.Vc
open Go Go.Proofs
variable {g : GG}
attribute [local simp] and_assoc
set_option maxHeartbeats 16000000 in
theorem put_meets (p : Pg) (all : Prs) (many : Nat) (hok : p.ok = true) (hm : many ≤ 2) (hal : all.length ≤ 15) (hall : ∀ x, x ∈ all → pairB p x.1 x.2 = true) :
    ∀ (d : Nat) (now : Prs) (fr : Nat) (st : Option Prs), all.length - fr = d → fr ≤ all.length → now.length + d ≤ 100 → (∀ x, x ∈ now → pairB p x.1 x.2 = true) →
      MeetsH (Tz g) f_proof_Fewest_1 (SF p all many st) [.d (prsD now), .d (int fr), .ptr 0 0 0 0, .ptr 1 0 0 0, .ptr 2 0 0 0, .ptr 3 0 0 0, .ptr 4 0 0 0, .ptr 5 0 0 0] (.ret (.tup [])) ((SF p all many (stepF p st (listsF many now (all.drop fr)))).map .upd) := by
  intro d
  induction d using Nat.strongRecOn with
  | _ d ih =>
  intro now fr st hd hfr hn hx
  cases st with
  | some x => exact put_met p all now many fr x
  | none =>
  by_cases h : now.length = many
  · rw [listsF_eq h]
    exact put_enough p all now many fr hok hm h hx
  have hz : ¬ ((now.length : Int) = (many : Int)) := by omega
  obtain ⟨l, hl⟩ : ∃ l, l = all.drop fr := ⟨_, rfl⟩
  have hll : l.length = all.length - fr := by rw [hl]; simp
  have hend := listsK_end (l := l) h
  rw [← hl, ← hend]
  refine meetsH_proof_Fewest_1 rfl ?_
  unfold vc_proof_Fewest_1
  simp [SF, metD, fndA, numbered, lookH, vc_proof_Fewest_1_k4, prsD, hz]
  refine LOOP.mk Nat (fun j => [.d (prsD now), .ptr 4 0 0 0, .ptr 5 0 0 0, .d (int ((fr : Int) + j))]) (fun j => numbered 0 (SF p all many (stepF p none (listsK many now l j))))
    (fun j => j ≤ l.length) (fun j => l.length - j) [] (by simp) 0 (by omega) (by simp [WEAK, lookH, SF, numbered, metD, fndA, prsD, listsK, stepF, findE]) (fun j _ => by generalize stepF p none (listsK many now l j) = st; cases st <;> rfl) ?_
  intro j hj
  have hw := wrap_id (n := (fr : Int) + j + 1) (by omega) (by omega)
  refine id ?_
  by_cases hlt : j < l.length
  · obtain ⟨x, hg⟩ : ∃ x, l[j]? = some x := ⟨_, List.getElem?_eq_getElem hlt⟩
    have hga : all[fr + j]? = some x := by rw [hl, List.getElem?_drop] at hg; exact hg
    have hdr : all.drop (fr + j + 1) = l.drop (j + 1) := by rw [hl, List.drop_drop]; congr 1
    have hS : stepF p none (listsK many now l (j + 1)) = stepF p (stepF p none (listsK many now l j)) (listsF many (now ++ [x]) (l.drop (j + 1))) := by
      rw [← stepF_append]
      simp only [listsK, hg]
    have hxa := hall x (List.mem_of_getElem? hga)
    have hI := fun st => ih (all.length - (fr + j + 1)) (by omega) (now ++ [x]) (fr + j + 1) st rfl (by omega) (by simp; omega) (fun y hy => by
      rcases List.mem_append.1 hy with hy | hy
      · exact hx y hy
      · simp at hy; rw [hy]; exact hxa)
    rw [hdr] at hI
    have hI := hI (stepF p none (listsK many now l j))
    rw [← hS] at hI
    have hIc : ((fr + j + 1 : Nat) : Int) = (fr : Int) + j + 1 := by omega
    rw [hIc] at hI
    have hlt2 : (fr : Int) + j < all.length := by omega
    have htn : ((fr : Int) + j).toNat = fr + j := by omega
    obtain ⟨x1, x2⟩ := x
    generalize hS2 : stepF p none (listsK many now l (j + 1)) = st2 at hI
    generalize stepF p none (listsK many now l j) = st1 at hI ⊢
    have key : ∀ (a b : AV), (∀ ρ, a.ren ρ = a) → (∀ ρ, b.ren ρ = b) → True := fun _ _ _ _ => trivial
    have hcut : (∀ X : Prop, ((all.length : Int) ≤ (fr : Int) + j → X)) := fun X hx => absurd hx (by omega)
    cases st1 <;> cases st2
    all_goals simp [vc_proof_Fewest_1_k2, SF, numbered, metD, fndA, prsD, lookH, hlt2]
    all_goals refine ⟨?_, fun h => absurd h (by omega)⟩
    all_goals refine CALL.mk [prsD now] _ rfl (clone_pairs now (by omega)) (.inl rfl) (by simp) ?_
    all_goals simp [vc_proof_Fewest_1_k1, lookH, hga, htn, missD, hw]
    all_goals refine ⟨by omega, by omega, ?_⟩
    all_goals refine CALL.gen [0, 1, 2, 3, 4, 5] [true, false, false, false, false, false, false, false] _ _ _ _ hI rfl (by simp [argsM, argD, toD, lookH, AV.ren, rho, prsD, missD]) ?_ ?_ ?_ ?_ ?_
    all_goals first | (simp [preB, SF, metD, fndA, rho, bodyOf, lookH, Body.ren, AV.ren, AV.ren.renL, prsD]; done) | (simp [ids.idsL, ids, SF, metD, fndA]; done) | (simp [lentL, ids]; done) | (simp [SF]; done) | skip
    all_goals simp [AV.ren, SF, metD, fndA, upsP, rho, ABlk.ren, Body.ren, AV.ren.renL, lentL, kills, vc_proof_Fewest_1_k0, hw]
    all_goals refine ⟨rfl, j + 1, by omega, ?_, by omega⟩
    all_goals rw [hS2]
    all_goals simp [WEAK, lookH, prsD]
    all_goals omega
  · have : j = l.length := by omega
    subst this
    have hnl : ¬ ((fr : Int) + l.length < all.length) := by omega
    generalize stepF p none (listsK many now l l.length) = st1
    cases st1
    all_goals simp [vc_proof_Fewest_1_k2, SF, numbered, metD, fndA, prsD, lookH, hnl]
    all_goals intro _
    all_goals exact ⟨[], by simp [ENDR, yv, yv.yvL, yh, yb, yver, bodyOf, fz, fz.fzL, fzH, fzB, stay, src, lookH, NodupB, disjB, argD, toD]⟩
end Go.Vc

namespace Go.Vc
open Go Go.Proofs
variable {g : GG}
attribute [local simp] and_assoc
theorem listsF_short {many : Nat} : ∀ {l now : Prs}, now.length + l.length < many → listsF many now l = []
  | [], now, h => listsF_nil (by simp at h; omega)
  | x :: r, now, h => by
    have h : now.length + (r.length + 1) < many := h
    rw [listsF_cons (by omega), listsF_short (by simp; omega), listsF_short (by omega)]
    rfl
theorem rdB_two {p : Pg} {s : Ps} {line a b : Nat} (hab : a < b) (hb : (b : Int) < p.people) (h1 : rdB s line a = true) (h2 : rdB s line b = true) : 2 ≤ rdN p s line := by
  unfold rdN readersL
  rw [List.length_map]
  have hs : [a, b].Sublist ((List.range p.people.toNat).filter (rdB s line)) := by
    have e : [a, b] = [a, b].filter (rdB s line) := by simp [h1, h2]
    rw [e]
    apply List.Sublist.filter
    have hr : List.range p.people.toNat = List.range (a + 1) ++ ((List.range' (a + 1) (p.people.toNat - (a + 1)))) := by
      rw [List.range_eq_range', List.range_eq_range']
      have := List.range'_append_1 (s := 0) (m := a + 1) (n := p.people.toNat - (a + 1))
      simp only [Nat.zero_add] at this
      rw [this]
      congr 1; omega
    rw [hr, List.range_succ, List.append_assoc]
    refine List.Sublist.trans ?_ (List.sublist_append_right _ _)
    refine List.Sublist.cons_cons _ ?_
    exact List.singleton_sublist.2 (List.mem_range'_1.2 ⟨by omega, by omega⟩)
  exact hs.length_le
theorem two_enough {p : Pg} (hok : p.ok = true) (h3 : 3 ≤ p.people) : enoughB p [(0, 1), (0, 2)] = true := by
  obtain ⟨a1, a2, a3, a4, a5, a6, a7⟩ := Pg.ok_len hok
  have hx : ∀ x, x ∈ [((0 : Int), (1 : Int)), (0, 2)] → pairB p x.1 x.2 = true := fun x hx => by
    simp only [List.mem_cons, List.not_mem_nil, or_false] at hx
    rcases hx with rfl | rfl
    · simp [pairB, persB, inB]; omega
    · simp [pairB, persB, inB]; omega
  have hw := afterP_okw hok (l := [(0, 1), (0, 2)]) (by simp) hx
  have hlog : (afterP p [(0, 1), (0, 2)]).log = p.log ++ [readE p (0, 1), readE p (0, 2)] := rfl
  unfold enoughB allP allB
  refine decide_eq_true ?_
  refine (fltL_all _ _).2 (fun k hk => ?_)
  have hk' : k < p.lines.length := hk
  refine decide_eq_true ?_
  have hR : ∀ n : Nat, (n : Int) < p.people → rdB (stN (afterP p [(0, 1), (0, 2)]) (afterP p [(0, 1), (0, 2)]).log.length) k n = ((decide (n = 0) || decide (n = 1) || decide (n = 2) || (p.log.foldl (hasO k n) false)) && !decide ((n : Int) = p.log.foldl (setO k) ((st0 p).setters.getD k 0))) := fun n hn => by
    rw [W9.rdB_law hw (line := k) (n := n) hk hn, hlog, List.foldl_append, List.foldl_append]
    have e0 : st0 (afterP p [(0, 1), (0, 2)]) = st0 p := rfl
    rw [e0]
    have hin : inB (k : Int) 0 ((p.lines.length : Int) - 1) = true := by simp [inB]; omega
    have er : ∀ x, rdnB (readE p x) k n = (decide (x.1 = (n : Int)) || decide (x.2 = (n : Int))) := fun x => by simp only [rdnB, readE, hin, Bool.true_and]
    have es : ∀ x v, setO k v (readE p x) = v := fun x v => by simp [setO, chgB, readE]
    have eh : ∀ x v, hasO k n v (readE p x) = (v || rdnB (readE p x) k n) := fun x v => by simp [hasO, chgB, readE]
    simp only [List.foldl_cons, List.foldl_nil, es, eh, er]
    congr 1
    have c1 : decide ((0 : Int) = (n : Int)) = decide (n = 0) := decide_eq_decide.2 (by omega)
    have c2 : decide ((1 : Int) = (n : Int)) = decide (n = 1) := decide_eq_decide.2 (by omega)
    have c3 : decide ((2 : Int) = (n : Int)) = decide (n = 2) := decide_eq_decide.2 (by omega)
    rw [c1, c2, c3]
    generalize List.foldl (hasO ↑k ↑n) false p.log = v
    cases v <;> cases decide (n = 0) <;> cases decide (n = 1) <;> cases decide (n = 2) <;> rfl
  generalize p.log.foldl (setO k) ((st0 p).setters.getD k 0) = q at hR
  have hp : (afterP p [(0, 1), (0, 2)]).people = p.people := rfl
  have h0 := hR 0 (by omega)
  have h1 := hR 1 (by omega)
  have h2 := hR 2 (by omega)
  simp at h0 h1 h2
  by_cases q0 : (0 : Int) = q
  · refine rdB_two (a := 1) (b := 2) (by omega) (by rw [hp]; omega) ?_ ?_
    · rw [h1]; simp; omega
    · rw [h2]; simp; omega
  · by_cases q1 : (1 : Int) = q
    · refine rdB_two (a := 0) (b := 2) (by omega) (by rw [hp]; omega) ?_ ?_
      · rw [h0]; simp; omega
      · rw [h2]; simp; omega
    · refine rdB_two (a := 0) (b := 1) (by omega) (by rw [hp]; omega) ?_ ?_
      · rw [h0]; simp; omega
      · rw [h1]; simp; omega
theorem two_listed {m : Nat} (h3 : 3 ≤ m) (h6 : m ≤ 6) : [((0 : Int), (1 : Int)), (0, 2)] ∈ listsF 2 [] (pairsL m) := by
  rcases m with _ | _ | _ | _ | _ | _ | _ | m
  · omega
  · omega
  · omega
  · decide +kernel
  · decide +kernel
  · decide +kernel
  · decide +kernel
  · omega
theorem fewP_three {p : Pg} (hok : p.ok = true) (h3 : 3 ≤ p.people) : fewP p ≠ none := fun h => by
  obtain ⟨a1, a2, _⟩ := Pg.ok_len hok
  have hm := two_listed (m := p.people.toNat) (by omega) (by omega)
  unfold fewP at h
  simp only [fewK] at h
  cases h2 : fewK p 2 with
  | some x => simp only [fewK] at h2; rw [h2] at h; cases h
  | none =>
    simp only [fewK] at h2
    rw [h2] at h
    have h : findE p (listsF 2 [] (pairsL p.people.toNat)) = none := h
    have := List.find?_eq_none.1 h _ hm
    exact this (two_enough hok h3)
set_option maxHeartbeats 8000000 in
theorem proof_Fewest_data (p : Pg) (hok : p.ok = true) : Meets (Tz g) f_proof_Fewest [p.d] ⟨.tup [.d (prsD ((fewP p).getD [])), .d (int (match fewP p with | some _ => 0 | none => 5))], []⟩ := by
  obtain ⟨a1, a2, a3, a4, a5, a6, a7⟩ := Pg.ok_len hok
  obtain ⟨m, hm⟩ : ∃ m : Nat, p.people = m := ⟨p.people.toNat, by omega⟩
  have hpn : p.people.toNat = m := by omega
  have h15 := pairsL_15 (m := m) (by omega)
  have hpo := fun x (h : x ∈ pairsL m) => pairsL_ok hm h
  have hCo := Collect_meets (g := g) p m hm (by omega)
  have hK : ∀ k, fewK p (k + 1) = match fewK p k with | some x => some x | none => findE p (listsF k [] (pairsL m)) := fun k => by simp only [fewK, hpn] <;> cases fewK p k <;> rfl
  have hthree : 3 ≤ (pairsL m).length → fewP p ≠ none := fun h => fewP_three hok (by
    rcases Nat.lt_or_ge m 3 with h2 | h2
    · have : m = 2 := by omega
      subst this
      exact absurd h (by decide)
    · omega)
  have hput := fun k (hk : k ≤ 2) st => put_meets (g := g) p (pairsL m) k hok hk h15 hpo ((pairsL m).length - 0) [] 0 st rfl (by omega) (by simp; omega) (fun x hx => by cases hx)
  simp only [List.drop_zero] at hput
  generalize pairsL m = P at *
  refine meets_proof_Fewest ?_
  unfold vc_proof_Fewest
  simp [Pg.d, lns, ents]
  refine CALL.val [p.d] _ rfl (proof_isPage_meets p (by omega) (by omega)) (.inl rfl) ?_
  simp [vc_proof_Fewest_k2, hok]
  refine CALL.val [p.d] _ rfl (proof_pairs_meets p) (.inl rfl) ?_
  refine CALL.val [.fn f_proof_pairs_1 [] [pageC p]] _ (by simp [argsD, argD, toD]) hCo (.inl rfl) ?_
  have hw1 := wrap_id (n := (P.length : Int) + 1) (by omega) (by omega)
  simp [vc_proof_Fewest_k1, hw1]
  refine LOOP.mk Nat (fun k => [.ptr 24 0 0 0, .ptr 96 0 0 0, .d (int ((P.length : Int) + 1)), .d (int k)]) (fun _ => [(24, some ⟨0, T_api_ProofPage, .box [.d (int p.people), .d (.list (p.lines.map Ln.d)), .d (.list (p.log.map Nt.d))]⟩), (96, some ⟨0, T_l_api_ProofPair, .box [.d (prsD P)]⟩)])
    (fun k => k ≤ P.length + 1 ∧ k ≤ 3 ∧ fewK p k = none) (fun k => P.length + 1 - k) [] (by simp) 0 ⟨by omega, by omega, rfl⟩ (by simp [WEAK, lookH, prsD]) (fun _ _ => rfl) ?_
  rintro k ⟨hk1, hk3, hnone⟩
  have hKk := hK k
  rw [hnone] at hKk
  have hKk : fewK p (k + 1) = findE p (listsF k [] P) := hKk
  have hw := wrap_id (n := (k : Int) + 1) (by omega) (by omega)
  simp [vc_proof_Fewest_k0]
  refine ⟨fun hlt => ?_, fun hge => ?_⟩
  · have hk2 : k ≤ 2 := by
      rcases Nat.lt_or_ge k 3 with h | h
      · omega
      · have : k = 3 := by omega
        subst this
        exact absurd hnone (hthree (by omega))
    have hC := hput k hk2 none
    have hst : stepF p none (listsF k [] P) = fewK p (k + 1) := hKk.symm
    rw [hst] at hC
    refine CALL.gen [192, 168, 24, 184, 96, 208] [true, false, false, false, false, false, false, false] _ _ _ _ hC rfl (by simp [argsM, argD, toD, AV.ren, rho, prsD]) ?_ ?_ ?_ ?_ ?_
    · simp [preB, SF, metD, fndA, rho, bodyOf, lookH, Body.ren, AV.ren, AV.ren.renL, lns, ents]
    · simp [ids.idsL, ids, preIds, SF, metD, fndA, Body.ids, lowL]
    · simp [lentL, ids, disjB]
    · simp [SF]
    · cases he : fewK p (k + 1) with
      | some x =>
        have hfe : fewP p = some x := by
          have := fewK_mono he (2 - k)
          have e : k + 1 + (2 - k) = 3 := by omega
          rw [e] at this
          exact this
        rw [hfe]
        simp [AV.ren, SF, metD, fndA, upsP, rho, ABlk.ren, Body.ren, AV.ren.renL, lentL, kills, lookH]
      | none =>
        simp [AV.ren, SF, metD, fndA, upsP, rho, ABlk.ren, Body.ren, AV.ren.renL, lentL, kills, lookH, hw]
        exact ⟨k + 1, by omega, by omega, he, by simp [WEAK, lookH, lns, ents], by omega⟩
  · have hkP : k = P.length + 1 := by omega
    have hall : ∀ j, k + j ≤ 3 → fewK p (k + j) = none := fun j => by
      induction j with
      | zero => intro _; exact hnone
      | succ j ih =>
        intro h
        have := ih (by omega)
        show fewK p (k + j + 1) = none
        rw [hK, this]
        show findE p (listsF (k + j) [] P) = none
        rw [listsF_short (by simp; omega)]
        rfl
    have hfe : fewP p = none := by
      have := hall (3 - k) (by omega)
      have e : k + (3 - k) = 3 := by omega
      rw [e] at this
      exact this
    rw [hfe]
    simp [prsD]
end Go.Vc

namespace Go.Vc
open Go Go.Proofs
variable {g : GG}
attribute [local simp] and_assoc
def ltB (x y : Int × Int) : Bool := decide (x.1 < y.1) || (decide (x.1 = y.1) && decide (x.2 < y.2))
theorem ltB_asymm {x y : Int × Int} (h : ltB x y = true) : ltB y x = false := by
  simp only [ltB, Bool.or_eq_true, Bool.and_eq_true, decide_eq_true_eq] at h
  cases hy : ltB y x with
  | false => rfl
  | true =>
    simp only [ltB, Bool.or_eq_true, Bool.and_eq_true, decide_eq_true_eq] at hy
    omega
theorem ltB_irr (x : Int × Int) : ltB x x = false := by
  cases hy : ltB x x with
  | false => rfl
  | true =>
    simp only [ltB, Bool.or_eq_true, Bool.and_eq_true, decide_eq_true_eq] at hy
    omega
theorem pairs_sorted {m : Nat} (hm : m ≤ 6) : (pairsL m).Pairwise (fun x y => ltB x y = true) := by
  rcases m with _ | _ | _ | _ | _ | _ | _ | m
  · decide +kernel
  · decide +kernel
  · decide +kernel
  · decide +kernel
  · decide +kernel
  · decide +kernel
  · decide +kernel
  · omega
theorem mem_pairsL {p : Pg} {a b : Int} (h : pairB p a b = true) : (a, b) ∈ pairsL p.people.toNat := by
  simp only [pairB, persB, inB, Bool.and_eq_true, decide_eq_true_eq] at h
  obtain ⟨⟨h1, h2⟩, ⟨h3, h4⟩, h5⟩ := h
  unfold pairsL pall
  refine List.mem_flatMap.2 ⟨a.toNat, List.mem_range.2 (by omega), ?_⟩
  unfold prow
  refine List.mem_map.2 ⟨(b - a - 1).toNat, List.mem_range.2 (by omega), ?_⟩
  have e1 : ((a.toNat : Nat) : Int) = a := by omega
  have e2 : ((a.toNat + 1 + (b - a - 1).toNat : Nat) : Int) = b := by omega
  rw [e1, e2]
theorem listsF_one : ∀ l : Prs, listsF 1 [] l = l.map fun x => [x]
  | [] => rfl
  | x :: r => by
    rw [listsF_cons (by simp), listsF_one r, listsF_eq (by simp)]
    rfl
theorem afterP_nil (p : Pg) : afterP p [] = p := by simp [afterP, logE]
end Go.Vc

namespace Go.Vc
open Go Go.Proofs
variable {g : GG}
attribute [local simp] and_assoc
def befB : Prs → Prs → Bool
  | [], [] => false
  | [], _ :: _ => true
  | _ :: _, [] => false
  | x :: a, y :: b => match decide (x = y) with | true => befB a b | false => ltB x y
theorem befB_one (x y : Int × Int) : befB [x] [y] = ltB x y := by
  simp only [befB]
  by_cases h : x = y
  · rw [decide_eq_true h, h, ltB_irr]
  · rw [decide_eq_false h]
theorem listsF_right {many : Nat} {now r x : Prs} {y : Int × Int} (h : now.length ≠ many) (hx : x ∈ listsF many now r) : x ∈ listsF many now (y :: r) := by
  rw [listsF_cons h]
  exact List.mem_append_right _ hx
theorem listsF_skip {many : Nat} {now x : Prs} (h : now.length ≠ many) : ∀ {l r : Prs}, x ∈ listsF many now r → x ∈ listsF many now (l ++ r)
  | [], _r, hx => hx
  | _y :: l, _r, hx => listsF_right h (listsF_skip h (l := l) hx)
theorem two_mem {m : Nat} (hm : m ≤ 6) {a b : Int × Int} (ha : a ∈ pairsL m) (hb : b ∈ pairsL m) (hab : ltB a b = true) : [a, b] ∈ listsF 2 [] (pairsL m) := by
  have hs := pairs_sorted hm
  obtain ⟨l1, l2, h1⟩ := List.append_of_mem ha
  rw [h1] at hs hb ⊢
  have hb2 : b ∈ l2 := by
    rcases List.mem_append.1 hb with h | h
    · have := (List.pairwise_append.1 hs).2.2 b h a List.mem_cons_self
      rw [ltB_asymm hab] at this; cases this
    · rcases List.mem_cons.1 h with h | h
      · rw [h, ltB_irr] at hab; cases hab
      · exact h
  obtain ⟨m1, m2, h2⟩ := List.append_of_mem hb2
  refine listsF_skip (by simp) ?_
  rw [listsF_cons (by simp)]
  refine List.mem_append_left _ ?_
  rw [h2]
  refine listsF_skip (by simp) ?_
  rw [listsF_cons (by simp)]
  refine List.mem_append_left _ ?_
  rw [listsF_eq (by simp)]
  simp
theorem lists_sorted {m : Nat} (hm : m ≤ 6) : (listsF 2 [] (pairsL m)).Pairwise (fun x y => befB y x = false) := by
  rcases m with _ | _ | _ | _ | _ | _ | _ | m
  · decide +kernel
  · decide +kernel
  · decide +kernel
  · decide +kernel
  · decide +kernel
  · decide +kernel
  · decide +kernel
  · omega
theorem lists_sorted1 {m : Nat} (hm : m ≤ 6) : (listsF 1 [] (pairsL m)).Pairwise (fun x y => befB y x = false) := by
  rw [listsF_one, List.pairwise_map]
  refine (pairs_sorted hm).imp (fun h => ?_)
  rw [befB_one]
  exact ltB_asymm h
theorem befB_irr : ∀ x : Prs, befB x x = false
  | [] => rfl
  | x :: r => by
    simp only [befB, decide_true]
    exact befB_irr r
theorem find_first {p : Pg} {L : List Prs} {x y : Prs} (hs : L.Pairwise (fun x y => befB y x = false)) (hf : findE p L = some x) (hy : y ∈ L) (he : enoughB p y = true) : befB y x = false := by
  induction L with
  | nil => cases hy
  | cons a r ih =>
    unfold findE at hf
    rw [List.find?_cons] at hf
    obtain ⟨h1, h2⟩ := List.pairwise_cons.1 hs
    cases ha : enoughB p a with
    | true =>
      rw [ha] at hf
      injection hf with hf
      subst hf
      rcases List.mem_cons.1 hy with rfl | hy
      · exact befB_irr y
      · exact h1 y hy
    | false =>
      rw [ha] at hf
      rcases List.mem_cons.1 hy with rfl | hy
      · rw [ha] at he; cases he
      · exact ih h2 hf hy
theorem enough_law {p : Pg} (hok : p.ok = true) {two : Prs} (hl : two.length = 1 ∨ two.length = 2) (hm : two ∈ listsF two.length [] (pairsL p.people.toNat)) :
    (fewP p = none → enoughB p two = false) ∧ (∀ l, fewP p = some l → enoughB p l = true ∧ (enoughB p two = true → l.length < two.length ∨ (l.length = two.length ∧ befB two l = false))) := by
  obtain ⟨a1, a2, _⟩ := Pg.ok_len hok
  have hk1 : fewK p (two.length + 1) = match fewK p two.length with | some x => some x | none => findE p (listsF two.length [] (pairsL p.people.toNat)) := by
    simp only [fewK]
    all_goals (cases fewK p two.length <;> rfl)
  have hsort : (listsF two.length [] (pairsL p.people.toNat)).Pairwise (fun x y => befB y x = false) := by
    rcases hl with h | h
    · rw [h]; exact lists_sorted1 (by omega)
    · rw [h]; exact lists_sorted (by omega)
  have hup : ∀ x, fewK p (two.length + 1) = some x → fewP p = some x := fun x h => by
    have := fewK_mono h (2 - two.length)
    have e : two.length + 1 + (2 - two.length) = 3 := by omega
    rw [e] at this
    exact this
  refine ⟨fun hn => ?_, fun l hf => ⟨(fewK_some hf).2.2, fun he => ?_⟩⟩
  · cases he : enoughB p two with
    | false => rfl
    | true =>
      cases hk : fewK p (two.length + 1) with
      | some x => rw [hup x hk] at hn; cases hn
      | none =>
        rw [hk] at hk1
        cases hk0 : fewK p two.length with
        | some x => rw [hk0] at hk1; cases hk1
        | none =>
          rw [hk0] at hk1
          have := List.find?_eq_none.1 hk1.symm two hm
          exact absurd he this
  · cases hk0 : fewK p two.length with
    | some x =>
      have h1 := fewK_mono hk0 1
      have := hup x h1
      rw [this] at hf
      injection hf with hf
      subst hf
      exact .inl (fewK_some hk0).1
    | none =>
      rw [hk0] at hk1
      have hk1 : fewK p (two.length + 1) = findE p (listsF two.length [] (pairsL p.people.toNat)) := hk1
      cases hk : findE p (listsF two.length [] (pairsL p.people.toNat)) with
      | none =>
        have := List.find?_eq_none.1 hk two hm
        exact absurd he this
      | some x =>
        rw [hk] at hk1
        have := hup x hk1
        rw [this] at hf
        injection hf with hf
        subst hf
        refine .inr ⟨(listsF_mem (List.mem_of_find?_eq_some hk)).1, find_first hsort hk hm he⟩
theorem befB_drop {a b : Prs} {k : Nat} {x y : Int × Int} (ha : a[k]? = some x) (hb : b[k]? = some y) : befB (a.drop k) (b.drop k) = (match decide (x = y) with | true => befB (a.drop (k + 1)) (b.drop (k + 1)) | false => ltB x y) := by
  rw [drop_at ha, drop_at hb]
  simp only [befB]
set_option maxHeartbeats 4000000 in
theorem ref09_Before_meets (a b : Prs) (hla : a.length ≤ 1000) (hlb : b.length ≤ 1000) : Meets (Tz g) f_ref09_Before [prsD a, prsD b] ⟨.d (.bool (befB a b)), []⟩ := by
  refine meets_ref09_Before ?_
  unfold vc_ref09_Before
  simp [prsD]
  refine LOOP.mk Nat (fun k => [.d (prsD a), .d (prsD b), .d (int k)]) (fun _ => []) (fun k => k ≤ a.length ∧ k ≤ b.length ∧ befB a b = befB (a.drop k) (b.drop k)) (fun k => a.length - k) [] (by simp) 0 ⟨by omega, by omega, by simp⟩ (by simp [WEAK, prsD]) (fun _ _ => rfl) ?_
  rintro k ⟨hk, hkb, he⟩
  have hw := wrap_id (n := (k : Int) + 1) (by omega) (by omega)
  simp [vc_ref09_Before_k4, prsD]
  have hend : ¬ (k < a.length ∧ k < b.length) → befB a b = decide (a.length < b.length) := fun h => by
    rw [he]
    by_cases hlt : k < a.length
    · have hkb2 : k = b.length := by
        rcases Nat.lt_or_ge k b.length with h2 | h2
        · exact absurd ⟨hlt, h2⟩ h
        · omega
      subst hkb2
      rw [List.drop_length, decide_eq_false (by omega)]
      obtain ⟨x, hx⟩ : ∃ x, a[b.length]? = some x := ⟨_, List.getElem?_eq_getElem hlt⟩
      rw [drop_at hx]; rfl
    · have hka : k = a.length := by omega
      subst hka
      rw [List.drop_length]
      by_cases h : a.length < b.length
      · obtain ⟨x, hx⟩ : ∃ x, b[a.length]? = some x := ⟨_, List.getElem?_eq_getElem h⟩
        rw [drop_at hx, decide_eq_true h]; rfl
      · rw [decide_eq_false h, List.drop_eq_nil_of_le (by omega)]; rfl
  refine ⟨fun hlt => ⟨fun hltb => ?_, fun hge => (hend (by omega)).symm⟩, fun hge => (hend (by omega)).symm⟩
  obtain ⟨x, hx⟩ : ∃ x, a[k]? = some x := ⟨_, List.getElem?_eq_getElem hlt⟩
  obtain ⟨y, hy⟩ : ∃ y, b[k]? = some y := ⟨_, List.getElem?_eq_getElem hltb⟩
  rw [befB_drop hx hy] at he
  obtain ⟨x1, x2⟩ := x
  obtain ⟨y1, y2⟩ := y
  clear hend
  by_cases h1 : x1 = y1
  · subst h1
    by_cases h2 : x2 = y2
    · subst h2
      rw [decide_eq_true rfl] at he
      simp [hx, hy, missD, hw]
      exact ⟨rfl, k + 1, by omega, by omega, he, by simp [WEAK], by omega⟩
    · rw [decide_eq_false (by simp [h2])] at he
      have he : befB a b = decide (x2 < y2) := by rw [he]; simp [ltB]
      rw [he]
      simp [hx, hy, missD, hw, h2, vc_ref09_Before_k3, vc_ref09_Before_k0, vc_ref09_Before_k1]
      exact ⟨rfl, rfl⟩
  · rw [decide_eq_false (by simp [h1])] at he
    have he : befB a b = decide (x1 < y1) := by rw [he]; simp [ltB, h1]
    rw [he]
    simp [hx, hy, missD, hw, h1, vc_ref09_Before_k3, vc_ref09_Before_k0, vc_ref09_Before_k1, vc_ref09_Before_k2]
    exact ⟨rfl, fun h => ⟨rfl, h⟩, fun h => ⟨rfl, h⟩⟩
end Go.Vc
