/- A part of the proof: general laws of a reading of the model by abstract data, or contracts of the functions that the law calls. -/
import Derived.Test.YtonajancjagefaaGreatVc34
import Derived.Test.YtonajancjagefaaGreatVc36
set_option maxRecDepth 100000
namespace Go.Vc
open Go Go.Proofs
variable {g : GG}
attribute [local simp] and_assoc
abbrev Keys := List ((Int × Int) × Nat)
def keyD (k : Int × Int) : D := .agg [int k.1, int k.2]
def keysM (ks : Keys) : List MEnt := ks.map fun e => ⟨keyD e.1, .bool true, e.2⟩
def hasK (k : Int × Int) : Keys → Bool
  | [] => false
  | e :: r => match decide (k = e.1) with | true => true | false => hasK k r
def addK (k : Int × Int) (ks : Keys) (ck : Nat) : Keys × Nat := match hasK k ks with | true => (ks, ck) | false => (ks ++ [(k, ck)], ck + 1)
def delK (k : Int × Int) : Keys → Keys
  | [] => []
  | e :: r => match decide (k = e.1) with | true => r | false => e :: delK k r
def fndK (k : Int × Int) : Keys → Nat → Option (Nat × MEnt)
  | [], _ => none
  | e :: r, i => match decide (k = e.1) with | true => some (i, ⟨keyD e.1, .bool true, e.2⟩) | false => fndK k r (i + 1)
theorem keyEq_keyD (k x : Int × Int) : keyEq (keyD k) (keyD x) = some (decide (k = x)) := by
  obtain ⟨k1, k2⟩ := k
  obtain ⟨x1, x2⟩ := x
  simp [keyEq, keyD, beqAll, D.beq]
theorem mfind_keysM (k : Int × Int) : ∀ (ks : Keys) (i : Nat), mfind (keyD k) (keysM ks) i = some (fndK k ks i)
  | [], _ => rfl
  | e :: r, i => by
    have ih := mfind_keysM k r (i + 1)
    simp only [keysM] at ih
    simp only [keysM, List.map_cons, mfind, keyEq_keyD, fndK]
    cases decide (k = e.1) with
    | true => rfl
    | false => exact ih
theorem fndK_spec (k : Int × Int) : ∀ (ks : Keys) (i : Nat), (hasK k ks = false → fndK k ks i = none ∧ delK k ks = ks) ∧ (hasK k ks = true → ∃ n b, fndK k ks i = some (i + n, ⟨keyD k, .bool true, b⟩) ∧ (keysM ks).set n ⟨keyD k, .bool true, b⟩ = keysM ks ∧ (keysM ks).eraseIdx n = keysM (delK k ks))
  | [], i => ⟨fun _ => ⟨rfl, rfl⟩, fun h => (by cases h)⟩
  | e :: r, i => by
    obtain ⟨h1, h2⟩ := fndK_spec k r (i + 1)
    simp only [hasK, fndK, delK]
    cases hd : decide (k = e.1) with
    | true =>
      refine ⟨fun h => (by cases h), fun _ => ⟨0, e.2, ?_, ?_, ?_⟩⟩
      · have := of_decide_eq_true hd
        rw [this]; rfl
      · have := of_decide_eq_true hd
        rw [this]; rfl
      · rfl
    | false =>
      simp only
      refine ⟨fun h => ?_, fun h => ?_⟩
      · obtain ⟨a, b⟩ := h1 h
        exact ⟨a, by rw [b]⟩
      · obtain ⟨n, b, a1, a2, a3⟩ := h2 h
        refine ⟨n + 1, b, ?_, ?_, ?_⟩
        · rw [a1]
          have : i + 1 + n = i + (n + 1) := by omega
          rw [this]
        · simp only [keysM, List.map_cons, List.set_cons_succ] at a2 ⊢
          rw [a2]
        · simp only [keysM, List.map_cons, List.eraseIdx_cons_succ] at a3 ⊢
          rw [a3]
theorem mupd_step {h : Heap} {id : Nat} {e : TypeId} {ks : Keys} {ck : Nat} {k : Int × Int} {K : Heap → Prop} (hB : bodyOf h id 0 = some (e, .mp (keysM ks) ck)) (hK : K ((id, some ⟨0, e, .mp (keysM (addK k ks ck).1) (addK k ks ck).2⟩) :: h)) : MUPD 1002 (.mapv id) (.d (keyD k)) (.d (.bool true)) h K := by
  refine ⟨id, e, keysM ks, ck, keyD k, .bool true, fndK k ks 0, by simp only [mapAt, hB], rfl, by simp [keyOK, keyD, D.isNum], rfl, mfind_keysM k ks 0, ?_⟩
  obtain ⟨h1, h2⟩ := fndK_spec k ks 0
  cases hh : hasK k ks with
  | true =>
    obtain ⟨n, b, a1, a2, _⟩ := h2 hh
    rw [a1]
    simp only [addK, hh] at hK
    simp only [mput, Nat.zero_add, a2]
    exact hK
  | false =>
    rw [(h1 hh).1]
    simp only [addK, hh] at hK
    simp only [mput]
    have e1 : keysM ks ++ [⟨keyD k, .bool true, ck⟩] = keysM (ks ++ [(k, ck)]) := by simp [keysM]
    rw [e1]
    exact hK
theorem mdel_step {h : Heap} {id : Nat} {e : TypeId} {ks : Keys} {ck : Nat} {k : Int × Int} {K : Heap → Prop} (hB : bodyOf h id 0 = some (e, .mp (keysM ks) ck)) (hK : K ((id, some ⟨0, e, .mp (keysM (delK k ks)) ck⟩) :: h)) : MDEL 1002 (.mapv id) (.d (keyD k)) h K := by
  refine ⟨id, e, keysM ks, ck, keyD k, fndK k ks 0, by simp only [mapAt, hB], rfl, by simp [keyOK, keyD, D.isNum], mfind_keysM k ks 0, ?_⟩
  obtain ⟨h1, h2⟩ := fndK_spec k ks 0
  cases hh : hasK k ks with
  | true =>
    obtain ⟨n, b, a1, _, a3⟩ := h2 hh
    rw [a1]
    simp only [Nat.zero_add, a3]
    exact hK
  | false =>
    obtain ⟨b1, b2⟩ := h1 hh
    rw [b1]
    rw [b2] at hK
    exact hK
structure Ps where
  now : List Int
  setters : List Int
  keys : Keys
  ck : Nat
  changed : List Int
  missed : List (Int × Int)
def missD (m : Int × Int) : D := .agg [int m.1, int m.2]
@[simp] theorem missD_cells (m : Int × Int) : (missD m).cells = [int m.1, int m.2] := rfl
def stBox (v : Nat) (f : Nat → Nat) (p : Pg) (s : Ps) : ABlk := ⟨0, T_proof_page, .box [.d (int p.people), .d (lns p.lines), .d (ents p.log), .own 1 v, .own 2 v, .mapv 3, .own 4 v, .own 5 (f s.missed.length)]⟩
def stBlks (v : Nat) (f : Nat → Nat) (p : Pg) (s : Ps) : List ABlk := [stBox v f p s, ⟨v, T_int, .lst (s.now.map int)⟩, ⟨v, T_int, .lst (s.setters.map int)⟩, ⟨0, 0, .mp (keysM s.keys) s.ck⟩, ⟨v, T_int, .lst (s.changed.map int)⟩, ⟨f s.missed.length, T_api_ProofMiss, .lst (s.missed.map missD)⟩]
def rightL (p : Pg) (line : Nat) : Int := match p.lines[line]? with | some l => l.right | none => 0
def addS (k : Int × Int) (s : Ps) : Ps := { s with keys := (addK k s.keys s.ck).1, ck := (addK k s.keys s.ck).2 }
def difB (p : Pg) (s : Ps) (line : Nat) : Bool := !decide (s.now.getD line 0 = rightL p line)
def readOne (p : Pg) (i : Nat) (a b : Int) (line : Nat) (s : Ps) : Ps :=
  { addS ((line : Int), b) (addS ((line : Int), a) s) with missed := match difB p s line with | true => s.missed ++ [((i : Int), (line : Int))] | false => s.missed }
def readN (p : Pg) (i : Nat) (a b : Int) : Nat → Nat → Ps → Ps
  | 0, _, s => s
  | n + 1, c, s => readN p i a b n (c + 1) (readOne p i a b c s)
def delN (line : Nat) : Nat → Keys → Keys
  | 0, ks => ks
  | n + 1, ks => delK ((line : Int), (n : Int)) (delN line n ks)
def changeS (p : Pg) (i line : Nat) (number : Int) (s : Ps) : Ps := { s with keys := delN line p.people.toNat s.keys, now := s.now.set line number, changed := s.changed.set line (i : Int) }
def stepS (p : Pg) (i : Nat) (e : Nt) (s : Ps) : Ps := match e.nums with
  | [a] => changeS p i a.toNat ((s.now.getD a.toNat 0).tdiv 10) s
  | [a, b, c] => { changeS p i b.toNat c s with setters := s.setters.set b.toNat a }
  | [a, b, c, d] => readN p i a b (d - c + 1).toNat c.toNat s
  | _ => s
def st0 (p : Pg) : Ps := ⟨p.lines.map Ln.set, p.lines.map Ln.setter, [], 0, p.lines.map (fun _ => -1), []⟩
def stN (p : Pg) : Nat → Ps
  | 0 => st0 p
  | i + 1 => match p.log[i]? with | some e => stepS p i e (stN p i) | none => stN p i
end Go.Vc

namespace Go.Vc
open Go Go.Proofs
variable {g : GG}
attribute [local simp] and_assoc
def sames : List PB := [.same, .same, .same, .same, .same, .same]
structure PsOK (p : Pg) (s : Ps) : Prop where
  now : s.now.length = p.lines.length
  setters : s.setters.length = p.lines.length
  changed : s.changed.length = p.lines.length
  num : ∀ n, n ∈ s.now → -999 ≤ n ∧ n ≤ 999
  len : p.lines.length ≤ 6
theorem rightL_at {p : Pg} {k : Nat} {l : Ln} (h : p.lines[k]? = some l) : rightL p k = l.right := by simp [rightL, h]
theorem differs_meets (v : Nat) (f : Nat → Nat) (p : Pg) (s : Ps) (line : Nat) (hs : PsOK p s) (hl : line < p.lines.length) : MeetsH (Tz g) f_p_proof_page_differs (stBlks v f p s) [.ptr 0 0 0 0, .d (int line)] (.ret (.d (.bool (difB p s line)))) sames := by
  obtain ⟨h1, h2, h3, h4, h5⟩ := hs
  refine meetsH_p_proof_page_differs rfl ?_
  unfold vc_p_proof_page_differs
  have hg : p.lines[line]? = some p.lines[line] := List.getElem?_eq_getElem hl
  generalize p.lines[line] = l at hg
  obtain ⟨n, hn⟩ : ∃ n, s.now[line]? = some n := ⟨_, List.getElem?_eq_getElem (by omega)⟩
  have hd : difB p s line = !decide (n = l.right) := by simp [difB, hn, rightL_at hg]
  rw [hd]
  simp [stBlks, stBox, numbered, lookH, hn, hg, Ln.d, lns]
  exact ⟨by omega, rfl, ⟨[], by simp [sames, yv, yh, fz, fzH, ids, disjB, lookH, argD, toD]⟩⟩
set_option maxHeartbeats 2000000 in
theorem change_meets (v : Nat) (f : Nat → Nat) (p : Pg) (s : Ps) (i line m : Nat) (number : Int) (hs : PsOK p s) (hl : line < p.lines.length) (hm : p.people = m) (hm2 : m ≤ 6) : MeetsH (Tz g) f_p_proof_page_change (stBlks v f p s) [.ptr 0 0 0 0, .d (int i), .d (int line), .d (int number)] (.ret (.tup [])) ((stBlks v f p (changeS p i line number s)).map .upd) := by
  obtain ⟨h1, h2, h3, h4, h5⟩ := hs
  have hpn : p.people.toNat = m := by omega
  refine meetsH_p_proof_page_change rfl ?_
  unfold vc_p_proof_page_change
  simp [stBlks, stBox, numbered, lookH]
  refine LOOP.mk Nat (fun k => [.ptr 0 0 0 0, .d (int i), .d (int line), .d (int number), .d (int m), .d (int k)]) (fun k => numbered 0 (stBlks v f p { s with keys := delN line k s.keys })) (fun k => k ≤ m) (fun k => m - k) [] (by simp) 0 (by omega) (by simp [WEAK, stBlks, stBox, numbered, lookH, hm, delN]) (fun _ _ => rfl) ?_
  intro k hk
  simp [stBlks, stBox, numbered]
  constructor
  · intro hlt
    simp [vc_p_proof_page_change_k0, -MDEL]
    refine mdel_step (e := 0) (k := ((line : Int), (k : Int))) (ks := delN line k s.keys) (ck := s.ck) (by simp) ?_
    rw [wrap_id (n := (k : Int) + 1) (by omega) (by omega)]
    exact ⟨k + 1, by omega, by simp [WEAK, delN], by omega⟩
  · intro hge
    have : k = m := by omega
    subst this
    obtain ⟨n, hn⟩ : ∃ n, s.now[line]? = some n := ⟨_, List.getElem?_eq_getElem (by omega)⟩
    obtain ⟨c, hc⟩ : ∃ c, s.changed[line]? = some c := ⟨_, List.getElem?_eq_getElem (by omega)⟩
    simp [vc_p_proof_page_change_k1, hn, hc]
    refine ⟨by omega, by omega, ⟨[], ?_⟩⟩
    simp [changeS, hpn, yv, yv.yvL, yh, yb, yver, bodyOf, fz, fz.fzL, fzH, fzB, stay, src, lookH, NodupB, disjB, argD, toD, List.map_set]
end Go.Vc

namespace Go.Vc
open Go Go.Proofs
variable {g : GG}
attribute [local simp] and_assoc
set_option maxHeartbeats 2000000 in
theorem mends_meets (v : Nat) (f : Nat → Nat) (p : Pg) (s : Ps) (i line m : Nat) (a c : Int) (hs : PsOK p s) (hl : line < p.lines.length) (hm : p.people = m) (hm2 : m ≤ 6) : MeetsH (Tz g) f_p_proof_page_mends (stBlks v f p s) [.ptr 0 0 0 0, .d (int i), .d (ints [a, line, c])] (.ret (.tup [])) ((stBlks v f p (stepS p i ⟨2, [a, line, c]⟩ s)).map .upd) := by
  have hst : stepS p i ⟨2, [a, line, c]⟩ s = { changeS p i line c s with setters := s.setters.set line a } := by simp [stepS]
  have hc := change_meets (g := g) v f p s i line m c hs hl hm hm2
  obtain ⟨h1, h2, h3, h4, h5⟩ := hs
  rw [hst]
  refine meetsH_p_proof_page_mends rfl ?_
  unfold vc_p_proof_page_mends
  simp [ints]
  refine CALL.gen [0, 1, 2, 3, 4, 5] [false, false, false, false] [.ptr 0 0 0 0, .d (int i), .d (int line), .d (int c)] (stBlks v f p s) _ _ hc rfl (by simp [argsM, AV.ren, rho]) ?_ ?_ ?_ ?_ ?_
  · simp [preB, stBlks, stBox, rho, bodyOf, lookH, Body.ren, AV.ren, AV.ren.renL, numbered]
  · simp [ids.idsL, ids, preIds, stBlks, stBox, Body.ids, lowL]
  · simp [lentL, disjB]
  · simp [stBlks]
  · obtain ⟨n, hn⟩ : ∃ n, s.setters[line]? = some n := ⟨_, List.getElem?_eq_getElem (by omega)⟩
    simp [vc_p_proof_page_mends_k0, AV.ren, stBlks, stBox, upsP, rho, ABlk.ren, Body.ren, AV.ren.renL, lentL, kills, lookH, changeS, hn]
    refine ⟨rfl, by omega, rfl, ⟨[], ?_⟩⟩
    simp [yv, yv.yvL, yh, yb, yver, bodyOf, fz, fz.fzL, fzH, fzB, stay, src, lookH, NodupB, disjB, argD, toD]
theorem tdiv10 (n : Int) (h : -999 ≤ n ∧ n ≤ 999) : -999 ≤ n.tdiv 10 ∧ n.tdiv 10 ≤ 999 := by
  rcases Int.le_total 0 n with h0 | h0
  · rw [Int.tdiv_eq_ediv_of_nonneg h0]
    omega
  · obtain ⟨m, rfl⟩ : ∃ m : Int, n = -m := ⟨-n, by omega⟩
    rw [Int.neg_tdiv, Int.tdiv_eq_ediv_of_nonneg (by omega)]
    omega
set_option maxHeartbeats 2000000 in
theorem falls_meets (v : Nat) (f : Nat → Nat) (p : Pg) (s : Ps) (i line m : Nat) (hs : PsOK p s) (hl : line < p.lines.length) (hm : p.people = m) (hm2 : m ≤ 6) : MeetsH (Tz g) f_p_proof_page_falls (stBlks v f p s) [.ptr 0 0 0 0, .d (int i), .d (ints [(line : Int)])] (.ret (.tup [])) ((stBlks v f p (stepS p i ⟨3, [(line : Int)]⟩ s)).map .upd) := by
  obtain ⟨n, hn⟩ : ∃ n, s.now[line]? = some n := ⟨_, List.getElem?_eq_getElem (by have := hs.now; omega)⟩
  have hnb := hs.num n (List.mem_of_getElem? hn)
  have hq := tdiv10 n hnb
  have hst : stepS p i ⟨3, [(line : Int)]⟩ s = changeS p i line (n.tdiv 10) s := by simp [stepS, hn]
  have hc := change_meets (g := g) v f p s i line m (n.tdiv 10) hs hl hm hm2
  obtain ⟨h1, h2, h3, h4, h5⟩ := hs
  rw [hst]
  refine meetsH_p_proof_page_falls rfl ?_
  unfold vc_p_proof_page_falls
  simp [ints, stBlks, stBox, numbered, lookH, hn]
  rw [wrap_id (n := n.tdiv 10) (by omega) (by omega)]
  refine ⟨by omega, rfl, ?_⟩
  refine CALL.gen [0, 1, 2, 3, 4, 5] [false, false, false, false] [.ptr 0 0 0 0, .d (int i), .d (int line), .d (int (n.tdiv 10))] (stBlks v f p s) _ _ hc rfl (by simp [argsM, AV.ren, rho]) ?_ ?_ ?_ ?_ ?_
  · simp [preB, stBlks, stBox, rho, bodyOf, lookH, Body.ren, AV.ren, AV.ren.renL]
  · simp [ids.idsL, ids, preIds, stBlks, stBox, Body.ids, lowL]
  · simp [lentL, disjB]
  · simp [stBlks]
  · refine ⟨[], ?_⟩
    simp [AV.ren, AV.ren.renL, stBlks, stBox, upsP, rho, ABlk.ren, Body.ren, lentL, kills, changeS, yv, yv.yvL, yh, yb, yver, bodyOf, fz, fz.fzL, fzH, fzB, stay, src, lookH, NodupB, disjB, argD, toD]
end Go.Vc
