/- A part of the proof: general laws of a reading of the model by abstract data, or contracts of the functions that the law calls. -/
import Derived.Test.YtkefjhemmdolaaaGreatVc48
import Derived.Test.YtkefjhemmdolaaaGreatVc48
set_option maxRecDepth 100000
namespace Go.Vc
open Go Go.Proofs Go.RowKit
variable {g : GG}
attribute [local simp] and_assoc
theorem mbs_ret (t : Tb) (k : List Int) (hok : t.ok = true) (hK : KeptOK t.vals.length k) (hd : dbL t k t.vals.length = []) : MeetsH (Tz g) f_step_table_mustBeSure [M0] [tA t k 0] (.ret (.tup [])) [.same] := by
  refine meetsH_step_table_mustBeSure rfl ?_
  unfold vc_step_table_mustBeSure
  simp [numbered, tA, lookH]
  refine CALL.tab (ds := []) (doubts_meets t k hok hK) rfl ?_
  rw [hd]
  simp [vc_step_table_mustBeSure_k0, ints]
  refine ⟨[], ?_⟩
  simp [yv, yv.yvL, yh, yb, yver, bodyOf, fz, fz.fzL, fzH, fzB, stay, src, lookH, NodupB, disjB, argD, toD, M0]
theorem mbs_pan (t : Tb) (k : List Int) (hok : t.ok = true) (hK : KeptOK t.vals.length k) {x : Int} {r : List Int} (hd : dbL t k t.vals.length = x :: r) : MeetsH (Tz g) f_step_table_mustBeSure [M0] [tA t k 0] (.pan (.d (wrongD x))) [.same] := by
  refine meetsHp_step_table_mustBeSure rfl ?_
  unfold vcp_step_table_mustBeSure
  simp [numbered, tA, lookH]
  refine CALL.tab (ds := []) (doubts_meets t k hok hK) rfl ?_
  rw [hd]
  simp [vcp_step_table_mustBeSure_k0, ints, lookH]
  refine ⟨[], ?_⟩
  simp [wrongD, yv, yv.yvL, yh, yb, yver, bodyOf, fz, fz.fzL, fzH, fzB, stay, src, lookH, NodupB, disjB, argD, toD, M0]
theorem attS_meets {v r o k : D} {out o2 : Out} {po2 : List PB} (h : MeetsH (Tz g) f_step_table_mustBeSure [M0] [tX v r o k] out [.same]) (h2 : runS (fun _ _ _ => some (out, [.same])) v r o k = some (o2, po2)) : MeetsH (Tz g) f_step_attempt [M0] [cloS v r o k] o2 po2 := by
  refine evTab_ok (C := Tz g) rfl tab_ok (onB_ok h) 100 ?_
  have e := onB_at f_step_table_mustBeSure [M0] [tX v r o k] out [.same]
  exact ((att_goS (onB f_step_table_mustBeSure [M0] [tX v r o k] out [.same]) v r o k).trans (congrArg (fun z => runS (fun _ _ _ => z) v r o k) e)).trans h2
theorem surely_meets (t : Tb) (k : List Int) (hok : t.ok = true) (hK : KeptOK t.vals.length k) : MeetsH (Tz g) f_step_table_surely [M0] (tA t k 0 :: ([] : List D).map .d) (.ret (.d (.bool (decide (dbL t k t.vals.length = []))))) [.same] := by
  have key : ∀ (e : Int), (MeetsH (Tz g) f_step_attempt [M0] [cloS (spans t.vals) (int t.rule) (int t.off) (ints k)] (.ret (.d (int e))) [.upd ⟨0, 0, .mp [] 0⟩]) → MeetsH (Tz g) f_step_table_surely [M0] (tA t k 0 :: ([] : List D).map .d) (.ret (.d (.bool (decide (e = 0))))) [.same] := by
    intro e hA
    refine meetsH_step_table_surely rfl ?_
    unfold vc_step_table_surely
    simp [numbered, tA, lookH]
    refine CALL.gen [0] [false] [cloS (spans t.vals) (int t.rule) (int t.off) (ints k)] [M0] _ _ hA rfl (by simp [argsM, AV.ren, AV.ren.renL, rho]) ?_ ?_ ?_ ?_ ?_
    · simp [preB, bodyOf, lookH, M0, Body.ren]
    · simp [ids.idsL, ids, preIds, Body.ids, lowL, M0]
    · simp [lentL, disjB]
    · simp
    · simp [AV.ren, AV.ren.renL, upsP, rho, ABlk.ren, Body.ren, lentL, kills, lookH]
      refine ⟨[], ?_⟩
      simp [yv, yv.yvL, yh, yb, yver, bodyOf, fz, fz.fzL, fzH, fzB, stay, src, lookH, NodupB, disjB, argD, toD, M0]
  cases hd : dbL t k t.vals.length with
  | nil => simpa using key 0 (attS_meets (mbs_ret t k hok hK hd) (att_retS _ _ _ _))
  | cons x r => simpa using key 7 (attS_meets (mbs_pan t k hok hK hd) (att_panS _ _ _ _ _))
end Go.Vc

namespace Go.Vc
open Go Go.Proofs Go.RowKit
variable {g : GG}
attribute [local simp] and_assoc
def fitO (t : Tb) (a b x n row : Int) : Bool := inB (figP t.rule a b x n row) (vLo t row - t.off) (vHi t row + t.off)
def fitR (t : Tb) (a b x n : Int) : Nat → Bool
  | 0 => true
  | r + 1 => fitR t a b x n r && fitO t a b x n (a + 1 + r)
def fitT (t : Tb) (a b x n : Int) : Bool := fitR t a b x n (b - a - 1).toNat
def someT (t : Tb) (a b n : Int) (l : List Int) : Bool := l.any fun x => fitT t a b x n
def canL (t : Tb) (a b : Int) (l : List Int) (lo : Int) : Nat → List Int
  | 0 => []
  | i + 1 => if someT t a b (lo + i) l = true then canL t a b l lo i ++ [lo + (i : Int)] else canL t a b l lo i
theorem canL_len (t : Tb) (a b : Int) (l : List Int) (lo : Int) : ∀ i, (canL t a b l lo i).length ≤ i
  | 0 => Nat.le_refl _
  | i + 1 => by
    have := canL_len t a b l lo i
    unfold canL
    split <;> simp <;> omega
theorem canL_bnd (t : Tb) (a b : Int) (l : List Int) (lo : Int) : ∀ i, ∀ x, x ∈ canL t a b l lo i → lo ≤ x ∧ x < lo + i
  | 0, x, h => by simp [canL] at h
  | i + 1, x, h => by
    have ih := canL_bnd t a b l lo i x
    unfold canL at h
    split at h
    · simp only [List.mem_append, List.mem_singleton] at h
      rcases h with h | h
      · have := ih h; omega
      · omega
    · have := ih h; omega
theorem any_take {q : Int → Bool} {l : List Int} {i : Nat} {x : Int} (h : l[i]? = some x) : (l.take (i + 1)).any q = ((l.take i).any q || q x) := by
  rw [List.take_add_one, h, List.any_append]
  simp
set_option maxHeartbeats 16000000 in
theorem can_meets (t : Tb) (k l : List Int) (a b : Int) (hok : t.ok = true) (h0 : 0 ≤ a) (h1 : a < b) (h2 : b ≤ (t.vals.length : Int) - 1) (hl : l.length ≤ 1000) (hb : ∀ x, x ∈ l → -20000 ≤ x ∧ x ≤ 20000) :
    MeetsH (Tz g) f_step_table_can [M0] (tA t k 0 :: [prD (a, b), ints l].map .d) (.ret (.d (ints (canL t a b l (vLo t b) (vHi t b - vLo t b + 1).toNat)))) [.same] := by
  obtain ⟨f1, f2, f3, f4⟩ := Tb.ok_facts hok
  obtain ⟨sb, gb, lb, hbb, vb1, vb2, vb3, vb4⟩ := val_at hok (i := b) (by omega) h2
  rw [lb, hbb]
  refine meetsH_step_table_can rfl ?_
  unfold vc_step_table_can
  simp [numbered, tA, lookH, prD, spans, gb, Sp.d]
  refine ⟨by omega, ?_⟩
  generalize hL : (fun i => canL t a b l sb.low i) = L
  have hL0 : L 0 = [] := by rw [← hL]; rfl
  have hLs : ∀ i : Nat, L (i + 1) = if someT t a b (sb.low + i) l = true then L i ++ [sb.low + (i : Int)] else L i := by rw [← hL]; intro i; rfl
  have hLl : ∀ i, (L i).length ≤ i := by rw [← hL]; exact canL_len t a b l sb.low
  rw [show canL t a b l sb.low (sb.high - sb.low + 1).toNat = L (sb.high - sb.low + 1).toNat by rw [← hL]]
  refine LOOP.mk Nat (fun i => [.d (ints l), .ptr 24 0 0 0, .ptr 32 0 0 0, .own 128 (L i).length, .d (int (sb.low + (i : Int)))]) (fun i => [(24, some (tabB t k 0)), (32, some ⟨0, T_step_pair, .box [.d (int a), .d (int b)]⟩), (0, some M0), (128, some ⟨(L i).length, T_int, .lst ((L i).map int)⟩)]) (fun i => i ≤ (sb.high - sb.low + 1).toNat) (fun i => (sb.high - sb.low + 1).toNat - i) [(3, T_int)] (by simp) 0 (by omega) (by simp [WEAK, lookH, tabB, M0, spans, ints, hL0]) (fun _ _ => rfl) ?_
  intro i hi
  have hll := hLl i
  have hls := hLs i
  simp [vc_step_table_can_k6, tabB, lookH, spans, gb, Sp.d]
  refine ⟨by omega, fun hlt => ?_, fun hge => ?_⟩
  · have hlt : sb.low + (i : Int) ≤ sb.high := by omega
    generalize hn : sb.low + (i : Int) = n at *
    have w1 := wrap_id (n := n + 1) (by omega) (by omega)
    simp [ints]
    refine LOOP.mk Nat (fun j => [.d (ints l), .ptr 24 0 0 0, .ptr 32 0 0 0, .own 128 (L i).length, .d (int n), .d (ints l), .d (int l.length), .d (int j)]) (fun j => [(24, some (tabB t k 0)), (32, some ⟨0, T_step_pair, .box [.d (int a), .d (int b)]⟩), (0, some M0), (128, some ⟨(L i).length, T_int, .lst ((L i).map int)⟩)]) (fun j => j ≤ l.length ∧ (l.take j).any (fun x => fitT t a b x n) = false) (fun j => l.length - j) [] (by simp) 0 (by simp) (by simp [WEAK, lookH, tabB, M0, spans, ints]) (fun _ _ => rfl) ?_
    rintro j ⟨hj, ha⟩
    have w2 := wrap_id (n := (j : Int) + 1) (by omega) (by omega)
    simp [vc_step_table_can_k5]
    refine ⟨fun hlt2 => ?_, fun hge2 => ?_⟩
    · have hlt2 : j < l.length := by omega
      obtain ⟨x, gx⟩ : ∃ x, l[j]? = some x := ⟨_, List.getElem?_eq_getElem hlt2⟩
      have bx := hb x (List.mem_of_getElem? gx)
      have hat := any_take (q := fun x => fitT t a b x n) gx
      have w3 := wrap_id (n := a + 1) (by omega) (by omega)
      simp [ints, gx, tabB, lookH, w3]
      refine LOOP.mk Nat (fun r => [.d (ints l), .ptr 24 0 0 0, .ptr 32 0 0 0, .own 128 (L i).length, .d (int n), .d (int x), .d (.bool (fitR t a b x n r)), .d (int (a + 1 + (r : Int))), .d (ints l), .d (int l.length), .d (int j)]) (fun r => [(24, some (tabB t k 0)), (32, some ⟨0, T_step_pair, .box [.d (int a), .d (int b)]⟩), (0, some M0), (128, some ⟨(L i).length, T_int, .lst ((L i).map int)⟩)]) (fun r => r ≤ (b - a - 1).toNat) (fun r => (b - a - 1).toNat - r) [] (by simp) 0 (by omega) (by simp [WEAK, lookH, tabB, M0, spans, ints, fitR]) (fun _ _ => rfl) ?_
      intro r hr
      simp [tabB, lookH]
      refine ⟨fun hlt3 => ?_, fun hge3 => ?_⟩
      · have hF : fitR t a b x n (r + 1) = (fitR t a b x n r && fitO t a b x n (a + 1 + r)) := rfl
        have h1f : fitO t a b x n (a + 1 + r) = inB (figP t.rule a b x n (a + 1 + r)) (vLo t (a + 1 + r) - t.off) (vHi t (a + 1 + r) + t.off) := rfl
        generalize hrow : a + 1 + (r : Int) = row at *
        have w4 := wrap_id (n := row + 1) (by omega) (by omega)
        obtain ⟨sr, gr, lr, hrr, vr1, vr2, vr3, vr4⟩ := val_at hok (i := row) (by omega) (by omega)
        rw [lr, hrr] at h1f
        have w5 := wrap_id (n := sr.low - t.off) (by omega) (by omega)
        have w6 := wrap_id (n := sr.high + t.off) (by omega) (by omega)
        simp [vc_step_table_can_k3, lookH]
        refine CALL.tab (ds := [prD (a, b), int x, int n, int row]) (figure_meets t k a b x n row f3 h0 h1 (by omega) (by omega) (by omega) bx (by omega)) rfl ?_
        generalize figP t.rule a b x n row = fg at *
        cases hfr : fitR t a b x n r with
        | true =>
          simp [vc_step_table_can_k1, lookH, spans, gr, Sp.d, w5, w6]
          refine ⟨by omega, ?_⟩
          refine CALL.val [int fg, int (sr.low - t.off), int (sr.high + t.off)] _ rfl (step_in_meets _ _ _) (.inl rfl) ?_
          simp [vc_step_table_can_k0, w4]
          refine ⟨rfl, r + 1, by omega, ?_, by omega⟩
          rw [hF, hfr, h1f]
          simp [WEAK, lookH, ints, spans, tabB]
          omega
        | false =>
          simp [vc_step_table_can_k2, w4]
          refine ⟨rfl, r + 1, by omega, ?_, by omega⟩
          rw [hF, hfr]
          simp [WEAK, lookH, ints, spans, tabB]
          omega
      · have er : r = (b - a - 1).toNat := by omega
        have hfb : fitT t a b x n = fitR t a b x n r := by rw [er]; rfl
        simp [vc_step_table_can_k4]
        cases hfr : fitR t a b x n r with
        | true =>
          have hs : someT t a b n l = true := List.any_eq_true.2 ⟨x, List.mem_of_getElem? gx, by rw [hfb, hfr]⟩
          rw [hs, if_pos rfl] at hls
          simp [lookH, w1]
          refine ⟨by omega, i + 1, by omega, ?_, by omega⟩
          rw [hls]
          simp [WEAK, lookH, ints, spans, tabB]
          omega
        | false =>
          simp [w2]
          refine ⟨j + 1, by omega, ?_, ?_, by omega⟩
          · have := hat
            rw [ha, hfb, hfr] at this
            simpa using this
          · simp [WEAK, lookH, ints, spans, tabB]
    · have ej : j = l.length := by omega
      subst ej
      rw [List.take_length] at ha
      have hs : someT t a b n l = false := ha
      rw [hs, if_neg (by simp)] at hls
      simp [w1]
      refine ⟨i + 1, by omega, ?_, by omega⟩
      rw [hls]
      simp [WEAK, lookH, ints, spans, tabB]
      omega
  · have : i = (sb.high - sb.low + 1).toNat := by omega
    subst this
    refine ⟨[], ?_⟩
    simp [yv, yv.yvL, yh, yb, yver, bodyOf, fz, fz.fzL, fzH, fzB, stay, src, lookH, NodupB, disjB, argD, toD, M0, ints]
end Go.Vc

namespace Go.Vc
open Go Go.Proofs Go.RowKit
variable {g : GG}
attribute [local simp] and_assoc
def uptoT (lo : Int) (m : Nat) : List Int := (List.range m).map fun i : Nat => lo + (i : Int)
theorem upto_len (lo : Int) (m : Nat) : (uptoT lo m).length = m := by simp [uptoT]
theorem upto_succ (lo : Int) (m : Nat) : uptoT lo (m + 1) = uptoT lo m ++ [lo + (m : Int)] := by simp [uptoT, List.range_succ]
theorem upto_bnd (lo : Int) (m : Nat) (x : Int) (h : x ∈ uptoT lo m) : lo ≤ x ∧ x < lo + m := by
  obtain ⟨i, hi, rfl⟩ := List.mem_map.1 h
  have := List.mem_range.1 hi
  omega
def mayL (t : Tb) (k : List Int) : Nat → List Int
  | 0 => uptoT (vLo t 0) (vHi t 0 - vLo t 0 + 1).toNat
  | i + 1 => canL t (k.getD i 0) (k.getD (i + 1) 0) (mayL t k i) (vLo t (k.getD (i + 1) 0)) (vHi t (k.getD (i + 1) 0) - vLo t (k.getD (i + 1) 0) + 1).toNat
theorem mayL_ok (t : Tb) (k : List Int) (hok : t.ok = true) (hK : KeptOK t.vals.length k) : ∀ i, i < k.length → (mayL t k i).length ≤ 5 ∧ ∀ x, x ∈ mayL t k i → -20000 ≤ x ∧ x ≤ 20000 := by
  obtain ⟨f1, f2, f3, f4⟩ := Tb.ok_facts hok
  intro i hi
  cases i with
  | zero =>
    obtain ⟨s, gs, l1, l2, b1, b2, b3, b4⟩ := val_at hok (i := 0) (by omega) (by omega)
    unfold mayL
    rw [l1, l2, upto_len]
    exact ⟨by omega, fun x hx => by have := upto_bnd _ _ x hx; omega⟩
  | succ i =>
    obtain ⟨y, hy⟩ : ∃ y, k[i + 1]? = some y := ⟨_, List.getElem?_eq_getElem hi⟩
    have hb := hK.bnd hy
    have e : k.getD (i + 1) 0 = y := by simp [List.getD_eq_getElem?_getD, hy]
    obtain ⟨s, gs, l1, l2, b1, b2, b3, b4⟩ := val_at hok (i := y) (by omega) (by omega)
    unfold mayL
    rw [e, l1, l2]
    refine ⟨Nat.le_trans (canL_len _ _ _ _ _ _) (by omega), fun x hx => by have := canL_bnd _ _ _ _ _ _ x hx; omega⟩
set_option maxHeartbeats 8000000 in
theorem may_meets (t : Tb) (k : List Int) (hok : t.ok = true) (hK : KeptOK t.vals.length k) :
    MeetsH (Tz g) f_step_table_may [M0] (tA t k 0 :: ([] : List D).map .d) (.ret (.d (.bool (decide (0 < (mayL t k (k.length - 1)).length))))) [.same] := by
  obtain ⟨f1, f2, f3, f4⟩ := Tb.ok_facts hok
  have hs := hK.short
  have h2 := hK.len
  obtain ⟨s, gs, l1, l2, b1, b2, b3, b4⟩ := val_at hok (i := 0) (by omega) (by omega)
  have gs : t.vals[0]? = some s := gs
  have hm0 : mayL t k 0 = uptoT s.low (s.high - s.low + 1).toNat := by
    rw [← l1, ← l2]
    rfl
  have hmo := mayL_ok t k hok hK
  refine meetsH_step_table_may rfl ?_
  unfold vc_step_table_may
  simp [numbered, tA, lookH, spans, gs, Sp.d]
  refine LOOP.mk Nat (fun i => [.ptr 24 0 0 0, .own 104 i, .d (int (s.low + (i : Int)))]) (fun i => [(24, some (tabB t k 0)), (0, some M0), (104, some ⟨i, T_int, .lst ((uptoT s.low i).map int)⟩)]) (fun i => i ≤ (s.high - s.low + 1).toNat) (fun i => (s.high - s.low + 1).toNat - i) [(1, T_int)] (by simp) 0 (by omega) (by simp [WEAK, lookH, tabB, M0, spans, ints, uptoT]) (fun _ _ => rfl) ?_
  intro i hi
  have w1 := wrap_id (n := s.low + (i : Int) + 1) (by omega) (by omega)
  have hul := upto_len s.low i
  simp [vc_step_table_may_k2, tabB, lookH, spans, gs, Sp.d]
  refine ⟨fun hlt => ?_, fun hge => ?_⟩
  · simp [w1, hul]
    refine ⟨by omega, i + 1, by omega, ?_, by omega⟩
    rw [upto_succ]
    simp [WEAK, lookH, tabB, M0, spans, ints]
    omega
  · have ei : i = (s.high - s.low + 1).toNat := by omega
    have w2 := wrap_id (n := (k.length : Int) - 1) (by omega) (by omega)
    have em : uptoT s.low i = mayL t k 0 := by rw [hm0, ei]
    rw [em]
    simp [ints, w2]
    refine LOOP.mk Nat (fun j => [.ptr 24 0 0 0, .d (ints (mayL t k j)), .d (int ((k.length : Int) - 1)), .d (int j)]) (fun j => [(24, some (tabB t k 0)), (0, some M0)]) (fun j => j ≤ k.length - 1) (fun j => k.length - 1 - j) [] (by simp) 0 (by omega) (by simp [WEAK, lookH, tabB, M0, spans, ints]) (fun _ _ => rfl) ?_
    intro j hj
    have w3 := wrap_id (n := (j : Int) + 1) (by omega) (by omega)
    obtain ⟨ml, mb⟩ := hmo j (by omega)
    simp [vc_step_table_may_k1, tabB]
    refine ⟨fun hlt => ?_, fun hge => ?_⟩
    · obtain ⟨x, hx⟩ : ∃ x, k[j]? = some x := ⟨_, List.getElem?_eq_getElem (by omega)⟩
      obtain ⟨y, hy⟩ : ∃ y, k[j + 1]? = some y := ⟨_, List.getElem?_eq_getElem (by omega)⟩
      have bx := hK.bnd hx
      have by' := hK.bnd hy
      have hxy := inc_next hK.inc j x y hx hy
      have ex : k.getD j 0 = x := by simp [List.getD_eq_getElem?_getD, hx]
      have ey : k.getD (j + 1) 0 = y := by simp [List.getD_eq_getElem?_getD, hy]
      have hmn : mayL t k (j + 1) = canL t x y (mayL t k j) (vLo t y) (vHi t y - vLo t y + 1).toNat := by
        conv => lhs; unfold mayL
        rw [ex, ey]
      have e3 : ((j : Int) + 1).toNat = j + 1 := by omega
      simp [lookH, ints, hx, w3, e3, hy]
      refine ⟨by omega, ?_⟩
      refine CALL.tab (ds := [prD (x, y), ints (mayL t k j)]) (can_meets t k (mayL t k j) x y hok (by omega) hxy (by omega) (by omega) mb) rfl ?_
      simp [vc_step_table_may_k0, w3]
      refine ⟨rfl, j + 1, by omega, ?_, by omega⟩
      rw [hmn]
      simp [WEAK, lookH, ints, spans, tabB]
    · have ej : j = k.length - 1 := by omega
      subst ej
      simp [ints]
      refine ⟨[], ?_⟩
      simp [yv, yv.yvL, yh, yb, yver, bodyOf, fz, fz.fzL, fzH, fzB, stay, src, lookH, NodupB, disjB, argD, toD, M0, ints]
theorem Word_meets (t : Tb) (k : List Int) (hok : t.ok = true) (hK : KeptOK t.vals.length k) : ∃ w : Int, Meets (Tz g) f_step_Word [t.d, ints k] ⟨.tup [.d (int w), .d (int 0)], []⟩ ∧ (w = 3 → dbL t k t.vals.length = []) ∧ (dbL t k t.vals.length = [] → w = 3) := by
  obtain ⟨f1, f2, f3, f4⟩ := Tb.ok_facts hok
  have key : ∀ w : Int, (w = if dbL t k t.vals.length = [] then 3 else if 0 < (mayL t k (k.length - 1)).length then 2 else 1) → Meets (Tz g) f_step_Word [t.d, ints k] ⟨.tup [.d (int w), .d (int 0)], []⟩ := by
    intro w hw
    refine meets_step_Word ?_
    unfold vc_step_Word
    simp [Tb.d, lookH]
    refine CALL.val [t.d] _ rfl (isTable_meets t hok) (.inl rfl) ?_
    simp [vc_step_Word_k2, lookH]
    refine CALL.val [t.d, ints k] _ rfl (isKept_meets t k (by omega) hK) (.inl rfl) ?_
    simp [lookH]
    refine CALL.mk [t.d, ints k] _ rfl (tableOf_meets t k) (.inl rfl) (by simp) ?_
    simp [vc_step_Word_k1, tA, M0, AV.ren, AV.ren.renL, rho, lookH, spans, upsP, ABlk.ren, Body.ren]
    refine CALL.tab (ds := []) (surely_meets t k hok hK) rfl ?_
    by_cases hd : dbL t k t.vals.length = []
    · rw [if_pos hd] at hw
      subst hw
      simp [vc_step_Word_k0, hd]
    · rw [if_neg hd] at hw
      simp [vc_step_Word_k0, hd, lookH]
      refine CALL.tab (ds := []) (may_meets t k hok hK) rfl ?_
      by_cases hm : 0 < (mayL t k (k.length - 1)).length
      · rw [if_pos hm] at hw
        subst hw
        simp [hm]
      · rw [if_neg hm] at hw
        subst hw
        simp [hm]
  refine ⟨_, key _ rfl, fun h => ?_, fun h => if_pos h⟩
  split at h
  · assumption
  · split at h <;> omega
end Go.Vc
