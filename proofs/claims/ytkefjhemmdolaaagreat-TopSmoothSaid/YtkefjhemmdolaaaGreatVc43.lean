/- A part of the proof: general laws of a reading of the model by abstract data, or contracts of the functions that the law calls. -/
import Derived.Test.YtkefjhemmdolaaaGreatVc42
set_option maxRecDepth 100000
namespace Go.Vc
open Go Go.Proofs
variable {g : GG}
attribute [local simp] and_assoc
def M0 : ABlk := ⟨0, 0, .mp [] 0⟩
def tA (t : Tb) (k : List Int) (id : Nat) : AV := .agg [.d (spans t.vals), .d (int t.rule), .d (int t.off), .d (ints k), .mapv id]
theorem CALL.tab {f : FuncId} {t : Tb} {k : List Int} {ds : List D} {x : D} {id new : Nat} {h : Heap} {K KP : List Nat → AV → Heap → Prop} (hM : MeetsH (Tz g) f [M0] (tA t k 0 :: ds.map .d) (.ret (.d x)) [.same])
    (h0 : lookH h id = some M0) (hK : K ([id] ++ [id]) (.d x) h) : CALL (Tz g) f (tA t k id :: ds.map .d) new h K KP := by
  have d1 : ∀ (ds : List D), argsM (bodyOf h) (rho [id] new) (ds.map fun _ => true) (ds.map .d) (ds.map .d) := by
    intro ds
    induction ds with
    | nil => trivial
    | cons d r ih => exact ⟨⟨d, rfl, rfl⟩, ih⟩
  have d2 : ∀ (ds : List D), lentL (ds.map fun _ => true) (ds.map AV.d) = [] := by
    intro ds
    induction ds with
    | nil => rfl
    | cons d r ih => simp [lentL, ids, ih]
  have d3 : ∀ (ds : List D), ids.idsL (ds.map AV.d) = [] := by
    intro ds
    induction ds with
    | nil => rfl
    | cons d r ih => simp [ids.idsL, ids, ih]
  refine CALL.gen [id] (false :: ds.map fun _ => true) _ _ _ _ hM rfl ⟨?_, d1 ds⟩ ?_ ?_ ?_ ?_ ?_
  · simp [tA, AV.ren, AV.ren.renL, rho]
  · simp [preB, bodyOf, h0, M0, Body.ren]
  · simp [tA, ids.idsL, ids, d3, preIds, M0, Body.ids, lowL]
  · simp [lentL, d2, disjB]
  · simp
  · have e : ids.idsL (tA t k id :: ds.map .d) = [id] := by simp [tA, ids.idsL, ids, d3]
    rw [e]
    simpa [AV.ren, upsP, lentL, d2, kills] using hK
theorem tableOf_meets (t : Tb) (k : List Int) : Meets (Tz g) f_step_tableOf [t.d, ints k] ⟨tA t k 0, [M0]⟩ := by
  refine meets_step_tableOf ?_
  unfold vc_step_tableOf
  simp [Tb.d, lookH, spans, ints]
  refine ⟨[some 56], ?_⟩
  simp [tA, M0, yv, yv.yvL, yh, yb, yver, bodyOf, fz, fz.fzL, fzH, fzB, stay, src, lookH, NodupB, disjB, argD, toD, spans, ints]
def arP (k : List Int) (row : Int) : Int × Int := if k[lbI k row]? = some row then (row, row) else (k.getD (lbI k row - 1) 0, k.getD (lbI k row) 0)
def prD (p : Int × Int) : D := .agg [int p.1, int p.2]
theorem around_facts {n : Nat} {k : List Int} (hK : KeptOK n k) {row : Int} (h0 : 0 ≤ row) (h1 : row ≤ (n : Int) - 1) (hm : ¬ k[lbI k row]? = some row) :
    1 ≤ lbI k row ∧ lbI k row < k.length ∧ ∃ a b, k[lbI k row - 1]? = some a ∧ k[lbI k row]? = some b ∧ a < row ∧ row < b := by
  have hle := lb_le k row
  have hlast := hK.last
  have h2 := hK.len
  have hlt : lbI k row < k.length := by
    refine Classical.byContradiction fun hn => ?_
    have e : lbI k row = k.length := by omega
    have := (lb_iff hK.inc row hlast).2 (by omega)
    omega
  have hpos : 1 ≤ lbI k row := by
    refine Classical.byContradiction fun hn => ?_
    have e : lbI k row = 0 := by omega
    have := lb_iff hK.inc row hK.first
    have h3 : ¬ (0 : Int) < row := fun h => by have := this.1 h; omega
    exact hm (by rw [e, hK.first]; congr 1; omega)
  obtain ⟨a, ha⟩ : ∃ a, k[lbI k row - 1]? = some a := ⟨_, List.getElem?_eq_getElem (by omega)⟩
  obtain ⟨b, hb⟩ : ∃ b, k[lbI k row]? = some b := ⟨_, List.getElem?_eq_getElem hlt⟩
  have h3 := (lb_iff hK.inc row ha).2 (by omega)
  have h4 := lb_iff hK.inc row hb
  refine ⟨hpos, hlt, a, b, ha, hb, h3, ?_⟩
  have h5 : ¬ b < row := fun h => by have := h4.1 h; omega
  have h6 : b ≠ row := fun e => hm (by rw [hb, e])
  omega
set_option maxHeartbeats 4000000 in
theorem around_meets (t : Tb) (k : List Int) (row : Int) (hn : t.vals.length ≤ 13) (hK : KeptOK t.vals.length k) (h0 : 0 ≤ row) (h1 : row ≤ (t.vals.length : Int) - 1) :
    MeetsH (Tz g) f_step_table_around [M0] (tA t k 0 :: [int row].map .d) (.ret (.d (prD (arP k row)))) [.same] := by
  have hs := hK.short
  refine meetsH_step_table_around rfl ?_
  unfold vc_step_table_around
  simp [numbered, tA, lookH]
  refine CALL.mk [ints k, int row] _ rfl (search_meets k row (by omega) hK.inc) (.inl rfl) (by simp) ?_
  by_cases hm : k[lbI k row]? = some row
  · simp [hm, vc_step_table_around_k0, lookH]
    refine ⟨[], ?_⟩
    simp [arP, hm, prD, yv, yv.yvL, yh, yb, yver, bodyOf, fz, fz.fzL, fzH, fzB, stay, src, lookH, NodupB, disjB, argD, toD, M0]
  · obtain ⟨q1, q2, a, b, ha, hb, q3, q4⟩ := around_facts hK h0 h1 hm
    have w1 := wrap_id (n := (lbI k row : Int) - 1) (by omega) (by omega)
    have e1 : ((lbI k row : Int) - 1).toNat = lbI k row - 1 := by omega
    have hbr : ¬ b = row := by omega
    simp [hm, vc_step_table_around_k0, lookH, ints, w1, e1, ha, hb, hbr]
    refine ⟨by omega, rfl, ?_⟩
    refine ⟨[], ?_⟩
    simp [arP, hm, hbr, prD, ha, hb, List.getD_eq_getElem?_getD, yv, yv.yvL, yh, yb, yver, bodyOf, fz, fz.fzL, fzH, fzB, stay, src, lookH, NodupB, disjB, argD, toD, M0]
set_option maxHeartbeats 4000000 in
theorem end_meets (t : Tb) (k : List Int) (row : Nat) (s : Sp) (which : Bool) (hs : t.vals[row]? = some s) : MeetsH (Tz g) f_step_table_end [M0] (tA t k 0 :: [int row, int (if which then 1 else 0)].map .d) (.ret (.d (int (if which then s.high else s.low)))) [.same] := by
  refine meetsH_step_table_end rfl ?_
  unfold vc_step_table_end
  have fin : ∀ x : Int, POST (.d (int x)) [(48, some ⟨0, T_2_func_step_bounds_int, .box [.d (.fn f_step_bounds_low [] []), .d (.fn f_step_bounds_high [] [])]⟩), (48, some ⟨0, T_2_func_step_bounds_int, .box [.d .nilf, .d .nilf]⟩), (24, some ⟨0, T_step_table, .box [.d (spans t.vals), .d (int t.rule), .d (int t.off), .d (ints k), .mapv 0]⟩), (0, some M0)] [M0] (.d (int x)) [.same] := fun x => by
    refine ⟨[], ?_⟩
    simp [yv, yv.yvL, yh, yb, yver, bodyOf, fz, fz.fzL, fzH, fzB, stay, src, lookH, NodupB, disjB, argD, toD, M0]
  cases which with
  | true =>
    simp [numbered, tA, lookH, spans, hs, Sp.d]
    refine CALL.val [s.d] _ rfl (high_meets s) (.inl rfl) ?_
    simp [vc_step_table_end_k0]
    exact ⟨rfl, fin s.high⟩
  | false =>
    simp [numbered, tA, lookH, spans, hs, Sp.d]
    refine CALL.val [s.d] _ rfl (low_meets s) (.inl rfl) ?_
    simp [vc_step_table_end_k0]
    exact ⟨rfl, fin s.low⟩
def figP (rule a b first last row : Int) : Int := rdV rule (first * (b - row) + last * (row - a)) (b - a)
theorem mul_le (x y : Int) (X Y : Int) (hx0 : -X ≤ x) (hx1 : x ≤ X) (hy0 : 0 ≤ y) (hy1 : y ≤ Y) (hX : 0 ≤ X) : -(X * Y) ≤ x * y ∧ x * y ≤ X * Y := by
  have h1 : x * y ≤ X * y := Int.mul_le_mul_of_nonneg_right hx1 hy0
  have h2 : X * y ≤ X * Y := Int.mul_le_mul_of_nonneg_left hy1 hX
  have h3 : -X * y ≤ x * y := Int.mul_le_mul_of_nonneg_right hx0 hy0
  rw [Int.neg_mul] at h3
  omega
set_option maxHeartbeats 4000000 in
theorem figure_meets (t : Tb) (k : List Int) (a b first last row : Int) (hr : 1 ≤ t.rule ∧ t.rule ≤ 4) (h0 : 0 ≤ a) (h1 : a < b) (h2 : b ≤ 100) (h3 : a ≤ row) (h4 : row ≤ b) (hf : -20000 ≤ first ∧ first ≤ 20000) (hl : -20000 ≤ last ∧ last ≤ 20000) :
    MeetsH (Tz g) f_step_table_figure [M0] (tA t k 0 :: [prD (a, b), int first, int last, int row].map .d) (.ret (.d (int (figP t.rule a b first last row)))) [.same] := by
  obtain ⟨m1, m2⟩ := mul_le first (b - row) 20000 100 hf.1 hf.2 (by omega) (by omega) (by omega)
  obtain ⟨m3, m4⟩ := mul_le last (row - a) 20000 100 hl.1 hl.2 (by omega) (by omega) (by omega)
  have w1 := wrap_id (n := b - row) (by omega) (by omega)
  have w2 := wrap_id (n := row - a) (by omega) (by omega)
  have w3 := wrap_id (n := first * (b - row)) (by omega) (by omega)
  have w4 := wrap_id (n := last * (row - a)) (by omega) (by omega)
  have w5 := wrap_id (n := b - a) (by omega) (by omega)
  refine meetsH_step_table_figure rfl ?_
  unfold vc_step_table_figure
  simp [numbered, tA, lookH, prD, w1, w2, w3, w4]
  refine CALL.val [ints [first * (b - row), last * (row - a)]] _ rfl (step_sum_meets _ _ (by omega) (by omega) (by omega) (by omega)) (.inr rfl) ?_
  simp [vc_step_table_figure_k1, lookH, w5]
  refine CALL.mk [int (first * (b - row) + last * (row - a)), int (b - a), int t.rule] _ rfl (To_meets _ _ _ (by omega) (by omega) (by omega) (by omega) hr.1 hr.2) (.inl rfl) (by simp) ?_
  simp [vc_step_table_figure_k0]
  refine ⟨rfl, [], ?_⟩
  simp [figP, yv, yv.yvL, yh, yb, yver, bodyOf, fz, fz.fzL, fzH, fzB, stay, src, lookH, NodupB, disjB, argD, toD, M0]
end Go.Vc

namespace Go.Vc
open Go Go.Proofs
variable {g : GG}
attribute [local simp] and_assoc
theorem rdV_bnd (rule v u B : Int) (hu : 1 ≤ u) (hu2 : u ≤ 1000) (hB : 0 ≤ B) (h1 : -B ≤ v) (h2 : v ≤ B) : -(2 * B + 1001) ≤ rdV rule v u ∧ rdV rule v u ≤ 2 * B + 1001 := by
  have a1 := quo_bnd v u (by omega) B hB h1 h2
  have a2 := quo_bnd (-v) u (by omega) B hB (by omega) (by omega)
  have a3 := quo_bnd (2 * v + u) (2 * u) (by omega) (2 * B + 1000) (by omega) (by omega) (by omega)
  unfold rdV evenV
  generalize v / u = x1 at *
  generalize (-v) / u = x2 at *
  generalize (2 * v + u) / (2 * u) = x3 at *
  split
  · omega
  · split
    · omega
    · split
      · omega
      · split <;> omega
def vLo (t : Tb) (i : Int) : Int := (t.vals.getD i.toNat ⟨0, 0⟩).low
def vHi (t : Tb) (i : Int) : Int := (t.vals.getD i.toNat ⟨0, 0⟩).high
def offP (t : Tb) (a b row : Int) : Int := max (figP t.rule a b (vHi t a) (vHi t b) row - vLo t row) (vHi t row - figP t.rule a b (vLo t a) (vLo t b) row)
theorem figP_bnd (rule a b first last row : Int) (h0 : 0 ≤ a) (h1 : a < b) (h2 : b ≤ 100) (h3 : a ≤ row) (h4 : row ≤ b) (hf : -20000 ≤ first ∧ first ≤ 20000) (hl : -20000 ≤ last ∧ last ≤ 20000) : -10000000 ≤ figP rule a b first last row ∧ figP rule a b first last row ≤ 10000000 := by
  obtain ⟨m1, m2⟩ := mul_le first (b - row) 20000 100 hf.1 hf.2 (by omega) (by omega) (by omega)
  obtain ⟨m3, m4⟩ := mul_le last (row - a) 20000 100 hl.1 hl.2 (by omega) (by omega) (by omega)
  have := rdV_bnd rule (first * (b - row) + last * (row - a)) (b - a) 4000000 (by omega) (by omega) (by omega) (by omega) (by omega)
  unfold figP
  omega
theorem val_at {t : Tb} (h : t.ok = true) {i : Int} (h0 : 0 ≤ i) (h1 : i ≤ (t.vals.length : Int) - 1) : ∃ s : Sp, t.vals[i.toNat]? = some s ∧ vLo t i = s.low ∧ vHi t i = s.high ∧ -9999 ≤ s.low ∧ s.low ≤ s.high ∧ s.high ≤ 9999 ∧ s.high ≤ s.low + 4 := by
  obtain ⟨f1, _⟩ := Tb.ok_facts h
  have hlt : i.toNat < t.vals.length := by omega
  have hg : t.vals[i.toNat]? = some t.vals[i.toNat] := List.getElem?_eq_getElem hlt
  have hv := valB_facts (f1 _ (List.getElem_mem hlt))
  refine ⟨_, hg, ?_, ?_, hv⟩
  · unfold vLo; rw [List.getD_eq_getElem?_getD, hg]; rfl
  · unfold vHi; rw [List.getD_eq_getElem?_getD, hg]; rfl
set_option maxHeartbeats 8000000 in
theorem off_meets (t : Tb) (k : List Int) (a b row : Int) (hok : t.ok = true) (h0 : 0 ≤ a) (h1 : a < b) (h2 : b ≤ (t.vals.length : Int) - 1) (h3 : a ≤ row) (h4 : row ≤ b) :
    MeetsH (Tz g) f_step_table_off [M0] (tA t k 0 :: [prD (a, b), int row].map .d) (.ret (.d (int (offP t a b row)))) [.same] := by
  obtain ⟨f1, f2, f3, f4⟩ := Tb.ok_facts hok
  obtain ⟨sa, ga, la, ha, va⟩ := val_at hok h0 (by omega)
  obtain ⟨sb, gb, lb, hb, vb⟩ := val_at hok (i := b) (by omega) h2
  obtain ⟨sr, gr, lr, hr, vr⟩ := val_at hok (i := row) (by omega) (by omega)
  have eHa := end_meets (g := g) t k a.toNat sa true ga
  have eHb := end_meets (g := g) t k b.toNat sb true gb
  have eLa := end_meets (g := g) t k a.toNat sa false ga
  have eLb := end_meets (g := g) t k b.toNat sb false gb
  have eLr := end_meets (g := g) t k row.toNat sr false gr
  have eHr := end_meets (g := g) t k row.toNat sr true gr
  rw [show ((a.toNat : Nat) : Int) = a by omega] at eHa eLa
  rw [show ((b.toNat : Nat) : Int) = b by omega] at eHb eLb
  rw [show ((row.toNat : Nat) : Int) = row by omega] at eHr eLr
  have F1 := figure_meets (g := g) t k a b sa.high sb.high row f3 h0 h1 (by omega) h3 h4 (by omega) (by omega)
  have F2 := figure_meets (g := g) t k a b sa.low sb.low row f3 h0 h1 (by omega) h3 h4 (by omega) (by omega)
  have B1 := figP_bnd t.rule a b sa.high sb.high row h0 h1 (by omega) h3 h4 (by omega) (by omega)
  have B2 := figP_bnd t.rule a b sa.low sb.low row h0 h1 (by omega) h3 h4 (by omega) (by omega)
  have hO : offP t a b row = max (figP t.rule a b sa.high sb.high row - sr.low) (sr.high - figP t.rule a b sa.low sb.low row) := by
    unfold offP
    rw [la, ha, lb, hb, lr, hr]
  rw [hO]
  generalize figP t.rule a b sa.high sb.high row = A1 at *
  generalize figP t.rule a b sa.low sb.low row = A2 at *
  have w1 := wrap_id (n := A1 - sr.low) (by omega) (by omega)
  have w2 := wrap_id (n := sr.high - A2) (by omega) (by omega)
  refine meetsH_step_table_off rfl ?_
  unfold vc_step_table_off
  simp [numbered, tA, lookH, prD]
  refine CALL.tab (ds := [int a, int 1]) eHa rfl ?_
  simp [vc_step_table_off_k4, lookH]
  refine CALL.tab (ds := [int b, int 1]) eHb rfl ?_
  simp
  refine CALL.tab (ds := [prD (a, b), int sa.high, int sb.high, int row]) F1 rfl ?_
  simp [vc_step_table_off_k3, lookH]
  refine ⟨rfl, ?_⟩
  refine CALL.tab (ds := [int a, int 0]) eLa rfl ?_
  simp [vc_step_table_off_k2, lookH]
  refine CALL.tab (ds := [int b, int 0]) eLb rfl ?_
  simp
  refine CALL.tab (ds := [prD (a, b), int sa.low, int sb.low, int row]) F2 rfl ?_
  simp [vc_step_table_off_k1, lookH]
  refine ⟨rfl, ?_⟩
  refine CALL.tab (ds := [int row, int 0]) eLr rfl ?_
  simp [vc_step_table_off_k0, lookH, w1]
  refine CALL.tab (ds := [int row, int 1]) eHr rfl ?_
  simp [w2]
  refine ⟨rfl, [], ?_⟩
  simp [yv, yv.yvL, yh, yb, yver, bodyOf, fz, fz.fzL, fzH, fzB, stay, src, lookH, NodupB, disjB, argD, toD, M0]
end Go.Vc
