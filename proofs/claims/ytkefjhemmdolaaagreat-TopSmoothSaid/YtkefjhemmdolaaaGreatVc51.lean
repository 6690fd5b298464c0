/- A part of the proof: general laws of a reading of the model by abstract data, or contracts of the functions that the law calls. -/
import Derived.Test.YtkefjhemmdolaaaGreatVc47
import Derived.Test.YtkefjhemmdolaaaGreatVc46
import Derived.Test.YtkefjhemmdolaaaGreatVc29
import Derived.Test.YtkefjhemmdolaaaGreatVc32
import Derived.Test.YtkefjhemmdolaaaGreatVc44
import Derived.Test.YtkefjhemmdolaaaGreatVc49
import Derived.Test.YtkefjhemmdolaaaGreatVc50
set_option maxRecDepth 100000
namespace Go.Vc
open Go Go.Proofs
variable {g : GG}
attribute [local simp] and_assoc
theorem column_in_meets (x lo hi : Int) : Meets (Tz g) f_column_in [int x, int lo, int hi] ⟨.d (.bool (inB x lo hi)), []⟩ := by
  refine meets_column_in ?_
  unfold vc_column_in
  simp
  refine ⟨fun h => ?_, fun h => ?_⟩
  · simp [inB, h]
  · simp [inB]; omega
theorem index_int_meets (l : List Int) (f : FuncId) (q : Int → Bool) (hf : ∀ s, Meets (Tz g) f [int s] ⟨.d (.bool (q s)), []⟩) (hl : l.length ≤ 1000) : Meets (Tz g) f_slices_IndexFunc_l_int_int [ints l, .fn f [] []] ⟨.d (int (idx q l 0)), []⟩ := by
  refine meets_slices_IndexFunc_l_int_int ?_
  unfold vc_slices_IndexFunc_l_int_int
  simp [ints]
  refine LOOP.mk Nat (fun k => [.d (ints l), .d (.fn f [] []), .d (int l.length), .d (int k)]) (fun _ => []) (fun k => k ≤ l.length ∧ idx q l 0 = idx q (l.drop k) k) (fun k => l.length - k) [] (by simp) 0 (by simp) (by simp [WEAK, ints]) (fun _ _ => rfl) ?_
  rintro k ⟨hk, he⟩
  simp [ints, vc_slices_IndexFunc_l_int_int_k0]
  constructor
  · intro hlt
    have hlt : k < l.length := by omega
    have hg : l[k]? = some l[k] := List.getElem?_eq_getElem hlt
    rw [idx_drop q l k _ hg] at he
    generalize l[k] = x at hg he
    simp [hg]
    refine CALL.val _ _ rfl (hf x) (.inl rfl) ?_
    simp
    constructor
    · intro hq
      simp [hq] at he
      exact he.symm
    · intro hq
      simp [hq] at he
      rw [wrap_id (by omega) (by omega)]
      exact ⟨k + 1, by omega, by simpa using he, by simp [WEAK], by omega⟩
  · intro hge
    have : k = l.length := by omega
    subst this
    simp [idx] at he
    exact he.symm
theorem contains_int_meets (l : List Int) (f : FuncId) (q : Int → Bool) (hf : ∀ s, Meets (Tz g) f [int s] ⟨.d (.bool (q s)), []⟩) (hl : l.length ≤ 1000) : Meets (Tz g) f_slices_ContainsFunc_l_int_int [ints l, .fn f [] []] ⟨.d (.bool (l.any q)), []⟩ := by
  refine meets_slices_ContainsFunc_l_int_int ?_
  unfold vc_slices_ContainsFunc_l_int_int
  refine CALL.val _ _ rfl (index_int_meets l f q hf hl) (.inl rfl) ?_
  simp [← idx_any q l 0 (by omega)]
theorem isSheet_1_meets (x : Int) : Meets (Tz g) f_column_isSheet_1 [int x] ⟨.d (.bool (!inB x (-9999) 9999)), []⟩ := by
  refine meets_column_isSheet_1 ?_
  unfold vc_column_isSheet_1
  refine CALL.val [int x, int (-9999), int 9999] _ rfl (column_in_meets _ _ _) (.inl rfl) ?_
  simp
def shD (l : List Int) (lo hi : Int) : D := .agg [ints l, int 2, int lo, int hi]
theorem isSheet_meets (l : List Int) (lo hi : Int) (h1 : 1 ≤ l.length) (h2 : l.length ≤ 14) (h3 : -99999 ≤ lo) (h4 : lo ≤ hi) (h5 : hi ≤ 99999) (hb : ∀ x, x ∈ l → -9999 ≤ x ∧ x ≤ 9999) : Meets (Tz g) f_column_isSheet [shD l lo hi] ⟨.d (.bool true), []⟩ := by
  refine meets_column_isSheet ?_
  unfold vc_column_isSheet
  simp [shD, lookH, ints]
  have e1 : inB l.length 1 14 = true := by simp [inB]; omega
  have e2 : inB 2 1 3 = true := rfl
  have e3 : inB lo (-99999) 99999 = true := by simp [inB]; omega
  have e4 : inB hi lo 99999 = true := by simp [inB]; omega
  have e5 : (l.any fun s => !inB s (-9999) 9999) = false := by
    rw [List.any_eq_false]
    intro s hs
    have := hb s hs
    have e : inB s (-9999) 9999 = true := by simp [inB]; omega
    simp [e]
  refine CALL.val [int l.length, int 1, int 14] _ rfl (column_in_meets _ _ _) (.inl rfl) ?_
  simp [e1, vc_column_isSheet_k3, lookH]
  refine CALL.val [int 2, int 1, int 3] _ rfl (column_in_meets _ _ _) (.inl rfl) ?_
  simp [e2, vc_column_isSheet_k2, lookH]
  refine CALL.val [int lo, int (-99999), int 99999] _ rfl (column_in_meets _ _ _) (.inl rfl) ?_
  simp [e3, vc_column_isSheet_k1, lookH]
  refine CALL.val [int hi, int lo, int 99999] _ rfl (column_in_meets _ _ _) (.inl rfl) ?_
  simp [e4, vc_column_isSheet_k0, lookH]
  refine CALL.val [ints l, .fn f_column_isSheet_1 [] []] _ rfl (contains_int_meets l _ _ isSheet_1_meets (by omega)) (.inl rfl) ?_
  rw [e5]
  simp
def dfs (s : List Int) (n : Nat) : List Int := (List.range n).map fun i : Nat => s.getD (i + 1) 0 - s.getD i 0
def difL (s : List Int) : List Int := dfs s (s.length - 1)
def dmix (s : List Int) (i : Nat) : List Int := dfs s i ++ s.drop i
theorem dfs_len (s : List Int) (n : Nat) : (dfs s n).length = n := by simp [dfs]
theorem dfs_succ (s : List Int) (n : Nat) : dfs s (n + 1) = dfs s n ++ [s.getD (n + 1) 0 - s.getD n 0] := by simp [dfs, List.range_succ]
theorem dmix_len (s : List Int) (i : Nat) (h : i ≤ s.length) : (dmix s i).length = s.length := by simp [dmix, dfs_len]; omega
theorem dmix_set (s : List Int) (i : Nat) (h : i < s.length) : (dmix s i).set i (s.getD (i + 1) 0 - s.getD i 0) = dmix s (i + 1) := by
  unfold dmix
  rw [List.set_append_right _ _ (by rw [dfs_len]; exact Nat.le_refl _), dfs_len, Nat.sub_self, List.drop_eq_getElem_cons h, dfs_succ, List.set_cons_zero, List.append_assoc]
  rfl
theorem dmix_at (s : List Int) (i j : Nat) (hij : i ≤ j) (h : j < s.length) : (dmix s i)[j]? = some (s.getD j 0) := by
  unfold dmix
  rw [List.getElem?_append_right (by rw [dfs_len]; exact hij), dfs_len, List.getElem?_drop, show i + (j - i) = j by omega]
  simp [List.getD_eq_getElem?_getD, h]
theorem dmix_take (s : List Int) (i : Nat) : (dmix s i).take i = dfs s i := by
  unfold dmix
  rw [List.take_append_of_le_length (by rw [dfs_len]; exact Nat.le_refl _), List.take_of_length_le (by rw [dfs_len]; exact Nat.le_refl _)]
def dN (l : List Int) : Nat → List Int
  | 0 => l
  | k + 1 => difL (dN l k)
theorem dN_len (l : List Int) : ∀ k, (dN l k).length = l.length - k
  | 0 => rfl
  | k + 1 => by
    have := dN_len l k
    simp [dN, difL, dfs_len, this]
    omega
theorem dif_bnd (s : List Int) (B : Int) (hB : 0 ≤ B) (h : ∀ x, x ∈ s → -B ≤ x ∧ x ≤ B) : ∀ x, x ∈ difL s → -(2 * B) ≤ x ∧ x ≤ 2 * B := by
  intro x hx
  unfold difL dfs at hx
  obtain ⟨i, hi, rfl⟩ := List.mem_map.1 hx
  have hi := List.mem_range.1 hi
  have := (get_bnd h i (by omega)).2
  have := (get_bnd h (i + 1) (by omega)).2
  omega
theorem dN_bnd (l : List Int) (h : ∀ x, x ∈ l → -10000 ≤ x ∧ x ≤ 10000) : ∀ k, k ≤ 2 → ∀ x, x ∈ dN l k → -40000 ≤ x ∧ x ≤ 40000 := by
  have h1 := dif_bnd l 10000 (by omega) h
  have h2 := dif_bnd (difL l) 20000 (by omega) h1
  intro k hk x hx
  match k, hk with
  | 0, _ => have := h x hx; omega
  | 1, _ => have := h1 x hx; omega
  | 2, _ => have := h2 x hx; omega
set_option maxHeartbeats 8000000 in
theorem differences_meets (l : List Int) (h3 : 3 ≤ l.length) (hl : l.length ≤ 1000) (hb : ∀ x, x ∈ l → -10000 ≤ x ∧ x ≤ 10000) : Meets (Tz g) f_column_differences [ints l, int 2] ⟨.own 0 0, [⟨0, T_int, .lst ((dN l 2).map int)⟩]⟩ := by
  refine meets_column_differences ?_
  unfold vc_column_differences
  refine CALL.mk _ _ rfl (clone_ints_meets l hl) (.inl rfl) (by simp) ?_
  refine LOOP.mk Nat (fun k => [.own 40 k, .d (int 2), .d (int k)]) (fun k => [(40, some ⟨k, T_int, .lst ((dN l k).map int)⟩)]) (fun k => k ≤ 2) (fun k => 2 - k) [] (by simp) 0 (by omega) (by simp [WEAK, dN]) (fun _ _ => rfl) ?_
  intro k hk
  have hsl := dN_len l k
  have hbk := dN_bnd l hb k hk
  have hnx : dN l (k + 1) = difL (dN l k) := rfl
  simp [vc_column_differences_k1]
  refine ⟨fun hlt => ?_, fun hge => ?_⟩
  · have hlt : k < 2 := by omega
    generalize hs : dN l k = s at *
    have w1 := wrap_id (n := (s.length : Int) - 1) (by omega) (by omega)
    have w2 := wrap_id (n := (k : Int) + 1) (by omega) (by omega)
    simp [lookH, w1]
    refine LOOP.mk Nat (fun i => [.own 40 k, .d (int 2), .d (int k), .d (int ((s.length : Int) - 1)), .d (int i)]) (fun i => [(40, some ⟨k, T_int, .lst ((dmix s i).map int)⟩)]) (fun i => i + 1 ≤ s.length) (fun i => s.length - i) [] (by simp) 0 (by omega) (by simp [WEAK, dmix, dfs, lookH]) (fun _ _ => rfl) ?_
    intro i hi
    have hml := dmix_len s i (by omega)
    simp [vc_column_differences_k0]
    refine ⟨fun hi2 => ?_, fun hi2 => ?_⟩
    · have hi3 : i + 1 < s.length := by omega
      have g0 := dmix_at s i i (Nat.le_refl _) (by omega)
      have g1 := dmix_at s i (i + 1) (by omega) hi3
      have b0 := (get_bnd hbk i (by omega)).2
      have b1 := (get_bnd hbk (i + 1) hi3).2
      have hset := dmix_set s i (by omega)
      generalize s.getD i 0 = x at *
      generalize s.getD (i + 1) 0 = y at *
      have w3 := wrap_id (n := (i : Int) + 1) (by omega) (by omega)
      have w4 := wrap_id (n := y - x) (by omega) (by omega)
      have e1 : ((i : Int) + 1).toNat = i + 1 := by omega
      simp [lookH, w3, e1, g0, g1, w4, hml]
      refine ⟨by omega, by omega, by omega, rfl, i + 1, by omega, ?_, by omega⟩
      rw [← hset]
      simp [WEAK, lookH, List.map_set]
    · have ei : i = s.length - 1 := by omega
      simp [lookH, hml, w1, w2]
      refine ⟨by omega, by omega, k + 1, by omega, ?_, by omega⟩
      rw [hnx]
      rw [← ei, ← List.map_take, dmix_take]
      simp [WEAK, lookH, difL, ei]
  · have : k = 2 := by omega
    subst this
    simp [lookH]
end Go.Vc

namespace Go.Vc
open Go Go.Proofs
variable {g : GG}
attribute [local simp] and_assoc
abbrev MS := List MEnt × Nat
def keyP (a b : Int) : D := .agg [int a, int b]
def AllK (es : List MEnt) : Prop := ∀ e, e ∈ es → ∃ a b : Int, e.k = keyP a b
def addM (a b : Int) (s : MS) : MS := mput (keyP a b) (.agg []) s.1 s.2 ((mfind (keyP a b) s.1 0).getD none)
theorem keyEq_P (a b c d : Int) : ∃ r, keyEq (keyP a b) (keyP c d) = some r := by
  simp [keyEq, keyP, beqAll, D.beq]
theorem mfind_all (a b : Int) : ∀ (es : List MEnt) (i : Nat), AllK es → ∃ r, mfind (keyP a b) es i = some r
  | [], _, _ => ⟨none, rfl⟩
  | e :: es, i, h => by
    obtain ⟨c, d, hk⟩ := h e List.mem_cons_self
    obtain ⟨r, hr⟩ := keyEq_P a b c d
    unfold mfind
    rw [hk, hr]
    cases r with
    | true => exact ⟨_, rfl⟩
    | false => exact mfind_all a b es (i + 1) (fun x hx => h x (List.mem_cons_of_mem _ hx))
theorem addM_all (a b : Int) (s : MS) (h : AllK s.1) : AllK (addM a b s).1 := by
  unfold addM mput
  split
  · intro e he
    rcases List.mem_or_eq_of_mem_set he with he | rfl
    · exact h e he
    · exact ⟨a, b, rfl⟩
  · intro e he
    rcases List.mem_append.1 he with he | he
    · exact h e he
    · obtain rfl := List.mem_singleton.1 he
      exact ⟨a, b, rfl⟩
theorem mupd_P {h : Heap} {id : Nat} {e : TypeId} {s : MS} {a b : Int} {K : Heap → Prop} (hB : bodyOf h id 0 = some (e, .mp s.1 s.2)) (ha : AllK s.1) (hK : K ((id, some ⟨0, e, .mp (addM a b s).1 (addM a b s).2⟩) :: h)) : MUPD 1002 (.mapv id) (.d (keyP a b)) (.d (.agg [])) h K := by
  obtain ⟨r, hr⟩ := mfind_all a b s.1 0 ha
  refine ⟨id, e, s.1, s.2, keyP a b, .agg [], r, by simp only [mapAt, hB], rfl, by simp [keyOK, keyP, D.isNum], rfl, hr, ?_⟩
  have e1 : addM a b s = mput (keyP a b) (.agg []) s.1 s.2 r := by unfold addM; rw [hr]; rfl
  rw [← e1]
  exact hK
def winM (i : Int) (s : MS) : Nat → MS
  | 0 => s
  | r + 1 => addM i (i + (r : Int)) (winM i s r)
theorem winM_all (i : Int) (s : MS) (h : AllK s.1) : ∀ r, AllK (winM i s r).1
  | 0 => h
  | r + 1 => addM_all _ _ _ (winM_all i s h r)
def jmpB (ws : List Int) (lo hi : Int) (i : Nat) : Bool := !inB (ws.getD i 0) lo hi
def metM (ws : List Int) (lo hi : Int) : Nat → MS
  | 0 => ([], 0)
  | i + 1 => if jmpB ws lo hi i = true then winM i (metM ws lo hi i) 3 else metM ws lo hi i
theorem metM_all (ws : List Int) (lo hi : Int) : ∀ i, AllK (metM ws lo hi i).1
  | 0 => fun e he => by cases he
  | i + 1 => by
    unfold metM
    split
    · exact winM_all _ _ (metM_all ws lo hi i) 3
    · exact metM_all ws lo hi i
def MB (s : MS) : ABlk := ⟨0, 0, .mp s.1 s.2⟩
def sA (l : List Int) (lo hi : Int) (ws : List Int) (id : Nat) : AV := .agg [.d (ints l), .d (int 2), .d (int lo), .d (int hi), .d (ints ws), .mapv id]
theorem CALL.sht {f : FuncId} {l : List Int} {lo hi : Int} {ws : List Int} {s : MS} {ds : List D} {x : D} {id new : Nat} {h : Heap} {K KP : List Nat → AV → Heap → Prop} (hM : MeetsH (Tz g) f [MB s] (sA l lo hi ws 0 :: ds.map .d) (.ret (.d x)) [.same])
    (h0 : lookH h id = some (MB s)) (hK : K ([id] ++ [id]) (.d x) h) : CALL (Tz g) f (sA l lo hi ws id :: ds.map .d) new h K KP := by
  have d1 : ∀ (ds : List D), argsM (bodyOf h) (rho [id] new) (ds.map fun _ => true) (ds.map .d) (ds.map .d) := by
    intro ds
    induction ds with
    | nil => trivial
    | cons d r ih => exact ⟨⟨d, rfl, rfl⟩, ih⟩
  have d2 : ∀ (ds : List D), lentL (ds.map fun _ => true) (ds.map AV.d) = [] := by
    intro ds
    induction ds with
    | nil => rfl
    | cons d r ih => simp [lentL, ids, ih]
  have d3 : ∀ (ds : List D), ids.idsL (ds.map AV.d) = [] := by
    intro ds
    induction ds with
    | nil => rfl
    | cons d r ih => simp [ids.idsL, ids, ih]
  refine CALL.gen [id] (false :: ds.map fun _ => true) _ _ _ _ hM rfl ⟨?_, d1 ds⟩ ?_ ?_ ?_ ?_ ?_
  · simp [sA, AV.ren, AV.ren.renL, rho]
  · simp [preB, bodyOf, h0, MB, Body.ren]
  · simp [sA, ids.idsL, ids, d3, preIds, MB, Body.ids, lowL]
  · simp [lentL, d2, disjB]
  · simp
  · have e : ids.idsL (sA l lo hi ws id :: ds.map .d) = [id] := by simp [sA, ids.idsL, ids, d3]
    rw [e]
    simpa [AV.ren, upsP, lentL, d2, kills] using hK
set_option maxHeartbeats 4000000 in
theorem jumps_meets (l : List Int) (lo hi : Int) (ws : List Int) (s : MS) (i : Nat) (h : i < ws.length) : MeetsH (Tz g) f_column_sheet_jumps [MB s] (sA l lo hi ws 0 :: [int i].map .d) (.ret (.d (.bool (jmpB ws lo hi i)))) [.same] := by
  have gi : ws[i]? = some (ws.getD i 0) := by simp [List.getD_eq_getElem?_getD, h]
  refine meetsH_column_sheet_jumps rfl ?_
  unfold vc_column_sheet_jumps jmpB
  generalize ws.getD i 0 = x at *
  simp [numbered, sA, lookH, ints, gi]
  refine CALL.val [int x, int lo, int hi] _ rfl (column_in_meets _ _ _) (.inl rfl) ?_
  simp [vc_column_sheet_jumps_k0]
  refine ⟨rfl, [], ?_⟩
  simp [yv, yv.yvL, yh, yb, yver, bodyOf, fz, fz.fzL, fzH, fzB, stay, src, lookH, NodupB, disjB, argD, toD, MB]
def jmpL (ws : List Int) (lo hi : Int) : Nat → List Int
  | 0 => []
  | i + 1 => if jmpB ws lo hi i = true then jmpL ws lo hi i ++ [(i : Int)] else jmpL ws lo hi i
theorem jmpL_len (ws : List Int) (lo hi : Int) : ∀ n, (jmpL ws lo hi n).length ≤ n
  | 0 => Nat.le_refl _
  | n + 1 => by
    have := jmpL_len ws lo hi n
    unfold jmpL
    split <;> simp <;> omega
def shB (l : List Int) (lo hi : Int) (ws : List Int) (id : Nat) : ABlk := ⟨0, T_column_sheet, .box [.d (ints l), .d (int 2), .d (int lo), .d (int hi), .d (ints ws), .mapv id]⟩
set_option maxHeartbeats 8000000 in
theorem jumping_meets (l : List Int) (lo hi : Int) (ws : List Int) (s : MS) (hl : ws.length ≤ 1000) : MeetsH (Tz g) f_column_sheet_jumping [MB s] (sA l lo hi ws 0 :: ([] : List D).map .d) (.ret (.d (ints (jmpL ws lo hi ws.length)))) [.same] := by
  refine meetsH_column_sheet_jumping rfl ?_
  unfold vc_column_sheet_jumping
  simp [numbered, sA, lookH, ints]
  refine LOOP.mk Nat (fun i => [.ptr 24 0 0 0, .own 80 (jmpL ws lo hi i).length, .d (int ws.length), .d (int i)]) (fun i => [(24, some (shB l lo hi ws 0)), (0, some (MB s)), (80, some ⟨(jmpL ws lo hi i).length, T_int, .lst ((jmpL ws lo hi i).map int)⟩)]) (fun i => i ≤ ws.length) (fun i => ws.length - i) [(1, T_int)] (by simp) 0 (by omega) (by simp [WEAK, lookH, shB, MB, ints, jmpL]) (fun _ _ => rfl) ?_
  intro i hi'
  have w1 := wrap_id (n := (i : Int) + 1) (by omega) (by omega)
  have hjl := jmpL_len ws lo hi i
  simp [vc_column_sheet_jumping_k1, shB]
  refine ⟨fun hlt => ?_, fun hge => ?_⟩
  · have hn : jmpL ws lo hi (i + 1) = if jmpB ws lo hi i = true then jmpL ws lo hi i ++ [(i : Int)] else jmpL ws lo hi i := rfl
    refine CALL.sht (ds := [int i]) (jumps_meets l lo hi ws s i (by omega)) rfl ?_
    cases hb : jmpB ws lo hi i with
    | true =>
      rw [hb, if_pos rfl] at hn
      simp [vc_column_sheet_jumping_k0, lookH, w1]
      refine ⟨by omega, i + 1, by omega, ?_, by omega⟩
      rw [hn]
      simp [WEAK, lookH]
    | false =>
      rw [hb, if_neg (by simp)] at hn
      simp [vc_column_sheet_jumping_k0, lookH, w1]
      refine ⟨i + 1, by omega, ?_, by omega⟩
      rw [hn]
      simp [WEAK, lookH]
  · have : i = ws.length := by omega
    subst this
    refine ⟨[], ?_⟩
    simp [yv, yv.yvL, yh, yb, yver, bodyOf, fz, fz.fzL, fzH, fzB, stay, src, lookH, NodupB, disjB, argD, toD, MB, ints]
set_option maxHeartbeats 16000000 in
theorem sheetOf_meets (l : List Int) (lo hi : Int) (h3 : 3 ≤ l.length) (hl : l.length ≤ 14) (hb : ∀ x, x ∈ l → -10000 ≤ x ∧ x ≤ 10000) : Meets (Tz g) f_column_sheetOf [shD l lo hi] ⟨sA l lo hi (dN l 2) 0, [MB (metM (dN l 2) lo hi (dN l 2).length)]⟩ := by
  refine meets_column_sheetOf ?_
  unfold vc_column_sheetOf
  have hdl := dN_len l 2
  simp [shD, lookH, ints]
  refine ⟨fun _ => ?_, fun h => by omega⟩
  refine CALL.val [ints l, int 2] _ rfl (Meets.frz (differences_meets l h3 (by omega) hb)) (.inl rfl) ?_
  generalize hws : dN l 2 = ws at *
  simp [vc_column_sheetOf_k3, lookH, ints]
  refine LOOP.mk Nat (fun i => [.ptr 24 0 0 0, .ptr 32 0 0 0, .ptr 64 0 0 0, .d (int ws.length), .d (int i)]) (fun i => [(24, some ⟨0, T_api_ColumnSheet, .box [.d (ints l), .d (int 2), .d (int lo), .d (int hi)]⟩), (32, some ⟨0, T_column_sheet, .box [.zc, .d (int 0), .d (int 0), .d (int 0), .zc, .any]⟩), (64, some (shB l lo hi ws 48)), (48, some (MB (metM ws lo hi i)))]) (fun i => i ≤ ws.length) (fun i => ws.length - i) [] (by simp) 0 (by omega) (by simp [WEAK, lookH, shB, MB, ints, metM]) (fun _ _ => rfl) ?_
  intro i hi'
  have w1 := wrap_id (n := (i : Int) + 1) (by omega) (by omega)
  have hn : metM ws lo hi (i + 1) = if jmpB ws lo hi i = true then winM i (metM ws lo hi i) 3 else metM ws lo hi i := rfl
  have hall := metM_all ws lo hi i
  simp [vc_column_sheetOf_k2, shB]
  refine ⟨fun hlt => ?_, fun hge => ?_⟩
  · refine CALL.sht (ds := [int i]) (jumps_meets l lo hi ws (metM ws lo hi i) i (by omega)) rfl ?_
    cases hjb : jmpB ws lo hi i with
    | true =>
      rw [hjb, if_pos rfl] at hn
      generalize metM ws lo hi i = s at *
      have w0 : IntKind.i64.wrap 3 = 3 := by decide
      simp [vc_column_sheetOf_k1, lookH, w0]
      refine LOOP.mk Nat (fun r => [.ptr 24 0 0 0, .ptr 32 0 0 0, .ptr 64 0 0 0, .d (int i), .d (int ws.length), .d (int i), .d (int 3), .d (int r)]) (fun r => [(24, some ⟨0, T_api_ColumnSheet, .box [.d (ints l), .d (int 2), .d (int lo), .d (int hi)]⟩), (32, some ⟨0, T_column_sheet, .box [.zc, .d (int 0), .d (int 0), .d (int 0), .zc, .any]⟩), (64, some (shB l lo hi ws 48)), (48, some (MB (winM i s r)))]) (fun r => r ≤ 3) (fun r => 3 - r) [] (by simp) 0 (by omega) (by simp [WEAK, lookH, shB, MB, ints, winM]) (fun _ _ => rfl) ?_
      intro r hr
      have w2 := wrap_id (n := (r : Int) + 1) (by omega) (by omega)
      have w3 := wrap_id (n := (i : Int) + (r : Int)) (by omega) (by omega)
      have hwn : winM i s (r + 1) = addM i ((i : Int) + (r : Int)) (winM i s r) := rfl
      have hwa := winM_all i s hall r
      simp [vc_column_sheetOf_k0, shB, lookH, w1, w2, w3, -MUPD]
      refine ⟨fun hlt2 => ?_, fun hge2 => ?_⟩
      · refine mupd_P (s := winM i s r) (e := 0) (a := (i : Int)) (b := (i : Int) + (r : Int)) (by simp [bodyOf, lookH, MB]) hwa ?_
        refine ⟨r + 1, by omega, ?_, by omega⟩
        rw [hwn]
        simp [WEAK, lookH, MB]
      · have : r = 3 := by omega
        subst this
        refine ⟨i + 1, by omega, ?_, by omega⟩
        rw [hn]
        simp [WEAK, lookH, MB]
    | false =>
      rw [hjb, if_neg (by simp)] at hn
      simp [vc_column_sheetOf_k1, lookH, w1]
      refine ⟨i + 1, by omega, ?_, by omega⟩
      rw [hn]
      simp [WEAK, lookH, MB]
  · have : i = ws.length := by omega
    subst this
    simp [lookH, sA]
    refine ⟨[some 48], ?_⟩
    simp [MB, yv, yv.yvL, yh, yb, yver, bodyOf, fz, fz.fzL, fzH, fzB, stay, src, lookH, NodupB, disjB, argD, toD, ints]
theorem Jumps_meets (l : List Int) (lo hi : Int) (h3 : 3 ≤ l.length) (hl : l.length ≤ 14) (hb : ∀ x, x ∈ l → -9999 ≤ x ∧ x ≤ 9999) (h4 : -99999 ≤ lo) (h5 : lo ≤ hi) (h6 : hi ≤ 99999) : Meets (Tz g) f_column_Jumps [shD l lo hi] ⟨.tup [.d (ints (jmpL (dN l 2) lo hi (dN l 2).length)), .d (int 0)], []⟩ := by
  have hdl := dN_len l 2
  refine meets_column_Jumps ?_
  unfold vc_column_Jumps
  simp [shD, lookH]
  refine CALL.val [shD l lo hi] _ rfl (isSheet_meets l lo hi (by omega) hl h4 h5 h6 hb) (.inl rfl) ?_
  simp [vc_column_Jumps_k0, lookH]
  refine CALL.mk [shD l lo hi] _ rfl (sheetOf_meets l lo hi h3 hl (fun x hx => by have := hb x hx; omega)) (.inl rfl) (by simp) ?_
  simp [sA, MB, AV.ren, AV.ren.renL, rho, lookH, upsP, ABlk.ren, Body.ren]
  refine CALL.sht (ds := []) (jumping_meets l lo hi (dN l 2) (metM (dN l 2) lo hi (dN l 2).length) (by omega)) rfl ?_
  simp
end Go.Vc

namespace Go.Vc
open Go Go.Proofs
variable {g : GG}
theorem rdV_near (rule x d off : Int) (h1 : -2 * off ≤ d) (h2 : d ≤ 2 * off) : x - off ≤ rdV rule (2 * x + d) 2 ∧ rdV rule (2 * x + d) 2 ≤ x + off := by
  have m1 := rdV_mono rule 2 ((x - off) * 2) (2 * x + d) (by omega) (by omega)
  have m2 := rdV_mono rule 2 (2 * x + d) ((x + off) * 2) (by omega) (by omega)
  rw [rdV_whole rule 2 _ (by omega)] at m1 m2
  exact ⟨m1, m2⟩
theorem dN_at (l : List Int) (i : Nat) (h : i + 2 < l.length) : (dN l 2).getD i 0 = l.getD (i + 2) 0 - 2 * l.getD (i + 1) 0 + l.getD i 0 := by
  have e1 : ∀ (s : List Int) (j : Nat), j + 1 < s.length → (difL s).getD j 0 = s.getD (j + 1) 0 - s.getD j 0 := fun s j hj => by
    rw [List.getD_eq_getElem?_getD]
    unfold difL dfs
    rw [List.getElem?_map, List.getElem?_range (by omega)]
    rfl
  have hl := dN_len l 1
  have e : dN l 2 = difL (difL l) := rfl
  have hl2 : (difL l).length = l.length - 1 := hl
  rw [e, e1 _ i (by omega), e1 l i (by omega), e1 l (i + 1) (by omega), show i + 1 + 1 = i + 2 from rfl]
  omega
theorem jmp_mem (ws : List Int) (lo hi : Int) (i : Nat) (h : jmpB ws lo hi i = true) : ∀ n, i < n → (i : Int) ∈ jmpL ws lo hi n
  | 0, hn => by omega
  | n + 1, hn => by
    unfold jmpL
    by_cases e : i = n
    · subst e
      rw [if_pos h]
      simp
    · have ih := jmp_mem ws lo hi i h n (by omega)
      split
      · exact List.mem_append.2 (.inl ih)
      · exact ih
theorem db_inv (t : Tb) (k : List Int) : ∀ (n : Nat) (x : Int), x ∈ dbL t k n → ∃ i : Nat, x = i ∧ i < n ∧ (arP k i).1 < (arP k i).2 ∧ t.off < offP t (arP k i).1 (arP k i).2 i
  | 0, x, h => by cases h
  | n + 1, x, h => by
    unfold dbL at h
    split at h
    · rename_i hc
      rcases List.mem_append.1 h with h | h
      · obtain ⟨i, h1, h2, h3⟩ := db_inv t k n x h
        exact ⟨i, h1, by omega, h3⟩
      · exact ⟨n, List.mem_singleton.1 h, by omega, hc⟩
    · obtain ⟨i, h1, h2, h3⟩ := db_inv t k n x h
      exact ⟨i, h1, by omega, h3⟩
theorem smooth_law (l : List Int) (rule off : Int) (hr : 1 ≤ rule ∧ rule ≤ 4) (h3 : 3 ≤ l.length) (x : Int) (hx : x ∈ dbL ⟨diag l, rule, off⟩ (keepP l.length) l.length) : x - 1 ∈ jmpL (dN l 2) (-2 * off) (2 * off) (dN l 2).length := by
  generalize ht : (⟨diag l, rule, off⟩ : Tb) = t at hx
  have hv : ∀ i : Nat, i < l.length → vLo t i = l.getD i 0 ∧ vHi t i = l.getD i 0 := fun i hi => by
    have e : (diag l).getD i ⟨0, 0⟩ = ⟨l.getD i 0, l.getD i 0⟩ := by
      simp [diag, List.getD_eq_getElem?_getD, hi]
    subst ht
    unfold vLo vHi
    rw [show ((i : Nat) : Int).toNat = i by omega, e]
    exact ⟨rfl, rfl⟩
  have hru : t.rule = rule := by subst ht; rfl
  have hof : t.off = off := by subst ht; rfl
  obtain ⟨i, rfl, hi, hlt, hoff⟩ := db_inv t _ _ x hx
  rcases ar_keep (show 2 ≤ l.length by omega) (r := i) (by omega) with h | ⟨h, g1, g2⟩
  · rw [h] at hlt
    simp at hlt
  · rw [h] at hoff
    simp only at hoff
    obtain ⟨j, rfl⟩ : ∃ j, i = j + 1 := ⟨i - 1, by omega⟩
    have e1 : ((j + 1 : Nat) : Int) - 1 = (j : Int) := by omega
    have e2 : ((j + 1 : Nat) : Int) + 1 = ((j + 2 : Nat) : Int) := by omega
    have a0 := hv j (by omega)
    have a1 := hv (j + 1) (by omega)
    have a2 := hv (j + 2) (by omega)
    have hs := dN_at l j (by omega)
    have ef : ∀ x z : Int, figP t.rule (((j + 1 : Nat) : Int) - 1) (((j + 1 : Nat) : Int) + 1) x z ((j + 1 : Nat) : Int) = rdV rule (x + z) 2 := fun x z => by rw [hru]; exact figP_half rule x 0 z _ hr
    unfold offP at hoff
    rw [ef, ef, e1, e2, a0.1, a0.2, a1.1, a1.2, a2.1, a2.2, hof] at hoff
    rw [e1]
    refine jmp_mem _ _ _ j ?_ _ (by rw [dN_len]; omega)
    unfold jmpB
    generalize (dN l 2).getD j 0 = d at hs
    cases hin : inB d (-2 * off) (2 * off) with
    | false => rfl
    | true =>
      simp [inB] at hin
      have hn := rdV_near rule (l.getD (j + 1) 0) d off (by omega) (by omega)
      rw [show 2 * l.getD (j + 1) 0 + d = l.getD j 0 + l.getD (j + 2) 0 by omega] at hn
      omega
end Go.Vc
