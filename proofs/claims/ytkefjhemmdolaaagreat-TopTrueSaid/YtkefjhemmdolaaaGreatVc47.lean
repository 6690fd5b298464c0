/- A part of the proof: general laws of a reading of the model by abstract data, or contracts of the functions that the law calls. -/
import Derived.Test.YtkefjhemmdolaaaGreatVc44
import Derived.Test.YtkefjhemmdolaaaGreatVc46
import Derived.Test.YtkefjhemmdolaaaGreatVc46
import Derived.Test.YtkefjhemmdolaaaGreatVc29
import Derived.Test.YtkefjhemmdolaaaGreatVc32
set_option maxRecDepth 100000
namespace Go.Vc
open Go Go.Proofs
variable {g : GG}
attribute [local simp] and_assoc
def dbL (t : Tb) (k : List Int) : Nat → List Int
  | 0 => []
  | i + 1 => if (arP k i).1 < (arP k i).2 ∧ t.off < offP t (arP k i).1 (arP k i).2 i then dbL t k i ++ [(i : Int)] else dbL t k i
theorem dbL_len (t : Tb) (k : List Int) : ∀ n, (dbL t k n).length ≤ n
  | 0 => Nat.le_refl _
  | n + 1 => by
    have := dbL_len t k n
    unfold dbL
    split <;> simp <;> omega
set_option maxHeartbeats 8000000 in
theorem doubts_meets (t : Tb) (k : List Int) (hok : t.ok = true) (hK : KeptOK t.vals.length k) : MeetsH (Tz g) f_step_table_doubts [M0] (tA t k 0 :: ([] : List D).map .d) (.ret (.d (ints (dbL t k t.vals.length)))) [.same] := by
  obtain ⟨f1, f2, f3, f4⟩ := Tb.ok_facts hok
  have hs := hK.short
  refine meetsH_step_table_doubts rfl ?_
  unfold vc_step_table_doubts
  simp [numbered, tA, lookH, spans]
  refine LOOP.mk Nat (fun i => [.ptr 24 0 0 0, .own 88 (dbL t k i).length, .d (int t.vals.length), .d (int i)]) (fun i => [(24, some (tabB t k 0)), (0, some M0), (88, some ⟨(dbL t k i).length, T_int, .lst ((dbL t k i).map int)⟩)]) (fun i => i ≤ t.vals.length) (fun i => t.vals.length - i) [(1, T_int)] (by simp) 0 (by omega) (by simp [WEAK, lookH, tabB, M0, spans, dbL]) (fun _ _ => rfl) ?_
  intro i hi
  have w1 := wrap_id (n := (i : Int) + 1) (by omega) (by omega)
  have hdl := dbL_len t k i
  simp [vc_step_table_doubts_k2, tabB]
  refine ⟨fun hlt => ?_, fun hge => ?_⟩
  · have hA := around_meets (g := g) t k i (by omega) hK (by omega) (by omega)
    have hf := ar_facts hK (row := i) (by omega) (by omega)
    have hd : dbL t k (i + 1) = if (arP k i).1 < (arP k i).2 ∧ t.off < offP t (arP k i).1 (arP k i).2 i then dbL t k i ++ [(i : Int)] else dbL t k i := rfl
    rcases hp : arP k (i : Int) with ⟨a, b⟩
    rw [hp] at hA hf hd
    simp only at hd
    refine CALL.tab (ds := [int i]) hA rfl ?_
    simp [vc_step_table_doubts_k1, prD, lookH]
    refine ⟨fun h => ?_, fun h => ?_⟩
    · obtain ⟨q1, q2, q3, q4⟩ := hf h
      simp only at q1 q2 q3 q4
      refine CALL.tab (ds := [prD (a, b), int i]) (off_meets t k a b i hok q1 h q2 (by omega) (by omega)) rfl ?_
      simp [vc_step_table_doubts_k0, lookH, w1]
      refine ⟨rfl, fun h2 => ?_, fun h2 => ?_⟩
      · refine ⟨by omega, ?_⟩
        refine ⟨i + 1, by omega, ?_, by omega⟩
        rw [hd, if_pos ⟨h, h2⟩]
        simp [WEAK, lookH]
      · refine ⟨i + 1, by omega, ?_, by omega⟩
        rw [hd, if_neg (fun h3 => absurd h3.2 (by omega))]
        simp [WEAK, lookH]
    · simp [w1]
      refine ⟨rfl, i + 1, by omega, ?_, by omega⟩
      rw [hd, if_neg (fun h3 => absurd h3.1 (by omega))]
      simp [WEAK, lookH]
  · have : i = t.vals.length := by omega
    subst this
    refine ⟨[], ?_⟩
    simp [yv, yv.yvL, yh, yb, yver, bodyOf, fz, fz.fzL, fzH, fzB, stay, src, lookH, NodupB, disjB, argD, toD, M0, ints]
def fgv (t : Tb) (k own : List Int) (row : Int) : Int := if (arP k row).1 < (arP k row).2 then figP t.rule (arP k row).1 (arP k row).2 (own.getD (arP k row).1.toNat 0) (own.getD (arP k row).2.toNat 0) row else own.getD row.toNat 0
def fgs (t : Tb) (k own : List Int) (n : Nat) : List Int := (List.range n).map fun i : Nat => fgv t k own i
def fmix (t : Tb) (k own : List Int) (i : Nat) : List Int := fgs t k own i ++ own.drop i
theorem fgs_len (t : Tb) (k own : List Int) (n : Nat) : (fgs t k own n).length = n := by simp [fgs]
theorem fgs_succ (t : Tb) (k own : List Int) (n : Nat) : fgs t k own (n + 1) = fgs t k own n ++ [fgv t k own n] := by simp [fgs, List.range_succ]
theorem fmix_len (t : Tb) (k own : List Int) (i : Nat) (h : i ≤ own.length) : (fmix t k own i).length = own.length := by simp [fmix, fgs_len]; omega
theorem fmix_set (t : Tb) (k own : List Int) (i : Nat) (h : i < own.length) : (fmix t k own i).set i (fgv t k own i) = fmix t k own (i + 1) := by
  unfold fmix
  rw [List.set_append_right _ _ (by rw [fgs_len]; exact Nat.le_refl _), fgs_len, Nat.sub_self, List.drop_eq_getElem_cons h, fgs_succ, List.set_cons_zero, List.append_assoc]
  rfl
theorem fmix_keep (t : Tb) (k own : List Int) (i : Nat) (h : i < own.length) (hn : ¬ (arP k i).1 < (arP k i).2) : fmix t k own (i + 1) = fmix t k own i := by
  have e : fgv t k own i = own[i] := by
    unfold fgv
    rw [if_neg hn]
    simp [List.getD_eq_getElem?_getD, h]
  unfold fmix
  rw [fgs_succ, e, List.drop_eq_getElem_cons h]
  simp
theorem fmix_end (t : Tb) (k own : List Int) : fmix t k own own.length = fgs t k own own.length := by simp [fmix]
theorem get_bnd {own : List Int} {B : Int} (hb : ∀ x, x ∈ own → -B ≤ x ∧ x ≤ B) (i : Nat) (h : i < own.length) : own[i]? = some (own.getD i 0) ∧ -B ≤ own.getD i 0 ∧ own.getD i 0 ≤ B := by
  have e : own.getD i 0 = own[i] := by simp [List.getD_eq_getElem?_getD, h]
  rw [e]
  exact ⟨List.getElem?_eq_getElem h, hb _ (List.getElem_mem h)⟩
set_option maxHeartbeats 8000000 in
theorem figures_meets (t : Tb) (k own : List Int) (hok : t.ok = true) (hK : KeptOK t.vals.length k) (ho : own.length = t.vals.length) (hb : ∀ x, x ∈ own → -20000 ≤ x ∧ x ≤ 20000) : MeetsH (Tz g) f_step_table_figures [M0] (tA t k 0 :: [ints own].map .d) (.ret (.d (ints (fgs t k own own.length)))) [.same] := by
  obtain ⟨f1, f2, f3, f4⟩ := Tb.ok_facts hok
  have hs := hK.short
  refine meetsH_step_table_figures rfl ?_
  unfold vc_step_table_figures
  simp [numbered, tA, lookH]
  refine CALL.mk [ints own] _ rfl (clone_ints_meets own (by omega)) (.inl rfl) (by simp) ?_
  simp [AV.ren, rho, upsP, ABlk.ren, Body.ren, ints]
  refine LOOP.mk Nat (fun i => [.d (ints own), .ptr 24 0 0 0, .own 48 0, .d (int own.length), .d (int i)]) (fun i => [(24, some (tabB t k 0)), (0, some M0), (48, some ⟨0, T_int, .lst ((fmix t k own i).map int)⟩)]) (fun i => i ≤ own.length) (fun i => own.length - i) [] (by simp) 0 (by omega) (by simp [WEAK, lookH, tabB, M0, ints, fmix, fgs]) (fun _ _ => rfl) ?_
  intro i hi
  have w1 := wrap_id (n := (i : Int) + 1) (by omega) (by omega)
  have hml := fmix_len t k own i hi
  simp [vc_step_table_figures_k2, tabB]
  refine ⟨fun hlt => ?_, fun hge => ?_⟩
  · have hA := around_meets (g := g) t k i (by omega) hK (by omega) (by omega)
    have hf := ar_facts hK (row := i) (by omega) (by omega)
    have hset := fmix_set t k own i hlt
    have hkeep := fmix_keep t k own i hlt
    have hv : fgv t k own i = if (arP k i).1 < (arP k i).2 then figP t.rule (arP k i).1 (arP k i).2 (own.getD (arP k i).1.toNat 0) (own.getD (arP k i).2.toNat 0) i else own.getD (i : Int).toNat 0 := rfl
    rcases hp : arP k (i : Int) with ⟨a, b⟩
    rw [hp] at hA hf hv hkeep
    simp only at hv hkeep
    refine CALL.tab (ds := [int i]) hA rfl ?_
    simp [vc_step_table_figures_k1, prD, lookH]
    refine ⟨fun h => ?_, fun h => ?_⟩
    · obtain ⟨q1, q2, q3, q4⟩ := hf h
      simp only at q1 q2 q3 q4
      obtain ⟨ga, ba⟩ := get_bnd hb a.toNat (by omega)
      obtain ⟨gb, bb⟩ := get_bnd hb b.toNat (by omega)
      rw [if_pos h] at hv
      generalize own.getD a.toNat 0 = x at ga ba hv
      generalize own.getD b.toNat 0 = y at gb bb hv
      simp [ints, ga, gb]
      refine ⟨by omega, by omega, ?_⟩
      refine CALL.tab (ds := [prD (a, b), int x, int y, int i]) (figure_meets t k a b x y i f3 q1 h (by omega) (by omega) (by omega) ba bb) rfl ?_
      rw [← hv]
      simp [vc_step_table_figures_k0, lookH, w1, hml]
      refine ⟨hlt, _, ⟨_, List.getElem?_eq_getElem (by omega), rfl⟩, Nat.le_refl 1, rfl, ?_⟩
      refine ⟨i + 1, by omega, ?_, by omega⟩
      rw [← hset]
      simp [WEAK, lookH, ints, List.map_set]
    · simp [w1]
      refine ⟨i + 1, by omega, ?_, by omega⟩
      rw [hkeep (by omega)]
      simp [WEAK, lookH, ints]
  · have : i = own.length := by omega
    subst this
    rw [fmix_end]
    refine ⟨[], ?_⟩
    simp [yv, yv.yvL, yh, yb, yver, bodyOf, fz, fz.fzL, fzH, fzB, stay, src, lookH, NodupB, disjB, argD, toD, M0, ints]
end Go.Vc
