/- A part of the proof: general laws of a reading of the model by abstract data, or contracts of the functions that the law calls. -/
import Derived.Test.YtkefjhemmdolaaaGreatVc44
import Derived.Test.YtkefjhemmdolaaaGreatVc46
import Derived.Test.YtkefjhemmdolaaaGreatVc46
import Derived.Test.YtkefjhemmdolaaaGreatVc29
import Derived.Test.YtkefjhemmdolaaaGreatVc32
set_option maxRecDepth 100000
namespace Go.Vc
open Go Go.Proofs
variable {g : GG}
attribute [local simp] and_assoc
def dbL (t : Tb) (k : List Int) : Nat → List Int
  | 0 => []
  | i + 1 => if (arP k i).1 < (arP k i).2 ∧ t.off < offP t (arP k i).1 (arP k i).2 i then dbL t k i ++ [(i : Int)] else dbL t k i
theorem dbL_len (t : Tb) (k : List Int) : ∀ n, (dbL t k n).length ≤ n
  | 0 => Nat.le_refl _
  | n + 1 => by
    have := dbL_len t k n
    unfold dbL
    split <;> simp <;> omega
set_option maxHeartbeats 8000000 in
theorem doubts_meets (t : Tb) (k : List Int) (hok : t.ok = true) (hK : KeptOK t.vals.length k) : MeetsH (Tz g) f_step_table_doubts [M0] (tA t k 0 :: ([] : List D).map .d) (.ret (.d (ints (dbL t k t.vals.length)))) [.same] := by
  obtain ⟨f1, f2, f3, f4⟩ := Tb.ok_facts hok
  have hs := hK.short
  refine meetsH_step_table_doubts rfl ?_
  unfold vc_step_table_doubts
  simp [numbered, tA, lookH, spans]
  refine LOOP.mk Nat (fun i => [.ptr 24 0 0 0, .own 88 (dbL t k i).length, .d (int t.vals.length), .d (int i)]) (fun i => [(24, some (tabB t k 0)), (0, some M0), (88, some ⟨(dbL t k i).length, T_int, .lst ((dbL t k i).map int)⟩)]) (fun i => i ≤ t.vals.length) (fun i => t.vals.length - i) [(1, T_int)] (by simp) 0 (by omega) (by simp [WEAK, lookH, tabB, M0, spans, dbL]) (fun _ _ => rfl) ?_
  intro i hi
  have w1 := wrap_id (n := (i : Int) + 1) (by omega) (by omega)
  have hdl := dbL_len t k i
  simp [vc_step_table_doubts_k2, tabB]
  refine ⟨fun hlt => ?_, fun hge => ?_⟩
  · have hA := around_meets (g := g) t k i (by omega) hK (by omega) (by omega)
    have hf := ar_facts hK (row := i) (by omega) (by omega)
    have hd : dbL t k (i + 1) = if (arP k i).1 < (arP k i).2 ∧ t.off < offP t (arP k i).1 (arP k i).2 i then dbL t k i ++ [(i : Int)] else dbL t k i := rfl
    rcases hp : arP k (i : Int) with ⟨a, b⟩
    rw [hp] at hA hf hd
    simp only at hd
    refine CALL.tab (ds := [int i]) hA rfl ?_
    simp [vc_step_table_doubts_k1, prD, lookH]
    refine ⟨fun h => ?_, fun h => ?_⟩
    · obtain ⟨q1, q2, q3, q4⟩ := hf h
      simp only at q1 q2 q3 q4
      refine CALL.tab (ds := [prD (a, b), int i]) (off_meets t k a b i hok q1 h q2 (by omega) (by omega)) rfl ?_
      simp [vc_step_table_doubts_k0, lookH, w1]
      refine ⟨rfl, fun h2 => ?_, fun h2 => ?_⟩
      · refine ⟨by omega, ?_⟩
        refine ⟨i + 1, by omega, ?_, by omega⟩
        rw [hd, if_pos ⟨h, h2⟩]
        simp [WEAK, lookH]
      · refine ⟨i + 1, by omega, ?_, by omega⟩
        rw [hd, if_neg (fun h3 => absurd h3.2 (by omega))]
        simp [WEAK, lookH]
    · simp [w1]
      refine ⟨rfl, i + 1, by omega, ?_, by omega⟩
      rw [hd, if_neg (fun h3 => absurd h3.1 (by omega))]
      simp [WEAK, lookH]
  · have : i = t.vals.length := by omega
    subst this
    refine ⟨[], ?_⟩
    simp [yv, yv.yvL, yh, yb, yver, bodyOf, fz, fz.fzL, fzH, fzB, stay, src, lookH, NodupB, disjB, argD, toD, M0, ints]
theorem get_bnd {own : List Int} {B : Int} (hb : ∀ x, x ∈ own → -B ≤ x ∧ x ≤ B) (i : Nat) (h : i < own.length) : own[i]? = some (own.getD i 0) ∧ -B ≤ own.getD i 0 ∧ own.getD i 0 ≤ B := by
  have e : own.getD i 0 = own[i] := by simp [List.getD_eq_getElem?_getD, h]
  rw [e]
  exact ⟨List.getElem?_eq_getElem h, hb _ (List.getElem_mem h)⟩
end Go.Vc
