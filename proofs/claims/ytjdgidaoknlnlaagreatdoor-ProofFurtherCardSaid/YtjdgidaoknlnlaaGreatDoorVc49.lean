/- A part of the proof: general laws of a reading of the model by abstract data, or contracts of the functions that the law calls. -/
import Derived.Test.YtjdgidaoknlnlaaGreatDoorVc39
import Derived.Test.YtjdgidaoknlnlaaGreatDoorVc42
import Derived.Test.YtjdgidaoknlnlaaGreatDoorVc44
import Derived.Test.YtjdgidaoknlnlaaGreatDoorVc47
set_option maxRecDepth 100000
namespace Go.Vc
open Go Go.Proofs
variable {g : GG}
def numO (line : Int) (v : Int) (e : Nt) : Int := match chgB e line with | false => v | true => (match e.nums with | [_, _, c] => c | _ => v.tdiv 10)
def setO (line : Int) (v : Int) (e : Nt) : Int := match chgB e line with | false => v | true => (match e.nums with | [a, _, _] => a | _ => v)
def hasO (line n : Int) (v : Bool) (e : Nt) : Bool := match chgB e line with | true => false | false => v || rdnB e line n
theorem take_snoc {α : Type} {L : List α} {k : Nat} {x : α} (h : L[k]? = some x) : L.take (k + 1) = L.take k ++ [x] := take_next h
theorem now_fold {p : Pg} (hok : p.ok = true) {line : Nat} (hl : line < p.lines.length) : ∀ M, M ≤ p.log.length → (stN p M).now.getD line 0 = (p.log.take M).foldl (numO line) ((st0 p).now.getD line 0) ∧ (stN p M).setters.getD line 0 = (p.log.take M).foldl (setO line) ((st0 p).setters.getD line 0)
  | 0, _ => ⟨rfl, rfl⟩
  | M + 1, hM => by
    obtain ⟨i1, i2⟩ := now_fold hok hl M (by omega)
    have hg : p.log[M]? = some p.log[M] := List.getElem?_eq_getElem (by omega)
    have he := (Pg.ok_len hok).2.2.2.2.2.2 _ (List.getElem_mem (show M < p.log.length by omega))
    obtain ⟨s1, s2, _⟩ := step_line M line (stN_ok hok M (by omega)).1 he hl
    generalize p.log[M] = x at hg he s1 s2
    have e1 : stN p (M + 1) = stepS p M x (stN p M) := by simp only [stN, hg]
    rw [take_snoc hg, List.foldl_append, List.foldl_append, e1, s1, s2, i1, i2]
    exact ⟨rfl, rfl⟩
theorem has_fold {p : Pg} (hok : p.ok = true) {line n : Nat} (hl : line < p.lines.length) (hn : (n : Int) < p.people) : ∀ M, M ≤ p.log.length → hasK ((line : Int), (n : Int)) (stN p M).keys = (p.log.take M).foldl (hasO line n) false
  | 0, _ => by simp [stN, st0, hasK]
  | M + 1, hM => by
    have ih := has_fold hok hl hn M (by omega)
    have hg : p.log[M]? = some p.log[M] := List.getElem?_eq_getElem (by omega)
    have he := (Pg.ok_len hok).2.2.2.2.2.2 _ (List.getElem_mem (show M < p.log.length by omega))
    have hst := (step_line M line (stN_ok hok M (by omega)).1 he hl).2.2
    obtain ⟨⟨c1, c2⟩, _⟩ := chN_spec hok hl M (by omega)
    have r0 := has_read hok hl hn M (by omega)
    have r1 := has_read hok hl hn (M + 1) hM
    generalize p.log[M] = x at hg he hst
    have e1 : chN p line (M + 1) = (match chgB x line with | false => chN p line M | true => (M : Int)) := by
      simp only [chN, stN, hg]
      exact hst
    rw [take_snoc hg, List.foldl_append, ← ih, r1]
    show _ = hasO line n _ x
    unfold hasO
    cases hc : chgB x line with
    | false =>
      rw [hc] at e1
      have e1 : chN p line (M + 1) = chN p line M := e1
      rw [e1, r0]
      have hd : decide (chN p line M < (M : Int)) = true := decide_eq_true c2
      simp only [metB, hg, hd, Bool.and_true]
    | true =>
      rw [hc] at e1
      have e1 : chN p line (M + 1) = (M : Int) := e1
      rw [e1]
      exact metB_false _ _ _ _ _ (by omega)
def logE (p : Pg) (L : List Nt) : Pg := ⟨p.people, p.lines, L⟩
theorem rdB_law {p : Pg} (h : p.ok = true) {line n : Nat} (hl : line < p.lines.length) (hn : (n : Int) < p.people) : rdB (stN p p.log.length) line n = (p.log.foldl (hasO line n) false && !decide ((n : Int) = p.log.foldl (setO line) ((st0 p).setters.getD line 0))) := by
  have h1 := has_fold h hl hn _ (Nat.le_refl _)
  have h2 := (now_fold h hl _ (Nat.le_refl _)).2
  rw [List.take_length] at h1 h2
  unfold rdB
  rw [h1, h2]
end Go.Vc

namespace Go.Vc
open Go Go.Proofs
variable {g : GG}
attribute [local simp] and_assoc
end Go.Vc
