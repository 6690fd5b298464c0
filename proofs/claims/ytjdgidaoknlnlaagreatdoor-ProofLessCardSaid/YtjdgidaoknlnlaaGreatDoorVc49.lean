/- A part of the proof: general laws of a reading of the model by abstract data, or contracts of the functions that the law calls. -/
import Derived.Test.YtjdgidaoknlnlaaGreatDoorVc39
import Derived.Test.YtjdgidaoknlnlaaGreatDoorVc42
import Derived.Test.YtjdgidaoknlnlaaGreatDoorVc44
import Derived.Test.YtjdgidaoknlnlaaGreatDoorVc47
set_option maxRecDepth 100000
namespace Go.Vc
open Go Go.Proofs
variable {g : GG}
def numO (line : Int) (v : Int) (e : Nt) : Int := match chgB e line with | false => v | true => (match e.nums with | [_, _, c] => c | _ => v.tdiv 10)
def setO (line : Int) (v : Int) (e : Nt) : Int := match chgB e line with | false => v | true => (match e.nums with | [a, _, _] => a | _ => v)
def hasO (line n : Int) (v : Bool) (e : Nt) : Bool := match chgB e line with | true => false | false => v || rdnB e line n
theorem take_snoc {α : Type} {L : List α} {k : Nat} {x : α} (h : L[k]? = some x) : L.take (k + 1) = L.take k ++ [x] := take_next h
theorem now_fold {p : Pg} (hok : p.ok = true) {line : Nat} (hl : line < p.lines.length) : ∀ M, M ≤ p.log.length → (stN p M).now.getD line 0 = (p.log.take M).foldl (numO line) ((st0 p).now.getD line 0) ∧ (stN p M).setters.getD line 0 = (p.log.take M).foldl (setO line) ((st0 p).setters.getD line 0)
  | 0, _ => ⟨rfl, rfl⟩
  | M + 1, hM => by
    obtain ⟨i1, i2⟩ := now_fold hok hl M (by omega)
    have hg : p.log[M]? = some p.log[M] := List.getElem?_eq_getElem (by omega)
    have he := (Pg.ok_len hok).2.2.2.2.2.2 _ (List.getElem_mem (show M < p.log.length by omega))
    obtain ⟨s1, s2, _⟩ := step_line M line (stN_ok hok M (by omega)).1 he hl
    generalize p.log[M] = x at hg he s1 s2
    have e1 : stN p (M + 1) = stepS p M x (stN p M) := by simp only [stN, hg]
    rw [take_snoc hg, List.foldl_append, List.foldl_append, e1, s1, s2, i1, i2]
    exact ⟨rfl, rfl⟩
theorem has_fold {p : Pg} (hok : p.ok = true) {line n : Nat} (hl : line < p.lines.length) (hn : (n : Int) < p.people) : ∀ M, M ≤ p.log.length → hasK ((line : Int), (n : Int)) (stN p M).keys = (p.log.take M).foldl (hasO line n) false
  | 0, _ => by simp [stN, st0, hasK]
  | M + 1, hM => by
    have ih := has_fold hok hl hn M (by omega)
    have hg : p.log[M]? = some p.log[M] := List.getElem?_eq_getElem (by omega)
    have he := (Pg.ok_len hok).2.2.2.2.2.2 _ (List.getElem_mem (show M < p.log.length by omega))
    have hst := (step_line M line (stN_ok hok M (by omega)).1 he hl).2.2
    obtain ⟨⟨c1, c2⟩, _⟩ := chN_spec hok hl M (by omega)
    have r0 := has_read hok hl hn M (by omega)
    have r1 := has_read hok hl hn (M + 1) hM
    generalize p.log[M] = x at hg he hst
    have e1 : chN p line (M + 1) = (match chgB x line with | false => chN p line M | true => (M : Int)) := by
      simp only [chN, stN, hg]
      exact hst
    rw [take_snoc hg, List.foldl_append, ← ih, r1]
    show _ = hasO line n _ x
    unfold hasO
    cases hc : chgB x line with
    | false =>
      rw [hc] at e1
      have e1 : chN p line (M + 1) = chN p line M := e1
      rw [e1, r0]
      have hd : decide (chN p line M < (M : Int)) = true := decide_eq_true c2
      simp only [metB, hg, hd, Bool.and_true]
    | true =>
      rw [hc] at e1
      have e1 : chN p line (M + 1) = (M : Int) := e1
      rw [e1]
      exact metB_false _ _ _ _ _ (by omega)
def logE (p : Pg) (L : List Nt) : Pg := ⟨p.people, p.lines, L⟩
theorem logE_ok {p : Pg} {L : List Nt} (h : p.ok = true) (hl : L.length ≤ 10) (hL : ∀ e, e ∈ L → entB p e = true) : (logE p L).ok = true := by
  simp only [Pg.ok, Bool.and_eq_true, decide_eq_true_eq] at h ⊢
  obtain ⟨h1, h2, h3, h4, h5⟩ := h
  refine ⟨h1, h2, hl, h4, ?_⟩
  have : (L.any fun e => !entB (logE p L) e) = false := by
    rw [List.any_eq_false]
    intro e he
    have : entB (logE p L) e = entB p e := rfl
    rw [this, hL e he]
    simp
  show (!(L.any fun e => !entB (logE p L) e)) = true
  rw [this]; rfl
theorem rdB_law {p : Pg} (h : p.ok = true) {line n : Nat} (hl : line < p.lines.length) (hn : (n : Int) < p.people) : rdB (stN p p.log.length) line n = (p.log.foldl (hasO line n) false && !decide ((n : Int) = p.log.foldl (setO line) ((st0 p).setters.getD line 0))) := by
  have h1 := has_fold h hl hn _ (Nat.le_refl _)
  have h2 := (now_fold h hl _ (Nat.le_refl _)).2
  rw [List.take_length] at h1 h2
  unfold rdB
  rw [h1, h2]
def dropI (l : List Int) : List Nt → Nat → List Nt
  | [], _ => []
  | e :: r, i => match decide ((i : Int) ∈ l) with | true => dropI l r (i + 1) | false => e :: dropI l r (i + 1)
theorem dropI_snoc (l : List Int) (x : Nt) : ∀ (L : List Nt) (i : Nat), dropI l (L ++ [x]) i = dropI l L i ++ (match decide (((i + L.length : Nat) : Int) ∈ l) with | true => [] | false => [x])
  | [], i => by
    simp only [List.nil_append, dropI, List.length_nil, Nat.add_zero]
  | e :: r, i => by
    have ih := dropI_snoc l x r (i + 1)
    have e1 : i + 1 + r.length = i + (e :: r).length := by simp; omega
    rw [e1] at ih
    simp only [List.cons_append, dropI, ih]
    cases decide ((i : Int) ∈ l)
    · rfl
    · rfl
theorem dropI_len (l : List Int) : ∀ (L : List Nt) (i : Nat), (dropI l L i).length ≤ L.length
  | [], i => Nat.le_refl _
  | e :: r, i => by
    have := dropI_len l r (i + 1)
    simp only [dropI]
    split <;> simp <;> omega
theorem dropI_mem (l : List Int) {x : Nt} : ∀ (L : List Nt) (i : Nat), x ∈ dropI l L i → x ∈ L
  | [], i, h => h
  | e :: r, i, h => by
    simp only [dropI] at h
    split at h
    · exact List.mem_cons_of_mem _ (dropI_mem l r _ h)
    · rcases List.mem_cons.1 h with rfl | h
      · exact List.mem_cons_self
      · exact List.mem_cons_of_mem _ (dropI_mem l r _ h)
def isRd (e : Nt) : Bool := match e.nums with | [_, _, _, _] => true | _ => false
theorem isRd_chg {e : Nt} {line : Int} (h : isRd e = true) : chgB e line = false := by
  obtain ⟨k, ns⟩ := e
  rcases ns with _ | ⟨a, _ | ⟨b, _ | ⟨c, _ | ⟨d, _ | ⟨f, r⟩⟩⟩⟩⟩ <;> first | rfl | (simp [isRd] at h)
theorem hasO_rd {e : Nt} {line n : Int} {v : Bool} (h : isRd e = true) : hasO line n v e = (v || rdnB e line n) := by
  unfold hasO
  rw [isRd_chg h]
theorem fold_rd {line : Int} (l : List Int) : ∀ (L : List Nt) (i : Nat) (v w : Int), (∀ k e, L[k]? = some e → ((i + k : Nat) : Int) ∈ l → isRd e = true) → (dropI l L i).foldl (numO line) v = L.foldl (numO line) v ∧ (dropI l L i).foldl (setO line) w = L.foldl (setO line) w
  | [], _, _, _, _ => ⟨rfl, rfl⟩
  | e :: r, i, v, w, h => by
    have ih := fun v w => fold_rd (line := line) l r (i + 1) v w (fun k x hk hx => h (k + 1) x (by simpa using hk) (by rw [← Nat.add_assoc, Nat.add_right_comm]; exact hx))
    simp only [dropI]
    cases hd : decide ((i : Int) ∈ l) with
    | true =>
      have := h 0 e rfl (by simpa using of_decide_eq_true hd)
      have e1 : numO line v e = v := by unfold numO; rw [isRd_chg this]
      have e2 : setO line w e = w := by unfold setO; rw [isRd_chg this]
      simp only [List.foldl_cons, e1, e2]
      exact ih v w
    | false =>
      simp only [List.foldl_cons]
      exact ih _ _
theorem hasO_mono {line n : Int} {e : Nt} {a b : Bool} (h : a = true → b = true) (hv : hasO line n a e = true) : hasO line n b e = true := by
  unfold hasO at hv ⊢
  cases hc : chgB e line with
  | true => rw [hc] at hv; exact hv
  | false =>
    rw [hc] at hv
    simp only [Bool.or_eq_true] at hv ⊢
    exact hv.imp h id
theorem fold_mono {line n : Int} (l : List Int) : ∀ (L : List Nt) (i : Nat) (a b : Bool), (∀ k e, L[k]? = some e → ((i + k : Nat) : Int) ∈ l → isRd e = true) → (a = true → b = true) → (dropI l L i).foldl (hasO line n) a = true → L.foldl (hasO line n) b = true
  | [], _, _, _, _, hab, hv => hab hv
  | e :: r, i, a, b, h, hab, hv => by
    have ih := fun a b hab hv => fold_mono (line := line) (n := n) l r (i + 1) a b (fun k x hk hx => h (k + 1) x (by simpa using hk) (by rw [← Nat.add_assoc, Nat.add_right_comm]; exact hx)) hab hv
    simp only [dropI] at hv
    cases hd : decide ((i : Int) ∈ l) with
    | true =>
      rw [hd] at hv
      have := h 0 e rfl (by simpa using of_decide_eq_true hd)
      simp only [List.foldl_cons]
      exact ih a _ (fun ha => by rw [hasO_rd this, hab ha]; rfl) hv
    | false =>
      rw [hd] at hv
      simp only [List.foldl_cons] at hv ⊢
      exact ih _ _ (fun ha => hasO_mono hab ha) hv
end Go.Vc

namespace Go.Vc
open Go Go.Proofs
variable {g : GG}
attribute [local simp] and_assoc
end Go.Vc
