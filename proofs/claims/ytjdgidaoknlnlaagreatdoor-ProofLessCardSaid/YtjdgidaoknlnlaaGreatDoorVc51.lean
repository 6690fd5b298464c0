/- A part of the proof: general laws of a reading of the model by abstract data, or contracts of the functions that the law calls. -/
import Derived.Test.YtjdgidaoknlnlaaGreatDoorVc50
set_option maxRecDepth 100000
namespace Go.Vc
open Go Go.Proofs
variable {g : GG}
attribute [local simp] and_assoc
theorem fltL_get {f : Nat → Bool} {m i : Nat} {x : Int} (h : (fltL f m)[i]? = some x) : ∃ n : Nat, x = n ∧ n < m ∧ f n = true := by
  have hm := List.mem_of_getElem? h
  simp only [fltL, List.mem_map, List.mem_filter, List.mem_range] at hm
  obtain ⟨n, ⟨h1, h2⟩, h3⟩ := hm
  exact ⟨n, h3.symm, h1, h2⟩
end Go.Vc

namespace Go.Vc
open Go Go.Proofs
variable {g : GG}
attribute [local simp] and_assoc
theorem fltL_le {f h : Nat → Bool} {m : Nat} (hi : ∀ k, k < m → f k = true → h k = true) : (fltL f m).length ≤ (fltL h m).length := by
  simp only [fltL, List.length_map, ← List.countP_eq_length_filter]
  exact List.countP_mono_left (fun x hx => hi x (List.mem_range.1 hx))
theorem rdN_le {p q : Pg} {s t : Ps} {line : Nat} (hp : p.people = q.people) (h : ∀ n : Nat, (n : Int) < p.people → rdB s line n = true → rdB t line n = true) : rdN p s line ≤ rdN q t line := by
  unfold rdN readersL
  rw [← hp]
  have := fltL_le (f := rdB s line) (h := rdB t line) (m := p.people.toNat) (fun k hk hb => h k (by omega) hb)
  simpa [fltL] using this
theorem less_law {p : Pg} (hok : p.ok = true) {i : Nat} {e : Nt} (hg : p.log[i]? = some e) (hr : isRd e = true) : (logE p (dropI [(i : Int)] p.log 0)).ok = true ∧ ∀ line, line < p.lines.length → passB (logE p (dropI [(i : Int)] p.log 0)) (stN (logE p (dropI [(i : Int)] p.log 0)) (logE p (dropI [(i : Int)] p.log 0)).log.length) line = true → passB p (stN p p.log.length) line = true := by
  obtain ⟨a1, a2, a3, a4, a5, a6, a7⟩ := Pg.ok_len hok
  have hq : (logE p (dropI [(i : Int)] p.log 0)).ok = true := logE_ok hok (by have := dropI_len [(i : Int)] p.log 0; omega) (fun e he => a7 e (dropI_mem _ _ _ he))
  have hrd : ∀ k x, p.log[k]? = some x → ((0 + k : Nat) : Int) ∈ [(i : Int)] → isRd x = true := fun k x hk hm => by
    have : k = i := by
      have := List.mem_singleton.1 hm
      omega
    subst this
    rw [hg] at hk
    injection hk with hk
    rw [← hk]; exact hr
  refine ⟨hq, fun line hl h => ?_⟩
  have h := of_decide_eq_true h
  refine decide_eq_true (Nat.le_trans h (rdN_le rfl fun n hn hb => ?_))
  have h2 := rdB_law (p := logE p (dropI [(i : Int)] p.log 0)) hq (line := line) (n := n) hl hn
  rw [h2] at hb
  rw [rdB_law hok hl hn]
  have e1 : (logE p (dropI [(i : Int)] p.log 0)).log = dropI [(i : Int)] p.log 0 := rfl
  have e2 : st0 (logE p (dropI [(i : Int)] p.log 0)) = st0 p := rfl
  rw [e1, e2, (fold_rd (line := line) [(i : Int)] p.log 0 0 _ hrd).2, Bool.and_eq_true] at hb
  rw [Bool.and_eq_true]
  exact ⟨fold_mono (line := line) (n := n) [(i : Int)] p.log 0 false false hrd id hb.1, hb.2⟩
theorem fall_law {p : Pg} (hok : p.ok = true) {i line : Nat} (hi : i < p.lines.length) (_hl : line < p.lines.length) :
    passB (withE p ⟨3, [(i : Int)]⟩) (stN (withE p ⟨3, [(i : Int)]⟩) (withE p ⟨3, [(i : Int)]⟩).log.length) line = (!decide (line = i) && passB p (stN p p.log.length) line) := by
  obtain ⟨a1, a2, a3, a4, a5, a6, a7⟩ := Pg.ok_len hok
  rw [stN_last]
  have hnd := nodup_stN hok _ (Nat.le_refl p.log.length)
  generalize stN p p.log.length = s at hnd
  have hk := fun n => (hasK_delN i line p.people.toNat n s.keys hnd).2
  simp only [stepS, Int.toNat_natCast]
  have hs : ∀ x, rdB (changeS p p.log.length i x s) line = fun (n : Nat) => hasK ((line : Int), (n : Int)) (delN i p.people.toNat s.keys) && !decide ((n : Int) = s.setters.getD line 0) := fun x => rfl
  by_cases h : line = i
  · subst h
    rw [decide_eq_true rfl, Bool.not_true, Bool.false_and]
    refine decide_eq_false ?_
    unfold rdN readersL
    rw [hs]
    have hnil : (List.range (withE p ⟨3, [(line : Int)]⟩).people.toNat).filter (fun n : Nat => hasK ((line : Int), (n : Int)) (delN line p.people.toNat s.keys) && !decide ((n : Int) = s.setters.getD line 0)) = [] := by
      apply List.filter_eq_nil_iff.2
      intro n hn
      have hn : n < p.people.toNat := List.mem_range.1 hn
      have : hasK ((line : Int), (n : Int)) (delN line p.people.toNat s.keys) = false := by
        rw [hk]
        have h1 : decide ((n : Int) < (p.people.toNat : Int)) = true := decide_eq_true (by omega)
        have h2 : decide (0 ≤ (n : Int)) = true := decide_eq_true (by omega)
        simp
        intro _
        omega
      rw [this]
      simp
    rw [hnil]
    simp
  · rw [decide_eq_false h, Bool.not_false, Bool.true_and]
    unfold passB rdN readersL
    rw [hs]
    have : (fun n : Nat => hasK ((line : Int), (n : Int)) (delN i p.people.toNat s.keys) && !decide ((n : Int) = s.setters.getD line 0)) = rdB s line := by
      funext n
      rw [hk, decide_eq_false h]
      simp [rdB]
    rw [this]
    rfl
end Go.Vc
