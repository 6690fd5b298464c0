/- A part of the proof: general laws of a reading of the model by abstract data, or contracts of the functions that the law calls. -/
import Derived.Test.YtjdgidaoknlnlaaGreatDoorVc35
set_option maxRecDepth 100000
namespace Go.Vc
open Go Go.Proofs
variable {g : GG}
attribute [local simp] and_assoc
def readersP (p : Pg) (line : Nat) : List Int := readersL (stN p p.log.length) line p.people.toNat
theorem hasK_delN (line l : Nat) : ∀ (m : Nat) (n : Int) (ks : Keys), nodupK ks → nodupK (delN line m ks) ∧ hasK ((l : Int), n) (delN line m ks) = (hasK ((l : Int), n) ks && !(decide (l = line) && (decide (0 ≤ n) && decide (n < (m : Int)))))
  | 0, n, ks, h => by
    refine ⟨h, ?_⟩
    have : (decide (0 ≤ n) && decide (n < ((0 : Nat) : Int))) = false := by
      by_cases h0 : 0 ≤ n
      · have : ¬ n < ((0 : Nat) : Int) := by omega
        simp
      · simp [h0]
    simp only [delN, this, Bool.and_false, Bool.not_false, Bool.and_true]
  | m + 1, n, ks, h => by
    obtain ⟨h1, h2⟩ := hasK_delN line l m n ks h
    refine ⟨nodupK_delK _ _ h1, ?_⟩
    simp only [delN]
    by_cases he : ((l : Int), n) = ((line : Int), (m : Int))
    · obtain ⟨e1, e2⟩ := Prod.mk.inj he
      have e3 : l = line := by omega
      subst e3
      rw [e2] at *
      rw [hasK_delK_eq _ h1]
      have : decide ((m : Int) < ((m + 1 : Nat) : Int)) = true := decide_eq_true (by omega)
      simp
      intro _
      omega
    · rw [hasK_delK_ne he, h2]
      by_cases hl : l = line
      · subst hl
        have hn : n ≠ (m : Int) := fun e => he (by rw [e])
        have : decide (n < (m : Int)) = decide (n < ((m + 1 : Nat) : Int)) := by
          apply decide_eq_decide.2
          omega
        rw [this]
      · simp [hl]
theorem hasK_readN (p : Pg) (i : Nat) (a b : Int) (l : Nat) (n : Int) : ∀ (m c : Nat) (s : Ps), hasK ((l : Int), n) (readN p i a b m c s).keys = (hasK ((l : Int), n) s.keys || (decide (c ≤ l) && (decide (l < c + m) && (decide (n = a) || decide (n = b)))))
  | 0, c, s => by
    have : (decide (c ≤ l) && (decide (l < c + 0) && (decide (n = a) || decide (n = b)))) = false := by
      by_cases h : c ≤ l
      · have : ¬ l < c := by omega
        simp [this]
      · simp [h]
    simp only [readN, this, Bool.or_false]
  | m + 1, c, s => by
    simp only [readN]
    rw [hasK_readN p i a b l n m (c + 1)]
    simp only [readOne, addS, hasK_addK]
    by_cases hc : l = c
    · subst hc
      have h1 : ¬ l + 1 ≤ l := by omega
      have h2 : l < l + (m + 1) := by omega
      simp [h1, h2, Bool.or_assoc]
    · have e1 : decide (((l : Int), n) = ((c : Int), a)) = false := decide_eq_false (fun e => hc (by have := (Prod.mk.inj e).1; omega))
      have e2 : decide (((l : Int), n) = ((c : Int), b)) = false := decide_eq_false (fun e => hc (by have := (Prod.mk.inj e).1; omega))
      have e3 : decide (c + 1 ≤ l) = decide (c ≤ l) := decide_eq_decide.2 (by omega)
      have e4 : decide (l < c + 1 + m) = decide (l < c + (m + 1)) := decide_eq_decide.2 (by omega)
      rw [e1, e2, e3, e4]
      simp
theorem nodup_readN (p : Pg) (i : Nat) (a b : Int) : ∀ (m c : Nat) (s : Ps), nodupK s.keys → nodupK (readN p i a b m c s).keys
  | 0, _, _, h => h
  | m + 1, c, s, h => by
    simp only [readN]
    exact nodup_readN p i a b m (c + 1) _ (nodupK_addK _ _ _ (nodupK_addK _ _ _ h))
theorem nodup_stepS {p : Pg} {s : Ps} {i : Nat} {e : Nt} (he : entB p e = true) (h : nodupK s.keys) : nodupK (stepS p i e s).keys := by
  rcases entB_cases he with ⟨a, rfl, ha⟩ | ⟨a, b, c, rfl, ha, hb, hc⟩ | ⟨a, b, c, n, rfl, ha, hb, hab, hcn, hn⟩
  · exact (hasK_delN a 0 p.people.toNat 0 s.keys h).1
  · exact (hasK_delN b 0 p.people.toNat 0 s.keys h).1
  · exact nodup_readN p i a b _ _ s h
theorem nodup_stN {p : Pg} (hok : p.ok = true) : ∀ i, i ≤ p.log.length → nodupK (stN p i).keys
  | 0, _ => trivial
  | i + 1, hi => by
    have hg : p.log[i]? = some p.log[i] := List.getElem?_eq_getElem (by omega)
    have he := (Pg.ok_len hok).2.2.2.2.2.2 _ (List.getElem_mem (show i < p.log.length by omega))
    simp only [stN, hg]
    exact nodup_stepS he (nodup_stN hok i (by omega))
end Go.Vc
