/- A part of the proof: general laws of a reading of the model by abstract data, or contracts of the functions that the law calls. -/
import Derived.Test.YtflbianfhogdjaaGreatDoorVc46
import Derived.Test.YtflbianfhogdjaaGreatDoorVc44
set_option maxRecDepth 100000
namespace Go.Vc
open Go Go.Proofs
theorem lftN_ge (vs : List Int) (v : Int) : ∀ j, j ≤ vs.length → (vs.take j).count v ≤ lftN vs j
  | 0, _ => by simp [lftN]
  | j + 1, h => by
    have ih := lftN_ge vs v j (by omega)
    have hg : vs[j]? = some vs[j] := List.getElem?_eq_getElem (by omega)
    rw [lftN_succ vs j vs[j] hg, take_count_succ vs j vs[j] v hg]
    by_cases hv : vs[j] = v
    · rw [if_pos hv, hv, take_count_succ vs j v v (by rw [hg, hv]), if_pos rfl]
      exact Nat.le_max_right _ _
    · rw [if_neg hv]
      omega
theorem lftN_cnt (vs : List Int) (v : Int) : vs.count v ≤ lftN vs vs.length := by
  have := lftN_ge vs v vs.length (Nat.le_refl _)
  rwa [List.take_length] at this
theorem bestA_spec : ∀ (l : List (Int × Int)) (o : Int × Int), (∀ y, y ∈ l → o.1 ≤ y.1) → l.Pairwise (fun a b => a.1 ≤ b.1) →
    (bestA l o = o ∨ bestA l o ∈ l) ∧ (∀ y, y = o ∨ y ∈ l → (bestA l o).2 < y.2 ∨ ((bestA l o).2 = y.2 ∧ (bestA l o).1 ≤ y.1))
  | [], o, _, _ => by
    refine ⟨.inl rfl, ?_⟩
    intro y hy
    rcases hy with rfl | hy
    · exact .inr ⟨rfl, Int.le_refl _⟩
    · simp at hy
  | x :: r, o, ho, hp => by
    obtain ⟨hx, hr⟩ := List.pairwise_cons.1 hp
    simp only [bestA]
    by_cases hlt : x.2 < o.2
    · rw [if_pos hlt]
      obtain ⟨h1, h2⟩ := bestA_spec r x hx hr
      refine ⟨?_, ?_⟩
      · rcases h1 with h1 | h1
        · rw [h1]; exact .inr (by simp)
        · exact .inr (List.mem_cons_of_mem _ h1)
      · intro y hy
        rcases hy with rfl | hy
        · have := h2 x (.inl rfl)
          left; omega
        · rcases List.mem_cons.1 hy with rfl | hy
          · exact h2 y (.inl rfl)
          · exact h2 y (.inr hy)
    · rw [if_neg hlt]
      obtain ⟨h1, h2⟩ := bestA_spec r o (fun y hy => ho y (List.mem_cons_of_mem _ hy)) hr
      refine ⟨?_, ?_⟩
      · rcases h1 with h1 | h1
        · exact .inl h1
        · exact .inr (List.mem_cons_of_mem _ h1)
      · intro y hy
        rcases hy with rfl | hy
        · exact h2 y (.inl rfl)
        · rcases List.mem_cons.1 hy with rfl | hy
          · have h3 := h2 o (.inl rfl)
            have h4 := ho y (by simp)
            omega
          · exact h2 y (.inr hy)
theorem asksL_pair (ts : List (List Int)) (n : Nat) : (asksL ts n).Pairwise (fun a b => a.1 ≤ b.1) := by
  refine List.pairwise_map.2 ?_
  refine List.Pairwise.imp ?_ List.pairwise_lt_range
  intro a b hab
  simp only
  omega
theorem nextA_spec (ts : List (List Int)) (n : Nat) (hn : 1 ≤ n) : ∃ k : Nat, k < n ∧ nextA ts n = ((k : Int), (leftR ts k : Int)) ∧ ∀ j : Nat, j < n → leftR ts k < leftR ts j ∨ (leftR ts k = leftR ts j ∧ k ≤ j) := by
  have hd := asksL_drop ts n 0 (by omega)
  simp only [List.drop_zero] at hd
  have hp := asksL_pair ts n
  rw [hd] at hp
  obtain ⟨hp1, hp2⟩ := List.pairwise_cons.1 hp
  obtain ⟨h1, h2⟩ := bestA_spec ((asksL ts n).drop 1) (0, (leftR ts 0 : Int)) hp1 hp2
  have hmem : ∀ y, (y = (((0 : Nat) : Int), (leftR ts 0 : Int)) ∨ y ∈ (asksL ts n).drop 1) ↔ y ∈ asksL ts n := by
    intro y
    rw [hd]
    simp
  have hx : nextA ts n ∈ asksL ts n := (hmem _).1 h1
  simp only [asksL, List.mem_map, List.mem_range] at hx
  obtain ⟨k, hk, he⟩ := hx
  refine ⟨k, hk, he.symm, ?_⟩
  intro j hj
  have hj2 : ((j : Int), (leftR ts j : Int)) ∈ asksL ts n := by
    simp only [asksL, List.mem_map, List.mem_range]
    exact ⟨j, hj, rfl⟩
  have h3 := h2 _ ((hmem _).2 hj2)
  have e : bestA ((asksL ts n).drop 1) (0, (leftR ts 0 : Int)) = ((k : Int), (leftR ts k : Int)) := he.symm
  rw [e] at h3
  simp only at h3
  omega
theorem heads_getD (t : List Int) (n k : Nat) (h : 1 ≤ t.length) (hk : k < n) : (heads t n).getD k 0 = valL t k 0 := by
  rw [heads_val t n h]
  simp [hk]
theorem fitL_append_count (p : Plan) (sn : List Sn) (n k : Nat) (v : Int) (hn : p.rows = n) (hk : k < n) (hs : 1 ≤ p.starts.length) : (fitL p (sn ++ [⟨k, v⟩])).length = (valsR (fitL p sn) k).count v := by
  have hpn : p.rows.toNat = n := by omega
  have e1 : fitL p (sn ++ [⟨k, v⟩]) = (fitL p sn).filter (fun t => valL t k 0 == v) := by
    have h0 : ∀ t, t ∈ truthsL p.starts [] → fitsB p (sn ++ [⟨k, v⟩]) t = ((valL t k 0 == v) && fitsB p sn t) := by
      intro t ht
      have hl := truthsL_len p.starts [] t ht
      simp at hl
      rw [fitsB_append, hpn]
      have e : ((⟨(k : Int), v⟩ : Sn).row).toNat = k := by simp
      simp only [Int.toNat_natCast]
      simp only [heads_getD t n k (by omega) hk]
      rw [Bool.and_comm]
      rfl
    unfold fitL
    rw [List.filter_filter]
    exact List.filter_congr h0
  rw [e1, valsR, List.count_eq_countP, List.countP_map, List.countP_eq_length_filter]
  rfl
end Go.Vc
