/- A part of the proof: general laws of a reading of the model by abstract data, or contracts of the functions that the law calls. -/
import Derived.Test.YtflbianfhogdjaaGreatDoorVc42
set_option maxRecDepth 100000
namespace Go.Vc
open Go Go.Proofs
theorem truthsL_mem : ∀ (rest : List Sp) (now t : List Int), within rest t = true → now ++ t ∈ truthsL rest now
  | [], now, [], _ => by simp [truthsL]
  | [], _, _ :: _, h => by simp [within] at h
  | _ :: _, _, [], h => by simp [within] at h
  | s :: r, now, x :: t, h => by
    simp [within, inB] at h
    obtain ⟨⟨h1, h2⟩, h3⟩ := h
    simp only [truthsL, List.mem_flatMap, List.mem_range]
    refine ⟨(x - s.low).toNat, by unfold widthN; omega, ?_⟩
    have e : s.low + (((x - s.low).toNat : Nat) : Int) = x := by omega
    rw [e]
    have := truthsL_mem r (now ++ [x]) t h3
    simpa using this
def prodW : List Sp → Nat
  | [] => 1
  | s :: r => widthN s * prodW r
theorem sum_const {α : Type} (f : α → Nat) (q : Nat) : ∀ (l : List α), (∀ x, x ∈ l → f x = q) → (l.map f).sum = l.length * q
  | [], _ => by simp
  | x :: r, h => by
    have h1 := h x (by simp)
    have h2 := sum_const f q r (fun y hy => h y (by simp [hy]))
    simp only [List.map_cons, List.sum_cons, List.length_cons, Nat.succ_mul, h1, h2]
    omega
theorem truthsL_count : ∀ (rest : List Sp) (now : List Int), (truthsL rest now).length = prodW rest
  | [], now => by simp [truthsL, prodW]
  | s :: r, now => by
    unfold truthsL prodW
    rw [List.length_flatMap, sum_const _ (prodW r) _ (fun i _ => truthsL_count r _)]
    simp
theorem foldl_bnd (i : Nat) : ∀ (ts : List (List Int)) (s : Sp), (ts.foldl (bndS i) s).low ≤ s.low ∧ s.high ≤ (ts.foldl (bndS i) s).high ∧ (∀ t, t ∈ ts → (ts.foldl (bndS i) s).low ≤ t.getD i 0 ∧ t.getD i 0 ≤ (ts.foldl (bndS i) s).high) ∧
    ((ts.foldl (bndS i) s).low = s.low ∨ ∃ t, t ∈ ts ∧ (ts.foldl (bndS i) s).low = t.getD i 0) ∧ ((ts.foldl (bndS i) s).high = s.high ∨ ∃ t, t ∈ ts ∧ (ts.foldl (bndS i) s).high = t.getD i 0)
  | [], s => by simp
  | t :: r, s => by
    obtain ⟨h1, h2, h3, h4, h5⟩ := foldl_bnd i r (bndS i s t)
    simp only [List.foldl_cons]
    have e1 : (bndS i s t).low = min s.low (t.getD i 0) := rfl
    have e2 : (bndS i s t).high = max s.high (t.getD i 0) := rfl
    refine ⟨by omega, by omega, fun u hu => ?_, ?_, ?_⟩
    · rcases List.mem_cons.1 hu with rfl | hu
      · omega
      · exact h3 u hu
    · rcases h4 with h4 | ⟨u, hu, h4⟩
      · by_cases hc : s.low ≤ t.getD i 0
        · exact .inl (by omega)
        · exact .inr ⟨t, by simp, by omega⟩
      · exact .inr ⟨u, by simp [hu], h4⟩
    · rcases h5 with h5 | ⟨u, hu, h5⟩
      · by_cases hc : t.getD i 0 ≤ s.high
        · exact .inl (by omega)
        · exact .inr ⟨t, by simp, by omega⟩
      · exact .inr ⟨u, by simp [hu], h5⟩
theorem bndN_spec (ts : List (List Int)) (i : Nat) (hne : ts ≠ []) : (∀ t, t ∈ ts → (bndN ts i ts.length).low ≤ t.getD i 0 ∧ t.getD i 0 ≤ (bndN ts i ts.length).high) ∧
    (∃ t, t ∈ ts ∧ (bndN ts i ts.length).low = t.getD i 0) ∧ ∃ t, t ∈ ts ∧ (bndN ts i ts.length).high = t.getD i 0 := by
  unfold bndN
  rw [List.take_length]
  cases ts with
  | nil => exact absurd rfl hne
  | cons t0 r =>
    obtain ⟨_, _, h3, h4, h5⟩ := foldl_bnd i (t0 :: r) ⟨t0.getD i 0, t0.getD i 0⟩
    refine ⟨h3, ?_, ?_⟩
    · rcases h4 with h4 | h4
      · exact ⟨t0, by simp, h4⟩
      · exact h4
    · rcases h5 with h5 | h5
      · exact ⟨t0, by simp, h5⟩
      · exact h5
theorem bndN_mono (ts us : List (List Int)) (i : Nat) (hsub : ∀ t, t ∈ us → t ∈ ts) (hne : us ≠ []) : (bndN ts i ts.length).low ≤ (bndN us i us.length).low ∧ (bndN us i us.length).high ≤ (bndN ts i ts.length).high := by
  have hne2 : ts ≠ [] := by
    rintro rfl
    cases us with
    | nil => exact hne rfl
    | cons a r => exact absurd (hsub a (by simp)) (by simp)
  obtain ⟨h1, _, _⟩ := bndN_spec ts i hne2
  obtain ⟨_, ⟨t, ht, h2⟩, u, hu, h3⟩ := bndN_spec us i hne
  have := h1 t (hsub t ht)
  have := h1 u (hsub u hu)
  omega
theorem fitsB_append (p : Plan) (sn : List Sn) (x : Sn) (t : List Int) : fitsB p (sn ++ [x]) t = (fitsB p sn t && decide ((heads t p.rows.toNat).getD x.row.toNat 0 = x.value)) := by
  simp only [fitsB, List.any_append, List.any_cons, List.any_nil, Bool.or_false, Bool.not_or, Bool.not_not]
theorem fitL_append_sub (p : Plan) (sn : List Sn) (x : Sn) : ∀ t, t ∈ fitL p (sn ++ [x]) → t ∈ fitL p sn := by
  intro t h
  simp only [fitL, List.mem_filter, fitsB_append, Bool.and_eq_true] at h ⊢
  exact ⟨h.1, h.2.1⟩
theorem filter_len_le {α : Type} (f q : α → Bool) (hq : ∀ x, f x = true → q x = true) : ∀ l : List α, (l.filter f).length ≤ (l.filter q).length
  | [] => by simp
  | x :: r => by
    have := filter_len_le f q hq r
    cases hf : f x with
    | true => simp [hf, hq x hf]; exact this
    | false =>
      cases hx : q x <;> simp [hf, hx] <;> omega
theorem fitL_append_len (p : Plan) (sn : List Sn) (x : Sn) : (fitL p (sn ++ [x])).length ≤ (fitL p sn).length :=
  filter_len_le _ _ (fun t h => by rw [fitsB_append] at h; simp only [Bool.and_eq_true] at h; exact h.1) _
theorem fitL_nil (p : Plan) : fitL p [] = truthsL p.starts [] := by
  unfold fitL
  rw [List.filter_eq_self]
  intro t _
  simp [fitsB]
end Go.Vc

namespace Go.Vc
open Go Go.Proofs
variable {g : GG}
attribute [local simp] and_assoc
set_option maxHeartbeats 2000000 in
theorem differ_Known_data (p : Plan) (sn : List Sn) (n : Nat) (hok : p.ok = true) (hn : p.rows = n) (h : seensB p sn = true) (hf : fitL p sn ≠ []) : Meets (Tz g) f_differ_Known [p.d, seens sn] ⟨.tup [.d (spans (knownL (fitL p sn) p.starts.length)), .d (int 0)], []⟩ := by
  obtain ⟨a1, a2, a3, a4, a5⟩ := Plan.ok_len hok
  obtain ⟨h1, h2⟩ := seensB_rows hn h
  have hlen : ∀ t, t ∈ fitL p sn → t.length = p.starts.length := fun t ht => fitL_len ht
  have hcnt : (fitL p sn).length ≤ 2401 := fitL_cnt hok
  refine meets_differ_Known ?_
  unfold vc_differ_Known
  simp [Plan.d, spans]
  refine CALL.val [p.d] _ rfl (differ_isPlan_meets p (by omega)) (.inl rfl) ?_
  simp [vc_differ_Known_k3, hok]
  refine CALL.val [p.d, seens sn] _ rfl (differ_areSeen_meets p sn hok (by omega)) (.inl rfl) ?_
  simp [h]
  refine CALL.val [p.d, seens sn] _ rfl (agreeing_fit p sn n hok hn h) (.inl rfl) ?_
  simp [vc_differ_Known_k2, hf]
  generalize fitL p sn = ts at *
  obtain ⟨t0, ht0, hth, htm⟩ : ∃ t0, ts[0]? = some t0 ∧ ts.headD [] = t0 ∧ t0 ∈ ts := by
    cases ts with
    | nil => exact absurd rfl hf
    | cons a b => exact ⟨a, rfl, rfl, by simp⟩
  have hl0 : t0.length = p.starts.length := hlen t0 htm
  have hth2 : ts.head? = some t0 := by rw [List.head?_eq_getElem?]; exact ht0
  have htd : (ts.map (tabD p))[0]? = some (tabD p t0) := by rw [List.getElem?_map, ht0]; rfl
  obtain ⟨tabs, htabs⟩ : ∃ tabs, tabs = ts.map (tabD p) := ⟨_, rfl⟩
  have htl : tabs.length = ts.length := by rw [htabs]; simp
  rw [← htabs] at htd ⊢
  refine LOOP.mk Nat (fun k => [.d (.list (tabs)), .own 216 k, .d (int p.starts.length), .d (int k)]) (fun k => [(216, some ⟨k, T_api_Span, .lst ((knownL ts k).map Sp.d)⟩)]) (fun k => k ≤ p.starts.length) (fun k => p.starts.length - k) [(1, T_api_Span)] (by simp) 0 (by omega) (by simp [WEAK, knownL]) (fun _ _ => rfl) ?_
  intro k hk
  simp [vc_differ_Known_k1]
  constructor
  · intro hlt
    have hg0 : t0[k]? = some t0[k] := List.getElem?_eq_getElem (by omega)
    simp [htd, tabD, ints, hg0]
    refine ⟨rfl, ?_⟩
    refine LOOP.mk Nat (fun j => [.d (.list (tabs)), .own 216 k, .d (int k), .ptr 368 0 0 0, .d (int p.starts.length), .d (int k), .d (.list (tabs)), .d (int ts.length), .d (int j)])
      (fun j => [(368, some ⟨0, T_api_Span, .box [.d (int (bndN ts k j).low), .d (int (bndN ts k j).high)]⟩), (216, some ⟨k, T_api_Span, .lst ((knownL ts k).map Sp.d)⟩)])
      (fun j => j ≤ ts.length) (fun j => ts.length - j) [] (by simp) 0 (by omega) (by simp [WEAK, bndN, hth2, hg0, htl]) (fun _ _ => rfl) ?_
    intro j hj
    simp [vc_differ_Known_k0]
    constructor
    · intro hjl
      have hjl2 : j < ts.length := by omega
      have hg : ts[j]? = some ts[j] := List.getElem?_eq_getElem hjl2
      have ht := hlen _ (List.getElem_mem hjl2)
      generalize ts[j] = t at hg ht
      have hgk : t[k]? = some t[k] := List.getElem?_eq_getElem (by omega)
      have hb := bndN_succ ts k j t hg
      have hgm : tabs[j]? = some (tabD p t) := by rw [htabs, List.getElem?_map, hg]; rfl
      simp [hgm, tabD, ints, hgk]
      rw [wrap_id (n := (j : Int) + 1) (by omega) (by omega)]
      refine ⟨j + 1, by omega, ?_, by omega⟩
      rw [hb]
      simp [WEAK, bndS, hgk]
    · intro hge
      have hjt : j = ts.length := by omega
      subst hjt
      refine ⟨by simp [knownL]; omega, k + 1, by omega, ?_, by omega⟩
      rw [wrap_id (n := (k : Int) + 1) (by omega) (by omega)]
      simp [WEAK, knownL, List.range_succ, Sp.d]
  · intro hge
    have : k = p.starts.length := by omega
    subst this
    simp
def knownD (p : Plan) (sn : List Sn) : List Sp := match fitL p sn with | [] => [] | t :: r => knownL (t :: r) p.starts.length
def knownE (p : Plan) (sn : List Sn) : Int := match fitL p sn with | [] => 7 | _ => 0
theorem differ_Known_all (p : Plan) (sn : List Sn) (n : Nat) (hok : p.ok = true) (hn : p.rows = n) (h : seensB p sn = true) : Meets (Tz g) f_differ_Known [p.d, seens sn] ⟨.tup [.d (spans (knownD p sn)), .d (int (knownE p sn))], []⟩ := by
  by_cases hf : fitL p sn = []
  · have := differ_Known_none (g := g) p sn n hok hn h hf
    simpa [knownD, knownE, hf, spans] using this
  · have := differ_Known_data (g := g) p sn n hok hn h hf
    unfold knownD knownE
    cases hc : fitL p sn with
    | nil => exact absurd hc hf
    | cons t r => rw [hc] at this; exact this
end Go.Vc
