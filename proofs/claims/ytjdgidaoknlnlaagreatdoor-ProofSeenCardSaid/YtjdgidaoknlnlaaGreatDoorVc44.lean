/- A part of the proof: general laws of a reading of the model by abstract data, or contracts of the functions that the law calls. -/
import Derived.Test.YtjdgidaoknlnlaaGreatDoorVc43
set_option maxRecDepth 100000
namespace Go.Vc
open Go Go.Proofs
variable {g : GG}
attribute [local simp] and_assoc
theorem proof_count_meets (c : Nat) (hc : c ≤ 1000) : Meets (Tz g) f_proof_count [.list (List.replicate c (int 1))] ⟨.d (int c), []⟩ := by
  refine meets_proof_count ?_
  unfold vc_proof_count
  simp
  refine LOOP.mk Nat (fun k => [.d (int k), .d (.list (List.replicate c (int 1))), .d (int c), .d (int k)]) (fun _ => []) (fun k => k ≤ c) (fun k => c - k) [] (by simp) 0 (by omega) (by simp [WEAK]) (fun _ _ => rfl) ?_
  intro k hk
  have hw := wrap_id (n := (k : Int) + 1) (by omega) (by omega)
  simp [vc_proof_count_k0]
  constructor
  · intro hlt
    simp [hlt, hw]
    exact ⟨k + 1, by omega, by simp [WEAK], by omega⟩
  · intro hge
    have : k = c := by omega
    subst this
    rfl
theorem Worst_1_meets (a b : Int × Int) : Meets (Tz g) f_proof_Worst_1 [missD a, missD b] ⟨.d (.bool (decide (b.2 < a.2))), []⟩ := by
  refine meets_proof_Worst_1 ?_
  unfold vc_proof_Worst_1
  simp [missD]
def bestP (l : List (Int × Int)) (k : Nat) : Int × Int := l.getD (bestI (fun k => (l.getD k (0, 0)).2) k) (0, 0)
theorem bestP_succ (l : List (Int × Int)) (k : Nat) (y : Int × Int) (h : l[k + 1]? = some y) : bestP l (k + 1) = (match decide ((bestP l k).2 < y.2) with | true => y | false => bestP l k) := by
  have hy : l.getD (k + 1) (0, 0) = y := by rw [List.getD_eq_getElem?_getD, h]; rfl
  unfold bestP
  simp only [bestI, hy]
  cases decide ((l.getD (bestI (fun k => (l.getD k (0, 0)).2) k) (0, 0)).2 < y.2) with
  | true => exact hy
  | false => rfl
set_option maxHeartbeats 4000000 in
theorem best_reader_meets (l : List (Int × Int)) (n : Nat) (hn : l.length = n + 1) (hn2 : n ≤ 1000) : Meets (Tz g) f_proof_best_proof_reader [.list (l.map missD), .fn f_proof_Worst_1 [] []] ⟨.d (missD (bestP l n)), []⟩ := by
  obtain ⟨x0, r, rfl⟩ : ∃ x r, l = x :: r := by
    cases l with
    | nil => simp at hn
    | cons x r => exact ⟨x, r, rfl⟩
  have hr : r.length = n := by simpa using hn
  have hb0 : bestP (x0 :: r) 0 = x0 := rfl
  have hbs := fun k y (h : r[k]? = some y) => bestP_succ (x0 :: r) k y (by simpa using h)
  refine meets_proof_best_proof_reader ?_
  unfold vc_proof_best_proof_reader
  simp [missD]
  refine ⟨fun a x y _ h => by subst h; rfl, by omega, ?_⟩
  rw [List.take_of_length_le (by simp)]
  refine LOOP.mk Nat (fun k => [.d (.fn f_proof_Worst_1 [] []), .ptr 24 0 0 0, .ptr 56 0 0 0, .d (.list (r.map missD)), .d (int n), .d (int k)]) (fun k => [(24, some ⟨0, T_proof_reader, .box [.d (int 0), .d (int 0)]⟩), (56, some ⟨0, T_proof_reader, .box [.d (int (bestP (x0 :: r) k).1), .d (int (bestP (x0 :: r) k).2)]⟩)]) (fun k => k ≤ n) (fun k => n - k) [] (by simp) 0 (by omega) (by simp [WEAK, lookH, hr, hb0]) (fun _ _ => rfl) ?_
  intro k hk
  have hw := wrap_id (n := (k : Int) + 1) (by omega) (by omega)
  simp [vc_proof_best_proof_reader_k1]
  constructor
  · intro hlt
    have hg : r[k]? = some r[k] := List.getElem?_eq_getElem (by omega)
    generalize r[k] = y at hg
    have hs := hbs k y hg
    generalize bestP (x0 :: r) k = z at hs ⊢
    obtain ⟨y1, y2⟩ := y
    simp [hg, missD]
    refine CALL.val [missD (y1, y2), missD z] _ rfl (Worst_1_meets (y1, y2) z) (.inl rfl) ?_
    simp [vc_proof_best_proof_reader_k0, hw]
    refine ⟨fun h => ?_, fun h => ?_⟩
    · rw [decide_eq_true h] at hs
      exact ⟨k + 1, by omega, by simp [WEAK, lookH, hs], by omega⟩
    · have : ¬ z.2 < y2 := by omega
      rw [decide_eq_false this] at hs
      exact ⟨k + 1, by omega, by simp [WEAK, lookH, hs], by omega⟩
  · intro hge
    have : k = n := by omega
    subst this
    exact ⟨rfl, rfl⟩
end Go.Vc

namespace Go.Vc
open Go Go.Proofs
variable {g : GG}
attribute [local simp] and_assoc
def idxI (x : Int) : List Int → Int → Int
  | [], _ => -1
  | y :: r, i => match decide (x = y) with | true => i | false => idxI x r (i + 1)
theorem idxI_mem (x : Int) : ∀ (l : List Int) (i : Int), 0 ≤ i → (0 ≤ idxI x l i ↔ x ∈ l)
  | [], i, h => by simp [idxI]
  | y :: r, i, h => by
    have ih := idxI_mem x r (i + 1) (by omega)
    by_cases hxy : x = y
    · have e : idxI x (y :: r) i = i := by simp only [idxI]; rw [decide_eq_true hxy]
      rw [e, hxy]
      simp [h]
    · have e : idxI x (y :: r) i = idxI x r (i + 1) := by simp only [idxI]; rw [decide_eq_false hxy]
      rw [e, List.mem_cons]
      exact ih.trans ⟨.inr, fun h => h.resolve_left hxy⟩
theorem Index_ints_meets (l : List Int) (x : Int) (hl : l.length ≤ 1000) : Meets (Tz g) f_slices_Index_l_int_int [ints l, int x] ⟨.d (int (idxI x l 0)), []⟩ := by
  refine meets_slices_Index_l_int_int ?_
  unfold vc_slices_Index_l_int_int
  simp [ints]
  refine LOOP.mk Nat (fun k => [.d (ints l), .d (int x), .d (int l.length), .d (int k)]) (fun _ => []) (fun k => k ≤ l.length ∧ idxI x l 0 = idxI x (l.drop k) k) (fun k => l.length - k) [] (by simp) 0 (by simp) (by simp [WEAK, ints]) (fun _ _ => rfl) ?_
  rintro k ⟨hk, he⟩
  have hw := wrap_id (n := (k : Int) + 1) (by omega) (by omega)
  simp [vc_slices_Index_l_int_int_k0, ints]
  constructor
  · intro hlt
    have hg : l[k]? = some l[k] := List.getElem?_eq_getElem hlt
    rw [List.drop_eq_getElem_cons hlt] at he
    generalize l[k] = y at hg he
    simp only [idxI] at he
    simp [hg, hw]
    refine ⟨fun h => ?_, fun h => ?_⟩
    · rw [decide_eq_true h] at he
      exact he.symm
    · rw [decide_eq_false h] at he
      exact ⟨k + 1, by omega, by rw [he]; norm_cast, by simp [WEAK], by omega⟩
  · intro hge
    rw [List.drop_eq_nil_of_le hge] at he
    rw [he]
    rfl
theorem Contains_ints_meets (l : List Int) (x : Int) (hl : l.length ≤ 1000) : Meets (Tz g) f_slices_Contains_l_int_int [ints l, int x] ⟨.d (.bool (decide (x ∈ l))), []⟩ := by
  refine meets_slices_Contains_l_int_int ?_
  unfold vc_slices_Contains_l_int_int
  refine CALL.val [ints l, int x] _ rfl (Index_ints_meets l x hl) (.inl rfl) ?_
  simp
  exact idxI_mem x l 0 (Int.le_refl 0)
def worstI (p : Pg) : Nat := bestI (fun n => (ofN p n : Int)) (p.people.toNat - 1)
theorem proof_Worst_none (p : Pg) (hok : p.ok = true) (hm : missL p p.log.length = []) : Meets (Tz g) f_proof_Worst [p.d] ⟨.tup [.d (int 0), .d (int 0), .d (int 5)], []⟩ := by
  obtain ⟨a1, a2, a3, a4, a5, _⟩ := Pg.ok_len hok
  have hmi := stN_missed hok _ (Nat.le_refl p.log.length)
  rw [hm] at hmi
  have hP := pageOf_meets (g := g) p hok
  refine meets_proof_Worst ?_
  unfold vc_proof_Worst
  simp [Pg.d, lns, ents]
  refine CALL.val [p.d] _ rfl (proof_isPage_meets p (by omega) (by omega)) (.inl rfl) ?_
  simp [vc_proof_Worst_k6, hok]
  refine CALL.gen [] [false] [.d p.d] [] _ _ hP rfl (by simp [argsM, AV.ren, Pg.d, lns, ents]) (by simp [preB]) (by simp [lowL, ids.idsL, ids, preIds]) (by simp [lentL, disjB]) (by simp [stBlks]) ?_
  simp [AV.ren, AV.ren.renL, stBlks, stBox, upsP, rho, ABlk.ren, Body.ren, lentL, kills, lookH, vc_proof_Worst_k5, hmi]
  exact POST.auto (by simp)
def readersW (p : Pg) (n : Nat) : List (Int × Int) := (List.range n).map fun (k : Nat) => ((k : Int), (ofN p k : Int))
theorem readersW_succ (p : Pg) (k : Nat) : readersW p (k + 1) = readersW p k ++ [((k : Int), (ofN p k : Int))] := by
  unfold readersW; rw [List.range_succ, List.map_append]; rfl
set_option maxHeartbeats 8000000 in
theorem proof_Worst_data (p : Pg) (hok : p.ok = true) (hm : missL p p.log.length ≠ []) : Meets (Tz g) f_proof_Worst [p.d] ⟨.tup [.d (int (worstI p)), .d (int (ofN p (worstI p))), .d (int 0)], []⟩ := by
  obtain ⟨a1, a2, a3, a4, a5, a6, a7⟩ := Pg.ok_len hok
  obtain ⟨m, hpm⟩ : ∃ m : Nat, p.people = m := ⟨p.people.toNat, by omega⟩
  have hpn : p.people.toNat = m := by omega
  have hmi := stN_missed hok _ (Nat.le_refl p.log.length)
  have hrd := fun x (h : x ∈ missL p p.log.length) => miss_read hok h (Nat.le_refl _)
  have hle := missL_le hok (Nat.le_refl p.log.length)
  have hP := pageOf_meets (g := g) p hok
  have hof : ∀ n : Nat, ofN p n = cntL (ofB p n) (missL p p.log.length) (missL p p.log.length).length := fun n => rfl
  generalize hl : missL p p.log.length = l at hm hmi hrd hle hof
  have hbe := best_reader_meets (g := g) (readersW p m) (m - 1) (by simp [readersW]; omega) (by omega)
  have hwr : bestP (readersW p m) (m - 1) = ((worstI p : Int), (ofN p (worstI p) : Int)) := by
    have hg : ∀ k, k < m → (readersW p m).getD k (0, 0) = ((k : Int), (ofN p k : Int)) := fun k hk => by
      rw [List.getD_eq_getElem?_getD]
      unfold readersW
      rw [List.getElem?_map, List.getElem?_range hk]; rfl
    have hb : ∀ k, k < m → bestI (fun k => ((readersW p m).getD k (0, 0)).2) k = bestI (fun n => (ofN p n : Int)) k := by
      intro k
      induction k with
      | zero => intro _; rfl
      | succ k ih =>
        intro hk
        have h1 := ih (by omega)
        have h2 := bestI_le (fun n => (ofN p n : Int)) k
        simp only [bestI, h1]
        rw [hg _ (by omega), hg _ hk]
    unfold bestP
    rw [hb _ (by omega), hg _ (by have := bestI_le (fun n => (ofN p n : Int)) (m - 1); omega)]
    unfold worstI
    rw [hpn]
  rw [hwr] at hbe
  generalize ((worstI p : Nat)) = W at hbe ⊢
  have hne : ¬ l.length = 0 := fun h => hm (List.length_eq_zero_iff.1 h)
  refine meets_proof_Worst ?_
  unfold vc_proof_Worst
  simp [Pg.d, lns, ents]
  refine CALL.val [p.d] _ rfl (proof_isPage_meets p (by omega) (by omega)) (.inl rfl) ?_
  simp [vc_proof_Worst_k6, hok]
  refine CALL.gen [] [false] [.d p.d] [] _ _ hP rfl (by simp [argsM, AV.ren, Pg.d, lns, ents]) (by simp [preB]) (by simp [lowL, ids.idsL, ids, preIds]) (by simp [lentL, disjB]) (by simp [stBlks]) ?_
  simp [AV.ren, AV.ren.renL, stBlks, stBox, upsP, rho, ABlk.ren, Body.ren, lentL, kills, lookH, vc_proof_Worst_k5, hmi]
  refine ⟨fun h => absurd h hm, fun _ => ?_⟩
  refine LOOP.mk Nat (fun n => [.ptr 24 0 0 0, .own 93 0, .own 184 n, .d (int m), .d (int n)]) (fun n => [(184, some ⟨n, T_proof_reader, .lst ((readersW p n).map missD)⟩), (93, some ⟨0, T_api_ProofMiss, .lst (l.map missD)⟩), (24, some ⟨0, T_api_ProofPage, .box [.d (int p.people), .d (.list (p.lines.map Ln.d)), .d (.list (p.log.map Nt.d))]⟩)])
    (fun n => n ≤ m) (fun n => m - n) [(2, T_proof_reader)] (by simp) 0 (by omega) (by simp [WEAK, lookH, hpm, readersW]) (fun _ _ => rfl) ?_
  intro n hn
  have hw := wrap_id (n := (n : Int) + 1) (by omega) (by omega)
  simp [vc_proof_Worst_k4]
  constructor
  · intro hlt
    refine LOOP.mk Nat (fun j => [.ptr 24 0 0 0, .own 93 0, .own 184 n, .d (int n), .own 248 (cntL (ofB p n) l j), .d (int m), .d (int n), .own 93 0, .d (int l.length), .d (int j)]) (fun j => [(248, some ⟨cntL (ofB p n) l j, T_int, .lst (List.replicate (cntL (ofB p n) l j) (int 1))⟩), (184, some ⟨n, T_proof_reader, .lst ((readersW p n).map missD)⟩), (93, some ⟨0, T_api_ProofMiss, .lst (l.map missD)⟩), (24, some ⟨0, T_api_ProofPage, .box [.d (int p.people), .d (.list (p.lines.map Ln.d)), .d (.list (p.log.map Nt.d))]⟩)])
      (fun j => j ≤ l.length) (fun j => l.length - j) [(4, T_int)] (by simp) 0 (by omega) (by simp [WEAK, lookH, cntL]) (fun _ _ => rfl) ?_
    intro j hj
    have hcl := cntL_le (ofB p n) l j
    have hwj := wrap_id (n := (j : Int) + 1) (by omega) (by omega)
    simp [vc_proof_Worst_k2]
    constructor
    · intro hltj
      have hg : l[j]? = some l[j] := List.getElem?_eq_getElem hltj
      obtain ⟨i, k, a, b, c, q, h1, h2, h3, h4, h5⟩ := hrd _ (List.getElem_mem hltj)
      rw [h2] at hg
      have hcs := cntL_succ (ofB p n) l j _ hg
      have hob : ofB p n ((i : Int), (k : Int)) = decide ((n : Int) ∈ [a, b]) := by
        have : (decide (a = (n : Int)) || decide (b = (n : Int))) = decide ((n : Int) ∈ [a, b]) := by
          rw [← Bool.decide_or]
          apply decide_eq_decide.2
          simp only [List.mem_cons, List.not_mem_nil, or_false]
          exact ⟨fun h => h.imp Eq.symm Eq.symm, fun h => h.imp Eq.symm Eq.symm⟩
        simp only [ofB, Int.toNat_natCast, h3]
        exact this
      rw [hob] at hcs
      simp [hg, missD, h3, Nt.d, ints]
      refine ⟨hltj, ?_⟩
      refine CALL.val [ints [a, b], int n] _ rfl (Contains_ints_meets [a, b] n (by simp)) (.inl rfl) ?_
      cases hd : decide ((n : Int) ∈ [a, b]) with
      | true =>
        rw [hd] at hcs
        simp [vc_proof_Worst_k0, hwj]
        exact ⟨by omega, j + 1, by omega, by simp [WEAK, lookH, hcs, List.replicate_succ'], by omega⟩
      | false =>
        rw [hd] at hcs
        simp [vc_proof_Worst_k0, hwj]
        exact ⟨j + 1, by omega, by simp [WEAK, lookH, hcs], by omega⟩
    · intro hgej
      have : j = l.length := by omega
      subst this
      have hof2 := hof n
      rw [← hof2] at hcl ⊢
      refine CALL.val [.list (List.replicate (ofN p n) (int 1))] _ (by simp) (proof_count_meets _ (by omega)) (.inr rfl) ?_
      have hrw : (readersW p n).length = n := by simp [readersW]
      simp [vc_proof_Worst_k1, hw]
      exact ⟨by omega, n + 1, by omega, by simp [WEAK, lookH, readersW_succ, missD], by omega⟩
  · intro hge
    have : n = m := by omega
    subst this
    refine CALL.val [.list ((readersW p n).map missD), .fn f_proof_Worst_1 [] []] _ (by simp) hbe (.inr rfl) ?_
    simp [vc_proof_Worst_k3, missD]
    refine ⟨rfl, ?_⟩
    exact POST.auto (by simp)
end Go.Vc
