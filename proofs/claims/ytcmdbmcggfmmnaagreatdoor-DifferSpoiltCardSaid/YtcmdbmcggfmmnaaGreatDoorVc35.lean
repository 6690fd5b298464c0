/- A part of the proof: general laws of a reading of the model by abstract data, or contracts of the functions that the law calls. -/
import Derived.Test.YtcmdbmcggfmmnaaGreatDoorVc34
set_option maxRecDepth 100000
namespace Go.Vc
open Go Go.Proofs
variable {g : GG}
attribute [local simp] and_assoc
theorem startsR_none : ∀ (rs : List Str), startsR rs = none → ∃ (j : Nat) (L : List Sp) (row : Str), j < rs.length ∧ rs[j]? = some row ∧ startsR (rs.take j) = some L ∧ pairR row = none
  | [], h => by cases h
  | r :: rs, h => by
    simp only [startsR] at h
    cases hp : pairR r with
    | none => exact ⟨0, [], r, by simp, rfl, rfl, hp⟩
    | some xy =>
      obtain ⟨x, y⟩ := xy
      rw [hp] at h
      cases hl : startsR rs with
      | some l => simp only [hl] at h; cases h
      | none =>
        obtain ⟨j, L, row, h1, h2, h3, h4⟩ := startsR_none rs hl
        refine ⟨j + 1, ⟨x, y⟩ :: L, row, by simpa using h1, by simpa using h2, ?_, h4⟩
        simp only [List.take_succ_cons, startsR, hp, h3]
theorem pairR_none {r : Str} (h : pairR r = none) : (splL 32 r).length ≠ 3 ∨ ∃ w a b, splL 32 r = [w, a, b] ∧ (numR 5 a = none ∨ ∃ x, numR 5 a = some x ∧ numR 5 b = none) := by
  by_cases hl : (splL 32 r).length = 3
  · obtain ⟨w, a, b, hs⟩ : ∃ w a b, splL 32 r = [w, a, b] := by
      cases hs : splL 32 r with
      | nil => rw [hs] at hl; simp at hl
      | cons w l =>
        cases l with
        | nil => rw [hs] at hl; simp at hl
        | cons a l =>
          cases l with
          | nil => rw [hs] at hl; simp at hl
          | cons b l =>
            cases l with
            | nil => exact ⟨w, a, b, rfl⟩
            | cons c l => rw [hs] at hl; simp at hl
    refine .inr ⟨w, a, b, hs, ?_⟩
    unfold pairR at h
    rw [hs] at h
    simp only at h
    cases ha : numR 5 a with
    | none => exact .inl rfl
    | some x =>
      cases hb : numR 5 b with
      | none => exact .inr ⟨x, rfl, rfl⟩
      | some y => rw [ha, hb] at h; cases h
  · exact .inl hl
def BadRow (g : GG) (row s : Str) : Prop := ((splL 32 row).length ≠ 3 ∧ s = row) ∨ (∃ w a b, splL 32 row = [w, a, b] ∧ MeetsP (Tz g) f_differ_signed [.str a] (noT s)) ∨
  ∃ w a b x, splL 32 row = [w, a, b] ∧ numR 5 a = some x ∧ MeetsP (Tz g) f_differ_signed [.str b] (noT s)
theorem badRow_of (hg : GOK g) {row : Str} (hr : row.length ≤ 300) (h : pairR row = none) : ∃ s, BadRow g row s := by
  have hm := splL_mem 32 row
  rcases pairR_none h with h | ⟨w, a, b, hs, h⟩
  · exact ⟨row, .inl ⟨h, rfl⟩⟩
  · rw [hs] at hm
    have ha : a.length ≤ 10000 := by have := hm a (by simp); omega
    have hb : b.length ≤ 10000 := by have := hm b (by simp); omega
    rcases h with h | ⟨x, hx, h⟩
    · obtain ⟨s, hp⟩ := signed_pan (g := g) hg a ha h
      exact ⟨s, .inr (.inl ⟨w, a, b, hs, hp⟩)⟩
    · obtain ⟨s, hp⟩ := signed_pan (g := g) hg b hb h
      exact ⟨s, .inr (.inr ⟨w, a, b, x, hs, hx, hp⟩)⟩
theorem TxOK_rows {rest : List Str} {k : Nat} {L : List Sp} {x y : Int} (hx : bigI x = true) (hy : bigI y = true) (hk : k ≤ 400) (h : startsR (rest.take k) = some L) : TxOK ⟨L, x, y⟩ := by
  obtain ⟨k1, k2⟩ := startsR_at _ _ h
  have kl : L.length ≤ 400 := by rw [k1]; simp; omega
  refine ⟨by simp [hx, hy], kl, fun s hs => ?_⟩
  obtain ⟨i, hi, rfl⟩ := List.getElem_of_mem hs
  have hi : i < L.length := hi
  have hi2 : i < (rest.take k).length := by omega
  obtain ⟨s', s1, s2⟩ := k2 i _ (List.getElem?_eq_getElem hi2)
  rw [List.getElem?_eq_getElem hi] at s2
  injection s2 with s2
  show [(L[i]).low, (L[i]).high].all bigI = true
  rw [s2]
  obtain ⟨_, a, b, _, ha, hb⟩ := pairR_some s1
  simp [big5 ha, big5 hb]
set_option maxHeartbeats 8000000 in
theorem parsed_ploop (hg : GOK g) {t : Str} {rest : List Str} (hmem : ∀ r, r ∈ rest → r.length ≤ 300) (hll : rest.length ≤ 301) {x y : Int} (hx : bigI x = true) (hy : bigI y = true) {m j : Nat} {L : List Sp} {s : Str} (hjm : j ≤ m) (hm : rest.length = m + 2) (hL : startsR (rest.take j) = some L)
    (hE : (j < m ∧ ∃ row, rest[j]? = some row ∧ BadRow g row s) ∨ (j = m ∧ textP ⟨L, x, y⟩ ≠ t ∧ s = t)) :
    LOOP [.d (.str t), .ptr 24 0 0 0, .ptr 248 0 0 0, .d (.list ((rest.take m).map .str)), .d (int m), .d (int 0)] [(248, some ⟨0, T_api_DifferPlan, .box [.zc, .d (int x), .d (int y)]⟩), (248, some ⟨0, T_api_DifferPlan, .box [.zc, .d (int 0), .d (int 0)]⟩), (24, some ⟨0, T_api_DifferPlan, .box [.zc, .d (int 0), .d (int 0)]⟩)] 320 fun vs15 h16 next17 => vcp_differ_parsed_k4 (Tz g) [] (.d (noT s)) [] vs15 h16 next17 := by
  obtain ⟨k1, k2⟩ := startsR_at _ _ hL
  have k1 : L.length = j := by rw [k1]; simp; omega
  have hTx : TxOK ⟨L, x, y⟩ := TxOK_rows hx hy (by omega) hL
  refine LOOP.mkB Nat (fun k => [.d (.str t), .ptr 24 0 0 0, .ptr 248 0 0 0, .d (.list ((rest.take m).map .str)), .d (int m), .d (int k)]) (fun k => prH ⟨L, x, y⟩ k) (fun k => k ≤ j) (fun k => m - k) [] [(248, 0, T_api_Span)] (by simp) 0 (by omega) (by simp [WEAK, lookH, prH, promoteB, promote]) (fun _ _ => rfl) ?_
  intro k hk
  have hwk := wrap_id (n := (k : Int) + 1) (by omega) (by omega)
  simp [vcp_differ_parsed_k4, prH]
  refine ⟨fun hlt => ?_, fun hge => ?_⟩
  · obtain ⟨row, hr⟩ : ∃ row, rest[k]? = some row := ⟨_, List.getElem?_eq_getElem (by omega)⟩
    have hrl : row.length ≤ 10000 := by
      have := hmem row (List.mem_of_getElem? hr)
      omega
    have hSr := Split_data hg row 32 hrl
    have hrD : ((rest.map D.str).take m)[k]? = some (.str row) := by
      rw [List.getElem?_take, if_pos hlt, List.getElem?_map, hr]; rfl
    refine ⟨_, hrD, rfl, _, rfl, ?_⟩
    refine CALL.val [.str row, .str [32]] _ rfl hSr (.inl rfl) ?_
    by_cases hkj : k < j
    · obtain ⟨s', hps, hgs⟩ := k2 k row (by rw [List.getElem?_take, if_pos hkj]; exact hr)
      obtain ⟨v, c, d, hv, hc, hd⟩ := pairR_some hps
      have htn : List.take (k + 1) (L.map Sp.d) = List.take k (L.map Sp.d) ++ [s'.d] := by
        rw [← List.map_take, ← List.map_take, take_next hgs, List.map_append]; rfl
      simp [hv, strsD, vcp_differ_parsed_k2]
      refine CALL.mk [.bool true, .str row] ⟨.tup [], []⟩ (by simp [argsD, argD, toD]) (need_ret row) (.inl rfl) (by simp) ?_
      simp
      refine CALL.val [.str c] _ rfl (signed_ret hg c _ hc) (.inl rfl) ?_
      simp [vcp_differ_parsed_k1]
      refine CALL.val [.str d] _ rfl (signed_ret hg d _ hd) (.inl rfl) ?_
      simp [vcp_differ_parsed_k0, lookH, hwk]
      refine ⟨by rfl, by omega, k + 1, by omega, ?_, by omega⟩
      simp [WEAK, lookH, htn, Sp.d]
    · have : k = j := by omega
      subst this
      rcases hE with ⟨_, row', hr', hbad⟩ | ⟨hjm2, _⟩
      · rw [hr] at hr'
        injection hr' with hr'
        subst hr'
        rcases hbad with ⟨hne, rfl⟩ | ⟨w, a, b, hv, hP⟩ | ⟨w, a, b, x', hv, ha, hP⟩
        · have hne : ¬ ((splL 32 s).length : Int) = 3 := by omega
          simp [strsD, hne]
          exact CALL.pan [.bool false, .str s] _ (by simp [argsD, argD, toD]) (need_pan s) (by simp)
        · simp [hv, strsD, vcp_differ_parsed_k2]
          refine CALL.mk [.bool true, .str row] ⟨.tup [], []⟩ (by simp [argsD, argD, toD]) (need_ret row) (.inl rfl) (by simp) ?_
          simp
          exact CALL.pan [.str a] _ rfl hP (by simp; repeat (first | rfl | refine ⟨rfl, ?_⟩))
        · simp [hv, strsD, vcp_differ_parsed_k2]
          refine CALL.mk [.bool true, .str row] ⟨.tup [], []⟩ (by simp [argsD, argD, toD]) (need_ret row) (.inl rfl) (by simp) ?_
          simp
          refine CALL.val [.str a] _ rfl (signed_ret hg a _ ha) (.inl rfl) ?_
          simp [vcp_differ_parsed_k1]
          exact CALL.pan [.str b] _ rfl hP (by simp; repeat (first | rfl | refine ⟨rfl, ?_⟩))
      · omega
  · have hkm : k = m := by omega
    subst hkm
    have hjk : j = k := by omega
    subst hjk
    have hta : List.take j (L.map Sp.d) = L.map Sp.d := by rw [← k1, ← List.map_take, take_all (Nat.le_refl _)]
    rcases hE with ⟨hlt, _⟩ | ⟨_, hne, rfl⟩
    · omega
    · refine CALL.val [Plan.d ⟨L, x, y⟩] _ (by simp [argsD, argD, toD, lookH, Plan.d, spans, hta]) (text_meets hg ⟨L, x, y⟩ hTx) (.inr rfl) ?_
      simp [vcp_differ_parsed_k3, hne]
      exact CALL.pan [.bool false, .str s] _ (by simp [argsD, argD, toD]) (need_pan s) (by simp)
set_option maxHeartbeats 8000000 in
theorem parsed_pan (hg : GOK g) (t : Str) (ht : t.length ≤ 300) (h : readQ t = none) : ∃ s, MeetsP (Tz g) f_differ_parsed [.str t] (noT s) := by
  have hmem := splL_mem 10 t
  have hln := splL_le 10 t
  have hSp := Split_data hg t 10 (by omega)
  cases hs : splL 10 t with
  | nil => exact absurd hs (splL_ne 10 t)
  | cons r0 rest =>
    rw [hs] at hmem hln hSp
    have hr0 : r0.length ≤ 300 := by have := hmem r0 List.mem_cons_self; omega
    have hll : rest.length ≤ 300 := by simp at hln; omega
    have hS0 := Split_data hg r0 32 (by omega)
    by_cases h2 : 2 ≤ rest.length
    · by_cases h3 : (splL 32 r0).length = 3
      · obtain ⟨w, a, b, hw⟩ : ∃ w a b, splL 32 r0 = [w, a, b] := by
          cases hs : splL 32 r0 with
          | nil => rw [hs] at h3; simp at h3
          | cons w l =>
            cases l with
            | nil => rw [hs] at h3; simp at h3
            | cons a l =>
              cases l with
              | nil => rw [hs] at h3; simp at h3
              | cons b l =>
                cases l with
                | nil => exact ⟨w, a, b, rfl⟩
                | cons c l => rw [hs] at h3; simp at h3
        have hwm := splL_mem 32 r0
        rw [hw] at hS0 hwm
        have hal : a.length ≤ 10000 := by have := hwm a (by simp); omega
        have hbl : b.length ≤ 10000 := by have := hwm b (by simp); omega
        have go : ∀ s, (∀ h0 v1, vcp_differ_parsed_k7 (Tz g) [] (.d (noT s)) [] (.d (strsD [w, a, b])) h0 (.d (strsD (r0 :: rest))) (.d (.str t)) v1 → True) → True := fun _ _ => trivial
        by_cases ha : ∃ x, numR 5 a = some x ∧ 0 ≤ x
        · obtain ⟨x, ha, hx0⟩ := ha
          by_cases hb : ∃ y, numR 5 b = some y ∧ 0 ≤ y
          · obtain ⟨y, hb, hy0⟩ := hb
            obtain ⟨m, hm⟩ : ∃ m, rest.length = m + 2 := ⟨rest.length - 2, by omega⟩
            have hm2 : rest.length - 2 = m := by omega
            have e1 : IntKind.i64.wrap ((rest.length : Int) + 1 - 2) = ((m + 1 : Nat) : Int) := by
              rw [wrap_id (by omega) (by omega)]; omega
            have e2 : (((m + 1 : Nat) : Int)).toNat = m + 1 := by omega
            have e3 : min (m + 1) (rest.length + 1) - 1 = m := by omega
            have hp0 : pairR r0 = some (x, y) := by unfold pairR; rw [hw]; simp only [ha, hb]
            have key : ∃ (j : Nat) (L : List Sp) (s : Str), j ≤ m ∧ startsR (rest.take j) = some L ∧ ((j < m ∧ ∃ row, rest[j]? = some row ∧ BadRow g row s) ∨ (j = m ∧ textP ⟨L, x, y⟩ ≠ t ∧ s = t)) := by
              cases hq : startsR (rest.take m) with
              | some L =>
                refine ⟨m, L, t, Nat.le_refl _, hq, .inr ⟨rfl, fun hT => ?_, rfl⟩⟩
                unfold readQ at h
                rw [hs] at h
                have hxy : (decide (0 ≤ x) && decide (0 ≤ y)) = true := by simp [hx0, hy0]
                simp only [decide_eq_true h2, hp0, hxy, hm2, hq, decide_eq_true hT] at h
                cases h
              | none =>
                obtain ⟨j, L, row, j1, j2, j3, j4⟩ := startsR_none _ hq
                have j1 : j < m := by simp at j1; omega
                have j2 : rest[j]? = some row := by rw [List.getElem?_take, if_pos j1] at j2; exact j2
                rw [List.take_take, Nat.min_eq_left (by omega)] at j3
                obtain ⟨s, hB⟩ := badRow_of hg (by have := hmem row (List.mem_cons_of_mem _ (List.mem_of_getElem? j2)); omega) j4
                exact ⟨j, L, s, by omega, j3, .inl ⟨j1, row, j2, hB⟩⟩
            obtain ⟨j, L, s, hjm, hL, hE⟩ := key
            have hloop := parsed_ploop hg (t := t) (fun r hr => by have := hmem r (List.mem_cons_of_mem _ hr); omega) (by omega) (big5 ha) (big5 hb) hjm hm hL hE
            refine ⟨s, meetsP_differ_parsed ?_⟩
            unfold vcp_differ_parsed
            simp
            refine CALL.val [.str t, .str [10]] _ rfl hSp (.inl rfl) ?_
            simp [strsD]
            refine CALL.mk [.bool true, .str t] ⟨.tup [], []⟩ (by simp [argsD, argD, toD]; omega) (need_ret t) (.inl rfl) (by simp) ?_
            simp [vcp_differ_parsed_k8]
            refine CALL.val [.str r0, .str [32]] _ rfl hS0 (.inl rfl) ?_
            simp [strsD]
            refine CALL.mk [.bool true, .str t] ⟨.tup [], []⟩ (by simp [argsD, argD, toD]) (need_ret t) (.inl rfl) (by simp) ?_
            simp [vcp_differ_parsed_k7]
            refine CALL.val [.str a] _ rfl (unsigned_ret hg a _ ha hx0) (.inl rfl) ?_
            simp [vcp_differ_parsed_k6]
            refine CALL.val [.str b] _ rfl (unsigned_ret hg b _ hb hy0) (.inl rfl) ?_
            simp [vcp_differ_parsed_k5]
            rw [e1, e2, e3]
            refine ⟨by rfl, by omega, by omega, ?_⟩
            simpa using hloop
          · have hP := unsigned_pan (g := g) hg b hbl (fun n hn => Classical.byContradiction fun hx => hb ⟨n, hn, by omega⟩)
            refine ⟨b, meetsP_differ_parsed ?_⟩
            unfold vcp_differ_parsed
            simp
            refine CALL.val [.str t, .str [10]] _ rfl hSp (.inl rfl) ?_
            simp [strsD]
            refine CALL.mk [.bool true, .str t] ⟨.tup [], []⟩ (by simp [argsD, argD, toD]; omega) (need_ret t) (.inl rfl) (by simp) ?_
            simp [vcp_differ_parsed_k8]
            refine CALL.val [.str r0, .str [32]] _ rfl hS0 (.inl rfl) ?_
            simp [strsD]
            refine CALL.mk [.bool true, .str t] ⟨.tup [], []⟩ (by simp [argsD, argD, toD]) (need_ret t) (.inl rfl) (by simp) ?_
            simp [vcp_differ_parsed_k7]
            refine CALL.val [.str a] _ rfl (unsigned_ret hg a _ ha hx0) (.inl rfl) ?_
            simp [vcp_differ_parsed_k6]
            exact CALL.pan [.str b] _ rfl hP (by simp; repeat (first | rfl | refine ⟨rfl, ?_⟩))
        · have hP := unsigned_pan (g := g) hg a hal (fun n hn => Classical.byContradiction fun hx => ha ⟨n, hn, by omega⟩)
          refine ⟨a, meetsP_differ_parsed ?_⟩
          unfold vcp_differ_parsed
          simp
          refine CALL.val [.str t, .str [10]] _ rfl hSp (.inl rfl) ?_
          simp [strsD]
          refine CALL.mk [.bool true, .str t] ⟨.tup [], []⟩ (by simp [argsD, argD, toD]; omega) (need_ret t) (.inl rfl) (by simp) ?_
          simp [vcp_differ_parsed_k8]
          refine CALL.val [.str r0, .str [32]] _ rfl hS0 (.inl rfl) ?_
          simp [strsD]
          refine CALL.mk [.bool true, .str t] ⟨.tup [], []⟩ (by simp [argsD, argD, toD]) (need_ret t) (.inl rfl) (by simp) ?_
          simp [vcp_differ_parsed_k7]
          exact CALL.pan [.str a] _ rfl hP (by simp; repeat (first | rfl | refine ⟨rfl, ?_⟩))
      · have hne : ¬ ((splL 32 r0).length : Int) = 3 := by omega
        refine ⟨t, meetsP_differ_parsed ?_⟩
        unfold vcp_differ_parsed
        simp
        refine CALL.val [.str t, .str [10]] _ rfl hSp (.inl rfl) ?_
        simp [strsD]
        refine CALL.mk [.bool true, .str t] ⟨.tup [], []⟩ (by simp [argsD, argD, toD]; omega) (need_ret t) (.inl rfl) (by simp) ?_
        simp [vcp_differ_parsed_k8]
        refine CALL.val [.str r0, .str [32]] _ rfl hS0 (.inl rfl) ?_
        simp [strsD, hne]
        exact CALL.pan [.bool false, .str t] _ (by simp [argsD, argD, toD]) (need_pan t) (by simp)
    · refine ⟨t, meetsP_differ_parsed ?_⟩
      unfold vcp_differ_parsed
      simp
      refine CALL.val [.str t, .str [10]] _ rfl hSp (.inl rfl) ?_
      simp [strsD]
      exact CALL.pan [.bool false, .str t] _ (by simp [argsD, argD, toD]; omega) (need_pan t) (by simp)
end Go.Vc

namespace Go.Vc
open Go Go.Proofs Go.RowKit
variable {g : GG}
attribute [local simp] and_assoc
def same2 : List PB := [.same, .same]
theorem att_panR (a : D) (s : Str) : runAttR (fun _ _ _ => some (.pan (.d (noT s)), same2)) (preR a) cloR = some (.ret (.tup [.d (int 0), .d (int 4)]), (preR a).map .upd) := by kernel_rfl
theorem Read_1_pan (hg : GOK g) (t : Str) (ht : t.length ≤ 300) (h : readQ t = none) : ∃ s, MeetsH (Tz g) f_differ_Read_1 (preR (.str t)) [.ptr 0 0 0 0, .ptr 1 0 0 0] (.pan (.d (noT s))) same2 := by
  obtain ⟨s, hP⟩ := parsed_pan hg t ht h
  refine ⟨s, meetsHp_differ_Read_1 rfl ?_⟩
  unfold vcp_differ_Read_1
  simp [preR, numbered, lookH]
  refine CALL.pan [.str t] _ rfl hP ?_
  simp
  refine ⟨[], ?_⟩
  simp [same2, yv, yh, fz, fzH, stay, src, lookH, NodupB, disjB, argD, toD]
def zeroP : Plan := ⟨[], 0, 0⟩
def readV (t : Str) : Plan × Int := match decide (t.length ≤ 110) with
  | false => (zeroP, 3)
  | true => match readQ t with
    | none => (zeroP, 4)
    | some p => match p.ok with
      | true => (p, 0)
      | false => (zeroP, 2)
set_option maxHeartbeats 4000000 in
theorem differ_Read_meets (hg : GOK g) (t : Str) (hl : t.length ≤ 1000) : Meets (Tz g) f_differ_Read [.str t] ⟨.tup [.d (readV t).1.d, .d (int (readV t).2)], []⟩ := by
  refine meets_differ_Read ?_
  unfold vc_differ_Read
  simp [lookH]
  by_cases ht : t.length ≤ 110
  · have hd : decide (t.length ≤ 110) = true := decide_eq_true ht
    refine ⟨fun h => by omega, fun _ => ?_⟩
    cases hq : readQ t with
    | some p =>
      have hTx := TxOK_read hq (by omega)
      have n1 := hTx.nl
      have hA := attR_meets (Read_1_ret (g := g) hg t (by omega) p hq) (att_retR (.str t) (spans p.starts) (int p.rows) (int p.guard))
      refine CALL.gen [24, 72] [false] [cloR] (preR (.str t)) _ _ hA rfl (by simp [argsM, AV.ren, AV.ren.renL, rho]) ?_ ?_ ?_ ?_ ?_
      · simp [preB, bodyOf, lookH, Body.ren, AV.ren, AV.ren.renL]
      · simp [ids.idsL, ids, preIds, Body.ids, lowL]
      · simp [lentL, disjB]
      · simp [preR, postR2]
      · simp [AV.ren, AV.ren.renL, postR2, upsP, rho, ABlk.ren, Body.ren, lentL, kills, lookH, vc_differ_Read_k1]
        refine CALL.val [p.d] _ rfl (differ_isPlan_meets p (by omega)) (.inl rfl) ?_
        cases hok : p.ok with
        | true =>
          have hV : readV t = (p, 0) := by unfold readV; rw [hd, hq]; simp only [hok]
          rw [hV]
          simp [vc_differ_Read_k0, lookH, Plan.d]
        | false =>
          have hV : readV t = (zeroP, 2) := by unfold readV; rw [hd, hq]; simp only [hok]
          rw [hV]
          simp [vc_differ_Read_k0, lookH, zeroP, Plan.d, spans]
    | none =>
      obtain ⟨s, hP⟩ := Read_1_pan (g := g) hg t (by omega) hq
      have hA := attR_meets hP (att_panR (.str t) s)
      have hV : readV t = (zeroP, 4) := by unfold readV; rw [hd, hq]
      rw [hV]
      refine CALL.gen [24, 72] [false] [cloR] (preR (.str t)) _ _ hA rfl (by simp [argsM, AV.ren, AV.ren.renL, rho]) ?_ ?_ ?_ ?_ ?_
      · simp [preB, bodyOf, lookH, Body.ren, AV.ren, AV.ren.renL]
      · simp [ids.idsL, ids, preIds, Body.ids, lowL]
      · simp [lentL, disjB]
      · simp [preR]
      · simp [AV.ren, AV.ren.renL, upsP, rho, ABlk.ren, Body.ren, lentL, kills, lookH, vc_differ_Read_k1, zeroP, Plan.d, spans]
  · have hV : readV t = (zeroP, 3) := by unfold readV; rw [decide_eq_false ht]
    rw [hV]
    refine ⟨fun _ => ?_, fun h => by omega⟩
    simp [zeroP, Plan.d, spans]
end Go.Vc
