/- A part of the proof: general laws of a reading of the model by abstract data, or contracts of the functions that the law calls. -/
import Derived.Test.YtcmdbmcggfmmnaaGreatDoorVc35
set_option maxRecDepth 100000
namespace Go.Vc
open Go Go.Proofs
variable {g : GG}
attribute [local simp] and_assoc
theorem pairR_nums {row w : Str} {ws : List Str} (hw : splL 32 row = w :: ws) : (∀ x y, numsR 5 ws = some [x, y] → pairR row = some (x, y)) ∧ ((∀ x y, numsR 5 ws ≠ some [x, y]) → pairR row = none) := by
  refine ⟨fun x y h => ?_, fun h => ?_⟩
  · have hl := numsR_len h
    cases ws with
    | nil => cases hl
    | cons a ws =>
      cases ws with
      | nil => simp at hl
      | cons b ws =>
        cases ws with
        | cons c ws => simp at hl
        | nil =>
          unfold pairR
          rw [hw]
          simp only [numsR] at h
          cases ha : numR 5 a with
          | none => rw [ha] at h; cases h
          | some p =>
            cases hb : numR 5 b with
            | none => rw [ha, hb] at h; cases h
            | some q =>
              rw [ha, hb] at h
              simp only [Option.some.injEq, List.cons.injEq, and_true] at h
              simp only [h.1, h.2, ha, hb]
  · cases hp : pairR row with
    | none => rfl
    | some xy =>
      obtain ⟨x, y⟩ := xy
      obtain ⟨w', a, b, h1, h2, h3⟩ := pairR_some hp
      rw [hw] at h1
      injection h1 with h1 h4
      subst h4
      exact absurd (by simp only [numsR, h2, h3]) (h x y)
structure RdS where
  k : Nat
  p : Plan
def rdH (p : Plan) : Heap := [(24, some ⟨0, T_api_DifferPlan, .box [.zc, .d (int 0), .d (int 0)]⟩), (40, some ⟨0, T_api_DifferPlan, .box [.own 80 p.starts.length, .d (int p.rows), .d (int p.guard)]⟩), (80, some ⟨p.starts.length, T_api_Span, .lst (p.starts.map Sp.d)⟩)]
def refV (t : Str) : Plan × Bool := match readQ t with
  | some p => (p, true)
  | none => (zeroP, false)
def RdOK (r0 : Str) (rest : List Str) (x : RdS) : Prop := x.k ≤ rest.length - 1 ∧ ((x.k = 0 ∧ x.p = zeroP) ∨ (1 ≤ x.k ∧ pairR r0 = some (x.p.rows, x.p.guard) ∧ 0 ≤ x.p.rows ∧ 0 ≤ x.p.guard ∧ startsR (rest.take (x.k - 1)) = some x.p.starts))
theorem startsR_snoc : ∀ {rs : List Str} {L : List Sp} {k : Nat} {row : Str}, startsR (rs.take k) = some L → rs[k]? = some row → startsR (rs.take (k + 1)) = match pairR row with | some (x, y) => some (L ++ [⟨x, y⟩]) | none => none
  | [], L, k, row, h, hr => by simp at hr
  | r :: rs, L, 0, row, h, hr => by
    have h : some [] = some L := h
    injection h with h
    subst h
    have hr : some r = some row := hr
    injection hr with hr
    subst hr
    cases hp : pairR r with
    | none => simp only [List.take_succ_cons, List.take_zero, startsR, hp]
    | some xy => simp only [List.take_succ_cons, List.take_zero, startsR, hp, List.nil_append]
  | r :: rs, L, k + 1, row, h, hr => by
    simp only [List.take_succ_cons, startsR] at h ⊢
    cases hp : pairR r with
    | none => rw [hp] at h; cases h
    | some xy =>
      obtain ⟨x, y⟩ := xy
      rw [hp] at h
      cases hl : startsR (rs.take k) with
      | none => simp only [hl] at h; cases h
      | some l =>
        simp only [hl] at h
        injection h with h
        subst h
        have ih := startsR_snoc hl (show rs[k]? = some row by simpa using hr)
        simp only [ih]
        cases pairR row with
        | none => rfl
        | some uv => rfl
theorem startsR_fail {rs : List Str} {k j : Nat} (hkj : k ≤ j) (h : startsR (rs.take k) = none) : startsR (rs.take j) = none := by
  cases hj : startsR (rs.take j) with
  | none => rfl
  | some L =>
    exfalso
    obtain ⟨i, L', row, h1, h2, h3, h4⟩ := startsR_none _ h
    obtain ⟨_, k2⟩ := startsR_at _ _ hj
    have h5 : (rs.take j)[i]? = some row := by
      have hik : i < k := by simp at h1; omega
      rw [List.getElem?_take, if_pos hik] at h2
      rw [List.getElem?_take, if_pos (by omega)]
      exact h2
    obtain ⟨s, hs, _⟩ := k2 i row h5
    rw [h4] at hs
    cases hs
theorem readQ_short {t r0 : Str} {rest : List Str} (hs : splL 10 t = r0 :: rest) (h : rest.length < 2) : readQ t = none := by
  unfold readQ
  rw [hs]
  simp only [decide_eq_false (show ¬ 2 ≤ rest.length by omega)]
theorem readQ_head {t r0 : Str} {rest : List Str} (hs : splL 10 t = r0 :: rest) (h : ∀ x y, pairR r0 = some (x, y) → ¬ (0 ≤ x ∧ 0 ≤ y)) : readQ t = none := by
  cases hq : readQ t with
  | none => rfl
  | some p =>
    obtain ⟨r0', rest', m, h1, h2, h3, h4, h5, _⟩ := readQ_some hq
    rw [hs] at h1
    injection h1 with h1 h6
    subst h1
    exact absurd ⟨h4, h5⟩ (h _ _ h3)
theorem readQ_row {t r0 : Str} {rest : List Str} (hs : splL 10 t = r0 :: rest) {k : Nat} {row : Str} {L : List Sp} (hk : k < rest.length - 2) (hr : rest[k]? = some row) (hL : startsR (rest.take k) = some L) (hb : pairR row = none) : readQ t = none := by
  cases hq : readQ t with
  | none => rfl
  | some p =>
    obtain ⟨r0', rest', m, h1, h2, h3, h4, h5, h6, _⟩ := readQ_some hq
    rw [hs] at h1
    injection h1 with h1 h7
    subst h7
    have e := startsR_snoc hL hr
    rw [hb] at e
    rw [startsR_fail (j := m) (by omega) e] at h6
    cases h6
theorem readQ_end {t r0 : Str} {rest : List Str} (hs : splL 10 t = r0 :: rest) (h2 : 2 ≤ rest.length) {p : Plan} (hp : pairR r0 = some (p.rows, p.guard)) (h0 : 0 ≤ p.rows) (h1 : 0 ≤ p.guard) (hL : startsR (rest.take (rest.length - 2)) = some p.starts) : readQ t = match decide (textP p = t) with | true => some p | false => none := by
  have hxy : (decide (0 ≤ p.rows) && decide (0 ≤ p.guard)) = true := by simp [h0, h1]
  unfold readQ
  rw [hs]
  simp only [decide_eq_true h2, hp, hxy, hL]
  cases decide (textP p = t) <;> rfl
set_option maxHeartbeats 16000000 in
theorem ref01_Read_meets (t : Str) (ht : t.length ≤ 300) : Meets (Tz g) f_ref01_Read [.str t] ⟨.tup [.d (refV t).1.d, .d (.bool (refV t).2)], []⟩ := by
  have hmem := splL_mem 10 t
  have hln := splL_le 10 t
  have hSp := ref01_Split_meets (g := g) t 10 (by omega)
  cases hs : splL 10 t with
  | nil => exact absurd hs (splL_ne 10 t)
  | cons r0 rest =>
    rw [hs] at hmem hln hSp
    have hll : rest.length ≤ 300 := by simp at hln; omega
    have e1 := wrap_id (n := (rest.length : Int) + 1 - 2) (by omega) (by omega)
    have hbad : readQ t = none → refV t = (zeroP, false) := fun h => by unfold refV; rw [h]
    have h10 : (10 : UInt8).toNat = 10 := rfl
    rw [h10] at hSp
    refine meets_ref01_Read ?_
    unfold vc_ref01_Read
    simp
    refine CALL.val [.str t, .num .u8 10] _ rfl hSp (.inl rfl) ?_
    simp only [vc_ref01_Read_k6]
    refine LOOP.mkB RdS (fun x => [.d (.str t), .ptr 24 0 0 0, .ptr 40 0 0 0, .d (strsD (r0 :: rest)), .d (int x.k)]) (fun x => rdH x.p) (RdOK r0 rest) (fun x => rest.length - x.k) [] [(40, 0, T_api_Span)] (by simp) ⟨0, zeroP⟩ ⟨Nat.zero_le _, .inl ⟨rfl, rfl⟩⟩ (by simp [WEAK, lookH, rdH, promoteB, promote, zeroP]) (fun _ _ => rfl) ?_
    rintro ⟨k, P⟩ ⟨hk, hP⟩
    have hk : k ≤ rest.length - 1 := hk
    have hP : (k = 0 ∧ P = zeroP) ∨ (1 ≤ k ∧ pairR r0 = some (P.rows, P.guard) ∧ 0 ≤ P.rows ∧ 0 ≤ P.guard ∧ startsR (rest.take (k - 1)) = some P.starts) := hP
    have hwk := wrap_id (n := (k : Int) + 1) (by omega) (by omega)
    simp only [strsD]
    simp [e1]
    refine ⟨fun hlt => ?_, fun hge => ?_⟩
    · obtain ⟨row, hr⟩ : ∃ row, (r0 :: rest)[k]? = some row := ⟨_, List.getElem?_eq_getElem (by simp; omega)⟩
      have hrD : (D.str r0 :: rest.map D.str)[k]? = some (.str row) := by
        have e : (D.str r0 :: rest.map D.str) = (r0 :: rest).map .str := rfl
        rw [e, List.getElem?_map, hr]; rfl
      have hrl : row.length ≤ 300 := by
        have := hmem row (List.mem_of_getElem? hr)
        omega
      have hwl := splL_le 32 row
      have hwm := splL_mem 32 row
      have hSw := ref01_Split_meets (g := g) row 32 (by omega)
      have h32 : (32 : UInt8).toNat = 32 := rfl
      rw [h32] at hSw
      simp only [vc_ref01_Read_k4]
      cases hw : splL 32 row with
      | nil => exact absurd hw (splL_ne 32 row)
      | cons w ws =>
        rw [hw] at hwl hwm hSw
        have hwsl : ws.length ≤ 300 := by simp at hwl; omega
        have hN := ref01_Numbers_meets (g := g) ws 5 (by omega) (by omega) (fun v hv => by have := hwm v (List.mem_cons_of_mem _ hv); omega)
        obtain ⟨hy, hz⟩ := pairR_nums hw
        simp [hrD, rdH]
        refine CALL.val [.str row, .num .u8 32] _ rfl hSw (.inl rfl) ?_
        simp [strsD]
        refine ⟨by omega, ?_⟩
        refine CALL.mk [strsD ws, int 5] _ rfl hN (.inl rfl) (by simp) ?_
        have hrow : pairR row = none → readQ t = none := fun hb => by
          rcases hP with ⟨rfl, rfl⟩ | ⟨hk1, _, _, _, hL⟩
          · have hr : some r0 = some row := hr
            injection hr with hr
            subst hr
            exact readQ_head hs (fun x y h => by rw [hb] at h; cases h)
          · have hr2 : rest[k - 1]? = some row := by
              obtain ⟨j, rfl⟩ : ∃ j, k = j + 1 := ⟨k - 1, by omega⟩
              simpa using hr
            exact readQ_row hs (by omega) hr2 hL hb
        cases hn : numsR 5 ws with
        | none =>
          rw [hbad (hrow (hz (fun x y h => by rw [hn] at h; cases h)))]
          simp [vc_ref01_Read_k2, lookH, zeroP, Plan.d, spans]
        | some l =>
          by_cases hl : l.length = 2
          case neg =>
            have hl2 : ¬ ((l.length : Int) = 2) := by omega
            rw [hbad (hrow (hz (fun x y h => by rw [hn] at h; injection h with h; subst h; exact hl rfl)))]
            simp [vc_ref01_Read_k2, lookH, zeroP, Plan.d, spans, ints, hl2]
          obtain ⟨x, y, rfl⟩ : ∃ x y, l = [x, y] := by
            cases l with
            | nil => cases hl
            | cons x l =>
              cases l with
              | nil => simp at hl
              | cons y l =>
                cases l with
                | nil => exact ⟨x, y, rfl⟩
                | cons z l => simp at hl
          have hpr := hy x y hn
          rcases hP with ⟨rfl, rfl⟩ | ⟨hk1, hp0, hx0, hy0, hL⟩
          · have hr : some r0 = some row := hr
            injection hr with hr
            subst hr
            by_cases hx0 : x < 0
            · rw [hbad (readQ_head hs (fun x' y' h => by rw [hpr] at h; injection h with h; injection h with h1 h2; subst h1; omega))]
              simp [vc_ref01_Read_k2, lookH, zeroP, Plan.d, spans, ints, hx0]
            · by_cases hy0 : y < 0
              · rw [hbad (readQ_head hs (fun x' y' h => by rw [hpr] at h; injection h with h; injection h with h1 h2; subst h2; omega))]
                simp [vc_ref01_Read_k2, lookH, zeroP, Plan.d, spans, ints, hx0, hy0]
              · simp [vc_ref01_Read_k2, vc_ref01_Read_k0, lookH, zeroP, ints, hx0, hy0]
                refine ⟨by rfl, ⟨1, ⟨[], x, y⟩⟩, ⟨by show 1 ≤ rest.length - 1; omega, .inr ⟨Nat.le_refl _, hpr, by show 0 ≤ x; omega, by show 0 ≤ y; omega, rfl⟩⟩, ?_, by show rest.length - 1 < rest.length; omega⟩
                simp [WEAK, lookH, wrap_id]
          · have hk0 : ¬ k = 0 := by omega
            have hr2 : rest[k - 1]? = some row := by
              obtain ⟨j, rfl⟩ : ∃ j, k = j + 1 := ⟨k - 1, by omega⟩
              simpa using hr
            have hgo : startsR (rest.take (k + 1 - 1)) = some (P.starts ++ [⟨x, y⟩]) := by
              have := startsR_snoc hL hr2
              rw [hpr] at this
              have e : k - 1 + 1 = k + 1 - 1 := by omega
              rw [e] at this
              exact this
            have hPl : P.starts.length ≤ 300 := by
              have := (startsR_at _ _ hL).1
              rw [this]
              simp
              omega
            simp [vc_ref01_Read_k2, vc_ref01_Read_k1, lookH, ints, hk0, hwk]
            refine ⟨by omega, by rfl, ⟨k + 1, ⟨P.starts ++ [⟨x, y⟩], P.rows, P.guard⟩⟩, ⟨by show k + 1 ≤ rest.length - 1; omega, .inr ⟨by show 1 ≤ k + 1; omega, hp0, hx0, hy0, hgo⟩⟩, ?_, by show rest.length - (k + 1) < rest.length - k; omega⟩
            simp [WEAK, lookH, Sp.d]
    · simp only [vc_ref01_Read_k5]
      by_cases h2 : rest.length < 2
      · have h3 : (rest.length : Int) + 1 < 3 := by omega
        rw [hbad (readQ_short hs h2)]
        simp [rdH, lookH, zeroP, Plan.d, spans]
        intro h4
        omega
      · have h3 : ¬ ((rest.length : Int) + 1 < 3) := by omega
        obtain ⟨hk1, hp0, hx0, hy0, hL⟩ := hP.resolve_left (fun e => by omega)
        have hkm : k - 1 = rest.length - 2 := by omega
        rw [hkm] at hL
        have hTx : TxOK P := by
          obtain ⟨_, a, b, _, ha, hb⟩ := pairR_some hp0
          exact TxOK_rows (big5 ha) (big5 hb) (by omega) hL
        have hE := readQ_end hs (by omega) hp0 hx0 hy0 hL
        simp [rdH, lookH, h3]
        intro _
        refine CALL.val [P.d] _ (by simp [argsD, argD, toD, lookH, Plan.d, spans]) (ref01_Print_meets P hTx) (.inr rfl) ?_
        by_cases hT : textP P = t
        · rw [decide_eq_true hT] at hE
          have hV : refV t = (P, true) := by unfold refV; rw [hE]
          rw [hV]
          simp [vc_ref01_Read_k3, lookH, hT, Plan.d, spans]
        · rw [decide_eq_false hT] at hE
          rw [hbad hE]
          simp [vc_ref01_Read_k3, lookH, hT, zeroP, Plan.d, spans]
end Go.Vc
