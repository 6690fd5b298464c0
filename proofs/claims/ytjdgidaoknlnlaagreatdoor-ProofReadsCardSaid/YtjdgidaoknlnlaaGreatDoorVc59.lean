/- A part of the proof: general laws of a reading of the model by abstract data, or contracts of the functions that the law calls. -/
import Derived.Test.YtjdgidaoknlnlaaGreatDoorVc58
import Derived.Test.YtjdgidaoknlnlaaGreatDoorVc56
set_option maxRecDepth 100000
namespace Go.Vc
open Go Go.Proofs
variable {g : GG}
def posB (n : Int) : Bool := decide (0 ≤ n)
theorem numsR_small : ∀ (ws : List Str) (l : List Int), numsR 3 ws = some l → ∀ n, n ∈ l → smI n
  | [], l, h => by
    have h : some [] = some l := h
    injection h with h
    subst h
    intro n hn
    simp at hn
  | w :: r, l, h => by
    simp only [numsR] at h
    cases hn : numR 3 w with
    | none => rw [hn] at h; cases h
    | some m =>
      rw [hn] at h
      cases hl : numsR 3 r with
      | none => rw [hl] at h; cases h
      | some l2 =>
        rw [hl] at h
        have h : some (m :: l2) = some l := h
        injection h with h
        subst h
        intro n hm
        rcases List.mem_cons.1 hm with rfl | hm
        · obtain ⟨_, h1, h2⟩ := numR_some (by omega) hn
          exact ⟨by simpa using h1, by simpa using h2⟩
        · exact numsR_small r l2 hl n hm
def gvsV (sg k : Nat) (l : Option (List Int)) : Option (List Int) := match l with
  | some l => match (l.take (sg - k)).all posB with
    | true => some l
    | false => none
  | none => none
theorem gvs_nums : ∀ (ws : List Str) (sg k : Nat), gvs sg k ws = gvsV sg k (numsR 3 ws)
  | [], sg, k => by simp [gvs, gvsV, numsR]
  | w :: r, sg, k => by
    have ih := gvs_nums r sg (k + 1)
    simp only [gvs, numsR, givI3, givB]
    cases hn : numR 3 w with
    | none => simp [gvsV]
    | some m =>
      simp only
      rw [ih]
      cases hl : numsR 3 r with
      | none => cases (decide (sg ≤ k) || decide (0 ≤ m)) <;> simp [gvsV]
      | some l2 =>
        by_cases hk : sg ≤ k
        · have e1 : sg - k = 0 := by omega
          have e2 : sg - (k + 1) = 0 := by omega
          simp [gvsV, e1, e2, hk]
        · have e1 : sg - k = sg - (k + 1) + 1 := by omega
          simp only [gvsV, e1, List.take_succ_cons, List.all_cons, decide_eq_false hk, Bool.false_or]
          cases hm : decide (0 ≤ m) with
          | true =>
            have : posB m = true := hm
            rw [this, Bool.true_and]
            cases (l2.take (sg - (k + 1))).all posB <;> rfl
          | false =>
            have : posB m = false := hm
            rw [this, Bool.false_and]
theorem parR_nums {row w : Str} {ws : List Str} {i : Nat} {l : List Int} (hs : splL 32 row = w :: ws) (hi : wIx w = some i) (hn : numsR 3 ws = some l) : (l.length = (manyN i).1 → (l.take (manyN i).2).all posB = true → parR row = some (i, l)) ∧ (l.length ≠ (manyN i).1 ∨ (l.take (manyN i).2).all posB = false → parR row = none) := by
  have hlen := numsR_len hn
  have hg := gvs_nums ws (manyN i).2 0
  rw [hn] at hg
  unfold gvsV at hg
  rw [Nat.sub_zero] at hg
  simp only at hg
  unfold parR
  rw [hs]
  refine ⟨fun h1 h2 => ?_, fun h => ?_⟩
  · rw [h2] at hg
    simp only [hi, decide_eq_true (hlen.symm.trans h1), hg]
  · by_cases h1 : l.length = (manyN i).1
    · have h2 := h.resolve_left (fun e => e h1)
      rw [h2] at hg
      simp only [hi, decide_eq_true (hlen.symm.trans h1), hg]
    · simp only [hi, decide_eq_false (fun e => h1 (hlen.trans e))]
theorem parR_no {row w : Str} {ws : List Str} (hs : splL 32 row = w :: ws) (hn : numsR 3 ws = none ∨ wIx w = none) : parR row = none := by
  unfold parR
  rw [hs]
  rcases hn with hn | hn
  · cases hi : wIx w with
    | none => simp only [hi]
    | some i =>
      have hg := gvs_nums ws (manyN i).2 0
      rw [hn] at hg
      have hg : gvs (manyN i).2 0 ws = none := hg
      cases hd : decide (ws.length = (manyN i).1) <;> simp only [hi, hd, hg]
  · simp only [hn]
theorem addR_no {p : Pg} {row : Str} (h : parR row = none) : addR p row = none := by
  unfold addR; rw [h]
theorem head_num {row w : Str} {ws : List Str} {l : List Int} (hs : splL 32 row = w :: ws) (hp : parR row = some (0, l)) : ∃ n, l = [n] ∧ numsR 3 ws = some [n] ∧ 0 ≤ n := by
  cases hi : wIx w with
  | none => rw [parR_no hs (.inr hi)] at hp; cases hp
  | some i =>
    cases hn : numsR 3 ws with
    | none => rw [parR_no hs (.inl hn)] at hp; cases hp
    | some m =>
      obtain ⟨h1, h2⟩ := parR_nums hs hi hn
      by_cases c1 : m.length = (manyN i).1
      · cases c2 : (m.take (manyN i).2).all posB with
        | false => rw [h2 (.inr c2)] at hp; cases hp
        | true =>
          rw [h1 c1 c2] at hp
          injection hp with hp
          injection hp with h3 h4
          subst h3 h4
          have c1 : m.length = 1 := c1
          have c2 : (m.take 1).all posB = true := c2
          cases m with
          | nil => simp at c1
          | cons n r =>
            cases r with
            | cons x y => simp at c1
            | nil =>
              simp [posB] at c2
              exact ⟨n, rfl, rfl, c2⟩
      · rw [h2 (.inl c1)] at hp; cases hp
theorem TxOK_of2 {n : Int} (hn : bigI n = true) {t r0 : Str} {rest : List Str} (hs : splL 10 t = r0 :: rest) (ht : t.length ≤ 390) {k : Nat} {q : Pg} (h : addRs ⟨n, [], []⟩ (rest.take k) = some q) : TxOK q ∧ q.people = n ∧ q.lines.length ≤ 200 ∧ q.log.length ≤ 200 := by
  obtain ⟨h1, h2, h3, h4⟩ := addRs_pre _ (p := ⟨n, [], []⟩) ⟨hn, fun _ h => by simp at h, fun _ h => by simp at h⟩ h
  have hsum := splL_sum 10 t
  rw [hs] at hsum
  have hle := sum_take_le lenS rest k
  simp only [List.map_cons, List.sum_cons] at hsum
  simp only [List.length_nil] at h3
  have g1 : q.lines.length ≤ 200 := by omega
  have g2 : q.log.length ≤ 200 := by omega
  exact ⟨⟨h1.people, g1, g2, h1.lines, h1.log⟩, h2, g1, g2⟩
structure HeadOK (r0 : Str) (n : Int) : Prop where
  num : ∃ w ws, splL 32 r0 = w :: ws ∧ numsR 3 ws = some [n]
  pos : 0 ≤ n
theorem HeadOK.small {r0 : Str} {n : Int} (h : HeadOK r0 n) : smI n := by
  obtain ⟨_, ws, _, hn⟩ := h.num
  exact numsR_small ws _ hn n List.mem_cons_self
theorem readQ_short {t r0 : Str} {rest : List Str} (hs : splL 10 t = r0 :: rest) (h : rest.length < 2) : readQ t = none := by
  unfold readQ
  rw [hs]
  simp only [decide_eq_false (show ¬ 2 ≤ rest.length by omega)]
theorem readQ_head {t r0 : Str} {rest : List Str} (hs : splL 10 t = r0 :: rest) (h : ∀ n, ¬ HeadOK r0 n) : readQ t = none := by
  unfold readQ
  rw [hs]
  cases hd : decide (2 ≤ rest.length) with
  | false => simp only [hd]
  | true =>
    simp only [hd]
    cases hw : splL 32 r0 with
    | nil => exact absurd hw (splL_ne 32 r0)
    | cons w ws =>
      split
      · rename_i n l0 hp
        obtain ⟨m, h1, h2, h3⟩ := head_num hw hp
        exact absurd ⟨⟨w, ws, hw, h2⟩, h3⟩ (h m)
      · rfl
theorem readQ_at {t r0 : Str} {rest : List Str} (hs : splL 10 t = r0 :: rest) {n : Int} (hH : HeadOK r0 n) (hr : ∀ q, addRs ⟨n, [], []⟩ (rest.take (rest.length - 2)) = some q → textP q ≠ t) : readQ t = none := by
  unfold readQ
  rw [hs]
  cases hd : decide (2 ≤ rest.length) with
  | false => simp only [hd]
  | true =>
    simp only [hd]
    obtain ⟨⟨w, ws, hw, hnm⟩, hpos⟩ := hH
    split
    · rename_i m l0 hp
      obtain ⟨m', h1, h2, h3⟩ := head_num hw hp
      rw [hnm] at h2
      injection h2 with h2
      injection h2 with h2
      injection h1 with h1
      subst h2 h1
      cases hq : addRs ⟨m, [], []⟩ (rest.take (rest.length - 2)) with
      | none => simp only
      | some q => simp only [decide_eq_false (hr q hq)]
    · rfl
theorem addRs_fail : ∀ (rs : List Str) (p a : Pg) (k : Nat) (row : Str), rs[k]? = some row → addRs p (rs.take k) = some a → addR a row = none → addRs p rs = none
  | [], p, a, k, row, h, _, _ => by simp at h
  | r :: rs, p, a, 0, row, h, h2, h3 => by
    have h : some r = some row := h
    injection h with h
    subst h
    have h2 : some p = some a := h2
    injection h2 with h2
    subst h2
    simp only [addRs, h3]
  | r :: rs, p, a, k + 1, row, h, h2, h3 => by
    simp only [List.take_succ_cons, addRs] at h2 ⊢
    cases hp : addR p r with
    | none => rfl
    | some q =>
      rw [hp] at h2
      exact addRs_fail rs q a k row (by simpa using h) h2 h3
theorem readQ_row {t r0 : Str} {rest : List Str} (hs : splL 10 t = r0 :: rest) {n : Int} (hH : HeadOK r0 n) {k : Nat} {row : Str} {a : Pg} (hk : k < rest.length - 2) (hr : rest[k]? = some row) (ha : addRs ⟨n, [], []⟩ (rest.take k) = some a) (hb : addR a row = none) : readQ t = none :=
  readQ_at hs hH fun q hq => by
    have := addRs_fail (rest.take (rest.length - 2)) ⟨n, [], []⟩ a k row (by rw [List.getElem?_take, if_pos hk]; exact hr) (by rw [List.take_take, Nat.min_eq_left (by omega)]; exact ha) hb
    rw [this] at hq
    cases hq
theorem readQ_some {t r0 : Str} {rest : List Str} (hs : splL 10 t = r0 :: rest) (ht : t.length ≤ 390) (h2 : 2 ≤ rest.length) {n : Int} (hH : HeadOK r0 n) {q : Pg} (hq : addRs ⟨n, [], []⟩ (rest.take (rest.length - 2)) = some q) (hT : textP q = t) : readQ t = some q := by
  have hsm := hH.small
  obtain ⟨hTx, hpe, _⟩ := TxOK_of2 (smI_big hsm) hs ht hq
  have hsp : splL 10 (textP q) = rowsP q ++ [endT (chkRows 0 (rowsP q) % 269), []] := seal_split (by omega) (by omega) (rowsP_no hTx)
  rw [hT, hs] at hsp
  have hr0 : r0 = rowT pageW [n] := by
    have e : rowsP q = rowT pageW [q.people] :: (q.lines.map lineT ++ q.log.map noteT) := rfl
    rw [e, List.cons_append] at hsp
    injection hsp with h1 _
    rw [h1, hpe]
  have hp0 : parR r0 = some (0, [n]) := by
    rw [hr0]
    exact parR_row (by decide) rfl (fun m hm => by
      obtain rfl := List.mem_singleton.1 hm
      exact hsm) (fun j m hj hjl => by
      have hjl : j < 1 := hjl
      obtain rfl : j = 0 := by omega
      injection hj with hj
      have := hH.pos
      omega)
  unfold readQ
  rw [hs]
  simp only [decide_eq_true h2, hp0, hq, decide_eq_true hT]
end Go.Vc

namespace Go.Vc
open Go Go.Proofs
variable {g : GG}
attribute [local simp] and_assoc
structure RdS where
  k : Nat
  p : Pg
def rdH (p : Pg) : Heap := [(24, some ⟨0, T_api_ProofPage, .box [.d (int 0), .zc, .zc]⟩), (40, some ⟨0, T_api_ProofPage, .box [.d (int p.people), .own 80 p.lines.length, .own 81 p.log.length]⟩), (80, some ⟨p.lines.length, T_api_ProofLine, .lst (p.lines.map Ln.d)⟩), (81, some ⟨p.log.length, T_api_ProofEntry, .lst (p.log.map Nt.d)⟩)]
def refV (t : Str) : Pg × Bool := match readQ t with
  | some p => (p, true)
  | none => (zeroP, false)
def RdOK (r0 : Str) (rest : List Str) (x : RdS) : Prop := x.k ≤ rest.length - 1 ∧ ((x.k = 0 ∧ x.p = zeroP) ∨ ∃ n, HeadOK r0 n ∧ 1 ≤ x.k ∧ addRs ⟨n, [], []⟩ (rest.take (x.k - 1)) = some x.p)
theorem plain_meets (l : List Int) (k : Nat) (hk : k ≤ l.length) (hl : l.length ≤ 10000) : Meets (Tz g) f_ref09_plain [ints l, int k] ⟨.d (.bool ((l.take k).all posB)), []⟩ := ref09_plain_meets l k hk hl
theorem addRs_snoc {rs : List Str} {p a : Pg} {k : Nat} {row : Str} (h : addRs p (rs.take k) = some a) (hr : rs[k]? = some row) : addRs p (rs.take (k + 1)) = addR a row := by
  rw [take_next hr, addRs_app, h]
  simp only [addRs]
  cases addR a row <;> rfl
set_option maxHeartbeats 16000000 in
theorem ref09_Read_meets (t : Str) (ht : t.length ≤ 390) : Meets (Tz g) f_ref09_Read [.str t] ⟨.tup [.d (refV t).1.d, .d (.bool (refV t).2)], []⟩ := by
  have hmem := splL_mem 10 t
  have hln := splL_le 10 t
  have hSp := ref01_Split_meets (g := g) t 10 (by omega)
  cases hs : splL 10 t with
  | nil => exact absurd hs (splL_ne 10 t)
  | cons r0 rest =>
    rw [hs] at hmem hln hSp
    have hll : rest.length ≤ 390 := by simp at hln; omega
    have e1 := wrap_id (n := (rest.length : Int) + 1 - 2) (by omega) (by omega)
    have hbad : readQ t = none → refV t = (zeroP, false) := fun h => by unfold refV; rw [h]
    have h10 : (10 : UInt8).toNat = 10 := rfl
    rw [h10] at hSp
    refine meets_ref09_Read ?_
    unfold vc_ref09_Read
    simp
    refine CALL.val [.str t, .num .u8 10] _ rfl hSp (.inl rfl) ?_
    simp only [vc_ref09_Read_k75]
    refine LOOP.mkB RdS (fun x => [.d (.str t), .ptr 24 0 0 0, .ptr 40 0 0 0, .d (strsD (r0 :: rest)), .d (int x.k)]) (fun x => rdH x.p) (RdOK r0 rest) (fun x => rest.length - x.k) [] [(40, 1, T_api_ProofLine), (40, 2, T_api_ProofEntry)] (by simp) ⟨0, zeroP⟩ ⟨Nat.zero_le _, .inl ⟨rfl, rfl⟩⟩ (by simp [WEAK, lookH, rdH, promoteB, promote, zeroP]) (fun _ _ => rfl) ?_
    rintro ⟨k, P⟩ ⟨hk, hP⟩
    have hk : k ≤ rest.length - 1 := hk
    have hP : (k = 0 ∧ P = zeroP) ∨ ∃ n, HeadOK r0 n ∧ 1 ≤ k ∧ addRs ⟨n, [], []⟩ (rest.take (k - 1)) = some P := hP
    have hwk := wrap_id (n := (k : Int) + 1) (by omega) (by omega)
    simp only [strsD]
    simp [e1]
    refine ⟨fun hlt => ?_, fun hge => ?_⟩
    · obtain ⟨row, hr⟩ : ∃ row, (r0 :: rest)[k]? = some row := ⟨_, List.getElem?_eq_getElem (by simp; omega)⟩
      have hrD : (D.str r0 :: rest.map D.str)[k]? = some (.str row) := by
        have e : (D.str r0 :: rest.map D.str) = (r0 :: rest).map .str := rfl
        rw [e, List.getElem?_map, hr]; rfl
      have hrl : row.length ≤ 390 := by
        have := hmem row (List.mem_of_getElem? hr)
        omega
      have hwl := splL_le 32 row
      have hwm := splL_mem 32 row
      have hSw := ref01_Split_meets (g := g) row 32 (by omega)
      have h32 : (32 : UInt8).toNat = 32 := rfl
      rw [h32] at hSw
      simp only [vc_ref09_Read_k73]
      cases hw : splL 32 row with
      | nil => exact absurd hw (splL_ne 32 row)
      | cons w ws =>
        rw [hw] at hwl hwm hSw
        have hwsl : ws.length ≤ 390 := by simp at hwl; omega
        have hN := ref01_Numbers_meets (g := g) ws 3 (by omega) (by omega) (fun v hv => by have := hwm v (List.mem_cons_of_mem _ hv); omega)
        simp [hrD, rdH]
        refine CALL.val [.str row, .num .u8 32] _ rfl hSw (.inl rfl) ?_
        simp [strsD]
        refine ⟨by omega, ?_⟩
        refine CALL.mk [strsD ws, int 3] _ rfl hN (.inl rfl) (by simp) ?_
        rcases hP with ⟨rfl, rfl⟩ | ⟨n, hH, hk1, hP⟩
        · have hr : some r0 = some row := hr
          injection hr with hr
          subst hr
          have hno : (∀ n, numsR 3 ws = some [n] → n < 0) → readQ t = none := fun hx => readQ_head hs (fun n hH => by
            obtain ⟨⟨w', ws', h1, h2⟩, h3⟩ := hH
            rw [hw] at h1
            injection h1 with h1 h4
            subst h4
            have := hx n h2
            omega)
          cases hn : numsR 3 ws with
          | none =>
            rw [hbad (hno (fun n h => by rw [hn] at h; cases h))]
            simp [vc_ref09_Read_k71, vc_ref09_Read_k69, lookH, zeroP, Pg.d, lns, ents]
          | some l =>
            rw [hn] at hno
            cases l with
            | nil =>
              rw [hbad (hno (fun n h => by cases h))]
              simp [vc_ref09_Read_k71, vc_ref09_Read_k69, lookH, zeroP, Pg.d, lns, ents, ints]
            | cons a l =>
              cases l with
              | cons b l =>
                have hl1 : ¬ ((l.length : Int) + 1 + 1 = 1) := by omega
                rw [hbad (hno (fun n h => by cases h))]
                simp [vc_ref09_Read_k71, vc_ref09_Read_k69, lookH, zeroP, Pg.d, lns, ents, ints, hl1]
              | nil =>
                by_cases ha : a < 0
                · rw [hbad (hno (fun n h => by injection h with h; injection h with h; subst h; exact ha))]
                  simp [vc_ref09_Read_k71, vc_ref09_Read_k69, lookH, zeroP, Pg.d, lns, ents, ints, ha]
                · simp [vc_ref09_Read_k71, vc_ref09_Read_k69, lookH, zeroP, ints, ha]
                  refine ⟨⟨1, ⟨a, [], []⟩⟩, ⟨by show 1 ≤ rest.length - 1; omega, .inr ⟨a, ⟨⟨w, ws, hw, hn⟩, by omega⟩, Nat.le_refl _, rfl⟩⟩, ?_, by show rest.length - 1 < rest.length; omega⟩
                  simp [WEAK, lookH, wrap_id]
        · have hk0 : ¬ k = 0 := by omega
          have hr2 : rest[k - 1]? = some row := by
            obtain ⟨j, rfl⟩ : ∃ j, k = j + 1 := ⟨k - 1, by omega⟩
            simpa using hr
          have hrow : addR P row = none → refV t = (zeroP, false) := fun hb => hbad (readQ_row hs hH (k := k - 1) (by omega) hr2 hP hb)
          have hsm := hH.small
          obtain ⟨hTx, hpe, hpl1, hpl2⟩ := TxOK_of2 (smI_big hsm) hs ht hP
          have hlen2 : ∀ b, addR P row = some b → b.lines.length ≤ 201 ∧ b.log.length ≤ 201 := fun b hb => by
            rcases addR_cases hb with ⟨x, y, z, _, rfl⟩ | ⟨i, l, _, _, _, rfl⟩
            · exact ⟨by simp; omega, by show P.log.length ≤ 201; omega⟩
            · exact ⟨by show P.lines.length ≤ 201; omega, by simp; omega⟩
          have hgo : ∀ b, addR P row = some b → RdOK r0 rest ⟨k + 1, b⟩ := fun b hb => by
            refine ⟨by show k + 1 ≤ rest.length - 1; omega, .inr ⟨n, hH, by show 1 ≤ k + 1; omega, ?_⟩⟩
            have := addRs_snoc hP hr2
            rw [hb] at this
            have e : k - 1 + 1 = k + 1 - 1 := by omega
            rw [e] at this
            exact this
          cases hn : numsR 3 ws with
          | none =>
            rw [hrow (addR_no (parR_no hw (.inl hn)))]
            simp [vc_ref09_Read_k71, lookH, zeroP, Pg.d, lns, ents]
          | some l =>
            have hll2 : l.length ≤ 390 := by rw [numsR_len hn]; exact hwsl
            simp [hk0, vc_ref09_Read_k71, vc_ref09_Read_k70]
            by_cases w1 : w = [108, 105, 110, 101]
            · obtain ⟨hy, hz⟩ := parR_nums (i := 1) hw (by rw [w1]; decide) hn
              have hy : l.length = 3 → (l.take 1).all posB = true → parR row = some (1, l) := hy
              have hz : l.length ≠ 3 ∨ (l.take 1).all posB = false → parR row = none := hz
              simp [w1, vc_ref09_Read_k67, ints]
              refine ⟨fun h3 => ?_, fun h3 => ?_⟩
              · have h3 : l.length = 3 := by omega
                refine CALL.val [ints l, int 1] _ rfl (plain_meets l 1 (by omega) (by omega)) (.inl rfl) ?_
                cases hp : (l.take 1).all posB with
                | true =>
                  have hpr := hy h3 hp
                  obtain ⟨x, y, z, rfl⟩ : ∃ x y z, l = [x, y, z] := by
                    cases l with
                    | nil => simp at h3
                    | cons x l =>
                      cases l with
                      | nil => simp at h3
                      | cons y l =>
                        cases l with
                        | nil => simp at h3
                        | cons z l =>
                          cases l with
                          | nil => exact ⟨x, y, z, rfl⟩
                          | cons _ _ => simp at h3
                  have hb : addR P row = some ⟨P.people, P.lines ++ [⟨x, y, z⟩], P.log⟩ := by unfold addR; rw [hpr]; rfl
                  obtain ⟨b1, b2⟩ := hlen2 _ hb
                  simp at b1 b2
                  simp [vc_ref09_Read_k23, lookH, hwk]
                  refine ⟨by omega, by rfl, ⟨k + 1, _⟩, hgo _ hb, ?_, by show rest.length - (k + 1) < rest.length - k; omega⟩
                  simp [WEAK, lookH, Ln.d]
                | false =>
                  rw [hrow (addR_no (hz (.inr hp)))]
                  simp [vc_ref09_Read_k24, vc_ref09_Read_k22, vc_ref09_Read_k20, lookH, zeroP, Pg.d, lns, ents]
              · have h3 : ¬ l.length = 3 := by omega
                rw [hrow (addR_no (hz (.inl h3)))]
                simp [vc_ref09_Read_k45, vc_ref09_Read_k43, lookH, zeroP, Pg.d, lns, ents]
            · by_cases w2 : w = [114, 101, 97, 100]
              · obtain ⟨hy, hz⟩ := parR_nums (i := 2) hw (by rw [w2]; decide) hn
                have hy : l.length = 4 → (l.take 4).all posB = true → parR row = some (2, l) := hy
                have hz : l.length ≠ 4 ∨ (l.take 4).all posB = false → parR row = none := hz
                simp [w2, vc_ref09_Read_k68, vc_ref09_Read_k65, ints]
                refine ⟨fun h3 => ?_, fun h3 => ?_⟩
                · have h3 : l.length = 4 := by omega
                  refine CALL.val [ints l, int 4] _ rfl (plain_meets l 4 (by omega) (by omega)) (.inl rfl) ?_
                  cases hp : (l.take 4).all posB with
                  | true =>
                    have hpr := hy h3 hp
                    have hb : addR P row = some ⟨P.people, P.lines, P.log ++ [⟨1, l⟩]⟩ := by unfold addR; rw [hpr]; rfl
                    obtain ⟨b1, b2⟩ := hlen2 _ hb
                    simp at b1 b2
                    simp [vc_ref09_Read_k7, lookH, hwk]
                    refine ⟨by omega, ⟨k + 1, _⟩, hgo _ hb, ?_, by show rest.length - (k + 1) < rest.length - k; omega⟩
                    simp [WEAK, lookH, Nt.d, ints]
                  | false =>
                    rw [hrow (addR_no (hz (.inr hp)))]
                    simp [vc_ref09_Read_k52, vc_ref09_Read_k51, lookH, zeroP, Pg.d, lns, ents]
                · have h3 : ¬ l.length = 4 := by omega
                  rw [hrow (addR_no (hz (.inl h3)))]
                  simp [vc_ref09_Read_k58, lookH, zeroP, Pg.d, lns, ents]
              · by_cases w3 : w = [109, 101, 110, 100]
                · obtain ⟨hy, hz⟩ := parR_nums (i := 3) hw (by rw [w3]; decide) hn
                  have hy : l.length = 3 → (l.take 2).all posB = true → parR row = some (3, l) := hy
                  have hz : l.length ≠ 3 ∨ (l.take 2).all posB = false → parR row = none := hz
                  simp [w3, vc_ref09_Read_k68, vc_ref09_Read_k66, vc_ref09_Read_k63, ints]
                  refine ⟨fun h3 => ?_, fun h3 => ?_⟩
                  · have h3 : l.length = 3 := by omega
                    refine CALL.val [ints l, int 2] _ rfl (plain_meets l 2 (by omega) (by omega)) (.inl rfl) ?_
                    cases hp : (l.take 2).all posB with
                    | true =>
                      have hpr := hy h3 hp
                      have hb : addR P row = some ⟨P.people, P.lines, P.log ++ [⟨2, l⟩]⟩ := by unfold addR; rw [hpr]; rfl
                      obtain ⟨b1, b2⟩ := hlen2 _ hb
                      simp at b1 b2
                      simp [vc_ref09_Read_k1, lookH, hwk]
                      refine ⟨by omega, ⟨k + 1, _⟩, hgo _ hb, ?_, by show rest.length - (k + 1) < rest.length - k; omega⟩
                      simp [WEAK, lookH, Nt.d, ints]
                    | false =>
                      rw [hrow (addR_no (hz (.inr hp)))]
                      simp [vc_ref09_Read_k60, lookH, zeroP, Pg.d, lns, ents]
                  · have h3 : ¬ l.length = 3 := by omega
                    rw [hrow (addR_no (hz (.inl h3)))]
                    simp [zeroP, Pg.d, lns, ents]
                · by_cases w4 : w = [102, 97, 108, 108]
                  · obtain ⟨hy, hz⟩ := parR_nums (i := 4) hw (by rw [w4]; decide) hn
                    have hy : l.length = 1 → (l.take 1).all posB = true → parR row = some (4, l) := hy
                    have hz : l.length ≠ 1 ∨ (l.take 1).all posB = false → parR row = none := hz
                    simp [w4, vc_ref09_Read_k68, vc_ref09_Read_k66, vc_ref09_Read_k64, ints]
                    refine ⟨fun h3 => ?_, fun h3 => ?_⟩
                    · have h3 : l.length = 1 := by omega
                      refine CALL.val [ints l, int 1] _ rfl (plain_meets l 1 (by omega) (by omega)) (.inl rfl) ?_
                      cases hp : (l.take 1).all posB with
                      | true =>
                        have hpr := hy h3 hp
                        have hb : addR P row = some ⟨P.people, P.lines, P.log ++ [⟨3, l⟩]⟩ := by unfold addR; rw [hpr]; rfl
                        obtain ⟨b1, b2⟩ := hlen2 _ hb
                        simp at b1 b2
                        simp [vc_ref09_Read_k62, lookH, hwk]
                        refine ⟨by omega, ⟨k + 1, _⟩, hgo _ hb, ?_, by show rest.length - (k + 1) < rest.length - k; omega⟩
                        simp [WEAK, lookH, Nt.d, ints]
                      | false =>
                        rw [hrow (addR_no (hz (.inr hp)))]
                        simp [vc_ref09_Read_k62, lookH, zeroP, Pg.d, lns, ents]
                    · have h3 : ¬ l.length = 1 := by omega
                      rw [hrow (addR_no (hz (.inl h3)))]
                      simp [zeroP, Pg.d, lns, ents]
                  · have hbd : addR P row = none := by
                      cases hi : wIx w with
                      | none => exact addR_no (parR_no hw (.inr hi))
                      | some i =>
                        obtain ⟨i4, hx, _⟩ := wIx_some hi
                        rcases (by omega : i = 0 ∨ i = 1 ∨ i = 2 ∨ i = 3 ∨ i = 4) with rfl | rfl | rfl | rfl | rfl
                        · cases hpr : parR row with
                          | none => exact addR_no hpr
                          | some il =>
                            obtain ⟨i', l'⟩ := il
                            obtain ⟨hy, hz⟩ := parR_nums hw hi hn
                            have : i' = 0 := by
                              by_cases c1 : l.length = (manyN 0).1
                              · cases c2 : (l.take (manyN 0).2).all posB with
                                | true => rw [hy c1 c2] at hpr; injection hpr with hpr; injection hpr with h1 h2; exact h1.symm
                                | false => rw [hz (.inr c2)] at hpr; cases hpr
                              · rw [hz (.inl c1)] at hpr; cases hpr
                            subst this
                            unfold addR
                            rw [hpr]
                            rfl
                        · injection hx with hx; exact absurd hx.symm w1
                        · injection hx with hx; exact absurd hx.symm w2
                        · injection hx with hx; exact absurd hx.symm w3
                        · injection hx with hx; exact absurd hx.symm w4
                    rw [hrow hbd]
                    simp [w1, w2, w3, w4, vc_ref09_Read_k68, vc_ref09_Read_k66, vc_ref09_Read_k64, lookH, zeroP, Pg.d, lns, ents]
    · simp only [vc_ref09_Read_k74]
      by_cases h2 : rest.length < 2
      · have h3 : (rest.length : Int) + 1 < 3 := by omega
        rw [hbad (readQ_short hs h2)]
        simp [rdH, lookH, zeroP, Pg.d, lns, ents]
        intro h4
        omega
      · have h3 : ¬ ((rest.length : Int) + 1 < 3) := by omega
        obtain ⟨n, hH, hk1, hP⟩ := hP.resolve_left (fun e => by omega)
        have hkm : k - 1 = rest.length - 2 := by omega
        rw [hkm] at hP
        obtain ⟨hTx, hpe, _⟩ := TxOK_of2 (smI_big hH.small) hs ht hP
        simp [rdH, lookH, h3]
        intro _
        refine CALL.val [P.d] _ (by simp [argsD, argD, toD, lookH, Pg.d, lns, ents]) (ref09_Print_meets P hTx) (.inr rfl) ?_
        by_cases hT : textP P = t
        · have hq := readQ_some hs ht (by omega) hH hP hT
          have hV : refV t = (P, true) := by unfold refV; rw [hq]
          rw [hV]
          simp [vc_ref09_Read_k72, lookH, hT, Pg.d, lns, ents]
        · have hq := readQ_at hs hH (fun q hq => by rw [hP] at hq; injection hq with hq; subst hq; exact hT)
          rw [hbad hq]
          simp [vc_ref09_Read_k72, lookH, hT, zeroP, Pg.d, lns, ents]
end Go.Vc
