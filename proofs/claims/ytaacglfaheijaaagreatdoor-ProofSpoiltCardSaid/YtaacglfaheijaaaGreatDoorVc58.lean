/- A part of the proof: general laws of a reading of the model by abstract data, or contracts of the functions that the law calls. -/
import Derived.Test.YtaacglfaheijaaaGreatDoorVc57
import Derived.Test.YtaacglfaheijaaaGreatDoorVc41
import Derived.Test.YtaacglfaheijaaaGreatDoorVc33
set_option maxRecDepth 100000
namespace Go.Vc
open Go Go.Proofs
variable {g : GG}
attribute [local simp] and_assoc
def addR (p : Pg) (r : Str) : Option Pg := match parR r with
  | some (0, _) => none
  | some (1, l) => match l with
    | [a, b, c] => some ⟨p.people, p.lines ++ [⟨a, b, c⟩], p.log⟩
    | _ => none
  | some (i, l) => some ⟨p.people, p.lines, p.log ++ [⟨(i : Int) - 1, l⟩]⟩
  | none => none
def addRs : Pg → List Str → Option Pg
  | p, [] => some p
  | p, r :: rs => match addR p r with | some q => addRs q rs | none => none
def readQ (t : Str) : Option Pg := match splL 10 t with
  | r0 :: rest => match decide (2 ≤ rest.length) with
    | true => match parR r0 with
      | some (0, n :: _) => match addRs ⟨n, [], []⟩ (rest.take (rest.length - 2)) with
        | some p => match decide (textP p = t) with | true => some p | false => none
        | none => none
      | _ => none
    | false => none
  | [] => none
theorem addRs_take : ∀ (rs : List Str) (p q : Pg), addRs p rs = some q → ∀ k, k < rs.length → ∃ r a b, rs[k]? = some r ∧ addRs p (rs.take k) = some a ∧ addR a r = some b ∧ addRs p (rs.take (k + 1)) = some b
  | [], _, _, _, k, hk => by simp at hk
  | r :: rs, p, q, h, k, hk => by
    simp only [addRs] at h
    cases ha : addR p r with
    | none => rw [ha] at h; cases h
    | some b =>
      rw [ha] at h
      cases k with
      | zero => exact ⟨r, p, b, rfl, rfl, ha, by simp [addRs, ha]⟩
      | succ k =>
        obtain ⟨r', a', b', h1, h2, h3, h4⟩ := addRs_take rs b q h k (by simpa using hk)
        refine ⟨r', a', b', h1, ?_, h3, ?_⟩
        · simp only [List.take_succ_cons, addRs, ha, h2]
        · simp only [List.take_succ_cons, addRs, ha, h4]
theorem addR_small {p q : Pg} {r : Str} (h : addR p r = some q) : q.people = p.people ∧ q.lines.length + q.log.length = p.lines.length + p.log.length + 1 := by
  unfold addR at h
  split at h
  · cases h
  · split at h
    · injection h with h; subst h; exact ⟨rfl, by simp; omega⟩
    · cases h
  · injection h with h; subst h; exact ⟨rfl, by simp; omega⟩
  · cases h
def lenS (x : Str) : Nat := x.length + 1
theorem splL_sum (c : UInt8) : ∀ s : Str, ((splL c s).map lenS).sum = s.length + 1
  | [] => rfl
  | b :: r => by
    have ih := splL_sum c r
    simp only [splL]
    split
    · simp only [List.map_cons, List.sum_cons, ih, lenS]; simp; omega
    · split
      · rename_i h; exact absurd h (splL_ne c r)
      · rename_i x xs h
        rw [h] at ih
        simp only [List.map_cons, List.sum_cons, lenS] at ih ⊢
        simp only [List.length_cons]
        omega
theorem gvs_big : ∀ (ws : List Str) (sg k : Nat) (l : List Int), gvs sg k ws = some l → l.all bigI = true
  | [], _, _, l, h => by
    have h : some [] = some l := h
    injection h with h
    subst h
    rfl
  | w :: r, sg, k, l, h => by
    simp only [gvs] at h
    cases hn : givI3 (decide (sg ≤ k)) w with
    | none => rw [hn] at h; cases h
    | some n =>
      rw [hn] at h
      cases hl : gvs sg (k + 1) r with
      | none => rw [hl] at h; cases h
      | some l2 =>
        rw [hl] at h
        have h : some (n :: l2) = some l := h
        injection h with h
        subst h
        obtain ⟨_, h1, h2⟩ := numR_some (by omega) (givI3_some hn).2
        rw [List.all_cons, gvs_big r sg (k + 1) l2 hl, Bool.and_true]
        simp only [bigI, Bool.and_eq_true, decide_eq_true_eq]
        omega
theorem parR_ok {r : Str} {i : Nat} {l : List Int} (h : parR r = some (i, l)) : i ≤ 4 ∧ l.length = (manyN i).1 ∧ l.all bigI = true ∧ r ≠ [] := by
  have hne : r ≠ [] := by
    rintro rfl
    have : parR [] = none := by decide
    rw [this] at h
    cases h
  unfold parR at h
  split at h
  · cases h
  · rename_i w ws hs
    split at h
    · rename_i j hw
      split at h
      · rename_i hlen
        have hlen := of_decide_eq_true hlen
        split at h
        · rename_i l2 hl
          injection h with h
          injection h with h1 h2
          subst h1 h2
          exact ⟨(wIx_some hw).1, by rw [← hlen, gvs_take.gvs_len _ _ _ _ hl], gvs_big _ _ _ _ hl, hne⟩
        · cases h
      · cases h
    · cases h
structure PreOK (p : Pg) : Prop where
  people : bigI p.people = true
  lines : ∀ l, l ∈ p.lines → [l.setter, l.right, l.set].all bigI = true
  log : ∀ e, e ∈ p.log → (1 ≤ e.kind ∧ e.kind ≤ 3) ∧ e.nums.length ≤ 6 ∧ e.nums.all bigI = true
theorem addR_cases {p q : Pg} {r : Str} (h : addR p r = some q) : (∃ a b c, parR r = some (1, [a, b, c]) ∧ q = ⟨p.people, p.lines ++ [⟨a, b, c⟩], p.log⟩) ∨ (∃ i l, 2 ≤ i ∧ i ≤ 4 ∧ parR r = some (i, l) ∧ q = ⟨p.people, p.lines, p.log ++ [⟨(i : Int) - 1, l⟩]⟩) := by
  unfold addR at h
  split at h
  · cases h
  · rename_i hp
    split at h
    · injection h with h; exact .inl ⟨_, _, _, hp, h.symm⟩
    · cases h
  · rename_i i l h0 h1 hp
    injection h with h
    have := (parR_ok hp).1
    refine .inr ⟨i, l, ?_, this, hp, h.symm⟩
    rcases (by omega : i = 0 ∨ i = 1 ∨ 2 ≤ i) with rfl | rfl | h2
    · exact (h0 rfl).elim
    · exact (h1 rfl).elim
    · exact h2
  · cases h
theorem addR_pre {p q : Pg} {r : Str} (hp : PreOK p) (h : addR p r = some q) : PreOK q ∧ r ≠ [] := by
  rcases addR_cases h with ⟨a, b, c, hr, rfl⟩ | ⟨i, l, h2, h4, hr, rfl⟩
  · obtain ⟨_, _, k3, k4⟩ := parR_ok hr
    refine ⟨⟨hp.people, fun x hx => ?_, hp.log⟩, k4⟩
    rcases List.mem_append.1 hx with hx | hx
    · exact hp.lines x hx
    · obtain rfl := List.mem_singleton.1 hx
      exact k3
  · obtain ⟨_, k2, k3, k4⟩ := parR_ok hr
    have := manyN_le i
    refine ⟨⟨hp.people, hp.lines, fun x hx => ?_⟩, k4⟩
    rcases List.mem_append.1 hx with hx | hx
    · exact hp.log x hx
    · obtain rfl := List.mem_singleton.1 hx
      exact ⟨⟨by show (1 : Int) ≤ (i : Int) - 1; omega, by show (i : Int) - 1 ≤ 3; omega⟩, by show l.length ≤ 6; omega, k3⟩
theorem addRs_pre : ∀ (rs : List Str) {p q : Pg}, PreOK p → addRs p rs = some q → PreOK q ∧ q.people = p.people ∧ q.lines.length + q.log.length = p.lines.length + p.log.length + rs.length ∧ 2 * rs.length ≤ (rs.map lenS).sum
  | [], p, q, hp, h => by
    have h : some p = some q := h
    injection h with h
    subst h
    exact ⟨hp, rfl, rfl, by simp⟩
  | r :: rs, p, q, hp, h => by
    simp only [addRs] at h
    cases ha : addR p r with
    | none => rw [ha] at h; cases h
    | some b =>
      rw [ha] at h
      obtain ⟨hb, hne⟩ := addR_pre hp ha
      obtain ⟨s1, s2⟩ := addR_small ha
      obtain ⟨i1, i2, i3, i4⟩ := addRs_pre rs hb h
      have : 1 ≤ r.length := by
        cases r with
        | nil => exact absurd rfl hne
        | cons c r => simp
      refine ⟨i1, by rw [i2, s1], ?_, ?_⟩
      · simp only [List.length_cons]; omega
      · simp only [List.map_cons, List.sum_cons, List.length_cons, lenS]; omega
theorem sum_take_le (f : Str → Nat) : ∀ (l : List Str) (k : Nat), ((l.take k).map f).sum ≤ (l.map f).sum
  | [], k => by simp
  | x :: r, 0 => by simp
  | x :: r, k + 1 => by
    have := sum_take_le f r k
    simp only [List.take_succ_cons, List.map_cons, List.sum_cons]
    omega
theorem TxOK_of {n : Int} (hn : bigI n = true) {t r0 : Str} {rest : List Str} (hs : splL 10 t = r0 :: rest) (ht : t.length ≤ 300) {k : Nat} {q : Pg} (h : addRs ⟨n, [], []⟩ (rest.take k) = some q) : TxOK q ∧ q.people = n ∧ q.lines.length ≤ 200 ∧ q.log.length ≤ 200 := by
  obtain ⟨h1, h2, h3, h4⟩ := addRs_pre _ (p := ⟨n, [], []⟩) ⟨hn, fun _ h => by simp at h, fun _ h => by simp at h⟩ h
  have hsum := splL_sum 10 t
  rw [hs] at hsum
  have hle := sum_take_le lenS rest k
  simp only [List.map_cons, List.sum_cons] at hsum
  simp only [List.length_nil] at h3
  have g1 : q.lines.length ≤ 200 := by omega
  have g2 : q.log.length ≤ 200 := by omega
  exact ⟨⟨h1.people, g1, g2, h1.lines, h1.log⟩, h2, g1, g2⟩
structure PrS where
  k : Nat
  p : Pg
def prH (p : Pg) : Heap := [(24, some ⟨0, T_api_ProofPage, .box [.d (int 0), .zc, .zc]⟩), (232, some ⟨0, T_api_ProofPage, .box [.d (int p.people), .own 304 p.lines.length, .own 305 p.log.length]⟩), (304, some ⟨p.lines.length, T_api_ProofLine, .lst (p.lines.map Ln.d)⟩), (305, some ⟨p.log.length, T_api_ProofEntry, .lst (p.log.map Nt.d)⟩)]
set_option maxHeartbeats 8000000 in
theorem parsed_ret (hg : GOK g) (t : Str) (ht : t.length ≤ 300) (p : Pg) (h : readQ t = some p) : Meets (Tz g) f_proof_parsed [.str t] ⟨.d p.d, []⟩ := by
  have hmem := splL_mem 10 t
  have hln := splL_le 10 t
  have hSp := Split_data hg t 10 (by omega)
  unfold readQ at h
  cases hs : splL 10 t with
  | nil => exact absurd hs (splL_ne 10 t)
  | cons r0 rest =>
    rw [hs] at h hmem hln hSp
    simp only at h
    split at h
    · rename_i h2
      have h2 := of_decide_eq_true h2
      split at h
      · rename_i n l0 hp0
        split at h
        · rename_i q hq
          split at h
          · rename_i hT
            have hT := of_decide_eq_true hT
            injection h with h
            subst h
            have hN := numbered_ret hg r0 (by have := hmem r0 List.mem_cons_self; omega) 0 (n :: l0) hp0
            have hnb : bigI n = true := by
              have := (parR_ok hp0).2.2.1
              rw [List.all_cons, Bool.and_eq_true] at this
              exact this.1
            obtain ⟨m, hm⟩ : ∃ m, rest.length = m + 2 := ⟨rest.length - 2, by omega⟩
            have hm2 : rest.length - 2 = m := by omega
            rw [hm2] at hq
            have hll : rest.length ≤ 300 := by simp at hln; omega
            have e1 : IntKind.i64.wrap ((rest.length : Int) + 1 - 2) = ((m + 1 : Nat) : Int) := by
              rw [wrap_id (by omega) (by omega)]; omega
            have e2 : (((m + 1 : Nat) : Int)).toNat = m + 1 := by omega
            have e3 : min (m + 1) (rest.length + 1) - 1 = m := by omega
            refine meets_proof_parsed ?_
            unfold vc_proof_parsed
            simp
            refine CALL.val [.str t, .str [10]] _ rfl hSp (.inl rfl) ?_
            simp [strsD]
            refine CALL.mk [.bool true, .str t] ⟨.tup [], []⟩ (by simp [argsD, argD, toD]; omega) (need_ret t) (.inl rfl) (by simp) ?_
            simp [vc_proof_parsed_k6]
            refine CALL.mk [.str r0] _ rfl hN (.inl rfl) (by simp) ?_
            simp
            refine CALL.mk [.bool true, .str t] ⟨.tup [], []⟩ (by simp [argsD, argD, toD]) (need_ret t) (.inl rfl) (by simp) ?_
            simp [vc_proof_parsed_k5, ints]
            rw [e1, e2, e3]
            refine ⟨by omega, by omega, ?_⟩
            refine LOOP.mkB PrS (fun x => [.d (.str t), .ptr 24 0 0 0, .ptr 232 0 0 0, .d (.list ((rest.take m).map .str)), .d (int m), .d (int x.k)]) (fun x => prH x.p) (fun x => x.k ≤ m ∧ addRs ⟨n, [], []⟩ (rest.take x.k) = some x.p) (fun x => m - x.k) [] [(232, 1, T_api_ProofLine), (232, 2, T_api_ProofEntry)] (by simp) ⟨0, ⟨n, [], []⟩⟩ ⟨by simp, rfl⟩ (by simp [WEAK, lookH, prH, promoteB, promote]) (fun _ _ => rfl) ?_
            rintro ⟨k, P⟩ ⟨hk, hP⟩
            have hk : k ≤ m := hk
            have hP : addRs ⟨n, [], []⟩ (rest.take k) = some P := hP
            obtain ⟨hTx, hpe, hl1, hl2⟩ := TxOK_of hnb hs ht hP
            have hwk := wrap_id (n := (k : Int) + 1) (by omega) (by omega)
            simp [vc_proof_parsed_k4, prH]
            refine ⟨fun hlt => ?_, fun hge => ?_⟩
            · obtain ⟨row, a, b, hr, ha, hab, hb⟩ := addRs_take (rest.take m) ⟨n, [], []⟩ q hq k (by simp; omega)
              have hr : rest[k]? = some row := by rw [List.getElem?_take, if_pos hlt] at hr; exact hr
              have ha : a = P := by
                rw [List.take_take, Nat.min_eq_left hk, hP] at ha
                injection ha with ha; exact ha.symm
              subst ha
              have hb : addRs ⟨n, [], []⟩ (rest.take (k + 1)) = some b := by
                rw [List.take_take, Nat.min_eq_left (show k + 1 ≤ m by omega)] at hb
                exact hb
              have hrD : ((rest.map D.str).take m)[k]? = some (.str row) := by
                rw [List.getElem?_take, if_pos hlt, List.getElem?_map, hr]; rfl
              have hrl : row.length ≤ 10000 := by
                have := hmem row (List.mem_cons_of_mem _ (List.mem_of_getElem? hr))
                omega
              refine ⟨_, hrD, rfl, _, rfl, ?_⟩
              rcases addR_cases hab with ⟨x, y, z, hpr, rfl⟩ | ⟨i, l, i2, i4, hpr, rfl⟩
              · refine CALL.mk [.str row] _ rfl (numbered_ret hg row hrl 1 [x, y, z] hpr) (.inl rfl) (by simp) ?_
                simp [vc_proof_parsed_k2]
                refine CALL.mk [.bool true, .str row] ⟨.tup [], []⟩ (by simp [argsD, argD, toD]) (need_ret row) (.inl rfl) (by simp) ?_
                simp [vc_proof_parsed_k0, ints, lookH, hwk]
                refine ⟨by omega, by rfl, ⟨k + 1, _⟩, hlt, hb, ?_, by show m - (k + 1) < m - k; omega⟩
                simp [WEAK, lookH, Ln.d]
              · have wi : IntKind.i64.wrap ((i : Int) - 2) = (i : Int) - 2 := wrap_id (by omega) (by omega)
                have wi2 : IntKind.i64.wrap (1 + ((i : Int) - 2)) = (i : Int) - 1 := by rw [wrap_id (by omega) (by omega)]; omega
                refine CALL.mk [.str row] _ rfl (numbered_ret hg row hrl i l hpr) (.inl rfl) (by simp) ?_
                simp [vc_proof_parsed_k2]
                refine CALL.mk [.bool true, .str row] ⟨.tup [], []⟩ (by simp [argsD, argD, toD]; omega) (need_ret row) (.inl rfl) (by simp) ?_
                simp [show ¬ ((i : Int) = 1) by omega, show ¬ (i = 1) by omega]
                simp [vc_proof_parsed_k1, ints, lookH, hwk, wi, wi2]
                refine ⟨by omega, ⟨k + 1, _⟩, hlt, hb, ?_, by show m - (k + 1) < m - k; omega⟩
                simp [WEAK, lookH, Nt.d]
                rfl
            · have : k = m := by omega
              subst this
              have : P = q := by rw [hq] at hP; injection hP with hP; exact hP.symm
              subst this
              refine CALL.val [P.d] _ (by simp [argsD, argD, toD, lookH, Pg.d, lns, ents]) (text_meets hg P hTx) (.inr rfl) ?_
              simp [vc_proof_parsed_k3, hT]
              refine CALL.mk [.bool true, .str t] ⟨.tup [], []⟩ (by simp [argsD, argD, toD]) (need_ret t) (.inl rfl) (by simp) ?_
              simp [lookH, Pg.d, lns, ents]
          · cases h
        · cases h
      · cases h
    · cases h
theorem addRs_none : ∀ (rs : List Str) (p : Pg), addRs p rs = none → ∃ k r a, k < rs.length ∧ rs[k]? = some r ∧ addRs p (rs.take k) = some a ∧ addR a r = none
  | [], p, h => by cases h
  | r :: rs, p, h => by
    simp only [addRs] at h
    cases ha : addR p r with
    | none => exact ⟨0, r, p, by simp, rfl, rfl, ha⟩
    | some b =>
      rw [ha] at h
      obtain ⟨k, r', a', h1, h2, h3, h4⟩ := addRs_none rs b h
      refine ⟨k + 1, r', a', by simpa using h1, h2, ?_, h4⟩
      simp only [List.take_succ_cons, addRs, ha, h3]
theorem addR_none {p : Pg} {r : Str} (h : addR p r = none) : parR r = none ∨ ∃ l, parR r = some (0, l) := by
  unfold addR at h
  split at h
  · rename_i l hp; exact .inr ⟨l, hp⟩
  · rename_i l hp
    split at h
    · cases h
    · rename_i hl
      have := (parR_ok hp).2.1
      have e : (manyN 1).1 = 3 := rfl
      rw [e] at this
      cases l with
      | nil => simp at this
      | cons a l =>
        cases l with
        | nil => simp at this
        | cons b l =>
          cases l with
          | nil => simp at this
          | cons c l =>
            cases l with
            | nil => exact absurd rfl (hl a b c)
            | cons d l => simp at this
  · cases h
  · rename_i hp; exact .inl hp
set_option maxHeartbeats 8000000 in
theorem parsed_ploop (hg : GOK g) {t r0 : Str} {rest : List Str} (hs : splL 10 t = r0 :: rest) (ht : t.length ≤ 300) {n : Int} (hnb : bigI n = true) {m j : Nat} {Q : Pg} {s : Str} (hjm : j ≤ m) (hm : rest.length = m + 2) (hQ : addRs ⟨n, [], []⟩ (rest.take j) = some Q)
    (hE : (j < m ∧ ∃ row, rest[j]? = some row ∧ ((∃ l, parR row = some (0, l) ∧ s = row) ∨ MeetsP (Tz g) f_proof_numbered [.str row] (noT s))) ∨ (j = m ∧ textP Q ≠ t ∧ s = t)) :
    LOOP [.d (.str t), .ptr 24 0 0 0, .ptr 232 0 0 0, .d (.list ((rest.take m).map .str)), .d (int m), .d (int 0)] [(232, some ⟨0, T_api_ProofPage, .box [.d (int n), .zc, .zc]⟩), (232, some ⟨0, T_api_ProofPage, .box [.d (int 0), .zc, .zc]⟩), (24, some ⟨0, T_api_ProofPage, .box [.d (int 0), .zc, .zc]⟩)] 304 fun vs15 h16 next17 => vcp_proof_parsed_k4 (Tz g) [] (.d (noT s)) [] vs15 h16 next17 := by
  have hmem := splL_mem 10 t
  have hln := splL_le 10 t
  rw [hs] at hmem hln
  have hll : rest.length ≤ 301 := by simp at hln; omega
  refine LOOP.mkB PrS (fun x => [.d (.str t), .ptr 24 0 0 0, .ptr 232 0 0 0, .d (.list ((rest.take m).map .str)), .d (int m), .d (int x.k)]) (fun x => prH x.p) (fun x => x.k ≤ j ∧ addRs ⟨n, [], []⟩ (rest.take x.k) = some x.p) (fun x => m - x.k) [] [(232, 1, T_api_ProofLine), (232, 2, T_api_ProofEntry)] (by simp) ⟨0, ⟨n, [], []⟩⟩ ⟨by simp, rfl⟩ (by simp [WEAK, lookH, prH, promoteB, promote]) (fun _ _ => rfl) ?_
  rintro ⟨k, P⟩ ⟨hk, hP⟩
  have hk : k ≤ j := hk
  have hP : addRs ⟨n, [], []⟩ (rest.take k) = some P := hP
  obtain ⟨hTx, hpe, hl1, hl2⟩ := TxOK_of hnb hs ht hP
  have hwk := wrap_id (n := (k : Int) + 1) (by omega) (by omega)
  simp [vcp_proof_parsed_k4, prH]
  refine ⟨fun hlt => ?_, fun hge => ?_⟩
  · by_cases hkj : k < j
    · obtain ⟨row, a, b, hr, ha, hab, hb⟩ := addRs_take (rest.take j) ⟨n, [], []⟩ Q hQ k (by simp; omega)
      have hr : rest[k]? = some row := by rw [List.getElem?_take, if_pos hkj] at hr; exact hr
      have ha : a = P := by
        rw [List.take_take, Nat.min_eq_left hk, hP] at ha
        injection ha with ha; exact ha.symm
      subst ha
      have hb : addRs ⟨n, [], []⟩ (rest.take (k + 1)) = some b := by
        rw [List.take_take, Nat.min_eq_left (show k + 1 ≤ j by omega)] at hb
        exact hb
      have hrD : ((rest.map D.str).take m)[k]? = some (.str row) := by
        rw [List.getElem?_take, if_pos hlt, List.getElem?_map, hr]; rfl
      have hrl : row.length ≤ 10000 := by
        have := hmem row (List.mem_cons_of_mem _ (List.mem_of_getElem? hr))
        omega
      refine ⟨_, hrD, rfl, _, rfl, ?_⟩
      rcases addR_cases hab with ⟨x, y, z, hpr, rfl⟩ | ⟨i, l, i2, i4, hpr, rfl⟩
      · refine CALL.mk [.str row] _ rfl (numbered_ret hg row hrl 1 [x, y, z] hpr) (.inl rfl) (by simp) ?_
        simp [vcp_proof_parsed_k2]
        refine CALL.mk [.bool true, .str row] ⟨.tup [], []⟩ (by simp [argsD, argD, toD]) (need_ret row) (.inl rfl) (by simp) ?_
        simp [vcp_proof_parsed_k0, ints, lookH, hwk]
        refine ⟨by omega, by rfl, ⟨k + 1, _⟩, hkj, hb, ?_, by show m - (k + 1) < m - k; omega⟩
        simp [WEAK, lookH, Ln.d]
      · have wi : IntKind.i64.wrap ((i : Int) - 2) = (i : Int) - 2 := wrap_id (by omega) (by omega)
        have wi2 : IntKind.i64.wrap (1 + ((i : Int) - 2)) = (i : Int) - 1 := by rw [wrap_id (by omega) (by omega)]; omega
        refine CALL.mk [.str row] _ rfl (numbered_ret hg row hrl i l hpr) (.inl rfl) (by simp) ?_
        simp [vcp_proof_parsed_k2]
        refine CALL.mk [.bool true, .str row] ⟨.tup [], []⟩ (by simp [argsD, argD, toD]; omega) (need_ret row) (.inl rfl) (by simp) ?_
        simp [show ¬ ((i : Int) = 1) by omega, show ¬ (i = 1) by omega]
        simp [vcp_proof_parsed_k1, ints, lookH, hwk, wi, wi2]
        refine ⟨by omega, ⟨k + 1, _⟩, hkj, hb, ?_, by show m - (k + 1) < m - k; omega⟩
        simp [WEAK, lookH, Nt.d]
        rfl
    · have : k = j := by omega
      subst this
      rcases hE with ⟨_, row, hr, hbad⟩ | ⟨hjm2, _⟩
      · have hrD : ((rest.map D.str).take m)[k]? = some (.str row) := by
          rw [List.getElem?_take, if_pos hlt, List.getElem?_map, hr]; rfl
        have hrl : row.length ≤ 10000 := by
          have := hmem row (List.mem_cons_of_mem _ (List.mem_of_getElem? hr))
          omega
        refine ⟨_, hrD, rfl, _, rfl, ?_⟩
        rcases hbad with ⟨l, hpr, rfl⟩ | hPn
        · refine CALL.mk [.str s] _ rfl (numbered_ret hg s hrl 0 l hpr) (.inl rfl) (by simp) ?_
          simp [vcp_proof_parsed_k2]
          exact CALL.pan [.bool false, .str s] _ (by simp [argsD, argD, toD]) (need_pan s) (by simp)
        · exact CALL.pan [.str row] _ rfl hPn (by simp)
      · omega
  · have hkm : k = m := by omega
    subst hkm
    have hjk : j = k := by omega
    subst hjk
    rcases hE with ⟨hlt, _⟩ | ⟨_, hne, rfl⟩
    · omega
    · have : P = Q := by rw [hQ] at hP; injection hP with hP; exact hP.symm
      subst this
      refine CALL.val [P.d] _ (by simp [argsD, argD, toD, lookH, Pg.d, lns, ents]) (text_meets hg P hTx) (.inr rfl) ?_
      simp [vcp_proof_parsed_k3, hne]
      exact CALL.pan [.bool false, .str s] _ (by simp [argsD, argD, toD]) (need_pan s) (by simp)
set_option maxHeartbeats 8000000 in
theorem parsed_pan (hg : GOK g) (t : Str) (ht : t.length ≤ 300) (h : readQ t = none) : ∃ s, MeetsP (Tz g) f_proof_parsed [.str t] (noT s) := by
  have hmem := splL_mem 10 t
  have hln := splL_le 10 t
  have hSp := Split_data hg t 10 (by omega)
  unfold readQ at h
  cases hs : splL 10 t with
  | nil => exact absurd hs (splL_ne 10 t)
  | cons r0 rest =>
    rw [hs] at h hmem hln hSp
    simp only at h
    have hr0 : r0.length ≤ 10000 := by have := hmem r0 List.mem_cons_self; omega
    have hll : rest.length ≤ 300 := by simp at hln; omega
    by_cases h2 : 2 ≤ rest.length
    · rw [decide_eq_true h2] at h
      simp only at h
      cases hp0 : parR r0 with
      | none =>
        obtain ⟨s, hN⟩ := numbered_pan hg r0 hr0 hp0
        refine ⟨s, meetsP_proof_parsed ?_⟩
        unfold vcp_proof_parsed
        simp
        refine CALL.val [.str t, .str [10]] _ rfl hSp (.inl rfl) ?_
        simp [strsD]
        refine CALL.mk [.bool true, .str t] ⟨.tup [], []⟩ (by simp [argsD, argD, toD]; omega) (need_ret t) (.inl rfl) (by simp) ?_
        simp [vcp_proof_parsed_k6]
        exact CALL.pan [.str r0] _ rfl hN (by simp)
      | some il =>
        obtain ⟨i, l0⟩ := il
        have hN := numbered_ret hg r0 hr0 i l0 hp0
        obtain ⟨_, hlen0, hbig0, _⟩ := parR_ok hp0
        by_cases hi : i = 0
        · subst hi
          cases l0 with
          | nil => simp [manyN] at hlen0
          | cons n l0 =>
            rw [hp0] at h
            simp only at h
            have hnb : bigI n = true := by
              rw [List.all_cons, Bool.and_eq_true] at hbig0
              exact hbig0.1
            obtain ⟨m, hm⟩ : ∃ m, rest.length = m + 2 := ⟨rest.length - 2, by omega⟩
            have hm2 : rest.length - 2 = m := by omega
            rw [hm2] at h
            have e1 : IntKind.i64.wrap ((rest.length : Int) + 1 - 2) = ((m + 1 : Nat) : Int) := by
              rw [wrap_id (by omega) (by omega)]; omega
            have e2 : (((m + 1 : Nat) : Int)).toNat = m + 1 := by omega
            have e3 : min (m + 1) (rest.length + 1) - 1 = m := by omega
            have key : ∃ (j : Nat) (Q : Pg) (s : Str), j ≤ m ∧ addRs ⟨n, [], []⟩ (rest.take j) = some Q ∧ ((j < m ∧ ∃ row, rest[j]? = some row ∧ ((∃ l, parR row = some (0, l) ∧ s = row) ∨ MeetsP (Tz g) f_proof_numbered [.str row] (noT s))) ∨ (j = m ∧ textP Q ≠ t ∧ s = t)) := by
              cases hq : addRs ⟨n, [], []⟩ (rest.take m) with
              | some q =>
                rw [hq] at h
                simp only at h
                by_cases hT : textP q = t
                · rw [decide_eq_true hT] at h; cases h
                · exact ⟨m, q, t, Nat.le_refl _, hq, .inr ⟨rfl, hT, rfl⟩⟩
              | none =>
                obtain ⟨k, row, a, k1, k2, k3, k4⟩ := addRs_none _ _ hq
                have k1 : k < m := by simp at k1; omega
                rw [List.getElem?_take, if_pos k1] at k2
                rw [List.take_take, Nat.min_eq_left (by omega)] at k3
                have hrl : row.length ≤ 10000 := by
                  have := hmem row (List.mem_cons_of_mem _ (List.mem_of_getElem? k2))
                  omega
                rcases addR_none k4 with hn | ⟨l, hl⟩
                · obtain ⟨s, hP⟩ := numbered_pan hg row hrl hn
                  exact ⟨k, a, s, by omega, k3, .inl ⟨k1, row, k2, .inr hP⟩⟩
                · exact ⟨k, a, row, by omega, k3, .inl ⟨k1, row, k2, .inl ⟨l, hl, rfl⟩⟩⟩
            obtain ⟨j, Q, s, hj, hQ, hE⟩ := key
            have hL := parsed_ploop (g := g) hg hs ht hnb hj hm hQ hE
            refine ⟨s, meetsP_proof_parsed ?_⟩
            unfold vcp_proof_parsed
            simp
            refine CALL.val [.str t, .str [10]] _ rfl hSp (.inl rfl) ?_
            simp [strsD]
            refine CALL.mk [.bool true, .str t] ⟨.tup [], []⟩ (by simp [argsD, argD, toD]; omega) (need_ret t) (.inl rfl) (by simp) ?_
            simp [vcp_proof_parsed_k6]
            refine CALL.mk [.str r0] _ rfl hN (.inl rfl) (by simp) ?_
            simp
            refine CALL.mk [.bool true, .str t] ⟨.tup [], []⟩ (by simp [argsD, argD, toD]) (need_ret t) (.inl rfl) (by simp) ?_
            simp [vcp_proof_parsed_k5, ints]
            rw [e1, e2, e3]
            refine ⟨by omega, by omega, ?_⟩
            have e4 : (List.take (m + 1) (D.str r0 :: List.map D.str rest)).tail = (rest.take m).map .str := by simp
            rw [e4]
            exact hL
        · refine ⟨t, meetsP_proof_parsed ?_⟩
          unfold vcp_proof_parsed
          simp
          refine CALL.val [.str t, .str [10]] _ rfl hSp (.inl rfl) ?_
          simp [strsD]
          refine CALL.mk [.bool true, .str t] ⟨.tup [], []⟩ (by simp [argsD, argD, toD]; omega) (need_ret t) (.inl rfl) (by simp) ?_
          simp [vcp_proof_parsed_k6]
          refine CALL.mk [.str r0] _ rfl hN (.inl rfl) (by simp) ?_
          simp
          exact CALL.pan [.bool false, .str t] _ (by simp [argsD, argD, toD]; omega) (need_pan t) (by simp)
    · refine ⟨t, meetsP_proof_parsed ?_⟩
      unfold vcp_proof_parsed
      simp
      refine CALL.val [.str t, .str [10]] _ rfl hSp (.inl rfl) ?_
      simp [strsD]
      exact CALL.pan [.bool false, .str t] _ (by simp [argsD, argD, toD]; omega) (need_pan t) (by simp)
end Go.Vc

namespace Go.Vc
open Go Go.Proofs Go.RowKit
variable {g : GG}
attribute [local simp] and_assoc
noncomputable abbrev runAttR (go : GoB) (pre : List ABlk) (v : AV) := evTab Tryz.prog tab (dm0, go) 100 f_proof_attempt pre [v]
abbrev preR (a : D) : List ABlk := [⟨0, T_string, .box [.d a]⟩, ⟨0, T_api_ProofPage, .box [.d (int 0), .zc, .zc]⟩]
abbrev cloR : AV := .fn f_proof_Read_1 [] [.ptr 0 0 0 0, .ptr 1 0 0 0]
def postR (n a b : D) : List PB := [.same, .upd ⟨0, T_api_ProofPage, .box [.d n, .d a, .d b]⟩]
def postR2 (s n a b : D) : List PB := [.upd ⟨0, T_string, .box [.d s]⟩, .upd ⟨0, T_api_ProofPage, .box [.d n, .d a, .d b]⟩]
def same2 : List PB := [.same, .same]
theorem att_goR (go : GoB) (a : D) : runAttR go (preR a) cloR = runAttR (fun _ _ _ => go (.fnc f_proof_Read_1) (preR a) [.ptr 0 0 0 0, .ptr 1 0 0 0]) (preR a) cloR := by kernel_rfl
theorem att_retR (s n a b : D) : runAttR (fun _ _ _ => some (.ret (.tup []), postR n a b)) (preR s) cloR = some (.ret (.d (int 0)), postR2 s n a b) := by kernel_rfl
theorem att_panR (a : D) (s : Str) : runAttR (fun _ _ _ => some (.pan (.d (noT s)), same2)) (preR a) cloR = some (.ret (.d (int 4)), (preR a).map .upd) := by kernel_rfl
theorem Read_1_ret (hg : GOK g) (t : Str) (ht : t.length ≤ 300) (p : Pg) (h : readQ t = some p) : MeetsH (Tz g) f_proof_Read_1 (preR (.str t)) [.ptr 0 0 0 0, .ptr 1 0 0 0] (.ret (.tup [])) (postR (int p.people) (lns p.lines) (ents p.log)) := by
  refine meetsH_proof_Read_1 rfl ?_
  unfold vc_proof_Read_1
  simp [preR, numbered, lookH]
  refine CALL.val [.str t] _ rfl (parsed_ret hg t ht p h) (.inl rfl) ?_
  simp [lookH, Pg.d]
  refine ⟨[], ?_⟩
  simp [postR, yv, yv.yvL, yh, yb, yver, fz, fz.fzL, fzH, fzB, stay, src, lookH, NodupB, disjB]
theorem Read_1_pan (hg : GOK g) (t : Str) (ht : t.length ≤ 300) (h : readQ t = none) : ∃ s, MeetsH (Tz g) f_proof_Read_1 (preR (.str t)) [.ptr 0 0 0 0, .ptr 1 0 0 0] (.pan (.d (noT s))) same2 := by
  obtain ⟨s, hP⟩ := parsed_pan hg t ht h
  refine ⟨s, meetsHp_proof_Read_1 rfl ?_⟩
  unfold vcp_proof_Read_1
  simp [preR, numbered, lookH]
  refine CALL.pan [.str t] _ rfl hP ?_
  simp
  refine ⟨[], ?_⟩
  simp [same2, yv, yh, fz, fzH, stay, src, lookH, NodupB, disjB, argD, toD]
theorem attR_meets {a : D} {out o2 : Out} {po po2 : List PB} (h : MeetsH (Tz g) f_proof_Read_1 (preR a) [.ptr 0 0 0 0, .ptr 1 0 0 0] out po) (h2 : runAttR (fun _ _ _ => some (out, po)) (preR a) cloR = some (o2, po2)) : MeetsH (Tz g) f_proof_attempt (preR a) [cloR] o2 po2 := by
  refine evTab_ok (C := Tz g) rfl tab_ok (onB_ok h) 100 ?_
  have h1 := att_goR (onB f_proof_Read_1 (preR a) [.ptr 0 0 0 0, .ptr 1 0 0 0] out po) a
  rw [onB_at] at h1
  exact h1.trans h2
theorem readQ_tx {t : Str} {p : Pg} (h : readQ t = some p) (ht : t.length ≤ 300) : TxOK p ∧ textP p = t := by
  unfold readQ at h
  cases hs : splL 10 t with
  | nil => exact absurd hs (splL_ne 10 t)
  | cons r0 rest =>
    rw [hs] at h
    simp only at h
    split at h
    · split at h
      · rename_i n l0 hp0
        split at h
        · rename_i q hq
          split at h
          · rename_i hT
            injection h with h
            subst h
            have hnb : bigI n = true := by
              have := (parR_ok hp0).2.2.1
              rw [List.all_cons, Bool.and_eq_true] at this
              exact this.1
            exact ⟨(TxOK_of hnb hs ht hq).1, of_decide_eq_true hT⟩
          · cases h
        · cases h
      · cases h
    · cases h
def zeroP : Pg := ⟨0, [], []⟩
def readV (t : Str) : Pg × Int := match decide (t.length ≤ 270) with
  | false => (zeroP, 3)
  | true => match readQ t with
    | none => (zeroP, 4)
    | some p => match p.ok with
      | true => (p, 0)
      | false => (zeroP, 2)
set_option maxHeartbeats 4000000 in
theorem proof_Read_meets (hg : GOK g) (t : Str) (hl : t.length ≤ 1000) : Meets (Tz g) f_proof_Read [.str t] ⟨.tup [.d (readV t).1.d, .d (int (readV t).2)], []⟩ := by
  refine meets_proof_Read ?_
  unfold vc_proof_Read
  simp [lookH]
  by_cases ht : t.length ≤ 270
  · have hd : decide (t.length ≤ 270) = true := decide_eq_true ht
    refine ⟨fun h => by omega, fun _ => ?_⟩
    cases hq : readQ t with
    | some p =>
      have hA := attR_meets (Read_1_ret (g := g) hg t (by omega) p hq) (att_retR (.str t) (int p.people) (lns p.lines) (ents p.log))
      refine CALL.gen [24, 72] [false] [cloR] (preR (.str t)) _ _ hA rfl (by simp [argsM, AV.ren, AV.ren.renL, rho]) ?_ ?_ ?_ ?_ ?_
      · simp [preB, bodyOf, lookH, Body.ren, AV.ren, AV.ren.renL]
      · simp [ids.idsL, ids, preIds, Body.ids, lowL]
      · simp [lentL, disjB]
      · simp [preR, postR2]
      · simp [AV.ren, AV.ren.renL, postR2, upsP, rho, ABlk.ren, Body.ren, lentL, kills, lookH, vc_proof_Read_k1]
        obtain ⟨hTx, _⟩ := readQ_tx hq (by omega)
        have n1 := hTx.nl
        have n2 := hTx.ng
        refine CALL.val [p.d] _ rfl (proof_isPage_meets p (by omega) (by omega)) (.inl rfl) ?_
        cases hok : p.ok with
        | true =>
          have hV : readV t = (p, 0) := by unfold readV; rw [hd, hq]; simp only [hok]
          rw [hV]
          simp [vc_proof_Read_k0, lookH, Pg.d]
        | false =>
          have hV : readV t = (zeroP, 2) := by unfold readV; rw [hd, hq]; simp only [hok]
          rw [hV]
          simp [vc_proof_Read_k0, lookH, zeroP, Pg.d, lns, ents]
    | none =>
      obtain ⟨s, hP⟩ := Read_1_pan (g := g) hg t (by omega) hq
      have hA := attR_meets hP (att_panR (.str t) s)
      have hV : readV t = (zeroP, 4) := by unfold readV; rw [hd, hq]
      rw [hV]
      refine CALL.gen [24, 72] [false] [cloR] (preR (.str t)) _ _ hA rfl (by simp [argsM, AV.ren, AV.ren.renL, rho]) ?_ ?_ ?_ ?_ ?_
      · simp [preB, bodyOf, lookH, Body.ren, AV.ren, AV.ren.renL]
      · simp [ids.idsL, ids, preIds, Body.ids, lowL]
      · simp [lentL, disjB]
      · simp [preR]
      · simp [AV.ren, AV.ren.renL, upsP, rho, ABlk.ren, Body.ren, lentL, kills, lookH, vc_proof_Read_k1, zeroP, Pg.d, lns, ents]
  · have hV : readV t = (zeroP, 3) := by unfold readV; rw [decide_eq_false ht]
    rw [hV]
    refine ⟨fun _ => ?_, fun h => by omega⟩
    simp [zeroP, Pg.d, lns, ents]
end Go.Vc

namespace Go.Vc
open Go Go.Proofs
variable {g : GG}
def smI (n : Int) : Prop := -1000 < n ∧ n < 1000
theorem givI3_itoa {sign : Bool} {n : Int} (h : smI n) (hs : sign = true ∨ 0 ≤ n) : givI3 sign (itoaX n) = some n := by
  obtain ⟨h1, h2⟩ := h
  have hR : numR 3 (itoaX n) = some n := numR_itoa (by omega) (by omega) (by simpa using h1) (by simpa using h2)
  have hB : givB 3 sign (itoaX n) = true := by
    unfold givB
    rw [hR]
    rcases hs with hs | hs
    · simp [hs]
    · simp [hs]
  unfold givI3
  rw [hB]
  exact hR
theorem gvs_map : ∀ (l : List Int) (sg k : Nat), (∀ n, n ∈ l → smI n) → (∀ j n, l[j]? = some n → k + j < sg → 0 ≤ n) → gvs sg k (l.map itoaX) = some l
  | [], _, _, _, _ => rfl
  | n :: r, sg, k, h1, h2 => by
    have ih := gvs_map r sg (k + 1) (fun m hm => h1 m (List.mem_cons_of_mem _ hm)) (fun j m hj hl => h2 (j + 1) m (by simpa using hj) (by omega))
    have hn := givI3_itoa (sign := decide (sg ≤ k)) (h1 n List.mem_cons_self) (by
      by_cases hs : sg ≤ k
      · exact .inl (decide_eq_true hs)
      · exact .inr (h2 0 n rfl (by omega)))
    simp only [List.map_cons, gvs, hn, ih]
theorem smI_big {n : Int} (h : smI n) : bigI n = true := by
  obtain ⟨h1, h2⟩ := h
  simp only [bigI, Bool.and_eq_true, decide_eq_true_eq]
  omega
theorem parR_row {w : Str} {i : Nat} {l : List Int} (hi : wIx w = some i) (hl : l.length = (manyN i).1) (h1 : ∀ n, n ∈ l → smI n) (h2 : ∀ j n, l[j]? = some n → j < (manyN i).2 → 0 ≤ n) : parR (rowT w l) = some (i, l) := by
  have hw : (32 : UInt8) ∉ w := by
    obtain ⟨_, h, _⟩ := wIx_some hi
    have : ∀ x, x ∈ wds → (32 : UInt8) ∉ x := by decide
    exact this w (List.mem_of_getElem? h)
  have hs := splL_nums l w hw (List.all_eq_true.2 fun n hn => smI_big (h1 n hn))
  have hg := gvs_map l (manyN i).2 0 h1 (fun j n hj hl => h2 j n hj (by omega))
  unfold parR
  rw [hs]
  simp only [hi, List.length_map, decide_eq_true hl, hg]
theorem num_small {n : Int} (h : numB n = true) : smI n := by
  simp [numB, inB] at h
  exact ⟨by omega, by omega⟩
theorem per_small {p : Pg} (hok : p.ok = true) {n : Int} (h : persB p n = true) : 0 ≤ n ∧ n < 10 := by
  obtain ⟨a1, a2, _⟩ := Pg.ok_len hok
  simp [persB, inB] at h
  omega
theorem line_row {p : Pg} (hok : p.ok = true) {l : Ln} (h : lnB p l = true) : parR (lineT l) = some (1, [l.setter, l.right, l.set]) := by
  simp only [lnB, Bool.and_eq_true] at h
  obtain ⟨h1, h2, h3⟩ := h
  obtain ⟨q1, q2⟩ := per_small hok h1
  have b2 := num_small h2
  have b3 := num_small h3
  refine parR_row (i := 1) (by decide) rfl ?_ ?_
  · intro n hn
    simp only [List.mem_cons, List.not_mem_nil, or_false] at hn
    rcases hn with rfl | rfl | rfl
    · exact ⟨by omega, by omega⟩
    · exact b2
    · exact b3
  · intro j n hj hjl
    have hjl : j < 1 := hjl
    obtain rfl : j = 0 := by omega
    injection hj with hj
    omega
theorem itoa_one {n : Int} (h0 : 0 ≤ n) (h : n < 10) : (itoaX n).length = 1 := by
  obtain ⟨u, rfl⟩ : ∃ u : Nat, n = u := ⟨n.toNat, by omega⟩
  rw [one_dig (by omega)]
  rfl
theorem itoa_four {n : Int} (h : smI n) : (itoaX n).length ≤ 4 := by
  obtain ⟨h1, h2⟩ := h
  rcases (by omega : 0 ≤ n ∨ n < 0) with h0 | h0
  · obtain ⟨u, rfl⟩ : ∃ u : Nat, n = u := ⟨n.toNat, by omega⟩
    rw [itoaX_nonneg u (by omega)]
    have := digs_len 2 u (by omega)
    omega
  · obtain ⟨u, rfl⟩ : ∃ u : Nat, n = -(u : Int) := ⟨n.natAbs, by omega⟩
    rw [itoaX_neg u (by omega) (by omega)]
    have := digs_len 2 u (by omega)
    simp only [List.length_cons]
    omega
theorem rowT1 (w : Str) (a : Int) : (rowT w [a]).length = w.length + (itoaX a).length + 1 := by simp [rowT]; omega
theorem rowT3 (w : Str) (a b c : Int) : (rowT w [a, b, c]).length = w.length + (itoaX a).length + (itoaX b).length + (itoaX c).length + 3 := by simp [rowT]; omega
theorem rowT4 (w : Str) (a b c d : Int) : (rowT w [a, b, c, d]).length = w.length + (itoaX a).length + (itoaX b).length + (itoaX c).length + (itoaX d).length + 4 := by simp [rowT]; omega
theorem note_row {p : Pg} (hok : p.ok = true) {e : Nt} (h : entB p e = true) : ∃ i : Nat, 2 ≤ i ∧ i ≤ 4 ∧ e.kind = (i : Int) - 1 ∧ parR (noteT e) = some (i, e.nums) ∧ (noteT e).length ≤ 13 := by
  obtain ⟨_, a2, _, a4, _⟩ := Pg.ok_len hok
  rcases entB_cases h with ⟨a, rfl, ha⟩ | ⟨a, b, c, rfl, ha, hb, hc⟩ | ⟨a, b, c, n, rfl, ha, hb, hab, hcn, hn⟩
  · have i1 := itoa_one (n := (a : Int)) (by omega) (by omega)
    refine ⟨4, by omega, by omega, rfl, parR_row (w := fallW) (by decide) rfl ?_ ?_, ?_⟩
    · intro n hn
      simp only [List.mem_cons, List.not_mem_nil, or_false] at hn
      subst hn
      exact ⟨by omega, by omega⟩
    · intro j n hj hjl
      have hjl : j < 1 := hjl
      obtain rfl : j = 0 := by omega
      injection hj with hj
      omega
    · show (rowT fallW [(a : Int)]).length ≤ 13
      rw [rowT1, i1]
      decide
  · obtain ⟨q1, q2⟩ := per_small hok ha
    have i1 := itoa_one q1 q2
    have i2 := itoa_one (n := (b : Int)) (by omega) (by omega)
    have i3 := itoa_four (num_small hc)
    refine ⟨3, by omega, by omega, rfl, parR_row (w := mendW) (by decide) rfl ?_ ?_, ?_⟩
    · intro n hn
      simp only [List.mem_cons, List.not_mem_nil, or_false] at hn
      rcases hn with rfl | rfl | rfl
      · exact ⟨by omega, by omega⟩
      · exact ⟨by omega, by omega⟩
      · exact num_small hc
    · intro j n hj hjl
      have hjl : j < 2 := hjl
      rcases (by omega : j = 0 ∨ j = 1) with rfl | rfl <;> injection hj with hj <;> omega
    · show (rowT mendW [a, (b : Int), c]).length ≤ 13
      rw [rowT3, i1, i2]
      have : mendW.length = 4 := rfl
      omega
  · obtain ⟨q1, q2⟩ := per_small hok ha
    obtain ⟨q3, q4⟩ := per_small hok hb
    have i1 := itoa_one q1 q2
    have i2 := itoa_one q3 q4
    have i3 := itoa_one (n := (c : Int)) (by omega) (by omega)
    have i4 := itoa_one (n := (c : Int) + n - 1) (by omega) (by omega)
    refine ⟨2, by omega, by omega, rfl, parR_row (w := readW) (by decide) rfl ?_ ?_, ?_⟩
    · intro m hm
      simp only [List.mem_cons, List.not_mem_nil, or_false] at hm
      rcases hm with rfl | rfl | rfl | rfl <;> exact ⟨by omega, by omega⟩
    · intro j m hj hjl
      have hjl : j < 4 := hjl
      rcases (by omega : j = 0 ∨ j = 1 ∨ j = 2 ∨ j = 3) with rfl | rfl | rfl | rfl <;> injection hj with hj <;> omega
    · show (rowT readW [a, b, (c : Int), (c : Int) + n - 1]).length ≤ 13
      rw [rowT4, i1, i2, i3, i4]
      decide
theorem wordK_no (k : Int) : (10 : UInt8) ∉ wordK k := by
  unfold wordK
  split
  · decide
  · split <;> decide
theorem rowsP_no {p : Pg} (h : TxOK p) : ∀ r, r ∈ rowsP p → (10 : UInt8) ∉ r := fun r hr => by
  rcases List.mem_cons.1 hr with rfl | hr
  · exact rowT_no (by decide) (by decide) (by decide) (by decide) (by simp [h.people])
  · rcases List.mem_append.1 hr with hr | hr
    · obtain ⟨l, hl, rfl⟩ := List.mem_map.1 hr
      exact rowT_no (by decide) (by decide) (by decide) (by decide) (h.lines l hl)
    · obtain ⟨e, he, rfl⟩ := List.mem_map.1 hr
      exact rowT_no (by decide) (by decide) (by decide) (wordK_no e.kind) (h.log e he).2.2
theorem TxOK_ok {p : Pg} (hok : p.ok = true) : TxOK p := by
  obtain ⟨a1, a2, a3, a4, a5, a6, a7⟩ := Pg.ok_len hok
  refine ⟨by simp [bigI]; omega, by omega, by omega, fun l hl => ?_, fun e he => ?_⟩
  · exact (parR_ok (line_row hok (a6 l hl))).2.2.1
  · obtain ⟨i, i1, i2, hk, hr, _⟩ := note_row hok (a7 e he)
    obtain ⟨_, k2, k3, _⟩ := parR_ok hr
    have := manyN_le i
    exact ⟨⟨by omega, by omega⟩, by omega, k3⟩
theorem bodyL_len : ∀ (rows : List Str) (m : Nat), (∀ r, r ∈ rows → r.length ≤ m) → (bodyT rows).length ≤ rows.length * (m + 1)
  | [], m, _ => by simp [bodyT]
  | r :: rs, m, h => by
    have ih := bodyL_len rs m (fun x hx => h x (List.mem_cons_of_mem _ hx))
    have hr := h r List.mem_cons_self
    have e : bodyT (r :: rs) = r ++ [10] ++ bodyT rs := by simp [bodyT]
    rw [e]
    simp only [List.length_append, List.length_cons, List.length_nil, Nat.add_mul, Nat.one_mul]
    omega
theorem bodyT_app (a b : List Str) : bodyT (a ++ b) = bodyT a ++ bodyT b := by simp [bodyT]
theorem text_short {p : Pg} (hok : p.ok = true) : (textP p).length ≤ 270 := by
  obtain ⟨a1, a2, a3, a4, a5, a6, a7⟩ := Pg.ok_len hok
  have h1 := itoa_one (n := p.people) (by omega) (by omega)
  have b1 := bodyL_len [rowT pageW [p.people]] 6 (fun r hr => by
    obtain rfl := List.mem_singleton.1 hr
    rw [rowT1, h1]
    decide)
  have b2 := bodyL_len (p.lines.map lineT) 16 (fun r hr => by
    obtain ⟨l, hl, rfl⟩ := List.mem_map.1 hr
    have hb := a6 l hl
    simp only [lnB, Bool.and_eq_true] at hb
    obtain ⟨c1, c2, c3⟩ := hb
    obtain ⟨q1, q2⟩ := per_small hok c1
    have d1 := itoa_one q1 q2
    have d2 := itoa_four (num_small c2)
    have d3 := itoa_four (num_small c3)
    unfold lineT
    rw [rowT3, d1]
    have : lineW.length = 4 := rfl
    omega)
  have b3 := bodyL_len (p.log.map noteT) 13 (fun r hr => by
    obtain ⟨e, he, rfl⟩ := List.mem_map.1 hr
    obtain ⟨_, _, _, _, _, h⟩ := note_row hok (a7 e he)
    exact h)
  have e : rowsP p = [rowT pageW [p.people]] ++ (p.lines.map lineT ++ p.log.map noteT) := rfl
  have hE : (endT (chkRows 0 (rowsP p) % 269)).length = 7 := by
    rw [endT_eq (by have := Nat.mod_lt (chkRows 0 (rowsP p)) (show 0 < 269 by omega); omega)]
    rfl
  unfold textP sealT
  rw [List.length_append, List.length_append, hE, e, bodyT_app, bodyT_app, List.length_append, List.length_append]
  simp only [List.length_map, List.length_cons, List.length_nil] at b1 b2 b3 ⊢
  have := Nat.mul_le_mul_right 17 a4
  have := Nat.mul_le_mul_right 14 a5
  omega
end Go.Vc
