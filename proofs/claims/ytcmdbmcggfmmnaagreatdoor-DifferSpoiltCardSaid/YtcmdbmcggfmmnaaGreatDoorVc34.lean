/- A part of the proof: general laws of a reading of the model by abstract data, or contracts of the functions that the law calls. -/
import Derived.Test.YtcmdbmcggfmmnaaGreatDoorVc33
import Derived.Test.YtcmdbmcggfmmnaaGreatDoorVc21
import Derived.Test.YtcmdbmcggfmmnaaGreatDoorVc29
set_option maxRecDepth 100000
namespace Go.Vc
open Go Go.Proofs
variable {g : GG}
attribute [local simp] and_assoc
theorem Split_data (hg : GOK g) (s : Str) (c : UInt8) (hs : s.length ≤ 10000) : Meets (Tz g) f_strings_Split [.str s, .str [c]] ⟨.d (strsD (splL c s)), []⟩ := by
  have h := splt_X hg [.d (.str s), .d (.str [c])] (.ret (.own 0 0)) [.upd ⟨0, 9, .lst ((splX c s []).map .str)⟩] (by
    have e : Nat.ble s.length 1000000 = true := Nat.ble_eq_true_of_le (by omega)
    simp only [spltX, e])
  rw [splX_split] at h
  exact MeetsH.frz h
def pairR (r : Str) : Option (Int × Int) := match splL 32 r with
  | [_, a, b] => match numR 5 a, numR 5 b with
    | some x, some y => some (x, y)
    | _, _ => none
  | _ => none
def startsR : List Str → Option (List Sp)
  | [] => some []
  | r :: rs => match pairR r with
    | some (x, y) => match startsR rs with
      | some l => some (⟨x, y⟩ :: l)
      | none => none
    | none => none
def readQ (t : Str) : Option Plan := match splL 10 t with
  | r0 :: rest => match decide (2 ≤ rest.length) with
    | true => match pairR r0 with
      | some (x, y) => match decide (0 ≤ x) && decide (0 ≤ y) with
        | true => match startsR (rest.take (rest.length - 2)) with
          | some l => match decide (textP ⟨l, x, y⟩ = t) with | true => some ⟨l, x, y⟩ | false => none
          | none => none
        | false => none
      | none => none
    | false => none
  | [] => none
theorem pairR_some {r : Str} {x y : Int} (h : pairR r = some (x, y)) : ∃ w a b, splL 32 r = [w, a, b] ∧ numR 5 a = some x ∧ numR 5 b = some y := by
  unfold pairR at h
  split at h
  · rename_i w a b hs
    split at h
    · rename_i x' y' hx hy
      injection h with h
      injection h with h1 h2
      subst h1 h2
      exact ⟨w, a, b, hs, hx, hy⟩
    · cases h
  · cases h
theorem startsR_at : ∀ (rs : List Str) (l : List Sp), startsR rs = some l → l.length = rs.length ∧ ∀ (k : Nat) (row : Str), rs[k]? = some row → ∃ s : Sp, pairR row = some (s.low, s.high) ∧ l[k]? = some s
  | [], l, h => by
    have h : some [] = some l := h
    injection h with h
    subst h
    exact ⟨rfl, fun k row hk => by simp at hk⟩
  | r :: rs, l, h => by
    simp only [startsR] at h
    cases hp : pairR r with
    | none => rw [hp] at h; cases h
    | some xy =>
      obtain ⟨x, y⟩ := xy
      rw [hp] at h
      cases hl : startsR rs with
      | none => simp only [hl] at h; cases h
      | some l2 =>
        simp only [hl] at h
        injection h with h
        subst h
        obtain ⟨i1, i2⟩ := startsR_at rs l2 hl
        refine ⟨by simp [i1], fun k row hk => ?_⟩
        cases k with
        | zero =>
          have hk : some r = some row := hk
          injection hk with hk
          subst hk
          exact ⟨⟨x, y⟩, hp, rfl⟩
        | succ k =>
          obtain ⟨s, s1, s2⟩ := i2 k row (by simpa using hk)
          exact ⟨s, s1, by simpa using s2⟩
theorem big5 {w : Str} {n : Int} (h : numR 5 w = some n) : bigI n = true := by
  have := numR_some (by omega) h
  simp only [bigI, Bool.and_eq_true, decide_eq_true_eq]
  omega
theorem readQ_some {t : Str} {p : Plan} (h : readQ t = some p) : ∃ r0 rest m, splL 10 t = r0 :: rest ∧ rest.length = m + 2 ∧ pairR r0 = some (p.rows, p.guard) ∧ 0 ≤ p.rows ∧ 0 ≤ p.guard ∧ startsR (rest.take m) = some p.starts ∧ textP p = t := by
  unfold readQ at h
  split at h
  · rename_i r0 rest hs
    split at h
    · rename_i h2
      have h2 := of_decide_eq_true h2
      split at h
      · rename_i x y hp
        split at h
        · rename_i hxy
          simp only [Bool.and_eq_true, decide_eq_true_eq] at hxy
          split at h
          · rename_i l hl
            split at h
            · rename_i hT
              injection h with h
              subst h
              exact ⟨r0, rest, rest.length - 2, hs, by omega, hp, hxy.1, hxy.2, hl, of_decide_eq_true hT⟩
            · cases h
          · cases h
        · cases h
      · cases h
    · cases h
  · cases h
theorem splL_mem (c : UInt8) : ∀ (s : Str) (x : Str), x ∈ splL c s → x.length ≤ s.length
  | [], x, h => by simp [splL] at h; simp [h]
  | b :: r, x, h => by
    have ih := splL_mem c r
    simp only [splL] at h
    split at h
    · rcases List.mem_cons.1 h with rfl | h
      · simp
      · have := ih x h; simp; omega
    · split at h
      · simp at h; simp [h]
      · rename_i y ys hy
        rcases List.mem_cons.1 h with rfl | h
        · have := ih y (by rw [hy]; exact List.mem_cons_self)
          simp; omega
        · have := ih x (by rw [hy]; exact List.mem_cons_of_mem _ h)
          simp; omega
theorem TxOK_read {t : Str} {p : Plan} (h : readQ t = some p) (ht : t.length ≤ 300) : TxOK p := by
  obtain ⟨r0, rest, m, hs, hm, hp, _, _, hl, _⟩ := readQ_some h
  have hln := splL_le 10 t
  rw [hs] at hln
  obtain ⟨w, a, b, _, ha, hb⟩ := pairR_some hp
  obtain ⟨k1, k2⟩ := startsR_at _ _ hl
  refine ⟨by simp [big5 ha, big5 hb], by simp at hln k1; omega, fun s hs2 => ?_⟩
  obtain ⟨k, hk, rfl⟩ := List.getElem_of_mem hs2
  have hk2 : k < (rest.take m).length := by omega
  obtain ⟨s', s1, s2⟩ := k2 k _ (List.getElem?_eq_getElem hk2)
  rw [List.getElem?_eq_getElem hk] at s2
  injection s2 with s2
  rw [s2]
  obtain ⟨_, a, b, _, ha, hb⟩ := pairR_some s1
  simp [big5 ha, big5 hb]
def prH (p : Plan) (k : Nat) : Heap := [(24, some ⟨0, T_api_DifferPlan, .box [.zc, .d (int 0), .d (int 0)]⟩), (248, some ⟨0, T_api_DifferPlan, .box [.own 320 k, .d (int p.rows), .d (int p.guard)]⟩), (320, some ⟨k, T_api_Span, .lst ((p.starts.take k).map Sp.d)⟩)]
set_option maxHeartbeats 8000000 in
theorem parsed_ret (hg : GOK g) (t : Str) (ht : t.length ≤ 300) (p : Plan) (h : readQ t = some p) : Meets (Tz g) f_differ_parsed [.str t] ⟨.d p.d, []⟩ := by
  have hTx := TxOK_read h ht
  have hmem := splL_mem 10 t
  have hln := splL_le 10 t
  have hSp := Split_data hg t 10 (by omega)
  obtain ⟨r0, rest, m, hs, hm, hp, h0, h1, hl, hT⟩ := readQ_some h
  rw [hs] at hmem hln hSp
  have hll : rest.length ≤ 300 := by simp at hln; omega
  obtain ⟨w, a, b, hw, ha, hb⟩ := pairR_some hp
  have hr0 : r0.length ≤ 300 := by have := hmem r0 List.mem_cons_self; omega
  have hS0 := Split_data hg r0 32 (by omega)
  rw [hw] at hS0
  obtain ⟨k1, k2⟩ := startsR_at _ _ hl
  have k1 : p.starts.length = m := by rw [k1]; simp; omega
  have e1 : IntKind.i64.wrap ((rest.length : Int) + 1 - 2) = ((m + 1 : Nat) : Int) := by
    rw [wrap_id (by omega) (by omega)]; omega
  have e2 : (((m + 1 : Nat) : Int)).toNat = m + 1 := by omega
  have e3 : min (m + 1) (rest.length + 1) - 1 = m := by omega
  refine meets_differ_parsed ?_
  unfold vc_differ_parsed
  simp
  refine CALL.val [.str t, .str [10]] _ rfl hSp (.inl rfl) ?_
  simp [strsD]
  refine CALL.mk [.bool true, .str t] ⟨.tup [], []⟩ (by simp [argsD, argD, toD]; omega) (need_ret t) (.inl rfl) (by simp) ?_
  simp [vc_differ_parsed_k7]
  refine CALL.val [.str r0, .str [32]] _ rfl hS0 (.inl rfl) ?_
  simp [strsD]
  refine CALL.mk [.bool true, .str t] ⟨.tup [], []⟩ (by simp [argsD, argD, toD]) (need_ret t) (.inl rfl) (by simp) ?_
  simp [vc_differ_parsed_k6]
  refine CALL.val [.str a] _ rfl (unsigned_ret hg a _ ha h0) (.inl rfl) ?_
  simp
  refine CALL.val [.str b] _ rfl (unsigned_ret hg b _ hb h1) (.inl rfl) ?_
  simp [vc_differ_parsed_k5, ints]
  rw [e1, e2, e3]
  refine ⟨by rfl, by omega, by omega, ?_⟩
  refine LOOP.mkB Nat (fun k => [.d (.str t), .ptr 24 0 0 0, .ptr 248 0 0 0, .d (.list ((rest.take m).map .str)), .d (int m), .d (int k)]) (fun k => prH p k) (fun k => k ≤ m) (fun k => m - k) [] [(248, 0, T_api_Span)] (by simp) 0 (by omega) (by simp [WEAK, lookH, prH, promoteB, promote]) (fun _ _ => rfl) ?_
  intro k hk
  have hwk := wrap_id (n := (k : Int) + 1) (by omega) (by omega)
  simp [vc_differ_parsed_k4, prH]
  refine ⟨fun hlt => ?_, fun hge => ?_⟩
  · obtain ⟨row, hr⟩ : ∃ row, rest[k]? = some row := ⟨_, List.getElem?_eq_getElem (by omega)⟩
    obtain ⟨s, hps, hgs⟩ := k2 k row (by rw [List.getElem?_take, if_pos hlt]; exact hr)
    obtain ⟨v, c, d, hv, hc, hd⟩ := pairR_some hps
    have hrl : row.length ≤ 10000 := by
      have := hmem row (List.mem_cons_of_mem _ (List.mem_of_getElem? hr))
      omega
    have hSr := Split_data hg row 32 hrl
    rw [hv] at hSr
    have hrD : ((rest.map D.str).take m)[k]? = some (.str row) := by
      rw [List.getElem?_take, if_pos hlt, List.getElem?_map, hr]; rfl
    have htn : List.take (k + 1) (p.starts.map Sp.d) = List.take k (p.starts.map Sp.d) ++ [s.d] := by
      rw [← List.map_take, ← List.map_take, take_next hgs, List.map_append]; rfl
    refine ⟨_, hrD, rfl, _, rfl, ?_⟩
    refine CALL.val [.str row, .str [32]] _ rfl hSr (.inl rfl) ?_
    simp [strsD, vc_differ_parsed_k2]
    refine CALL.mk [.bool true, .str row] ⟨.tup [], []⟩ (by simp [argsD, argD, toD]) (need_ret row) (.inl rfl) (by simp) ?_
    simp
    refine CALL.val [.str c] _ rfl (signed_ret hg c _ hc) (.inl rfl) ?_
    simp [vc_differ_parsed_k1]
    refine CALL.val [.str d] _ rfl (signed_ret hg d _ hd) (.inl rfl) ?_
    simp [vc_differ_parsed_k0, lookH, hwk]
    refine ⟨by rfl, by omega, k + 1, by omega, ?_, by omega⟩
    simp [WEAK, lookH, htn, Sp.d]
  · have : k = m := by omega
    subst this
    have hta : List.take k (p.starts.map Sp.d) = p.starts.map Sp.d := by rw [← k1, ← List.map_take, take_all (Nat.le_refl _)]
    refine CALL.val [p.d] _ (by simp [argsD, argD, toD, lookH, Plan.d, spans, hta]) (text_meets hg p hTx) (.inr rfl) ?_
    simp [vc_differ_parsed_k3, hT]
    refine CALL.mk [.bool true, .str t] ⟨.tup [], []⟩ (by simp [argsD, argD, toD]) (need_ret t) (.inl rfl) (by simp) ?_
    simp [lookH, Plan.d, spans, hta]
end Go.Vc

namespace Go.Vc
open Go Go.Proofs Go.RowKit
variable {g : GG}
attribute [local simp] and_assoc
abbrev GoB := Cal → List ABlk → List AV → Option (Out × List PB)
abbrev dm0 : FuncId → Nat := fun _ => 0
open Classical in
noncomputable def onB (f : FuncId) (pre : List ABlk) (args : List AV) (out : Out) (post : List PB) : GoB := fun c p a => if c = .fnc f ∧ p = pre ∧ a = args then some (out, post) else none
theorem onB_at (f : FuncId) (pre : List ABlk) (args : List AV) (out : Out) (post : List PB) : onB f pre args out post (.fnc f) pre args = some (out, post) := if_pos ⟨rfl, rfl, rfl⟩
theorem onB_ok {C : Ctx} {f : FuncId} {pre : List ABlk} {args : List AV} {out : Out} {post : List PB} (h : MeetsH C f pre args out post) : OrcOK C (dm0, onB f pre args out post) := by
  intro cal p a o q ha
  simp only [onB] at ha
  split at ha
  · rename_i e
    obtain ⟨rfl, rfl, rfl⟩ := e
    simp only [Option.some.injEq, Prod.mk.injEq] at ha
    obtain ⟨rfl, rfl⟩ := ha
    exact h
  · cases ha
noncomputable abbrev runAttR (go : GoB) (pre : List ABlk) (v : AV) := evTab Tryz.prog tab (dm0, go) 100 f_differ_attempt pre [v]
abbrev preR (a : D) : List ABlk := [⟨0, T_string, .box [.d a]⟩, ⟨0, T_api_DifferPlan, .box [.zc, .d (int 0), .d (int 0)]⟩]
abbrev cloR : AV := .fn f_differ_Read_1 [] [.ptr 0 0 0 0, .ptr 1 0 0 0]
def postR (n a b : D) : List PB := [.same, .upd ⟨0, T_api_DifferPlan, .box [.d n, .d a, .d b]⟩]
def postR2 (s n a b : D) : List PB := [.upd ⟨0, T_string, .box [.d s]⟩, .upd ⟨0, T_api_DifferPlan, .box [.d n, .d a, .d b]⟩]
theorem att_goR (go : GoB) (a : D) : runAttR go (preR a) cloR = runAttR (fun _ _ _ => go (.fnc f_differ_Read_1) (preR a) [.ptr 0 0 0 0, .ptr 1 0 0 0]) (preR a) cloR := by kernel_rfl
theorem att_retR (s n a b : D) : runAttR (fun _ _ _ => some (.ret (.tup []), postR n a b)) (preR s) cloR = some (.ret (.tup [.d (int 0), .d (int 0)]), postR2 s n a b) := by kernel_rfl
theorem Read_1_ret (hg : GOK g) (t : Str) (ht : t.length ≤ 300) (p : Plan) (h : readQ t = some p) : MeetsH (Tz g) f_differ_Read_1 (preR (.str t)) [.ptr 0 0 0 0, .ptr 1 0 0 0] (.ret (.tup [])) (postR (spans p.starts) (int p.rows) (int p.guard)) := by
  refine meetsH_differ_Read_1 rfl ?_
  unfold vc_differ_Read_1
  simp [preR, numbered, lookH]
  refine CALL.val [.str t] _ rfl (parsed_ret hg t ht p h) (.inl rfl) ?_
  simp [lookH, Plan.d]
  refine ⟨[], ?_⟩
  simp [postR, yv, yv.yvL, yh, yb, yver, bodyOf, fz, fz.fzL, fzH, fzB, stay, src, lookH, NodupB, disjB]
theorem attR_meets {a : D} {out o2 : Out} {po po2 : List PB} (h : MeetsH (Tz g) f_differ_Read_1 (preR a) [.ptr 0 0 0 0, .ptr 1 0 0 0] out po) (h2 : runAttR (fun _ _ _ => some (out, po)) (preR a) cloR = some (o2, po2)) : MeetsH (Tz g) f_differ_attempt (preR a) [cloR] o2 po2 := by
  refine evTab_ok (C := Tz g) rfl tab_ok (onB_ok h) 100 ?_
  have h1 := att_goR (onB f_differ_Read_1 (preR a) [.ptr 0 0 0 0, .ptr 1 0 0 0] out po) a
  rw [onB_at] at h1
  exact h1.trans h2
theorem ok_facts {p : Plan} (h : p.ok = true) : 1 ≤ p.starts.length ∧ p.starts.length ≤ 4 ∧ 1 ≤ p.rows ∧ p.rows ≤ 12 ∧ 0 ≤ p.guard ∧ p.guard ≤ 3 ∧ ∀ s, s ∈ p.starts → (-100000 < s.low ∧ s.low < 100000) ∧ (-100000 < s.high ∧ s.high < 100000) := by
  simp [Plan.ok, inB] at h
  refine ⟨by omega, by omega, by omega, by omega, by omega, by omega, fun s hs => ?_⟩
  have := h.2.2.2.2.2.2 s hs
  simp [startB, inB] at this
  omega
theorem TxOK_ok {p : Plan} (hok : p.ok = true) : TxOK p := by
  obtain ⟨a1, a2, a3, a4, a5, a6, a7⟩ := ok_facts hok
  refine ⟨by simp [bigI]; omega, by omega, fun s hs => ?_⟩
  have := a7 s hs
  simp [bigI]
  omega
theorem rowsP_no {p : Plan} (h : TxOK p) : ∀ r, r ∈ rowsP p → (10 : UInt8) ∉ r := fun r hr => by
  rcases List.mem_cons.1 hr with rfl | hr
  · exact rowT_no (by decide) (by decide) (by decide) (by decide) h.head
  · obtain ⟨s, hs, rfl⟩ := List.mem_map.1 hr
    exact rowT_no (by decide) (by decide) (by decide) (by decide) (h.starts s hs)
theorem bodyL_len : ∀ (rows : List Str) (m : Nat), (∀ r, r ∈ rows → r.length ≤ m) → (bodyT rows).length ≤ rows.length * (m + 1)
  | [], m, _ => by simp [bodyT]
  | r :: rs, m, h => by
    have ih := bodyL_len rs m (fun x hx => h x (List.mem_cons_of_mem _ hx))
    have hr := h r List.mem_cons_self
    have e : bodyT (r :: rs) = r ++ [10] ++ bodyT rs := by simp [bodyT]
    rw [e]
    simp only [List.length_append, List.length_cons, List.length_nil, Nat.add_mul, Nat.one_mul]
    omega
theorem bodyT_app (a b : List Str) : bodyT (a ++ b) = bodyT a ++ bodyT b := by simp [bodyT]
theorem itoa_few (k : Nat) {n : Int} (hk : k ≤ 4) (h1 : -((10 ^ (k + 1) : Nat) : Int) < n) (h2 : n < ((10 ^ (k + 1) : Nat) : Int)) : (itoaX n).length ≤ k + 2 ∧ (0 ≤ n → (itoaX n).length ≤ k + 1) := by
  have hp : 10 ^ (k + 1) ≤ 10 ^ 5 := Nat.pow_le_pow_right (by omega) (by omega)
  rcases (by omega : 0 ≤ n ∨ n < 0) with h0 | h0
  · obtain ⟨u, rfl⟩ : ∃ u : Nat, n = u := ⟨n.toNat, by omega⟩
    rw [itoaX_nonneg u (by omega)]
    have := digs_len k u (by omega)
    omega
  · obtain ⟨u, rfl⟩ : ∃ u : Nat, n = -(u : Int) := ⟨n.natAbs, by omega⟩
    rw [itoaX_neg u (by omega) (by omega)]
    have := digs_len k u (by omega)
    simp only [List.length_cons]
    exact ⟨by omega, fun h => by omega⟩
theorem rowT2 (w : Str) (a b : Int) : (rowT w [a, b]).length = w.length + (itoaX a).length + (itoaX b).length + 2 := by simp [rowT]; omega
theorem text_short {p : Plan} (hok : p.ok = true) : (textP p).length ≤ 110 := by
  obtain ⟨a1, a2, a3, a4, a5, a6, a7⟩ := ok_facts hok
  have h1 := (itoa_few 1 (n := p.rows) (by omega) (by omega) (by omega)).2 (by omega)
  have h2 := (itoa_few 0 (n := p.guard) (by omega) (by omega) (by omega)).2 (by omega)
  have b1 := bodyL_len [rowT planW [p.rows, p.guard]] 9 (fun r hr => by
    obtain rfl := List.mem_singleton.1 hr
    rw [rowT2]
    have : planW.length = 4 := rfl
    omega)
  have b2 := bodyL_len (p.starts.map startT) 19 (fun r hr => by
    obtain ⟨s, hs, rfl⟩ := List.mem_map.1 hr
    obtain ⟨c1, c2⟩ := a7 s hs
    have d1 := (itoa_few 4 (n := s.low) (by omega) (by omega) (by omega)).1
    have d2 := (itoa_few 4 (n := s.high) (by omega) (by omega) (by omega)).1
    unfold startT
    rw [rowT2]
    have : startW.length = 5 := rfl
    omega)
  have e : rowsP p = [rowT planW [p.rows, p.guard]] ++ p.starts.map startT := rfl
  have hE : (endT (chkRows 0 (rowsP p) % 227)).length = 7 := by
    rw [endT_eq (by have := Nat.mod_lt (chkRows 0 (rowsP p)) (show 0 < 227 by omega); omega)]
    rfl
  unfold textP sealT
  rw [List.length_append, List.length_append, hE, e, bodyT_app, List.length_append]
  simp only [List.length_map, List.length_cons, List.length_nil] at b1 b2 ⊢
  have := Nat.mul_le_mul_right 20 a2
  omega
end Go.Vc
