/- A part of the proof: general laws of a reading of the model by abstract data, or contracts of the functions that the law calls. -/
import Derived.Test.YtaacglfaheijaaaGreatDoorVc54
import Derived.Test.YtaacglfaheijaaaGreatDoorVc26
import Derived.Test.YtaacglfaheijaaaGreatDoorVc28
import Derived.Test.YtaacglfaheijaaaGreatDoorVc29
set_option maxRecDepth 100000
namespace Go.Vc
open Go Go.Proofs
variable {g : GG}
attribute [local simp] and_assoc
theorem Itoa_meets (hg : GOK g) (n : Int) (h1 : -1000000000 ≤ n) (h2 : n ≤ 1000000000) : Meets (Tz g) f_strconv_Itoa [int n] ⟨.d (.str (itoaX n)), []⟩ :=
  ito_X hg _ _ _ (by
    have e1 : decide (-9223372036854775808 ≤ n) = true := decide_eq_true (by omega)
    have e2 : decide (n ≤ 9223372036854775807) = true := decide_eq_true (by omega)
    simp only [List.map_cons, List.map_nil, itoX, e1, e2, Bool.and_true])
theorem strsX_map : ∀ l : List Str, strsX (l.map .str) = some l
  | [] => rfl
  | s :: r => by
    have := strsX_map r
    simp only [List.map_cons, strsX, this]
theorem Join_meets (l : List Str) (sep : Str) (h1 : l.length ≤ 1000000) (h2 : (joinL sep l).length ≤ 1000000) : Meets (Tz g) f_strings_Join [strsD l, .str sep] ⟨.d (.str (joinL sep l)), []⟩ :=
  joi_X _ _ _ (by
    have e1 : Nat.ble l.length 1000000 = true := Nat.ble_eq_true_of_le h1
    have e2 : Nat.ble (joinL sep l).length 1000000 = true := Nat.ble_eq_true_of_le h2
    simp only [List.map_cons, List.map_nil, strsD, joiX, strsX_map, e1, e2, Bool.and_true])
abbrev pageW : Str := [112, 97, 103, 101]
abbrev lineW : Str := [108, 105, 110, 101]
abbrev readW : Str := [114, 101, 97, 100]
abbrev mendW : Str := [109, 101, 110, 100]
abbrev fallW : Str := [102, 97, 108, 108]
theorem words_meets : Meets (Tz g) f_proof_words [] ⟨.d (.agg [.str pageW, .str lineW, .str readW, .str mendW, .str fallW]), []⟩ := by
  refine meets_proof_words ?_
  unfold vc_proof_words
  simp
def wordK (k : Int) : Str := match decide (k = 1) with | true => readW | false => match decide (k = 2) with | true => mendW | false => fallW
set_option maxHeartbeats 2000000 in
theorem told_loop_0 (hg : GOK g) (w : Str) (l : List Int) (hw : w.length ≤ 1000) (hl : l.length ≤ 1000) (hb : l.all bigI = true) (h : Heap) (hh : lookH h 96 = some ⟨0, T_int, .lst (l.map int)⟩) :
    LOOP [.d (.str w), .own 96 0, .d (int l.length), .d (int 0)] h 168 fun vs9 h10 next11 => vc_proof_told_k0 (Tz g) [] (.d (.str (rowT w l))) [] vs9 h10 next11 := by
  refine LOOP.mk Nat (fun k => [.d (.str (rowT w (l.take k))), .own 96 0, .d (int l.length), .d (int k)]) (fun _ => [(96, some ⟨0, T_int, .lst (l.map int)⟩)]) (fun k => k ≤ l.length) (fun k => l.length - k) [] (by simp) 0 (by omega) (by simp [WEAK, rowT, hh]) (fun _ _ => rfl) ?_
  intro k hk
  have hwk := wrap_id (n := (k : Int) + 1) (by omega) (by omega)
  have hlen := rowT_len w (l.take k) (all_take hb k)
  have htk := List.length_take_le' k l
  have htk2 := List.length_take_le k l
  simp [vc_proof_told_k0]
  refine ⟨fun hlt => ?_, fun hge => ?_⟩
  · have hgk : l[k]? = some l[k] := List.getElem?_eq_getElem hlt
    have hn := List.all_eq_true.1 hb _ (List.getElem_mem hlt)
    generalize l[k] = n at hgk hn
    simp only [bigI, Bool.and_eq_true, decide_eq_true_eq] at hn
    have hnx := rowT_next (w := w) hgk
    have hil := itoaX_len n hn.1 hn.2
    simp [hgk]
    refine ⟨hlt, ?_⟩
    refine CALL.val [int n] _ rfl (Itoa_meets hg n hn.1 hn.2) (.inl rfl) ?_
    simp [hwk]
    refine ⟨by omega, by omega, k + 1, by omega, ?_, by omega⟩
    simp [WEAK, hnx, lookH]
  · have : k = l.length := by omega
    subst this
    rw [take_all (Nat.le_refl _)]
set_option maxHeartbeats 2000000 in
theorem told_loop_1 (hg : GOK g) (w : Str) (l : List Int) (hw : w.length ≤ 1000) (hl : l.length ≤ 1000) (hb : l.all bigI = true) (h : Heap) (hh : lookH h 192 = some ⟨0, T_int, .lst (l.map int)⟩) :
    LOOP [.d (.str w), .own 192 0, .d (int l.length), .d (int 0)] h 272 fun vs9 h10 next11 => vc_proof_told_k1 (Tz g) [] (.d (.str (rowT w l))) [] vs9 h10 next11 := by
  refine LOOP.mk Nat (fun k => [.d (.str (rowT w (l.take k))), .own 192 0, .d (int l.length), .d (int k)]) (fun _ => [(192, some ⟨0, T_int, .lst (l.map int)⟩)]) (fun k => k ≤ l.length) (fun k => l.length - k) [] (by simp) 0 (by omega) (by simp [WEAK, rowT, hh]) (fun _ _ => rfl) ?_
  intro k hk
  have hwk := wrap_id (n := (k : Int) + 1) (by omega) (by omega)
  have hlen := rowT_len w (l.take k) (all_take hb k)
  have htk := List.length_take_le' k l
  have htk2 := List.length_take_le k l
  simp [vc_proof_told_k1]
  refine ⟨fun hlt => ?_, fun hge => ?_⟩
  · have hgk : l[k]? = some l[k] := List.getElem?_eq_getElem hlt
    have hn := List.all_eq_true.1 hb _ (List.getElem_mem hlt)
    generalize l[k] = n at hgk hn
    simp only [bigI, Bool.and_eq_true, decide_eq_true_eq] at hn
    have hnx := rowT_next (w := w) hgk
    have hil := itoaX_len n hn.1 hn.2
    simp [hgk]
    refine ⟨hlt, ?_⟩
    refine CALL.val [int n] _ rfl (Itoa_meets hg n hn.1 hn.2) (.inl rfl) ?_
    simp [hwk]
    refine ⟨by omega, by omega, k + 1, by omega, ?_, by omega⟩
    simp [WEAK, hnx, lookH]
  · have : k = l.length := by omega
    subst this
    rw [take_all (Nat.le_refl _)]
set_option maxHeartbeats 2000000 in
theorem told_loop_2 (hg : GOK g) (w : Str) (l : List Int) (hw : w.length ≤ 1000) (hl : l.length ≤ 1000) (hb : l.all bigI = true) (h : Heap) :
    LOOP [.d (.str w), .d (ints l), .d (int l.length), .d (int 0)] h 280 fun vs9 h10 next11 => vc_proof_told_k2 (Tz g) [] (.d (.str (rowT w l))) [] vs9 h10 next11 := by
  refine LOOP.mk Nat (fun k => [.d (.str (rowT w (l.take k))), .d (ints l), .d (int l.length), .d (int k)]) (fun _ => []) (fun k => k ≤ l.length) (fun k => l.length - k) [] (by simp) 0 (by omega) (by simp [WEAK, rowT, ints]) (fun _ _ => rfl) ?_
  intro k hk
  have hwk := wrap_id (n := (k : Int) + 1) (by omega) (by omega)
  have hlen := rowT_len w (l.take k) (all_take hb k)
  have htk := List.length_take_le' k l
  have htk2 := List.length_take_le k l
  simp [vc_proof_told_k2, ints]
  refine ⟨fun hlt => ?_, fun hge => ?_⟩
  · have hgk : l[k]? = some l[k] := List.getElem?_eq_getElem hlt
    have hn := List.all_eq_true.1 hb _ (List.getElem_mem hlt)
    generalize l[k] = n at hgk hn
    simp only [bigI, Bool.and_eq_true, decide_eq_true_eq] at hn
    have hnx := rowT_next (w := w) hgk
    have hil := itoaX_len n hn.1 hn.2
    simp [hgk]
    refine CALL.val [int n] _ rfl (Itoa_meets hg n hn.1 hn.2) (.inl rfl) ?_
    simp [hwk]
    refine ⟨by omega, by omega, k + 1, by omega, ?_, by omega⟩
    simp [WEAK, hnx]
  · have : k = l.length := by omega
    subst this
    rw [take_all (Nat.le_refl _)]
set_option maxHeartbeats 2000000 in
theorem told_head (hg : GOK g) (n : Int) (h1 : -1000000000 ≤ n) (h2 : n ≤ 1000000000) : Meets (Tz g) f_proof_told [.iface T_proof_head (int n)] ⟨.d (.str (rowT pageW [n])), []⟩ := by
  have hb : [n].all bigI = true := by simp [bigI, h1, h2]
  refine meets_proof_told ?_
  unfold vc_proof_told
  simp [vc_proof_told_k6]
  refine CALL.mk [] _ rfl words_meets (.inl rfl) (by simp) ?_
  simp
  exact told_loop_0 hg pageW [n] (by simp) (by simp) hb _ (by simp)
set_option maxHeartbeats 2000000 in
theorem told_set (hg : GOK g) (a b c : Int) (hb : [a, b, c].all bigI = true) : Meets (Tz g) f_proof_told [.iface T_proof_set (.agg [int a, int b, int c])] ⟨.d (.str (rowT lineW [a, b, c])), []⟩ := by
  refine meets_proof_told ?_
  unfold vc_proof_told
  have hT1 : ¬ T_proof_set = T_proof_head := by decide
  simp [vc_proof_told_k7, hT1]
  refine ⟨rfl, ?_⟩
  refine CALL.mk [] _ rfl words_meets (.inl rfl) (by simp) ?_
  simp
  exact told_loop_1 hg lineW [a, b, c] (by simp) (by simp) hb _ (by simp)
set_option maxHeartbeats 2000000 in
theorem told_noted (hg : GOK g) (e : Nt) (hk : 1 ≤ e.kind ∧ e.kind ≤ 3) (hl : e.nums.length ≤ 1000) (hb : e.nums.all bigI = true) : Meets (Tz g) f_proof_told [.iface T_proof_noted e.d] ⟨.d (.str (rowT (wordK e.kind) e.nums)), []⟩ := by
  obtain ⟨k, l⟩ := e
  have hk : 1 ≤ k ∧ k ≤ 3 := hk
  have hb : l.all bigI = true := hb
  have hl : l.length ≤ 1000 := hl
  have w1 := wrap_id (n := k - 1) (by omega) (by omega)
  have w2 := wrap_id (n := 2 + (k - 1)) (by omega) (by omega)
  refine meets_proof_told ?_
  unfold vc_proof_told
  have hT1 : ¬ T_proof_noted = T_proof_head := by decide
  have hT2 : ¬ T_proof_noted = T_proof_set := by decide
  simp [vc_proof_told_k7, vc_proof_told_k4, Nt.d, w1, w2, hT1, hT2]
  refine ⟨rfl, ?_⟩
  refine CALL.mk [] _ rfl words_meets (.inl rfl) (by simp) ?_
  rcases (by omega : k = 1 ∨ k = 2 ∨ k = 3) with rfl | rfl | rfl
  · simp [ints]
    have hwk : wordK 1 = readW := rfl
    rw [hwk]
    have := told_loop_2 hg readW l (by simp) hl hb
    simp only [ints] at this
    exact this _
  · simp [ints]
    have hwk : wordK 2 = mendW := rfl
    rw [hwk]
    have := told_loop_2 hg mendW l (by simp) hl hb
    simp only [ints] at this
    exact this _
  · simp [ints]
    have hwk : wordK 3 = fallW := rfl
    rw [hwk]
    have := told_loop_2 hg fallW l (by simp) hl hb
    simp only [ints] at this
    exact this _
end Go.Vc

namespace Go.Vc
open Go Go.Proofs
variable {g : GG}
attribute [local simp] and_assoc
def lineT (l : Ln) : Str := rowT lineW [l.setter, l.right, l.set]
def noteT (e : Nt) : Str := rowT (wordK e.kind) e.nums
def rowsP (p : Pg) : List Str := rowT pageW [p.people] :: (p.lines.map lineT ++ p.log.map noteT)
def textP (p : Pg) : Str := sealT 269 (rowsP p)
structure TxOK (p : Pg) : Prop where
  people : bigI p.people = true
  nl : p.lines.length ≤ 200
  ng : p.log.length ≤ 200
  lines : ∀ l, l ∈ p.lines → [l.setter, l.right, l.set].all bigI = true
  log : ∀ e, e ∈ p.log → (1 ≤ e.kind ∧ e.kind ≤ 3) ∧ e.nums.length ≤ 6 ∧ e.nums.all bigI = true
theorem wordK_len (k : Int) : (wordK k).length = 4 := by
  unfold wordK
  split
  · rfl
  · split <;> rfl
theorem rowsP_len {p : Pg} (h : TxOK p) : ∀ r, r ∈ rowsP p → r.length ≤ 1000 := fun r hr => by
  rcases List.mem_cons.1 hr with rfl | hr
  · have := rowT_len pageW [p.people] (by simp [h.people])
    simp at this
    omega
  · rcases List.mem_append.1 hr with hr | hr
    · obtain ⟨l, hl, rfl⟩ := List.mem_map.1 hr
      have := rowT_len lineW [l.setter, l.right, l.set] (h.lines l hl)
      simp at this
      unfold lineT
      omega
    · obtain ⟨e, he, rfl⟩ := List.mem_map.1 hr
      obtain ⟨_, h2, h3⟩ := h.log e he
      have := rowT_len (wordK e.kind) e.nums h3
      rw [wordK_len] at this
      unfold noteT
      omega
theorem rowsP_count {p : Pg} (h : TxOK p) : (rowsP p).length ≤ 401 := by
  have := h.nl
  have := h.ng
  simp [rowsP]
  omega
theorem joinL_body : ∀ (rows : List Str), rows ≠ [] → joinL [10] rows ++ [10] = bodyT rows
  | [], h => absurd rfl h
  | [x], _ => by simp [joinL, bodyT]
  | x :: y :: r, _ => by
    have ih := joinL_body (y :: r) (by simp)
    have e : bodyT (x :: y :: r) = x ++ [10] ++ bodyT (y :: r) := by simp [bodyT]
    rw [e, ← ih]
    simp [joinL]
theorem seal_join (m : Nat) (rows : List Str) : joinL [10] (rows ++ [endT (chkRows 0 rows % m)]) ++ [10] = sealT m rows := by
  rw [joinL_body _ (by simp)]
  simp [sealT, bodyT]
def rowB (rows : List Str) (v : Nat) : Option ABlk := some ⟨v, T_string, .lst (rows.map .str)⟩
set_option maxHeartbeats 8000000 in
theorem text_end (hg : GOK g) (rows : List Str) (v : Nat) (h : Heap) (hh : lookH h 72 = rowB rows v) (hl : rows.length ≤ 500) (hr : ∀ r, r ∈ rows → r.length ≤ 1000) :
    LOOP [.own 72 v, .d (int 0), .own 72 v, .d (int rows.length), .d (int 0)] h 216 fun vs20 h21 next22 => vc_proof_text_k3 (Tz g) [] (.d (.str (sealT 269 rows))) [] vs20 h21 next22 := by
  refine LOOP.mk Nat (fun j => [.own 72 v, .d (int (chkRows 0 (rows.take j) : Nat)), .own 72 v, .d (int rows.length), .d (int j)]) (fun _ => [(72, rowB rows v)]) (fun j => j ≤ rows.length) (fun j => rows.length - j) [] (by simp) 0 (by omega) (by simp [WEAK, hh, chkRows]) (fun _ _ => rfl) ?_
  intro j hj
  have hwj := wrap_id (n := (j : Int) + 1) (by omega) (by omega)
  have hrt : ∀ j, ∀ r, r ∈ rows.take j → r.length ≤ 1000 := fun j r h => hr r (List.mem_of_mem_take h)
  have hcb := chkRows_le (rows.take j) 0 (hrt j) (by have := List.length_take_le j rows; omega)
  have htl : (rows.take j).length ≤ 500 := by have := List.length_take_le' j rows; omega
  simp [vc_proof_text_k3, rowB]
  refine ⟨fun hlt => ?_, fun hge => ?_⟩
  · obtain ⟨r, hgr⟩ : ∃ r, rows[j]? = some r := ⟨_, List.getElem?_eq_getElem hlt⟩
    have hrl := hr r (List.mem_of_getElem? hgr)
    have hcn := chkRows_next rows 0 j r hgr
    have hrb := chkRow_bound (i := j) (r := r) (by omega) hrl
    rw [Nat.zero_add] at hcn
    generalize hC : chkRows 0 (rows.take j) = C at *
    simp [hgr]
    refine ⟨hlt, ?_⟩
    refine LOOP.mk Nat (fun k => [.own 72 v, .d (int (C + chkRow j 0 (r.take k) : Nat)), .d (int j), .d (.str r), .own 72 v, .d (int rows.length), .d (int j), .d (int r.length), .d (int k)]) (fun _ => [(72, rowB rows v)]) (fun k => k ≤ r.length) (fun k => r.length - k) [] (by simp) 0 (by omega) (by simp [WEAK, rowB, chkRow]) (fun _ _ => rfl) ?_
    intro k hk
    have hwk := wrap_id (n := (k : Int) + 1) (by omega) (by omega)
    have hmo := chkRow_mono j r 0 k
    simp [vc_proof_text_k0]
    refine ⟨fun hlt2 => ?_, fun hge2 => ?_⟩
    · have hgk : r[k]? = some r[k] := List.getElem?_eq_getElem hlt2
      generalize r[k] = c at hgk
      have hnx := chkRow_next j r 0 k c hgk
      have hmo2 := chkRow_mono j r 0 (k + 1)
      rw [Nat.zero_add] at hnx
      have hc : c.toNat ≤ 255 := by have := c.toNat_lt; omega
      have p1 : c.toNat * (k + 1) ≤ 255 * 1001 := Nat.mul_le_mul hc (by omega)
      have p2 : c.toNat * (k + 1) * (j + 1) ≤ 255 * 1001 * 1001 := Nat.mul_le_mul p1 (by omega)
      have q1 : (c.toNat : Int) * ((k : Int) + 1) = ((c.toNat * (k + 1) : Nat) : Int) := by push_cast; rfl
      have q2 : ((c.toNat * (k + 1) : Nat) : Int) * ((j : Int) + 1) = ((c.toNat * (k + 1) * (j + 1) : Nat) : Int) := by push_cast; rfl
      generalize hP : c.toNat * (k + 1) = P1 at *
      generalize hQ : P1 * (j + 1) = P2 at *
      generalize hR1 : chkRow j 0 (r.take k) = R1 at *
      have w0 := wrap_id (n := (c.toNat : Int)) (by omega) (by omega)
      have w1 := wrap_id (n := (P1 : Int)) (by omega) (by omega)
      have w2 := wrap_id (n := (P2 : Int)) (by omega) (by omega)
      have w3 := wrap_id (n := (C : Int) + (R1 : Int) + (P2 : Int)) (by omega) (by omega)
      simp [hgk, hwk, hwj, w0, q1, w1, q2, w2, w3]
      refine ⟨k + 1, by omega, ?_, by omega⟩
      simp [WEAK, hnx, Int.add_assoc, rowB, lookH]
    · have : k = r.length := by omega
      subst this
      rw [take_all (Nat.le_refl _)]
      simp [hwj]
      refine ⟨j + 1, by omega, ?_, by omega⟩
      simp [WEAK, hcn, rowB, lookH]
  · have : j = rows.length := by omega
    subst this
    rw [take_all (Nat.le_refl _)] at hcb ⊢
    have hbl := bodyT_len rows hr
    have hcm := Nat.mod_lt (chkRows 0 rows) (show 0 < 269 by omega)
    have e1 : ((chkRows 0 rows : Nat) : Int).tmod 269 = ((chkRows 0 rows % 269 : Nat) : Int) := rfl
    have hsj := seal_join 269 rows
    have hsl : (sealT 269 rows).length ≤ 600000 := by
      have e : sealT 269 rows = bodyT rows ++ (endT (chkRows 0 rows % 269) ++ [10]) := rfl
      rw [e, endT_eq (by omega)]
      simp
      omega
    generalize sealT 269 rows = T at *
    generalize chkRows 0 rows % 269 = c at *
    have e2 : (c : Int).tdiv 100 = ((c / 100 : Nat) : Int) := rfl
    have e3 : (c : Int).tdiv 10 = ((c / 10 : Nat) : Int) := rfl
    have e4 : (c : Int).tmod 10 = ((c % 10 : Nat) : Int) := rfl
    have e5 : ((c / 10 : Nat) : Int).tmod 10 = ((c / 10 % 10 : Nat) : Int) := rfl
    have v2 := wrap_id (n := ((c / 100 : Nat) : Int)) (by omega) (by omega)
    have v3 := wrap_id (n := ((c / 10 : Nat) : Int)) (by omega) (by omega)
    have d1 := Itoa_meets hg ((c / 100 : Nat) : Int) (by omega) (by omega)
    have d2 := Itoa_meets hg ((c / 10 % 10 : Nat) : Int) (by omega) (by omega)
    have d3 := Itoa_meets hg ((c % 10 : Nat) : Int) (by omega) (by omega)
    have l1 := itoaX_len ((c / 100 : Nat) : Int) (by omega) (by omega)
    have l2 := itoaX_len ((c / 10 % 10 : Nat) : Int) (by omega) (by omega)
    have l3 := itoaX_len ((c % 10 : Nat) : Int) (by omega) (by omega)
    have he : endT c = [101, 110, 100, 32] ++ (itoaX ((c / 100 : Nat) : Int) ++ (itoaX ((c / 10 % 10 : Nat) : Int) ++ itoaX ((c % 10 : Nat) : Int))) := rfl
    rw [he] at hsj
    generalize ((c / 100 : Nat) : Int) = n1 at *
    generalize ((c / 10 % 10 : Nat) : Int) = n2 at *
    generalize ((c % 10 : Nat) : Int) = n3 at *
    generalize ((c / 10 : Nat) : Int) = n4 at *
    have hJl : (joinL [10] (rows ++ [[101, 110, 100, 32] ++ (itoaX n1 ++ (itoaX n2 ++ itoaX n3))])).length ≤ 999999 := by
      have := congrArg List.length hsj
      rw [List.length_append] at this
      simp only [List.length_cons, List.length_nil] at this
      omega
    have hJ := Join_meets (g := g) (rows ++ [[101, 110, 100, 32] ++ (itoaX n1 ++ (itoaX n2 ++ itoaX n3))]) [10] (by simp; omega) (by omega)
    rw [← hsj]
    generalize joinL [10] (rows ++ [[101, 110, 100, 32] ++ (itoaX n1 ++ (itoaX n2 ++ itoaX n3))]) = J at *
    simp [e1, e2, v2]
    refine CALL.val [int n1] _ rfl d1 (.inl rfl) ?_
    simp [vc_proof_text_k2, e3, v3, e5]
    refine ⟨by omega, ?_⟩
    refine CALL.val [int n2] _ rfl d2 (.inl rfl) ?_
    simp [e4]
    refine ⟨by omega, ?_⟩
    refine CALL.val [int n3] _ rfl d3 (.inl rfl) ?_
    simp [vc_proof_text_k1]
    refine ⟨by omega, by omega, ?_⟩
    refine CALL.val [strsD (rows ++ [[101, 110, 100, 32] ++ (itoaX n1 ++ (itoaX n2 ++ itoaX n3))]), .str [10]] _ (by simp [argsD, argD, toD, lookH, strsD]) hJ (.inr rfl) ?_
    simp
    omega
def rows2 (p : Pg) (k : Nat) : List Str := rowT pageW [p.people] :: (p.lines.map lineT ++ (p.log.take k).map noteT)
def rows1 (p : Pg) (k : Nat) : List Str := rowT pageW [p.people] :: (p.lines.take k).map lineT
theorem rows1_next {p : Pg} {k : Nat} {l : Ln} (h : p.lines[k]? = some l) : rows1 p (k + 1) = rows1 p k ++ [lineT l] := by
  unfold rows1
  rw [take_next h]
  simp
theorem rows2_next {p : Pg} {k : Nat} {e : Nt} (h : p.log[k]? = some e) : rows2 p (k + 1) = rows2 p k ++ [noteT e] := by
  unfold rows2
  rw [take_next h]
  simp
theorem rows1_end (p : Pg) : rows1 p p.lines.length = rows2 p 0 := by simp [rows1, rows2]
theorem rows2_end (p : Pg) : rows2 p p.log.length = rowsP p := by simp [rows2, rowsP]
theorem rows1_len (p : Pg) (k : Nat) : (rows1 p k).length ≤ k + 1 := by simp [rows1]; omega
theorem rows2_len (p : Pg) (k : Nat) : (rows2 p k).length ≤ p.lines.length + k + 1 := by simp [rows2]; omega
set_option maxHeartbeats 8000000 in
theorem text_meets (hg : GOK g) (p : Pg) (hp : TxOK p) : Meets (Tz g) f_proof_text [p.d] ⟨.d (.str (textP p)), []⟩ := by
  have hpe := hp.people
  simp only [bigI, Bool.and_eq_true, decide_eq_true_eq] at hpe
  have hnl := hp.nl
  have hng := hp.ng
  have hend := text_end hg (rowsP p) (p.lines.length + p.log.length)
  have hrl := rowsP_len hp
  have hrc := rowsP_count hp
  have hT : textP p = sealT 269 (rowsP p) := rfl
  rw [← hT] at hend
  refine meets_proof_text ?_
  unfold vc_proof_text
  simp [Pg.d, lns, ents]
  refine CALL.val [.iface T_proof_head (int p.people)] _ (by simp [argsD, argD, toD]) (told_head hg p.people hpe.1 hpe.2) (.inl rfl) ?_
  simp
  refine LOOP.mk Nat (fun k => [.ptr 24 0 0 0, .own 72 k, .d (.list (p.lines.map Ln.d)), .d (int p.lines.length), .d (int k)]) (fun k => [(72, rowB (rows1 p k) k), (24, some ⟨0, T_api_ProofPage, .box [.d (int p.people), .d (.list (p.lines.map Ln.d)), .d (.list (p.log.map Nt.d))]⟩)])
    (fun k => k ≤ p.lines.length) (fun k => p.lines.length - k) [] (by simp) 0 (by omega) (by simp [WEAK, lookH, rowB, rows1]) (fun _ _ => rfl) ?_
  intro k hk
  have hwk := wrap_id (n := (k : Int) + 1) (by omega) (by omega)
  have hr1 := rows1_len p k
  simp [vc_proof_text_k5]
  refine ⟨fun hlt => ?_, fun hge => ?_⟩
  · obtain ⟨l, hgl⟩ : ∃ l, p.lines[k]? = some l := ⟨_, List.getElem?_eq_getElem hlt⟩
    have hlo := hp.lines l (List.mem_of_getElem? hgl)
    have hnx := rows1_next hgl
    generalize hR : rows1 p k = R at *
    simp [hgl, Ln.d]
    refine CALL.val [.iface T_proof_set (.agg [int l.setter, int l.right, int l.set])] _ (by simp [argsD, argD, toD]) (told_set hg l.setter l.right l.set hlo) (.inl rfl) ?_
    simp [rowB, lookH, hwk]
    refine ⟨by omega, k + 1, by omega, ?_, by omega⟩
    simp [WEAK, lookH, hnx, lineT]
  · have : k = p.lines.length := by omega
    subst this
    rw [rows1_end]
    simp [rowB]
    refine LOOP.mk Nat (fun k => [.own 72 (p.lines.length + k), .d (.list (p.log.map Nt.d)), .d (int p.log.length), .d (int k)]) (fun k => [(72, rowB (rows2 p k) (p.lines.length + k))])
      (fun k => k ≤ p.log.length) (fun k => p.log.length - k) [] (by simp) 0 (by omega) (by simp [WEAK, rowB]) (fun _ _ => rfl) ?_
    intro k hk
    have hwk := wrap_id (n := (k : Int) + 1) (by omega) (by omega)
    have hr2 := rows2_len p k
    simp [vc_proof_text_k4]
    refine ⟨fun hlt => ?_, fun hge => ?_⟩
    · obtain ⟨e, hge⟩ : ∃ e, p.log[k]? = some e := ⟨_, List.getElem?_eq_getElem hlt⟩
      obtain ⟨e1, e2, e3⟩ := hp.log e (List.mem_of_getElem? hge)
      have hnx := rows2_next hge
      have hTo := told_noted hg e e1 (by omega) e3
      generalize hR : rows2 p k = R at *
      simp [hge, Nt.d]
      refine CALL.val [.iface T_proof_noted e.d] _ (by simp [argsD, argD, toD, Nt.d]) hTo (.inl rfl) ?_
      simp [rowB, lookH, hwk]
      refine ⟨by omega, k + 1, by omega, ?_, by omega⟩
      simp [WEAK, lookH, hnx, noteT]
      omega
    · have : k = p.log.length := by omega
      subst this
      rw [rows2_end]
      simp [rowB]
      exact hend _ (by simp [rowB]) (by omega) hrl
end Go.Vc

namespace Go.Vc
open Go Go.Proofs
variable {g : GG}
attribute [local simp] and_assoc
theorem proof_Print_data (hg : GOK g) (p : Pg) (hok : p.ok = true) (hp : TxOK p) : Meets (Tz g) f_proof_Print [p.d] ⟨.tup [.d (.str (textP p)), .d (int 0)], []⟩ := by
  have h1 := hp.nl
  have h2 := hp.ng
  refine meets_proof_Print ?_
  unfold vc_proof_Print
  simp [Pg.d, lns, ents]
  refine CALL.val [p.d] _ rfl (proof_isPage_meets p (by omega) (by omega)) (.inl rfl) ?_
  simp [hok]
  refine CALL.val [p.d] _ rfl (text_meets hg p hp) (.inl rfl) ?_
  simp
end Go.Vc

namespace Go.Vc
open Go Go.Proofs
variable {g : GG}
attribute [local simp] and_assoc
set_option maxHeartbeats 8000000 in
theorem samePages_self (p : Pg) (h1 : p.lines.length ≤ 1000) (h2 : p.log.length ≤ 1000) (h3 : ∀ e, e ∈ p.log → e.nums.length ≤ 1000) : Meets (Tz g) f_ref09_SamePages [p.d, p.d] ⟨.d (.bool true), []⟩ := by
  refine meets_ref09_SamePages ?_
  unfold vc_ref09_SamePages
  simp [Pg.d, lns, ents, lookH]
  refine LOOP.mk Nat (fun k => [.ptr 24 0 0 0, .ptr 32 0 0 0, .d (int k)]) (fun _ => [(32, some ⟨0, T_api_ProofPage, .box [.d (int p.people), .d (.list (p.lines.map Ln.d)), .d (.list (p.log.map Nt.d))]⟩), (24, some ⟨0, T_api_ProofPage, .box [.d (int p.people), .d (.list (p.lines.map Ln.d)), .d (.list (p.log.map Nt.d))]⟩)]) (fun k => k ≤ p.lines.length) (fun k => p.lines.length - k) [] (by simp) 0 (by omega) (by simp [WEAK, lookH]) (fun _ _ => rfl) ?_
  intro k hk
  have hwk := wrap_id (n := (k : Int) + 1) (by omega) (by omega)
  simp [vc_ref09_SamePages_k4, lookH]
  refine ⟨fun hlt => ?_, fun hge => ?_⟩
  · obtain ⟨l, hgl⟩ : ∃ l, p.lines[k]? = some l := ⟨_, List.getElem?_eq_getElem hlt⟩
    simp [hgl, Ln.d, hwk]
    refine ⟨by rfl, k + 1, by omega, ?_, by omega⟩
    simp [WEAK, lookH]
  · have : k = p.lines.length := by omega
    subst this
    refine LOOP.mk Nat (fun k => [.ptr 24 0 0 0, .ptr 32 0 0 0, .d (int k)]) (fun _ => [(32, some ⟨0, T_api_ProofPage, .box [.d (int p.people), .d (.list (p.lines.map Ln.d)), .d (.list (p.log.map Nt.d))]⟩), (24, some ⟨0, T_api_ProofPage, .box [.d (int p.people), .d (.list (p.lines.map Ln.d)), .d (.list (p.log.map Nt.d))]⟩)]) (fun k => k ≤ p.log.length) (fun k => p.log.length - k) [] (by simp) 0 (by omega) (by simp [WEAK, lookH]) (fun _ _ => rfl) ?_
    intro k hk
    have hwk := wrap_id (n := (k : Int) + 1) (by omega) (by omega)
    simp [vc_ref09_SamePages_k3, lookH]
    intro hlt
    obtain ⟨e, hge⟩ : ∃ e, p.log[k]? = some e := ⟨_, List.getElem?_eq_getElem hlt⟩
    have he := h3 e (List.mem_of_getElem? hge)
    simp [hge, Nt.d, vc_ref09_SamePages_k2, lookH]
    refine CALL.val [ints e.nums, ints e.nums] _ rfl (ref01_Same_meets _ _ (by omega) (by omega)) (.inl rfl) ?_
    simp [vc_ref09_SamePages_k0, hwk]
    refine ⟨by rfl, k + 1, by omega, ?_, by omega⟩
    simp [WEAK, lookH]
end Go.Vc
