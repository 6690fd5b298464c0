/- A part of the proof: general laws of a reading of the model by abstract data, or contracts of the functions that the law calls. -/
import Derived.Test.YtcmdbmcggfmmnaaGreatDoorVc30
import Derived.Test.YtcmdbmcggfmmnaaGreatDoorVc25
import Derived.Test.YtcmdbmcggfmmnaaGreatDoorVc30
set_option maxRecDepth 100000
namespace Go.Vc
open Go Go.Proofs
variable {g : GG}
attribute [local simp] and_assoc
theorem Itoa_meets (hg : GOK g) (n : Int) (h1 : -1000000000 ≤ n) (h2 : n ≤ 1000000000) : Meets (Tz g) f_strconv_Itoa [int n] ⟨.d (.str (itoaX n)), []⟩ :=
  ito_X hg _ _ _ (by
    have e1 : decide (-9223372036854775808 ≤ n) = true := decide_eq_true (by omega)
    have e2 : decide (n ≤ 9223372036854775807) = true := decide_eq_true (by omega)
    simp only [List.map_cons, List.map_nil, itoX, e1, e2, Bool.and_true])
theorem strsX_map : ∀ l : List Str, strsX (l.map .str) = some l
  | [] => rfl
  | s :: r => by
    have := strsX_map r
    simp only [List.map_cons, strsX, this, Option.map_some]
theorem Join_meets (l : List Str) (sep : Str) (h1 : l.length ≤ 1000000) (h2 : (joinL sep l).length ≤ 1000000) : Meets (Tz g) f_strings_Join [strsD l, .str sep] ⟨.d (.str (joinL sep l)), []⟩ :=
  joi_X _ _ _ (by
    have e1 : Nat.ble l.length 1000000 = true := Nat.ble_eq_true_of_le h1
    have e2 : Nat.ble (joinL sep l).length 1000000 = true := Nat.ble_eq_true_of_le h2
    simp only [List.map_cons, List.map_nil, strsD, joiX, strsX_map, e1, e2, Bool.and_true])
abbrev planW : Str := [112, 108, 97, 110]
abbrev startW : Str := [115, 116, 97, 114, 116]
theorem words_meets : Meets (Tz g) f_differ_words [] ⟨.d (.agg [.str planW, .str startW]), []⟩ := by
  refine meets_differ_words ?_
  unfold vc_differ_words
  simp
theorem head_numbers_meets (p : Plan) : Meets (Tz g) f_differ_head_numbers [p.d] ⟨.d (ints [p.rows, p.guard]), []⟩ := by
  refine Meets.frz (T := T_int) (xs := [int p.rows, int p.guard]) ?_
  refine meets_differ_head_numbers ?_
  unfold vc_differ_head_numbers
  simp [Plan.d, spans, lookH]
theorem start_numbers_meets (s : Sp) : Meets (Tz g) f_differ_start_numbers [s.d] ⟨.d (ints [s.low, s.high]), []⟩ := by
  refine Meets.frz (T := T_int) (xs := [int s.low, int s.high]) ?_
  refine meets_differ_start_numbers ?_
  unfold vc_differ_start_numbers
  simp [Sp.d, lookH]
theorem inv_head : tMeth Tryz.prog T_differ_head "ephemerist/differ.numbers" = some f_differ_head_numbers := by kernel_rfl
theorem inv_start : tMeth Tryz.prog T_differ_start "ephemerist/differ.numbers" = some f_differ_start_numbers := by kernel_rfl
set_option maxHeartbeats 2000000 in
theorem told_loop_0 (hg : GOK g) (w : Str) (l : List Int) (hw : w.length ≤ 1000) (hl : l.length ≤ 1000) (hb : l.all bigI = true) (h : Heap) :
    LOOP [.d (.str w), .d (ints l), .d (int l.length), .d (int 0)] h 144 fun vs9 h10 next11 => vc_differ_told_k0 (Tz g) [] (.d (.str (rowT w l))) [] vs9 h10 next11 := by
  refine LOOP.mk Nat (fun k => [.d (.str (rowT w (l.take k))), .d (ints l), .d (int l.length), .d (int k)]) (fun _ => []) (fun k => k ≤ l.length) (fun k => l.length - k) [] (by simp) 0 (by omega) (by simp [WEAK, rowT, ints]) (fun _ _ => rfl) ?_
  intro k hk
  have hwk := wrap_id (n := (k : Int) + 1) (by omega) (by omega)
  have hlen := rowT_len w (l.take k) (all_take hb k)
  have htk := List.length_take_le' k l
  have htk2 := List.length_take_le k l
  simp [vc_differ_told_k0, ints]
  refine ⟨fun hlt => ?_, fun hge => ?_⟩
  · have hgk : l[k]? = some l[k] := List.getElem?_eq_getElem hlt
    have hn := List.all_eq_true.1 hb _ (List.getElem_mem hlt)
    generalize l[k] = n at hgk hn
    simp only [bigI, Bool.and_eq_true, decide_eq_true_eq] at hn
    have hnx := rowT_next (w := w) hgk
    have hil := itoaX_len n hn.1 hn.2
    simp [hgk]
    refine CALL.val [int n] _ rfl (Itoa_meets hg n hn.1 hn.2) (.inl rfl) ?_
    simp [hwk]
    refine ⟨by omega, by omega, k + 1, by omega, ?_, by omega⟩
    simp [WEAK, hnx, ints, lookH]
  · have : k = l.length := by omega
    subst this
    rw [take_all (Nat.le_refl _)]
set_option maxHeartbeats 2000000 in
theorem told_loop_2 (hg : GOK g) (w : Str) (l : List Int) (hw : w.length ≤ 1000) (hl : l.length ≤ 1000) (hb : l.all bigI = true) (h : Heap) :
    LOOP [.d (.str w), .d (ints l), .d (int l.length), .d (int 0)] h 120 fun vs9 h10 next11 => vc_differ_told_k2 (Tz g) [] (.d (.str (rowT w l))) [] vs9 h10 next11 := by
  refine LOOP.mk Nat (fun k => [.d (.str (rowT w (l.take k))), .d (ints l), .d (int l.length), .d (int k)]) (fun _ => []) (fun k => k ≤ l.length) (fun k => l.length - k) [] (by simp) 0 (by omega) (by simp [WEAK, rowT, ints]) (fun _ _ => rfl) ?_
  intro k hk
  have hwk := wrap_id (n := (k : Int) + 1) (by omega) (by omega)
  have hlen := rowT_len w (l.take k) (all_take hb k)
  have htk := List.length_take_le' k l
  have htk2 := List.length_take_le k l
  simp [vc_differ_told_k2, ints]
  refine ⟨fun hlt => ?_, fun hge => ?_⟩
  · have hgk : l[k]? = some l[k] := List.getElem?_eq_getElem hlt
    have hn := List.all_eq_true.1 hb _ (List.getElem_mem hlt)
    generalize l[k] = n at hgk hn
    simp only [bigI, Bool.and_eq_true, decide_eq_true_eq] at hn
    have hnx := rowT_next (w := w) hgk
    have hil := itoaX_len n hn.1 hn.2
    simp [hgk]
    refine CALL.val [int n] _ rfl (Itoa_meets hg n hn.1 hn.2) (.inl rfl) ?_
    simp [hwk]
    refine ⟨by omega, by omega, k + 1, by omega, ?_, by omega⟩
    simp [WEAK, hnx, ints, lookH]
  · have : k = l.length := by omega
    subst this
    rw [take_all (Nat.le_refl _)]
set_option maxHeartbeats 2000000 in
theorem told_head (hg : GOK g) (p : Plan) (hb : [p.rows, p.guard].all bigI = true) : Meets (Tz g) f_differ_told [.iface T_differ_head p.d] ⟨.d (.str (rowT planW [p.rows, p.guard])), []⟩ := by
  have hT1 : ¬ T_differ_head = T_differ_start := by decide
  refine meets_differ_told ?_
  unfold vc_differ_told
  refine CALL.mk [] _ rfl words_meets (.inl rfl) (by simp) ?_
  simp [vc_differ_told_k3, hT1]
  refine ⟨_, _, _, rfl, inv_head, ?_⟩
  refine CALL.val [p.d] _ rfl (head_numbers_meets p) (.inl rfl) ?_
  refine ⟨_, rfl, ?_⟩
  exact told_loop_2 hg planW [p.rows, p.guard] (by simp) (by simp) hb _
set_option maxHeartbeats 2000000 in
theorem told_start (hg : GOK g) (s : Sp) (hb : [s.low, s.high].all bigI = true) : Meets (Tz g) f_differ_told [.iface T_differ_start s.d] ⟨.d (.str (rowT startW [s.low, s.high])), []⟩ := by
  refine meets_differ_told ?_
  unfold vc_differ_told
  refine CALL.mk [] _ rfl words_meets (.inl rfl) (by simp) ?_
  simp [vc_differ_told_k3]
  refine CALL.mk [] _ rfl words_meets (.inl rfl) (by simp) ?_
  simp [vc_differ_told_k1]
  refine ⟨_, _, _, rfl, inv_start, ?_⟩
  refine CALL.val [s.d] _ rfl (start_numbers_meets s) (.inl rfl) ?_
  refine ⟨_, rfl, ?_⟩
  exact told_loop_0 hg startW [s.low, s.high] (by simp) (by simp) hb _
end Go.Vc

namespace Go.Vc
open Go Go.Proofs
variable {g : GG}
attribute [local simp] and_assoc
def startT (s : Sp) : Str := rowT startW [s.low, s.high]
def rowsP (p : Plan) : List Str := rowT planW [p.rows, p.guard] :: p.starts.map startT
def textP (p : Plan) : Str := sealT 227 (rowsP p)
structure TxOK (p : Plan) : Prop where
  head : [p.rows, p.guard].all bigI = true
  nl : p.starts.length ≤ 400
  starts : ∀ s, s ∈ p.starts → [s.low, s.high].all bigI = true
theorem rowsP_len {p : Plan} (h : TxOK p) : ∀ r, r ∈ rowsP p → r.length ≤ 1000 := fun r hr => by
  rcases List.mem_cons.1 hr with rfl | hr
  · have := rowT_len planW [p.rows, p.guard] h.head
    simp at this
    omega
  · obtain ⟨s, hs, rfl⟩ := List.mem_map.1 hr
    have := rowT_len startW [s.low, s.high] (h.starts s hs)
    simp at this
    unfold startT
    omega
theorem rowsP_count {p : Plan} (h : TxOK p) : (rowsP p).length ≤ 401 := by
  have := h.nl
  simp [rowsP]
  omega
theorem joinL_body : ∀ (rows : List Str), rows ≠ [] → joinL [10] rows ++ [10] = bodyT rows
  | [], h => absurd rfl h
  | [x], _ => by simp [joinL, bodyT]
  | x :: y :: r, _ => by
    have ih := joinL_body (y :: r) (by simp)
    have e : bodyT (x :: y :: r) = x ++ [10] ++ bodyT (y :: r) := by simp [bodyT]
    rw [e, ← ih]
    simp [joinL]
theorem seal_join (m : Nat) (rows : List Str) : joinL [10] (rows ++ [endT (chkRows 0 rows % m)]) ++ [10] = sealT m rows := by
  rw [joinL_body _ (by simp)]
  simp [sealT, bodyT]
def rowB (rows : List Str) (v : Nat) : Option ABlk := some ⟨v, T_string, .lst (rows.map .str)⟩
set_option maxHeartbeats 8000000 in
theorem text_end (hg : GOK g) (rows : List Str) (v : Nat) (h : Heap) (hh : lookH h 72 = rowB rows v) (hl : rows.length ≤ 500) (hr : ∀ r, r ∈ rows → r.length ≤ 1000) :
    LOOP [.own 72 v, .d (int 0), .own 72 v, .d (int rows.length), .d (int 0)] h 168 fun vs20 h21 next22 => vc_differ_text_k3 (Tz g) [] (.d (.str (sealT 227 rows))) [] vs20 h21 next22 := by
  refine LOOP.mk Nat (fun j => [.own 72 v, .d (int (chkRows 0 (rows.take j) : Nat)), .own 72 v, .d (int rows.length), .d (int j)]) (fun _ => [(72, rowB rows v)]) (fun j => j ≤ rows.length) (fun j => rows.length - j) [] (by simp) 0 (by omega) (by simp [WEAK, hh, chkRows]) (fun _ _ => rfl) ?_
  intro j hj
  have hwj := wrap_id (n := (j : Int) + 1) (by omega) (by omega)
  have hrt : ∀ j, ∀ r, r ∈ rows.take j → r.length ≤ 1000 := fun j r h => hr r (List.mem_of_mem_take h)
  have hcb := chkRows_le (rows.take j) 0 (hrt j) (by have := List.length_take_le j rows; omega)
  have htl : (rows.take j).length ≤ 500 := by have := List.length_take_le' j rows; omega
  simp [vc_differ_text_k3, rowB]
  refine ⟨fun hlt => ?_, fun hge => ?_⟩
  · obtain ⟨r, hgr⟩ : ∃ r, rows[j]? = some r := ⟨_, List.getElem?_eq_getElem hlt⟩
    have hrl := hr r (List.mem_of_getElem? hgr)
    have hcn := chkRows_next rows 0 j r hgr
    have hrb := chkRow_bound (i := j) (r := r) (by omega) hrl
    rw [Nat.zero_add] at hcn
    generalize hC : chkRows 0 (rows.take j) = C at *
    simp [hgr]
    refine ⟨hlt, ?_⟩
    refine LOOP.mk Nat (fun k => [.own 72 v, .d (int (C + chkRow j 0 (r.take k) : Nat)), .d (int j), .d (.str r), .own 72 v, .d (int rows.length), .d (int j), .d (int r.length), .d (int k)]) (fun _ => [(72, rowB rows v)]) (fun k => k ≤ r.length) (fun k => r.length - k) [] (by simp) 0 (by omega) (by simp [WEAK, rowB, chkRow]) (fun _ _ => rfl) ?_
    intro k hk
    have hwk := wrap_id (n := (k : Int) + 1) (by omega) (by omega)
    have hmo := chkRow_mono j r 0 k
    simp [vc_differ_text_k0]
    refine ⟨fun hlt2 => ?_, fun hge2 => ?_⟩
    · have hgk : r[k]? = some r[k] := List.getElem?_eq_getElem hlt2
      generalize r[k] = c at hgk
      have hnx := chkRow_next j r 0 k c hgk
      have hmo2 := chkRow_mono j r 0 (k + 1)
      rw [Nat.zero_add] at hnx
      have hc : c.toNat ≤ 255 := by have := c.toNat_lt; omega
      have p1 : c.toNat * (k + 1) ≤ 255 * 1001 := Nat.mul_le_mul hc (by omega)
      have p2 : c.toNat * (k + 1) * (j + 1) ≤ 255 * 1001 * 1001 := Nat.mul_le_mul p1 (by omega)
      have q1 : (c.toNat : Int) * ((k : Int) + 1) = ((c.toNat * (k + 1) : Nat) : Int) := by push_cast; rfl
      have q2 : ((c.toNat * (k + 1) : Nat) : Int) * ((j : Int) + 1) = ((c.toNat * (k + 1) * (j + 1) : Nat) : Int) := by push_cast; rfl
      generalize hP : c.toNat * (k + 1) = P1 at *
      generalize hQ : P1 * (j + 1) = P2 at *
      generalize hR1 : chkRow j 0 (r.take k) = R1 at *
      have w0 := wrap_id (n := (c.toNat : Int)) (by omega) (by omega)
      have w1 := wrap_id (n := (P1 : Int)) (by omega) (by omega)
      have w2 := wrap_id (n := (P2 : Int)) (by omega) (by omega)
      have w3 := wrap_id (n := (C : Int) + (R1 : Int) + (P2 : Int)) (by omega) (by omega)
      simp [hgk, hwk, hwj, w0, q1, w1, q2, w2, w3]
      refine ⟨k + 1, by omega, ?_, by omega⟩
      simp [WEAK, hnx, Int.add_assoc, rowB, lookH]
    · have : k = r.length := by omega
      subst this
      rw [take_all (Nat.le_refl _)]
      simp [hwj]
      refine ⟨j + 1, by omega, ?_, by omega⟩
      simp [WEAK, hcn, rowB, lookH]
  · have : j = rows.length := by omega
    subst this
    rw [take_all (Nat.le_refl _)] at hcb ⊢
    have hbl := bodyT_len rows hr
    have hcm := Nat.mod_lt (chkRows 0 rows) (show 0 < 227 by omega)
    have e1 : ((chkRows 0 rows : Nat) : Int).tmod 227 = ((chkRows 0 rows % 227 : Nat) : Int) := rfl
    have hsj := seal_join 227 rows
    have hsl : (sealT 227 rows).length ≤ 600000 := by
      have e : sealT 227 rows = bodyT rows ++ (endT (chkRows 0 rows % 227) ++ [10]) := rfl
      rw [e, endT_eq (by omega)]
      simp
      omega
    generalize sealT 227 rows = T at *
    generalize chkRows 0 rows % 227 = c at *
    have e2 : (c : Int).tdiv 100 = ((c / 100 : Nat) : Int) := rfl
    have e3 : (c : Int).tdiv 10 = ((c / 10 : Nat) : Int) := rfl
    have e4 : (c : Int).tmod 10 = ((c % 10 : Nat) : Int) := rfl
    have e5 : ((c / 10 : Nat) : Int).tmod 10 = ((c / 10 % 10 : Nat) : Int) := rfl
    have v2 := wrap_id (n := ((c / 100 : Nat) : Int)) (by omega) (by omega)
    have v3 := wrap_id (n := ((c / 10 : Nat) : Int)) (by omega) (by omega)
    have d1 := Itoa_meets hg ((c / 100 : Nat) : Int) (by omega) (by omega)
    have d2 := Itoa_meets hg ((c / 10 % 10 : Nat) : Int) (by omega) (by omega)
    have d3 := Itoa_meets hg ((c % 10 : Nat) : Int) (by omega) (by omega)
    have l1 := itoaX_len ((c / 100 : Nat) : Int) (by omega) (by omega)
    have l2 := itoaX_len ((c / 10 % 10 : Nat) : Int) (by omega) (by omega)
    have l3 := itoaX_len ((c % 10 : Nat) : Int) (by omega) (by omega)
    have he : endT c = [101, 110, 100, 32] ++ (itoaX ((c / 100 : Nat) : Int) ++ (itoaX ((c / 10 % 10 : Nat) : Int) ++ itoaX ((c % 10 : Nat) : Int))) := rfl
    rw [he] at hsj
    generalize ((c / 100 : Nat) : Int) = n1 at *
    generalize ((c / 10 % 10 : Nat) : Int) = n2 at *
    generalize ((c % 10 : Nat) : Int) = n3 at *
    generalize ((c / 10 : Nat) : Int) = n4 at *
    have hJl : (joinL [10] (rows ++ [[101, 110, 100, 32] ++ (itoaX n1 ++ (itoaX n2 ++ itoaX n3))])).length ≤ 999999 := by
      have := congrArg List.length hsj
      rw [List.length_append] at this
      simp only [List.length_cons, List.length_nil] at this
      omega
    have hJ := Join_meets (g := g) (rows ++ [[101, 110, 100, 32] ++ (itoaX n1 ++ (itoaX n2 ++ itoaX n3))]) [10] (by simp; omega) (by omega)
    rw [← hsj]
    generalize joinL [10] (rows ++ [[101, 110, 100, 32] ++ (itoaX n1 ++ (itoaX n2 ++ itoaX n3))]) = J at *
    simp [e1, e2, v2]
    refine CALL.val [int n1] _ rfl d1 (.inl rfl) ?_
    simp [vc_differ_text_k2, e3, v3, e5]
    refine ⟨by omega, ?_⟩
    refine CALL.val [int n2] _ rfl d2 (.inl rfl) ?_
    simp [e4]
    refine ⟨by omega, ?_⟩
    refine CALL.val [int n3] _ rfl d3 (.inl rfl) ?_
    simp [vc_differ_text_k1]
    refine ⟨by omega, by omega, ?_⟩
    refine CALL.val [strsD (rows ++ [[101, 110, 100, 32] ++ (itoaX n1 ++ (itoaX n2 ++ itoaX n3))]), .str [10]] _ (by simp [argsD, argD, toD, lookH, strsD]) hJ (.inr rfl) ?_
    simp
    omega
def rows1 (p : Plan) (k : Nat) : List Str := rowT planW [p.rows, p.guard] :: (p.starts.take k).map startT
theorem rows1_next {p : Plan} {k : Nat} {l : Sp} (h : p.starts[k]? = some l) : rows1 p (k + 1) = rows1 p k ++ [startT l] := by
  unfold rows1
  rw [take_next h]
  simp
theorem rows1_end (p : Plan) : rows1 p p.starts.length = rowsP p := by simp [rows1, rowsP]
theorem rows1_len (p : Plan) (k : Nat) : (rows1 p k).length ≤ p.starts.length + 1 := by
  have := List.length_take_le' k p.starts
  simp [rows1]
  omega
set_option maxHeartbeats 8000000 in
theorem text_meets (hg : GOK g) (p : Plan) (hp : TxOK p) : Meets (Tz g) f_differ_text [p.d] ⟨.d (.str (textP p)), []⟩ := by
  have hnl := hp.nl
  have hend := text_end hg (rowsP p) p.starts.length
  have hrl := rowsP_len hp
  have hrc := rowsP_count hp
  have hT : textP p = sealT 227 (rowsP p) := rfl
  rw [← hT] at hend
  refine meets_differ_text ?_
  unfold vc_differ_text
  simp [Plan.d, spans]
  refine CALL.val [.iface T_differ_head p.d] _ (by simp [argsD, argD, toD, Plan.d, spans]) (told_head hg p hp.head) (.inl rfl) ?_
  simp
  refine LOOP.mk Nat (fun k => [.own 72 k, .d (.list (p.starts.map Sp.d)), .d (int p.starts.length), .d (int k)]) (fun k => [(72, rowB (rows1 p k) k)])
    (fun k => k ≤ p.starts.length) (fun k => p.starts.length - k) [] (by simp) 0 (by omega) (by simp [WEAK, lookH, rowB, rows1]) (fun _ _ => rfl) ?_
  intro k hk
  have hwk := wrap_id (n := (k : Int) + 1) (by omega) (by omega)
  have hr1 := rows1_len p k
  simp [vc_differ_text_k4]
  refine ⟨fun hlt => ?_, fun hge => ?_⟩
  · obtain ⟨l, hgl⟩ : ∃ l, p.starts[k]? = some l := ⟨_, List.getElem?_eq_getElem hlt⟩
    have hlo := hp.starts l (List.mem_of_getElem? hgl)
    have hnx := rows1_next hgl
    generalize hR : rows1 p k = R at *
    simp [hgl, Sp.d, lookH]
    refine CALL.val [.iface T_differ_start l.d] _ (by simp [argsD, argD, toD, Sp.d]) (told_start hg l hlo) (.inl rfl) ?_
    simp [rowB, lookH, hwk]
    refine ⟨by omega, k + 1, by omega, ?_, by omega⟩
    simp [WEAK, lookH, hnx, rowB, startT]
  · have : k = p.starts.length := by omega
    subst this
    rw [rows1_end]
    simp [lookH, rowB]
    exact hend _ (by simp [rowB]) (by omega) hrl
theorem differ_Print_data (hg : GOK g) (p : Plan) (hok : p.ok = true) (hp : TxOK p) : Meets (Tz g) f_differ_Print [p.d] ⟨.tup [.d (.str (textP p)), .d (int 0)], []⟩ := by
  have h1 := hp.nl
  refine meets_differ_Print ?_
  unfold vc_differ_Print
  simp [Plan.d, spans]
  refine CALL.val [p.d] _ rfl (differ_isPlan_meets p (by omega)) (.inl rfl) ?_
  simp [hok]
  refine CALL.val [p.d] _ rfl (text_meets hg p hp) (.inl rfl) ?_
  simp
end Go.Vc
