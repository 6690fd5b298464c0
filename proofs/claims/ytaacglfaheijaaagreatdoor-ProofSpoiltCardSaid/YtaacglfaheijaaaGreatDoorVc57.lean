/- A part of the proof: general laws of a reading of the model by abstract data, or contracts of the functions that the law calls. -/
import Derived.Laws.RangeString
import Derived.Laws.RangeAny
import Derived.Test.YtaacglfaheijaaaGreatDoorVc56
import Derived.Test.YtaacglfaheijaaaGreatDoorVc55
import Derived.Test.YtaacglfaheijaaaGreatDoorVc54
set_option maxRecDepth 100000
namespace Go.Vc
open Go Go.Proofs
variable {g : GG}
attribute [local simp] and_assoc
theorem need_ret (s : Str) : Meets (Tz g) f_proof_need [.bool true, .str s] ⟨.tup [], []⟩ := by
  refine meets_proof_need ?_
  unfold vc_proof_need
  simp
  exact POST.auto (by simp)
theorem need_pan (s : Str) : MeetsP (Tz g) f_proof_need [.bool false, .str s] (.iface T_proof_noText (.agg [.str s])) := by
  refine meetsP_proof_need ?_
  unfold vcp_proof_need
  simp
abbrev noT (s : Str) : D := .iface T_proof_noText (.agg [.str s])
theorem wrap_i32 {n : Int} (h1 : -2147483648 ≤ n) (h2 : n ≤ 2147483647) : IntKind.i32.wrap n = n := by
  simp only [IntKind.wrap, IntKind.bits, IntKind.signed]
  simp
  split <;> omega
theorem dec_low {s : Str} {p : Nat} {c : UInt8} (h : s[p]? = some c) (hc : c.toNat < 128) : Utf8.decode ⟨s.toArray⟩ p = (c.toNat, 1) := by
  obtain ⟨h1, h2⟩ := List.getElem?_eq_some_iff.1 h
  have hsz : p < (⟨s.toArray⟩ : ByteArray).size := by show p < s.toArray.size; simpa using h1
  have e : (⟨s.toArray⟩ : ByteArray)[p]'hsz = c := by
    show s.toArray[p]'_ = c
    simp [h2]
  have := decode_ascii ⟨s.toArray⟩ p hsz (by rw [e]; exact hc)
  rw [e] at this
  exact this
theorem dec_high {s : Str} {p : Nat} {c : UInt8} (h : s[p]? = some c) (hc : ¬ c.toNat < 128) : 128 ≤ (Utf8.decode ⟨s.toArray⟩ p).1 := by
  obtain ⟨h1, h2⟩ := List.getElem?_eq_some_iff.1 h
  have hsz : p < (⟨s.toArray⟩ : ByteArray).size := by show p < s.toArray.size; simpa using h1
  have e : (⟨s.toArray⟩ : ByteArray)[p]'hsz = c := by
    show s.toArray[p]'_ = c
    simp [h2]
  exact (decode_high ⟨s.toArray⟩ p hsz (by rw [e]; omega)).1
theorem cut_pre (w : Str) : Lib.trimPrefix w [45] = (cutM w).2 ∧ Lib.hasPrefix w [45] = (cutM w).1 := by
  cases w with
  | nil => exact ⟨rfl, rfl⟩
  | cons c r =>
    by_cases h : c = 45
    · subst h
      refine ⟨?_, ?_⟩
      · simp [Lib.trimPrefix, Lib.hasPrefix, cutM]
      · simp [Lib.hasPrefix, cutM]
    · have hb : Lib.hasPrefix (c :: r) [45] = false := by
        have e : ((45 : UInt8) == c) = false := by
          cases hq : ((45 : UInt8) == c) with
          | false => rfl
          | true => exact absurd (by simpa using hq : (45 : UInt8) = c).symm h
        show (((45 : UInt8) == c) && ([] : Str).isPrefixOf r) = false
        rw [e]; rfl
      have hc : cutM (c :: r) = (false, c :: r) := by simp only [cutM, decide_eq_false h]
      rw [hc]
      refine ⟨?_, hb⟩
      unfold Lib.trimPrefix
      rw [hb]
      rfl
theorem CutPrefix_meets (w : Str) : Meets (Tz g) f_strings_CutPrefix [.str w, .str [45]] ⟨.tup [.d (.str (cutM w).2), .d (.bool (cutM w).1)], []⟩ :=
  cut_X _ _ _ (by
    obtain ⟨h1, h2⟩ := cut_pre w
    simp only [List.map_cons, List.map_nil, cutX, h1, h2])
def givI (s : Str) (p : Nat) : Option ABlk := some ⟨0, 0, .it s p⟩
set_option maxHeartbeats 4000000 in
theorem given_ret (hg : GOK g) (w : Str) (sign : Bool) (n : Int) (hn : numR 3 w = some n) (hb : givB 3 sign w = true) : Meets (Tz g) f_proof_given [.str w, .bool sign] ⟨.d (int n), []⟩ := by
  obtain ⟨h1, h2⟩ := given_iff (d := 3) (by omega) w sign
  have h2 := h2 n hn
  rw [hb] at h1
  have hC := CutPrefix_meets (g := g) w
  generalize (cutM w).2 = s at *
  generalize (cutM w).1 = m at *
  simp only [Bool.and_eq_true, decide_eq_true_eq] at h1
  obtain ⟨g1, g2, g3⟩ := h1
  have hvb := valS_bound g1
  simp only [goodD, Bool.and_eq_true, decide_eq_true_eq] at g1
  obtain ⟨q1, q2, q3⟩ := g1
  have hsl : ¬ s = [] := fun e => by rw [e] at q1; simp at q1
  refine meets_proof_given ?_
  unfold vc_proof_given
  refine CALL.mk [.str w, .str [45]] _ rfl hC (.inl rfl) (by simp) ?_
  simp [vc_proof_given_k5]
  refine LOOP.mk Nat (fun i => [.d (.str w), .d (.bool sign), .d (.str s), .d (.bool m), .d (int (valS (s.take i) : Nat)), .iter 104]) (fun i => [(104, givI s i)]) (fun i => i ≤ s.length) (fun i => s.length - i) [] (by simp) 0 (by omega) (by simp [WEAK, valS, givI]) (fun _ _ => rfl) ?_
  intro i hi
  simp [NEXT, givI]
  refine ⟨fun hlt => ?_, fun hge => ?_⟩
  · obtain ⟨c, hgc⟩ : ∃ c, s[i]? = some c := ⟨_, List.getElem?_eq_getElem hlt⟩
    have hcd := List.all_eq_true.1 q3 c (List.mem_of_getElem? hgc)
    simp only [isD, Bool.and_eq_true, decide_eq_true_eq] at hcd
    have hdec := dec_low hgc (by omega)
    have hvs := valS_snoc s i c hgc
    have hvl := valS_lt (s.take i) 0 (all_take q3 i)
    have hvl : valS (s.take i) < 1000 := by
      simp only [Nat.zero_add, Nat.one_mul] at hvl
      exact Nat.lt_of_lt_of_le hvl (Nat.pow_le_pow_right (n := 10) (by omega) (show (s.take i).length ≤ 3 by simp; omega))
    rw [hdec]
    have c1 : (48 : Int) ≤ (c.toNat : Int) := by omega
    have c2 : (c.toNat : Int) ≤ 57 := by omega
    have w1 := wrap_id (n := 10 * (valS (s.take i) : Int)) (by omega) (by omega)
    have w2 := wrap_i32 (n := (c.toNat : Int) - 48) (by omega) (by omega)
    have w3 := wrap_id (n := (c.toNat : Int) - 48) (by omega) (by omega)
    have w4 := wrap_id (n := 10 * (valS (s.take i) : Int) + ((c.toNat : Int) - 48)) (by omega) (by omega)
    have e : ((10 * valS (s.take i) + (c.toNat - 48) : Nat) : Int) = 10 * (valS (s.take i) : Int) + ((c.toNat : Int) - 48) := by omega
    have hls : (s.length : Int) ≤ 3 := by omega
    generalize valS (s.take i) = V at *
    simp [vc_proof_given_k3, c1, c2, vc_proof_given_k0]
    refine CALL.mk [.bool true, .str w] ⟨.tup [], []⟩ (by simp [argsD, argD, toD, hls]) (need_ret w) (.inl rfl) (by simp) ?_
    simp [w1, w2, w3, w4]
    refine ⟨i + 1, by omega, ?_, by omega⟩
    simp only [hvs, e]
    simp [WEAK, lookH]
  · have : i = s.length := by omega
    subst this
    rw [take_all (Nat.le_refl _)]
    have hI := Itoa_meets hg (valS s : Int) (by omega) (by omega)
    rw [g2] at hI
    simp [vc_proof_given_k4, hsl]
    refine CALL.val [int (valS s : Nat)] _ rfl hI (.inl rfl) ?_
    cases m with
    | false =>
      have hn2 : n = (valS s : Int) := h2
      simp [vc_proof_given_k2]
      refine CALL.mk [.bool true, .str w] ⟨.tup [], []⟩ (by simp [argsD, argD, toD]) (need_ret w) (.inl rfl) (by simp) ?_
      simp [hn2]
    | true =>
      have hn2 : n = -(valS s : Int) := h2
      simp at g3
      obtain ⟨gs, gv⟩ := g3
      subst gs
      have c3 : (0 : Int) < (valS s : Int) := by omega
      have w5 := wrap_id (n := -(valS s : Int)) (by omega) (by omega)
      simp [vc_proof_given_k2]
      refine CALL.mk [.bool true, .str w] ⟨.tup [], []⟩ (by simp [argsD, argD, toD, gv]) (need_ret w) (.inl rfl) (by simp) ?_
      simp [hn2, w5]
set_option maxHeartbeats 8000000 in
theorem given_pan (hg : GOK g) (w : Str) (sign : Bool) (hw : w.length ≤ 10000) (hb : givB 3 sign w = false) : MeetsP (Tz g) f_proof_given [.str w, .bool sign] (noT w) := by
  obtain ⟨h1, _⟩ := given_iff (d := 3) (by omega) w sign
  rw [hb] at h1
  have hC := CutPrefix_meets (g := g) w
  have hsw : (cutM w).2.length ≤ 10000 := by
    rcases cutM_cases w with ⟨rfl, hc⟩ | ⟨r, rfl, hc⟩ | ⟨c, r, rfl, h45, hc⟩
    · rw [hc]; simp
    · rw [hc]; simp at hw ⊢; omega
    · rw [hc]; exact hw
  generalize (cutM w).2 = s at *
  generalize (cutM w).1 = m at *
  have hN : MeetsP (Tz g) f_proof_need [.bool false, .str w] (noT w) := need_pan w
  refine meetsP_proof_given ?_
  unfold vcp_proof_given
  refine CALL.mk [.str w, .str [45]] _ rfl hC (.inl rfl) (by simp) ?_
  simp [vcp_proof_given_k5]
  refine LOOP.mk Nat (fun i => [.d (.str w), .d (.bool sign), .d (.str s), .d (.bool m), .d (int (valS (s.take i) : Nat)), .iter 104]) (fun i => [(104, givI s i)]) (fun i => i ≤ s.length ∧ (s.take i).all isD = true ∧ (i = 0 ∨ s.length ≤ 3)) (fun i => s.length - i) [] (by simp) 0 ⟨by omega, rfl, .inl rfl⟩ (by simp [WEAK, valS, givI]) (fun _ _ => rfl) ?_
  rintro i ⟨hi, hall, hor⟩
  have hvl := valS_lt (s.take i) 0 hall
  have hvl : valS (s.take i) < 1000 := by
    simp only [Nat.zero_add, Nat.one_mul] at hvl
    exact Nat.lt_of_lt_of_le hvl (Nat.pow_le_pow_right (n := 10) (by omega) (show (s.take i).length ≤ 3 by simp; omega))
  have hPA : ∀ (h : Heap) (K : List Nat → AV → Heap → Prop) (new : Nat), CALL (Tz g) f_proof_need [.d (.bool false), .d (.str w)] new h K (fun _ pv ph => POST pv ph [] (.d (noT w)) []) := fun h K new =>
    CALL.pan [.bool false, .str w] _ rfl hN (by simp)
  simp [NEXT, givI]
  refine ⟨fun hlt => ?_, fun hge => ?_⟩
  · obtain ⟨c, hgc⟩ : ∃ c, s[i]? = some c := ⟨_, List.getElem?_eq_getElem hlt⟩
    have hc8 := c.toNat_lt
    have ha := allD_snoc s i c hgc
    have hvs := valS_snoc s i c hgc
    rw [hall, Bool.true_and] at ha
    by_cases hlow : c.toNat < 128
    · have hdec := dec_low hgc hlow
      rw [hdec]
      cases hd : isD c with
      | true =>
        rw [hd] at ha
        simp only [isD, Bool.and_eq_true, decide_eq_true_eq] at hd
        have c1 : (48 : Int) ≤ (c.toNat : Int) := by omega
        have c2 : (c.toNat : Int) ≤ 57 := by omega
        have w1 := wrap_id (n := 10 * (valS (s.take i) : Int)) (by omega) (by omega)
        have w2 := wrap_i32 (n := (c.toNat : Int) - 48) (by omega) (by omega)
        have w3 := wrap_id (n := (c.toNat : Int) - 48) (by omega) (by omega)
        have w4 := wrap_id (n := 10 * (valS (s.take i) : Int) + ((c.toNat : Int) - 48)) (by omega) (by omega)
        have e : ((10 * valS (s.take i) + (c.toNat - 48) : Nat) : Int) = 10 * (valS (s.take i) : Int) + ((c.toNat : Int) - 48) := by omega
        generalize valS (s.take i) = V at *
        simp [vcp_proof_given_k3, c1, c2, vcp_proof_given_k0]
        by_cases hs3 : s.length ≤ 3
        · have hls : (s.length : Int) ≤ 3 := by omega
          refine CALL.mk [.bool true, .str w] ⟨.tup [], []⟩ (by simp [argsD, argD, toD, hls]) (need_ret w) (.inl rfl) (by simp) ?_
          simp [w1, w2, w3, w4]
          refine ⟨i + 1, by omega, List.all_eq_true.1 ha, .inr hs3, ?_, by omega⟩
          simp only [hvs, e]
          simp [WEAK, lookH]
        · have hls : ¬ (s.length : Int) ≤ 3 := by omega
          refine CALL.pan [.bool false, .str w] _ (by simp [argsD, argD, toD]; omega) hN ?_
          simp
      | false =>
        have hno : ¬ (48 ≤ (c.toNat : Int) ∧ (c.toNat : Int) ≤ 57) := by
          simp only [isD, Bool.and_eq_false_iff, decide_eq_false_iff_not] at hd
          omega
        simp [vcp_proof_given_k3, vcp_proof_given_k1]
        refine ⟨fun g1 => ⟨fun g2 => absurd ⟨g1, g2⟩ hno, fun g2 => ?_⟩, fun g1 => ?_⟩
        · exact CALL.pan [.bool false, .str w] _ rfl hN (by simp)
        · exact CALL.pan [.bool false, .str w] _ rfl hN (by simp)
    · have hdec := dec_high hgc hlow
      generalize Utf8.decode ⟨s.toArray⟩ i = q at hdec
      obtain ⟨q1, q2⟩ := q
      have hno : ¬ ((q1 : Int) ≤ 57) := by omega
      simp [vcp_proof_given_k3, vcp_proof_given_k1]
      refine ⟨fun g1 => ⟨fun g2 => absurd g2 hno, fun g2 => ?_⟩, fun g1 => ?_⟩
      · exact CALL.pan [.bool false, .str w] _ rfl hN (by simp)
      · exact CALL.pan [.bool false, .str w] _ rfl hN (by simp)
  · have : i = s.length := by omega
    subst this
    rw [take_all (Nat.le_refl _)] at hall hvl ⊢
    simp [vcp_proof_given_k4]
    refine ⟨fun hne => ?_, fun he => ?_⟩
    · have hl1 : 1 ≤ s.length := by
        rcases Nat.eq_zero_or_pos s.length with h | h
        · exact absurd (List.length_eq_zero_iff.1 h) hne
        · exact h
      have hl3 : s.length ≤ 3 := hor.resolve_left (by omega)
      have hgd : goodD 3 s = true := by
        simp only [goodD, hall, decide_eq_true hl1, decide_eq_true hl3, Bool.and_true]
      rw [hgd, Bool.true_and] at h1
      have hI := Itoa_meets hg (valS s : Int) (by omega) (by omega)
      refine CALL.val [int (valS s : Nat)] _ rfl hI (.inl rfl) ?_
      by_cases hit : itoaX (valS s : Int) = s
      · rw [decide_eq_true hit, Bool.true_and] at h1
        cases m with
        | false => simp at h1
        | true =>
          cases sign with
          | false =>
            simp [vcp_proof_given_k2, hit]
            exact CALL.pan [.bool false, .str w] _ rfl hN (by simp)
          | true =>
            have hv0 : ¬ (0 < valS s) := by simpa using h1
            have hv0' : valS s = 0 := by omega
            simp [vcp_proof_given_k2, hit]
            exact CALL.pan [.bool false, .str w] _ (by simp [argsD, argD, toD, hv0']) hN (by simp)
      · simp [vcp_proof_given_k2, hit]
        exact CALL.pan [.bool false, .str w] _ rfl hN (by simp)
    · exact CALL.pan [.bool false, .str w] _ rfl hN (by simp)
end Go.Vc

namespace Go.Vc
open Go Go.Proofs
variable {g : GG}
attribute [local simp] and_assoc
theorem Split_data (hg : GOK g) (s : Str) (c : UInt8) (hs : s.length ≤ 10000) : Meets (Tz g) f_strings_Split [.str s, .str [c]] ⟨.d (strsD (splL c s)), []⟩ := by
  have h := splt_X hg [.d (.str s), .d (.str [c])] (.ret (.own 0 0)) [.upd ⟨0, 9, .lst ((splX c s []).map .str)⟩] (by
    have e : Nat.ble s.length 1000000 = true := Nat.ble_eq_true_of_le (by omega)
    simp only [spltX, e])
  rw [splX_split] at h
  exact MeetsH.frz h
def manyN (i : Nat) : Nat × Nat := match i with | 1 => (3, 1) | 2 => (4, 4) | 3 => (3, 2) | _ => (1, 1)
theorem many_meets (i : Nat) (hi : i ≤ 4) : Meets (Tz g) f_proof_many [int i] ⟨.tup [.d (int (manyN i).1), .d (int (manyN i).2)], []⟩ := by
  refine meets_proof_many ?_
  unfold vc_proof_many
  rcases (by omega : i = 0 ∨ i = 1 ∨ i = 2 ∨ i = 3 ∨ i = 4) with rfl | rfl | rfl | rfl | rfl <;> simp [manyN]
def givI3 (sign : Bool) (w : Str) : Option Int := match givB 3 sign w with | true => numR 3 w | false => none
def gvs (sg : Nat) : Nat → List Str → Option (List Int)
  | _, [] => some []
  | k, w :: r => match givI3 (decide (sg ≤ k)) w with
    | some n => match gvs sg (k + 1) r with
      | some l => some (n :: l)
      | none => none
    | none => none
def wIx (w : Str) : Option Nat := match decide (w = pageW) with | true => some 0 | false => match decide (w = lineW) with | true => some 1 | false => match decide (w = readW) with | true => some 2 | false => match decide (w = mendW) with | true => some 3 | false => match decide (w = fallW) with | true => some 4 | false => none
abbrev wds : List Str := [pageW, lineW, readW, mendW, fallW]
theorem wIx_some {w : Str} {j : Nat} (h : wIx w = some j) : j ≤ 4 ∧ wds[j]? = some w ∧ ∀ n, n < j → ∀ x, wds[n]? = some x → x ≠ w := by
  unfold wIx at h
  split at h
  · rename_i e
    injection h with h
    subst h
    exact ⟨by omega, by simpa using (of_decide_eq_true e).symm, fun n hn => absurd hn (by omega)⟩
  · rename_i e0
    have e0 := of_decide_eq_false e0
    split at h
    · rename_i e
      injection h with h
      subst h
      refine ⟨by omega, by simpa using (of_decide_eq_true e).symm, fun n hn x hx => ?_⟩
      obtain rfl : n = 0 := by omega
      injection hx with hx
      exact fun e => e0 (by rw [← e, ← hx])
    · rename_i e1
      have e1 := of_decide_eq_false e1
      split at h
      · rename_i e
        injection h with h
        subst h
        refine ⟨by omega, by simpa using (of_decide_eq_true e).symm, fun n hn x hx => ?_⟩
        rcases (by omega : n = 0 ∨ n = 1) with rfl | rfl <;> injection hx with hx
        · exact fun e => e0 (by rw [← e, ← hx])
        · exact fun e => e1 (by rw [← e, ← hx])
      · rename_i e2
        have e2 := of_decide_eq_false e2
        split at h
        · rename_i e
          injection h with h
          subst h
          refine ⟨by omega, by simpa using (of_decide_eq_true e).symm, fun n hn x hx => ?_⟩
          rcases (by omega : n = 0 ∨ n = 1 ∨ n = 2) with rfl | rfl | rfl <;> injection hx with hx
          · exact fun e => e0 (by rw [← e, ← hx])
          · exact fun e => e1 (by rw [← e, ← hx])
          · exact fun e => e2 (by rw [← e, ← hx])
        · rename_i e3
          have e3 := of_decide_eq_false e3
          split at h
          · rename_i e
            injection h with h
            subst h
            refine ⟨by omega, by simpa using (of_decide_eq_true e).symm, fun n hn x hx => ?_⟩
            rcases (by omega : n = 0 ∨ n = 1 ∨ n = 2 ∨ n = 3) with rfl | rfl | rfl | rfl <;> injection hx with hx
            · exact fun e => e0 (by rw [← e, ← hx])
            · exact fun e => e1 (by rw [← e, ← hx])
            · exact fun e => e2 (by rw [← e, ← hx])
            · exact fun e => e3 (by rw [← e, ← hx])
          · cases h
theorem wIx_none {w : Str} (h : wIx w = none) : ∀ (n : Nat) (x : Str), wds[n]? = some x → x ≠ w := by
  rintro n x hx rfl
  have : ∀ x, x ∈ wds → wIx x ≠ none := by decide
  exact this x (List.mem_of_getElem? hx) h
theorem wds_d {n : Nat} {x : Str} (h : wds[n]? = some x) : [D.str pageW, D.str lineW, D.str readW, D.str mendW, D.str fallW][n]? = some (.str x) := by
  have e : [D.str pageW, D.str lineW, D.str readW, D.str mendW, D.str fallW] = wds.map .str := rfl
  rw [e, List.getElem?_map, h]
  rfl
def parR (r : Str) : Option (Nat × List Int) := match splL 32 r with
  | [] => none
  | w :: ws => match wIx w with
    | some i => match decide (ws.length = (manyN i).1) with
      | true => match gvs (manyN i).2 0 ws with
        | some l => some (i, l)
        | none => none
      | false => none
    | none => none
theorem givI3_some {sign : Bool} {w : Str} {n : Int} (h : givI3 sign w = some n) : givB 3 sign w = true ∧ numR 3 w = some n := by
  unfold givI3 at h
  cases hb : givB 3 sign w with
  | true => rw [hb] at h; exact ⟨rfl, h⟩
  | false => rw [hb] at h; cases h
theorem givI3_none {sign : Bool} {w : Str} (h : givI3 sign w = none) : givB 3 sign w = false := by
  unfold givI3 at h
  cases hb : givB 3 sign w with
  | false => rfl
  | true =>
    rw [hb] at h
    have h : numR 3 w = none := h
    unfold givB at hb
    rw [h] at hb
    cases hb
theorem gvs_take : ∀ (ws : List Str) (sg k j : Nat) (l : List Int), gvs sg k ws = some l → ∀ w, ws[j]? = some w → ∃ n, givI3 (decide (sg ≤ k + j)) w = some n ∧ l[j]? = some n ∧ ws.length = l.length
  | [], _, _, _, _, _, _, h => by simp at h
  | w :: r, sg, k, j, l, h, v, hv => by
    simp only [gvs] at h
    cases hn : givI3 (decide (sg ≤ k)) w with
    | none => rw [hn] at h; cases h
    | some n =>
      rw [hn] at h
      cases hl : gvs sg (k + 1) r with
      | none => rw [hl] at h; cases h
      | some l2 =>
        rw [hl] at h
        have h : some (n :: l2) = some l := h
        injection h with h
        subst h
        have hlen := gvs_len r sg (k + 1) l2 hl
        cases j with
        | zero =>
          have hv : some w = some v := hv
          injection hv with hv
          subst hv
          exact ⟨n, hn, rfl, by simp [hlen]⟩
        | succ j =>
          have hv : r[j]? = some v := by simpa using hv
          obtain ⟨m, h1, h2, _⟩ := gvs_take r sg (k + 1) j l2 hl v hv
          refine ⟨m, ?_, by simpa using h2, by simp [hlen]⟩
          have e : decide (sg ≤ k + (j + 1)) = decide (sg ≤ k + 1 + j) := decide_eq_decide.2 (by omega)
          rw [e]
          exact h1
  where
  gvs_len : ∀ (ws : List Str) (sg k : Nat) (l : List Int), gvs sg k ws = some l → ws.length = l.length
    | [], _, _, l, h => by
      have h : some [] = some l := h
      injection h with h
      subst h
      rfl
    | w :: r, sg, k, l, h => by
      simp only [gvs] at h
      cases hn : givI3 (decide (sg ≤ k)) w with
      | none => rw [hn] at h; cases h
      | some n =>
        rw [hn] at h
        cases hl : gvs sg (k + 1) r with
        | none => rw [hl] at h; cases h
        | some l2 =>
          rw [hl] at h
          have h : some (n :: l2) = some l := h
          injection h with h
          rw [← h]
          simp [gvs_len r sg (k + 1) l2 hl]
theorem manyN_le (i : Nat) : (manyN i).1 ≤ 4 ∧ (manyN i).2 ≤ 4 := by
  unfold manyN
  split <;> simp
set_option maxHeartbeats 4000000 in
theorem numbered_k1 (hg : GOK g) (line w : Str) (ws : List Str) (i : Nat) (_hi : i ≤ 4) (l : List Int) (hlen : ws.length = (manyN i).1) (hl : gvs (manyN i).2 0 ws = some l) (wd : AV) :
    vc_proof_numbered_k1 (Tz g) [] (.tup [.d (int i), .d (ints l)]) [] (.tup [.d (int (manyN i).1), .d (int (manyN i).2)]) [.d (.str line), .d (int 0), .zc, .d (strsD (w :: ws)), wd, .d (int i)] [] := by
  obtain ⟨m1, m2⟩ := manyN_le i
  have w1 := wrap_id (n := ((manyN i).1 : Int) + 1) (by omega) (by omega)
  have hll := gvs_take.gvs_len ws _ _ l hl
  generalize (manyN i).1 = nn at *
  generalize (manyN i).2 = sg at *
  subst hlen
  simp [vc_proof_numbered_k1, strsD, w1]
  refine CALL.mk [.bool true, .str line] ⟨.tup [], []⟩ (by simp [argsD, argD, toD]) (need_ret line) (.inl rfl) (by simp) ?_
  simp
  refine ⟨by omega, ?_⟩
  refine LOOP.mk Nat (fun k => [.d (int i), .d (int sg), .own 320 k, .d (.list ((ws.map .str).take ws.length)), .d (int ws.length), .d (int k)]) (fun k => [(320, some ⟨k, T_int, .lst ((l.take k).map int)⟩)]) (fun k => k ≤ ws.length) (fun k => ws.length - k) [(2, T_int)] (by simp) 0 (by omega) (by simp [WEAK]) (fun _ _ => rfl) ?_
  intro k hk
  have hwk := wrap_id (n := (k : Int) + 1) (by omega) (by omega)
  simp [vc_proof_numbered_k0]
  refine ⟨fun hlt => ?_, fun hge => ?_⟩
  · obtain ⟨v, hgv⟩ : ∃ v, ws[k]? = some v := ⟨_, List.getElem?_eq_getElem hlt⟩
    obtain ⟨n, hn, hln, _⟩ := gvs_take ws sg 0 k l hl v hgv
    obtain ⟨hb, hn⟩ := givI3_some hn
    have htn : List.take (k + 1) (l.map int) = List.take k (l.map int) ++ [int n] := by
      rw [← List.map_take, ← List.map_take, take_next hln, List.map_append]; rfl
    rw [Nat.zero_add] at hb
    have hgk : ((ws.map D.str).take ws.length)[k]? = some (.str v) := by
      rw [List.take_of_length_le (by simp), List.getElem?_map, hgv]; rfl
    refine ⟨_, hgk, rfl, _, rfl, ?_⟩
    refine CALL.val [.str v, .bool (decide (sg ≤ k))] _ rfl (given_ret hg v _ n hn hb) (.inl rfl) ?_
    simp [hwk]
    refine ⟨by omega, k + 1, by omega, ?_, by omega⟩
    simp [WEAK, lookH, htn]
  · have : k = ws.length := by omega
    subst this
    rw [hll, take_all (by simp)]
    rfl
set_option maxHeartbeats 4000000 in
theorem numbered_ret (hg : GOK g) (r : Str) (hr : r.length ≤ 10000) (i : Nat) (l : List Int) (h : parR r = some (i, l)) : Meets (Tz g) f_proof_numbered [.str r] ⟨.tup [.d (int i), .d (ints l)], []⟩ := by
  refine meets_proof_numbered ?_
  unfold vc_proof_numbered
  refine CALL.val [.str r, .str [32]] _ rfl (Split_data hg r 32 hr) (.inl rfl) ?_
  refine CALL.mk [] _ rfl words_meets (.inl rfl) (by simp) ?_
  simp
  unfold parR at h
  split at h
  · cases h
  · rename_i w ws hs
    rw [hs]
    split at h
    · rename_i j hw
      split at h
      · rename_i hlen
        have hlen := of_decide_eq_true hlen
        split at h
        · rename_i l2 hl
          injection h with h
          injection h with h1 h2
          subst h1 h2
          obtain ⟨hj, hjw, hlt⟩ := wIx_some hw
          refine LOOP.mk Nat (fun k => [.d (.str r), .d (int 0), .zc, .d (strsD (w :: ws)), .d (.agg [.str pageW, .str lineW, .str readW, .str mendW, .str fallW]), .d (int k)]) (fun _ => []) (fun k => k ≤ j) (fun k => 5 - k) [] (by simp) 0 (by omega) (by simp [WEAK]) (fun _ _ => rfl) ?_
          intro k hk
          obtain ⟨x, hx⟩ : ∃ x, wds[k]? = some x := ⟨_, List.getElem?_eq_getElem (show k < 5 by omega)⟩
          have hxd := wds_d hx
          have hwk := wrap_id (n := (k : Int) + 1) (by omega) (by omega)
          have hM := many_meets (g := g) k (by omega)
          simp [vc_proof_numbered_k2, strsD]
          refine ⟨fun _ => ⟨by omega, .str x, hxd, .bool (decide (x ≠ w)), by simp [binD], ?_⟩, by omega⟩
          by_cases hkj : k = j
          · subst hkj
            have hxw : x = w := by rw [hjw] at hx; injection hx with hx; exact hx.symm
            simp [hxw]
            refine CALL.mk [int k] _ rfl hM (.inl rfl) (by simp) ?_
            exact numbered_k1 hg r w ws k hj l2 hlen hl _
          · have hxw : ¬ x = w := hlt k (by omega) x hx
            simp [hxw, hwk]
            exact ⟨k + 1, by omega, by simp [WEAK], by omega⟩
        · cases h
      · cases h
    · cases h
theorem gvs_none : ∀ (ws : List Str) (sg k : Nat), gvs sg k ws = none → ∃ j v l, ws[j]? = some v ∧ givI3 (decide (sg ≤ k + j)) v = none ∧ gvs sg k (ws.take j) = some l
  | [], _, _, h => by cases h
  | w :: r, sg, k, h => by
    simp only [gvs] at h
    cases hn : givI3 (decide (sg ≤ k)) w with
    | none => exact ⟨0, w, [], rfl, hn, rfl⟩
    | some n =>
      rw [hn] at h
      cases hl : gvs sg (k + 1) r with
      | some l2 => rw [hl] at h; cases h
      | none =>
        obtain ⟨j, v, l, h1, h2, h3⟩ := gvs_none r sg (k + 1) hl
        refine ⟨j + 1, v, n :: l, h1, ?_, ?_⟩
        · have e : decide (sg ≤ k + (j + 1)) = decide (sg ≤ k + 1 + j) := decide_eq_decide.2 (by omega)
          rw [e]
          exact h2
        · show gvs sg k (w :: r.take j) = some (n :: l)
          simp only [gvs, hn, h3]
theorem splL_mem (c : UInt8) : ∀ (s : Str) (x : Str), x ∈ splL c s → x.length ≤ s.length
  | [], x, h => by simp [splL] at h; simp [h]
  | b :: r, x, h => by
    have ih := splL_mem c r
    simp only [splL] at h
    split at h
    · rcases List.mem_cons.1 h with rfl | h
      · simp
      · have := ih x h; simp; omega
    · split at h
      · simp at h; simp [h]
      · rename_i y ys hy
        rcases List.mem_cons.1 h with rfl | h
        · have := ih y (by rw [hy]; exact List.mem_cons_self)
          simp; omega
        · have := ih x (by rw [hy]; exact List.mem_cons_of_mem _ h)
          simp; omega
set_option maxHeartbeats 4000000 in
theorem numbered_p1 (hg : GOK g) (line w : Str) (ws : List Str) (i : Nat) (_hi : i ≤ 4) (hw : ∀ v, v ∈ ws → v.length ≤ 10000) (hwl : ws.length ≤ 100000) (h : ws.length ≠ (manyN i).1 ∨ gvs (manyN i).2 0 ws = none) : ∃ s, ∀ wd,
    vcp_proof_numbered_k1 (Tz g) [] (.d (noT s)) [] (.tup [.d (int (manyN i).1), .d (int (manyN i).2)]) [.d (.str line), .d (int 0), .zc, .d (strsD (w :: ws)), wd, .d (int i)] [] := by
  obtain ⟨m1, m2⟩ := manyN_le i
  have w1 := wrap_id (n := ((manyN i).1 : Int) + 1) (by omega) (by omega)
  generalize (manyN i).1 = nn at *
  generalize (manyN i).2 = sg at *
  by_cases hlen : ws.length = nn
  · have hl := h.resolve_left (by omega)
    obtain ⟨j, v, l, hjv, hno, hl⟩ := gvs_none ws sg 0 hl
    have hj := (List.getElem?_eq_some_iff.1 hjv).1
    have hll := gvs_take.gvs_len _ _ _ l hl
    have hll : l.length = j := by rw [← hll]; simp; omega
    subst hlen
    rw [Nat.zero_add] at hno
    have hno := givI3_none hno
    have hgp := given_pan (g := g) hg v (decide (sg ≤ j)) (hw v (List.mem_of_getElem? hjv)) hno
    refine ⟨v, fun wd => ?_⟩
    simp [vcp_proof_numbered_k1, strsD, w1]
    refine CALL.mk [.bool true, .str line] ⟨.tup [], []⟩ (by simp [argsD, argD, toD]) (need_ret line) (.inl rfl) (by simp) ?_
    simp
    refine ⟨by omega, ?_⟩
    refine LOOP.mk Nat (fun k => [.d (int i), .d (int sg), .own 320 k, .d (.list ((ws.map .str).take ws.length)), .d (int ws.length), .d (int k)]) (fun k => [(320, some ⟨k, T_int, .lst ((l.take k).map int)⟩)]) (fun k => k ≤ j) (fun k => ws.length - k) [(2, T_int)] (by simp) 0 (by omega) (by simp [WEAK]) (fun _ _ => rfl) ?_
    intro k hk
    have hwk := wrap_id (n := (k : Int) + 1) (by omega) (by omega)
    simp [vcp_proof_numbered_k0]
    refine ⟨fun hlt => ?_, by omega⟩
    by_cases hkj : k = j
    · subst hkj
      have hgk : ((ws.map D.str).take ws.length)[k]? = some (.str v) := by
        rw [List.take_of_length_le (by simp), List.getElem?_map, hjv]; rfl
      refine ⟨_, hgk, rfl, _, rfl, ?_⟩
      refine CALL.pan [.str v, .bool (decide (sg ≤ k))] _ rfl hgp ?_
      simp
    · obtain ⟨v, hgv⟩ : ∃ v, ws[k]? = some v := ⟨_, List.getElem?_eq_getElem hlt⟩
      obtain ⟨n, hn, hln, _⟩ := gvs_take (ws.take j) sg 0 k l hl v (by rw [List.getElem?_take, if_pos (by omega)]; exact hgv)
      obtain ⟨hb, hn⟩ := givI3_some hn
      have htn : List.take (k + 1) (l.map int) = List.take k (l.map int) ++ [int n] := by
        rw [← List.map_take, ← List.map_take, take_next hln, List.map_append]; rfl
      rw [Nat.zero_add] at hb
      have hgk : ((ws.map D.str).take ws.length)[k]? = some (.str v) := by
        rw [List.take_of_length_le (by simp), List.getElem?_map, hgv]; rfl
      refine ⟨_, hgk, rfl, _, rfl, ?_⟩
      refine CALL.val [.str v, .bool (decide (sg ≤ k))] _ rfl (given_ret hg v _ n hn hb) (.inl rfl) ?_
      simp [hwk]
      refine ⟨by omega, k + 1, by omega, ?_, by omega⟩
      simp [WEAK, lookH, htn]
  · refine ⟨line, fun wd => ?_⟩
    simp [vcp_proof_numbered_k1, strsD, w1]
    refine CALL.pan [.bool false, .str line] _ (by simp [argsD, argD, toD]; omega) (need_pan line) ?_
    simp
set_option maxHeartbeats 4000000 in
theorem numbered_pan (hg : GOK g) (r : Str) (hr : r.length ≤ 10000) (h : parR r = none) : ∃ s, MeetsP (Tz g) f_proof_numbered [.str r] (noT s) := by
  have hmem := splL_mem 32 r
  have hln := splL_le 32 r
  have hSp := Split_data hg r 32 hr
  unfold parR at h
  cases hs : splL 32 r with
  | nil => exact absurd hs (splL_ne 32 r)
  | cons w ws =>
    rw [hs] at h hmem hln hSp
    have h : (match wIx w with
      | some i => match decide (ws.length = (manyN i).1) with
        | true => match gvs (manyN i).2 0 ws with
          | some l => some (i, l)
          | none => none
        | false => none
      | none => (none : Option (Nat × List Int))) = none := h
    cases hw : wIx w with
    | none =>
      refine ⟨r, meetsP_proof_numbered ?_⟩
      unfold vcp_proof_numbered
      refine CALL.val [.str r, .str [32]] _ rfl hSp (.inl rfl) ?_
      refine CALL.mk [] _ rfl words_meets (.inl rfl) (by simp) ?_
      simp
      refine LOOP.mk Nat (fun k => [.d (.str r), .d (int 0), .zc, .d (strsD (w :: ws)), .d (.agg [.str pageW, .str lineW, .str readW, .str mendW, .str fallW]), .d (int k)]) (fun _ => []) (fun k => k ≤ 5) (fun k => 5 - k) [] (by simp) 0 (by omega) (by simp [WEAK]) (fun _ _ => rfl) ?_
      intro k hk
      have hwk := wrap_id (n := (k : Int) + 1) (by omega) (by omega)
      simp [vcp_proof_numbered_k2, strsD]
      intro hlt
      obtain ⟨x, hx⟩ : ∃ x, wds[k]? = some x := ⟨_, List.getElem?_eq_getElem (show k < 5 by omega)⟩
      have hxw : ¬ x = w := wIx_none hw k x hx
      refine ⟨by omega, .str x, wds_d hx, .bool (decide (x ≠ w)), by simp [binD], ?_⟩
      simp [hxw, hwk]
      exact ⟨k + 1, by omega, by simp [WEAK], by omega⟩
    | some j =>
      rw [hw] at h
      obtain ⟨hj, hjw, hlt⟩ := wIx_some hw
      have hor : ws.length ≠ (manyN j).1 ∨ gvs (manyN j).2 0 ws = none := by
        by_cases e : ws.length = (manyN j).1
        · right
          cases hgv : gvs (manyN j).2 0 ws with
          | none => rfl
          | some l => simp only [decide_eq_true e, hgv] at h; cases h
        · exact .inl e
      obtain ⟨s, hP⟩ := numbered_p1 hg r w ws j hj (fun v hv => by have := hmem v (List.mem_cons_of_mem _ hv); omega) (by simp at hln; omega) hor
      refine ⟨s, meetsP_proof_numbered ?_⟩
      unfold vcp_proof_numbered
      refine CALL.val [.str r, .str [32]] _ rfl hSp (.inl rfl) ?_
      refine CALL.mk [] _ rfl words_meets (.inl rfl) (by simp) ?_
      simp
      refine LOOP.mk Nat (fun k => [.d (.str r), .d (int 0), .zc, .d (strsD (w :: ws)), .d (.agg [.str pageW, .str lineW, .str readW, .str mendW, .str fallW]), .d (int k)]) (fun _ => []) (fun k => k ≤ j) (fun k => 5 - k) [] (by simp) 0 (by omega) (by simp [WEAK]) (fun _ _ => rfl) ?_
      intro k hk
      obtain ⟨x, hx⟩ : ∃ x, wds[k]? = some x := ⟨_, List.getElem?_eq_getElem (show k < 5 by omega)⟩
      have hxd := wds_d hx
      have hwk := wrap_id (n := (k : Int) + 1) (by omega) (by omega)
      have hM := many_meets (g := g) k (by omega)
      simp [vcp_proof_numbered_k2, strsD]
      refine ⟨fun _ => ⟨by omega, .str x, hxd, .bool (decide (x ≠ w)), by simp [binD], ?_⟩, fun h5 => by omega⟩
      by_cases hkj : k = j
      · subst hkj
        have hxw : x = w := by rw [hjw] at hx; injection hx with hx; exact hx.symm
        simp [hxw]
        refine CALL.mk [int k] _ rfl hM (.inl rfl) (by simp) ?_
        exact hP _
      · have hxw : ¬ x = w := hlt k (by omega) x hx
        simp [hxw, hwk]
        exact ⟨k + 1, by omega, by simp [WEAK], by omega⟩
end Go.Vc
