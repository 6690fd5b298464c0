/- A part of the proof: general laws of a reading of the model by abstract data, or contracts of the functions that the law calls. -/
import Derived.Laws.RangeString
import Derived.Laws.RangeAny
import Derived.Test.YtcmdbmcggfmmnaaGreatDoorVc32
import Derived.Test.YtcmdbmcggfmmnaaGreatDoorVc31
set_option maxRecDepth 100000
namespace Go.Vc
open Go Go.Proofs
variable {g : GG}
attribute [local simp] and_assoc
theorem need_ret (s : Str) : Meets (Tz g) f_differ_need [.bool true, .str s] ⟨.tup [], []⟩ := by
  refine meets_differ_need ?_
  unfold vc_differ_need
  simp
  exact POST.auto (by simp)
theorem need_pan (s : Str) : MeetsP (Tz g) f_differ_need [.bool false, .str s] (.iface T_differ_noText (.agg [.str s])) := by
  refine meetsP_differ_need ?_
  unfold vcp_differ_need
  simp
abbrev noT (s : Str) : D := .iface T_differ_noText (.agg [.str s])
theorem wrap_i32 {n : Int} (h1 : -2147483648 ≤ n) (h2 : n ≤ 2147483647) : IntKind.i32.wrap n = n := by
  simp only [IntKind.wrap, IntKind.bits, IntKind.signed]
  simp
  split <;> omega
theorem dec_low {s : Str} {p : Nat} {c : UInt8} (h : s[p]? = some c) (hc : c.toNat < 128) : Utf8.decode ⟨s.toArray⟩ p = (c.toNat, 1) := by
  obtain ⟨h1, h2⟩ := List.getElem?_eq_some_iff.1 h
  have hsz : p < (⟨s.toArray⟩ : ByteArray).size := by show p < s.toArray.size; simpa using h1
  have e : (⟨s.toArray⟩ : ByteArray)[p]'hsz = c := by
    show s.toArray[p]'_ = c
    simp [h2]
  have := decode_ascii ⟨s.toArray⟩ p hsz (by rw [e]; exact hc)
  rw [e] at this
  exact this
theorem dec_high {s : Str} {p : Nat} {c : UInt8} (h : s[p]? = some c) (hc : ¬ c.toNat < 128) : 128 ≤ (Utf8.decode ⟨s.toArray⟩ p).1 := by
  obtain ⟨h1, h2⟩ := List.getElem?_eq_some_iff.1 h
  have hsz : p < (⟨s.toArray⟩ : ByteArray).size := by show p < s.toArray.size; simpa using h1
  have e : (⟨s.toArray⟩ : ByteArray)[p]'hsz = c := by
    show s.toArray[p]'_ = c
    simp [h2]
  exact (decode_high ⟨s.toArray⟩ p hsz (by rw [e]; omega)).1
theorem cut_pre (w : Str) : Lib.trimPrefix w [45] = (cutM w).2 ∧ Lib.hasPrefix w [45] = (cutM w).1 := by
  cases w with
  | nil => exact ⟨rfl, rfl⟩
  | cons c r =>
    by_cases h : c = 45
    · subst h
      refine ⟨?_, ?_⟩
      · simp [Lib.trimPrefix, Lib.hasPrefix, cutM]
      · simp [Lib.hasPrefix, cutM]
    · have hb : Lib.hasPrefix (c :: r) [45] = false := by
        have e : ((45 : UInt8) == c) = false := by
          cases hq : ((45 : UInt8) == c) with
          | false => rfl
          | true => exact absurd (by simpa using hq : (45 : UInt8) = c).symm h
        show (((45 : UInt8) == c) && ([] : Str).isPrefixOf r) = false
        rw [e]; rfl
      have hc : cutM (c :: r) = (false, c :: r) := by simp only [cutM, decide_eq_false h]
      rw [hc]
      refine ⟨?_, hb⟩
      unfold Lib.trimPrefix
      rw [hb]
      rfl
theorem CutPrefix_meets (w : Str) : Meets (Tz g) f_strings_CutPrefix [.str w, .str [45]] ⟨.tup [.d (.str (cutM w).2), .d (.bool (cutM w).1)], []⟩ :=
  cut_X _ _ _ (by
    obtain ⟨h1, h2⟩ := cut_pre w
    simp only [List.map_cons, List.map_nil, cutX, h1, h2])
def givI (s : Str) (p : Nat) : Option ABlk := some ⟨0, 0, .it s p⟩
def digB (w : Str) : Bool := goodD 5 w && decide (itoaX (valS w : Nat) = w)
set_option maxHeartbeats 4000000 in
theorem given_ret (hg : GOK g) (s : Str) (hb : digB s = true) : Meets (Tz g) f_differ_given [.str s] ⟨.d (int (valS s : Nat)), []⟩ := by
  simp only [digB, Bool.and_eq_true, decide_eq_true_eq] at hb
  obtain ⟨g1, g2⟩ := hb
  have hvb := valS_bound g1
  simp only [goodD, Bool.and_eq_true, decide_eq_true_eq] at g1
  obtain ⟨q1, q2, q3⟩ := g1
  have hsl : ¬ s = [] := fun e => by rw [e] at q1; simp at q1
  refine meets_differ_given ?_
  unfold vc_differ_given
  simp
  refine LOOP.mk Nat (fun i => [.d (.str s), .d (int (valS (s.take i) : Nat)), .iter 48]) (fun i => [(48, givI s i)]) (fun i => i ≤ s.length) (fun i => s.length - i) [] (by simp) 0 (by omega) (by simp [WEAK, valS, lookH, givI]) (fun _ _ => rfl) ?_
  intro i hi
  simp [NEXT, givI]
  refine ⟨fun hlt => ?_, fun hge => ?_⟩
  · obtain ⟨c, hgc⟩ : ∃ c, s[i]? = some c := ⟨_, List.getElem?_eq_getElem hlt⟩
    have hcd := List.all_eq_true.1 q3 c (List.mem_of_getElem? hgc)
    simp only [isD, Bool.and_eq_true, decide_eq_true_eq] at hcd
    have hdec := dec_low hgc (by omega)
    have hvs := valS_snoc s i c hgc
    have hvl := valS_lt (s.take i) 0 (all_take q3 i)
    have hvl : valS (s.take i) < 100000 := by
      simp only [Nat.zero_add, Nat.one_mul] at hvl
      exact Nat.lt_of_lt_of_le hvl (Nat.pow_le_pow_right (n := 10) (by omega) (show (s.take i).length ≤ 5 by simp; omega))
    rw [hdec]
    have c1 : (48 : Int) ≤ (c.toNat : Int) := by omega
    have c2 : (c.toNat : Int) ≤ 57 := by omega
    have w1 := wrap_id (n := 10 * (valS (s.take i) : Int)) (by omega) (by omega)
    have w2 := wrap_i32 (n := (c.toNat : Int) - 48) (by omega) (by omega)
    have w3 := wrap_id (n := (c.toNat : Int) - 48) (by omega) (by omega)
    have w4 := wrap_id (n := 10 * (valS (s.take i) : Int) + ((c.toNat : Int) - 48)) (by omega) (by omega)
    have e : ((10 * valS (s.take i) + (c.toNat - 48) : Nat) : Int) = 10 * (valS (s.take i) : Int) + ((c.toNat : Int) - 48) := by omega
    have hls : (s.length : Int) ≤ 5 := by omega
    generalize valS (s.take i) = V at *
    simp [vc_differ_given_k2, c1, c2, vc_differ_given_k0]
    refine CALL.mk [.bool true, .str s] ⟨.tup [], []⟩ (by simp [argsD, argD, toD, hls]) (need_ret s) (.inl rfl) (by simp) ?_
    simp [w1, w2, w3, w4]
    refine ⟨i + 1, by omega, ?_, by omega⟩
    simp only [hvs, e]
    simp [WEAK, lookH]
  · have : i = s.length := by omega
    subst this
    rw [take_all (Nat.le_refl _)]
    have hI := Itoa_meets hg (valS s : Int) (by omega) (by omega)
    rw [g2] at hI
    simp [vc_differ_given_k3, hsl]
    refine CALL.val [int (valS s : Nat)] _ rfl hI (.inl rfl) ?_
    simp
    refine CALL.mk [.bool true, .str s] ⟨.tup [], []⟩ (by simp [argsD, argD, toD]) (need_ret s) (.inl rfl) (by simp) ?_
    simp
set_option maxHeartbeats 8000000 in
theorem given_pan (hg : GOK g) (s : Str) (hw : s.length ≤ 10000) (hb : digB s = false) : MeetsP (Tz g) f_differ_given [.str s] (noT s) := by
  have hN : MeetsP (Tz g) f_differ_need [.bool false, .str s] (noT s) := need_pan s
  refine meetsP_differ_given ?_
  unfold vcp_differ_given
  simp
  refine LOOP.mk Nat (fun i => [.d (.str s), .d (int (valS (s.take i) : Nat)), .iter 48]) (fun i => [(48, givI s i)]) (fun i => i ≤ s.length ∧ (s.take i).all isD = true ∧ (i = 0 ∨ s.length ≤ 5)) (fun i => s.length - i) [] (by simp) 0 ⟨by omega, rfl, .inl rfl⟩ (by simp [WEAK, valS, lookH, givI]) (fun _ _ => rfl) ?_
  rintro i ⟨hi, hall, hor⟩
  have hvl := valS_lt (s.take i) 0 hall
  have hvl : valS (s.take i) < 100000 := by
    simp only [Nat.zero_add, Nat.one_mul] at hvl
    exact Nat.lt_of_lt_of_le hvl (Nat.pow_le_pow_right (n := 10) (by omega) (show (s.take i).length ≤ 5 by simp; omega))
  simp [NEXT, givI]
  refine ⟨fun hlt => ?_, fun hge => ?_⟩
  · obtain ⟨c, hgc⟩ : ∃ c, s[i]? = some c := ⟨_, List.getElem?_eq_getElem hlt⟩
    have hc8 := c.toNat_lt
    have ha := allD_snoc s i c hgc
    have hvs := valS_snoc s i c hgc
    rw [hall, Bool.true_and] at ha
    by_cases hlow : c.toNat < 128
    · have hdec := dec_low hgc hlow
      rw [hdec]
      cases hd : isD c with
      | true =>
        rw [hd] at ha
        simp only [isD, Bool.and_eq_true, decide_eq_true_eq] at hd
        have c1 : (48 : Int) ≤ (c.toNat : Int) := by omega
        have c2 : (c.toNat : Int) ≤ 57 := by omega
        have w1 := wrap_id (n := 10 * (valS (s.take i) : Int)) (by omega) (by omega)
        have w2 := wrap_i32 (n := (c.toNat : Int) - 48) (by omega) (by omega)
        have w3 := wrap_id (n := (c.toNat : Int) - 48) (by omega) (by omega)
        have w4 := wrap_id (n := 10 * (valS (s.take i) : Int) + ((c.toNat : Int) - 48)) (by omega) (by omega)
        have e : ((10 * valS (s.take i) + (c.toNat - 48) : Nat) : Int) = 10 * (valS (s.take i) : Int) + ((c.toNat : Int) - 48) := by omega
        generalize valS (s.take i) = V at *
        simp [vcp_differ_given_k2, c1, c2, vcp_differ_given_k0]
        by_cases hs3 : s.length ≤ 5
        · have hls : (s.length : Int) ≤ 5 := by omega
          refine CALL.mk [.bool true, .str s] ⟨.tup [], []⟩ (by simp [argsD, argD, toD, hls]) (need_ret s) (.inl rfl) (by simp) ?_
          simp [w1, w2, w3, w4]
          refine ⟨i + 1, by omega, List.all_eq_true.1 ha, .inr hs3, ?_, by omega⟩
          simp only [hvs, e]
          simp [WEAK, lookH]
        · have hls : ¬ (s.length : Int) ≤ 5 := by omega
          refine CALL.pan [.bool false, .str s] _ (by simp [argsD, argD, toD]; omega) hN ?_
          simp
      | false =>
        have hno : ¬ (48 ≤ (c.toNat : Int) ∧ (c.toNat : Int) ≤ 57) := by
          simp only [isD, Bool.and_eq_false_iff, decide_eq_false_iff_not] at hd
          omega
        simp [vcp_differ_given_k2, vcp_differ_given_k1]
        refine ⟨fun g1 => ⟨fun g2 => absurd ⟨g1, g2⟩ hno, fun g2 => ?_⟩, fun g1 => ?_⟩
        · exact CALL.pan [.bool false, .str s] _ rfl hN (by simp)
        · exact CALL.pan [.bool false, .str s] _ rfl hN (by simp)
    · have hdec := dec_high hgc hlow
      generalize Utf8.decode ⟨s.toArray⟩ i = q at hdec
      obtain ⟨q1, q2⟩ := q
      have hno : ¬ ((q1 : Int) ≤ 57) := by omega
      simp [vcp_differ_given_k2, vcp_differ_given_k1]
      refine ⟨fun g1 => ⟨fun g2 => absurd g2 hno, fun g2 => ?_⟩, fun g1 => ?_⟩
      · exact CALL.pan [.bool false, .str s] _ rfl hN (by simp)
      · exact CALL.pan [.bool false, .str s] _ rfl hN (by simp)
  · have : i = s.length := by omega
    subst this
    rw [take_all (Nat.le_refl _)] at hall hvl ⊢
    simp [vcp_differ_given_k3]
    refine ⟨fun hne => ?_, fun he => ?_⟩
    · have hl1 : 1 ≤ s.length := by
        rcases Nat.eq_zero_or_pos s.length with h | h
        · exact absurd (List.length_eq_zero_iff.1 h) hne
        · exact h
      have hl3 : s.length ≤ 5 := hor.resolve_left (by omega)
      have hgd : goodD 5 s = true := by
        simp only [goodD, hall, decide_eq_true hl1, decide_eq_true hl3, Bool.and_true]
      have hit : ¬ itoaX (valS s : Int) = s := fun e => by
        unfold digB at hb
        rw [hgd, decide_eq_true e] at hb
        cases hb
      have hI := Itoa_meets hg (valS s : Int) (by omega) (by omega)
      refine CALL.val [int (valS s : Nat)] _ rfl hI (.inl rfl) ?_
      simp [hit]
      exact CALL.pan [.bool false, .str s] _ rfl hN (by simp)
    · exact CALL.pan [.bool false, .str s] _ rfl hN (by simp)
theorem digB_unsigned (w : Str) : digB w = givB 5 false w := by
  obtain ⟨h1, _⟩ := given_iff (d := 5) (by omega) w false
  rw [← h1]
  rcases cutM_cases w with ⟨rfl, hc⟩ | ⟨r, rfl, hc⟩ | ⟨c, r, rfl, h45, hc⟩
  · rfl
  · rw [hc]
    have : digB (45 :: r) = false := by
      unfold digB goodD
      have e : (45 :: r : Str).all isD = false := by simp [isD]
      rw [e]
      simp
    rw [this]
    simp
  · rw [hc]
    simp [digB]
theorem unsigned_ret (hg : GOK g) (w : Str) (n : Int) (hn : numR 5 w = some n) (h0 : 0 ≤ n) : Meets (Tz g) f_differ_given [.str w] ⟨.d (int n), []⟩ := by
  have hb : givB 5 false w = true := by unfold givB; rw [hn]; simp [h0]
  have hd := digB_unsigned w
  rw [hb] at hd
  have h := given_ret hg w hd
  have hv : n = (valS w : Int) := by
    have h2 := (given_iff (d := 5) (by omega) w false).2 n hn
    simp only [digB, Bool.and_eq_true, goodD] at hd
    rw [cutM_digs hd.1.2.2] at h2
    exact h2
  rw [hv]
  exact h
theorem unsigned_pan (hg : GOK g) (w : Str) (hw : w.length ≤ 10000) (h : ∀ n, numR 5 w = some n → n < 0) : MeetsP (Tz g) f_differ_given [.str w] (noT w) := by
  refine given_pan hg w hw ?_
  rw [digB_unsigned]
  unfold givB
  cases hn : numR 5 w with
  | none => rfl
  | some n => simp; exact h n hn
theorem signed_ret (hg : GOK g) (w : Str) (n : Int) (hn : numR 5 w = some n) : Meets (Tz g) f_differ_signed [.str w] ⟨.d (int n), []⟩ := by
  have hC := CutPrefix_meets (g := g) w
  obtain ⟨h1, h2⟩ := given_iff (d := 5) (by omega) w true
  have hb : givB 5 true w = true := by unfold givB; rw [hn]; rfl
  rw [hb] at h1
  have h2 := h2 n hn
  have hnb := numR_some (by omega) hn
  refine meets_differ_signed ?_
  unfold vc_differ_signed
  refine CALL.mk [.str w, .str [45]] _ rfl hC (.inl rfl) (by simp) ?_
  rcases cutM_cases w with ⟨rfl, hc⟩ | ⟨r, rfl, hc⟩ | ⟨c, r, rfl, h45, hc⟩
  · rw [hc] at h1; simp [goodD] at h1
  · rw [hc] at h1 h2
    simp only [Bool.and_eq_true, decide_eq_true_eq] at h1
    obtain ⟨k1, k2, k3⟩ := h1
    simp at k3
    have hd : digB r = true := by simp only [digB, k1, Bool.true_and, decide_eq_true_eq]; exact k2
    have hv := valS_bound k1
    have h2 : n = -(valS r : Int) := h2
    have wn := wrap_id (n := -(valS r : Int)) (by omega) (by omega)
    simp [hc, vc_differ_signed_k0]
    refine CALL.val [.str r] _ rfl (given_ret hg r hd) (.inl rfl) ?_
    simp
    refine CALL.mk [.bool true, .str (45 :: r)] ⟨.tup [], []⟩ (by simp [argsD, argD, toD, k3]) (need_ret _) (.inl rfl) (by simp) ?_
    simp [wn, h2]
  · rw [hc] at h1 h2
    simp only [Bool.and_eq_true, decide_eq_true_eq] at h1
    obtain ⟨k1, k2, k3⟩ := h1
    have hd : digB (c :: r) = true := by simp only [digB, k1, Bool.true_and, decide_eq_true_eq]; exact k2
    have h2 : n = (valS (c :: r) : Int) := h2
    simp [hc, vc_differ_signed_k0]
    refine CALL.val [.str (c :: r)] _ rfl (given_ret hg (c :: r) hd) (.inl rfl) ?_
    simp [h2]
theorem signed_pan (hg : GOK g) (w : Str) (hw : w.length ≤ 10000) (hn : numR 5 w = none) : ∃ s, MeetsP (Tz g) f_differ_signed [.str w] (noT s) := by
  have hC := CutPrefix_meets (g := g) w
  obtain ⟨h1, _⟩ := given_iff (d := 5) (by omega) w true
  have hb : givB 5 true w = false := by unfold givB; rw [hn]
  rw [hb] at h1
  rcases cutM_cases w with ⟨rfl, hc⟩ | ⟨r, rfl, hc⟩ | ⟨c, r, rfl, h45, hc⟩
  · refine ⟨[], meetsP_differ_signed ?_⟩
    unfold vcp_differ_signed
    refine CALL.mk [.str [], .str [45]] _ rfl hC (.inl rfl) (by simp) ?_
    simp [hc, vcp_differ_signed_k0]
    exact CALL.pan [.str []] _ rfl (given_pan hg [] (by simp) (by rfl)) (by simp)
  · rw [hc] at h1
    have hw2 : r.length ≤ 10000 := by simp at hw; omega
    cases hd : digB r with
    | false =>
      refine ⟨r, meetsP_differ_signed ?_⟩
      unfold vcp_differ_signed
      refine CALL.mk [.str (45 :: r), .str [45]] _ rfl hC (.inl rfl) (by simp) ?_
      simp [hc, vcp_differ_signed_k0]
      exact CALL.pan [.str r] _ rfl (given_pan hg r hw2 hd) (by simp)
    | true =>
      have hd2 := hd
      simp only [digB, Bool.and_eq_true, decide_eq_true_eq] at hd2
      have hv0 : valS r = 0 := by
        simp only [hd2.1, hd2.2, Bool.true_and, decide_true, Bool.not_true, Bool.false_or, decide_eq_false_iff_not] at h1
        omega
      have hgr := given_ret hg r hd
      rw [hv0] at hgr
      refine ⟨45 :: r, meetsP_differ_signed ?_⟩
      unfold vcp_differ_signed
      refine CALL.mk [.str (45 :: r), .str [45]] _ rfl hC (.inl rfl) (by simp) ?_
      simp [hc, vcp_differ_signed_k0]
      refine CALL.val [.str r] _ rfl hgr (.inl rfl) ?_
      simp
      exact CALL.pan [.bool false, .str (45 :: r)] _ rfl (need_pan _) (by simp)
  · rw [hc] at h1
    have hd : digB (c :: r) = false := by
      simp only [Bool.not_false, Bool.true_or, Bool.and_true] at h1
      exact h1
    refine ⟨c :: r, meetsP_differ_signed ?_⟩
    unfold vcp_differ_signed
    refine CALL.mk [.str (c :: r), .str [45]] _ rfl hC (.inl rfl) (by simp) ?_
    simp [hc, vcp_differ_signed_k0]
    exact CALL.pan [.str (c :: r)] _ rfl (given_pan hg (c :: r) hw hd) (by simp)
end Go.Vc
