/- A part of the proof: general laws of a reading of the model by abstract data, or contracts of the functions that the law calls. -/
import Derived.Test.YtjdgidaoknlnlaaGreatDoorVc23
import Derived.Test.YtjdgidaoknlnlaaGreatDoorVc11
import Derived.Test.YtjdgidaoknlnlaaGreatDoorVc39
import Derived.Test.YtjdgidaoknlnlaaGreatDoorVc41
set_option maxRecDepth 100000
namespace Go.Vc
open Go Go.Proofs Go.RowKit
def ann_proof_best_proof_reader : Nat → List Nat := fun n => match n with | 3 => [1, 4, 5, 12, 13, 14] | _ => []
def vc_proof_best_proof_reader_k0 (P : Ctx) (pre : List ABlk) (r : AV) (post : List PB) (v0 : AV) (v1 : AV) (h2 : Heap) (vs4 : List AV) (next7 : List AV → Heap → Prop) : Prop :=
  COND v0
  (LOAD true 2 v1 h2 fun v3 =>
  STORE 2 (nth vs4 2) v3 h2 fun h5 =>
  BIN 0 .add (nth vs4 5) (.d (.num .i64 1)) fun v6 =>
  next7 [(nth vs4 0), (nth vs4 1), (nth vs4 2), (nth vs4 3), (nth vs4 4), v6] h5)
  (BIN 0 .add (nth vs4 5) (.d (.num .i64 1)) fun v6 =>
  next7 [(nth vs4 0), (nth vs4 1), (nth vs4 2), (nth vs4 3), (nth vs4 4), v6] h2)
def vc_proof_best_proof_reader_k1 (P : Ctx) (pre : List ABlk) (r : AV) (post : List PB) (vs0 : List AV) (h2 : Heap) (next13 : List AV → Heap → Prop) : Prop :=
  BIN 0 .lss (nth vs0 5) (nth vs0 4) fun v1 =>
  COND v1
  (IADDR 2 T_proof_reader (nth vs0 3) (nth vs0 5) h2 fun v3 =>
  LOAD true 2 v3 h2 fun v4 =>
  ALLOC T_proof_reader [.d (.num .i64 0), .d (.num .i64 0)] 136 h2 fun v5 h6 =>
  STORE 2 v5 v4 h6 fun h7 =>
  LOAD true 2 v5 h7 fun v8 =>
  LOAD true 2 (nth vs0 2) h7 fun v9 =>
  CALLV P (nth vs0 0) [v8, v9] 176 h7 (fun _ v11 h12 =>
  vc_proof_best_proof_reader_k0 P pre r post v11 v5 h12 vs0 next13)
  (fun _ _ _ => False))
  (LOAD true 2 (nth vs0 2) h2 fun v14 =>
  STORE 2 (nth vs0 1) v14 h2 fun h15 =>
  LOAD true 2 (nth vs0 1) h15 fun r12 =>
  POST r12 h15 pre r post)
def vc_proof_best_proof_reader (P : Ctx) (pre : List ABlk) (a0 a1 : AV) (r : AV) (post : List PB) : Prop :=
  let h0 : Heap := numbered 0 pre
  ALLOC T_proof_reader [.d (.num .i64 0), .d (.num .i64 0)] 24 h0 fun v4 h1 =>
  IADDR 2 T_proof_reader a0 (.d (.num .i64 0)) h1 fun v9 =>
  LOAD true 2 v9 h1 fun v10 =>
  ALLOC T_proof_reader [.d (.num .i64 0), .d (.num .i64 0)] 56 h1 fun v5 h2 =>
  STORE 2 v5 v10 h2 fun h3 =>
  SLICE 3 a0 (some (.d (.num .i64 1))) none none fun v12 =>
  LEN false v12 h3 fun v13 =>
  LOOP [a1, v4, v5, v12, v13, (.d (.num .i64 0))] h3 104 fun vs4 h5 next4 =>
  vc_proof_best_proof_reader_k1 P pre r post vs4 h5 next4
theorem vc_proof_best_proof_reader_eq (g : GG) (pre : List ABlk) (a0 a1 : AV) (r : AV) (post : List PB) : vcFn2 (Tz g) false ann_proof_best_proof_reader Tryz.f72 pre [a0, a1] (.ret r) post = vc_proof_best_proof_reader (Tz g) pre a0 a1 r post := by kernel_rfl
theorem hf_proof_best_proof_reader : Tryz.prog.funcs[f_proof_best_proof_reader]? = some Tryz.f72 := by kernel_rfl
theorem ok_proof_best_proof_reader : fnVcOK Tryz.prog Tryz.f72 = true := by kernel_rfl
theorem nt_proof_best_proof_reader : Nat.ble 2 Tryz.f72.ntmps = true := by kernel_rfl
theorem meetsH_proof_best_proof_reader {g : GG} {pre : List ABlk} {a0 a1 : AV} {r : AV} {post : List PB} (hk : Nat.ble pre.length 24 = true) (h : vc_proof_best_proof_reader (Tz g) pre a0 a1 r post) : MeetsH (Tz g) f_proof_best_proof_reader pre [a0, a1] (.ret r) post :=
  meetsH_of_vc (C := Tz g) ann_proof_best_proof_reader hf_proof_best_proof_reader ok_proof_best_proof_reader nt_proof_best_proof_reader hk (pn := false) (Eq.mpr ((vcFn2_eq _ _ _ _ _ _ _ _).trans (vc_proof_best_proof_reader_eq g pre a0 a1 r post)) h)
theorem meets_proof_best_proof_reader {g : GG} {a0 a1 : D} {r : Res} (h : vc_proof_best_proof_reader (Tz g) [] (.d a0) (.d a1) r.val (r.bl.map .upd)) : Meets (Tz g) f_proof_best_proof_reader [a0, a1] r := meetsH_proof_best_proof_reader rfl h
def ann_proof_Worst_1 : Nat → List Nat := fun n => match n with  | _ => []
def vc_proof_Worst_1 (P : Ctx) (pre : List ABlk) (a0 a1 : AV) (r : AV) (post : List PB) : Prop :=
  let h0 : Heap := numbered 0 pre
  BOX T_proof_reader a0 24 h0 fun v2 h1 =>
  BOX T_proof_reader a1 32 h1 fun v3 h2 =>
  FADDR 1 v2 h2 fun v5 =>
  LOAD false 1 v5 h2 fun v6 =>
  FADDR 1 v3 h2 fun v7 =>
  LOAD false 1 v7 h2 fun v8 =>
  BIN 0 .gtr v6 v8 fun v9 =>
  POST v9 h2 pre r post
theorem vc_proof_Worst_1_eq (g : GG) (pre : List ABlk) (a0 a1 : AV) (r : AV) (post : List PB) : vcFn2 (Tz g) false ann_proof_Worst_1 Tryz.f73 pre [a0, a1] (.ret r) post = vc_proof_Worst_1 (Tz g) pre a0 a1 r post := by kernel_rfl
theorem hf_proof_Worst_1 : Tryz.prog.funcs[f_proof_Worst_1]? = some Tryz.f73 := by kernel_rfl
theorem ok_proof_Worst_1 : fnVcOK Tryz.prog Tryz.f73 = true := by kernel_rfl
theorem nt_proof_Worst_1 : Nat.ble 2 Tryz.f73.ntmps = true := by kernel_rfl
theorem meetsH_proof_Worst_1 {g : GG} {pre : List ABlk} {a0 a1 : AV} {r : AV} {post : List PB} (hk : Nat.ble pre.length 24 = true) (h : vc_proof_Worst_1 (Tz g) pre a0 a1 r post) : MeetsH (Tz g) f_proof_Worst_1 pre [a0, a1] (.ret r) post :=
  meetsH_of_vc (C := Tz g) ann_proof_Worst_1 hf_proof_Worst_1 ok_proof_Worst_1 nt_proof_Worst_1 hk (pn := false) (Eq.mpr ((vcFn2_eq _ _ _ _ _ _ _ _).trans (vc_proof_Worst_1_eq g pre a0 a1 r post)) h)
theorem meets_proof_Worst_1 {g : GG} {a0 a1 : D} {r : Res} (h : vc_proof_Worst_1 (Tz g) [] (.d a0) (.d a1) r.val (r.bl.map .upd)) : Meets (Tz g) f_proof_Worst_1 [a0, a1] r := meetsH_proof_Worst_1 rfl h
def ann_slices_Contains_l_int_int : Nat → List Nat := fun n => match n with  | _ => []
def vc_slices_Contains_l_int_int (P : Ctx) (pre : List ABlk) (a0 a1 : AV) (r : AV) (post : List PB) : Prop :=
  let h0 : Heap := numbered 0 pre
  CALL P f_slices_Index_l_int_int [a0, a1] 48 h0 (fun _ v7 h1 =>
  BIN 0 .geq v7 (.d (.num .i64 0)) fun v8 =>
  POST v8 h1 pre r post)
  (fun _ _ _ => False)
theorem vc_slices_Contains_l_int_int_eq (g : GG) (pre : List ABlk) (a0 a1 : AV) (r : AV) (post : List PB) : vcFn2 (Tz g) false ann_slices_Contains_l_int_int Tryz.f70 pre [a0, a1] (.ret r) post = vc_slices_Contains_l_int_int (Tz g) pre a0 a1 r post := by kernel_rfl
theorem hf_slices_Contains_l_int_int : Tryz.prog.funcs[f_slices_Contains_l_int_int]? = some Tryz.f70 := by kernel_rfl
theorem ok_slices_Contains_l_int_int : fnVcOK Tryz.prog Tryz.f70 = true := by kernel_rfl
theorem nt_slices_Contains_l_int_int : Nat.ble 2 Tryz.f70.ntmps = true := by kernel_rfl
theorem meetsH_slices_Contains_l_int_int {g : GG} {pre : List ABlk} {a0 a1 : AV} {r : AV} {post : List PB} (hk : Nat.ble pre.length 24 = true) (h : vc_slices_Contains_l_int_int (Tz g) pre a0 a1 r post) : MeetsH (Tz g) f_slices_Contains_l_int_int pre [a0, a1] (.ret r) post :=
  meetsH_of_vc (C := Tz g) ann_slices_Contains_l_int_int hf_slices_Contains_l_int_int ok_slices_Contains_l_int_int nt_slices_Contains_l_int_int hk (pn := false) (Eq.mpr ((vcFn2_eq _ _ _ _ _ _ _ _).trans (vc_slices_Contains_l_int_int_eq g pre a0 a1 r post)) h)
theorem meets_slices_Contains_l_int_int {g : GG} {a0 a1 : D} {r : Res} (h : vc_slices_Contains_l_int_int (Tz g) [] (.d a0) (.d a1) r.val (r.bl.map .upd)) : Meets (Tz g) f_slices_Contains_l_int_int [a0, a1] r := meetsH_slices_Contains_l_int_int rfl h
def ann_slices_Index_l_int_int : Nat → List Nat := fun n => match n with | 2 => [0, 1, 7, 8] | _ => []
def vc_slices_Index_l_int_int_k0 (P : Ctx) (pre : List ABlk) (r : AV) (post : List PB) (vs0 : List AV) (h2 : Heap) (next7 : List AV → Heap → Prop) : Prop :=
  BIN 0 .lss (nth vs0 3) (nth vs0 2) fun v1 =>
  COND v1
  (IADDR 1 T_int (nth vs0 0) (nth vs0 3) h2 fun v3 =>
  LOAD false 1 v3 h2 fun v4 =>
  BIN 0 .eql (nth vs0 1) v4 fun v5 =>
  COND v5
  (POST (nth vs0 3) h2 pre r post)
  (BIN 0 .add (nth vs0 3) (.d (.num .i64 1)) fun v6 =>
  next7 [(nth vs0 0), (nth vs0 1), (nth vs0 2), v6] h2))
  (POST (.d (.num .i64 (-1))) h2 pre r post)
def vc_slices_Index_l_int_int (P : Ctx) (pre : List ABlk) (a0 a1 : AV) (r : AV) (post : List PB) : Prop :=
  let h0 : Heap := numbered 0 pre
  LEN false a0 h0 fun v7 =>
  LOOP [a0, a1, v7, (.d (.num .i64 0))] h0 56 fun vs1 h2 next1 =>
  vc_slices_Index_l_int_int_k0 P pre r post vs1 h2 next1
theorem vc_slices_Index_l_int_int_eq (g : GG) (pre : List ABlk) (a0 a1 : AV) (r : AV) (post : List PB) : vcFn2 (Tz g) false ann_slices_Index_l_int_int Tryz.f119 pre [a0, a1] (.ret r) post = vc_slices_Index_l_int_int (Tz g) pre a0 a1 r post := by kernel_rfl
theorem hf_slices_Index_l_int_int : Tryz.prog.funcs[f_slices_Index_l_int_int]? = some Tryz.f119 := by kernel_rfl
theorem ok_slices_Index_l_int_int : fnVcOK Tryz.prog Tryz.f119 = true := by kernel_rfl
theorem nt_slices_Index_l_int_int : Nat.ble 2 Tryz.f119.ntmps = true := by kernel_rfl
theorem meetsH_slices_Index_l_int_int {g : GG} {pre : List ABlk} {a0 a1 : AV} {r : AV} {post : List PB} (hk : Nat.ble pre.length 24 = true) (h : vc_slices_Index_l_int_int (Tz g) pre a0 a1 r post) : MeetsH (Tz g) f_slices_Index_l_int_int pre [a0, a1] (.ret r) post :=
  meetsH_of_vc (C := Tz g) ann_slices_Index_l_int_int hf_slices_Index_l_int_int ok_slices_Index_l_int_int nt_slices_Index_l_int_int hk (pn := false) (Eq.mpr ((vcFn2_eq _ _ _ _ _ _ _ _).trans (vc_slices_Index_l_int_int_eq g pre a0 a1 r post)) h)
theorem meets_slices_Index_l_int_int {g : GG} {a0 a1 : D} {r : Res} (h : vc_slices_Index_l_int_int (Tz g) [] (.d a0) (.d a1) r.val (r.bl.map .upd)) : Meets (Tz g) f_slices_Index_l_int_int [a0, a1] r := meetsH_slices_Index_l_int_int rfl h
end Go.Vc

namespace Go.Vc
open Go Go.Proofs
variable {g : GG}
attribute [local simp] and_assoc
theorem rng_filter (f : Nat → Bool) (c n L : Nat) (h : c + n ≤ L) : (List.range L).filter (fun k => (decide (c ≤ k) && decide (k < c + n)) && f k) = (List.range' c n).filter f := by
  have e1 : List.range L = List.range' 0 c ++ (List.range' c n ++ List.range' (c + n) (L - c - n)) := by
    rw [List.range_eq_range']
    have h1 := List.range'_append_1 (s := c) (m := n) (n := L - c - n)
    have h2 := List.range'_append_1 (s := 0) (m := c) (n := n + (L - c - n))
    have : c + (n + (L - c - n)) = L := by omega
    rw [this] at h2
    simp only [Nat.zero_add] at h2
    rw [h1, h2]
  rw [e1, List.filter_append, List.filter_append]
  have p1 : (List.range' 0 c).filter (fun k => (decide (c ≤ k) && decide (k < c + n)) && f k) = [] := by
    apply List.filter_eq_nil_iff.2
    intro a ha
    have := (List.mem_range'_1.1 ha).2
    have h0 : ¬ c ≤ a := by omega
    simp [h0]
  have p3 : (List.range' (c + n) (L - c - n)).filter (fun k => (decide (c ≤ k) && decide (k < c + n)) && f k) = [] := by
    apply List.filter_eq_nil_iff.2
    intro a ha
    have := (List.mem_range'_1.1 ha).1
    have h0 : ¬ a < c + n := by omega
    simp [h0]
  have p2 : (List.range' c n).filter (fun k => (decide (c ≤ k) && decide (k < c + n)) && f k) = (List.range' c n).filter f := by
    apply List.filter_congr
    intro a ha
    obtain ⟨h1, h2⟩ := List.mem_range'_1.1 ha
    simp [h1, h2]
  rw [p1, p2, p3]
  simp
def misB (p : Pg) (i k : Nat) : Bool := match p.log[i]? with
  | some e => rdsB e k && difB p (stN p i) k
  | none => false
def rowM (p : Pg) (i k : Nat) : List (Int × Int) := ((List.range k).filter (misB p i)).map fun (n : Nat) => ((i : Int), (n : Int))
theorem rowM_len (p : Pg) (i k : Nat) : (rowM p i k).length ≤ k := by
  have := List.length_filter_le (misB p i) (List.range k)
  simp only [rowM, List.length_map]
  simpa using this
def missL (p : Pg) : Nat → List (Int × Int)
  | 0 => []
  | i + 1 => missL p i ++ rowM p i p.lines.length
theorem missL_len (p : Pg) : ∀ i, (missL p i).length ≤ i * p.lines.length
  | 0 => by simp [missL]
  | i + 1 => by
    have h1 := missL_len p i
    have h2 := rowM_len p i p.lines.length
    simp only [missL, List.length_append, Nat.add_mul, Nat.one_mul]
    omega
theorem readN_missed_eq (p : Pg) (i : Nat) (a b : Int) : ∀ (n c : Nat) (s : Ps), (readN p i a b n c s).missed = s.missed ++ ((List.range' c n).filter (difB p s)).map fun (k : Nat) => ((i : Int), (k : Int))
  | 0, c, s => by simp [readN]
  | n + 1, c, s => by
    simp only [readN]
    rw [readN_missed_eq p i a b n (c + 1)]
    have h1 : difB p (readOne p i a b c s) = difB p s := rfl
    have h2 : (readOne p i a b c s).missed = (match difB p s c with | true => s.missed ++ [((i : Int), (c : Int))] | false => s.missed) := rfl
    rw [h1, h2, List.range'_succ]
    simp only [List.filter_cons]
    cases difB p s c with
    | true => simp
    | false => simp
theorem stN_missed {p : Pg} (hok : p.ok = true) : ∀ i, i ≤ p.log.length → (stN p i).missed = missL p i
  | 0, _ => rfl
  | i + 1, hi => by
    have ih := stN_missed hok i (by omega)
    have hg : p.log[i]? = some p.log[i] := List.getElem?_eq_getElem (by omega)
    have he := (Pg.ok_len hok).2.2.2.2.2.2 _ (List.getElem_mem (show i < p.log.length by omega))
    generalize p.log[i] = e at hg he
    have hst : stN p (i + 1) = stepS p i e (stN p i) := by simp only [stN, hg]
    have hz : (∀ k : Nat, rdsB e k = false) → rowM p i p.lines.length = [] := fun h => by
      have : misB p i = fun _ => false := by funext k; simp only [misB, hg, h k, Bool.false_and]
      unfold rowM
      rw [this]
      simp
    rw [hst]
    simp only [missL]
    rcases entB_cases he with ⟨a, rfl, ha⟩ | ⟨a, b, c, rfl, ha, hb, hc⟩ | ⟨a, b, c, n, rfl, ha, hb, hab, hcn, hn⟩
    · rw [hz (fun _ => rfl), List.append_nil, ← ih]; rfl
    · rw [hz (fun _ => rfl), List.append_nil, ← ih]; rfl
    · have e0 : ((c : Int) + n - 1 - c + 1).toNat = n := by omega
      simp only [stepS, Int.toNat_natCast, e0]
      rw [readN_missed_eq, ih]
      congr 1
      unfold rowM
      rw [← rng_filter _ c n p.lines.length hcn]
      congr 1
      apply List.filter_congr
      intro k hk
      have h1 : rdsB ⟨1, [a, b, (c : Int), (c : Int) + n - 1]⟩ k = (decide (c ≤ k) && decide (k < c + n)) := by
        have hc1 : decide ((c : Int) ≤ (k : Int)) = decide (c ≤ k) := decide_eq_decide.2 (by omega)
        have hc2 : decide ((k : Int) ≤ (c : Int) + n - 1) = decide (k < c + n) := decide_eq_decide.2 (by omega)
        simp only [rdsB, inB, hc1, hc2]
      simp only [misB, hg, h1]
theorem proof_Missed_data (p : Pg) (hok : p.ok = true) : Meets (Tz g) f_proof_Missed [p.d] ⟨.tup [.d (.list ((missL p p.log.length).map missD)), .d (int 0)], []⟩ := by
  obtain ⟨a1, a2, a3, a4, a5, _⟩ := Pg.ok_len hok
  rw [← stN_missed hok _ (Nat.le_refl _)]
  refine meets_proof_Missed ?_
  unfold vc_proof_Missed
  simp [Pg.d, lns, ents]
  refine CALL.val [p.d] _ rfl (proof_isPage_meets p (by omega) (by omega)) (.inl rfl) ?_
  simp [vc_proof_Missed_k0, hok]
  refine CALL.gen [] [false] [.d p.d] [] _ _ (pageOf_meets p hok) rfl (by simp [argsM, AV.ren, Pg.d, lns, ents]) (by simp [preB]) (by simp [lowL, ids.idsL, ids, preIds]) (by simp [lentL, disjB]) (by simp [stBlks]) ?_
  simp [AV.ren, AV.ren.renL, stBlks, stBox, upsP, rho, ABlk.ren, Body.ren, lentL, kills, lookH]
end Go.Vc

namespace Go.Vc
open Go Go.Proofs
variable {g : GG}
attribute [local simp] and_assoc
def ofB (p : Pg) (n : Int) (m : Int × Int) : Bool := match p.log[m.1.toNat]? with
  | some e => (match e.nums with
    | a :: b :: _ => decide (a = n) || decide (b = n)
    | _ => false)
  | none => false
def cntL (f : Int × Int → Bool) (l : List (Int × Int)) (j : Nat) : Nat := ((l.take j).filter f).length
theorem cntL_succ (f : Int × Int → Bool) (l : List (Int × Int)) (j : Nat) (x : Int × Int) (h : l[j]? = some x) : cntL f l (j + 1) = cntL f l j + (match f x with | true => 1 | false => 0) := by
  have hj := (List.getElem?_eq_some_iff.1 h).1
  unfold cntL
  rw [List.take_add_one, h]
  simp only [Option.toList_some, List.filter_append, List.length_append, List.filter_cons, List.filter_nil]
  cases f x <;> rfl
theorem cntL_le (f : Int × Int → Bool) (l : List (Int × Int)) (j : Nat) : cntL f l j ≤ j := by
  unfold cntL
  have := List.length_filter_le f (l.take j)
  have h2 := List.length_take_le j l
  omega
def ofN (p : Pg) (n : Int) : Nat := cntL (ofB p n) (missL p p.log.length) (missL p p.log.length).length
theorem mem_missL {p : Pg} {x : Int × Int} : ∀ i, x ∈ missL p i → ∃ j k : Nat, j < i ∧ k < p.lines.length ∧ x = ((j : Int), (k : Int)) ∧ misB p j k = true
  | 0, h => by simp [missL] at h
  | i + 1, h => by
    simp only [missL, List.mem_append] at h
    rcases h with h | h
    · obtain ⟨j, k, h1, h2, h3, h4⟩ := mem_missL i h
      exact ⟨j, k, by omega, h2, h3, h4⟩
    · simp only [rowM, List.mem_map, List.mem_filter, List.mem_range] at h
      obtain ⟨k, ⟨h1, h2⟩, h3⟩ := h
      exact ⟨i, k, by omega, h1, h3.symm, h2⟩
theorem miss_read {p : Pg} (hok : p.ok = true) {x : Int × Int} {i : Nat} (h : x ∈ missL p i) : i ≤ p.log.length → ∃ (j k : Nat) (a b : Int) (c n : Nat), j < p.log.length ∧ x = ((j : Int), (k : Int)) ∧ p.log[j]? = some ⟨1, [a, b, (c : Int), (c : Int) + n - 1]⟩ ∧ persB p a = true ∧ persB p b = true := by
  intro hi
  obtain ⟨j, k, h1, h2, h3, h4⟩ := mem_missL i h
  have hj : j < p.log.length := by omega
  have hg : p.log[j]? = some p.log[j] := List.getElem?_eq_getElem hj
  have he := (Pg.ok_len hok).2.2.2.2.2.2 _ (List.getElem_mem hj)
  generalize p.log[j] = e at hg he
  rcases entB_cases he with ⟨a, rfl, ha⟩ | ⟨a, b, c, rfl, ha, hb, hc⟩ | ⟨a, b, c, n, rfl, ha, hb, hab, hcn, hn⟩
  · simp [misB, hg, rdsB] at h4
  · simp [misB, hg, rdsB] at h4
  · exact ⟨j, k, a, b, c, n, hj, h3, hg, ha, hb⟩
theorem missL_le {p : Pg} (hok : p.ok = true) {i : Nat} (hi : i ≤ p.log.length) : (missL p i).length ≤ 60 := by
  obtain ⟨a1, a2, a3, a4, a5, a6, a7⟩ := Pg.ok_len hok
  have := missL_len p i
  have h2 : i * p.lines.length ≤ 60 := Nat.le_trans (Nat.mul_le_mul (show i ≤ 10 by omega) (show p.lines.length ≤ 6 by omega)) (by omega)
  omega
def bestI (f : Nat → Int) : Nat → Nat
  | 0 => 0
  | k + 1 => match decide (f (bestI f k) < f (k + 1)) with | true => k + 1 | false => bestI f k
theorem bestI_le (f : Nat → Int) : ∀ k, bestI f k ≤ k
  | 0 => Nat.le_refl 0
  | k + 1 => by
    have := bestI_le f k
    simp only [bestI]
    split <;> omega
theorem bestI_max (f : Nat → Int) : ∀ k j, j ≤ k → f j ≤ f (bestI f k)
  | 0, j, h => by
    have : j = 0 := by omega
    subst this; exact Int.le_refl _
  | k + 1, j, h => by
    simp only [bestI]
    by_cases hj : j = k + 1
    · subst hj
      split
      · exact Int.le_refl _
      · rename_i hd
        have := of_decide_eq_false hd
        omega
    · have := bestI_max f k j (by omega)
      split
      · rename_i hd
        have := of_decide_eq_true hd
        omega
      · exact this
theorem bestI_first (f : Nat → Int) : ∀ k j, j < bestI f k → f j < f (bestI f k)
  | 0, j, h => by simp [bestI] at h
  | k + 1, j, h => by
    by_cases hd : f (bestI f k) < f (k + 1)
    · have e : bestI f (k + 1) = k + 1 := by simp only [bestI]; rw [decide_eq_true hd]
      rw [e] at h ⊢
      have h2 := bestI_max f k j (by omega)
      omega
    · have e : bestI f (k + 1) = bestI f k := by simp only [bestI]; rw [decide_eq_false hd]
      rw [e] at h ⊢
      exact bestI_first f k j h
end Go.Vc
