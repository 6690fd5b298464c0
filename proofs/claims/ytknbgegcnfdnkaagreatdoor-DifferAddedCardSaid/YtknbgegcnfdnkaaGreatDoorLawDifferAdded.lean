/- Proves that the statement DifferAddedCardSaid holds of the given program: for every input the law returns true and leaves its arguments as they were; under the row's own conditions, that the listed tables are laid as the program's text has them. -/
import Derived.Test.YtknbgegcnfdnkaaGreatDoorVc27
set_option maxRecDepth 100000
namespace Go.Vc
open Go Go.Proofs Go.RowKit
def ann_law01_DifferAdded : Nat → List Nat := fun n => match n with | 13 => [9, 11, 13] | _ => []
def vc_law01_DifferAdded (P : Ctx) (pre : List ABlk) (a0 a1 a2 : AV) (r : AV) (post : List PB) : Prop :=
  let h0 : Heap := numbered 0 pre
  BOX T_api_DifferPlan a0 24 h0 fun v3 h1 =>
  LOAD true 3 v3 h1 fun v15 =>
  CALL P f_law01_right [v15, a1] 56 h1 (fun _ v17 h2 =>
  NOT v17 fun v18 =>
  CONDG v18
  (CALL P f_law01_known [] 120 h2 (fun _ v25 h4 =>
  POST v25 h4 pre r post)
  (fun _ _ _ => False))
  (LOAD true 3 v3 h2 fun v20 =>
  CALL P f_ref01_Line [v20, a2] 96 h2 (fun _ v22 h6 =>
  NOT v22 fun v23 =>
  COND v23
  (CALL P f_law01_known [] 120 h6 (fun _ v25 h8 =>
  POST v25 h8 pre r post)
  (fun _ _ _ => False))
  (LOAD true 3 v3 h6 fun v27 =>
  CALL P f_differ_Table [v27, a1] 136 h6 (fun _ v29 h10 =>
  EXT v29 0 fun v30 =>
  EXT v29 1 fun v31 =>
  LOAD true 3 v3 h10 fun v33 =>
  CALL P f_differ_State [v33, a1, a2] 208 h10 (fun _ v36 h12 =>
  EXT v36 0 fun v37 =>
  EXT v36 1 fun v38 =>
  BIN 0 .neq v31 (.d (.num .i64 0)) fun v40 =>
  CONDG v40
  (ORDX [] [0, 1, 3, 7, 15, 31, 63, 127, 255, 127, 639, 2047, 4095, 8191, 16383, 32767, 16383, 81919, 262143, 524287, 1048575, 2097151, 4194303, 8388607, 2097151, 2097151, 52428799, 119537663, 268435455, 536870911] [] ∧
  POST (.d (.bool false)) h12 pre r post)
  (BIN 0 .neq v38 (.d (.num .i64 0)) fun v43 =>
  CONDG v43
  (ORDX [] [0, 1, 3, 7, 15, 31, 63, 127, 255, 127, 639, 2047, 4095, 8191, 16383, 32767, 16383, 81919, 262143, 524287, 1048575, 2097151, 4194303, 8388607, 2097151, 2097151, 52428799, 119537663, 268435455, 536870911] [] ∧
  POST (.d (.bool false)) h12 pre r post)
  (LEN false v30 h12 fun v47 =>
  FADDR 1 v3 h12 fun v48 =>
  LOAD false 1 v48 h12 fun v49 =>
  BIN 0 .neq v47 v49 fun v50 =>
  CONDG v50
  (ORDX [] [0, 1, 3, 7, 15, 31, 63, 127, 255, 127, 639, 2047, 4095, 8191, 16383, 32767, 16383, 81919, 262143, 524287, 1048575, 2097151, 4194303, 8388607, 2097151, 2097151, 52428799, 119537663, 268435455, 536870911] [(8, wr h12 h12, (ids v30)), (9, wr h12 h12, (ids v3)), (10, wr h12 h12, (ids v48))] ∧
  POST (.d (.bool false)) h12 pre r post)
  (LEN false v37 h12 fun v54 =>
  LEN false a1 h12 fun v56 =>
  BIN 0 .neq v54 v56 fun v57 =>
  CONDG v57
  (ORDX [] [0, 1, 3, 7, 15, 31, 63, 127, 255, 127, 639, 2047, 4095, 8191, 16383, 32767, 16383, 81919, 262143, 524287, 1048575, 2097151, 4194303, 8388607, 2097151, 2097151, 52428799, 119537663, 268435455, 536870911] [(8, wr h12 h12, (ids v30)), (9, wr h12 h12, (ids v3)), (10, wr h12 h12, (ids v48)), (15, wr h12 h12, (ids v37)), (17, wr h12 h12, (ids a1))] ∧
  POST (.d (.bool false)) h12 pre r post)
  (IADDR 1 T_int v37 (.d (.num .i64 0)) h12 fun v61 =>
  LOAD false 1 v61 h12 fun v62 =>
  IADDR 1 T_int v30 a2 h12 fun v65 =>
  LOAD false 1 v65 h12 fun v66 =>
  BIN 0 .neq v62 v66 fun v67 =>
  ORDX [] [0, 1, 3, 7, 15, 31, 63, 127, 255, 127, 639, 2047, 4095, 8191, 16383, 32767, 16383, 81919, 262143, 524287, 1048575, 2097151, 4194303, 8388607, 2097151, 2097151, 52428799, 119537663, 268435455, 536870911] [(8, wr h12 h12, (ids v30)), (9, wr h12 h12, (ids v3)), (10, wr h12 h12, (ids v48)), (15, wr h12 h12, (ids v37)), (17, wr h12 h12, (ids a1)), (22, wr h12 h12, (ids v37)), (23, wr h12 h12, (ids v61)), (26, wr h12 h12, (ids v30)), (27, wr h12 h12, (ids v65))] ∧
  COND v67
  (POST (.d (.bool false)) h12 pre r post)
  (BIN 0 .eql a2 (.d (.num .i64 0)) fun v70 =>
  COND v70
  (CALL P f_ref01_Same [v37, a1] 528 h12 (fun _ v73 h14 =>
  CONDG v73
  (CALL P f_law01_known [] 544 h14 (fun _ v75 h16 =>
  POST v75 h16 pre r post)
  (fun _ _ _ => False))
  (POST (.d (.bool false)) h14 pre r post))
  (fun _ _ _ => False))
  (LOAD true 3 v3 h12 fun v78 =>
  BIN 0 .sub a2 (.d (.num .i64 1)) fun v81 =>
  CALL P f_differ_State [v78, a1, v81] 544 h12 (fun _ v82 h18 =>
  EXT v82 0 fun v83 =>
  EXT v82 1 fun v84 =>
  BIN 0 .neq v84 (.d (.num .i64 0)) fun v86 =>
  CONDG v86
  (POST (.d (.bool false)) h18 pre r post)
  (LEN false v83 h18 fun v89 =>
  LEN false v37 h18 fun v91 =>
  BIN 0 .neq v89 v91 fun v92 =>
  COND v92
  (POST (.d (.bool false)) h18 pre r post)
  (LOOP [v37, v83, (.d (.num .i64 0))] h18 672 fun vs20 h21 next20 =>
  LEN false (nth vs20 0) h21 fun v96 =>
  BIN 0 .lss (nth vs20 2) v96 fun v97 =>
  COND v97
  (IADDR 1 T_int (nth vs20 1) (nth vs20 2) h21 fun v102 =>
  LOAD false 1 v102 h21 fun v103 =>
  BIN 0 .add (nth vs20 2) (.d (.num .i64 1)) fun v105 =>
  LEN false (nth vs20 1) h21 fun v107 =>
  BIN 0 .lss v105 v107 fun v108 =>
  COND v108
  (BIN 0 .add (nth vs20 2) (.d (.num .i64 1)) fun v112 =>
  IADDR 1 T_int (nth vs20 1) v112 h21 fun v113 =>
  LOAD false 1 v113 h21 fun v114 =>
  BIN 0 .add v103 v114 fun v115 =>
  IADDR 1 T_int (nth vs20 0) (nth vs20 2) h21 fun v118 =>
  LOAD false 1 v118 h21 fun v119 =>
  BIN 0 .neq v119 v115 fun v121 =>
  COND v121
  (POST (.d (.bool false)) h21 pre r post)
  (BIN 0 .add (nth vs20 2) (.d (.num .i64 1)) fun v99 =>
  next20 [(nth vs20 0), (nth vs20 1), v99] h21))
  (IADDR 1 T_int (nth vs20 0) (nth vs20 2) h21 fun v118 =>
  LOAD false 1 v118 h21 fun v119 =>
  BIN 0 .neq v119 v103 fun v121 =>
  COND v121
  (POST (.d (.bool false)) h21 pre r post)
  (BIN 0 .add (nth vs20 2) (.d (.num .i64 1)) fun v99 =>
  next20 [(nth vs20 0), (nth vs20 1), v99] h21)))
  (CALL P f_law01_known [] 712 h21 (fun _ v122 h22 =>
  POST v122 h22 pre r post)
  (fun _ _ _ => False)))))
  (fun _ _ _ => False))))))))
  (fun _ _ _ => False))
  (fun _ _ _ => False)))
  (fun _ _ _ => False)))
  (fun _ _ _ => False)
theorem vc_law01_DifferAdded_eq (g : GG) (pre : List ABlk) (a0 a1 a2 : AV) (r : AV) (post : List PB) : vcFn (Tz g) false ann_law01_DifferAdded Tryz.f3 pre [a0, a1, a2] (.ret r) post = vc_law01_DifferAdded (Tz g) pre a0 a1 a2 r post := by kernel_rfl
theorem hf_law01_DifferAdded : Tryz.prog.funcs[f_law01_DifferAdded]? = some Tryz.f3 := by kernel_rfl
theorem ok_law01_DifferAdded : fnVcOK Tryz.prog Tryz.f3 = true := by kernel_rfl
theorem nt_law01_DifferAdded : Nat.ble 3 Tryz.f3.ntmps = true := by kernel_rfl
theorem meetsH_law01_DifferAdded {g : GG} {pre : List ABlk} {a0 a1 a2 : AV} {r : AV} {post : List PB} (hk : Nat.ble pre.length 24 = true) (h : vc_law01_DifferAdded (Tz g) pre a0 a1 a2 r post) : MeetsH (Tz g) f_law01_DifferAdded pre [a0, a1, a2] (.ret r) post :=
  meetsH_of_vc (C := Tz g) ann_law01_DifferAdded hf_law01_DifferAdded ok_law01_DifferAdded nt_law01_DifferAdded hk (pn := false) (Eq.mpr (vc_law01_DifferAdded_eq g pre a0 a1 a2 r post) h)
theorem meets_law01_DifferAdded {g : GG} {a0 a1 a2 : D} {r : Res} (h : vc_law01_DifferAdded (Tz g) [] (.d a0) (.d a1) (.d a2) r.val (r.bl.map .upd)) : Meets (Tz g) f_law01_DifferAdded [a0, a1, a2] r := meetsH_law01_DifferAdded rfl h
end Go.Vc

namespace Go.Vc
open Go Go.Proofs
variable {g : GG}
theorem stepL_get2 : ∀ (l : List Int) (i : Nat) (x : Int), l[i]? = some x → (stepL l)[i]? = some (match l[i + 1]? with | some y => x + y | none => x)
  | [], i, x, h => by simp at h
  | [a], i, x, h => by
    cases i with
    | zero => simp at h; subst h; simp [stepL]
    | succ i => simp at h
  | a :: b :: r, i, x, h => by
    cases i with
    | zero => simp at h; subst h; simp [stepL]
    | succ i =>
      have := stepL_get2 (b :: r) i x (by simpa using h)
      simp only [stepL, List.getElem?_cons_succ] at this ⊢
      exact this
theorem heads_get (t : List Int) (n k : Nat) (h : k < n) : (heads t n)[k]? = some ((afterL k t).headD 0) := by
  simp [heads, h]
theorem head_get {l : List Int} (h : 0 < l.length) : l[0]? = some (l.headD 0) := by
  cases l with
  | nil => simp at h
  | cons a r => rfl
set_option maxHeartbeats 4000000 in
theorem added_meets (hg : GOK g) (p : Plan) (t : List Int) (row : Int) (hr : -9223372036854775808 ≤ row ∧ row ≤ 9223372036854775807) : Meets (Tz g) f_law01_DifferAdded [p.d, ints t, int row] ⟨.d (.bool true), []⟩ := by
  refine meets_law01_DifferAdded ?_
  unfold vc_law01_DifferAdded
  simp [Plan.d, spans, ints]
  refine CALL.val [p.d, ints t] _ rfl (law01_right_meets p t) (.inl rfl) ?_
  simp
  constructor
  · intro h
    refine CALL.val [] _ rfl (known_meets hg) (.inl rfl) ?_
    simp
  · intro h
    simp [rightB] at h
    obtain ⟨b1, b2, b3, b4⟩ := h
    obtain ⟨a1, a2, a3, a4, a5⟩ := Plan.ok_len b3
    have hlen := within_length b4
    have hbd : ∀ x, x ∈ t → -1000000000 ≤ x ∧ x ≤ 1000000000 := fun x hx => by have := within_bound a5 b4 x hx; omega
    refine CALL.val [p.d, int row] _ rfl (ref01_Line_meets p row ⟨a3, a4⟩) (.inl rfl) ?_
    simp
    constructor
    · intro h
      refine CALL.val [] _ rfl (known_meets hg) (.inl rfl) ?_
      simp
    · intro h
      simp [inB] at h
      obtain ⟨k, rfl⟩ : ∃ k : Nat, row = k := ⟨row.toNat, by omega⟩
      obtain ⟨n, hn⟩ : ∃ n : Nat, p.rows = n := ⟨p.rows.toNat, by omega⟩
      have hkn : k < n := by omega
      refine CALL.mk [p.d, ints t] _ rfl (differ_Table_ok p t b3 b4) (.inl rfl) (by simp) ?_
      simp
      refine CALL.mk [p.d, ints t, int k] _ rfl (differ_State_ok p t k b3 b4 (by omega)) (.inl rfl) (by simp) ?_
      have hsl := afterL_length t k
      have hg0 : (afterL k t)[0]? = some ((afterL k t).headD 0) := head_get (by omega)
      have hgk : (heads t n)[k]? = some ((afterL k t).headD 0) := heads_get t n k hkn
      have hhl : (heads t n).length = n := by simp [heads]
      simp [hn, hg0, hgk, hhl, hsl]
      refine ⟨by omega, hkn, rfl, ?_, ?_⟩
      · intro hk0
        subst hk0
        refine CALL.val [ints (afterL 0 t), ints t] _ (by simp [ints]) (ref01_Same_meets _ _ (by omega) (by omega)) (.inr rfl) ?_
        simp [afterL]
        refine CALL.val [] _ rfl (known_meets hg) (.inl rfl) ?_
        simp
      · intro hk0
        rw [wrap_id (n := (k : Int) - 1) (by omega) (by omega)]
        obtain ⟨j, rfl⟩ : ∃ j, k = j + 1 := ⟨k - 1, by omega⟩
        have ej : (((j + 1 : Nat) : Int) - 1) = (j : Int) := by omega
        rw [ej]
        refine CALL.mk [p.d, ints t, int j] _ (by simp [Plan.d, spans, ints, hn]) (differ_State_ok p t j b3 b4 (by omega)) (.inl rfl) (by simp) ?_
        have hjl := afterL_length t j
        simp [hjl, hsl]
        generalize hx : afterL j t = x at hjl
        generalize hsd : afterL (j + 1) t = s at hsl
        have hstep : s = stepL x := by rw [← hsd, ← hx]; rfl
        have hxb : ∀ y, y ∈ x → -(2 ^ j * 1000000000) ≤ y ∧ y ≤ 2 ^ j * 1000000000 := by rw [← hx]; exact afterL_bound 1000000000 t hbd j
        have hp : (2 : Int) ^ j ≤ 4096 := by
          have : (2 : Nat) ^ j ≤ 2 ^ 12 := Nat.pow_le_pow_right (by omega) (by omega)
          have : ((2 ^ j : Nat) : Int) ≤ ((2 ^ 12 : Nat) : Int) := by exact_mod_cast this
          simpa using this
        have hxb2 : ∀ y, y ∈ x → -4096000000000 ≤ y ∧ y ≤ 4096000000000 := fun y hy => by
          have := hxb y hy
          omega
        refine LOOP.mk Nat (fun i => [.own 208 0, .own 544 0, .d (int i)]) (fun _ => [(544, some ⟨0, T_int, .lst (x.map int)⟩), (208, some ⟨0, T_int, .lst (s.map int)⟩)]) (fun i => i ≤ t.length) (fun i => t.length - i) [] (by simp) 0 (by omega) (by simp [WEAK]) (fun _ _ => rfl) ?_
        intro i hi
        simp [hjl, hsl]
        constructor
        · intro hlt
          have hlt : i < t.length := by omega
          have h1 : x[i]? = some x[i] := List.getElem?_eq_getElem (by omega)
          have hxi := hxb2 x[i] (List.getElem_mem _)
          have h2 := stepL_get2 x i x[i] h1
          rw [← hstep] at h2
          simp [h1]
          rw [wrap_id (n := (i : Int) + 1) (by omega) (by omega)]
          refine ⟨by omega, ?_, ?_⟩
          · intro hlt2
            have hlt2 : i + 1 < t.length := by omega
            have h3 : x[i + 1]? = some x[i + 1] := List.getElem?_eq_getElem (by omega)
            have hxj := hxb2 x[i + 1] (List.getElem_mem _)
            rw [h3] at h2
            simp at h2
            have e1 : ((i : Int) + 1).toNat = i + 1 := by omega
            simp [e1, h3, h2]
            rw [wrap_id (n := x[i] + x[i + 1]) (by omega) (by omega)]
            simp
            refine ⟨by omega, by omega, hlt, i + 1, by omega, ?_, by omega⟩
            simp [WEAK]
          · intro hge
            have h3 : x[i + 1]? = none := List.getElem?_eq_none (by omega)
            rw [h3] at h2
            simp at h2
            simp [h2]
            refine ⟨hlt, i + 1, by omega, ?_, by omega⟩
            simp [WEAK]
        · intro hge
          refine CALL.val [] _ rfl (known_meets hg) (.inl rfl) ?_
          simp
end Go.Vc

namespace Go.Vc
open Go Go.RowKit Go.ChangeShapes Go.WideShapes Go.ChangeAt Go.Proofs Go.Proofs.YtknbgegcnfdnkaaGreatDoor
theorem added_calls {H : Type} {enc : TypeId × Value → H} (W : World) (base : Nat) (args : Array Value) (ds : List (DataW H)) (ps : List MemPlace) (hval : ∀ (j : Nat) t v, Tryz.f3.params[j]? = some t → args[j]? = some v → Value.okWide Tryz.prog W .any base t v)
    (hA : DataW.TrodAll enc Tryz.prog W 0 (fun _ => true) true Tryz.f3.params.toList args.toList ds ps) (hL : laidMetH Tryz.prog laidL W) (hsh : W.ShapedOpen Tryz.prog) : Calls Tryz.prog 3 args W fun e W' => e = .returned (.bool true) ∧ Below W.heap.size W W' := by
  rw [Tryz.params3] at hA hval
  obtain ⟨v0, v1, v2, d0, d1, d2, p0, p1, p2, rfl, rfl, rfl, h0, h1, h2⟩ := trodAll_three hA
  obtain ⟨p, hp⟩ := open_plan (hval 0 24 v0 rfl rfl) h0
  obtain ⟨t, ht, _⟩ := open_ints' (hval 1 25 v1 rfl rfl) h1
  obtain ⟨row, hr, hrow⟩ := open_int' (hval 2 3 v2 rfl rfl) h2
  exact law_calls (C := Tz (gW W)) (added_meets (gok hL hsh) p t row hrow) rfl (Below.refl _ _) (us := [v0, v1, v2]) rfl (fun i d u hd hu => by
    match i, hd, hu with
    | 0, hd, hu => simp at hd hu; subst hd; subst hu; exact hp
    | 1, hd, hu => simp at hd hu; subst hd; subst hu; exact ht
    | 2, hd, hu => simp at hd hu; subst hd; subst hu; exact hr
    | i + 3, hd, hu => simp at hd)
theorem added_lifted (os : Os) (started : os.Started) (H : Type) (enc : TypeId × Value → H) :
    ReturnsInHanded {} Tryz.checked os 3 .any (fun w args => (Rows.differAddedSpec.pre enc Tryz.prog Tryz.f3 [] false w args ∧ laidMetH Tryz.prog laidL w) ∧ sizedMet enc Tryz.prog Tryz.f3 (OpenSpec.ofChange Rows.differAddedSpec) false w args)
      (Rows.differAddedSpec.post enc Tryz.prog Tryz.f3 false true false false) :=
  law_lifted (C := Tryz.checked) (tb := 4) (n := 3) started own (by kernel_rfl) Tryz.func3
    (ChangeSpec.witness_shaped (enc := enc) (C := Tryz.checked) (os := os) (X := fun w _ => laidMetH Tryz.prog laidL w) false (World.laidAll Tryz.prog os laidL) #[.agg #[.slice none 0 0, .int .i64 0, .int .i64 0], .slice none 0 0, .int .i64 0] 8 (World.laidAll_os _ _ _)
      (World.shaped_of_ZipB (by kernel_rfl) (by kernel_rfl)) (by kernel_rfl) (by kernel_rfl) (by kernel_rfl)
      (by rw [MakeChecks.laidMetH_plain _ _ _ (by kernel_rfl)]; exact laidMet_laidAll _ (by kernel_rfl) (by kernel_rfl)))
    laidOut (by kernel_rfl) (by kernel_rfl) Tryz.underlying4 rfl (by kernel_rfl) (fun ds hl => by
      match ds, hl with
      | [a, b, c], _ => rfl) added_calls
theorem added_holds : Rows.DifferAddedSaid :=
  OpenClaim.holds_of_wide 3 Tryz.f3 rfl rfl rfl rfl rfl rfl rfl ⟨rfl, rfl, rfl, rfl, rfl⟩ rfl rfl rfl rfl rfl (by kernel_rfl) Tryz.func3 (by kernel_rfl)
    (of_decide_eq_true (by kernel_rfl)) (by unfold Func.isWrapper; first | (rw [if_pos (by decide +kernel)]; kernel_rfl) | (rw [if_neg (by decide +kernel)]; exact ⟨rfl, rfl⟩))
    (fun os started H enc _ => added_lifted os started H enc)
theorem added_card : Rows.DifferAddedCardSaid :=
  Claim7.holds_tied_plain_at .later [] [.data, .data, .data, .data, .pinned] true (true, "d10b68e6a0c25b14fab4c5b71042fa3c3e8e84e3c7cd95ea514fc863592e91e4") true added_holds (fun _ h => by cases h) (by kernel_rfl) (fun _ h => by cases h) differAdded_row_tie rfl ⟨rfl, rfl⟩ (by kernel_rfl) rfl
    (fun f fn hf hfn => by
      obtain rfl : f = 3 := Option.some.inj ((show Tryz.prog.funcNamed "ephemerist/ephemeristlaw01.DifferAdded" = some 3 by kernel_rfl).symm.trans hf) |>.symm
      obtain rfl : fn = Tryz.f3 := (Option.some.inj (Tryz.func3.symm.trans hfn)).symm
      exact ⟨by kernel_rfl, fun j t ht => by
        rw [Tryz.params3] at ht
        have hm : t ∈ [24, 25, 3] := by simpa using Array.mem_of_getElem? ht
        have hall : ([24, 25, 3].all fun u => !Tryz.prog.wantsStandIn u) = true := by kernel_rfl
        exact (show Tryz.prog.wantsStandIn t = false by simpa using List.all_eq_true.1 hall t hm)⟩)
    (by kernel_rfl)
end Go.Vc

namespace Go.Proofs.YtknbgegcnfdnkaaGreatDoor
theorem law_DifferAddedCardSaid : Rows.DifferAddedCardSaid := Go.Vc.added_card
end Go.Proofs.YtknbgegcnfdnkaaGreatDoor
