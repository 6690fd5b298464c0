/- Proves that the statement DifferUpwardCardSaid holds of the given program: for every input the law returns true and leaves its arguments as they were; under the row's own conditions, that the listed tables are laid as the program's text has them. -/
import Derived.Test.YtknbgegcnfdnkaaGreatDoorVz
import Derived.Test.YtknbgegcnfdnkaaGreatDoorDi
import Derived.Test.YtknbgegcnfdnkaaGreatDoorVc27
set_option maxRecDepth 100000
namespace Go.Vc
open Go Go.Proofs Go.RowKit
def ann_law01_DifferUpward : Nat → List Nat := fun n => match n with | 12 => [1, 3, 9, 13, 17] | _ => []
def vc_law01_DifferUpward_k0 (P : Ctx) (pre : List ABlk) (r : AV) (post : List PB) (v0 : AV) (vs3 : List AV) (h4 : Heap) (next19 : List AV → Heap → Prop) : Prop :=
  EXT v0 0 fun v1 =>
  EXT v0 1 fun v2 =>
  IADDR 1 T_l_int (nth vs3 3) (nth vs3 4) h4 fun v5 =>
  LOAD false 1 v5 h4 fun v6 =>
  LEN false v6 h4 fun v7 =>
  LEN false (nth vs3 0) h4 fun v8 =>
  BIN 0 .neq v7 v8 fun v9 =>
  CONDG v9
  (POST (.d (.bool false)) h4 pre r post)
  (BIN 0 .neq v2 (.d (.num .i64 0)) fun v10 =>
  CONDG v10
  (POST (.d (.bool false)) h4 pre r post)
  (BIN 0 .mul (nth vs3 4) (nth vs3 1) fun v11 =>
  BIN 0 .add v11 (.d (.num .i64 1)) fun v12 =>
  SLICE 2 (nth vs3 2) none (some v12) none fun v13 =>
  CALL P f_ref01_Same [v1, v13] 1144 h4 (fun _rd14 v15 h16 =>
  NOT v15 fun v17 =>
  COND v17
  (POST (.d (.bool false)) h16 pre r post)
  (BIN 0 .add (nth vs3 4) (.d (.num .i64 1)) fun v18 =>
  next19 [(nth vs3 0), (nth vs3 1), (nth vs3 2), (nth vs3 3), v18] h16))
  (fun _ _ _ => False)))
def vc_law01_DifferUpward_k1 (P : Ctx) (pre : List ABlk) (r : AV) (post : List PB) (vs0 : List AV) (h1 : Heap) (next11 : List AV → Heap → Prop) : Prop :=
  LEN false (nth vs0 3) h1 fun v2 =>
  BIN 0 .lss (nth vs0 4) v2 fun v3 =>
  COND v3
  (IADDR 1 T_l_int (nth vs0 3) (nth vs0 4) h1 fun v4 =>
  LOAD false 1 v4 h1 fun v5 =>
  BIN 0 .mul (nth vs0 4) (nth vs0 1) fun v6 =>
  BIN 0 .add v6 (.d (.num .i64 1)) fun v7 =>
  CALL P f_differ_Climb [v5, v7] 936 h1 (fun _rd8 v9 h10 =>
  vc_law01_DifferUpward_k0 P pre r post v9 vs0 h10 next11)
  (fun _ _ _ => False))
  (CALL P f_law01_known [] 872 h1 (fun _rd12 v13 h14 =>
  POST v13 h14 pre r post)
  (fun _ _ _ => False))
def vc_law01_DifferUpward_k2 (P : Ctx) (pre : List ABlk) (r : AV) (post : List PB) (v0 : AV) (h4 : Heap) (a5 : AV) (v7 : AV) (a13 : AV) (a14 : AV) (v15 : AV) : Prop :=
  EXT v0 0 fun v1 =>
  EXT v0 1 fun v2 =>
  BIN 0 .neq v2 (.d (.num .i64 0)) fun v3 =>
  CONDG v3
  (POST (.d (.bool false)) h4 pre r post)
  (BIN 0 .add a5 (.d (.num .i64 1)) fun v6 =>
  SLICE 2 v7 none (some v6) none fun v8 =>
  CALL P f_ref01_Same [v1, v8] 800 h4 (fun _rd9 v10 h11 =>
  NOT v10 fun v12 =>
  COND v12
  (POST (.d (.bool false)) h11 pre r post)
  (LOOP [a13, a14, v7, v15, (.d (.num .i64 0))] h11 832 fun vs16 h17 next18 =>
  vc_law01_DifferUpward_k1 P pre r post vs16 h17 next18))
  (fun _ _ _ => False))
def vc_law01_DifferUpward_k3 (P : Ctx) (pre : List ABlk) (r : AV) (post : List PB) (v0 : AV) (v3 : AV) (h5 : Heap) (v6 : AV) (v9 : AV) (v11 : AV) (v15 : AV) (a17 : AV) (a23 : AV) (a28 : AV) : Prop :=
  EXT v0 0 fun v1 =>
  EXT v0 1 fun v2 =>
  BIN 0 .neq v3 (.d (.num .i64 0)) fun v4 =>
  CONDG v4
  (POST (.d (.bool false)) h5 pre r post)
  (BIN 0 .neq v6 (.d (.num .i64 0)) fun v7 =>
  CONDG v7
  (POST (.d (.bool false)) h5 pre r post)
  (BIN 0 .neq v2 (.d (.num .i64 0)) fun v8 =>
  CONDG v8
  (POST (.d (.bool false)) h5 pre r post)
  (LEN false v9 h5 fun v10 =>
  FADDR 1 v11 h5 fun v12 =>
  LOAD false 1 v12 h5 fun v13 =>
  BIN 0 .neq v10 v13 fun v14 =>
  CONDG v14
  (POST (.d (.bool false)) h5 pre r post)
  (LEN false v15 h5 fun v16 =>
  LEN false a17 h5 fun v18 =>
  BIN 0 .neq v16 v18 fun v19 =>
  CONDG v19
  (POST (.d (.bool false)) h5 pre r post)
  (LEN false v1 h5 fun v20 =>
  FADDR 1 v11 h5 fun v21 =>
  LOAD false 1 v21 h5 fun v22 =>
  BIN 0 .add v22 a23 fun v24 =>
  BIN 0 .sub v24 (.d (.num .i64 1)) fun v25 =>
  BIN 0 .quo v25 a23 fun v26 =>
  BIN 0 .neq v20 v26 fun v27 =>
  COND v27
  (POST (.d (.bool false)) h5 pre r post)
  (BIN 0 .add a28 (.d (.num .i64 1)) fun v29 =>
  CALL P f_differ_Climb [v15, v29] 688 h5 (fun _rd30 v31 h32 =>
  vc_law01_DifferUpward_k2 P pre r post v31 h32 a28 v9 a17 a23 v1)
  (fun _ _ _ => False)))))))
def vc_law01_DifferUpward_k4 (P : Ctx) (pre : List ABlk) (r : AV) (post : List PB) (v0 : AV) (v3 : AV) (h4 : Heap) (a6 : AV) (a7 : AV) (a14 : AV) : Prop :=
  EXT v0 0 fun v1 =>
  EXT v0 1 fun v2 =>
  LOAD true 3 v3 h4 fun v5 =>
  CALL P f_differ_State [v5, a6, a7] 256 h4 (fun _rd8 v9 h10 =>
  EXT v9 0 fun v11 =>
  EXT v9 1 fun v12 =>
  LOAD true 3 v3 h10 fun v13 =>
  CALL P f_differ_Cut [v13, a6, a14] 328 h10 (fun _rd15 v16 h17 =>
  vc_law01_DifferUpward_k3 P pre r post v16 v2 h17 v12 v1 v3 v11 a6 a14 a7)
  (fun _ _ _ => False))
  (fun _ _ _ => False)
def vc_law01_DifferUpward_k5 (P : Ctx) (pre : List ABlk) (r : AV) (post : List PB) (v0 : AV) (h2 : Heap) (v6 : AV) (a8 : AV) (a12 : AV) (a13 : AV) : Prop :=
  NOT v0 fun v1 =>
  COND v1
  (CALL P f_law01_known [] 168 h2 (fun _rd3 v4 h5 =>
  POST v4 h5 pre r post)
  (fun _ _ _ => False))
  (LOAD true 3 v6 h2 fun v7 =>
  CALL P f_differ_Table [v7, a8] 184 h2 (fun _rd9 v10 h11 =>
  vc_law01_DifferUpward_k4 P pre r post v10 v6 h11 a8 a12 a13)
  (fun _ _ _ => False))
def vc_law01_DifferUpward_k6 (P : Ctx) (pre : List ABlk) (r : AV) (post : List PB) (v0 : AV) (h2 : Heap) (v6 : AV) (a8 : AV) (a12 : AV) (a13 : AV) : Prop :=
  NOT v0 fun v1 =>
  CONDG v1
  (CALL P f_law01_known [] 168 h2 (fun _rd3 v4 h5 =>
  POST v4 h5 pre r post)
  (fun _ _ _ => False))
  (LOAD true 3 v6 h2 fun v7 =>
  CALL P f_ref01_Size [v7, a8] 144 h2 (fun _rd9 v10 h11 =>
  vc_law01_DifferUpward_k5 P pre r post v10 h11 v6 a12 a13 a8)
  (fun _ _ _ => False))
def vc_law01_DifferUpward_k7 (P : Ctx) (pre : List ABlk) (r : AV) (post : List PB) (v0 : AV) (h2 : Heap) (v6 : AV) (a8 : AV) (a12 : AV) (a13 : AV) : Prop :=
  NOT v0 fun v1 =>
  CONDG v1
  (CALL P f_law01_known [] 168 h2 (fun _rd3 v4 h5 =>
  POST v4 h5 pre r post)
  (fun _ _ _ => False))
  (LOAD true 3 v6 h2 fun v7 =>
  CALL P f_ref01_Line [v7, a8] 96 h2 (fun _rd9 v10 h11 =>
  vc_law01_DifferUpward_k6 P pre r post v10 h11 v6 a12 a13 a8)
  (fun _ _ _ => False))
def vc_law01_DifferUpward (P : Ctx) (pre : List ABlk) (a0 a1 a2 a3 : AV) (r : AV) (post : List PB) : Prop :=
  let h0 : Heap := numbered 0 pre
  BOX T_api_DifferPlan a0 24 h0 fun v4 h1 =>
  LOAD true 3 v4 h1 fun v20 =>
  CALL P f_law01_right [v20, a1] 56 h1 (fun _rd3 v22 h2 =>
  vc_law01_DifferUpward_k7 P pre r post v22 h2 v4 a2 a3 a1)
  (fun _ _ _ => False)
theorem vc_law01_DifferUpward_eq (g : GG) (pre : List ABlk) (a0 a1 a2 a3 : AV) (r : AV) (post : List PB) : vcFn2 (Tz g) false ann_law01_DifferUpward Tryz.f11 pre [a0, a1, a2, a3] (.ret r) post = vc_law01_DifferUpward (Tz g) pre a0 a1 a2 a3 r post := by kernel_rfl
theorem hf_law01_DifferUpward : Tryz.prog.funcs[f_law01_DifferUpward]? = some Tryz.f11 := by kernel_rfl
theorem ok_law01_DifferUpward : fnVcOK Tryz.prog Tryz.f11 = true := by kernel_rfl
theorem nt_law01_DifferUpward : Nat.ble 4 Tryz.f11.ntmps = true := by kernel_rfl
theorem meetsH_law01_DifferUpward {g : GG} {pre : List ABlk} {a0 a1 a2 a3 : AV} {r : AV} {post : List PB} (hk : Nat.ble pre.length 24 = true) (h : vc_law01_DifferUpward (Tz g) pre a0 a1 a2 a3 r post) : MeetsH (Tz g) f_law01_DifferUpward pre [a0, a1, a2, a3] (.ret r) post :=
  meetsH_of_vc (C := Tz g) ann_law01_DifferUpward hf_law01_DifferUpward ok_law01_DifferUpward nt_law01_DifferUpward hk (pn := false) (Eq.mpr ((vcFn2_eq _ _ _ _ _ _ _ _).trans (vc_law01_DifferUpward_eq g pre a0 a1 a2 a3 r post)) h)
theorem meets_law01_DifferUpward {g : GG} {a0 a1 a2 a3 : D} {r : Res} (h : vc_law01_DifferUpward (Tz g) [] (.d a0) (.d a1) (.d a2) (.d a3) r.val (r.bl.map .upd)) : Meets (Tz g) f_law01_DifferUpward [a0, a1, a2, a3] r := meetsH_law01_DifferUpward rfl h
end Go.Vc

namespace Go.Vc
open Go Go.Proofs
variable {g : GG}
attribute [local simp] and_assoc
attribute [local simp] ints_cells
set_option maxHeartbeats 2000000 in
theorem upward_meets (hg : GOK g) (p : Plan) (t : List Int) (row size : Int) (_ : ∀ n, n ∈ t → -9223372036854775808 ≤ n ∧ n ≤ 9223372036854775807) (_ : -9223372036854775808 ≤ row ∧ row ≤ 9223372036854775807) (_ : -9223372036854775808 ≤ size ∧ size ≤ 9223372036854775807) : Meets (Tz g) f_law01_DifferUpward [p.d, ints t, int row, int size] ⟨.d (.bool true), []⟩ := by
  refine meets_law01_DifferUpward ?_
  unfold vc_law01_DifferUpward
  simp [Plan.d, spans, ints]
  refine CALL.val [p.d, ints t] _ rfl (law01_right_meets p t) (.inl rfl) ?_
  simp [vc_law01_DifferUpward_k7]
  constructor
  · intro h
    exact known_call hg (by simp)
  · intro h
    simp [rightB] at h
    obtain ⟨b1, b2, b3, b4⟩ := h
    obtain ⟨a1, a2, a3, a4, a5⟩ := Plan.ok_len b3
    have hlen := within_length b4
    have hbd := within_bound a5 b4
    refine CALL.val [p.d, int row] _ rfl (ref01_Line_meets p row ⟨a3, a4⟩) (.inl rfl) ?_
    simp [vc_law01_DifferUpward_k6]
    constructor
    · intro h
      exact known_call hg (by simp)
    · intro hr
      obtain ⟨k, rfl, hk⟩ := inB_nat hr
      refine CALL.val [p.d, int size] _ rfl (ref01_Size_meets p size) (.inl rfl) ?_
      simp [vc_law01_DifferUpward_k5]
      constructor
      · intro h
        exact known_call hg (by simp)
      · intro hs
        simp [inB] at hs
        obtain ⟨s, rfl⟩ : ∃ s : Nat, size = s := ⟨size.toNat, by omega⟩
        obtain ⟨n, hn⟩ : ∃ n : Nat, p.rows = n := ⟨p.rows.toNat, by omega⟩
        have hs1 : 1 ≤ s := by omega
        have hsn : s ≤ n := by omega
        have hkn : k < n := by omega
        have hsh := sheets_le n s hs1
        have hhl : (heads t n).length = n := by simp [heads]
        have hak := afterL_length t k
        refine CALL.mk [p.d, ints t] _ rfl (differ_Table_data p t n b3 b4 hn) (.inl rfl) (by simp) ?_
        simp [vc_law01_DifferUpward_k4]
        refine CALL.mk [p.d, ints t, int k] _ rfl (differ_State_ok p t k b3 b4 (by omega)) (.inl rfl) (by simp) ?_
        simp
        refine CALL.mk [p.d, ints t, int s] _ rfl (differ_Cut_ok p t n s b3 b4 hn hs1 hsn) (.inl rfl) (by simp) ?_
        have hcl := cutL_len t n s
        have hm : ((n : Int) + (s : Int) - 1).tdiv (s : Int) = (sheetsN n s : Int) := by
          rw [Int.tdiv_eq_ediv_of_nonneg (by omega)]
          unfold sheetsN
          rw [show (n : Int) + (s : Int) - 1 = ((n + s - 1 : Nat) : Int) by omega]
          rfl
        simp [vc_law01_DifferUpward_k3, ints, hhl, hak, hcl, hn]
        rw [wrap_id (n := (n : Int) + (s : Int)) (by omega) (by omega), wrap_id (n := (n : Int) + (s : Int) - 1) (by omega) (by omega), hm, wrap_id (n := (sheetsN n s : Int)) (by omega) (by omega), wrap_id (n := (k : Int) + 1) (by omega) (by omega)]
        simp
        refine ⟨by omega, ?_⟩
        refine CALL.mk [ints (afterL k t), int ((k : Int) + 1)] _ (by simp [ints]) (differ_Climb_ok (afterL k t) k (after_state t k (by omega) (by omega) hbd) (by omega)) (.inr (by simp [Res.flatP, AV.flatB, AV.flatB.flatL, blksFlat, Body.flatP, D.flatB])) (by simp) ?_
        have hcm := climb_heads t k n hkn
        have e1 : ((k : Int) + 1).toNat = k + 1 := by omega
        simp [vc_law01_DifferUpward_k2]
        rw [wrap_id (n := (k : Int) + 1) (by omega) (by omega)]
        simp [e1, hhl]
        refine ⟨by omega, by omega, ?_⟩
        refine CALL.val [ints (climbL (k + 1) (afterL k t)), ints ((heads t n).take (k + 1))] _ (by simp [ints]) (ref01_Same_meets _ _ (by rw [climbL_length]; omega) (by simp; omega)) (.inr rfl) ?_
        simp [hcm]
        refine LOOP.mk Nat (fun j => [.d (ints t), .d (int s), .d (ints (heads t n)), .own 328 0, .d (int j)]) (fun j => [(328, some ⟨0, T_l_int, .lst ((cutL t n s).map ints)⟩)]) (fun j => j ≤ sheetsN n s) (fun j => sheetsN n s - j) [] (by simp) 0 (by omega) (by simp [WEAK, ints]) (fun _ _ => rfl) ?_
        intro j hj
        simp [vc_law01_DifferUpward_k1, hcl]
        constructor
        · intro hlt
          have hjs := (sheets_lt n s j hs1).1 hlt
          have hgj : (cutL t n s)[j]? = some (afterL (j * s) t) := by simp [cutL, hlt]
          obtain ⟨q, hq⟩ : ∃ q : Nat, q = j * s := ⟨_, rfl⟩
          have hqi : (j : Int) * (s : Int) = (q : Int) := by rw [hq]; simp
          rw [← hq] at hjs hgj
          have haq := afterL_length t q
          have hcq := climb_heads t q n hjs
          have e2 : ((q : Int) + 1).toNat = q + 1 := by omega
          simp [hgj, hqi]
          rw [wrap_id (n := (q : Int)) (by omega) (by omega), wrap_id (n := (q : Int) + 1) (by omega) (by omega)]
          refine ⟨hlt, ?_⟩
          refine CALL.mk [ints (afterL q t), int ((q : Int) + 1)] _ (by simp [ints]) (differ_Climb_ok (afterL q t) q (after_state t q (by omega) (by omega) hbd) (by omega)) (.inl rfl) (by simp) ?_
          simp [vc_law01_DifferUpward_k0, hgj, hqi, hcl, ints, haq]
          rw [wrap_id (n := (q : Int)) (by omega) (by omega), wrap_id (n := (q : Int) + 1) (by omega) (by omega)]
          simp [e2, hhl]
          refine ⟨hlt, by omega, by omega, ?_⟩
          refine CALL.val [ints (climbL (q + 1) (afterL q t)), ints ((heads t n).take (q + 1))] _ (by simp [ints]) (ref01_Same_meets _ _ (by rw [climbL_length]; omega) (by simp; omega)) (.inr rfl) ?_
          simp [hcq]
          rw [wrap_id (n := (j : Int) + 1) (by omega) (by omega)]
          exact ⟨j + 1, by omega, by simp [WEAK], by omega⟩
        · intro hge
          exact known_call hg (by simp)
end Go.Vc

namespace Go.Vc
open Go Go.RowKit Go.ChangeShapes Go.WideShapes Go.ChangeAt Go.Proofs Go.Proofs.YtknbgegcnfdnkaaGreatDoor
theorem upward_calls {H : Type} {enc : TypeId × Value → H} (W : World) (base : Nat) (args : Array Value) (ds : List (DataW H)) (ps : List MemPlace) (hval : ∀ (j : Nat) t v, Tryz.f11.params[j]? = some t → args[j]? = some v → Value.okWide Tryz.prog W .any base t v)
    (hA : DataW.TrodAll enc Tryz.prog W 0 (fun _ => true) true Tryz.f11.params.toList args.toList ds ps) (hL : laidMetH Tryz.prog laidL W) (hsh : W.ShapedOpen Tryz.prog) : Calls Tryz.prog 11 args W fun e W' => e = .returned (.bool true) ∧ Below W.heap.size W W' := by
  rw [Tryz.params11] at hA hval
  obtain ⟨v0, v1, v2, v3, d0, d1, d2, d3, p0, p1, p2, p3, rfl, rfl, rfl, h0, h1, h2, h3⟩ := trodAll_four hA
  obtain ⟨x0, g0⟩ := open_plan (hval 0 24 v0 rfl rfl) h0
  obtain ⟨x1, g1, b1⟩ := open_ints' (hval 1 25 v1 rfl rfl) h1
  obtain ⟨x2, g2, b2⟩ := open_int' (hval 2 3 v2 rfl rfl) h2
  obtain ⟨x3, g3, b3⟩ := open_int' (hval 3 3 v3 rfl rfl) h3
  exact law_calls (C := Tz (gW W)) (upward_meets (gok hL hsh) x0 x1 x2 x3 b1 b2 b3) rfl (Below.refl _ _) (us := [v0, v1, v2, v3]) rfl (fun i d u hd hu => by
    match i, hd, hu with
    | 0, hd, hu => simp at hd hu; subst hd; subst hu; exact g0
    | 1, hd, hu => simp at hd hu; subst hd; subst hu; exact g1
    | 2, hd, hu => simp at hd hu; subst hd; subst hu; exact g2
    | 3, hd, hu => simp at hd hu; subst hd; subst hu; exact g3
    | i + 4, hd, hu => simp at hd)
theorem upward_lifted (os : Os) (started : os.Started) (H : Type) (enc : TypeId × Value → H) :
    ReturnsInHanded {} Tryz.checked os 11 .any (fun w args => (Rows.differUpwardSpec.pre enc Tryz.prog Tryz.f11 [] false w args ∧ laidMetH Tryz.prog laidL w) ∧ sizedMet enc Tryz.prog Tryz.f11 (OpenSpec.ofChange Rows.differUpwardSpec) false w args)
      (Rows.differUpwardSpec.post enc Tryz.prog Tryz.f11 false true false false) :=
  law_lifted (C := Tryz.checked) (tb := 4) (n := 4) started own (by kernel_rfl) Tryz.func11
    (ChangeSpec.witness_shaped (enc := enc) (C := Tryz.checked) (os := os) (X := fun w _ => laidMetH Tryz.prog laidL w) false (World.laidAll Tryz.prog os laidL) #[.agg #[.slice none 0 0, .int .i64 0, .int .i64 0], .slice none 0 0, .int .i64 0, .int .i64 0] 8 (World.laidAll_os _ _ _)
      (World.shaped_of_ZipB (by kernel_rfl) (by kernel_rfl)) (by kernel_rfl) (by kernel_rfl) (by kernel_rfl)
      (by rw [MakeChecks.laidMetH_plain _ _ _ (by kernel_rfl)]; exact laidMet_laidAll _ (by kernel_rfl) (by kernel_rfl)))
    laidOut (by kernel_rfl) (by kernel_rfl) Tryz.underlying4 rfl (by kernel_rfl) (fun ds hl => by
      match ds, hl with
      | [a, b, c, d], _ => rfl) upward_calls
theorem upward_holds : Rows.DifferUpwardSaid :=
  OpenClaim.holds_of_wide 11 Tryz.f11 rfl rfl rfl rfl rfl rfl rfl ⟨rfl, rfl, rfl, rfl, rfl⟩ rfl rfl rfl rfl rfl (by kernel_rfl) Tryz.func11 (by kernel_rfl)
    (of_decide_eq_true (by kernel_rfl)) (by unfold Func.isWrapper; first | (rw [if_pos (by decide +kernel)]; kernel_rfl) | (rw [if_neg (by decide +kernel)]; exact ⟨rfl, rfl⟩))
    (fun os started H enc _ => upward_lifted os started H enc)
theorem upward_card : Rows.DifferUpwardCardSaid :=
  Claim7.holds_tied_plain_at .later [] [.data, .data, .data, .data, .pinned] true (true, "d10b68e6a0c25b14fab4c5b71042fa3c3e8e84e3c7cd95ea514fc863592e91e4") true upward_holds (fun _ h => by cases h) (by kernel_rfl) (fun _ h => by cases h) differUpward_row_tie rfl ⟨rfl, rfl⟩ (by kernel_rfl) rfl
    (fun f fn hf hfn => by
      obtain rfl : f = 11 := Option.some.inj ((show Tryz.prog.funcNamed "ephemerist/ephemeristlaw01.DifferUpward" = some 11 by kernel_rfl).symm.trans hf) |>.symm
      obtain rfl : fn = Tryz.f11 := (Option.some.inj (Tryz.func11.symm.trans hfn)).symm
      exact ⟨by kernel_rfl, fun j t ht => by
        rw [Tryz.params11] at ht
        have hm : t ∈ [24, 25, 3, 3] := by simpa using Array.mem_of_getElem? ht
        have hall : ([24, 25, 3, 3].all fun u => !Tryz.prog.wantsStandIn u) = true := by kernel_rfl
        exact (show Tryz.prog.wantsStandIn t = false by simpa using List.all_eq_true.1 hall t hm)⟩)
    (by kernel_rfl)
end Go.Vc

namespace Go.Proofs.YtknbgegcnfdnkaaGreatDoor
theorem law_DifferUpwardCardSaid : Rows.DifferUpwardCardSaid := Go.Vc.upward_card
end Go.Proofs.YtknbgegcnfdnkaaGreatDoor
