/- Proves that the statement DifferSheetsCardSaid holds of the given program: for every input the law returns true and leaves its arguments as they were; under the row's own conditions, that the listed tables are laid as the program's text has them. -/
import Derived.Test.YtnbdfpppcdgkpaaGreatDoorVc27
import Derived.Test.YtnbdfpppcdgkpaaGreatDoorVc15
import Derived.Test.YtnbdfpppcdgkpaaGreatDoorVc45
import Derived.Test.YtnbdfpppcdgkpaaGreatDoorVc35
import Derived.Test.YtnbdfpppcdgkpaaGreatDoorVc25
import Derived.Test.YtnbdfpppcdgkpaaGreatDoorVc45
import Derived.Test.YtnbdfpppcdgkpaaGreatDoorVc44
import Derived.Test.YtnbdfpppcdgkpaaGreatDoorVc33
set_option maxRecDepth 100000
namespace Go.Vc
open Go Go.Proofs Go.RowKit
def ann_law01_DifferSheets : Nat → List Nat := fun n => match n with | 13 => [1, 2, 3, 4, 5, 6, 13, 17, 18] | _ => []
def vc_law01_DifferSheets_k0 (P : Ctx) (pre : List ABlk) (r : AV) (post : List PB) (vs0 : List AV) (h2 : Heap) (v5 : AV) (v8 : AV) (v10 : AV) : Prop :=
  BIN 0 .add (nth vs0 2) (.d (.num .i64 1)) fun v1 =>
  MKS T_int 1 [v1] 1056 h2 fun v3 h4 =>
  APP T_int 1 v5 v3 1064 h4 fun v6 h7 =>
  BIN 0 .eql v8 (.d (.num .i64 0)) fun v9 =>
  CONDG v9
  (CALL P f_ref01_Same [v10, v6] 1120 h7 (fun _ v12 h13 =>
  CONDG v12
  (CALL P f_law01_known [] 1144 h13 (fun _ v15 h16 =>
  POST v15 h16 pre r post)
  (fun _ _ _ => False))
  (POST (.d (.bool false)) h13 pre r post))
  (fun _ _ _ => False))
  (POST (.d (.bool false)) h7 pre r post)
def vc_law01_DifferSheets_k1 (P : Ctx) (pre : List ABlk) (r : AV) (post : List PB) (v0 : AV) (v2 : AV) (v3 : AV) (h4 : Heap) : Prop :=
  BIN 0 .eql v0 (.d (.num .i64 0)) fun v1 =>
  CONDG v1
  (CALL P f_ref01_Same [v2, v3] 1072 h4 (fun _ v6 h7 =>
  CONDG v6
  (CALL P f_law01_known [] 1096 h7 (fun _ v9 h10 =>
  POST v9 h10 pre r post)
  (fun _ _ _ => False))
  (POST (.d (.bool false)) h7 pre r post))
  (fun _ _ _ => False))
  (POST (.d (.bool false)) h4 pre r post)
def vc_law01_DifferSheets_k2 (P : Ctx) (pre : List ABlk) (r : AV) (post : List PB) (vs0 : List AV) (h2 : Heap) (v7 : AV) (v9 : AV) : Prop :=
  BIN 0 .add (nth vs0 2) (.d (.num .i64 1)) fun v1 =>
  MKS T_int 1 [v1] 1016 h2 fun v3 h4 =>
  APP T_int 1 .zc v3 1024 h4 fun v5 h6 =>
  BIN 0 .eql v7 (.d (.num .i64 0)) fun v8 =>
  CONDG v8
  (CALL P f_ref01_Same [v9, v5] 1080 h6 (fun _ v11 h12 =>
  CONDG v11
  (CALL P f_law01_known [] 1104 h12 (fun _ v14 h15 =>
  POST v14 h15 pre r post)
  (fun _ _ _ => False))
  (POST (.d (.bool false)) h12 pre r post))
  (fun _ _ _ => False))
  (POST (.d (.bool false)) h6 pre r post)
def vc_law01_DifferSheets_k3 (P : Ctx) (pre : List ABlk) (r : AV) (post : List PB) (v0 : AV) (v2 : AV) (h3 : Heap) : Prop :=
  BIN 0 .eql v0 (.d (.num .i64 0)) fun v1 =>
  CONDG v1
  (CALL P f_ref01_Same [v2, .zc] 1032 h3 (fun _ v5 h6 =>
  CONDG v5
  (CALL P f_law01_known [] 1056 h6 (fun _ v8 h9 =>
  POST v8 h9 pre r post)
  (fun _ _ _ => False))
  (POST (.d (.bool false)) h6 pre r post))
  (fun _ _ _ => False))
  (POST (.d (.bool false)) h3 pre r post)
def vc_law01_DifferSheets_k4 (P : Ctx) (pre : List ABlk) (r : AV) (post : List PB) (v0 : AV) (vs3 : List AV) (h5 : Heap) : Prop :=
  EXT v0 0 fun v1 =>
  EXT v0 1 fun v2 =>
  BIN 0 .gtr (nth vs3 2) (.d (.num .i64 0)) fun v4 =>
  COND v4
  (MKS T_int 1 [(nth vs3 2)] 968 h5 fun v6 h7 =>
  APP T_int 1 .zc v6 976 h7 fun v8 h9 =>
  BIN 0 .add (nth vs3 2) (.d (.num .i64 1)) fun v10 =>
  LEN false (nth vs3 6) h9 fun v11 =>
  BIN 0 .lss v10 v11 fun v12 =>
  COND v12
  (vc_law01_DifferSheets_k0 P pre r post vs3 h9 v8 v2 v1)
  (vc_law01_DifferSheets_k1 P pre r post v2 v1 v8 h9))
  (BIN 0 .add (nth vs3 2) (.d (.num .i64 1)) fun v10 =>
  LEN false (nth vs3 6) h5 fun v11 =>
  BIN 0 .lss v10 v11 fun v12 =>
  COND v12
  (vc_law01_DifferSheets_k2 P pre r post vs3 h5 v2 v1)
  (vc_law01_DifferSheets_k3 P pre r post v2 v1 h5))
def vc_law01_DifferSheets_k5 (_P : Ctx) (pre : List ABlk) (r : AV) (post : List PB) (vs0 : List AV) (h1 : Heap) (next16 : List AV → Heap → Prop) : Prop :=
  IADDR 1 T_l_int (nth vs0 6) (nth vs0 8) h1 fun v2 =>
  LOAD false 1 v2 h1 fun v3 =>
  LEN false v3 h1 fun v4 =>
  LEN false (nth vs0 0) h1 fun v5 =>
  BIN 0 .neq v4 v5 fun v6 =>
  COND v6
  (POST (.d (.bool false)) h1 pre r post)
  (IADDR 1 T_l_int (nth vs0 6) (nth vs0 8) h1 fun v7 =>
  LOAD false 1 v7 h1 fun v8 =>
  APP T_int 1 .zc v8 832 h1 fun v9 h10 =>
  MKSX true T_l_int 1 [v9] 840 h10 fun v11 h12 =>
  APPX true T_l_int 1 (nth vs0 7) v11 848 h12 fun v13 h14 =>
  BIN 0 .add (nth vs0 8) (.d (.num .i64 1)) fun v15 =>
  next16 [(nth vs0 0), (nth vs0 1), (nth vs0 2), (nth vs0 3), (nth vs0 4), (nth vs0 5), (nth vs0 6), v13, v15] h14)
def vc_law01_DifferSheets_k6 (P : Ctx) (pre : List ABlk) (r : AV) (post : List PB) (vs0 : List AV) (h1 : Heap) : Prop :=
  IADDR 1 T_l_int (nth vs0 7) (nth vs0 2) h1 fun v2 =>
  LOAD false 1 v2 h1 fun v3 =>
  IADDR 1 T_l_int (nth vs0 7) (nth vs0 2) h1 fun v4 =>
  LOAD false 1 v4 h1 fun v5 =>
  IADDR 1 T_int v5 (nth vs0 3) h1 fun v6 =>
  LOAD false 1 v6 h1 fun v7 =>
  BIN 0 .add v7 (nth vs0 4) fun v8 =>
  IADDR 1 T_int v3 (nth vs0 3) h1 fun v9 =>
  STORE 1 v9 v8 h1 fun h10 =>
  ORDX [] [0, 0, 3, 7, 0, 0, 0, 96, 224, 0, 992, 2016, 0, 8160, 16383, 32767] [(2, wr h1 h1, (ids (nth vs0 7))), (3, wr h1 h1, (ids v2)), (7, wr h1 h1, (ids (nth vs0 7))), (8, wr h1 h1, (ids v4)), (10, wr h1 h1, (ids v5)), (11, wr h1 h1, (ids v6)), (14, wr h1 h1, (ids v3)), (15, wr h1 h10, (ids v9))] ∧
  LOAD true 3 (nth vs0 5) h10 fun v11 =>
  CALLX true P f_differ_Joins [v11, (nth vs0 7), (nth vs0 1)] 880 h10 (fun _ v13 h14 =>
  vc_law01_DifferSheets_k4 P pre r post v13 vs0 h14)
  (fun _ _ _ => False)
def vc_law01_DifferSheets_k7 (P : Ctx) (pre : List ABlk) (r : AV) (post : List PB) (v0 : AV) (h4 : Heap) (v7 : AV) (a9 : AV) (a14 : AV) (a15 : AV) (a16 : AV) (a17 : AV) (v18 : AV) : Prop :=
  EXT v0 0 fun v1 =>
  EXT v0 1 fun v2 =>
  BIN 0 .neq v2 (.d (.num .i64 0)) fun v3 =>
  CONDG v3
  (POST (.d (.bool false)) h4 pre r post)
  (LEN false v1 h4 fun v5 =>
  BIN 0 .neq v5 (.d (.num .i64 0)) fun v6 =>
  COND v6
  (POST (.d (.bool false)) h4 pre r post)
  (LEN false v7 h4 fun v8 =>
  BIN 0 .geq a9 v8 fun v10 =>
  COND v10
  (CALL P f_law01_known [] 672 h4 (fun _ v12 h13 =>
  POST v12 h13 pre r post)
  (fun _ _ _ => False))
  (LOOP [a14, a15, a9, a16, a17, v18, v7, .zc, (.d (.num .i64 0))] h4 688 fun vs19 h20 next21 =>
  LEN false (nth vs19 6) h20 fun v22 =>
  BIN 0 .lss (nth vs19 8) v22 fun v23 =>
  COND v23
  (vc_law01_DifferSheets_k5 P pre r post vs19 h20 next21)
  (vc_law01_DifferSheets_k6 P pre r post vs19 h20))))
def vc_law01_DifferSheets_k8 (P : Ctx) (pre : List ABlk) (r : AV) (post : List PB) (v0 : AV) (h4 : Heap) (v6 : AV) (a9 : AV) (a18 : AV) (a19 : AV) (a20 : AV) (a21 : AV) : Prop :=
  EXT v0 0 fun v1 =>
  EXT v0 1 fun v2 =>
  BIN 0 .neq v2 (.d (.num .i64 0)) fun v3 =>
  CONDG v3
  (POST (.d (.bool false)) h4 pre r post)
  (LEN false v1 h4 fun v5 =>
  FADDR 1 v6 h4 fun v7 =>
  LOAD false 1 v7 h4 fun v8 =>
  BIN 0 .add v8 a9 fun v10 =>
  BIN 0 .sub v10 (.d (.num .i64 1)) fun v11 =>
  BIN 0 .quo v11 a9 fun v12 =>
  BIN 0 .neq v5 v12 fun v13 =>
  COND v13
  (POST (.d (.bool false)) h4 pre r post)
  (LOAD true 3 v6 h4 fun v14 =>
  CALLX true P f_differ_Joins [v14, v1, a9] 536 h4 (fun _ v16 h17 =>
  vc_law01_DifferSheets_k7 P pre r post v16 h17 v1 a18 a19 a9 a20 a21 v6)
  (fun _ _ _ => False)))
def vc_law01_DifferSheets_k9 (P : Ctx) (pre : List ABlk) (r : AV) (post : List PB) (v0 : AV) (h2 : Heap) (a6 : AV) (a10 : AV) (a14 : AV) (a19 : AV) (v29 : AV) (a31 : AV) : Prop :=
  NOT v0 fun v1 =>
  CONDG v1
  (CALL P f_law01_known [] 328 h2 (fun _ v4 h5 =>
  POST v4 h5 pre r post)
  (fun _ _ _ => False))
  (BIN 0 .lss a6 (.d (.num .i64 0)) fun v7 =>
  CONDG v7
  (CALL P f_law01_known [] 328 h2 (fun _ v4 h9 =>
  POST v4 h9 pre r post)
  (fun _ _ _ => False))
  (BIN 0 .lss a10 (.d (.num .i64 0)) fun v11 =>
  CONDG v11
  (CALL P f_law01_known [] 328 h2 (fun _ v4 h13 =>
  POST v4 h13 pre r post)
  (fun _ _ _ => False))
  (LEN false a14 h2 fun v15 =>
  BIN 0 .geq a10 v15 fun v16 =>
  CONDG v16
  (CALL P f_law01_known [] 328 h2 (fun _ v4 h18 =>
  POST v4 h18 pre r post)
  (fun _ _ _ => False))
  (BIN 0 .lss a19 (.d (.num .i64 (-1000))) fun v20 =>
  CONDG v20
  (CALL P f_law01_known [] 328 h2 (fun _ v4 h22 =>
  POST v4 h22 pre r post)
  (fun _ _ _ => False))
  (BIN 0 .gtr a19 (.d (.num .i64 1000)) fun v23 =>
  CONDG v23
  (CALL P f_law01_known [] 328 h2 (fun _ v4 h25 =>
  POST v4 h25 pre r post)
  (fun _ _ _ => False))
  (BIN 0 .eql a19 (.d (.num .i64 0)) fun v26 =>
  COND v26
  (CALL P f_law01_known [] 328 h2 (fun _ v4 h28 =>
  POST v4 h28 pre r post)
  (fun _ _ _ => False))
  (LOAD true 3 v29 h2 fun v30 =>
  CALL P f_differ_Cut [v30, a14, a31] 352 h2 (fun _ v33 h34 =>
  vc_law01_DifferSheets_k8 P pre r post v33 h34 v29 a31 a6 a14 a10 a19)
  (fun _ _ _ => False))))))))
def vc_law01_DifferSheets_k10 (P : Ctx) (pre : List ABlk) (r : AV) (post : List PB) (v0 : AV) (h2 : Heap) (v6 : AV) (a8 : AV) (a12 : AV) (a13 : AV) (a14 : AV) (a15 : AV) : Prop :=
  NOT v0 fun v1 =>
  CONDG v1
  (CALL P f_law01_known [] 328 h2 (fun _ v4 h5 =>
  POST v4 h5 pre r post)
  (fun _ _ _ => False))
  (LOAD true 3 v6 h2 fun v7 =>
  CALL P f_ref01_Size [v7, a8] 96 h2 (fun _ v10 h11 =>
  vc_law01_DifferSheets_k9 P pre r post v10 h11 a12 a13 a14 a15 v6 a8)
  (fun _ _ _ => False))
def vc_law01_DifferSheets (P : Ctx) (pre : List ABlk) (a0 a1 a2 a3 a4 a5 : AV) (r : AV) (post : List PB) : Prop :=
  let h0 : Heap := numbered 0 pre
  BOX T_api_DifferPlan a0 24 h0 fun v6 h1 =>
  LOAD true 3 v6 h1 fun v22 =>
  CALL P f_law01_right [v22, a1] 56 h1 (fun _ v24 h2 =>
  vc_law01_DifferSheets_k10 P pre r post v24 h2 v6 a2 a3 a4 a1 a5)
  (fun _ _ _ => False)
theorem vc_law01_DifferSheets_eq (g : GG) (pre : List ABlk) (a0 a1 a2 a3 a4 a5 : AV) (r : AV) (post : List PB) : vcFn2 (Tz g) false ann_law01_DifferSheets Tryz.f3 pre [a0, a1, a2, a3, a4, a5] (.ret r) post = vc_law01_DifferSheets (Tz g) pre a0 a1 a2 a3 a4 a5 r post := by kernel_rfl
theorem hf_law01_DifferSheets : Tryz.prog.funcs[f_law01_DifferSheets]? = some Tryz.f3 := by kernel_rfl
theorem ok_law01_DifferSheets : fnVcOK Tryz.prog Tryz.f3 = true := by kernel_rfl
theorem nt_law01_DifferSheets : Nat.ble 6 Tryz.f3.ntmps = true := by kernel_rfl
theorem meetsH_law01_DifferSheets {g : GG} {pre : List ABlk} {a0 a1 a2 a3 a4 a5 : AV} {r : AV} {post : List PB} (hk : Nat.ble pre.length 24 = true) (h : vc_law01_DifferSheets (Tz g) pre a0 a1 a2 a3 a4 a5 r post) : MeetsH (Tz g) f_law01_DifferSheets pre [a0, a1, a2, a3, a4, a5] (.ret r) post :=
  meetsH_of_vc (C := Tz g) ann_law01_DifferSheets hf_law01_DifferSheets ok_law01_DifferSheets nt_law01_DifferSheets hk (pn := false) (Eq.mpr ((vcFn2_eq _ _ _ _ _ _ _ _).trans (vc_law01_DifferSheets_eq g pre a0 a1 a2 a3 a4 a5 r post)) h)
theorem meets_law01_DifferSheets {g : GG} {a0 a1 a2 a3 a4 a5 : D} {r : Res} (h : vc_law01_DifferSheets (Tz g) [] (.d a0) (.d a1) (.d a2) (.d a3) (.d a4) (.d a5) r.val (r.bl.map .upd)) : Meets (Tz g) f_law01_DifferSheets [a0, a1, a2, a3, a4, a5] r := meetsH_law01_DifferSheets rfl h
end Go.Vc

namespace Go.Vc
open Go Go.Proofs
variable {g : GG}
attribute [local simp] and_assoc
attribute [local simp] ints_cells
def blkP (p : Plan) : ABlk := ⟨0, T_api_DifferPlan, .box [.d (.list (p.starts.map Sp.d)), .d (int p.rows), .d (int p.guard)]⟩
set_option maxHeartbeats 8000000 in
theorem sheets_meets (hg : GOK g) (p : Plan) (t : List Int) (size sheet number chg : Int) (_ : ∀ n, n ∈ t → -9223372036854775808 ≤ n ∧ n ≤ 9223372036854775807) (_ : -9223372036854775808 ≤ size ∧ size ≤ 9223372036854775807) (_ : -9223372036854775808 ≤ sheet ∧ sheet ≤ 9223372036854775807) (_ : -9223372036854775808 ≤ number ∧ number ≤ 9223372036854775807) (_ : -9223372036854775808 ≤ chg ∧ chg ≤ 9223372036854775807) :
    Meets (Tz g) f_law01_DifferSheets [p.d, ints t, int size, int sheet, int number, int chg] ⟨.d (.bool true), []⟩ := by
  refine meets_law01_DifferSheets ?_
  unfold vc_law01_DifferSheets
  simp [Plan.d, spans, ints]
  refine CALL.val [p.d, ints t] _ rfl (law01_right_meets p t) (.inl rfl) ?_
  cases hr : rightB p t with
  | false =>
    simp [vc_law01_DifferSheets_k10]
    exact known_call hg (by simp)
  | true =>
    obtain ⟨hok, hw⟩ : p.ok = true ∧ within p.starts t = true := by
      simp [rightB] at hr
      simp [hr]
    obtain ⟨a1, a2, a3, a4, a5⟩ := Plan.ok_len hok
    have htl := within_length hw
    simp [vc_law01_DifferSheets_k10, lookH]
    refine CALL.val [p.d, int size] _ rfl (ref01_Size_meets p size) (.inl rfl) ?_
    cases hs : inB size 1 p.rows with
    | false =>
      simp [vc_law01_DifferSheets_k9]
      exact known_call hg (by simp)
    | true =>
      simp [inB] at hs
      obtain ⟨s, rfl⟩ : ∃ s : Nat, size = s := ⟨size.toNat, by omega⟩
      obtain ⟨n, hn⟩ : ∃ n : Nat, p.rows = n := ⟨p.rows.toNat, by omega⟩
      simp [vc_law01_DifferSheets_k9, lookH]
      refine ⟨fun _ => known_call hg (by simp), fun b1 => ⟨fun _ => known_call hg (by simp), fun b2 => ⟨fun _ => known_call hg (by simp), fun b3 => ⟨fun _ => known_call hg (by simp), fun b4 => ⟨fun _ => known_call hg (by simp), fun b5 => ⟨fun _ => known_call hg (by simp), fun b6 => ?_⟩⟩⟩⟩⟩⟩
      refine CALL.mk [p.d, ints t, int s] _ rfl (CutD p t n s hok hw hn (by omega) (by omega)) (.inl rfl) (by simp) ?_
      have hcl := cutL_len t n s
      have hsh := sheets_le n s (by omega)
      have hfb := cut_firsts p t n s hok hw hn (by omega) (by omega)
      have hjn := cut_joins t n s
      have hoff := cut_off t n s
      have hlen := cut_len p t n s hok hw hn (by omega) (by omega)
      have hbnd := cut_bnd p t n s hok hw hn (by omega) (by omega)
      generalize hls : cutL t n s = ls at *
      simp [vc_law01_DifferSheets_k8, lookH, listsD]
      have hq : ((n : Int) + (s : Int) - 1).tdiv (s : Int) = (sheetsN n s : Int) := by
        rw [Int.tdiv_eq_ediv_of_nonneg (by omega)]
        unfold sheetsN
        rw [show (n : Int) + (s : Int) - 1 = ((n + s - 1 : Nat) : Int) by omega]
        exact (Int.natCast_ediv _ _).symm
      rw [hn, wrap_id (n := (n : Int) + (s : Int)) (by omega) (by omega), wrap_id (n := (n : Int) + (s : Int) - 1) (by omega) (by omega), hq, wrap_id (n := (sheetsN n s : Int)) (by omega) (by omega)]
      refine ⟨by omega, by omega, fun _ => CALLX.of ?_⟩
      rw [← hn]
      refine CALL.mk [p.d, listsD ls, int s] _ rfl (JoinsD p ls n s hok hn (by omega) (by omega) (by omega) hfb) (.inl rfl) (by simp) ?_
      rw [hjn]
      simp [vc_law01_DifferSheets_k7, ints]
      refine ⟨fun _ => known_call hg (by simp), fun hlt => ?_⟩
      obtain ⟨sh, rfl⟩ : ∃ sh : Nat, sheet = sh := ⟨sheet.toNat, by omega⟩
      obtain ⟨nu, rfl⟩ : ∃ nu : Nat, number = nu := ⟨number.toNat, by omega⟩
      refine LOOP.mkP Nat (fun i => [.d (ints t), .d (int s), .d (int sh), .d (int nu), .d (int chg), .ptr 24 0 0 0, .d (listsD ls), xAt i, .d (int i)]) (fun i => hdH (blkP p) ls i) (fun i => i ≤ ls.length) (fun i => ls.length - i) [] (by simp) 0 (by omega) (by simp [WEAK, hdH, xAt, boxAt, rowsH, ints, listsD, blkP]) (fun i hi => ?_) ?_
      · simp only [lowB, Bool.and_eq_true, List.all_eq_true, Nat.blt_eq]
        refine ⟨fun k hk => ?_, ids_hd _ rfl ls i (by omega)⟩
        cases i <;> simp [ids.idsL, ids, xAt] at hk <;> omega
      intro i hi
      have hgt : ∀ j, j < ls.length → ls[j]? = some (ls.getD j []) := fun j hj => by simp [hj]
      simp [listsD]
      refine ⟨fun hil => ?_, fun hil => ?_⟩
      · have hL := hlen i hil
        obtain ⟨l, hl⟩ : ∃ l, ls.getD i [] = l := ⟨_, rfl⟩
        have hg := hgt i hil
        have hrow : rowB ls i = ⟨0, T_int, .lst (l.map int)⟩ := by unfold rowB; rw [hl]
        rw [hl] at hg hL
        simp [vc_law01_DifferSheets_k5, hg, ints, hL]
        refine ⟨by omega, MKSX.box ?_⟩
        have hw1 := wrap_id (n := (i : Int) + 1) (by omega) (by omega)
        rw [hw1]
        cases i with
        | zero =>
          refine APPX.box0 (e' := T_l_int) (zs := [.own 832 0]) (by simp) (by simp) (by simp) ?_
          refine ⟨1, by omega, .inr ⟨pi0, pi0_inv, fun k hk => by unfold pi0; rw [sw_ne (a := 832) (by omega) (by omega), sw_ne (by omega) (by omega)], ?_, ?_, ?_⟩, by omega⟩
          · simp [AV.ren.renL, AV.ren, xAt, pi0, sw]
          · have := round0 (blkP p) (fun _ => rfl) ls (some ⟨0, T_l_int, .box [.own 832 0]⟩)
            rw [hrow] at this
            exact this
          · simp [AV.ren.renL, AV.ren, xAt]
        | succ i =>
          refine APPX.box (e' := T_l_int) (cs := ownsL (i + 1)) (zs := [.own 832 0]) (by simp [hdH, boxAt]) (by simp) (by simp [owns_len]; omega) ?_
          refine ⟨i + 1 + 1, by omega, .inr ⟨sw 832 (26 + (i + 1)), sw_sw _ _, fun k hk => sw_ne (by omega) (by omega), ?_, ?_, ?_⟩, by omega⟩
          · simp [AV.ren.renL, AV.ren, xAt]
            exact ⟨sw_ne (by omega) (by omega), sw_ne (by omega) (by omega)⟩
          · have := round1 (blkP p) (fun _ => rfl) ls (some ⟨0, T_l_int, .box [.own 832 0]⟩) i (by omega)
            rw [hrow] at this
            exact this
          · simp [AV.ren.renL, AV.ren, xAt]
      · have hie : i = ls.length := by omega
        subst hie
        obtain ⟨m, hm⟩ : ∃ m, ls.length = m + 1 := ⟨ls.length - 1, by omega⟩
        have hsh2 : sh < ls.length := by omega
        obtain ⟨l, hl⟩ : ∃ l, ls.getD sh [] = l := ⟨_, rfl⟩
        have hrow : rowB ls sh = ⟨0, T_int, .lst (l.map int)⟩ := by unfold rowB; rw [hl]
        have hL := hlen sh hsh2
        rw [hl] at hL
        have hl24 := look_hd24 (blkP p) ls ls.length
        have hl25 := look_hd25 (blkP p) ls m
        rw [← hm] at hl25
        have hlj := fun j hj => look_hdj (blkP p) ls ls.length j hj
        have hls := hlj sh hsh2
        rw [hrow] at hls
        have hown := owns_at (show sh < ls.length by omega)
        have hx : xAt ls.length = .own 25 m := by rw [hm]; rfl
        rw [hx]
        generalize hdH (blkP p) ls ls.length = H at *
        have holen := owns_len ls.length
        obtain ⟨x, hx3⟩ : ∃ x, l[nu]? = some x := ⟨_, List.getElem?_eq_getElem (show nu < l.length by omega)⟩
        have hnl : nu < l.length := by omega
        have hxb : -500000000 ≤ x ∧ x ≤ 500000000 := hbnd sh hsh2 x (by rw [hl]; exact List.mem_of_getElem? hx3)
        obtain ⟨hn3, hx4⟩ := List.getElem?_eq_some_iff.1 hx3
        have hne24 : ¬ (26 + sh = 24) := by omega
        have hwx := wrap_id (n := x + chg) (by omega) (by omega)
        simp [vc_law01_DifferSheets_k6, hl25, hls, holen, hsh2, owns_get, hnl, hx4, wr_same, wr_one, hne24, hl24, blkP, hwx]
        refine ⟨ord_sheets _, ?_⟩
        obtain ⟨y, hy⟩ : ∃ y, y = l.set nu (x + chg) := ⟨_, rfl⟩
        have hyd : (List.map int l).set nu (D.num IntKind.i64 (x + chg)) = y.map int := by rw [hy, List.map_set]
        rw [hyd]
        obtain ⟨ls', hls'⟩ : ∃ ls', ls' = ls.set sh y := ⟨_, rfl⟩
        have hll : ls'.length = ls.length := by rw [hls', List.length_set]
        have hel := rows_elems (bodyOf ((26 + sh, some ⟨0, T_int, .lst (y.map int)⟩) :: H)) ls' (fun j hj => by
          have hg2 := getD_set ls sh j y [] hsh2
          rw [hls', hg2]
          unfold bodyOf
          rw [lookH_cons]
          by_cases e : j = sh
          · subst e
            simp [bodyAt]
          · rw [if_neg (show ¬ 26 + sh = 26 + j by omega), hlj j (by omega), if_neg e]
            simp [bodyAt, rowB])
        rw [hll] at hel
        have hyl : y.length = (ls.getD sh []).length := by rw [hy, List.length_set, hl]
        have hyn : y ≠ ls.getD sh [] := fun e => by
          rw [hl, hy] at e
          have e2 := congrArg (fun q => q[nu]?) e
          simp [hnl, hx4] at e2
          omega
        have hjc := joins_changed ls s sh y hsh2 (fun i hi => hoff i (by omega)) hyn hyl
        have hjl : joinsL ls' s = joinK (ls.set sh y) s ls.length := by unfold joinsL; rw [hll, hls']
        have hjlen : (joinsL ls' s).length ≤ 2 := by rw [hjl, hjc]; split <;> split <;> simp
        have hfb2 : firstsB p ls' s = true := by
          unfold firstsB at hfb ⊢
          rw [Bool.and_eq_true] at hfb ⊢
          rw [hll]
          refine ⟨hfb.1, ?_⟩
          have h2 := List.all_eq_true.1 hfb.2
          rw [List.all_eq_true]
          intro q hq
          rw [hls'] at hq
          rcases List.mem_or_eq_of_mem_set hq with hq | rfl
          · exact h2 q hq
          · have h3 := h2 l (by rw [← hl, List.getD_eq_getElem?_getD, List.getElem?_eq_getElem hsh2]; exact List.getElem_mem hsh2)
            rw [Bool.and_eq_true] at h3 ⊢
            have hqy : q.length = l.length := by rw [hyl, hl]
            refine ⟨by rw [hqy]; exact h3.1, ?_⟩
            obtain ⟨c1, c2, c3⟩ := stateB_len h3.2
            unfold stateB
            rw [Bool.and_eq_true, List.all_eq_true]
            refine ⟨by rw [hqy]; simp [inB]; omega, fun z hz => ?_⟩
            rw [hy] at hz
            rcases List.mem_or_eq_of_mem_set hz with hz | rfl
            · have := c3 z hz
              simp [farB, inB]
              omega
            · simp [farB, inB]
              omega
        refine CALLX.deep [p.d, listsD ls', int s] ((List.range ls.length).map fun j => 26 + j) _ ?_ (JoinsD p ls' n s hok hn (by omega) (by omega) (by omega) hfb2) (by simp) ?_
        · have hb25 : bodyOf ((26 + sh, some ⟨0, T_int, .lst (y.map int)⟩) :: H) 25 m = some (T_l_int, .box (ownsL ls.length)) := by
            unfold bodyOf
            rw [lookH_cons, if_neg (show ¬ 26 + sh = 25 by omega), hl25]
            simp [bodyAt]
          simp only [argsX, argX, hb25, hel, argD, toD, Option.map_some, Option.bind_some]
          simp [Plan.d, spans, listsD]
        generalize upsP _ _ _ ++ kills _ ++ _ = Hf
        rw [hjl, hjc]
        simp [vc_law01_DifferSheets_k4, AV.ren, ints]
        have hw1 := wrap_id (n := (sh : Int) + 1) (by omega) (by omega)
        rw [hw1]
        refine ⟨fun h0 => ⟨fun h1 => ?_, fun h1 => ?_⟩, fun h0 => ⟨fun h1 => ?_, fun h1 => ?_⟩⟩
        · have h2 : sh + 1 < ls.length := by omega
          simp [vc_law01_DifferSheets_k0, h0, h2, hw1]
          refine CALL.val [ints [(sh : Int), (sh : Int) + 1], ints [(sh : Int), (sh : Int) + 1]] _ (by simp [ints]) (ref01_Same_meets _ _ (by simp) (by simp)) (.inr rfl) ?_
          simp
          exact known_call hg (by simp)
        · have h2 : ¬ sh + 1 < ls.length := by omega
          simp [vc_law01_DifferSheets_k1, h0, h2]
          refine CALL.val [ints [(sh : Int)], ints [(sh : Int)]] _ (by simp [ints]) (ref01_Same_meets _ _ (by simp) (by simp)) (.inr rfl) ?_
          simp
          exact known_call hg (by simp)
        · have h2 : sh + 1 < ls.length := by omega
          have h3 : ¬ 0 < sh := by omega
          simp [vc_law01_DifferSheets_k2, h3, h2, hw1]
          refine CALL.val [ints [(sh : Int) + 1], ints [(sh : Int) + 1]] _ (by simp [ints]) (ref01_Same_meets _ _ (by simp) (by simp)) (.inr rfl) ?_
          simp
          exact known_call hg (by simp)
        · have h2 : ¬ sh + 1 < ls.length := by omega
          have h3 : ¬ 0 < sh := by omega
          simp [vc_law01_DifferSheets_k3, h3, h2]
          refine CALL.val [ints [], ints []] _ (by simp [ints]) (ref01_Same_meets _ _ (by simp) (by simp)) (.inl rfl) ?_
          simp
          exact known_call hg (by simp)
end Go.Vc

namespace Go.Vc
open Go Go.RowKit Go.ChangeShapes Go.WideShapes Go.ChangeAt Go.Proofs Go.Proofs.YtnbdfpppcdgkpaaGreatDoor
theorem sheets_calls {H : Type} {enc : TypeId × Value → H} (W : World) (base : Nat) (args : Array Value) (ds : List (DataW H)) (ps : List MemPlace) (hval : ∀ (j : Nat) t v, Tryz.f3.params[j]? = some t → args[j]? = some v → Value.okWide Tryz.prog W .any base t v)
    (hA : DataW.TrodAll enc Tryz.prog W 0 (fun _ => true) true Tryz.f3.params.toList args.toList ds ps) (hL : laidMetH Tryz.prog laidL W) (hsh : W.ShapedOpen Tryz.prog) : Calls Tryz.prog 3 args W fun e W' => e = .returned (.bool true) ∧ Below W.heap.size W W' := by
  rw [Tryz.params3] at hA hval
  obtain ⟨v0, v1, v2, v3, v4, v5, d0, d1, d2, d3, d4, d5, p0, p1, p2, p3, p4, p5, rfl, rfl, rfl, h0, h1, h2, h3, h4, h5⟩ := trodAll_n6 hA
  obtain ⟨x0, g0⟩ := open_plan (hval 0 24 v0 rfl rfl) h0
  obtain ⟨x1, g1, b1⟩ := open_ints' (hval 1 25 v1 rfl rfl) h1
  obtain ⟨x2, g2, b2⟩ := open_int' (hval 2 3 v2 rfl rfl) h2
  obtain ⟨x3, g3, b3⟩ := open_int' (hval 3 3 v3 rfl rfl) h3
  obtain ⟨x4, g4, b4⟩ := open_int' (hval 4 3 v4 rfl rfl) h4
  obtain ⟨x5, g5, b5⟩ := open_int' (hval 5 3 v5 rfl rfl) h5
  exact law_calls (C := Tz (gW W)) (sheets_meets (gok hL hsh) x0 x1 x2 x3 x4 x5 b1 b2 b3 b4 b5) rfl (Below.refl _ _) (us := [v0, v1, v2, v3, v4, v5]) rfl (fun i d u hd hu => by
    match i, hd, hu with
    | 0, hd, hu => simp at hd hu; subst hd; subst hu; exact g0
    | 1, hd, hu => simp at hd hu; subst hd; subst hu; exact g1
    | 2, hd, hu => simp at hd hu; subst hd; subst hu; exact g2
    | 3, hd, hu => simp at hd hu; subst hd; subst hu; exact g3
    | 4, hd, hu => simp at hd hu; subst hd; subst hu; exact g4
    | 5, hd, hu => simp at hd hu; subst hd; subst hu; exact g5
    | i + 6, hd, hu => simp at hd)
theorem sheets_lifted (os : Os) (started : os.Started) (H : Type) (enc : TypeId × Value → H) :
    ReturnsInHanded {} Tryz.checked os 3 .any (fun w args => (Rows.differSheetsSpec.pre enc Tryz.prog Tryz.f3 [] false w args ∧ laidMetH Tryz.prog laidL w) ∧ sizedMet enc Tryz.prog Tryz.f3 (OpenSpec.ofChange Rows.differSheetsSpec) false w args)
      (Rows.differSheetsSpec.post enc Tryz.prog Tryz.f3 false true false false) :=
  law_lifted (C := Tryz.checked) (tb := 4) (n := 6) started own (by kernel_rfl) Tryz.func3
    (ChangeSpec.witness_shaped (enc := enc) (C := Tryz.checked) (os := os) (X := fun w _ => laidMetH Tryz.prog laidL w) false (World.laidAll Tryz.prog os laidL) #[.agg #[.slice none 0 0, .int .i64 0, .int .i64 0], .slice none 0 0, .int .i64 0, .int .i64 0, .int .i64 0, .int .i64 0] 8 (World.laidAll_os _ _ _)
      (World.shaped_of_ZipB (by kernel_rfl) (by kernel_rfl)) (by kernel_rfl) (by kernel_rfl) (by kernel_rfl)
      (by rw [MakeChecks.laidMetH_plain _ _ _ (by kernel_rfl)]; exact laidMet_laidAll _ (by kernel_rfl) (by kernel_rfl)))
    laidOut (by kernel_rfl) (by kernel_rfl) Tryz.underlying4 rfl (by kernel_rfl) (fun ds hl => by
      match ds, hl with
      | [a, b, c, d, e, f], _ => rfl) sheets_calls
theorem sheets_holds : Rows.DifferSheetsSaid :=
  OpenClaim.holds_of_wide 3 Tryz.f3 rfl rfl rfl rfl rfl rfl rfl ⟨rfl, rfl, rfl, rfl, rfl⟩ rfl rfl rfl rfl rfl (by kernel_rfl) Tryz.func3 (by kernel_rfl)
    (of_decide_eq_true (by kernel_rfl)) (by unfold Func.isWrapper; first | (rw [if_pos (by decide +kernel)]; kernel_rfl) | (rw [if_neg (by decide +kernel)]; exact ⟨rfl, rfl⟩))
    (fun os started H enc _ => sheets_lifted os started H enc)
theorem sheets_card : Rows.DifferSheetsCardSaid :=
  Claim7.holds_tied_plain_at .later [] [.data, .data, .data, .data, .pinned] true (true, "eb73d3fb68631a478c2777b6a9670aee05550e61c5f940a57c40209abaade795") true sheets_holds (fun _ h => by cases h) (by kernel_rfl) (fun _ h => by cases h) differSheets_row_tie rfl ⟨rfl, rfl⟩ (by kernel_rfl) rfl
    (fun f fn hf hfn => by
      obtain rfl : f = 3 := Option.some.inj ((show Tryz.prog.funcNamed "ephemerist/ephemeristlaw01.DifferSheets" = some 3 by kernel_rfl).symm.trans hf) |>.symm
      obtain rfl : fn = Tryz.f3 := (Option.some.inj (Tryz.func3.symm.trans hfn)).symm
      exact ⟨by kernel_rfl, fun j t ht => by
        rw [Tryz.params3] at ht
        have hm : t ∈ [24, 25, 3, 3, 3, 3] := by simpa using Array.mem_of_getElem? ht
        have hall : ([24, 25, 3, 3, 3, 3].all fun u => !Tryz.prog.wantsStandIn u) = true := by kernel_rfl
        exact (show Tryz.prog.wantsStandIn t = false by simpa using List.all_eq_true.1 hall t hm)⟩)
    (by kernel_rfl)
end Go.Vc

namespace Go.Proofs.YtnbdfpppcdgkpaaGreatDoor
theorem law_DifferSheetsCardSaid : Rows.DifferSheetsCardSaid := Go.Vc.sheets_card
end Go.Proofs.YtnbdfpppcdgkpaaGreatDoor
