/- A part of the proof: general laws of a reading of the model by abstract data, or contracts of the functions that the law calls. -/
import Derived.Test.YtflbianfhogdjaaGreatDoorVc22
import Derived.Test.YtflbianfhogdjaaGreatDoorVc11
import Derived.Test.YtflbianfhogdjaaGreatDoorVc36
import Derived.Test.YtflbianfhogdjaaGreatDoorVc32
set_option maxRecDepth 100000
namespace Go.Vc
open Go Go.Proofs Go.RowKit
def ann_ref01_At : Nat → List Nat := fun n => match n with | 3 => [0, 1, 5, 6] | 7 => [0, 1, 5, 6, 7, 8] | _ => []
def vc_ref01_At_k0 (P : Ctx) (pre : List ABlk) (r : AV) (post : List PB) (vs0 : List AV) (h1 : Heap) (next13 : List AV → Heap → Prop) (next19 : List AV → Heap → Prop) : Prop :=
  LEN false (nth vs0 0) h1 fun v2 =>
  BIN 0 .lss (nth vs0 5) v2 fun v3 =>
  COND v3
  (IADDR 1 T_int (nth vs0 0) (nth vs0 5) h1 fun v4 =>
  LOAD false 1 v4 h1 fun v5 =>
  BIN 0 .sub (nth vs0 5) (nth vs0 3) fun v6 =>
  CALL P f_ref01_Choose [(nth vs0 1), v6] 224 h1 (fun rd7 v8 h9 =>
  BIN 0 .mul v5 v8 fun v10 =>
  BIN 0 .add (nth vs0 4) v10 fun v11 =>
  ORDX [] [0, 0, 0, 6, 14, 0, 0, 0, 192, 480, 1022, 2047, 4095] [(3, wr h1 h1, (ids (nth vs0 0))), (4, wr h1 h1, (ids v4)), (9, wr h1 h9, rd7)] ∧
  BIN 0 .add (nth vs0 5) (.d (.num .i64 1)) fun v12 =>
  next13 [(nth vs0 0), (nth vs0 1), (nth vs0 2), (nth vs0 3), v11, v12] h9)
  (fun _ _ _ => False))
  (MKS T_int 1 [(nth vs0 4)] 168 h1 fun v14 h15 =>
  APP T_int 1 (nth vs0 2) v14 176 h15 fun v16 h17 =>
  BIN 0 .add (nth vs0 3) (.d (.num .i64 1)) fun v18 =>
  next19 [(nth vs0 0), (nth vs0 1), v16, v18] h17)
def vc_ref01_At (P : Ctx) (pre : List ABlk) (a0 a1 : AV) (r : AV) (post : List PB) : Prop :=
  let h0 : Heap := numbered 0 pre
  LOOP [a0, a1, .zc, (.d (.num .i64 0))] h0 48 fun vs1 h2 next1 =>
  LEN false (nth vs1 0) h2 fun v11 =>
  BIN 0 .lss (nth vs1 3) v11 fun v12 =>
  COND v12
  (LOOP [(nth vs1 0), (nth vs1 1), (nth vs1 2), (nth vs1 3), (.d (.num .i64 0)), (nth vs1 3)] h2 112 fun vs3 h4 next3 =>
  vc_ref01_At_k0 P pre r post vs3 h4 next3 next1)
  (POST (nth vs1 2) h2 pre r post)
theorem vc_ref01_At_eq (g : GG) (pre : List ABlk) (a0 a1 : AV) (r : AV) (post : List PB) : vcFn2 (Tz g) false ann_ref01_At Tryz.f41 pre [a0, a1] (.ret r) post = vc_ref01_At (Tz g) pre a0 a1 r post := by kernel_rfl
theorem hf_ref01_At : Tryz.prog.funcs[f_ref01_At]? = some Tryz.f41 := by kernel_rfl
theorem ok_ref01_At : fnVcOK Tryz.prog Tryz.f41 = true := by kernel_rfl
theorem nt_ref01_At : Nat.ble 2 Tryz.f41.ntmps = true := by kernel_rfl
theorem meetsH_ref01_At {g : GG} {pre : List ABlk} {a0 a1 : AV} {r : AV} {post : List PB} (hk : Nat.ble pre.length 24 = true) (h : vc_ref01_At (Tz g) pre a0 a1 r post) : MeetsH (Tz g) f_ref01_At pre [a0, a1] (.ret r) post :=
  meetsH_of_vc (C := Tz g) ann_ref01_At hf_ref01_At ok_ref01_At nt_ref01_At hk (pn := false) (Eq.mpr ((vcFn2_eq _ _ _ _ _ _ _ _).trans (vc_ref01_At_eq g pre a0 a1 r post)) h)
theorem meets_ref01_At {g : GG} {a0 a1 : D} {r : Res} (h : vc_ref01_At (Tz g) [] (.d a0) (.d a1) r.val (r.bl.map .upd)) : Meets (Tz g) f_ref01_At [a0, a1] r := meetsH_ref01_At rfl h
def ann_differ_Cut : Nat → List Nat := fun n => match n with | 6 => [2, 3, 8, 9, 10] | _ => []
def vc_differ_Cut_k0 (P : Ctx) (pre : List ABlk) (r : AV) (post : List PB) (vs0 : List AV) (h1 : Heap) (next14 : List AV → Heap → Prop) : Prop :=
  FADDR 1 (nth vs0 1) h1 fun v2 =>
  LOAD false 1 v2 h1 fun v3 =>
  BIN 0 .lss (nth vs0 4) v3 fun v4 =>
  COND v4
  (LOAD true 4 (nth vs0 2) h1 fun v5 =>
  CALL P f_differ_table_state [v5, (nth vs0 4)] 296 h1 (fun _ v7 h8 =>
  MKS T_l_int 1 [v7] 304 h8 fun v9 h10 =>
  APP T_l_int 1 (nth vs0 3) v9 312 h10 fun v11 h12 =>
  BIN 0 .add (nth vs0 4) (nth vs0 0) fun v13 =>
  next14 [(nth vs0 0), (nth vs0 1), (nth vs0 2), v11, v13] h12)
  (fun _ _ _ => False))
  (POST (.tup [(nth vs0 3), (.d (.num .i64 0))]) h1 pre r post)
def vc_differ_Cut_k1 (P : Ctx) (pre : List ABlk) (r : AV) (post : List PB) (v0 : AV) (h2 : Heap) (v3 : AV) (a5 : AV) (a10 : AV) : Prop :=
  NOT v0 fun v1 =>
  COND v1
  (POST (.tup [.zc, (.d (.num .i64 2))]) h2 pre r post)
  (LOAD true 3 v3 h2 fun v4 =>
  BUILD [(0, 3), (3, 1)] [.zc, .d (.num .i64 0), .d (.num .i64 0), .zc] [(0, v4), (1, a5)] fun v6 =>
  ALLOC T_differ_table [.zc, .d (.num .i64 0), .d (.num .i64 0), .zc] 200 h2 fun v7 h8 =>
  STORE 4 v7 v6 h8 fun h9 =>
  LOOP [a10, v3, v7, .zc, (.d (.num .i64 0))] h9 232 fun vs11 h12 next13 =>
  vc_differ_Cut_k0 P pre r post vs11 h12 next13)
def vc_differ_Cut_k2 (P : Ctx) (pre : List ABlk) (r : AV) (post : List PB) (v0 : AV) (h2 : Heap) (v3 : AV) (a5 : AV) (a12 : AV) : Prop :=
  NOT v0 fun v1 =>
  CONDG v1
  (POST (.tup [.zc, (.d (.num .i64 2))]) h2 pre r post)
  (LOAD true 3 v3 h2 fun v4 =>
  CALL P f_differ_isTruth [v4, a5] 96 h2 (fun _ v7 h8 =>
  NOT v7 fun v9 =>
  CONDG v9
  (POST (.tup [.zc, (.d (.num .i64 2))]) h8 pre r post)
  (FADDR 1 v3 h8 fun v10 =>
  LOAD false 1 v10 h8 fun v11 =>
  CALL P f_differ_in [a12, (.d (.num .i64 1)), v11] 152 h8 (fun _ v14 h15 =>
  vc_differ_Cut_k1 P pre r post v14 h15 v3 a5 a12)
  (fun _ _ _ => False)))
  (fun _ _ _ => False))
def vc_differ_Cut (P : Ctx) (pre : List ABlk) (a0 a1 a2 : AV) (r : AV) (post : List PB) : Prop :=
  let h0 : Heap := numbered 0 pre
  BOX T_api_DifferPlan a0 24 h0 fun v3 h1 =>
  LOAD true 3 v3 h1 fun v11 =>
  CALL P f_differ_isPlan [v11] 56 h1 (fun _ v12 h2 =>
  vc_differ_Cut_k2 P pre r post v12 h2 v3 a1 a2)
  (fun _ _ _ => False)
theorem vc_differ_Cut_eq (g : GG) (pre : List ABlk) (a0 a1 a2 : AV) (r : AV) (post : List PB) : vcFn2 (Tz g) false ann_differ_Cut Tryz.f16 pre [a0, a1, a2] (.ret r) post = vc_differ_Cut (Tz g) pre a0 a1 a2 r post := by kernel_rfl
theorem hf_differ_Cut : Tryz.prog.funcs[f_differ_Cut]? = some Tryz.f16 := by kernel_rfl
theorem ok_differ_Cut : fnVcOK Tryz.prog Tryz.f16 = true := by kernel_rfl
theorem nt_differ_Cut : Nat.ble 3 Tryz.f16.ntmps = true := by kernel_rfl
theorem meetsH_differ_Cut {g : GG} {pre : List ABlk} {a0 a1 a2 : AV} {r : AV} {post : List PB} (hk : Nat.ble pre.length 24 = true) (h : vc_differ_Cut (Tz g) pre a0 a1 a2 r post) : MeetsH (Tz g) f_differ_Cut pre [a0, a1, a2] (.ret r) post :=
  meetsH_of_vc (C := Tz g) ann_differ_Cut hf_differ_Cut ok_differ_Cut nt_differ_Cut hk (pn := false) (Eq.mpr ((vcFn2_eq _ _ _ _ _ _ _ _).trans (vc_differ_Cut_eq g pre a0 a1 a2 r post)) h)
theorem meets_differ_Cut {g : GG} {a0 a1 a2 : D} {r : Res} (h : vc_differ_Cut (Tz g) [] (.d a0) (.d a1) (.d a2) r.val (r.bl.map .upd)) : Meets (Tz g) f_differ_Cut [a0, a1, a2] r := meetsH_differ_Cut rfl h
def ann_differ_areFirsts : Nat → List Nat := fun n => match n with  | _ => []
def vc_differ_areFirsts (P : Ctx) (pre : List ABlk) (a0 a1 a2 : AV) (r : AV) (post : List PB) : Prop :=
  let h0 : Heap := numbered 0 pre
  BOX T_api_DifferPlan a0 24 h0 fun v3 h1 =>
  LEN false a1 h1 fun v8 =>
  FADDR 1 v3 h1 fun v9 =>
  LOAD false 1 v9 h1 fun v10 =>
  BIN 0 .add v10 a2 fun v12 =>
  BIN 0 .sub v12 (.d (.num .i64 1)) fun v13 =>
  BIN 0 .quo v13 a2 fun v15 =>
  BIN 0 .eql v8 v15 fun v16 =>
  CONDG v16
  (CALL P f_slices_ContainsFunc_l_l_int_l_int [a1, (.fn f_differ_areFirsts_1 [] [v3])] 144 h1 (fun _ v20 h2 =>
  NOT v20 fun v21 =>
  POST v21 h2 pre r post)
  (fun _ _ _ => False))
  (POST (.d (.bool false)) h1 pre r post)
theorem vc_differ_areFirsts_eq (g : GG) (pre : List ABlk) (a0 a1 a2 : AV) (r : AV) (post : List PB) : vcFn2 (Tz g) false ann_differ_areFirsts Tryz.f61 pre [a0, a1, a2] (.ret r) post = vc_differ_areFirsts (Tz g) pre a0 a1 a2 r post := by kernel_rfl
theorem hf_differ_areFirsts : Tryz.prog.funcs[f_differ_areFirsts]? = some Tryz.f61 := by kernel_rfl
theorem ok_differ_areFirsts : fnVcOK Tryz.prog Tryz.f61 = true := by kernel_rfl
theorem nt_differ_areFirsts : Nat.ble 3 Tryz.f61.ntmps = true := by kernel_rfl
theorem meetsH_differ_areFirsts {g : GG} {pre : List ABlk} {a0 a1 a2 : AV} {r : AV} {post : List PB} (hk : Nat.ble pre.length 24 = true) (h : vc_differ_areFirsts (Tz g) pre a0 a1 a2 r post) : MeetsH (Tz g) f_differ_areFirsts pre [a0, a1, a2] (.ret r) post :=
  meetsH_of_vc (C := Tz g) ann_differ_areFirsts hf_differ_areFirsts ok_differ_areFirsts nt_differ_areFirsts hk (pn := false) (Eq.mpr ((vcFn2_eq _ _ _ _ _ _ _ _).trans (vc_differ_areFirsts_eq g pre a0 a1 a2 r post)) h)
theorem meets_differ_areFirsts {g : GG} {a0 a1 a2 : D} {r : Res} (h : vc_differ_areFirsts (Tz g) [] (.d a0) (.d a1) (.d a2) r.val (r.bl.map .upd)) : Meets (Tz g) f_differ_areFirsts [a0, a1, a2] r := meetsH_differ_areFirsts rfl h
def ann_differ_areFirsts_1 : Nat → List Nat := fun n => match n with  | _ => []
def vc_differ_areFirsts_1 (P : Ctx) (pre : List ABlk) (a0 a1 : AV) (r : AV) (post : List PB) : Prop :=
  let h0 : Heap := numbered 0 pre
  LEN false a0 h0 fun v5 =>
  FADDR 0 a1 h0 fun v6 =>
  LOAD false 1 v6 h0 fun v7 =>
  LEN false v7 h0 fun v8 =>
  BIN 0 .neq v5 v8 fun v9 =>
  CONDG v9
  (POST (.d (.bool true)) h0 pre r post)
  (CALL P f_differ_isState [a0] 96 h0 (fun _ v12 h1 =>
  NOT v12 fun v13 =>
  POST v13 h1 pre r post)
  (fun _ _ _ => False))
theorem vc_differ_areFirsts_1_eq (g : GG) (pre : List ABlk) (a0 a1 : AV) (r : AV) (post : List PB) : vcFn2 (Tz g) false ann_differ_areFirsts_1 Tryz.f100 pre [a0, a1] (.ret r) post = vc_differ_areFirsts_1 (Tz g) pre a0 a1 r post := by kernel_rfl
theorem hf_differ_areFirsts_1 : Tryz.prog.funcs[f_differ_areFirsts_1]? = some Tryz.f100 := by kernel_rfl
theorem ok_differ_areFirsts_1 : fnVcOK Tryz.prog Tryz.f100 = true := by kernel_rfl
theorem nt_differ_areFirsts_1 : Nat.ble 2 Tryz.f100.ntmps = true := by kernel_rfl
theorem meetsH_differ_areFirsts_1 {g : GG} {pre : List ABlk} {a0 a1 : AV} {r : AV} {post : List PB} (hk : Nat.ble pre.length 24 = true) (h : vc_differ_areFirsts_1 (Tz g) pre a0 a1 r post) : MeetsH (Tz g) f_differ_areFirsts_1 pre [a0, a1] (.ret r) post :=
  meetsH_of_vc (C := Tz g) ann_differ_areFirsts_1 hf_differ_areFirsts_1 ok_differ_areFirsts_1 nt_differ_areFirsts_1 hk (pn := false) (Eq.mpr ((vcFn2_eq _ _ _ _ _ _ _ _).trans (vc_differ_areFirsts_1_eq g pre a0 a1 r post)) h)
theorem meets_differ_areFirsts_1 {g : GG} {a0 a1 : D} {r : Res} (h : vc_differ_areFirsts_1 (Tz g) [] (.d a0) (.d a1) r.val (r.bl.map .upd)) : Meets (Tz g) f_differ_areFirsts_1 [a0, a1] r := meetsH_differ_areFirsts_1 rfl h
def ann_slices_ContainsFunc_l_l_int_l_int : Nat → List Nat := fun n => match n with  | _ => []
def vc_slices_ContainsFunc_l_l_int_l_int (P : Ctx) (pre : List ABlk) (a0 a1 : AV) (r : AV) (post : List PB) : Prop :=
  let h0 : Heap := numbered 0 pre
  CALL P f_slices_IndexFunc_l_l_int_l_int [a0, a1] 48 h0 (fun _ v7 h1 =>
  BIN 0 .geq v7 (.d (.num .i64 0)) fun v8 =>
  POST v8 h1 pre r post)
  (fun _ _ _ => False)
theorem vc_slices_ContainsFunc_l_l_int_l_int_eq (g : GG) (pre : List ABlk) (a0 a1 : AV) (r : AV) (post : List PB) : vcFn2 (Tz g) false ann_slices_ContainsFunc_l_l_int_l_int Tryz.f99 pre [a0, a1] (.ret r) post = vc_slices_ContainsFunc_l_l_int_l_int (Tz g) pre a0 a1 r post := by kernel_rfl
theorem hf_slices_ContainsFunc_l_l_int_l_int : Tryz.prog.funcs[f_slices_ContainsFunc_l_l_int_l_int]? = some Tryz.f99 := by kernel_rfl
theorem ok_slices_ContainsFunc_l_l_int_l_int : fnVcOK Tryz.prog Tryz.f99 = true := by kernel_rfl
theorem nt_slices_ContainsFunc_l_l_int_l_int : Nat.ble 2 Tryz.f99.ntmps = true := by kernel_rfl
theorem meetsH_slices_ContainsFunc_l_l_int_l_int {g : GG} {pre : List ABlk} {a0 a1 : AV} {r : AV} {post : List PB} (hk : Nat.ble pre.length 24 = true) (h : vc_slices_ContainsFunc_l_l_int_l_int (Tz g) pre a0 a1 r post) : MeetsH (Tz g) f_slices_ContainsFunc_l_l_int_l_int pre [a0, a1] (.ret r) post :=
  meetsH_of_vc (C := Tz g) ann_slices_ContainsFunc_l_l_int_l_int hf_slices_ContainsFunc_l_l_int_l_int ok_slices_ContainsFunc_l_l_int_l_int nt_slices_ContainsFunc_l_l_int_l_int hk (pn := false) (Eq.mpr ((vcFn2_eq _ _ _ _ _ _ _ _).trans (vc_slices_ContainsFunc_l_l_int_l_int_eq g pre a0 a1 r post)) h)
theorem meets_slices_ContainsFunc_l_l_int_l_int {g : GG} {a0 a1 : D} {r : Res} (h : vc_slices_ContainsFunc_l_l_int_l_int (Tz g) [] (.d a0) (.d a1) r.val (r.bl.map .upd)) : Meets (Tz g) f_slices_ContainsFunc_l_l_int_l_int [a0, a1] r := meetsH_slices_ContainsFunc_l_l_int_l_int rfl h
def ann_slices_IndexFunc_l_l_int_l_int : Nat → List Nat := fun n => match n with | 2 => [0, 1, 7, 8] | _ => []
def vc_slices_IndexFunc_l_l_int_l_int_k0 (P : Ctx) (pre : List ABlk) (r : AV) (post : List PB) (vs0 : List AV) (h2 : Heap) (next9 : List AV → Heap → Prop) : Prop :=
  BIN 0 .lss (nth vs0 3) (nth vs0 2) fun v1 =>
  COND v1
  (IADDR 1 T_l_int (nth vs0 0) (nth vs0 3) h2 fun v3 =>
  LOAD false 1 v3 h2 fun v4 =>
  CALLV P (nth vs0 1) [v4] 128 h2 (fun _ v6 h7 =>
  COND v6
  (POST (nth vs0 3) h7 pre r post)
  (BIN 0 .add (nth vs0 3) (.d (.num .i64 1)) fun v8 =>
  next9 [(nth vs0 0), (nth vs0 1), (nth vs0 2), v8] h7))
  (fun _ _ _ => False))
  (POST (.d (.num .i64 (-1))) h2 pre r post)
def vc_slices_IndexFunc_l_l_int_l_int (P : Ctx) (pre : List ABlk) (a0 a1 : AV) (r : AV) (post : List PB) : Prop :=
  let h0 : Heap := numbered 0 pre
  LEN false a0 h0 fun v7 =>
  LOOP [a0, a1, v7, (.d (.num .i64 0))] h0 56 fun vs1 h2 next1 =>
  vc_slices_IndexFunc_l_l_int_l_int_k0 P pre r post vs1 h2 next1
theorem vc_slices_IndexFunc_l_l_int_l_int_eq (g : GG) (pre : List ABlk) (a0 a1 : AV) (r : AV) (post : List PB) : vcFn2 (Tz g) false ann_slices_IndexFunc_l_l_int_l_int Tryz.f121 pre [a0, a1] (.ret r) post = vc_slices_IndexFunc_l_l_int_l_int (Tz g) pre a0 a1 r post := by kernel_rfl
theorem hf_slices_IndexFunc_l_l_int_l_int : Tryz.prog.funcs[f_slices_IndexFunc_l_l_int_l_int]? = some Tryz.f121 := by kernel_rfl
theorem ok_slices_IndexFunc_l_l_int_l_int : fnVcOK Tryz.prog Tryz.f121 = true := by kernel_rfl
theorem nt_slices_IndexFunc_l_l_int_l_int : Nat.ble 2 Tryz.f121.ntmps = true := by kernel_rfl
theorem meetsH_slices_IndexFunc_l_l_int_l_int {g : GG} {pre : List ABlk} {a0 a1 : AV} {r : AV} {post : List PB} (hk : Nat.ble pre.length 24 = true) (h : vc_slices_IndexFunc_l_l_int_l_int (Tz g) pre a0 a1 r post) : MeetsH (Tz g) f_slices_IndexFunc_l_l_int_l_int pre [a0, a1] (.ret r) post :=
  meetsH_of_vc (C := Tz g) ann_slices_IndexFunc_l_l_int_l_int hf_slices_IndexFunc_l_l_int_l_int ok_slices_IndexFunc_l_l_int_l_int nt_slices_IndexFunc_l_l_int_l_int hk (pn := false) (Eq.mpr ((vcFn2_eq _ _ _ _ _ _ _ _).trans (vc_slices_IndexFunc_l_l_int_l_int_eq g pre a0 a1 r post)) h)
theorem meets_slices_IndexFunc_l_l_int_l_int {g : GG} {a0 a1 : D} {r : Res} (h : vc_slices_IndexFunc_l_l_int_l_int (Tz g) [] (.d a0) (.d a1) r.val (r.bl.map .upd)) : Meets (Tz g) f_slices_IndexFunc_l_l_int_l_int [a0, a1] r := meetsH_slices_IndexFunc_l_l_int_l_int rfl h
def ann_slices_Equal_l_int_int : Nat → List Nat := fun n => match n with | 4 => [0, 1, 12, 13] | _ => []
def vc_slices_Equal_l_int_int_k0 (P : Ctx) (pre : List ABlk) (r : AV) (post : List PB) (vs0 : List AV) (h2 : Heap) (next9 : List AV → Heap → Prop) : Prop :=
  BIN 0 .lss (nth vs0 3) (nth vs0 2) fun v1 =>
  COND v1
  (IADDR 1 T_int (nth vs0 0) (nth vs0 3) h2 fun v3 =>
  LOAD false 1 v3 h2 fun v4 =>
  IADDR 1 T_int (nth vs0 1) (nth vs0 3) h2 fun v5 =>
  LOAD false 1 v5 h2 fun v6 =>
  BIN 0 .neq v4 v6 fun v7 =>
  ORDX [] [0, 0, 3, 7, 0, 0, 48, 112, 255] [(2, wr h2 h2, (ids (nth vs0 0))), (3, wr h2 h2, (ids v3)), (6, wr h2 h2, (ids (nth vs0 1))), (7, wr h2 h2, (ids v5))] ∧
  COND v7
  (POST (.d (.bool false)) h2 pre r post)
  (BIN 0 .add (nth vs0 3) (.d (.num .i64 1)) fun v8 =>
  next9 [(nth vs0 0), (nth vs0 1), (nth vs0 2), v8] h2))
  (POST (.d (.bool true)) h2 pre r post)
def vc_slices_Equal_l_int_int (P : Ctx) (pre : List ABlk) (a0 a1 : AV) (r : AV) (post : List PB) : Prop :=
  let h0 : Heap := numbered 0 pre
  LEN false a0 h0 fun v7 =>
  LEN false a1 h0 fun v9 =>
  BIN 0 .neq v7 v9 fun v10 =>
  COND v10
  (POST (.d (.bool false)) h0 pre r post)
  (LEN false a0 h0 fun v12 =>
  LOOP [a0, a1, v12, (.d (.num .i64 0))] h0 96 fun vs1 h2 next1 =>
  vc_slices_Equal_l_int_int_k0 P pre r post vs1 h2 next1)
theorem vc_slices_Equal_l_int_int_eq (g : GG) (pre : List ABlk) (a0 a1 : AV) (r : AV) (post : List PB) : vcFn2 (Tz g) false ann_slices_Equal_l_int_int Tryz.f62 pre [a0, a1] (.ret r) post = vc_slices_Equal_l_int_int (Tz g) pre a0 a1 r post := by kernel_rfl
theorem hf_slices_Equal_l_int_int : Tryz.prog.funcs[f_slices_Equal_l_int_int]? = some Tryz.f62 := by kernel_rfl
theorem ok_slices_Equal_l_int_int : fnVcOK Tryz.prog Tryz.f62 = true := by kernel_rfl
theorem nt_slices_Equal_l_int_int : Nat.ble 2 Tryz.f62.ntmps = true := by kernel_rfl
theorem meetsH_slices_Equal_l_int_int {g : GG} {pre : List ABlk} {a0 a1 : AV} {r : AV} {post : List PB} (hk : Nat.ble pre.length 24 = true) (h : vc_slices_Equal_l_int_int (Tz g) pre a0 a1 r post) : MeetsH (Tz g) f_slices_Equal_l_int_int pre [a0, a1] (.ret r) post :=
  meetsH_of_vc (C := Tz g) ann_slices_Equal_l_int_int hf_slices_Equal_l_int_int ok_slices_Equal_l_int_int nt_slices_Equal_l_int_int hk (pn := false) (Eq.mpr ((vcFn2_eq _ _ _ _ _ _ _ _).trans (vc_slices_Equal_l_int_int_eq g pre a0 a1 r post)) h)
theorem meets_slices_Equal_l_int_int {g : GG} {a0 a1 : D} {r : Res} (h : vc_slices_Equal_l_int_int (Tz g) [] (.d a0) (.d a1) r.val (r.bl.map .upd)) : Meets (Tz g) f_slices_Equal_l_int_int [a0, a1] r := meetsH_slices_Equal_l_int_int rfl h
def ann_differ_Joins : Nat → List Nat := fun n => match n with | 5 => [1, 2, 8, 28, 29] | _ => []
def vc_differ_Joins_k0 (P : Ctx) (pre : List ABlk) (r : AV) (post : List PB) (v0 : AV) (h2 : Heap) (vs3 : List AV) (v4 : AV) (h5 : Heap) (rd6 : List Nat) (v7 : AV) (h8 : Heap) (rd9 : List Nat) (next15 : List AV → Heap → Prop) : Prop :=
  NOT v0 fun v1 =>
  ORDX [] [0, 1, 3, 7, 7, 23, 63, 127, 7, 511, 7, 7, 3079, 7175, 16383, 32767, 65535] [(6, wr h2 h2, (ids (nth vs3 0))), (7, wr h2 h2, (ids v4)), (9, wr h2 h5, rd6), (12, wr h5 h5, (ids (nth vs3 0))), (13, wr h5 h5, (ids v7)), (14, wr h5 h8, rd9)] ∧
  COND v1
  (MKS T_int 1 [(nth vs3 4)] 400 h8 fun v10 h11 =>
  APP T_int 1 (nth vs3 2) v10 408 h11 fun v12 h13 =>
  BIN 0 .add (nth vs3 4) (.d (.num .i64 1)) fun v14 =>
  next15 [(nth vs3 0), (nth vs3 1), v12, (nth vs3 3), v14] h13)
  (BIN 0 .add (nth vs3 4) (.d (.num .i64 1)) fun v14 =>
  next15 [(nth vs3 0), (nth vs3 1), (nth vs3 2), (nth vs3 3), v14] h8)
def vc_differ_Joins_k1 (P : Ctx) (pre : List ABlk) (r : AV) (post : List PB) (vs0 : List AV) (h4 : Heap) (next15 : List AV → Heap → Prop) : Prop :=
  BIN 0 .lss (nth vs0 4) (nth vs0 3) fun v1 =>
  COND v1
  (BIN 0 .gtr (nth vs0 4) (.d (.num .i64 0)) fun v2 =>
  CONDG v2
  (BIN 0 .sub (nth vs0 4) (.d (.num .i64 1)) fun v3 =>
  IADDR 1 T_l_int (nth vs0 0) v3 h4 fun v5 =>
  LOAD false 1 v5 h4 fun v6 =>
  CALL P f_differ_after [v6, (nth vs0 1)] 320 h4 (fun rd7 v8 h9 =>
  IADDR 1 T_l_int (nth vs0 0) (nth vs0 4) h9 fun v10 =>
  LOAD false 1 v10 h9 fun v11 =>
  CALL P f_slices_Equal_l_int_int [v8, v11] 360 h9 (fun rd12 v13 h14 =>
  vc_differ_Joins_k0 P pre r post v13 h4 vs0 v5 h9 rd7 v10 h14 rd12 next15)
  (fun _ _ _ => False))
  (fun _ _ _ => False))
  (ORDX [] [0, 1, 3, 7, 7, 23, 63, 127, 7, 511, 7, 7, 3079, 7175, 16383, 32767, 65535] [] ∧
  BIN 0 .add (nth vs0 4) (.d (.num .i64 1)) fun v16 =>
  next15 [(nth vs0 0), (nth vs0 1), (nth vs0 2), (nth vs0 3), v16] h4))
  (POST (.tup [(nth vs0 2), (.d (.num .i64 0))]) h4 pre r post)
def vc_differ_Joins_k2 (P : Ctx) (pre : List ABlk) (r : AV) (post : List PB) (v0 : AV) (h2 : Heap) (v3 : AV) (a5 : AV) (a6 : AV) : Prop :=
  NOT v0 fun v1 =>
  CONDG v1
  (POST (.tup [.zc, (.d (.num .i64 2))]) h2 pre r post)
  (LOAD true 3 v3 h2 fun v4 =>
  CALL P f_differ_areFirsts [v4, a5, a6] 160 h2 (fun _ v8 h9 =>
  NOT v8 fun v10 =>
  COND v10
  (POST (.tup [.zc, (.d (.num .i64 2))]) h9 pre r post)
  (LEN false a5 h9 fun v11 =>
  LOOP [a5, a6, .zc, v11, (.d (.num .i64 0))] h9 216 fun vs12 h13 next14 =>
  vc_differ_Joins_k1 P pre r post vs12 h13 next14))
  (fun _ _ _ => False))
def vc_differ_Joins (P : Ctx) (pre : List ABlk) (a0 a1 a2 : AV) (r : AV) (post : List PB) : Prop :=
  let h0 : Heap := numbered 0 pre
  BOX T_api_DifferPlan a0 24 h0 fun v3 h1 =>
  LOAD true 3 v3 h1 fun v10 =>
  CALL P f_differ_isPlan [v10] 56 h1 (fun _ v11 h2 =>
  NOT v11 fun v12 =>
  CONDG v12
  (POST (.tup [.zc, (.d (.num .i64 2))]) h2 pre r post)
  (FADDR 1 v3 h2 fun v15 =>
  LOAD false 1 v15 h2 fun v16 =>
  CALL P f_differ_in [a2, (.d (.num .i64 1)), v16] 104 h2 (fun _ v17 h4 =>
  vc_differ_Joins_k2 P pre r post v17 h4 v3 a1 a2)
  (fun _ _ _ => False)))
  (fun _ _ _ => False)
theorem vc_differ_Joins_eq (g : GG) (pre : List ABlk) (a0 a1 a2 : AV) (r : AV) (post : List PB) : vcFn2 (Tz g) false ann_differ_Joins Tryz.f17 pre [a0, a1, a2] (.ret r) post = vc_differ_Joins (Tz g) pre a0 a1 a2 r post := by kernel_rfl
theorem hf_differ_Joins : Tryz.prog.funcs[f_differ_Joins]? = some Tryz.f17 := by kernel_rfl
theorem ok_differ_Joins : fnVcOK Tryz.prog Tryz.f17 = true := by kernel_rfl
theorem nt_differ_Joins : Nat.ble 3 Tryz.f17.ntmps = true := by kernel_rfl
theorem meetsH_differ_Joins {g : GG} {pre : List ABlk} {a0 a1 a2 : AV} {r : AV} {post : List PB} (hk : Nat.ble pre.length 24 = true) (h : vc_differ_Joins (Tz g) pre a0 a1 a2 r post) : MeetsH (Tz g) f_differ_Joins pre [a0, a1, a2] (.ret r) post :=
  meetsH_of_vc (C := Tz g) ann_differ_Joins hf_differ_Joins ok_differ_Joins nt_differ_Joins hk (pn := false) (Eq.mpr ((vcFn2_eq _ _ _ _ _ _ _ _).trans (vc_differ_Joins_eq g pre a0 a1 a2 r post)) h)
theorem meets_differ_Joins {g : GG} {a0 a1 a2 : D} {r : Res} (h : vc_differ_Joins (Tz g) [] (.d a0) (.d a1) (.d a2) r.val (r.bl.map .upd)) : Meets (Tz g) f_differ_Joins [a0, a1, a2] r := meetsH_differ_Joins rfl h
def ann_ref01_SameLists : Nat → List Nat := fun n => match n with | 4 => [0, 1, 5] | _ => []
def vc_ref01_SameLists_k0 (P : Ctx) (pre : List ABlk) (r : AV) (post : List PB) (vs0 : List AV) (h1 : Heap) (next13 : List AV → Heap → Prop) : Prop :=
  LEN false (nth vs0 0) h1 fun v2 =>
  BIN 0 .lss (nth vs0 2) v2 fun v3 =>
  COND v3
  (IADDR 1 T_l_int (nth vs0 0) (nth vs0 2) h1 fun v4 =>
  LOAD false 1 v4 h1 fun v5 =>
  IADDR 1 T_l_int (nth vs0 1) (nth vs0 2) h1 fun v6 =>
  LOAD false 1 v6 h1 fun v7 =>
  CALL P f_ref01_Same [v5, v7] 184 h1 (fun rd8 v9 h10 =>
  NOT v9 fun v11 =>
  ORDX [] [0, 0, 3, 7, 0, 0, 48, 112, 255, 511] [(2, wr h1 h1, (ids (nth vs0 0))), (3, wr h1 h1, (ids v4)), (6, wr h1 h1, (ids (nth vs0 1))), (7, wr h1 h1, (ids v6)), (8, wr h1 h10, rd8)] ∧
  COND v11
  (POST (.d (.bool false)) h10 pre r post)
  (BIN 0 .add (nth vs0 2) (.d (.num .i64 1)) fun v12 =>
  next13 [(nth vs0 0), (nth vs0 1), v12] h10))
  (fun _ _ _ => False))
  (POST (.d (.bool true)) h1 pre r post)
def vc_ref01_SameLists (P : Ctx) (pre : List ABlk) (a0 a1 : AV) (r : AV) (post : List PB) : Prop :=
  let h0 : Heap := numbered 0 pre
  LEN false a0 h0 fun v7 =>
  LEN false a1 h0 fun v9 =>
  BIN 0 .neq v7 v9 fun v10 =>
  COND v10
  (POST (.d (.bool false)) h0 pre r post)
  (LOOP [a0, a1, (.d (.num .i64 0))] h0 80 fun vs1 h2 next1 =>
  vc_ref01_SameLists_k0 P pre r post vs1 h2 next1)
theorem vc_ref01_SameLists_eq (g : GG) (pre : List ABlk) (a0 a1 : AV) (r : AV) (post : List PB) : vcFn2 (Tz g) false ann_ref01_SameLists Tryz.f56 pre [a0, a1] (.ret r) post = vc_ref01_SameLists (Tz g) pre a0 a1 r post := by kernel_rfl
theorem hf_ref01_SameLists : Tryz.prog.funcs[f_ref01_SameLists]? = some Tryz.f56 := by kernel_rfl
theorem ok_ref01_SameLists : fnVcOK Tryz.prog Tryz.f56 = true := by kernel_rfl
theorem nt_ref01_SameLists : Nat.ble 2 Tryz.f56.ntmps = true := by kernel_rfl
theorem meetsH_ref01_SameLists {g : GG} {pre : List ABlk} {a0 a1 : AV} {r : AV} {post : List PB} (hk : Nat.ble pre.length 24 = true) (h : vc_ref01_SameLists (Tz g) pre a0 a1 r post) : MeetsH (Tz g) f_ref01_SameLists pre [a0, a1] (.ret r) post :=
  meetsH_of_vc (C := Tz g) ann_ref01_SameLists hf_ref01_SameLists ok_ref01_SameLists nt_ref01_SameLists hk (pn := false) (Eq.mpr ((vcFn2_eq _ _ _ _ _ _ _ _).trans (vc_ref01_SameLists_eq g pre a0 a1 r post)) h)
theorem meets_ref01_SameLists {g : GG} {a0 a1 : D} {r : Res} (h : vc_ref01_SameLists (Tz g) [] (.d a0) (.d a1) r.val (r.bl.map .upd)) : Meets (Tz g) f_ref01_SameLists [a0, a1] r := meetsH_ref01_SameLists rfl h
end Go.Vc

namespace Go.Vc
open Go Go.Proofs
variable {g : GG}
attribute [local simp] and_assoc
def listsD (ls : List (List Int)) : D := .list (ls.map ints)
@[local simp] theorem ints_cells (l : List Int) : (ints l).cells = [ints l] := rfl
theorem ref01_Size_meets (p : Plan) (n : Int) : Meets (Tz g) f_ref01_Size [p.d, int n] ⟨.d (.bool (inB n 1 p.rows)), []⟩ := by
  refine meets_ref01_Size ?_
  unfold vc_ref01_Size
  simp [Plan.d, spans]
  refine CALL.val _ _ rfl (ref01_in_meets _ _ _) (.inl rfl) ?_
  simp
set_option maxHeartbeats 1000000 in
theorem ref01_At_meets (t : List Int) (row : Nat) (hr : row ≤ 12) (hl : t.length ≤ 6) (hb : ∀ x, x ∈ t → -1000000000 ≤ x ∧ x ≤ 1000000000) : Meets (Tz g) f_ref01_At [ints t, int row] ⟨.own 0 0, [⟨0, T_int, .lst ((afterL row t).map int)⟩]⟩ := by
  have hal := afterL_length t row
  refine meets_ref01_At ?_
  unfold vc_ref01_At
  simp [ints]
  refine LOOP.mk Nat (fun i => [.d (ints t), .d (int row), .own 48 i, .d (int i)]) (fun i => [(48, some ⟨i, T_int, .lst (((afterL row t).map int).take i)⟩)]) (fun i => i ≤ t.length) (fun i => t.length - i) [(2, T_int)] (by simp) 0 (by omega) (by simp [WEAK, ints]) (fun _ _ => rfl) ?_
  intro i hi
  simp [ints]
  constructor
  · intro hlt
    have hat := after_at t row i hlt
    refine LOOP.mk Nat (fun k => [.d (ints t), .d (int row), .own 48 i, .d (int i), .d (int (valL ((t.drop i).take k) row 0)), .d (int ((i + k : Nat) : Int))]) (fun k => [(48, some ⟨i, T_int, .lst (((afterL row t).map int).take i)⟩)]) (fun k => i + k ≤ t.length) (fun k => t.length - k) [] (by simp) 0 (by omega) (by simp [WEAK, ints, valL]) (fun _ _ => rfl) ?_
    intro k hk
    simp [vc_ref01_At_k0, ints]
    constructor
    · intro hlt2
      have hlt2 : i + k < t.length := by omega
      have hg : t[i + k]? = some t[i + k] := List.getElem?_eq_getElem hlt2
      have hbk := hb t[i + k] (List.getElem_mem _)
      have e1 : ((i : Int) + (k : Int)).toNat = i + k := by omega
      have hd : (t.drop i)[k]? = some t[i + k] := by rw [List.getElem?_drop]; exact hg
      generalize t[i + k] = x at hg hbk hd
      simp [e1, hg]
      rw [show ((i : Int) + (k : Int) - (i : Int)) = (k : Int) by omega, wrap_id (n := (k : Int)) (by omega) (by omega)]
      refine ⟨by omega, ?_⟩
      refine CALL.val [int row, int k] _ rfl (ref01_Choose_meets row hr k (by omega)) (.inl rfl) ?_
      have h2 := (ch_facts row (by omega) k (by omega)).1
      have h3 := mul_bound x (ch row k : Int) hbk.1 hbk.2 (by omega) (by omega)
      have hlk : ((t.drop i).take k).length = k := by simp; omega
      have h4 := valL_bound row hr ((t.drop i).take k) 0 (fun y hy => hb y (List.mem_of_mem_drop (List.mem_of_mem_take hy))) (by omega)
      rw [hlk] at h4
      have h6 := valL_append ((t.drop i).take k) x row 0
      rw [hlk, Nat.zero_add] at h6
      have h8 : valL ((t.drop i).take (k + 1)) row 0 = valL ((t.drop i).take k) row 0 + x * (ch row k : Int) := by rw [take_next hd, h6]
      simp
      rw [wrap_id (n := x * (ch row k : Int)) (by omega) (by omega), wrap_id (n := valL ((t.drop i).take k) row 0 + x * (ch row k : Int)) (by omega) (by omega), wrap_id (n := (i : Int) + (k : Int) + 1) (by omega) (by omega)]
      exact ⟨rfl, k + 1, by omega, by simp [WEAK, h8]; omega, by omega⟩
    · intro hge
      have hk2 : i + k = t.length := by omega
      have hv : valL ((t.drop i).take k) row 0 = valL (t.drop i) row 0 := by rw [take_all (by simp; omega)]
      have h7 := take_next (L := (afterL row t).map int) (k := i) (x := int (valL (t.drop i) row 0)) (by simp [hat])
      rw [hv, wrap_id (n := (i : Int) + 1) (by omega) (by omega)]
      refine ⟨by omega, i + 1, by omega, ?_, by omega⟩
      simp [WEAK]
      rw [h7]
  · intro hge
    have : i = t.length := by omega
    subst this
    exact take_all (by simp [hal])
def sheetsN (n s : Nat) : Nat := (n + s - 1) / s
theorem sheets_lt (n s i : Nat) (hs : 1 ≤ s) : i < sheetsN n s ↔ i * s < n := by
  unfold sheetsN
  rw [Nat.lt_div_iff_mul_lt (by omega)]
  omega
theorem sheets_le (n s : Nat) (hs : 1 ≤ s) : sheetsN n s ≤ n := by
  refine Classical.byContradiction fun h => ?_
  have h1 := (sheets_lt n s n hs).1 (by omega)
  have h2 : n * 1 ≤ n * s := Nat.mul_le_mul_left n hs
  omega
def cutL (t : List Int) (n s : Nat) : List (List Int) := (List.range (sheetsN n s)).map fun i => afterL (i * s) t
theorem cutL_len (t : List Int) (n s : Nat) : (cutL t n s).length = sheetsN n s := by simp [cutL]
set_option maxHeartbeats 1000000 in
theorem differ_Cut_ok (p : Plan) (t : List Int) (n s : Nat) (h1 : p.ok = true) (h2 : within p.starts t = true) (hn : p.rows = n) (hs : 1 ≤ s) (hsn : s ≤ n) :
    Meets (Tz g) f_differ_Cut [p.d, ints t, int s] ⟨.tup [.own 0 0, .d (int 0)], [⟨0, T_l_int, .lst ((cutL t n s).map ints)⟩]⟩ := by
  obtain ⟨a1, a2, a3, a4, a5⟩ := Plan.ok_len h1
  have hlen := within_length h2
  have hib : inB (s : Int) 1 p.rows = true := by simp [inB]; omega
  have hbd : ∀ x, x ∈ t → -1000000000 ≤ x ∧ x ≤ 1000000000 := fun x hx => by have := within_bound a5 h2 x hx; omega
  have hsh := sheets_le n s hs
  refine meets_differ_Cut ?_
  unfold vc_differ_Cut
  simp [Plan.d, spans]
  refine CALL.val [p.d] _ rfl (differ_isPlan_meets p (by omega)) (.inl rfl) ?_
  simp [h1, vc_differ_Cut_k2]
  refine CALL.val [p.d, ints t] _ rfl (differ_isTruth_meets p t (by omega) (by omega)) (.inl rfl) ?_
  simp [h2]
  refine CALL.val _ _ rfl (differ_in_meets _ _ _) (.inl rfl) ?_
  simp [hib, vc_differ_Cut_k1]
  refine LOOP.mk Nat (fun k => [.d (int s), .ptr 24 0 0 0, .ptr 200 0 0 0, .own 232 k, .d (int ((k * s : Nat) : Int))]) (fun k => [(232, some ⟨k, T_l_int, .lst (((cutL t n s).map ints).take k)⟩), (200, some ⟨0, T_differ_table, .box [.d (spans p.starts), .d (int p.rows), .d (int p.guard), .d (ints t)]⟩), (24, some ⟨0, T_api_DifferPlan, .box [.d (spans p.starts), .d (int n), .d (int p.guard)]⟩)]) (fun k => k ≤ sheetsN n s) (fun k => sheetsN n s - k) [(3, T_l_int)] (by simp) 0 (by omega) (by simp [WEAK, spans, ints, hn]) (fun _ _ => rfl) ?_
  intro k hk
  have hlt' := sheets_lt n s k hs
  have hks : ((k * s : Nat) : Int) = (k : Int) * (s : Int) := by simp
  simp [vc_differ_Cut_k0]
  constructor
  · intro hlt
    have hlt2 : k < sheetsN n s := hlt'.2 (by omega)
    have hgk : (cutL t n s)[k]? = some (afterL (k * s) t) := by simp [cutL, hlt2]
    have h7 := take_next (L := (cutL t n s).map ints) (k := k) (x := ints (afterL (k * s) t)) (by simp [hgk])
    refine CALL.mk [tabD p t, int ((k * s : Nat) : Int)] _ (by simp [tabD, spans, ints]) (differ_state_meets p t (k * s) (by omega) (by omega) (by omega) hbd) (.inl rfl) (by simp) ?_
    have hk1 : (((k + 1) * s : Nat) : Int) = (k : Int) * (s : Int) + (s : Int) := by rw [Nat.succ_mul]; simp
    simp
    rw [wrap_id (n := (k : Int) * (s : Int) + (s : Int)) (by omega) (by omega)]
    refine ⟨by omega, k + 1, by omega, ?_, by omega⟩
    simp [WEAK, Int.add_mul]
    rw [h7]
    simp [ints]
  · intro hge
    have : k = sheetsN n s := by
      have : ¬ k < sheetsN n s := fun h => by have := hlt'.1 h; omega
      omega
    subst this
    exact take_all (by simp [cutL_len])
theorem differ_Cut_bad (p : Plan) (t : List Int) (s : Int) (hl : p.starts.length ≤ 1000) (hl2 : t.length ≤ 1000) (h : (p.ok && (within p.starts t && inB s 1 p.rows)) = false) : Meets (Tz g) f_differ_Cut [p.d, ints t, int s] ⟨.tup [.d (.list []), .d (int 2)], []⟩ := by
  refine meets_differ_Cut ?_
  unfold vc_differ_Cut
  simp [Plan.d, spans]
  refine CALL.val [p.d] _ rfl (differ_isPlan_meets p hl) (.inl rfl) ?_
  simp [vc_differ_Cut_k2]
  intro h1
  refine CALL.val [p.d, ints t] _ rfl (differ_isTruth_meets p t hl hl2) (.inl rfl) ?_
  simp
  intro h2
  refine CALL.val _ _ rfl (differ_in_meets _ _ _) (.inl rfl) ?_
  simp [h1, h2] at h
  simp [h, vc_differ_Cut_k1]
def fewB (ls : List (List Int)) : Bool := decide (ls.length ≤ 14) && ls.all fun l => decide (l.length ≤ 6)
def allFrom (q : List Int → Bool) (ls : List (List Int)) (k : Nat) : Bool := (ls.drop k).all q
theorem allFrom_step (q : List Int → Bool) (ls : List (List Int)) (k : Nat) (l : List Int) (h : ls[k]? = some l) : allFrom q ls k = (q l && allFrom q ls (k + 1)) := by
  have l1 := (List.getElem?_eq_some_iff.1 h).1
  rw [List.getElem?_eq_getElem l1] at h
  unfold allFrom
  rw [List.drop_eq_getElem_cons l1, Option.some.inj h]
  rfl
def firstsB (p : Plan) (ls : List (List Int)) (s : Int) : Bool := decide ((ls.length : Int) = (p.rows + s - 1).tdiv s) && ls.all fun l => decide (l.length = p.starts.length) && stateB l
theorem areFirsts_1_meets (p : Plan) (l : List Int) : Meets (Tz g) f_differ_areFirsts_1 [ints l, planC p] ⟨.d (.bool (!(decide (l.length = p.starts.length) && stateB l))), []⟩ := by
  refine meets_differ_areFirsts_1 ?_
  unfold vc_differ_areFirsts_1
  simp [ints, planC, spans]
  constructor
  · intro h
    have : ¬ l.length = p.starts.length := by omega
    simp [this]
  · intro h
    have : l.length = p.starts.length := by omega
    refine CALL.val [ints l] _ rfl (differ_isState_meets l) (.inl rfl) ?_
    simp [this]
theorem index_lists_meets (ls : List (List Int)) (f : FuncId) (c : D) (q : List Int → Bool) (hf : ∀ l, Meets (Tz g) f [ints l, c] ⟨.d (.bool (q l)), []⟩) (hl : ls.length ≤ 1000) : Meets (Tz g) f_slices_IndexFunc_l_l_int_l_int [listsD ls, .fn f [] [c]] ⟨.d (int (idx q ls 0)), []⟩ := by
  refine meets_slices_IndexFunc_l_l_int_l_int ?_
  unfold vc_slices_IndexFunc_l_l_int_l_int
  simp [listsD]
  refine LOOP.mk Nat (fun k => [.d (listsD ls), .d (.fn f [] [c]), .d (int ls.length), .d (int k)]) (fun _ => []) (fun k => k ≤ ls.length ∧ idx q ls 0 = idx q (ls.drop k) k) (fun k => ls.length - k) [] (by simp) 0 (by simp) (by simp [WEAK, listsD]) (fun _ _ => rfl) ?_
  rintro k ⟨hk, he⟩
  simp [vc_slices_IndexFunc_l_l_int_l_int_k0, listsD]
  constructor
  · intro hlt
    have hg : ls[k]? = some ls[k] := List.getElem?_eq_getElem hlt
    generalize ls[k] = l at hg
    simp [hg]
    refine CALL.val [ints l, c] _ rfl (hf l) (.inl rfl) ?_
    rw [idx_drop q ls k _ hg] at he
    simp
    constructor
    · intro hq
      simp [hq] at he
      exact he.symm
    · intro hq
      simp [hq] at he
      rw [wrap_id (by omega) (by omega)]
      exact ⟨k + 1, by omega, by simpa using he, by simp [WEAK], by omega⟩
  · intro hge
    have : k = ls.length := by omega
    subst this
    simp [idx] at he
    exact he.symm
theorem contains_lists_meets (ls : List (List Int)) (f : FuncId) (c : D) (q : List Int → Bool) (hf : ∀ l, Meets (Tz g) f [ints l, c] ⟨.d (.bool (q l)), []⟩) (hl : ls.length ≤ 1000) : Meets (Tz g) f_slices_ContainsFunc_l_l_int_l_int [listsD ls, .fn f [] [c]] ⟨.d (.bool (ls.any q)), []⟩ := by
  refine meets_slices_ContainsFunc_l_l_int_l_int ?_
  unfold vc_slices_ContainsFunc_l_l_int_l_int
  refine CALL.val _ _ rfl (index_lists_meets ls f c q hf hl) (.inl rfl) ?_
  simp [← idx_any q ls 0 (by omega)]
theorem any_not_l (ls : List (List Int)) (q : List Int → Bool) : (!ls.any fun n => !q n) = ls.all q := by
  induction ls with
  | nil => rfl
  | cons s r ih => simp only [List.any_cons, List.all_cons, ← ih]; cases q s <;> simp
theorem differ_areFirsts_meets (p : Plan) (ls : List (List Int)) (s : Int) (hok : p.ok = true) (hs : 1 ≤ s ∧ s ≤ 12) (hl : ls.length ≤ 1000) : Meets (Tz g) f_differ_areFirsts [p.d, listsD ls, int s] ⟨.d (.bool (firstsB p ls s)), []⟩ := by
  obtain ⟨a1, a2, a3, a4, a5⟩ := Plan.ok_len hok
  have hs0 : ¬ s = 0 := by omega
  have htd : 0 ≤ (p.rows + s - 1).tdiv s ∧ (p.rows + s - 1).tdiv s ≤ 24 := by
    rw [Int.tdiv_eq_ediv_of_nonneg (by omega)]
    refine ⟨Int.ediv_nonneg (by omega) (by omega), ?_⟩
    have := Int.ediv_le_self s (show 0 ≤ p.rows + s - 1 by omega)
    omega
  refine meets_differ_areFirsts ?_
  unfold vc_differ_areFirsts
  simp [Plan.d, spans, listsD]
  rw [wrap_id (n := p.rows + s) (by omega) (by omega), wrap_id (n := p.rows + s - 1) (by omega) (by omega)]
  simp [hs0]
  rw [wrap_id (n := (p.rows + s - 1).tdiv s) (by omega) (by omega)]
  constructor
  · intro h
    refine CALL.val [listsD ls, .fn f_differ_areFirsts_1 [] [planC p]] _ (by simp [listsD, planC, spans]) (contains_lists_meets ls _ (planC p) _ (areFirsts_1_meets p) hl) (.inr rfl) ?_
    simp only [firstsB, h]
    rw [← any_not_l]
    simp
  · intro h
    simp [firstsB, h]
end Go.Vc
