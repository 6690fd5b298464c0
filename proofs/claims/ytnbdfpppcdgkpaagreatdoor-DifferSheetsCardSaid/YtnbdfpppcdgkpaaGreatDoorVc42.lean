/- A part of the proof: general laws of a reading of the model by abstract data, or contracts of the functions that the law calls. -/
import Derived.Test.YtnbdfpppcdgkpaaGreatDoorVc27
import Derived.Test.YtnbdfpppcdgkpaaGreatDoorVc15
import Derived.Test.YtnbdfpppcdgkpaaGreatDoorVc41
import Derived.Test.YtnbdfpppcdgkpaaGreatDoorVc37
import Derived.Test.YtnbdfpppcdgkpaaGreatDoorVc25
set_option maxRecDepth 100000
namespace Go.Vc
open Go Go.Proofs Go.RowKit
def ann_differ_Cut : Nat → List Nat := fun n => match n with | 6 => [2, 3, 8, 9, 10] | _ => []
def vc_differ_Cut_k0 (P : Ctx) (pre : List ABlk) (r : AV) (post : List PB) (vs0 : List AV) (h1 : Heap) (next14 : List AV → Heap → Prop) : Prop :=
  FADDR 1 (nth vs0 1) h1 fun v2 =>
  LOAD false 1 v2 h1 fun v3 =>
  BIN 0 .lss (nth vs0 4) v3 fun v4 =>
  COND v4
  (LOAD true 4 (nth vs0 2) h1 fun v5 =>
  CALL P f_differ_table_state [v5, (nth vs0 4)] 296 h1 (fun _ v7 h8 =>
  MKSX true T_l_int 1 [v7] 304 h8 fun v9 h10 =>
  APPX true T_l_int 1 (nth vs0 3) v9 312 h10 fun v11 h12 =>
  BIN 0 .add (nth vs0 4) (nth vs0 0) fun v13 =>
  next14 [(nth vs0 0), (nth vs0 1), (nth vs0 2), v11, v13] h12)
  (fun _ _ _ => False))
  (POST (.tup [(nth vs0 3), (.d (.num .i64 0))]) h1 pre r post)
def vc_differ_Cut_k1 (P : Ctx) (pre : List ABlk) (r : AV) (post : List PB) (v0 : AV) (h2 : Heap) (v3 : AV) (a5 : AV) (a10 : AV) : Prop :=
  NOT v0 fun v1 =>
  COND v1
  (POST (.tup [.zc, (.d (.num .i64 2))]) h2 pre r post)
  (LOAD true 3 v3 h2 fun v4 =>
  BUILD [(0, 3), (3, 1)] [.zc, .d (.num .i64 0), .d (.num .i64 0), .zc] [(0, v4), (1, a5)] fun v6 =>
  ALLOC T_differ_table [.zc, .d (.num .i64 0), .d (.num .i64 0), .zc] 200 h2 fun v7 h8 =>
  STORE 4 v7 v6 h8 fun h9 =>
  LOOP [a10, v3, v7, .zc, (.d (.num .i64 0))] h9 232 fun vs11 h12 next13 =>
  vc_differ_Cut_k0 P pre r post vs11 h12 next13)
def vc_differ_Cut_k2 (P : Ctx) (pre : List ABlk) (r : AV) (post : List PB) (v0 : AV) (h2 : Heap) (v3 : AV) (a5 : AV) (a12 : AV) : Prop :=
  NOT v0 fun v1 =>
  CONDG v1
  (POST (.tup [.zc, (.d (.num .i64 2))]) h2 pre r post)
  (LOAD true 3 v3 h2 fun v4 =>
  CALL P f_differ_isTruth [v4, a5] 96 h2 (fun _ v7 h8 =>
  NOT v7 fun v9 =>
  CONDG v9
  (POST (.tup [.zc, (.d (.num .i64 2))]) h8 pre r post)
  (FADDR 1 v3 h8 fun v10 =>
  LOAD false 1 v10 h8 fun v11 =>
  CALL P f_differ_in [a12, (.d (.num .i64 1)), v11] 152 h8 (fun _ v14 h15 =>
  vc_differ_Cut_k1 P pre r post v14 h15 v3 a5 a12)
  (fun _ _ _ => False)))
  (fun _ _ _ => False))
def vc_differ_Cut (P : Ctx) (pre : List ABlk) (a0 a1 a2 : AV) (r : AV) (post : List PB) : Prop :=
  let h0 : Heap := numbered 0 pre
  BOX T_api_DifferPlan a0 24 h0 fun v3 h1 =>
  LOAD true 3 v3 h1 fun v11 =>
  CALL P f_differ_isPlan [v11] 56 h1 (fun _ v12 h2 =>
  vc_differ_Cut_k2 P pre r post v12 h2 v3 a1 a2)
  (fun _ _ _ => False)
theorem vc_differ_Cut_eq (g : GG) (pre : List ABlk) (a0 a1 a2 : AV) (r : AV) (post : List PB) : vcFn2 (Tz g) false ann_differ_Cut Tryz.f7 pre [a0, a1, a2] (.ret r) post = vc_differ_Cut (Tz g) pre a0 a1 a2 r post := by kernel_rfl
theorem hf_differ_Cut : Tryz.prog.funcs[f_differ_Cut]? = some Tryz.f7 := by kernel_rfl
theorem ok_differ_Cut : fnVcOK Tryz.prog Tryz.f7 = true := by kernel_rfl
theorem nt_differ_Cut : Nat.ble 3 Tryz.f7.ntmps = true := by kernel_rfl
theorem meetsH_differ_Cut {g : GG} {pre : List ABlk} {a0 a1 a2 : AV} {r : AV} {post : List PB} (hk : Nat.ble pre.length 24 = true) (h : vc_differ_Cut (Tz g) pre a0 a1 a2 r post) : MeetsH (Tz g) f_differ_Cut pre [a0, a1, a2] (.ret r) post :=
  meetsH_of_vc (C := Tz g) ann_differ_Cut hf_differ_Cut ok_differ_Cut nt_differ_Cut hk (pn := false) (Eq.mpr ((vcFn2_eq _ _ _ _ _ _ _ _).trans (vc_differ_Cut_eq g pre a0 a1 a2 r post)) h)
theorem meets_differ_Cut {g : GG} {a0 a1 a2 : D} {r : Res} (h : vc_differ_Cut (Tz g) [] (.d a0) (.d a1) (.d a2) r.val (r.bl.map .upd)) : Meets (Tz g) f_differ_Cut [a0, a1, a2] r := meetsH_differ_Cut rfl h
def ann_differ_areFirsts : Nat → List Nat := fun n => match n with  | _ => []
def vc_differ_areFirsts (P : Ctx) (pre : List ABlk) (a0 a1 a2 : AV) (r : AV) (post : List PB) : Prop :=
  let h0 : Heap := numbered 0 pre
  BOX T_api_DifferPlan a0 24 h0 fun v3 h1 =>
  LEN false a1 h1 fun v8 =>
  FADDR 1 v3 h1 fun v9 =>
  LOAD false 1 v9 h1 fun v10 =>
  BIN 0 .add v10 a2 fun v12 =>
  BIN 0 .sub v12 (.d (.num .i64 1)) fun v13 =>
  BIN 0 .quo v13 a2 fun v15 =>
  BIN 0 .eql v8 v15 fun v16 =>
  CONDG v16
  (CALLX true P f_slices_ContainsFunc_l_l_int_l_int [a1, (.fn f_differ_areFirsts_1 [] [v3])] 144 h1 (fun _ v20 h2 =>
  NOT v20 fun v21 =>
  POST v21 h2 pre r post)
  (fun _ _ _ => False))
  (POST (.d (.bool false)) h1 pre r post)
theorem vc_differ_areFirsts_eq (g : GG) (pre : List ABlk) (a0 a1 a2 : AV) (r : AV) (post : List PB) : vcFn2 (Tz g) false ann_differ_areFirsts Tryz.f37 pre [a0, a1, a2] (.ret r) post = vc_differ_areFirsts (Tz g) pre a0 a1 a2 r post := by kernel_rfl
theorem hf_differ_areFirsts : Tryz.prog.funcs[f_differ_areFirsts]? = some Tryz.f37 := by kernel_rfl
theorem ok_differ_areFirsts : fnVcOK Tryz.prog Tryz.f37 = true := by kernel_rfl
theorem nt_differ_areFirsts : Nat.ble 3 Tryz.f37.ntmps = true := by kernel_rfl
theorem meetsH_differ_areFirsts {g : GG} {pre : List ABlk} {a0 a1 a2 : AV} {r : AV} {post : List PB} (hk : Nat.ble pre.length 24 = true) (h : vc_differ_areFirsts (Tz g) pre a0 a1 a2 r post) : MeetsH (Tz g) f_differ_areFirsts pre [a0, a1, a2] (.ret r) post :=
  meetsH_of_vc (C := Tz g) ann_differ_areFirsts hf_differ_areFirsts ok_differ_areFirsts nt_differ_areFirsts hk (pn := false) (Eq.mpr ((vcFn2_eq _ _ _ _ _ _ _ _).trans (vc_differ_areFirsts_eq g pre a0 a1 a2 r post)) h)
theorem meets_differ_areFirsts {g : GG} {a0 a1 a2 : D} {r : Res} (h : vc_differ_areFirsts (Tz g) [] (.d a0) (.d a1) (.d a2) r.val (r.bl.map .upd)) : Meets (Tz g) f_differ_areFirsts [a0, a1, a2] r := meetsH_differ_areFirsts rfl h
def ann_differ_areFirsts_1 : Nat → List Nat := fun n => match n with  | _ => []
def vc_differ_areFirsts_1 (P : Ctx) (pre : List ABlk) (a0 a1 : AV) (r : AV) (post : List PB) : Prop :=
  let h0 : Heap := numbered 0 pre
  LEN false a0 h0 fun v5 =>
  FADDR 0 a1 h0 fun v6 =>
  LOAD false 1 v6 h0 fun v7 =>
  LEN false v7 h0 fun v8 =>
  BIN 0 .neq v5 v8 fun v9 =>
  CONDG v9
  (POST (.d (.bool true)) h0 pre r post)
  (CALL P f_differ_isState [a0] 96 h0 (fun _ v12 h1 =>
  NOT v12 fun v13 =>
  POST v13 h1 pre r post)
  (fun _ _ _ => False))
theorem vc_differ_areFirsts_1_eq (g : GG) (pre : List ABlk) (a0 a1 : AV) (r : AV) (post : List PB) : vcFn2 (Tz g) false ann_differ_areFirsts_1 Tryz.f70 pre [a0, a1] (.ret r) post = vc_differ_areFirsts_1 (Tz g) pre a0 a1 r post := by kernel_rfl
theorem hf_differ_areFirsts_1 : Tryz.prog.funcs[f_differ_areFirsts_1]? = some Tryz.f70 := by kernel_rfl
theorem ok_differ_areFirsts_1 : fnVcOK Tryz.prog Tryz.f70 = true := by kernel_rfl
theorem nt_differ_areFirsts_1 : Nat.ble 2 Tryz.f70.ntmps = true := by kernel_rfl
theorem meetsH_differ_areFirsts_1 {g : GG} {pre : List ABlk} {a0 a1 : AV} {r : AV} {post : List PB} (hk : Nat.ble pre.length 24 = true) (h : vc_differ_areFirsts_1 (Tz g) pre a0 a1 r post) : MeetsH (Tz g) f_differ_areFirsts_1 pre [a0, a1] (.ret r) post :=
  meetsH_of_vc (C := Tz g) ann_differ_areFirsts_1 hf_differ_areFirsts_1 ok_differ_areFirsts_1 nt_differ_areFirsts_1 hk (pn := false) (Eq.mpr ((vcFn2_eq _ _ _ _ _ _ _ _).trans (vc_differ_areFirsts_1_eq g pre a0 a1 r post)) h)
theorem meets_differ_areFirsts_1 {g : GG} {a0 a1 : D} {r : Res} (h : vc_differ_areFirsts_1 (Tz g) [] (.d a0) (.d a1) r.val (r.bl.map .upd)) : Meets (Tz g) f_differ_areFirsts_1 [a0, a1] r := meetsH_differ_areFirsts_1 rfl h
def ann_slices_ContainsFunc_l_l_int_l_int : Nat → List Nat := fun n => match n with  | _ => []
def vc_slices_ContainsFunc_l_l_int_l_int (P : Ctx) (pre : List ABlk) (a0 a1 : AV) (r : AV) (post : List PB) : Prop :=
  let h0 : Heap := numbered 0 pre
  CALLX true P f_slices_IndexFunc_l_l_int_l_int [a0, a1] 48 h0 (fun _ v7 h1 =>
  BIN 0 .geq v7 (.d (.num .i64 0)) fun v8 =>
  POST v8 h1 pre r post)
  (fun _ _ _ => False)
theorem vc_slices_ContainsFunc_l_l_int_l_int_eq (g : GG) (pre : List ABlk) (a0 a1 : AV) (r : AV) (post : List PB) : vcFn2 (Tz g) false ann_slices_ContainsFunc_l_l_int_l_int Tryz.f69 pre [a0, a1] (.ret r) post = vc_slices_ContainsFunc_l_l_int_l_int (Tz g) pre a0 a1 r post := by kernel_rfl
theorem hf_slices_ContainsFunc_l_l_int_l_int : Tryz.prog.funcs[f_slices_ContainsFunc_l_l_int_l_int]? = some Tryz.f69 := by kernel_rfl
theorem ok_slices_ContainsFunc_l_l_int_l_int : fnVcOK Tryz.prog Tryz.f69 = true := by kernel_rfl
theorem nt_slices_ContainsFunc_l_l_int_l_int : Nat.ble 2 Tryz.f69.ntmps = true := by kernel_rfl
theorem meetsH_slices_ContainsFunc_l_l_int_l_int {g : GG} {pre : List ABlk} {a0 a1 : AV} {r : AV} {post : List PB} (hk : Nat.ble pre.length 24 = true) (h : vc_slices_ContainsFunc_l_l_int_l_int (Tz g) pre a0 a1 r post) : MeetsH (Tz g) f_slices_ContainsFunc_l_l_int_l_int pre [a0, a1] (.ret r) post :=
  meetsH_of_vc (C := Tz g) ann_slices_ContainsFunc_l_l_int_l_int hf_slices_ContainsFunc_l_l_int_l_int ok_slices_ContainsFunc_l_l_int_l_int nt_slices_ContainsFunc_l_l_int_l_int hk (pn := false) (Eq.mpr ((vcFn2_eq _ _ _ _ _ _ _ _).trans (vc_slices_ContainsFunc_l_l_int_l_int_eq g pre a0 a1 r post)) h)
theorem meets_slices_ContainsFunc_l_l_int_l_int {g : GG} {a0 a1 : D} {r : Res} (h : vc_slices_ContainsFunc_l_l_int_l_int (Tz g) [] (.d a0) (.d a1) r.val (r.bl.map .upd)) : Meets (Tz g) f_slices_ContainsFunc_l_l_int_l_int [a0, a1] r := meetsH_slices_ContainsFunc_l_l_int_l_int rfl h
def ann_slices_IndexFunc_l_l_int_l_int : Nat → List Nat := fun n => match n with | 2 => [0, 1, 7, 8] | _ => []
def vc_slices_IndexFunc_l_l_int_l_int_k0 (P : Ctx) (pre : List ABlk) (r : AV) (post : List PB) (vs0 : List AV) (h2 : Heap) (next9 : List AV → Heap → Prop) : Prop :=
  BIN 0 .lss (nth vs0 3) (nth vs0 2) fun v1 =>
  COND v1
  (IADDR 1 T_l_int (nth vs0 0) (nth vs0 3) h2 fun v3 =>
  LOAD false 1 v3 h2 fun v4 =>
  CALLV P (nth vs0 1) [v4] 128 h2 (fun _ v6 h7 =>
  COND v6
  (POST (nth vs0 3) h7 pre r post)
  (BIN 0 .add (nth vs0 3) (.d (.num .i64 1)) fun v8 =>
  next9 [(nth vs0 0), (nth vs0 1), (nth vs0 2), v8] h7))
  (fun _ _ _ => False))
  (POST (.d (.num .i64 (-1))) h2 pre r post)
def vc_slices_IndexFunc_l_l_int_l_int (P : Ctx) (pre : List ABlk) (a0 a1 : AV) (r : AV) (post : List PB) : Prop :=
  let h0 : Heap := numbered 0 pre
  LEN false a0 h0 fun v7 =>
  LOOP [a0, a1, v7, (.d (.num .i64 0))] h0 56 fun vs1 h2 next1 =>
  vc_slices_IndexFunc_l_l_int_l_int_k0 P pre r post vs1 h2 next1
theorem vc_slices_IndexFunc_l_l_int_l_int_eq (g : GG) (pre : List ABlk) (a0 a1 : AV) (r : AV) (post : List PB) : vcFn2 (Tz g) false ann_slices_IndexFunc_l_l_int_l_int Tryz.f88 pre [a0, a1] (.ret r) post = vc_slices_IndexFunc_l_l_int_l_int (Tz g) pre a0 a1 r post := by kernel_rfl
theorem hf_slices_IndexFunc_l_l_int_l_int : Tryz.prog.funcs[f_slices_IndexFunc_l_l_int_l_int]? = some Tryz.f88 := by kernel_rfl
theorem ok_slices_IndexFunc_l_l_int_l_int : fnVcOK Tryz.prog Tryz.f88 = true := by kernel_rfl
theorem nt_slices_IndexFunc_l_l_int_l_int : Nat.ble 2 Tryz.f88.ntmps = true := by kernel_rfl
theorem meetsH_slices_IndexFunc_l_l_int_l_int {g : GG} {pre : List ABlk} {a0 a1 : AV} {r : AV} {post : List PB} (hk : Nat.ble pre.length 24 = true) (h : vc_slices_IndexFunc_l_l_int_l_int (Tz g) pre a0 a1 r post) : MeetsH (Tz g) f_slices_IndexFunc_l_l_int_l_int pre [a0, a1] (.ret r) post :=
  meetsH_of_vc (C := Tz g) ann_slices_IndexFunc_l_l_int_l_int hf_slices_IndexFunc_l_l_int_l_int ok_slices_IndexFunc_l_l_int_l_int nt_slices_IndexFunc_l_l_int_l_int hk (pn := false) (Eq.mpr ((vcFn2_eq _ _ _ _ _ _ _ _).trans (vc_slices_IndexFunc_l_l_int_l_int_eq g pre a0 a1 r post)) h)
theorem meets_slices_IndexFunc_l_l_int_l_int {g : GG} {a0 a1 : D} {r : Res} (h : vc_slices_IndexFunc_l_l_int_l_int (Tz g) [] (.d a0) (.d a1) r.val (r.bl.map .upd)) : Meets (Tz g) f_slices_IndexFunc_l_l_int_l_int [a0, a1] r := meetsH_slices_IndexFunc_l_l_int_l_int rfl h
def ann_slices_Equal_l_int_int : Nat → List Nat := fun n => match n with | 4 => [0, 1, 12, 13] | _ => []
def vc_slices_Equal_l_int_int_k0 (_P : Ctx) (pre : List ABlk) (r : AV) (post : List PB) (vs0 : List AV) (h2 : Heap) (next9 : List AV → Heap → Prop) : Prop :=
  BIN 0 .lss (nth vs0 3) (nth vs0 2) fun v1 =>
  COND v1
  (IADDR 1 T_int (nth vs0 0) (nth vs0 3) h2 fun v3 =>
  LOAD false 1 v3 h2 fun v4 =>
  IADDR 1 T_int (nth vs0 1) (nth vs0 3) h2 fun v5 =>
  LOAD false 1 v5 h2 fun v6 =>
  BIN 0 .neq v4 v6 fun v7 =>
  ORDX [] [0, 0, 3, 7, 0, 0, 48, 112, 255] [(2, wr h2 h2, (ids (nth vs0 0))), (3, wr h2 h2, (ids v3)), (6, wr h2 h2, (ids (nth vs0 1))), (7, wr h2 h2, (ids v5))] ∧
  COND v7
  (POST (.d (.bool false)) h2 pre r post)
  (BIN 0 .add (nth vs0 3) (.d (.num .i64 1)) fun v8 =>
  next9 [(nth vs0 0), (nth vs0 1), (nth vs0 2), v8] h2))
  (POST (.d (.bool true)) h2 pre r post)
def vc_slices_Equal_l_int_int (P : Ctx) (pre : List ABlk) (a0 a1 : AV) (r : AV) (post : List PB) : Prop :=
  let h0 : Heap := numbered 0 pre
  LEN false a0 h0 fun v7 =>
  LEN false a1 h0 fun v9 =>
  BIN 0 .neq v7 v9 fun v10 =>
  COND v10
  (POST (.d (.bool false)) h0 pre r post)
  (LEN false a0 h0 fun v12 =>
  LOOP [a0, a1, v12, (.d (.num .i64 0))] h0 96 fun vs1 h2 next1 =>
  vc_slices_Equal_l_int_int_k0 P pre r post vs1 h2 next1)
theorem vc_slices_Equal_l_int_int_eq (g : GG) (pre : List ABlk) (a0 a1 : AV) (r : AV) (post : List PB) : vcFn2 (Tz g) false ann_slices_Equal_l_int_int Tryz.f38 pre [a0, a1] (.ret r) post = vc_slices_Equal_l_int_int (Tz g) pre a0 a1 r post := by kernel_rfl
theorem hf_slices_Equal_l_int_int : Tryz.prog.funcs[f_slices_Equal_l_int_int]? = some Tryz.f38 := by kernel_rfl
theorem ok_slices_Equal_l_int_int : fnVcOK Tryz.prog Tryz.f38 = true := by kernel_rfl
theorem nt_slices_Equal_l_int_int : Nat.ble 2 Tryz.f38.ntmps = true := by kernel_rfl
theorem meetsH_slices_Equal_l_int_int {g : GG} {pre : List ABlk} {a0 a1 : AV} {r : AV} {post : List PB} (hk : Nat.ble pre.length 24 = true) (h : vc_slices_Equal_l_int_int (Tz g) pre a0 a1 r post) : MeetsH (Tz g) f_slices_Equal_l_int_int pre [a0, a1] (.ret r) post :=
  meetsH_of_vc (C := Tz g) ann_slices_Equal_l_int_int hf_slices_Equal_l_int_int ok_slices_Equal_l_int_int nt_slices_Equal_l_int_int hk (pn := false) (Eq.mpr ((vcFn2_eq _ _ _ _ _ _ _ _).trans (vc_slices_Equal_l_int_int_eq g pre a0 a1 r post)) h)
theorem meets_slices_Equal_l_int_int {g : GG} {a0 a1 : D} {r : Res} (h : vc_slices_Equal_l_int_int (Tz g) [] (.d a0) (.d a1) r.val (r.bl.map .upd)) : Meets (Tz g) f_slices_Equal_l_int_int [a0, a1] r := meetsH_slices_Equal_l_int_int rfl h
def ann_differ_Joins : Nat → List Nat := fun n => match n with | 5 => [1, 2, 8, 28, 29] | _ => []
def vc_differ_Joins_k0 (_P : Ctx) (_pre : List ABlk) (_r : AV) (_post : List PB) (v0 : AV) (h2 : Heap) (vs3 : List AV) (v4 : AV) (h5 : Heap) (rd6 : List Nat) (v7 : AV) (h8 : Heap) (rd9 : List Nat) (next15 : List AV → Heap → Prop) : Prop :=
  NOT v0 fun v1 =>
  ORDX [] [0, 1, 3, 7, 7, 23, 63, 127, 7, 511, 7, 7, 3079, 7175, 16383, 32767, 65535] [(6, wr h2 h2, (ids (nth vs3 0))), (7, wr h2 h2, (ids v4)), (9, wr h2 h5, rd6), (12, wr h5 h5, (ids (nth vs3 0))), (13, wr h5 h5, (ids v7)), (14, wr h5 h8, rd9)] ∧
  COND v1
  (MKS T_int 1 [(nth vs3 4)] 400 h8 fun v10 h11 =>
  APP T_int 1 (nth vs3 2) v10 408 h11 fun v12 h13 =>
  BIN 0 .add (nth vs3 4) (.d (.num .i64 1)) fun v14 =>
  next15 [(nth vs3 0), (nth vs3 1), v12, (nth vs3 3), v14] h13)
  (BIN 0 .add (nth vs3 4) (.d (.num .i64 1)) fun v14 =>
  next15 [(nth vs3 0), (nth vs3 1), (nth vs3 2), (nth vs3 3), v14] h8)
def vc_differ_Joins_k1 (P : Ctx) (pre : List ABlk) (r : AV) (post : List PB) (vs0 : List AV) (h4 : Heap) (next15 : List AV → Heap → Prop) : Prop :=
  BIN 0 .lss (nth vs0 4) (nth vs0 3) fun v1 =>
  COND v1
  (BIN 0 .gtr (nth vs0 4) (.d (.num .i64 0)) fun v2 =>
  CONDG v2
  (BIN 0 .sub (nth vs0 4) (.d (.num .i64 1)) fun v3 =>
  IADDR 1 T_l_int (nth vs0 0) v3 h4 fun v5 =>
  LOAD false 1 v5 h4 fun v6 =>
  CALL P f_differ_after [v6, (nth vs0 1)] 320 h4 (fun rd7 v8 h9 =>
  IADDR 1 T_l_int (nth vs0 0) (nth vs0 4) h9 fun v10 =>
  LOAD false 1 v10 h9 fun v11 =>
  CALL P f_slices_Equal_l_int_int [v8, v11] 360 h9 (fun rd12 v13 h14 =>
  vc_differ_Joins_k0 P pre r post v13 h4 vs0 v5 h9 rd7 v10 h14 rd12 next15)
  (fun _ _ _ => False))
  (fun _ _ _ => False))
  (ORDX [] [0, 1, 3, 7, 7, 23, 63, 127, 7, 511, 7, 7, 3079, 7175, 16383, 32767, 65535] [] ∧
  BIN 0 .add (nth vs0 4) (.d (.num .i64 1)) fun v16 =>
  next15 [(nth vs0 0), (nth vs0 1), (nth vs0 2), (nth vs0 3), v16] h4))
  (POST (.tup [(nth vs0 2), (.d (.num .i64 0))]) h4 pre r post)
def vc_differ_Joins_k2 (P : Ctx) (pre : List ABlk) (r : AV) (post : List PB) (v0 : AV) (h2 : Heap) (v3 : AV) (a5 : AV) (a6 : AV) : Prop :=
  NOT v0 fun v1 =>
  CONDG v1
  (POST (.tup [.zc, (.d (.num .i64 2))]) h2 pre r post)
  (LOAD true 3 v3 h2 fun v4 =>
  CALLX true P f_differ_areFirsts [v4, a5, a6] 160 h2 (fun _ v8 h9 =>
  NOT v8 fun v10 =>
  COND v10
  (POST (.tup [.zc, (.d (.num .i64 2))]) h9 pre r post)
  (LEN false a5 h9 fun v11 =>
  LOOP [a5, a6, .zc, v11, (.d (.num .i64 0))] h9 216 fun vs12 h13 next14 =>
  vc_differ_Joins_k1 P pre r post vs12 h13 next14))
  (fun _ _ _ => False))
def vc_differ_Joins (P : Ctx) (pre : List ABlk) (a0 a1 a2 : AV) (r : AV) (post : List PB) : Prop :=
  let h0 : Heap := numbered 0 pre
  BOX T_api_DifferPlan a0 24 h0 fun v3 h1 =>
  LOAD true 3 v3 h1 fun v10 =>
  CALL P f_differ_isPlan [v10] 56 h1 (fun _ v11 h2 =>
  NOT v11 fun v12 =>
  CONDG v12
  (POST (.tup [.zc, (.d (.num .i64 2))]) h2 pre r post)
  (FADDR 1 v3 h2 fun v15 =>
  LOAD false 1 v15 h2 fun v16 =>
  CALL P f_differ_in [a2, (.d (.num .i64 1)), v16] 104 h2 (fun _ v17 h4 =>
  vc_differ_Joins_k2 P pre r post v17 h4 v3 a1 a2)
  (fun _ _ _ => False)))
  (fun _ _ _ => False)
theorem vc_differ_Joins_eq (g : GG) (pre : List ABlk) (a0 a1 a2 : AV) (r : AV) (post : List PB) : vcFn2 (Tz g) false ann_differ_Joins Tryz.f8 pre [a0, a1, a2] (.ret r) post = vc_differ_Joins (Tz g) pre a0 a1 a2 r post := by kernel_rfl
theorem hf_differ_Joins : Tryz.prog.funcs[f_differ_Joins]? = some Tryz.f8 := by kernel_rfl
theorem ok_differ_Joins : fnVcOK Tryz.prog Tryz.f8 = true := by kernel_rfl
theorem nt_differ_Joins : Nat.ble 3 Tryz.f8.ntmps = true := by kernel_rfl
theorem meetsH_differ_Joins {g : GG} {pre : List ABlk} {a0 a1 a2 : AV} {r : AV} {post : List PB} (hk : Nat.ble pre.length 24 = true) (h : vc_differ_Joins (Tz g) pre a0 a1 a2 r post) : MeetsH (Tz g) f_differ_Joins pre [a0, a1, a2] (.ret r) post :=
  meetsH_of_vc (C := Tz g) ann_differ_Joins hf_differ_Joins ok_differ_Joins nt_differ_Joins hk (pn := false) (Eq.mpr ((vcFn2_eq _ _ _ _ _ _ _ _).trans (vc_differ_Joins_eq g pre a0 a1 a2 r post)) h)
theorem meets_differ_Joins {g : GG} {a0 a1 a2 : D} {r : Res} (h : vc_differ_Joins (Tz g) [] (.d a0) (.d a1) (.d a2) r.val (r.bl.map .upd)) : Meets (Tz g) f_differ_Joins [a0, a1, a2] r := meetsH_differ_Joins rfl h
end Go.Vc

namespace Go.Vc
open Go Go.Proofs
variable {g : GG}
attribute [local simp] and_assoc
def listsD (ls : List (List Int)) : D := .list (ls.map ints)
@[local simp] theorem ints_cells (l : List Int) : (ints l).cells = [ints l] := rfl
theorem ref01_Size_meets (p : Plan) (n : Int) : Meets (Tz g) f_ref01_Size [p.d, int n] ⟨.d (.bool (inB n 1 p.rows)), []⟩ := by
  refine meets_ref01_Size ?_
  unfold vc_ref01_Size
  simp [Plan.d, spans]
  refine CALL.val _ _ rfl (ref01_in_meets _ _ _) (.inl rfl) ?_
  simp
def sheetsN (n s : Nat) : Nat := (n + s - 1) / s
theorem sheets_lt (n s i : Nat) (hs : 1 ≤ s) : i < sheetsN n s ↔ i * s < n := by
  unfold sheetsN
  rw [Nat.lt_div_iff_mul_lt (by omega)]
  omega
theorem sheets_le (n s : Nat) (hs : 1 ≤ s) : sheetsN n s ≤ n := by
  refine Classical.byContradiction fun h => ?_
  have h1 := (sheets_lt n s n hs).1 (by omega)
  have h2 : n * 1 ≤ n * s := Nat.mul_le_mul_left n hs
  omega
def cutL (t : List Int) (n s : Nat) : List (List Int) := (List.range (sheetsN n s)).map fun i => afterL (i * s) t
theorem cutL_len (t : List Int) (n s : Nat) : (cutL t n s).length = sheetsN n s := by simp [cutL]
def firstsB (p : Plan) (ls : List (List Int)) (s : Int) : Bool := decide ((ls.length : Int) = (p.rows + s - 1).tdiv s) && ls.all fun l => decide (l.length = p.starts.length) && stateB l
theorem areFirsts_1_meets (p : Plan) (l : List Int) : Meets (Tz g) f_differ_areFirsts_1 [ints l, planC p] ⟨.d (.bool (!(decide (l.length = p.starts.length) && stateB l))), []⟩ := by
  refine meets_differ_areFirsts_1 ?_
  unfold vc_differ_areFirsts_1
  simp [ints, planC, spans]
  constructor
  · intro h
    have : ¬ l.length = p.starts.length := by omega
    simp [this]
  · intro h
    have : l.length = p.starts.length := by omega
    refine CALL.val [ints l] _ rfl (differ_isState_meets l) (.inl rfl) ?_
    simp [this]
theorem index_lists_meets (ls : List (List Int)) (f : FuncId) (c : D) (q : List Int → Bool) (hf : ∀ l, Meets (Tz g) f [ints l, c] ⟨.d (.bool (q l)), []⟩) (hl : ls.length ≤ 1000) : Meets (Tz g) f_slices_IndexFunc_l_l_int_l_int [listsD ls, .fn f [] [c]] ⟨.d (int (idx q ls 0)), []⟩ := by
  refine meets_slices_IndexFunc_l_l_int_l_int ?_
  unfold vc_slices_IndexFunc_l_l_int_l_int
  simp [listsD]
  refine LOOP.mk Nat (fun k => [.d (listsD ls), .d (.fn f [] [c]), .d (int ls.length), .d (int k)]) (fun _ => []) (fun k => k ≤ ls.length ∧ idx q ls 0 = idx q (ls.drop k) k) (fun k => ls.length - k) [] (by simp) 0 (by simp) (by simp [WEAK, listsD]) (fun _ _ => rfl) ?_
  rintro k ⟨hk, he⟩
  simp [vc_slices_IndexFunc_l_l_int_l_int_k0, listsD]
  constructor
  · intro hlt
    have hg : ls[k]? = some ls[k] := List.getElem?_eq_getElem hlt
    generalize ls[k] = l at hg
    simp [hg]
    refine CALL.val [ints l, c] _ rfl (hf l) (.inl rfl) ?_
    rw [idx_drop q ls k _ hg] at he
    simp
    constructor
    · intro hq
      simp [hq] at he
      exact he.symm
    · intro hq
      simp [hq] at he
      rw [wrap_id (by omega) (by omega)]
      exact ⟨k + 1, by omega, by simpa using he, by simp [WEAK], by omega⟩
  · intro hge
    have : k = ls.length := by omega
    subst this
    simp [idx] at he
    exact he.symm
theorem contains_lists_meets (ls : List (List Int)) (f : FuncId) (c : D) (q : List Int → Bool) (hf : ∀ l, Meets (Tz g) f [ints l, c] ⟨.d (.bool (q l)), []⟩) (hl : ls.length ≤ 1000) : Meets (Tz g) f_slices_ContainsFunc_l_l_int_l_int [listsD ls, .fn f [] [c]] ⟨.d (.bool (ls.any q)), []⟩ := by
  refine meets_slices_ContainsFunc_l_l_int_l_int ?_
  unfold vc_slices_ContainsFunc_l_l_int_l_int
  refine CALLX.of ?_
  refine CALL.val _ _ rfl (index_lists_meets ls f c q hf hl) (.inl rfl) ?_
  simp [← idx_any q ls 0 (by omega)]
theorem any_not_l (ls : List (List Int)) (q : List Int → Bool) : (!ls.any fun n => !q n) = ls.all q := by
  induction ls with
  | nil => rfl
  | cons s r ih => simp only [List.any_cons, List.all_cons, ← ih]; cases q s <;> simp
theorem differ_areFirsts_meets (p : Plan) (ls : List (List Int)) (s : Int) (hok : p.ok = true) (hs : 1 ≤ s ∧ s ≤ 12) (hl : ls.length ≤ 1000) : Meets (Tz g) f_differ_areFirsts [p.d, listsD ls, int s] ⟨.d (.bool (firstsB p ls s)), []⟩ := by
  obtain ⟨a1, a2, a3, a4, a5⟩ := Plan.ok_len hok
  have hs0 : ¬ s = 0 := by omega
  have htd : 0 ≤ (p.rows + s - 1).tdiv s ∧ (p.rows + s - 1).tdiv s ≤ 24 := by
    rw [Int.tdiv_eq_ediv_of_nonneg (by omega)]
    refine ⟨Int.ediv_nonneg (by omega) (by omega), ?_⟩
    have := Int.ediv_le_self s (show 0 ≤ p.rows + s - 1 by omega)
    omega
  refine meets_differ_areFirsts ?_
  unfold vc_differ_areFirsts
  simp [Plan.d, spans, listsD]
  rw [wrap_id (n := p.rows + s) (by omega) (by omega), wrap_id (n := p.rows + s - 1) (by omega) (by omega)]
  simp [hs0]
  rw [wrap_id (n := (p.rows + s - 1).tdiv s) (by omega) (by omega)]
  constructor
  · intro h
    refine CALLX.of ?_
    refine CALL.val [listsD ls, .fn f_differ_areFirsts_1 [] [planC p]] _ (by simp [listsD, planC, spans]) (contains_lists_meets ls _ (planC p) _ (areFirsts_1_meets p) hl) (.inr rfl) ?_
    simp only [firstsB, h]
    rw [← any_not_l]
    simp
  · intro h
    simp [firstsB, h]
end Go.Vc
