/- A part of the proof: general laws of a reading of the model by abstract data, or contracts of the functions that the law calls. -/
import Derived.Test.YtkefjhemmdolaaaGreatVc23
import Derived.Test.YtkefjhemmdolaaaGreatVc11
set_option maxRecDepth 100000
namespace Go.Vc
open Go Go.Proofs Go.RowKit
def ann_step_table_doubts : Nat → List Nat := fun n => match n with | 3 => [1, 3, 9, 10] | _ => []
def vc_step_table_doubts_k0 (_P : Ctx) (_pre : List ABlk) (_r : AV) (_post : List PB) (vs0 : List AV) (h1 : Heap) (v5 : AV) (h7 : Heap) (v8 : AV) (v9 : AV) (v10 : AV) (rd11 : List Nat) (next17 : List AV → Heap → Prop) : Prop :=
  FADDR 0 (nth vs0 0) h1 fun v2 =>
  FADDR 2 v2 h1 fun v3 =>
  LOAD false 1 v3 h1 fun v4 =>
  BIN 0 .gtr v5 v4 fun v6 =>
  ORDX [] [0, 1, 0, 4, 15, 31, 63, 63, 63, 511, 63, 1087, 3135, 8191, 16383] [(0, wr h7 h7, (ids v8)), (1, wr h7 h7, (ids v9)), (2, wr h7 h7, (ids v8)), (3, wr h7 h7, (ids v10)), (6, wr h7 h7, (ids (nth vs0 0))), (7, wr h7 h7, (ids v8)), (9, wr h7 h1, rd11), (10, wr h1 h1, (ids (nth vs0 0))), (11, wr h1 h1, (ids v2)), (12, wr h1 h1, (ids v3))] ∧
  COND v6
  (MKS T_int 1 [(nth vs0 3)] 296 h1 fun v12 h13 =>
  APP T_int 1 (nth vs0 1) v12 304 h13 fun v14 h15 =>
  BIN 0 .add (nth vs0 3) (.d (.num .i64 1)) fun v16 =>
  next17 [(nth vs0 0), v14, (nth vs0 2), v16] h15)
  (BIN 0 .add (nth vs0 3) (.d (.num .i64 1)) fun v16 =>
  next17 [(nth vs0 0), (nth vs0 1), (nth vs0 2), v16] h1)
def vc_step_table_doubts_k1 (P : Ctx) (pre : List ABlk) (r : AV) (post : List PB) (h0 : Heap) (v3 : AV) (vs10 : List AV) (next16 : List AV → Heap → Prop) : Prop :=
  ALLOC T_step_pair [.d (.num .i64 0), .d (.num .i64 0)] 144 h0 fun v1 h2 =>
  STORE 2 v1 v3 h2 fun h4 =>
  FADDR 0 v1 h4 fun v5 =>
  LOAD false 1 v5 h4 fun v6 =>
  FADDR 1 v1 h4 fun v7 =>
  LOAD false 1 v7 h4 fun v8 =>
  BIN 0 .lss v6 v8 fun v9 =>
  CONDG v9
  (LOAD true 5 (nth vs10 0) h4 fun v11 =>
  LOAD true 2 v1 h4 fun v12 =>
  CALL P f_step_table_off [v11, v12, (nth vs10 3)] 232 h4 (fun rd13 v14 h15 =>
  vc_step_table_doubts_k0 P pre r post vs10 h15 v14 h4 v1 v5 v7 rd13 next16)
  (fun _ _ _ => False))
  (ORDX [] [0, 1, 0, 4, 15, 31, 63, 63, 63, 511, 63, 1087, 3135, 8191, 16383] [(0, wr h4 h4, (ids v1)), (1, wr h4 h4, (ids v5)), (2, wr h4 h4, (ids v1)), (3, wr h4 h4, (ids v7))] ∧
  BIN 0 .add (nth vs10 3) (.d (.num .i64 1)) fun v17 =>
  next16 [(nth vs10 0), (nth vs10 1), (nth vs10 2), v17] h4)
def vc_step_table_doubts_k2 (P : Ctx) (pre : List ABlk) (r : AV) (post : List PB) (vs0 : List AV) (h2 : Heap) (next7 : List AV → Heap → Prop) : Prop :=
  BIN 0 .lss (nth vs0 3) (nth vs0 2) fun v1 =>
  COND v1
  (LOAD true 5 (nth vs0 0) h2 fun v3 =>
  CALL P f_step_table_around [v3, (nth vs0 3)] 136 h2 (fun _ v5 h6 =>
  vc_step_table_doubts_k1 P pre r post h6 v5 vs0 next7)
  (fun _ _ _ => False))
  (POST (nth vs0 1) h2 pre r post)
def vc_step_table_doubts (P : Ctx) (pre : List ABlk) (a0 : AV) (r : AV) (post : List PB) : Prop :=
  let h0 : Heap := numbered 0 pre
  BOX T_step_table a0 24 h0 fun v1 h1 =>
  FADDR 0 v1 h1 fun v6 =>
  FADDR 0 v6 h1 fun v7 =>
  LOAD false 1 v7 h1 fun v8 =>
  LEN false v8 h1 fun v9 =>
  LOOP [v1, .zc, v9, (.d (.num .i64 0))] h1 88 fun vs2 h3 next2 =>
  vc_step_table_doubts_k2 P pre r post vs2 h3 next2
theorem vc_step_table_doubts_eq (g : GG) (pre : List ABlk) (a0 : AV) (r : AV) (post : List PB) : vcFn2 (Tz g) false ann_step_table_doubts Tryz.f73 pre [a0] (.ret r) post = vc_step_table_doubts (Tz g) pre a0 r post := by kernel_rfl
theorem hf_step_table_doubts : Tryz.prog.funcs[f_step_table_doubts]? = some Tryz.f73 := by kernel_rfl
theorem ok_step_table_doubts : fnVcOK Tryz.prog Tryz.f73 = true := by kernel_rfl
theorem nt_step_table_doubts : Nat.ble 1 Tryz.f73.ntmps = true := by kernel_rfl
theorem meetsH_step_table_doubts {g : GG} {pre : List ABlk} {a0 : AV} {r : AV} {post : List PB} (hk : Nat.ble pre.length 24 = true) (h : vc_step_table_doubts (Tz g) pre a0 r post) : MeetsH (Tz g) f_step_table_doubts pre [a0] (.ret r) post :=
  meetsH_of_vc (C := Tz g) ann_step_table_doubts hf_step_table_doubts ok_step_table_doubts nt_step_table_doubts hk (pn := false) (Eq.mpr ((vcFn2_eq _ _ _ _ _ _ _ _).trans (vc_step_table_doubts_eq g pre a0 r post)) h)
def ann_step_Doubts : Nat → List Nat := fun n => match n with  | _ => []
def vc_step_Doubts_k0 (P : Ctx) (pre : List ABlk) (r : AV) (post : List PB) (v0 : AV) (h2 : Heap) (v3 : AV) (a5 : AV) : Prop :=
  NOT v0 fun v1 =>
  COND v1
  (POST (.tup [.zc, (.d (.num .i64 2))]) h2 pre r post)
  (LOAD true 3 v3 h2 fun v4 =>
  CALL P f_step_tableOf [v4, a5] 136 h2 (fun _ v7 h8 =>
  CALL P f_step_table_doubts [v7] 144 h8 (fun _ v10 h11 =>
  POST (.tup [v10, (.d (.num .i64 0))]) h11 pre r post)
  (fun _ _ _ => False))
  (fun _ _ _ => False))
def vc_step_Doubts (P : Ctx) (pre : List ABlk) (a0 a1 : AV) (r : AV) (post : List PB) : Prop :=
  let h0 : Heap := numbered 0 pre
  BOX T_api_StepTable a0 24 h0 fun v2 h1 =>
  LOAD true 3 v2 h1 fun v6 =>
  CALL P f_step_isTable [v6] 56 h1 (fun _ v7 h2 =>
  NOT v7 fun v8 =>
  CONDG v8
  (POST (.tup [.zc, (.d (.num .i64 2))]) h2 pre r post)
  (LOAD true 3 v2 h2 fun v10 =>
  CALL P f_step_isKept [v10, a1] 96 h2 (fun _ v12 h4 =>
  vc_step_Doubts_k0 P pre r post v12 h4 v2 a1)
  (fun _ _ _ => False)))
  (fun _ _ _ => False)
theorem vc_step_Doubts_eq (g : GG) (pre : List ABlk) (a0 a1 : AV) (r : AV) (post : List PB) : vcFn2 (Tz g) false ann_step_Doubts Tryz.f24 pre [a0, a1] (.ret r) post = vc_step_Doubts (Tz g) pre a0 a1 r post := by kernel_rfl
theorem hf_step_Doubts : Tryz.prog.funcs[f_step_Doubts]? = some Tryz.f24 := by kernel_rfl
theorem ok_step_Doubts : fnVcOK Tryz.prog Tryz.f24 = true := by kernel_rfl
theorem nt_step_Doubts : Nat.ble 2 Tryz.f24.ntmps = true := by kernel_rfl
theorem meetsH_step_Doubts {g : GG} {pre : List ABlk} {a0 a1 : AV} {r : AV} {post : List PB} (hk : Nat.ble pre.length 24 = true) (h : vc_step_Doubts (Tz g) pre a0 a1 r post) : MeetsH (Tz g) f_step_Doubts pre [a0, a1] (.ret r) post :=
  meetsH_of_vc (C := Tz g) ann_step_Doubts hf_step_Doubts ok_step_Doubts nt_step_Doubts hk (pn := false) (Eq.mpr ((vcFn2_eq _ _ _ _ _ _ _ _).trans (vc_step_Doubts_eq g pre a0 a1 r post)) h)
theorem meets_step_Doubts {g : GG} {a0 a1 : D} {r : Res} (h : vc_step_Doubts (Tz g) [] (.d a0) (.d a1) r.val (r.bl.map .upd)) : Meets (Tz g) f_step_Doubts [a0, a1] r := meetsH_step_Doubts rfl h
end Go.Vc

namespace Go.Vc
open Go Go.Proofs Go.RowKit
def ann_step_table_mustBeSure : Nat → List Nat := fun n => match n with  | _ => []
def vc_step_table_mustBeSure_k0 (_P : Ctx) (pre : List ABlk) (r : AV) (post : List PB) (v0 : AV) (h1 : Heap) : Prop :=
  LEN false v0 h1 fun v2 =>
  BIN 0 .gtr v2 (.d (.num .i64 0)) fun v3 =>
  COND v3
  (IADDR 1 T_int v0 (.d (.num .i64 0)) h1 fun v4 =>
  LOAD false 1 v4 h1 fun v5 =>
  BUILD [(0, 1)] [.d (.num .i64 0)] [(0, v5)] fun v6 =>
  PANIC (.iface T_step_wrong v6) fun _ => False)
  (POST (.tup []) h1 pre r post)
def vc_step_table_mustBeSure (P : Ctx) (pre : List ABlk) (a0 : AV) (r : AV) (post : List PB) : Prop :=
  let h0 : Heap := numbered 0 pre
  BOX T_step_table a0 24 h0 fun v1 h1 =>
  LOAD true 5 v1 h1 fun v3 =>
  CALL P f_step_table_doubts [v3] 40 h1 (fun _ v4 h2 =>
  vc_step_table_mustBeSure_k0 P pre r post v4 h2)
  (fun _ _ _ => False)
theorem vc_step_table_mustBeSure_eq (g : GG) (pre : List ABlk) (a0 : AV) (r : AV) (post : List PB) : vcFn2 (Tz g) false ann_step_table_mustBeSure Tryz.f136 pre [a0] (.ret r) post = vc_step_table_mustBeSure (Tz g) pre a0 r post := by kernel_rfl
theorem hf_step_table_mustBeSure : Tryz.prog.funcs[f_step_table_mustBeSure]? = some Tryz.f136 := by kernel_rfl
theorem ok_step_table_mustBeSure : fnVcOK Tryz.prog Tryz.f136 = true := by kernel_rfl
theorem nt_step_table_mustBeSure : Nat.ble 1 Tryz.f136.ntmps = true := by kernel_rfl
theorem meetsH_step_table_mustBeSure {g : GG} {pre : List ABlk} {a0 : AV} {r : AV} {post : List PB} (hk : Nat.ble pre.length 24 = true) (h : vc_step_table_mustBeSure (Tz g) pre a0 r post) : MeetsH (Tz g) f_step_table_mustBeSure pre [a0] (.ret r) post :=
  meetsH_of_vc (C := Tz g) ann_step_table_mustBeSure hf_step_table_mustBeSure ok_step_table_mustBeSure nt_step_table_mustBeSure hk (pn := false) (Eq.mpr ((vcFn2_eq _ _ _ _ _ _ _ _).trans (vc_step_table_mustBeSure_eq g pre a0 r post)) h)
def annp_step_table_mustBeSure : Nat → List Nat := fun n => match n with  | _ => []
def vcp_step_table_mustBeSure_k0 (_P : Ctx) (pre : List ABlk) (r : AV) (post : List PB) (v0 : AV) (h1 : Heap) : Prop :=
  LEN false v0 h1 fun v2 =>
  BIN 0 .gtr v2 (.d (.num .i64 0)) fun v3 =>
  COND v3
  (IADDR 1 T_int v0 (.d (.num .i64 0)) h1 fun v4 =>
  LOAD false 1 v4 h1 fun v5 =>
  BUILD [(0, 1)] [.d (.num .i64 0)] [(0, v5)] fun v6 =>
  PANIC (.iface T_step_wrong v6) fun pv7 =>
  POST pv7 h1 pre r post)
  (False)
def vcp_step_table_mustBeSure (P : Ctx) (pre : List ABlk) (a0 : AV) (r : AV) (post : List PB) : Prop :=
  let h0 : Heap := numbered 0 pre
  BOX T_step_table a0 24 h0 fun v1 h1 =>
  LOAD true 5 v1 h1 fun v3 =>
  CALL P f_step_table_doubts [v3] 40 h1 (fun _ v4 h2 =>
  vcp_step_table_mustBeSure_k0 P pre r post v4 h2)
  (fun _ pv4 ph5 =>
  POST pv4 ph5 pre r post)
theorem vcp_step_table_mustBeSure_eq (g : GG) (pre : List ABlk) (a0 : AV) (r : AV) (post : List PB) : vcFn2 (Tz g) true annp_step_table_mustBeSure Tryz.f136 pre [a0] (.pan r) post = vcp_step_table_mustBeSure (Tz g) pre a0 r post := by kernel_rfl
theorem hfp_step_table_mustBeSure : Tryz.prog.funcs[f_step_table_mustBeSure]? = some Tryz.f136 := by kernel_rfl
theorem okp_step_table_mustBeSure : fnVcOK Tryz.prog Tryz.f136 = true := by kernel_rfl
theorem ntp_step_table_mustBeSure : Nat.ble 1 Tryz.f136.ntmps = true := by kernel_rfl
theorem meetsHp_step_table_mustBeSure {g : GG} {pre : List ABlk} {a0 : AV} {r : AV} {post : List PB} (hk : Nat.ble pre.length 24 = true) (h : vcp_step_table_mustBeSure (Tz g) pre a0 r post) : MeetsH (Tz g) f_step_table_mustBeSure pre [a0] (.pan r) post :=
  meetsH_of_vc (C := Tz g) annp_step_table_mustBeSure hfp_step_table_mustBeSure okp_step_table_mustBeSure ntp_step_table_mustBeSure hk (pn := true) (Eq.mpr ((vcFn2_eq _ _ _ _ _ _ _ _).trans (vcp_step_table_mustBeSure_eq g pre a0 r post)) h)
def ann_step_table_can : Nat → List Nat := fun n => match n with | 3 => [2, 3, 4, 7, 8] | 6 => [2, 3, 4, 7, 8, 34, 35, 36] | 10 => [2, 3, 4, 7, 8, 10, 11, 12, 34, 35, 36] | _ => []
def vc_step_table_can_k0 (_P : Ctx) (_pre : List ABlk) (_r : AV) (_post : List PB) (h0 : Heap) (vs1 : List AV) (v2 : AV) (v3 : AV) (v4 : AV) (v5 : AV) (v6 : AV) (v7 : AV) (v8 : AV) (v9 : AV) (v10 : AV) (v11 : AV) (v12 : AV) (v13 : AV) (v14 : AV) (v15 : AV) (h16 : Heap) (rd17 : List Nat) (next19 : List AV → Heap → Prop) (v20 : AV) : Prop :=
  ORDX [] [0, 1, 3, 3, 11, 27, 3, 123, 251, 507, 3, 1027, 3075, 8187, 3, 16387, 49155, 3, 245763, 507907, 1032195, 3, 2097155, 6291459, 16760835, 33554431, 67108863, 134217727] [(3, wr h0 h0, (ids (nth vs1 1))), (4, wr h0 h0, (ids v2)), (5, wr h0 h0, (ids v3)), (7, wr h0 h0, (ids v4)), (8, wr h0 h0, (ids v5)), (9, wr h0 h0, (ids v6)), (10, wr h0 h0, (ids (nth vs1 1))), (11, wr h0 h0, (ids v7)), (12, wr h0 h0, (ids v8)), (14, wr h0 h0, (ids (nth vs1 1))), (15, wr h0 h0, (ids v9)), (16, wr h0 h0, (ids v10)), (18, wr h0 h0, (ids v11)), (19, wr h0 h0, (ids v12)), (20, wr h0 h0, (ids v13)), (21, wr h0 h0, (ids (nth vs1 1))), (22, wr h0 h0, (ids v14)), (23, wr h0 h0, (ids v15)), (25, wr h0 h16, rd17)] ∧
  BIN 0 .add (nth vs1 7) (.d (.num .i64 1)) fun v18 =>
  next19 [(nth vs1 0), (nth vs1 1), (nth vs1 2), (nth vs1 3), (nth vs1 4), (nth vs1 5), v20, v18, (nth vs1 8), (nth vs1 9), (nth vs1 10)] h16
def vc_step_table_can_k1 (P : Ctx) (pre : List ABlk) (r : AV) (post : List PB) (vs0 : List AV) (h1 : Heap) (v22 : AV) (next26 : List AV → Heap → Prop) : Prop :=
  FADDR 0 (nth vs0 1) h1 fun v2 =>
  FADDR 0 v2 h1 fun v3 =>
  LOAD false 1 v3 h1 fun v4 =>
  IADDR 2 T_api_Span v4 (nth vs0 7) h1 fun v5 =>
  FADDR 0 v5 h1 fun v6 =>
  LOAD false 1 v6 h1 fun v7 =>
  FADDR 0 (nth vs0 1) h1 fun v8 =>
  FADDR 2 v8 h1 fun v9 =>
  LOAD false 1 v9 h1 fun v10 =>
  BIN 0 .sub v7 v10 fun v11 =>
  FADDR 0 (nth vs0 1) h1 fun v12 =>
  FADDR 0 v12 h1 fun v13 =>
  LOAD false 1 v13 h1 fun v14 =>
  IADDR 2 T_api_Span v14 (nth vs0 7) h1 fun v15 =>
  FADDR 1 v15 h1 fun v16 =>
  LOAD false 1 v16 h1 fun v17 =>
  FADDR 0 (nth vs0 1) h1 fun v18 =>
  FADDR 2 v18 h1 fun v19 =>
  LOAD false 1 v19 h1 fun v20 =>
  BIN 0 .add v17 v20 fun v21 =>
  CALL P f_step_in [v22, v11, v21] 616 h1 (fun rd23 v24 h25 =>
  vc_step_table_can_k0 P pre r post h1 vs0 v2 v3 v4 v5 v6 v8 v9 v12 v13 v14 v15 v16 v18 v19 h25 rd23 next26 v24)
  (fun _ _ _ => False)
def vc_step_table_can_k2 (_P : Ctx) (_pre : List ABlk) (_r : AV) (_post : List PB) (vs0 : List AV) (next2 : List AV → Heap → Prop) (h3 : Heap) : Prop :=
  ORDX [] [0, 1, 3, 3, 11, 27, 3, 123, 251, 507, 3, 1027, 3075, 8187, 3, 16387, 49155, 3, 245763, 507907, 1032195, 3, 2097155, 6291459, 16760835, 33554431, 67108863, 134217727] [] ∧
  BIN 0 .add (nth vs0 7) (.d (.num .i64 1)) fun v1 =>
  next2 [(nth vs0 0), (nth vs0 1), (nth vs0 2), (nth vs0 3), (nth vs0 4), (nth vs0 5), (.d (.bool false)), v1, (nth vs0 8), (nth vs0 9), (nth vs0 10)] h3
def vc_step_table_can_k3 (P : Ctx) (pre : List ABlk) (r : AV) (post : List PB) (vs0 : List AV) (h1 : Heap) (next7 : List AV → Heap → Prop) : Prop :=
  LOAD true 5 (nth vs0 1) h1 fun v2 =>
  LOAD true 2 (nth vs0 2) h1 fun v3 =>
  CALL P f_step_table_figure [v2, v3, (nth vs0 5), (nth vs0 4), (nth vs0 7)] 400 h1 (fun _ v5 h6 =>
  CONDG (nth vs0 6)
  (vc_step_table_can_k1 P pre r post vs0 h6 v5 next7)
  (vc_step_table_can_k2 P pre r post vs0 next7 h6))
  (fun _ _ _ => False)
def vc_step_table_can_k4 (_P : Ctx) (_pre : List ABlk) (_r : AV) (_post : List PB) (vs0 : List AV) (h1 : Heap) (next7 : List AV → Heap → Prop) (next9 : List AV → Heap → Prop) : Prop :=
  COND (nth vs0 6)
  (MKS T_int 1 [(nth vs0 4)] 384 h1 fun v2 h3 =>
  APP T_int 1 (nth vs0 3) v2 392 h3 fun v4 h5 =>
  BIN 0 .add (nth vs0 4) (.d (.num .i64 1)) fun v6 =>
  next7 [(nth vs0 0), (nth vs0 1), (nth vs0 2), v4, v6] h5)
  (BIN 0 .add (nth vs0 10) (.d (.num .i64 1)) fun v8 =>
  next9 [(nth vs0 0), (nth vs0 1), (nth vs0 2), (nth vs0 3), (nth vs0 4), (nth vs0 8), (nth vs0 9), v8] h1)
def vc_step_table_can_k5 (P : Ctx) (pre : List ABlk) (r : AV) (post : List PB) (vs0 : List AV) (h2 : Heap) (next14 : List AV → Heap → Prop) (next15 : List AV → Heap → Prop) : Prop :=
  BIN 0 .lss (nth vs0 7) (nth vs0 6) fun v1 =>
  COND v1
  (IADDR 1 T_int (nth vs0 5) (nth vs0 7) h2 fun v3 =>
  LOAD false 1 v3 h2 fun v4 =>
  FADDR 0 (nth vs0 2) h2 fun v5 =>
  LOAD false 1 v5 h2 fun v6 =>
  BIN 0 .add v6 (.d (.num .i64 1)) fun v7 =>
  LOOP [(nth vs0 0), (nth vs0 1), (nth vs0 2), (nth vs0 3), (nth vs0 4), v4, (.d (.bool true)), v7, (nth vs0 5), (nth vs0 6), (nth vs0 7)] h2 320 fun vs8 h9 next10 =>
  FADDR 1 (nth vs8 2) h9 fun v11 =>
  LOAD false 1 v11 h9 fun v12 =>
  BIN 0 .lss (nth vs8 7) v12 fun v13 =>
  COND v13
  (vc_step_table_can_k3 P pre r post vs8 h9 next10)
  (vc_step_table_can_k4 P pre r post vs8 h9 next14 next15))
  (BIN 0 .add (nth vs0 4) (.d (.num .i64 1)) fun v16 =>
  next14 [(nth vs0 0), (nth vs0 1), (nth vs0 2), (nth vs0 3), v16] h2)
def vc_step_table_can_k6 (P : Ctx) (pre : List ABlk) (r : AV) (post : List PB) (vs0 : List AV) (h1 : Heap) (next15 : List AV → Heap → Prop) : Prop :=
  FADDR 0 (nth vs0 1) h1 fun v2 =>
  FADDR 0 v2 h1 fun v3 =>
  LOAD false 1 v3 h1 fun v4 =>
  FADDR 1 (nth vs0 2) h1 fun v5 =>
  LOAD false 1 v5 h1 fun v6 =>
  IADDR 2 T_api_Span v4 v6 h1 fun v7 =>
  FADDR 1 v7 h1 fun v8 =>
  LOAD false 1 v8 h1 fun v9 =>
  BIN 0 .leq (nth vs0 4) v9 fun v10 =>
  COND v10
  (LEN false (nth vs0 0) h1 fun v11 =>
  LOOP [(nth vs0 0), (nth vs0 1), (nth vs0 2), (nth vs0 3), (nth vs0 4), (nth vs0 0), v11, (.d (.num .i64 0))] h1 240 fun vs12 h13 next14 =>
  vc_step_table_can_k5 P pre r post vs12 h13 next15 next14)
  (POST (nth vs0 3) h1 pre r post)
def vc_step_table_can (P : Ctx) (pre : List ABlk) (a0 a1 a2 : AV) (r : AV) (post : List PB) : Prop :=
  let h0 : Heap := numbered 0 pre
  BOX T_step_table a0 24 h0 fun v3 h1 =>
  BOX T_step_pair a1 32 h1 fun v4 h2 =>
  FADDR 0 v3 h2 fun v14 =>
  FADDR 0 v14 h2 fun v15 =>
  LOAD false 1 v15 h2 fun v16 =>
  FADDR 1 v4 h2 fun v17 =>
  LOAD false 1 v17 h2 fun v18 =>
  IADDR 2 T_api_Span v16 v18 h2 fun v19 =>
  FADDR 0 v19 h2 fun v20 =>
  LOAD false 1 v20 h2 fun v21 =>
  LOOP [a2, v3, v4, .zc, v21] h2 128 fun vs3 h4 next3 =>
  vc_step_table_can_k6 P pre r post vs3 h4 next3
theorem vc_step_table_can_eq (g : GG) (pre : List ABlk) (a0 a1 a2 : AV) (r : AV) (post : List PB) : vcFn2 (Tz g) false ann_step_table_can Tryz.f137 pre [a0, a1, a2] (.ret r) post = vc_step_table_can (Tz g) pre a0 a1 a2 r post := by kernel_rfl
theorem hf_step_table_can : Tryz.prog.funcs[f_step_table_can]? = some Tryz.f137 := by kernel_rfl
theorem ok_step_table_can : fnVcOK Tryz.prog Tryz.f137 = true := by kernel_rfl
theorem nt_step_table_can : Nat.ble 3 Tryz.f137.ntmps = true := by kernel_rfl
theorem meetsH_step_table_can {g : GG} {pre : List ABlk} {a0 a1 a2 : AV} {r : AV} {post : List PB} (hk : Nat.ble pre.length 24 = true) (h : vc_step_table_can (Tz g) pre a0 a1 a2 r post) : MeetsH (Tz g) f_step_table_can pre [a0, a1, a2] (.ret r) post :=
  meetsH_of_vc (C := Tz g) ann_step_table_can hf_step_table_can ok_step_table_can nt_step_table_can hk (pn := false) (Eq.mpr ((vcFn2_eq _ _ _ _ _ _ _ _).trans (vc_step_table_can_eq g pre a0 a1 a2 r post)) h)
def ann_step_table_may : Nat → List Nat := fun n => match n with | 3 => [1, 3, 4] | 7 => [1, 3, 29, 30] | _ => []
def vc_step_table_may_k0 (_P : Ctx) (_pre : List ABlk) (_r : AV) (_post : List PB) (h0 : Heap) (vs1 : List AV) (v2 : AV) (v3 : AV) (v4 : AV) (v5 : AV) (v6 : AV) (v7 : AV) (h8 : Heap) (rd9 : List Nat) (next11 : List AV → Heap → Prop) (v12 : AV) : Prop :=
  ORDX [] [0, 0, 2, 0, 14, 30, 0, 64, 0, 256, 960, 1984, 4094, 0, 16383, 32767] [(0, wr h0 h0, (ids (nth vs1 0))), (1, wr h0 h0, (ids (nth vs1 0))), (2, wr h0 h0, (ids v2)), (4, wr h0 h0, (ids v3)), (5, wr h0 h0, (ids v4)), (6, wr h0 h0, (ids (nth vs1 0))), (7, wr h0 h0, (ids v5)), (10, wr h0 h0, (ids v6)), (11, wr h0 h0, (ids v7)), (14, wr h0 h8, rd9)] ∧
  BIN 0 .add (nth vs1 3) (.d (.num .i64 1)) fun v10 =>
  next11 [(nth vs1 0), v12, (nth vs1 2), v10] h8
def vc_step_table_may_k1 (P : Ctx) (pre : List ABlk) (r : AV) (post : List PB) (vs0 : List AV) (h2 : Heap) (next17 : List AV → Heap → Prop) : Prop :=
  BIN 0 .lss (nth vs0 3) (nth vs0 2) fun v1 =>
  COND v1
  (LOAD true 5 (nth vs0 0) h2 fun v3 =>
  FADDR 3 (nth vs0 0) h2 fun v4 =>
  LOAD false 1 v4 h2 fun v5 =>
  IADDR 1 T_int v5 (nth vs0 3) h2 fun v6 =>
  LOAD false 1 v6 h2 fun v7 =>
  FADDR 3 (nth vs0 0) h2 fun v8 =>
  LOAD false 1 v8 h2 fun v9 =>
  BIN 0 .add (nth vs0 3) (.d (.num .i64 1)) fun v10 =>
  IADDR 1 T_int v9 v10 h2 fun v11 =>
  LOAD false 1 v11 h2 fun v12 =>
  BUILD [(0, 1), (1, 1)] [.d (.num .i64 0), .d (.num .i64 0)] [(0, v7), (1, v12)] fun v13 =>
  CALL P f_step_table_can [v3, v13, (nth vs0 1)] 360 h2 (fun rd14 v15 h16 =>
  vc_step_table_may_k0 P pre r post h2 vs0 v4 v5 v6 v8 v9 v11 h16 rd14 next17 v15)
  (fun _ _ _ => False))
  (LEN false (nth vs0 1) h2 fun v18 =>
  BIN 0 .gtr v18 (.d (.num .i64 0)) fun v19 =>
  POST v19 h2 pre r post)
def vc_step_table_may_k2 (P : Ctx) (pre : List ABlk) (r : AV) (post : List PB) (vs0 : List AV) (h1 : Heap) (next14 : List AV → Heap → Prop) : Prop :=
  FADDR 0 (nth vs0 0) h1 fun v2 =>
  FADDR 0 v2 h1 fun v3 =>
  LOAD false 1 v3 h1 fun v4 =>
  IADDR 2 T_api_Span v4 (.d (.num .i64 0)) h1 fun v5 =>
  FADDR 1 v5 h1 fun v6 =>
  LOAD false 1 v6 h1 fun v7 =>
  BIN 0 .leq (nth vs0 2) v7 fun v8 =>
  COND v8
  (MKS T_int 1 [(nth vs0 2)] 192 h1 fun v9 h10 =>
  APP T_int 1 (nth vs0 1) v9 200 h10 fun v11 h12 =>
  BIN 0 .add (nth vs0 2) (.d (.num .i64 1)) fun v13 =>
  next14 [(nth vs0 0), v11, v13] h12)
  (FADDR 3 (nth vs0 0) h1 fun v15 =>
  LOAD false 1 v15 h1 fun v16 =>
  LEN false v16 h1 fun v17 =>
  BIN 0 .sub v17 (.d (.num .i64 1)) fun v18 =>
  LOOP [(nth vs0 0), (nth vs0 1), v18, (.d (.num .i64 0))] h1 216 fun vs19 h20 next21 =>
  vc_step_table_may_k1 P pre r post vs19 h20 next21)
def vc_step_table_may (P : Ctx) (pre : List ABlk) (a0 : AV) (r : AV) (post : List PB) : Prop :=
  let h0 : Heap := numbered 0 pre
  BOX T_step_table a0 24 h0 fun v1 h1 =>
  FADDR 0 v1 h1 fun v6 =>
  FADDR 0 v6 h1 fun v7 =>
  LOAD false 1 v7 h1 fun v8 =>
  IADDR 2 T_api_Span v8 (.d (.num .i64 0)) h1 fun v9 =>
  FADDR 0 v9 h1 fun v10 =>
  LOAD false 1 v10 h1 fun v11 =>
  LOOP [v1, .zc, v11] h1 104 fun vs2 h3 next2 =>
  vc_step_table_may_k2 P pre r post vs2 h3 next2
theorem vc_step_table_may_eq (g : GG) (pre : List ABlk) (a0 : AV) (r : AV) (post : List PB) : vcFn2 (Tz g) false ann_step_table_may Tryz.f72 pre [a0] (.ret r) post = vc_step_table_may (Tz g) pre a0 r post := by kernel_rfl
theorem hf_step_table_may : Tryz.prog.funcs[f_step_table_may]? = some Tryz.f72 := by kernel_rfl
theorem ok_step_table_may : fnVcOK Tryz.prog Tryz.f72 = true := by kernel_rfl
theorem nt_step_table_may : Nat.ble 1 Tryz.f72.ntmps = true := by kernel_rfl
theorem meetsH_step_table_may {g : GG} {pre : List ABlk} {a0 : AV} {r : AV} {post : List PB} (hk : Nat.ble pre.length 24 = true) (h : vc_step_table_may (Tz g) pre a0 r post) : MeetsH (Tz g) f_step_table_may pre [a0] (.ret r) post :=
  meetsH_of_vc (C := Tz g) ann_step_table_may hf_step_table_may ok_step_table_may nt_step_table_may hk (pn := false) (Eq.mpr ((vcFn2_eq _ _ _ _ _ _ _ _).trans (vc_step_table_may_eq g pre a0 r post)) h)
def ann_step_table_surely : Nat → List Nat := fun n => match n with  | _ => []
def vc_step_table_surely (P : Ctx) (pre : List ABlk) (a0 : AV) (r : AV) (post : List PB) : Prop :=
  let h0 : Heap := numbered 0 pre
  BOX T_step_table a0 24 h0 fun v1 h1 =>
  LOAD true 5 v1 h1 fun v3 =>
  CALL P f_step_attempt [(.fn f_step_table_mustBeSure [v3] [])] 56 h1 (fun _ v5 h2 =>
  BIN 0 .eql v5 (.d (.num .i64 0)) fun v6 =>
  POST v6 h2 pre r post)
  (fun _ _ _ => False)
theorem vc_step_table_surely_eq (g : GG) (pre : List ABlk) (a0 : AV) (r : AV) (post : List PB) : vcFn2 (Tz g) false ann_step_table_surely Tryz.f71 pre [a0] (.ret r) post = vc_step_table_surely (Tz g) pre a0 r post := by kernel_rfl
theorem hf_step_table_surely : Tryz.prog.funcs[f_step_table_surely]? = some Tryz.f71 := by kernel_rfl
theorem ok_step_table_surely : fnVcOK Tryz.prog Tryz.f71 = true := by kernel_rfl
theorem nt_step_table_surely : Nat.ble 1 Tryz.f71.ntmps = true := by kernel_rfl
theorem meetsH_step_table_surely {g : GG} {pre : List ABlk} {a0 : AV} {r : AV} {post : List PB} (hk : Nat.ble pre.length 24 = true) (h : vc_step_table_surely (Tz g) pre a0 r post) : MeetsH (Tz g) f_step_table_surely pre [a0] (.ret r) post :=
  meetsH_of_vc (C := Tz g) ann_step_table_surely hf_step_table_surely ok_step_table_surely nt_step_table_surely hk (pn := false) (Eq.mpr ((vcFn2_eq _ _ _ _ _ _ _ _).trans (vc_step_table_surely_eq g pre a0 r post)) h)
def ann_step_Word : Nat → List Nat := fun n => match n with  | _ => []
def vc_step_Word_k0 (P : Ctx) (pre : List ABlk) (r : AV) (post : List PB) (v0 : AV) (h1 : Heap) (v2 : AV) : Prop :=
  COND v0
  (POST (.tup [(.d (.num .i64 3)), (.d (.num .i64 0))]) h1 pre r post)
  (LOAD true 5 v2 h1 fun v3 =>
  CALL P f_step_table_may [v3] 192 h1 (fun _ v5 h6 =>
  COND v5
  (POST (.tup [(.d (.num .i64 2)), (.d (.num .i64 0))]) h6 pre r post)
  (POST (.tup [(.d (.num .i64 1)), (.d (.num .i64 0))]) h6 pre r post))
  (fun _ _ _ => False))
def vc_step_Word_k1 (P : Ctx) (pre : List ABlk) (r : AV) (post : List PB) (h0 : Heap) (v3 : AV) : Prop :=
  ALLOC T_step_table [.zc, .d (.num .i64 0), .d (.num .i64 0), .zc, .any] 144 h0 fun v1 h2 =>
  STORE 5 v1 v3 h2 fun h4 =>
  LOAD true 5 v1 h4 fun v5 =>
  CALL P f_step_table_surely [v5] 168 h4 (fun _ v7 h8 =>
  vc_step_Word_k0 P pre r post v7 h8 v1)
  (fun _ _ _ => False)
def vc_step_Word_k2 (P : Ctx) (pre : List ABlk) (r : AV) (post : List PB) (v0 : AV) (h2 : Heap) (v3 : AV) (a5 : AV) : Prop :=
  NOT v0 fun v1 =>
  CONDG v1
  (POST (.tup [(.d (.num .i64 0)), (.d (.num .i64 2))]) h2 pre r post)
  (LOAD true 3 v3 h2 fun v4 =>
  CALL P f_step_isKept [v4, a5] 96 h2 (fun _ v7 h8 =>
  NOT v7 fun v9 =>
  COND v9
  (POST (.tup [(.d (.num .i64 0)), (.d (.num .i64 2))]) h8 pre r post)
  (LOAD true 3 v3 h8 fun v10 =>
  CALL P f_step_tableOf [v10, a5] 136 h8 (fun _ v12 h13 =>
  vc_step_Word_k1 P pre r post h13 v12)
  (fun _ _ _ => False)))
  (fun _ _ _ => False))
def vc_step_Word (P : Ctx) (pre : List ABlk) (a0 a1 : AV) (r : AV) (post : List PB) : Prop :=
  let h0 : Heap := numbered 0 pre
  BOX T_api_StepTable a0 24 h0 fun v2 h1 =>
  LOAD true 3 v2 h1 fun v7 =>
  CALL P f_step_isTable [v7] 56 h1 (fun _ v8 h2 =>
  vc_step_Word_k2 P pre r post v8 h2 v2 a1)
  (fun _ _ _ => False)
theorem vc_step_Word_eq (g : GG) (pre : List ABlk) (a0 a1 : AV) (r : AV) (post : List PB) : vcFn2 (Tz g) false ann_step_Word Tryz.f23 pre [a0, a1] (.ret r) post = vc_step_Word (Tz g) pre a0 a1 r post := by kernel_rfl
theorem hf_step_Word : Tryz.prog.funcs[f_step_Word]? = some Tryz.f23 := by kernel_rfl
theorem ok_step_Word : fnVcOK Tryz.prog Tryz.f23 = true := by kernel_rfl
theorem nt_step_Word : Nat.ble 2 Tryz.f23.ntmps = true := by kernel_rfl
theorem meetsH_step_Word {g : GG} {pre : List ABlk} {a0 a1 : AV} {r : AV} {post : List PB} (hk : Nat.ble pre.length 24 = true) (h : vc_step_Word (Tz g) pre a0 a1 r post) : MeetsH (Tz g) f_step_Word pre [a0, a1] (.ret r) post :=
  meetsH_of_vc (C := Tz g) ann_step_Word hf_step_Word ok_step_Word nt_step_Word hk (pn := false) (Eq.mpr ((vcFn2_eq _ _ _ _ _ _ _ _).trans (vc_step_Word_eq g pre a0 a1 r post)) h)
theorem meets_step_Word {g : GG} {a0 a1 : D} {r : Res} (h : vc_step_Word (Tz g) [] (.d a0) (.d a1) r.val (r.bl.map .upd)) : Meets (Tz g) f_step_Word [a0, a1] r := meetsH_step_Word rfl h
end Go.Vc

namespace Go.Vc
open Go Go.Proofs Go.RowKit
def ann_column_in : Nat → List Nat := fun n => match n with  | _ => []
def vc_column_in (_P : Ctx) (pre : List ABlk) (a0 a1 a2 : AV) (r : AV) (post : List PB) : Prop :=
  let h0 : Heap := numbered 0 pre
  BIN 0 .geq a0 a1 fun v9 =>
  CONDG v9
  (BIN 0 .leq a0 a2 fun v13 =>
  POST v13 h0 pre r post)
  (POST (.d (.bool false)) h0 pre r post)
theorem vc_column_in_eq (g : GG) (pre : List ABlk) (a0 a1 a2 : AV) (r : AV) (post : List PB) : vcFn2 (Tz g) false ann_column_in Tryz.f131 pre [a0, a1, a2] (.ret r) post = vc_column_in (Tz g) pre a0 a1 a2 r post := by kernel_rfl
theorem hf_column_in : Tryz.prog.funcs[f_column_in]? = some Tryz.f131 := by kernel_rfl
theorem ok_column_in : fnVcOK Tryz.prog Tryz.f131 = true := by kernel_rfl
theorem nt_column_in : Nat.ble 3 Tryz.f131.ntmps = true := by kernel_rfl
theorem meetsH_column_in {g : GG} {pre : List ABlk} {a0 a1 a2 : AV} {r : AV} {post : List PB} (hk : Nat.ble pre.length 24 = true) (h : vc_column_in (Tz g) pre a0 a1 a2 r post) : MeetsH (Tz g) f_column_in pre [a0, a1, a2] (.ret r) post :=
  meetsH_of_vc (C := Tz g) ann_column_in hf_column_in ok_column_in nt_column_in hk (pn := false) (Eq.mpr ((vcFn2_eq _ _ _ _ _ _ _ _).trans (vc_column_in_eq g pre a0 a1 a2 r post)) h)
theorem meets_column_in {g : GG} {a0 a1 a2 : D} {r : Res} (h : vc_column_in (Tz g) [] (.d a0) (.d a1) (.d a2) r.val (r.bl.map .upd)) : Meets (Tz g) f_column_in [a0, a1, a2] r := meetsH_column_in rfl h
def ann_column_isSheet : Nat → List Nat := fun n => match n with  | _ => []
def vc_column_isSheet_k0 (P : Ctx) (pre : List ABlk) (r : AV) (post : List PB) (v0 : AV) (h2 : Heap) (v3 : AV) : Prop :=
  NOT v0 fun v1 =>
  COND v1
  (POST (.d (.bool false)) h2 pre r post)
  (FADDR 0 v3 h2 fun v4 =>
  LOAD false 1 v4 h2 fun v5 =>
  CALL P f_slices_ContainsFunc_l_int_int [v5, (.d (.fn f_column_isSheet_1 [] []))] 280 h2 (fun _ v7 h8 =>
  NOT v7 fun v9 =>
  POST v9 h8 pre r post)
  (fun _ _ _ => False))
def vc_column_isSheet_k1 (P : Ctx) (pre : List ABlk) (r : AV) (post : List PB) (v0 : AV) (h2 : Heap) (v3 : AV) : Prop :=
  NOT v0 fun v1 =>
  CONDG v1
  (POST (.d (.bool false)) h2 pre r post)
  (FADDR 2 v3 h2 fun v4 =>
  FADDR 1 v4 h2 fun v5 =>
  LOAD false 1 v5 h2 fun v6 =>
  FADDR 2 v3 h2 fun v7 =>
  FADDR 0 v7 h2 fun v8 =>
  LOAD false 1 v8 h2 fun v9 =>
  CALL P f_column_in [v6, v9, (.d (.num .i64 99999))] 240 h2 (fun _ v11 h12 =>
  vc_column_isSheet_k0 P pre r post v11 h12 v3)
  (fun _ _ _ => False))
def vc_column_isSheet_k2 (P : Ctx) (pre : List ABlk) (r : AV) (post : List PB) (v0 : AV) (h2 : Heap) (v3 : AV) : Prop :=
  NOT v0 fun v1 =>
  CONDG v1
  (POST (.d (.bool false)) h2 pre r post)
  (FADDR 2 v3 h2 fun v4 =>
  FADDR 0 v4 h2 fun v5 =>
  LOAD false 1 v5 h2 fun v6 =>
  CALL P f_column_in [v6, (.d (.num .i64 (-99999))), (.d (.num .i64 99999))] 160 h2 (fun _ v8 h9 =>
  vc_column_isSheet_k1 P pre r post v8 h9 v3)
  (fun _ _ _ => False))
def vc_column_isSheet_k3 (P : Ctx) (pre : List ABlk) (r : AV) (post : List PB) (v0 : AV) (h2 : Heap) (v3 : AV) : Prop :=
  NOT v0 fun v1 =>
  CONDG v1
  (POST (.d (.bool false)) h2 pre r post)
  (FADDR 1 v3 h2 fun v4 =>
  LOAD false 1 v4 h2 fun v5 =>
  CALL P f_column_in [v5, (.d (.num .i64 1)), (.d (.num .i64 3))] 104 h2 (fun _ v7 h8 =>
  vc_column_isSheet_k2 P pre r post v7 h8 v3)
  (fun _ _ _ => False))
def vc_column_isSheet (P : Ctx) (pre : List ABlk) (a0 : AV) (r : AV) (post : List PB) : Prop :=
  let h0 : Heap := numbered 0 pre
  BOX T_api_ColumnSheet a0 24 h0 fun v1 h1 =>
  FADDR 0 v1 h1 fun v3 =>
  LOAD false 1 v3 h1 fun v4 =>
  LEN false v4 h1 fun v5 =>
  CALL P f_column_in [v5, (.d (.num .i64 1)), (.d (.num .i64 14))] 64 h1 (fun _ v6 h2 =>
  vc_column_isSheet_k3 P pre r post v6 h2 v1)
  (fun _ _ _ => False)
theorem vc_column_isSheet_eq (g : GG) (pre : List ABlk) (a0 : AV) (r : AV) (post : List PB) : vcFn2 (Tz g) false ann_column_isSheet Tryz.f68 pre [a0] (.ret r) post = vc_column_isSheet (Tz g) pre a0 r post := by kernel_rfl
theorem hf_column_isSheet : Tryz.prog.funcs[f_column_isSheet]? = some Tryz.f68 := by kernel_rfl
theorem ok_column_isSheet : fnVcOK Tryz.prog Tryz.f68 = true := by kernel_rfl
theorem nt_column_isSheet : Nat.ble 1 Tryz.f68.ntmps = true := by kernel_rfl
theorem meetsH_column_isSheet {g : GG} {pre : List ABlk} {a0 : AV} {r : AV} {post : List PB} (hk : Nat.ble pre.length 24 = true) (h : vc_column_isSheet (Tz g) pre a0 r post) : MeetsH (Tz g) f_column_isSheet pre [a0] (.ret r) post :=
  meetsH_of_vc (C := Tz g) ann_column_isSheet hf_column_isSheet ok_column_isSheet nt_column_isSheet hk (pn := false) (Eq.mpr ((vcFn2_eq _ _ _ _ _ _ _ _).trans (vc_column_isSheet_eq g pre a0 r post)) h)
theorem meets_column_isSheet {g : GG} {a0 : D} {r : Res} (h : vc_column_isSheet (Tz g) [] (.d a0) r.val (r.bl.map .upd)) : Meets (Tz g) f_column_isSheet [a0] r := meetsH_column_isSheet rfl h
def ann_column_isSheet_1 : Nat → List Nat := fun n => match n with  | _ => []
def vc_column_isSheet_1 (P : Ctx) (pre : List ABlk) (a0 : AV) (r : AV) (post : List PB) : Prop :=
  let h0 : Heap := numbered 0 pre
  CALL P f_column_in [a0, (.d (.num .i64 (-9999))), (.d (.num .i64 9999))] 40 h0 (fun _ v4 h1 =>
  NOT v4 fun v5 =>
  POST v5 h1 pre r post)
  (fun _ _ _ => False)
theorem vc_column_isSheet_1_eq (g : GG) (pre : List ABlk) (a0 : AV) (r : AV) (post : List PB) : vcFn2 (Tz g) false ann_column_isSheet_1 Tryz.f132 pre [a0] (.ret r) post = vc_column_isSheet_1 (Tz g) pre a0 r post := by kernel_rfl
theorem hf_column_isSheet_1 : Tryz.prog.funcs[f_column_isSheet_1]? = some Tryz.f132 := by kernel_rfl
theorem ok_column_isSheet_1 : fnVcOK Tryz.prog Tryz.f132 = true := by kernel_rfl
theorem nt_column_isSheet_1 : Nat.ble 1 Tryz.f132.ntmps = true := by kernel_rfl
theorem meetsH_column_isSheet_1 {g : GG} {pre : List ABlk} {a0 : AV} {r : AV} {post : List PB} (hk : Nat.ble pre.length 24 = true) (h : vc_column_isSheet_1 (Tz g) pre a0 r post) : MeetsH (Tz g) f_column_isSheet_1 pre [a0] (.ret r) post :=
  meetsH_of_vc (C := Tz g) ann_column_isSheet_1 hf_column_isSheet_1 ok_column_isSheet_1 nt_column_isSheet_1 hk (pn := false) (Eq.mpr ((vcFn2_eq _ _ _ _ _ _ _ _).trans (vc_column_isSheet_1_eq g pre a0 r post)) h)
theorem meets_column_isSheet_1 {g : GG} {a0 : D} {r : Res} (h : vc_column_isSheet_1 (Tz g) [] (.d a0) r.val (r.bl.map .upd)) : Meets (Tz g) f_column_isSheet_1 [a0] r := meetsH_column_isSheet_1 rfl h
def ann_column_differences : Nat → List Nat := fun n => match n with | 3 => [5, 9, 10] | 5 => [5, 9, 10, 14, 15] | _ => []
def vc_column_differences_k0 (_P : Ctx) (_pre : List ABlk) (_r : AV) (_post : List PB) (vs0 : List AV) (h3 : Heap) (next12 : List AV → Heap → Prop) (next18 : List AV → Heap → Prop) : Prop :=
  BIN 0 .lss (nth vs0 4) (nth vs0 3) fun v1 =>
  COND v1
  (BIN 0 .add (nth vs0 4) (.d (.num .i64 1)) fun v2 =>
  IADDR 1 T_int (nth vs0 0) v2 h3 fun v4 =>
  LOAD false 1 v4 h3 fun v5 =>
  IADDR 1 T_int (nth vs0 0) (nth vs0 4) h3 fun v6 =>
  LOAD false 1 v6 h3 fun v7 =>
  BIN 0 .sub v5 v7 fun v8 =>
  IADDR 1 T_int (nth vs0 0) (nth vs0 4) h3 fun v9 =>
  STORE 1 v9 v8 h3 fun h10 =>
  ORDX [] [0, 0, 0, 0, 8, 28, 60, 0, 0, 384, 896, 2044, 4095, 8191] [(5, wr h3 h3, (ids (nth vs0 0))), (6, wr h3 h3, (ids v4)), (9, wr h3 h3, (ids (nth vs0 0))), (10, wr h3 h3, (ids v6)), (12, wr h3 h3, (ids (nth vs0 0))), (13, wr h3 h10, (ids v9))] ∧
  BIN 0 .add (nth vs0 4) (.d (.num .i64 1)) fun v11 =>
  next12 [(nth vs0 0), (nth vs0 1), (nth vs0 2), (nth vs0 3), v11] h10)
  (LEN false (nth vs0 0) h3 fun v13 =>
  BIN 0 .sub v13 (.d (.num .i64 1)) fun v14 =>
  SLICEH 2 (nth vs0 0) none (some v14) none h3 fun v15 h16 =>
  BIN 0 .add (nth vs0 2) (.d (.num .i64 1)) fun v17 =>
  next18 [v15, (nth vs0 1), v17] h16)
def vc_column_differences_k1 (P : Ctx) (pre : List ABlk) (r : AV) (post : List PB) (vs0 : List AV) (h2 : Heap) (next8 : List AV → Heap → Prop) : Prop :=
  BIN 0 .lss (nth vs0 2) (nth vs0 1) fun v1 =>
  COND v1
  (LEN false (nth vs0 0) h2 fun v3 =>
  BIN 0 .sub v3 (.d (.num .i64 1)) fun v4 =>
  LOOP [(nth vs0 0), (nth vs0 1), (nth vs0 2), v4, (.d (.num .i64 0))] h2 120 fun vs5 h6 next7 =>
  vc_column_differences_k0 P pre r post vs5 h6 next7 next8)
  (POST (nth vs0 0) h2 pre r post)
def vc_column_differences (P : Ctx) (pre : List ABlk) (a0 a1 : AV) (r : AV) (post : List PB) : Prop :=
  let h0 : Heap := numbered 0 pre
  CALL P f_slices_Clone_l_int_int [a0] 40 h0 (fun _ v8 h1 =>
  LOOP [v8, a1, (.d (.num .i64 0))] h1 72 fun vs3 h4 next3 =>
  vc_column_differences_k1 P pre r post vs3 h4 next3)
  (fun _ _ _ => False)
theorem vc_column_differences_eq (g : GG) (pre : List ABlk) (a0 a1 : AV) (r : AV) (post : List PB) : vcFn2 (Tz g) false ann_column_differences Tryz.f133 pre [a0, a1] (.ret r) post = vc_column_differences (Tz g) pre a0 a1 r post := by kernel_rfl
theorem hf_column_differences : Tryz.prog.funcs[f_column_differences]? = some Tryz.f133 := by kernel_rfl
theorem ok_column_differences : fnVcOK Tryz.prog Tryz.f133 = true := by kernel_rfl
theorem nt_column_differences : Nat.ble 2 Tryz.f133.ntmps = true := by kernel_rfl
theorem meetsH_column_differences {g : GG} {pre : List ABlk} {a0 a1 : AV} {r : AV} {post : List PB} (hk : Nat.ble pre.length 24 = true) (h : vc_column_differences (Tz g) pre a0 a1 r post) : MeetsH (Tz g) f_column_differences pre [a0, a1] (.ret r) post :=
  meetsH_of_vc (C := Tz g) ann_column_differences hf_column_differences ok_column_differences nt_column_differences hk (pn := false) (Eq.mpr ((vcFn2_eq _ _ _ _ _ _ _ _).trans (vc_column_differences_eq g pre a0 a1 r post)) h)
theorem meets_column_differences {g : GG} {a0 a1 : D} {r : Res} (h : vc_column_differences (Tz g) [] (.d a0) (.d a1) r.val (r.bl.map .upd)) : Meets (Tz g) f_column_differences [a0, a1] r := meetsH_column_differences rfl h
def ann_column_sheet_jumps : Nat → List Nat := fun n => match n with  | _ => []
def vc_column_sheet_jumps_k0 (_P : Ctx) (pre : List ABlk) (r : AV) (post : List PB) (v0 : AV) (h2 : Heap) (v3 : AV) (v4 : AV) (v5 : AV) (v6 : AV) (v7 : AV) (v8 : AV) (v9 : AV) (v10 : AV) (v11 : AV) (v12 : AV) (h13 : Heap) (rd14 : List Nat) : Prop :=
  NOT v0 fun v1 =>
  ORDX [] [0, 1, 0, 7, 15, 0, 32, 96, 224, 0, 512, 1536, 3584, 8191, 16383, 32767] [(0, wr h2 h2, (ids v3)), (1, wr h2 h2, (ids v4)), (3, wr h2 h2, (ids v5)), (4, wr h2 h2, (ids v6)), (5, wr h2 h2, (ids v3)), (6, wr h2 h2, (ids v7)), (7, wr h2 h2, (ids v8)), (8, wr h2 h2, (ids v9)), (9, wr h2 h2, (ids v3)), (10, wr h2 h2, (ids v10)), (11, wr h2 h2, (ids v11)), (12, wr h2 h2, (ids v12)), (13, wr h2 h13, rd14)] ∧
  POST v1 h13 pre r post
def vc_column_sheet_jumps (P : Ctx) (pre : List ABlk) (a0 a1 : AV) (r : AV) (post : List PB) : Prop :=
  let h0 : Heap := numbered 0 pre
  BOX T_column_sheet a0 24 h0 fun v2 h1 =>
  FADDR 4 v2 h1 fun v5 =>
  LOAD false 1 v5 h1 fun v6 =>
  IADDR 1 T_int v6 a1 h1 fun v8 =>
  LOAD false 1 v8 h1 fun v9 =>
  FADDR 0 v2 h1 fun v10 =>
  FADDR 2 v10 h1 fun v11 =>
  FADDR 0 v11 h1 fun v12 =>
  LOAD false 1 v12 h1 fun v13 =>
  FADDR 0 v2 h1 fun v14 =>
  FADDR 2 v14 h1 fun v15 =>
  FADDR 1 v15 h1 fun v16 =>
  LOAD false 1 v16 h1 fun v17 =>
  CALL P f_column_in [v9, v13, v17] 144 h1 (fun rd3 v18 h2 =>
  vc_column_sheet_jumps_k0 P pre r post v18 h1 v2 v5 v6 v8 v10 v11 v12 v14 v15 v16 h2 rd3)
  (fun _ _ _ => False)
theorem vc_column_sheet_jumps_eq (g : GG) (pre : List ABlk) (a0 a1 : AV) (r : AV) (post : List PB) : vcFn2 (Tz g) false ann_column_sheet_jumps Tryz.f134 pre [a0, a1] (.ret r) post = vc_column_sheet_jumps (Tz g) pre a0 a1 r post := by kernel_rfl
theorem hf_column_sheet_jumps : Tryz.prog.funcs[f_column_sheet_jumps]? = some Tryz.f134 := by kernel_rfl
theorem ok_column_sheet_jumps : fnVcOK Tryz.prog Tryz.f134 = true := by kernel_rfl
theorem nt_column_sheet_jumps : Nat.ble 2 Tryz.f134.ntmps = true := by kernel_rfl
theorem meetsH_column_sheet_jumps {g : GG} {pre : List ABlk} {a0 a1 : AV} {r : AV} {post : List PB} (hk : Nat.ble pre.length 24 = true) (h : vc_column_sheet_jumps (Tz g) pre a0 a1 r post) : MeetsH (Tz g) f_column_sheet_jumps pre [a0, a1] (.ret r) post :=
  meetsH_of_vc (C := Tz g) ann_column_sheet_jumps hf_column_sheet_jumps ok_column_sheet_jumps nt_column_sheet_jumps hk (pn := false) (Eq.mpr ((vcFn2_eq _ _ _ _ _ _ _ _).trans (vc_column_sheet_jumps_eq g pre a0 a1 r post)) h)
def ann_column_sheetOf : Nat → List Nat := fun n => match n with | 5 => [1, 2, 3, 23, 24] | 9 => [1, 2, 3, 4, 23, 24, 32, 33] | _ => []
def vc_column_sheetOf_k0 (_P : Ctx) (_pre : List ABlk) (_r : AV) (_post : List PB) (vs0 : List AV) (h2 : Heap) (next10 : List AV → Heap → Prop) (next12 : List AV → Heap → Prop) : Prop :=
  BIN 0 .lss (nth vs0 7) (nth vs0 6) fun v1 =>
  COND v1
  (FADDR 5 (nth vs0 2) h2 fun v3 =>
  LOAD false 1 v3 h2 fun v4 =>
  BIN 0 .add (nth vs0 3) (nth vs0 7) fun v5 =>
  BUILD [(0, 1), (1, 1)] [.d (.num .i64 0), .d (.num .i64 0)] [(0, (nth vs0 3)), (1, v5)] fun v6 =>
  BUILD [] [] [] fun v7 =>
  MUPD 1002 v4 v6 v7 h2 fun h8 =>
  BIN 0 .add (nth vs0 7) (.d (.num .i64 1)) fun v9 =>
  next10 [(nth vs0 0), (nth vs0 1), (nth vs0 2), (nth vs0 3), (nth vs0 4), (nth vs0 5), (nth vs0 6), v9] h8)
  (BIN 0 .add (nth vs0 5) (.d (.num .i64 1)) fun v11 =>
  next12 [(nth vs0 0), (nth vs0 1), (nth vs0 2), (nth vs0 4), v11] h2)
def vc_column_sheetOf_k1 (P : Ctx) (pre : List ABlk) (r : AV) (post : List PB) (v0 : AV) (vs1 : List AV) (h2 : Heap) (next9 : List AV → Heap → Prop) : Prop :=
  COND v0
  (FADDR 1 (nth vs1 0) h2 fun v3 =>
  LOAD false 1 v3 h2 fun v4 =>
  BIN 0 .add v4 (.d (.num .i64 1)) fun v5 =>
  LOOP [(nth vs1 0), (nth vs1 1), (nth vs1 2), (nth vs1 4), (nth vs1 3), (nth vs1 4), v5, (.d (.num .i64 0))] h2 304 fun vs6 h7 next8 =>
  vc_column_sheetOf_k0 P pre r post vs6 h7 next8 next9)
  (BIN 0 .add (nth vs1 4) (.d (.num .i64 1)) fun v10 =>
  next9 [(nth vs1 0), (nth vs1 1), (nth vs1 2), (nth vs1 3), v10] h2)
def vc_column_sheetOf_k2 (P : Ctx) (pre : List ABlk) (r : AV) (post : List PB) (vs0 : List AV) (h2 : Heap) (next7 : List AV → Heap → Prop) : Prop :=
  BIN 0 .lss (nth vs0 4) (nth vs0 3) fun v1 =>
  COND v1
  (LOAD true 6 (nth vs0 2) h2 fun v3 =>
  CALL P f_column_sheet_jumps [v3, (nth vs0 4)] 264 h2 (fun _ v5 h6 =>
  vc_column_sheetOf_k1 P pre r post v5 vs0 h6 next7)
  (fun _ _ _ => False))
  (LOAD true 6 (nth vs0 2) h2 fun v8 =>
  STORE 6 (nth vs0 1) v8 h2 fun h9 =>
  LOAD true 6 (nth vs0 1) h9 fun r17 =>
  POST r17 h9 pre r post)
def vc_column_sheetOf_k3 (P : Ctx) (pre : List ABlk) (r : AV) (post : List PB) (v0 : AV) (h1 : Heap) (v3 : AV) (v8 : AV) (v9 : AV) : Prop :=
  FADDR 4 v0 h1 fun v2 =>
  STORE 1 v2 v3 h1 fun h4 =>
  FADDR 4 v0 h4 fun v5 =>
  LOAD false 1 v5 h4 fun v6 =>
  LEN false v6 h4 fun v7 =>
  LOOP [v8, v9, v0, v7, (.d (.num .i64 0))] h4 216 fun vs10 h11 next12 =>
  vc_column_sheetOf_k2 P pre r post vs10 h11 next12
def vc_column_sheetOf_k4 (P : Ctx) (pre : List ABlk) (r : AV) (post : List PB) (v0 : AV) (vs1 : List AV) (h2 : Heap) (next9 : List AV → Heap → Prop) : Prop :=
  COND v0
  (FADDR 1 (nth vs1 0) h2 fun v3 =>
  LOAD false 1 v3 h2 fun v4 =>
  BIN 0 .add v4 (.d (.num .i64 1)) fun v5 =>
  LOOP [(nth vs1 0), (nth vs1 1), (nth vs1 2), (nth vs1 4), (nth vs1 3), (nth vs1 4), v5, (.d (.num .i64 0))] h2 248 fun vs6 h7 next8 =>
  vc_column_sheetOf_k0 P pre r post vs6 h7 next8 next9)
  (BIN 0 .add (nth vs1 4) (.d (.num .i64 1)) fun v10 =>
  next9 [(nth vs1 0), (nth vs1 1), (nth vs1 2), (nth vs1 3), v10] h2)
def vc_column_sheetOf_k5 (P : Ctx) (pre : List ABlk) (r : AV) (post : List PB) (vs0 : List AV) (h2 : Heap) (next7 : List AV → Heap → Prop) : Prop :=
  BIN 0 .lss (nth vs0 4) (nth vs0 3) fun v1 =>
  COND v1
  (LOAD true 6 (nth vs0 2) h2 fun v3 =>
  CALL P f_column_sheet_jumps [v3, (nth vs0 4)] 208 h2 (fun _ v5 h6 =>
  vc_column_sheetOf_k4 P pre r post v5 vs0 h6 next7)
  (fun _ _ _ => False))
  (LOAD true 6 (nth vs0 2) h2 fun v8 =>
  STORE 6 (nth vs0 1) v8 h2 fun h9 =>
  LOAD true 6 (nth vs0 1) h9 fun r26 =>
  POST r26 h9 pre r post)
def vc_column_sheetOf (P : Ctx) (pre : List ABlk) (a0 : AV) (r : AV) (post : List PB) : Prop :=
  let h0 : Heap := numbered 0 pre
  BOX T_api_ColumnSheet a0 24 h0 fun v1 h1 =>
  ALLOC T_column_sheet [.zc, .d (.num .i64 0), .d (.num .i64 0), .d (.num .i64 0), .zc, .any] 32 h1 fun v2 h2 =>
  LOAD true 4 v1 h2 fun v6 =>
  MKMAP 48 h2 fun v7 h3 =>
  BUILD [(0, 4), (4, 1), (5, 1)] [.zc, .d (.num .i64 0), .d (.num .i64 0), .d (.num .i64 0), .zc, .any] [(0, v6), (1, .zc), (2, v7)] fun v8 =>
  ALLOC T_column_sheet [.zc, .d (.num .i64 0), .d (.num .i64 0), .d (.num .i64 0), .zc, .any] 64 h3 fun v3 h4 =>
  STORE 6 v3 v8 h4 fun h5 =>
  FADDR 0 v1 h5 fun v9 =>
  LOAD false 1 v9 h5 fun v10 =>
  LEN false v10 h5 fun v11 =>
  FADDR 1 v1 h5 fun v12 =>
  LOAD false 1 v12 h5 fun v13 =>
  BIN 0 .gtr v11 v13 fun v14 =>
  COND v14
  (FADDR 0 v1 h5 fun v15 =>
  LOAD false 1 v15 h5 fun v16 =>
  FADDR 1 v1 h5 fun v17 =>
  LOAD false 1 v17 h5 fun v18 =>
  CALL P f_column_differences [v16, v18] 160 h5 (fun _ v19 h6 =>
  vc_column_sheetOf_k3 P pre r post v3 h6 v19 v1 v2)
  (fun _ _ _ => False))
  (FADDR 4 v3 h5 fun v21 =>
  LOAD false 1 v21 h5 fun v22 =>
  LEN false v22 h5 fun v23 =>
  LOOP [v1, v2, v3, v23, (.d (.num .i64 0))] h5 160 fun vs18 h19 next18 =>
  vc_column_sheetOf_k5 P pre r post vs18 h19 next18)
theorem vc_column_sheetOf_eq (g : GG) (pre : List ABlk) (a0 : AV) (r : AV) (post : List PB) : vcFn2 (Tz g) false ann_column_sheetOf Tryz.f69 pre [a0] (.ret r) post = vc_column_sheetOf (Tz g) pre a0 r post := by kernel_rfl
theorem hf_column_sheetOf : Tryz.prog.funcs[f_column_sheetOf]? = some Tryz.f69 := by kernel_rfl
theorem ok_column_sheetOf : fnVcOK Tryz.prog Tryz.f69 = true := by kernel_rfl
theorem nt_column_sheetOf : Nat.ble 1 Tryz.f69.ntmps = true := by kernel_rfl
theorem meetsH_column_sheetOf {g : GG} {pre : List ABlk} {a0 : AV} {r : AV} {post : List PB} (hk : Nat.ble pre.length 24 = true) (h : vc_column_sheetOf (Tz g) pre a0 r post) : MeetsH (Tz g) f_column_sheetOf pre [a0] (.ret r) post :=
  meetsH_of_vc (C := Tz g) ann_column_sheetOf hf_column_sheetOf ok_column_sheetOf nt_column_sheetOf hk (pn := false) (Eq.mpr ((vcFn2_eq _ _ _ _ _ _ _ _).trans (vc_column_sheetOf_eq g pre a0 r post)) h)
theorem meets_column_sheetOf {g : GG} {a0 : D} {r : Res} (h : vc_column_sheetOf (Tz g) [] (.d a0) r.val (r.bl.map .upd)) : Meets (Tz g) f_column_sheetOf [a0] r := meetsH_column_sheetOf rfl h
def ann_column_sheet_jumping : Nat → List Nat := fun n => match n with | 3 => [1, 3, 7, 8] | _ => []
def vc_column_sheet_jumping_k0 (_P : Ctx) (_pre : List ABlk) (_r : AV) (_post : List PB) (v0 : AV) (vs1 : List AV) (h2 : Heap) (next8 : List AV → Heap → Prop) : Prop :=
  COND v0
  (MKS T_int 1 [(nth vs1 3)] 152 h2 fun v3 h4 =>
  APP T_int 1 (nth vs1 1) v3 160 h4 fun v5 h6 =>
  BIN 0 .add (nth vs1 3) (.d (.num .i64 1)) fun v7 =>
  next8 [(nth vs1 0), v5, (nth vs1 2), v7] h6)
  (BIN 0 .add (nth vs1 3) (.d (.num .i64 1)) fun v7 =>
  next8 [(nth vs1 0), (nth vs1 1), (nth vs1 2), v7] h2)
def vc_column_sheet_jumping_k1 (P : Ctx) (pre : List ABlk) (r : AV) (post : List PB) (vs0 : List AV) (h2 : Heap) (next7 : List AV → Heap → Prop) : Prop :=
  BIN 0 .lss (nth vs0 3) (nth vs0 2) fun v1 =>
  COND v1
  (LOAD true 6 (nth vs0 0) h2 fun v3 =>
  CALL P f_column_sheet_jumps [v3, (nth vs0 3)] 128 h2 (fun _ v5 h6 =>
  vc_column_sheet_jumping_k0 P pre r post v5 vs0 h6 next7)
  (fun _ _ _ => False))
  (POST (nth vs0 1) h2 pre r post)
def vc_column_sheet_jumping (P : Ctx) (pre : List ABlk) (a0 : AV) (r : AV) (post : List PB) : Prop :=
  let h0 : Heap := numbered 0 pre
  BOX T_column_sheet a0 24 h0 fun v1 h1 =>
  FADDR 4 v1 h1 fun v5 =>
  LOAD false 1 v5 h1 fun v6 =>
  LEN false v6 h1 fun v7 =>
  LOOP [v1, .zc, v7, (.d (.num .i64 0))] h1 80 fun vs2 h3 next2 =>
  vc_column_sheet_jumping_k1 P pre r post vs2 h3 next2
theorem vc_column_sheet_jumping_eq (g : GG) (pre : List ABlk) (a0 : AV) (r : AV) (post : List PB) : vcFn2 (Tz g) false ann_column_sheet_jumping Tryz.f70 pre [a0] (.ret r) post = vc_column_sheet_jumping (Tz g) pre a0 r post := by kernel_rfl
theorem hf_column_sheet_jumping : Tryz.prog.funcs[f_column_sheet_jumping]? = some Tryz.f70 := by kernel_rfl
theorem ok_column_sheet_jumping : fnVcOK Tryz.prog Tryz.f70 = true := by kernel_rfl
theorem nt_column_sheet_jumping : Nat.ble 1 Tryz.f70.ntmps = true := by kernel_rfl
theorem meetsH_column_sheet_jumping {g : GG} {pre : List ABlk} {a0 : AV} {r : AV} {post : List PB} (hk : Nat.ble pre.length 24 = true) (h : vc_column_sheet_jumping (Tz g) pre a0 r post) : MeetsH (Tz g) f_column_sheet_jumping pre [a0] (.ret r) post :=
  meetsH_of_vc (C := Tz g) ann_column_sheet_jumping hf_column_sheet_jumping ok_column_sheet_jumping nt_column_sheet_jumping hk (pn := false) (Eq.mpr ((vcFn2_eq _ _ _ _ _ _ _ _).trans (vc_column_sheet_jumping_eq g pre a0 r post)) h)
def ann_column_Jumps : Nat → List Nat := fun n => match n with  | _ => []
def vc_column_Jumps_k0 (P : Ctx) (pre : List ABlk) (r : AV) (post : List PB) (v0 : AV) (h2 : Heap) (v3 : AV) : Prop :=
  NOT v0 fun v1 =>
  COND v1
  (POST (.tup [.zc, (.d (.num .i64 2))]) h2 pre r post)
  (LOAD true 4 v3 h2 fun v4 =>
  CALL P f_column_sheetOf [v4] 80 h2 (fun _ v6 h7 =>
  CALL P f_column_sheet_jumping [v6] 88 h7 (fun _ v9 h10 =>
  POST (.tup [v9, (.d (.num .i64 0))]) h10 pre r post)
  (fun _ _ _ => False))
  (fun _ _ _ => False))
def vc_column_Jumps (P : Ctx) (pre : List ABlk) (a0 : AV) (r : AV) (post : List PB) : Prop :=
  let h0 : Heap := numbered 0 pre
  BOX T_api_ColumnSheet a0 24 h0 fun v1 h1 =>
  LOAD true 4 v1 h1 fun v4 =>
  CALL P f_column_isSheet [v4] 56 h1 (fun _ v5 h2 =>
  vc_column_Jumps_k0 P pre r post v5 h2 v1)
  (fun _ _ _ => False)
theorem vc_column_Jumps_eq (g : GG) (pre : List ABlk) (a0 : AV) (r : AV) (post : List PB) : vcFn2 (Tz g) false ann_column_Jumps Tryz.f22 pre [a0] (.ret r) post = vc_column_Jumps (Tz g) pre a0 r post := by kernel_rfl
theorem hf_column_Jumps : Tryz.prog.funcs[f_column_Jumps]? = some Tryz.f22 := by kernel_rfl
theorem ok_column_Jumps : fnVcOK Tryz.prog Tryz.f22 = true := by kernel_rfl
theorem nt_column_Jumps : Nat.ble 1 Tryz.f22.ntmps = true := by kernel_rfl
theorem meetsH_column_Jumps {g : GG} {pre : List ABlk} {a0 : AV} {r : AV} {post : List PB} (hk : Nat.ble pre.length 24 = true) (h : vc_column_Jumps (Tz g) pre a0 r post) : MeetsH (Tz g) f_column_Jumps pre [a0] (.ret r) post :=
  meetsH_of_vc (C := Tz g) ann_column_Jumps hf_column_Jumps ok_column_Jumps nt_column_Jumps hk (pn := false) (Eq.mpr ((vcFn2_eq _ _ _ _ _ _ _ _).trans (vc_column_Jumps_eq g pre a0 r post)) h)
theorem meets_column_Jumps {g : GG} {a0 : D} {r : Res} (h : vc_column_Jumps (Tz g) [] (.d a0) r.val (r.bl.map .upd)) : Meets (Tz g) f_column_Jumps [a0] r := meetsH_column_Jumps rfl h
def ann_slices_ContainsFunc_l_int_int : Nat → List Nat := fun n => match n with  | _ => []
def vc_slices_ContainsFunc_l_int_int (P : Ctx) (pre : List ABlk) (a0 a1 : AV) (r : AV) (post : List PB) : Prop :=
  let h0 : Heap := numbered 0 pre
  CALL P f_slices_IndexFunc_l_int_int [a0, a1] 48 h0 (fun _ v7 h1 =>
  BIN 0 .geq v7 (.d (.num .i64 0)) fun v8 =>
  POST v8 h1 pre r post)
  (fun _ _ _ => False)
theorem vc_slices_ContainsFunc_l_int_int_eq (g : GG) (pre : List ABlk) (a0 a1 : AV) (r : AV) (post : List PB) : vcFn2 (Tz g) false ann_slices_ContainsFunc_l_int_int Tryz.f123 pre [a0, a1] (.ret r) post = vc_slices_ContainsFunc_l_int_int (Tz g) pre a0 a1 r post := by kernel_rfl
theorem hf_slices_ContainsFunc_l_int_int : Tryz.prog.funcs[f_slices_ContainsFunc_l_int_int]? = some Tryz.f123 := by kernel_rfl
theorem ok_slices_ContainsFunc_l_int_int : fnVcOK Tryz.prog Tryz.f123 = true := by kernel_rfl
theorem nt_slices_ContainsFunc_l_int_int : Nat.ble 2 Tryz.f123.ntmps = true := by kernel_rfl
theorem meetsH_slices_ContainsFunc_l_int_int {g : GG} {pre : List ABlk} {a0 a1 : AV} {r : AV} {post : List PB} (hk : Nat.ble pre.length 24 = true) (h : vc_slices_ContainsFunc_l_int_int (Tz g) pre a0 a1 r post) : MeetsH (Tz g) f_slices_ContainsFunc_l_int_int pre [a0, a1] (.ret r) post :=
  meetsH_of_vc (C := Tz g) ann_slices_ContainsFunc_l_int_int hf_slices_ContainsFunc_l_int_int ok_slices_ContainsFunc_l_int_int nt_slices_ContainsFunc_l_int_int hk (pn := false) (Eq.mpr ((vcFn2_eq _ _ _ _ _ _ _ _).trans (vc_slices_ContainsFunc_l_int_int_eq g pre a0 a1 r post)) h)
theorem meets_slices_ContainsFunc_l_int_int {g : GG} {a0 a1 : D} {r : Res} (h : vc_slices_ContainsFunc_l_int_int (Tz g) [] (.d a0) (.d a1) r.val (r.bl.map .upd)) : Meets (Tz g) f_slices_ContainsFunc_l_int_int [a0, a1] r := meetsH_slices_ContainsFunc_l_int_int rfl h
def ann_slices_IndexFunc_l_int_int : Nat → List Nat := fun n => match n with | 2 => [0, 1, 7, 8] | _ => []
def vc_slices_IndexFunc_l_int_int_k0 (P : Ctx) (pre : List ABlk) (r : AV) (post : List PB) (vs0 : List AV) (h2 : Heap) (next9 : List AV → Heap → Prop) : Prop :=
  BIN 0 .lss (nth vs0 3) (nth vs0 2) fun v1 =>
  COND v1
  (IADDR 1 T_int (nth vs0 0) (nth vs0 3) h2 fun v3 =>
  LOAD false 1 v3 h2 fun v4 =>
  CALLV P (nth vs0 1) [v4] 128 h2 (fun _ v6 h7 =>
  COND v6
  (POST (nth vs0 3) h7 pre r post)
  (BIN 0 .add (nth vs0 3) (.d (.num .i64 1)) fun v8 =>
  next9 [(nth vs0 0), (nth vs0 1), (nth vs0 2), v8] h7))
  (fun _ _ _ => False))
  (POST (.d (.num .i64 (-1))) h2 pre r post)
def vc_slices_IndexFunc_l_int_int (P : Ctx) (pre : List ABlk) (a0 a1 : AV) (r : AV) (post : List PB) : Prop :=
  let h0 : Heap := numbered 0 pre
  LEN false a0 h0 fun v7 =>
  LOOP [a0, a1, v7, (.d (.num .i64 0))] h0 56 fun vs1 h2 next1 =>
  vc_slices_IndexFunc_l_int_int_k0 P pre r post vs1 h2 next1
theorem vc_slices_IndexFunc_l_int_int_eq (g : GG) (pre : List ABlk) (a0 a1 : AV) (r : AV) (post : List PB) : vcFn2 (Tz g) false ann_slices_IndexFunc_l_int_int Tryz.f170 pre [a0, a1] (.ret r) post = vc_slices_IndexFunc_l_int_int (Tz g) pre a0 a1 r post := by kernel_rfl
theorem hf_slices_IndexFunc_l_int_int : Tryz.prog.funcs[f_slices_IndexFunc_l_int_int]? = some Tryz.f170 := by kernel_rfl
theorem ok_slices_IndexFunc_l_int_int : fnVcOK Tryz.prog Tryz.f170 = true := by kernel_rfl
theorem nt_slices_IndexFunc_l_int_int : Nat.ble 2 Tryz.f170.ntmps = true := by kernel_rfl
theorem meetsH_slices_IndexFunc_l_int_int {g : GG} {pre : List ABlk} {a0 a1 : AV} {r : AV} {post : List PB} (hk : Nat.ble pre.length 24 = true) (h : vc_slices_IndexFunc_l_int_int (Tz g) pre a0 a1 r post) : MeetsH (Tz g) f_slices_IndexFunc_l_int_int pre [a0, a1] (.ret r) post :=
  meetsH_of_vc (C := Tz g) ann_slices_IndexFunc_l_int_int hf_slices_IndexFunc_l_int_int ok_slices_IndexFunc_l_int_int nt_slices_IndexFunc_l_int_int hk (pn := false) (Eq.mpr ((vcFn2_eq _ _ _ _ _ _ _ _).trans (vc_slices_IndexFunc_l_int_int_eq g pre a0 a1 r post)) h)
theorem meets_slices_IndexFunc_l_int_int {g : GG} {a0 a1 : D} {r : Res} (h : vc_slices_IndexFunc_l_int_int (Tz g) [] (.d a0) (.d a1) r.val (r.bl.map .upd)) : Meets (Tz g) f_slices_IndexFunc_l_int_int [a0, a1] r := meetsH_slices_IndexFunc_l_int_int rfl h
end Go.Vc
