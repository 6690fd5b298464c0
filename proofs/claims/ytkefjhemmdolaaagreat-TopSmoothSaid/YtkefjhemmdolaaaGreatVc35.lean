/- A part of the proof: general laws of a reading of the model by abstract data, or contracts of the functions that the law calls. -/
import Derived.Test.YtkefjhemmdolaaaGreatVc23
import Derived.Test.YtkefjhemmdolaaaGreatVc11
set_option maxRecDepth 100000
namespace Go.Vc
open Go Go.Proofs Go.RowKit
end Go.Vc

namespace Go.Vc
open Go Go.Proofs Go.RowKit
def ann_step_table_figure : Nat → List Nat := fun n => match n with  | _ => []
def vc_step_table_figure_k0 (_P : Ctx) (pre : List ABlk) (r : AV) (post : List PB) (v0 : AV) (h3 : Heap) (v4 : AV) (v5 : AV) (v6 : AV) (h7 : Heap) (v8 : AV) (v9 : AV) (h10 : Heap) (rd11 : List Nat) (v12 : AV) (v13 : AV) (v14 : AV) (v15 : AV) (v16 : AV) (h17 : Heap) (rd18 : List Nat) : Prop :=
  EXT v0 0 fun v1 =>
  EXT v0 1 fun _ =>
  ORDX [] [0, 0, 2, 0, 14, 31, 0, 0, 0, 256, 896, 1984, 4095, 8191, 0, 16384, 0, 65536, 245760, 0, 524288, 1572864, 4194303, 8388607, 16777215, 16777215, 33554431, 134217727] [(1, wr h3 h3, (ids v4)), (2, wr h3 h3, (ids v5)), (8, wr h3 h3, (ids v4)), (9, wr h3 h3, (ids v6)), (12, wr h3 h7, (ids.idsL [v8, v9])), (13, wr h7 h10, rd11), (14, wr h10 h10, (ids v4)), (15, wr h10 h10, (ids v12)), (16, wr h10 h10, (ids v4)), (17, wr h10 h10, (ids v13)), (19, wr h10 h10, (ids v14)), (20, wr h10 h10, (ids v15)), (21, wr h10 h10, (ids v16)), (22, wr h10 h17, rd18)] ∧
  POST v1 h17 pre r post
def vc_step_table_figure_k1 (P : Ctx) (pre : List ABlk) (r : AV) (post : List PB) (v0 : AV) (h1 : Heap) (v7 : AV) (v11 : AV) (h15 : Heap) (v16 : AV) (v17 : AV) (h18 : Heap) (v19 : AV) (v20 : AV) (rd21 : List Nat) : Prop :=
  FADDR 1 v0 h1 fun v2 =>
  LOAD false 1 v2 h1 fun v3 =>
  FADDR 0 v0 h1 fun v4 =>
  LOAD false 1 v4 h1 fun v5 =>
  BIN 0 .sub v3 v5 fun v6 =>
  FADDR 0 v7 h1 fun v8 =>
  FADDR 1 v8 h1 fun v9 =>
  LOAD false 1 v9 h1 fun v10 =>
  CALL P f_round_To [v11, v6, v10] 224 h1 (fun rd12 v13 h14 =>
  vc_step_table_figure_k0 P pre r post v13 h15 v0 v16 v17 h18 v19 v20 h1 rd21 v2 v4 v7 v8 v9 h14 rd12)
  (fun _ _ _ => False)
def vc_step_table_figure (P : Ctx) (pre : List ABlk) (a0 a1 a2 a3 a4 : AV) (r : AV) (post : List PB) : Prop :=
  let h0 : Heap := numbered 0 pre
  BOX T_step_table a0 24 h0 fun v5 h1 =>
  BOX T_step_pair a1 32 h1 fun v6 h2 =>
  FADDR 1 v6 h2 fun v15 =>
  LOAD false 1 v15 h2 fun v16 =>
  BIN 0 .sub v16 a4 fun v18 =>
  BIN 0 .mul a2 v18 fun v19 =>
  FADDR 0 v6 h2 fun v22 =>
  LOAD false 1 v22 h2 fun v23 =>
  BIN 0 .sub a4 v23 fun v24 =>
  BIN 0 .mul a3 v24 fun v25 =>
  MKS T_int 1 [v19, v25] 144 h2 fun v26 h3 =>
  CALL P f_step_sum [v26] 152 h3 (fun rd5 v27 h4 =>
  vc_step_table_figure_k1 P pre r post v6 h4 v5 v27 h2 v15 v22 h3 v19 v25 rd5)
  (fun _ _ _ => False)
theorem vc_step_table_figure_eq (g : GG) (pre : List ABlk) (a0 a1 a2 a3 a4 : AV) (r : AV) (post : List PB) : vcFn2 (Tz g) false ann_step_table_figure Tryz.f99 pre [a0, a1, a2, a3, a4] (.ret r) post = vc_step_table_figure (Tz g) pre a0 a1 a2 a3 a4 r post := by kernel_rfl
theorem hf_step_table_figure : Tryz.prog.funcs[f_step_table_figure]? = some Tryz.f99 := by kernel_rfl
theorem ok_step_table_figure : fnVcOK Tryz.prog Tryz.f99 = true := by kernel_rfl
theorem nt_step_table_figure : Nat.ble 5 Tryz.f99.ntmps = true := by kernel_rfl
theorem meetsH_step_table_figure {g : GG} {pre : List ABlk} {a0 a1 a2 a3 a4 : AV} {r : AV} {post : List PB} (hk : Nat.ble pre.length 24 = true) (h : vc_step_table_figure (Tz g) pre a0 a1 a2 a3 a4 r post) : MeetsH (Tz g) f_step_table_figure pre [a0, a1, a2, a3, a4] (.ret r) post :=
  meetsH_of_vc (C := Tz g) ann_step_table_figure hf_step_table_figure ok_step_table_figure nt_step_table_figure hk (pn := false) (Eq.mpr ((vcFn2_eq _ _ _ _ _ _ _ _).trans (vc_step_table_figure_eq g pre a0 a1 a2 a3 a4 r post)) h)
def ann_step_table_around : Nat → List Nat := fun n => match n with  | _ => []
def vc_step_table_around_k0 (_P : Ctx) (pre : List ABlk) (r : AV) (post : List PB) (v0 : AV) (a3 : AV) (v5 : AV) (h6 : Heap) (v8 : AV) : Prop :=
  EXT v0 0 fun v1 =>
  EXT v0 1 fun v2 =>
  COND v2
  (BUILD [(0, 1), (1, 1)] [.d (.num .i64 0), .d (.num .i64 0)] [(0, a3), (1, a3)] fun v4 =>
  STORE 2 v5 v4 h6 fun h7 =>
  LOAD true 2 v5 h7 fun r6 =>
  POST r6 h7 pre r post)
  (FADDR 3 v8 h6 fun v9 =>
  LOAD false 1 v9 h6 fun v10 =>
  BIN 0 .sub v1 (.d (.num .i64 1)) fun v11 =>
  IADDR 1 T_int v10 v11 h6 fun v12 =>
  LOAD false 1 v12 h6 fun v13 =>
  FADDR 3 v8 h6 fun v14 =>
  LOAD false 1 v14 h6 fun v15 =>
  IADDR 1 T_int v15 v1 h6 fun v16 =>
  LOAD false 1 v16 h6 fun v17 =>
  BUILD [(0, 1), (1, 1)] [.d (.num .i64 0), .d (.num .i64 0)] [(0, v13), (1, v17)] fun v18 =>
  STORE 2 v5 v18 h6 fun h19 =>
  ORDX [] [0, 1, 0, 4, 15, 31, 0, 64, 0, 448, 960, 2047, 4095] [(0, wr h6 h6, (ids v8)), (1, wr h6 h6, (ids v9)), (4, wr h6 h6, (ids v10)), (5, wr h6 h6, (ids v12)), (6, wr h6 h6, (ids v8)), (7, wr h6 h6, (ids v14)), (9, wr h6 h6, (ids v15)), (10, wr h6 h6, (ids v16)), (12, wr h6 h19, (ids v5))] ∧
  LOAD true 2 v5 h19 fun r8 =>
  POST r8 h19 pre r post)
def vc_step_table_around (P : Ctx) (pre : List ABlk) (a0 a1 : AV) (r : AV) (post : List PB) : Prop :=
  let h0 : Heap := numbered 0 pre
  BOX T_step_table a0 24 h0 fun v2 h1 =>
  ALLOC T_step_pair [.d (.num .i64 0), .d (.num .i64 0)] 32 h1 fun v4 h2 =>
  FADDR 3 v2 h2 fun v8 =>
  LOAD false 1 v8 h2 fun v9 =>
  CALL P f_slices_BinarySearch_l_int_int [v9, a1] 64 h2 (fun _ v11 h3 =>
  vc_step_table_around_k0 P pre r post v11 a1 v4 h3 v2)
  (fun _ _ _ => False)
theorem vc_step_table_around_eq (g : GG) (pre : List ABlk) (a0 a1 : AV) (r : AV) (post : List PB) : vcFn2 (Tz g) false ann_step_table_around Tryz.f49 pre [a0, a1] (.ret r) post = vc_step_table_around (Tz g) pre a0 a1 r post := by kernel_rfl
theorem hf_step_table_around : Tryz.prog.funcs[f_step_table_around]? = some Tryz.f49 := by kernel_rfl
theorem ok_step_table_around : fnVcOK Tryz.prog Tryz.f49 = true := by kernel_rfl
theorem nt_step_table_around : Nat.ble 2 Tryz.f49.ntmps = true := by kernel_rfl
theorem meetsH_step_table_around {g : GG} {pre : List ABlk} {a0 a1 : AV} {r : AV} {post : List PB} (hk : Nat.ble pre.length 24 = true) (h : vc_step_table_around (Tz g) pre a0 a1 r post) : MeetsH (Tz g) f_step_table_around pre [a0, a1] (.ret r) post :=
  meetsH_of_vc (C := Tz g) ann_step_table_around hf_step_table_around ok_step_table_around nt_step_table_around hk (pn := false) (Eq.mpr ((vcFn2_eq _ _ _ _ _ _ _ _).trans (vc_step_table_around_eq g pre a0 a1 r post)) h)
def ann_step_table_end : Nat → List Nat := fun n => match n with  | _ => []
def vc_step_table_end_k0 (_P : Ctx) (pre : List ABlk) (r : AV) (post : List PB) (h0 : Heap) (v1 : AV) (v2 : AV) (v3 : AV) (v4 : AV) (v5 : AV) (v6 : AV) (v7 : AV) (h8 : Heap) (rd9 : List Nat) (v10 : AV) : Prop :=
  ORDX [] [0, 1, 3, 0, 8, 24, 0, 120, 248, 511, 1023] [(1, wr h0 h0, (ids v1)), (2, wr h0 h0, (ids v2)), (3, wr h0 h0, (ids v3)), (4, wr h0 h0, (ids v4)), (5, wr h0 h0, (ids v5)), (7, wr h0 h0, (ids v6)), (8, wr h0 h0, (ids v7)), (9, wr h0 h8, rd9)] ∧
  POST v10 h8 pre r post
def vc_step_table_end (P : Ctx) (pre : List ABlk) (a0 a1 a2 : AV) (r : AV) (post : List PB) : Prop :=
  let h0 : Heap := numbered 0 pre
  BOX T_step_table a0 24 h0 fun v3 h1 =>
  BUILD [(0, 1), (1, 1)] [.d .nilf, .d .nilf] [(0, (.d (.fn f_step_bounds_low [] []))), (1, (.d (.fn f_step_bounds_high [] [])))] fun v8 =>
  ALLOC T_2_func_step_bounds_int [.d .nilf, .d .nilf] 48 h1 fun v7 h2 =>
  STORE 2 v7 v8 h2 fun h3 =>
  AADDR 1 2 v7 a2 h3 fun v10 =>
  LOAD false 1 v10 h3 fun v11 =>
  FADDR 0 v3 h3 fun v12 =>
  FADDR 0 v12 h3 fun v13 =>
  LOAD false 1 v13 h3 fun v14 =>
  IADDR 2 T_api_Span v14 a1 h3 fun v16 =>
  LOAD true 2 v16 h3 fun v17 =>
  CALLV P v11 [v17] 136 h3 (fun rd5 v18 h4 =>
  vc_step_table_end_k0 P pre r post h3 v7 v10 v3 v12 v13 v14 v16 h4 rd5 v18)
  (fun _ _ _ => False)
theorem vc_step_table_end_eq (g : GG) (pre : List ABlk) (a0 a1 a2 : AV) (r : AV) (post : List PB) : vcFn2 (Tz g) false ann_step_table_end Tryz.f100 pre [a0, a1, a2] (.ret r) post = vc_step_table_end (Tz g) pre a0 a1 a2 r post := by kernel_rfl
theorem hf_step_table_end : Tryz.prog.funcs[f_step_table_end]? = some Tryz.f100 := by kernel_rfl
theorem ok_step_table_end : fnVcOK Tryz.prog Tryz.f100 = true := by kernel_rfl
theorem nt_step_table_end : Nat.ble 3 Tryz.f100.ntmps = true := by kernel_rfl
theorem meetsH_step_table_end {g : GG} {pre : List ABlk} {a0 a1 a2 : AV} {r : AV} {post : List PB} (hk : Nat.ble pre.length 24 = true) (h : vc_step_table_end (Tz g) pre a0 a1 a2 r post) : MeetsH (Tz g) f_step_table_end pre [a0, a1, a2] (.ret r) post :=
  meetsH_of_vc (C := Tz g) ann_step_table_end hf_step_table_end ok_step_table_end nt_step_table_end hk (pn := false) (Eq.mpr ((vcFn2_eq _ _ _ _ _ _ _ _).trans (vc_step_table_end_eq g pre a0 a1 a2 r post)) h)
def ann_step_table_off : Nat → List Nat := fun n => match n with  | _ => []
def vc_step_table_off_k0 (P : Ctx) (pre : List ABlk) (r : AV) (post : List PB) (v0 : AV) (v1 : AV) (v3 : AV) (h4 : Heap) (a6 : AV) (v10 : AV) (h13 : Heap) (rd14 : List Nat) : Prop :=
  BIN 0 .sub v0 v1 fun v2 =>
  LOAD true 5 v3 h4 fun v5 =>
  CALL P f_step_table_end [v5, a6, (.d (.num .i64 1))] 312 h4 (fun rd7 v8 h9 =>
  BIN 0 .sub v8 v10 fun v11 =>
  MAXK v2 v11 fun v12 =>
  ORDX [] [0, 0, 0, 6, 15, 0, 0, 110, 0, 494, 1023, 2047] [(1, wr h13 h13, (ids v3)), (3, wr h13 h4, rd14), (5, wr h4 h4, (ids v3)), (7, wr h4 h9, rd7)] ∧
  POST v12 h9 pre r post)
  (fun _ _ _ => False)
def vc_step_table_off_k1 (P : Ctx) (pre : List ABlk) (r : AV) (post : List PB) (h0 : Heap) (v1 : AV) (v2 : AV) (v3 : AV) (h4 : Heap) (rd5 : List Nat) (v6 : AV) (h7 : Heap) (rd8 : List Nat) (h9 : Heap) (rd10 : List Nat) (a12 : AV) (v16 : AV) (v17 : AV) : Prop :=
  ORDX [] [0, 0, 0, 0, 8, 28, 0, 0, 128, 508, 0, 2047, 4095] [(0, wr h0 h0, (ids v1)), (1, wr h0 h0, (ids v2)), (2, wr h0 h0, (ids v1)), (3, wr h0 h0, (ids v2)), (4, wr h0 h0, (ids v3)), (5, wr h0 h4, rd5), (6, wr h4 h4, (ids v1)), (7, wr h4 h4, (ids v2)), (8, wr h4 h4, (ids v6)), (9, wr h4 h7, rd8), (11, wr h7 h9, rd10)] ∧
  LOAD true 5 v1 h9 fun v11 =>
  CALL P f_step_table_end [v11, a12, (.d (.num .i64 0))] 280 h9 (fun rd13 v14 h15 =>
  vc_step_table_off_k0 P pre r post v16 v14 v1 h15 a12 v17 h9 rd13)
  (fun _ _ _ => False)
def vc_step_table_off_k2 (P : Ctx) (pre : List ABlk) (r : AV) (post : List PB) (v0 : AV) (h1 : Heap) (v3 : AV) (v9 : AV) (v10 : AV) (v11 : AV) (a12 : AV) (h16 : Heap) (v17 : AV) (rd18 : List Nat) (v19 : AV) : Prop :=
  LOAD true 5 v0 h1 fun v2 =>
  FADDR 1 v3 h1 fun v4 =>
  LOAD false 1 v4 h1 fun v5 =>
  CALL P f_step_table_end [v2, v5, (.d (.num .i64 0))] 224 h1 (fun rd6 v7 h8 =>
  CALL P f_step_table_figure [v9, v10, v11, v7, a12] 240 h8 (fun rd13 v14 h15 =>
  vc_step_table_off_k1 P pre r post h16 v0 v3 v17 h1 rd18 v4 h8 rd6 h15 rd13 a12 v19 v14)
  (fun _ _ _ => False))
  (fun _ _ _ => False)
def vc_step_table_off_k3 (P : Ctx) (pre : List ABlk) (r : AV) (post : List PB) (h0 : Heap) (v1 : AV) (v2 : AV) (v3 : AV) (h4 : Heap) (rd5 : List Nat) (v6 : AV) (h7 : Heap) (rd8 : List Nat) (h9 : Heap) (rd10 : List Nat) (a19 : AV) (v20 : AV) : Prop :=
  ORDX [] [0, 0, 0, 0, 8, 28, 0, 0, 128, 508, 0, 2047, 4095] [(0, wr h0 h0, (ids v1)), (1, wr h0 h0, (ids v2)), (2, wr h0 h0, (ids v1)), (3, wr h0 h0, (ids v2)), (4, wr h0 h0, (ids v3)), (5, wr h0 h4, rd5), (6, wr h4 h4, (ids v1)), (7, wr h4 h4, (ids v2)), (8, wr h4 h4, (ids v6)), (9, wr h4 h7, rd8), (11, wr h7 h9, rd10)] ∧
  LOAD true 5 v1 h9 fun v11 =>
  LOAD true 2 v2 h9 fun v12 =>
  LOAD true 5 v1 h9 fun v13 =>
  FADDR 0 v2 h9 fun v14 =>
  LOAD false 1 v14 h9 fun v15 =>
  CALL P f_step_table_end [v13, v15, (.d (.num .i64 0))] 192 h9 (fun rd16 v17 h18 =>
  vc_step_table_off_k2 P pre r post v1 h18 v2 v11 v12 v17 a19 h9 v14 rd16 v20)
  (fun _ _ _ => False)
def vc_step_table_off_k4 (P : Ctx) (pre : List ABlk) (r : AV) (post : List PB) (v0 : AV) (h1 : Heap) (v3 : AV) (v9 : AV) (v10 : AV) (v11 : AV) (a12 : AV) (h16 : Heap) (v17 : AV) (rd18 : List Nat) : Prop :=
  LOAD true 5 v0 h1 fun v2 =>
  FADDR 1 v3 h1 fun v4 =>
  LOAD false 1 v4 h1 fun v5 =>
  CALL P f_step_table_end [v2, v5, (.d (.num .i64 1))] 120 h1 (fun rd6 v7 h8 =>
  CALL P f_step_table_figure [v9, v10, v11, v7, a12] 136 h8 (fun rd13 v14 h15 =>
  vc_step_table_off_k3 P pre r post h16 v0 v3 v17 h1 rd18 v4 h8 rd6 h15 rd13 a12 v14)
  (fun _ _ _ => False))
  (fun _ _ _ => False)
def vc_step_table_off (P : Ctx) (pre : List ABlk) (a0 a1 a2 : AV) (r : AV) (post : List PB) : Prop :=
  let h0 : Heap := numbered 0 pre
  BOX T_step_table a0 24 h0 fun v3 h1 =>
  BOX T_step_pair a1 32 h1 fun v4 h2 =>
  LOAD true 5 v3 h2 fun v9 =>
  LOAD true 2 v4 h2 fun v10 =>
  LOAD true 5 v3 h2 fun v11 =>
  FADDR 0 v4 h2 fun v12 =>
  LOAD false 1 v12 h2 fun v13 =>
  CALL P f_step_table_end [v11, v13, (.d (.num .i64 1))] 88 h2 (fun rd4 v14 h3 =>
  vc_step_table_off_k4 P pre r post v3 h3 v4 v9 v10 v14 a2 h2 v12 rd4)
  (fun _ _ _ => False)
theorem vc_step_table_off_eq (g : GG) (pre : List ABlk) (a0 a1 a2 : AV) (r : AV) (post : List PB) : vcFn2 (Tz g) false ann_step_table_off Tryz.f50 pre [a0, a1, a2] (.ret r) post = vc_step_table_off (Tz g) pre a0 a1 a2 r post := by kernel_rfl
theorem hf_step_table_off : Tryz.prog.funcs[f_step_table_off]? = some Tryz.f50 := by kernel_rfl
theorem ok_step_table_off : fnVcOK Tryz.prog Tryz.f50 = true := by kernel_rfl
theorem nt_step_table_off : Nat.ble 3 Tryz.f50.ntmps = true := by kernel_rfl
theorem meetsH_step_table_off {g : GG} {pre : List ABlk} {a0 a1 a2 : AV} {r : AV} {post : List PB} (hk : Nat.ble pre.length 24 = true) (h : vc_step_table_off (Tz g) pre a0 a1 a2 r post) : MeetsH (Tz g) f_step_table_off pre [a0, a1, a2] (.ret r) post :=
  meetsH_of_vc (C := Tz g) ann_step_table_off hf_step_table_off ok_step_table_off nt_step_table_off hk (pn := false) (Eq.mpr ((vcFn2_eq _ _ _ _ _ _ _ _).trans (vc_step_table_off_eq g pre a0 a1 a2 r post)) h)
end Go.Vc
