/- A part of the proof: general laws of a reading of the model by abstract data, or contracts of the functions that the law calls. -/
import Derived.Test.YtkefjhemmdolaaaGreatVc23
import Derived.Test.YtkefjhemmdolaaaGreatVc11
set_option maxRecDepth 100000
namespace Go.Vc
open Go Go.Proofs Go.RowKit
def ann_step_table_doubts : Nat → List Nat := fun n => match n with | 3 => [1, 3, 9, 10] | _ => []
def vc_step_table_doubts_k0 (_P : Ctx) (_pre : List ABlk) (_r : AV) (_post : List PB) (vs0 : List AV) (h1 : Heap) (v5 : AV) (h7 : Heap) (v8 : AV) (v9 : AV) (v10 : AV) (rd11 : List Nat) (next17 : List AV → Heap → Prop) : Prop :=
  FADDR 0 (nth vs0 0) h1 fun v2 =>
  FADDR 2 v2 h1 fun v3 =>
  LOAD false 1 v3 h1 fun v4 =>
  BIN 0 .gtr v5 v4 fun v6 =>
  ORDX [] [0, 1, 0, 4, 15, 31, 63, 63, 63, 511, 63, 1087, 3135, 8191, 16383] [(0, wr h7 h7, (ids v8)), (1, wr h7 h7, (ids v9)), (2, wr h7 h7, (ids v8)), (3, wr h7 h7, (ids v10)), (6, wr h7 h7, (ids (nth vs0 0))), (7, wr h7 h7, (ids v8)), (9, wr h7 h1, rd11), (10, wr h1 h1, (ids (nth vs0 0))), (11, wr h1 h1, (ids v2)), (12, wr h1 h1, (ids v3))] ∧
  COND v6
  (MKS T_int 1 [(nth vs0 3)] 296 h1 fun v12 h13 =>
  APP T_int 1 (nth vs0 1) v12 304 h13 fun v14 h15 =>
  BIN 0 .add (nth vs0 3) (.d (.num .i64 1)) fun v16 =>
  next17 [(nth vs0 0), v14, (nth vs0 2), v16] h15)
  (BIN 0 .add (nth vs0 3) (.d (.num .i64 1)) fun v16 =>
  next17 [(nth vs0 0), (nth vs0 1), (nth vs0 2), v16] h1)
def vc_step_table_doubts_k1 (P : Ctx) (pre : List ABlk) (r : AV) (post : List PB) (h0 : Heap) (v3 : AV) (vs10 : List AV) (next16 : List AV → Heap → Prop) : Prop :=
  ALLOC T_step_pair [.d (.num .i64 0), .d (.num .i64 0)] 144 h0 fun v1 h2 =>
  STORE 2 v1 v3 h2 fun h4 =>
  FADDR 0 v1 h4 fun v5 =>
  LOAD false 1 v5 h4 fun v6 =>
  FADDR 1 v1 h4 fun v7 =>
  LOAD false 1 v7 h4 fun v8 =>
  BIN 0 .lss v6 v8 fun v9 =>
  CONDG v9
  (LOAD true 5 (nth vs10 0) h4 fun v11 =>
  LOAD true 2 v1 h4 fun v12 =>
  CALL P f_step_table_off [v11, v12, (nth vs10 3)] 232 h4 (fun rd13 v14 h15 =>
  vc_step_table_doubts_k0 P pre r post vs10 h15 v14 h4 v1 v5 v7 rd13 next16)
  (fun _ _ _ => False))
  (ORDX [] [0, 1, 0, 4, 15, 31, 63, 63, 63, 511, 63, 1087, 3135, 8191, 16383] [(0, wr h4 h4, (ids v1)), (1, wr h4 h4, (ids v5)), (2, wr h4 h4, (ids v1)), (3, wr h4 h4, (ids v7))] ∧
  BIN 0 .add (nth vs10 3) (.d (.num .i64 1)) fun v17 =>
  next16 [(nth vs10 0), (nth vs10 1), (nth vs10 2), v17] h4)
def vc_step_table_doubts_k2 (P : Ctx) (pre : List ABlk) (r : AV) (post : List PB) (vs0 : List AV) (h2 : Heap) (next7 : List AV → Heap → Prop) : Prop :=
  BIN 0 .lss (nth vs0 3) (nth vs0 2) fun v1 =>
  COND v1
  (LOAD true 5 (nth vs0 0) h2 fun v3 =>
  CALL P f_step_table_around [v3, (nth vs0 3)] 136 h2 (fun _ v5 h6 =>
  vc_step_table_doubts_k1 P pre r post h6 v5 vs0 next7)
  (fun _ _ _ => False))
  (POST (nth vs0 1) h2 pre r post)
def vc_step_table_doubts (P : Ctx) (pre : List ABlk) (a0 : AV) (r : AV) (post : List PB) : Prop :=
  let h0 : Heap := numbered 0 pre
  BOX T_step_table a0 24 h0 fun v1 h1 =>
  FADDR 0 v1 h1 fun v6 =>
  FADDR 0 v6 h1 fun v7 =>
  LOAD false 1 v7 h1 fun v8 =>
  LEN false v8 h1 fun v9 =>
  LOOP [v1, .zc, v9, (.d (.num .i64 0))] h1 88 fun vs2 h3 next2 =>
  vc_step_table_doubts_k2 P pre r post vs2 h3 next2
theorem vc_step_table_doubts_eq (g : GG) (pre : List ABlk) (a0 : AV) (r : AV) (post : List PB) : vcFn2 (Tz g) false ann_step_table_doubts Tryz.f73 pre [a0] (.ret r) post = vc_step_table_doubts (Tz g) pre a0 r post := by kernel_rfl
theorem hf_step_table_doubts : Tryz.prog.funcs[f_step_table_doubts]? = some Tryz.f73 := by kernel_rfl
theorem ok_step_table_doubts : fnVcOK Tryz.prog Tryz.f73 = true := by kernel_rfl
theorem nt_step_table_doubts : Nat.ble 1 Tryz.f73.ntmps = true := by kernel_rfl
theorem meetsH_step_table_doubts {g : GG} {pre : List ABlk} {a0 : AV} {r : AV} {post : List PB} (hk : Nat.ble pre.length 24 = true) (h : vc_step_table_doubts (Tz g) pre a0 r post) : MeetsH (Tz g) f_step_table_doubts pre [a0] (.ret r) post :=
  meetsH_of_vc (C := Tz g) ann_step_table_doubts hf_step_table_doubts ok_step_table_doubts nt_step_table_doubts hk (pn := false) (Eq.mpr ((vcFn2_eq _ _ _ _ _ _ _ _).trans (vc_step_table_doubts_eq g pre a0 r post)) h)
def ann_step_Doubts : Nat → List Nat := fun n => match n with  | _ => []
def vc_step_Doubts_k0 (P : Ctx) (pre : List ABlk) (r : AV) (post : List PB) (v0 : AV) (h2 : Heap) (v3 : AV) (a5 : AV) : Prop :=
  NOT v0 fun v1 =>
  COND v1
  (POST (.tup [.zc, (.d (.num .i64 2))]) h2 pre r post)
  (LOAD true 3 v3 h2 fun v4 =>
  CALL P f_step_tableOf [v4, a5] 136 h2 (fun _ v7 h8 =>
  CALL P f_step_table_doubts [v7] 144 h8 (fun _ v10 h11 =>
  POST (.tup [v10, (.d (.num .i64 0))]) h11 pre r post)
  (fun _ _ _ => False))
  (fun _ _ _ => False))
def vc_step_Doubts (P : Ctx) (pre : List ABlk) (a0 a1 : AV) (r : AV) (post : List PB) : Prop :=
  let h0 : Heap := numbered 0 pre
  BOX T_api_StepTable a0 24 h0 fun v2 h1 =>
  LOAD true 3 v2 h1 fun v6 =>
  CALL P f_step_isTable [v6] 56 h1 (fun _ v7 h2 =>
  NOT v7 fun v8 =>
  CONDG v8
  (POST (.tup [.zc, (.d (.num .i64 2))]) h2 pre r post)
  (LOAD true 3 v2 h2 fun v10 =>
  CALL P f_step_isKept [v10, a1] 96 h2 (fun _ v12 h4 =>
  vc_step_Doubts_k0 P pre r post v12 h4 v2 a1)
  (fun _ _ _ => False)))
  (fun _ _ _ => False)
theorem vc_step_Doubts_eq (g : GG) (pre : List ABlk) (a0 a1 : AV) (r : AV) (post : List PB) : vcFn2 (Tz g) false ann_step_Doubts Tryz.f24 pre [a0, a1] (.ret r) post = vc_step_Doubts (Tz g) pre a0 a1 r post := by kernel_rfl
theorem hf_step_Doubts : Tryz.prog.funcs[f_step_Doubts]? = some Tryz.f24 := by kernel_rfl
theorem ok_step_Doubts : fnVcOK Tryz.prog Tryz.f24 = true := by kernel_rfl
theorem nt_step_Doubts : Nat.ble 2 Tryz.f24.ntmps = true := by kernel_rfl
theorem meetsH_step_Doubts {g : GG} {pre : List ABlk} {a0 a1 : AV} {r : AV} {post : List PB} (hk : Nat.ble pre.length 24 = true) (h : vc_step_Doubts (Tz g) pre a0 a1 r post) : MeetsH (Tz g) f_step_Doubts pre [a0, a1] (.ret r) post :=
  meetsH_of_vc (C := Tz g) ann_step_Doubts hf_step_Doubts ok_step_Doubts nt_step_Doubts hk (pn := false) (Eq.mpr ((vcFn2_eq _ _ _ _ _ _ _ _).trans (vc_step_Doubts_eq g pre a0 a1 r post)) h)
theorem meets_step_Doubts {g : GG} {a0 a1 : D} {r : Res} (h : vc_step_Doubts (Tz g) [] (.d a0) (.d a1) r.val (r.bl.map .upd)) : Meets (Tz g) f_step_Doubts [a0, a1] r := meetsH_step_Doubts rfl h
def ann_step_table_figures : Nat → List Nat := fun n => match n with | 3 => [1, 2, 5, 11, 12] | _ => []
def vc_step_table_figures_k0 (_P : Ctx) (_pre : List ABlk) (_r : AV) (_post : List PB) (vs0 : List AV) (h1 : Heap) (v3 : AV) (h5 : Heap) (v6 : AV) (v7 : AV) (v8 : AV) (v9 : AV) (v10 : AV) (rd11 : List Nat) (next13 : List AV → Heap → Prop) : Prop :=
  IADDR 1 T_int (nth vs0 2) (nth vs0 4) h1 fun v2 =>
  STORE 1 v2 v3 h1 fun h4 =>
  ORDX [] [0, 0, 0, 0, 0, 0, 32, 112, 240, 0, 0, 1024, 3584, 7680, 0, 32764, 65535, 131071] [(2, wr h5 h5, (ids (nth vs0 1))), (3, wr h5 h5, (ids v6)), (5, wr h5 h5, (ids v6)), (6, wr h5 h5, (ids v7)), (7, wr h5 h5, (ids (nth vs0 0))), (8, wr h5 h5, (ids v8)), (10, wr h5 h5, (ids v6)), (11, wr h5 h5, (ids v9)), (12, wr h5 h5, (ids (nth vs0 0))), (13, wr h5 h5, (ids v10)), (15, wr h5 h1, rd11), (16, wr h1 h1, (ids (nth vs0 2))), (17, wr h1 h4, (ids v2))] ∧
  BIN 0 .add (nth vs0 4) (.d (.num .i64 1)) fun v12 =>
  next13 [(nth vs0 0), (nth vs0 1), (nth vs0 2), (nth vs0 3), v12] h4
def vc_step_table_figures_k1 (P : Ctx) (pre : List ABlk) (r : AV) (post : List PB) (h0 : Heap) (v3 : AV) (vs10 : List AV) (next24 : List AV → Heap → Prop) : Prop :=
  ALLOC T_step_pair [.d (.num .i64 0), .d (.num .i64 0)] 144 h0 fun v1 h2 =>
  STORE 2 v1 v3 h2 fun h4 =>
  FADDR 0 v1 h4 fun v5 =>
  LOAD false 1 v5 h4 fun v6 =>
  FADDR 1 v1 h4 fun v7 =>
  LOAD false 1 v7 h4 fun v8 =>
  BIN 0 .lss v6 v8 fun v9 =>
  COND v9
  (LOAD true 5 (nth vs10 1) h4 fun v11 =>
  LOAD true 2 v1 h4 fun v12 =>
  FADDR 0 v1 h4 fun v13 =>
  LOAD false 1 v13 h4 fun v14 =>
  IADDR 1 T_int (nth vs10 0) v14 h4 fun v15 =>
  LOAD false 1 v15 h4 fun v16 =>
  FADDR 1 v1 h4 fun v17 =>
  LOAD false 1 v17 h4 fun v18 =>
  IADDR 1 T_int (nth vs10 0) v18 h4 fun v19 =>
  LOAD false 1 v19 h4 fun v20 =>
  CALL P f_step_table_figure [v11, v12, v16, v20, (nth vs10 4)] 320 h4 (fun rd21 v22 h23 =>
  vc_step_table_figures_k0 P pre r post vs10 h23 v22 h4 v1 v13 v15 v17 v19 rd21 next24)
  (fun _ _ _ => False))
  (BIN 0 .add (nth vs10 4) (.d (.num .i64 1)) fun v25 =>
  next24 [(nth vs10 0), (nth vs10 1), (nth vs10 2), (nth vs10 3), v25] h4)
def vc_step_table_figures_k2 (P : Ctx) (pre : List ABlk) (r : AV) (post : List PB) (vs0 : List AV) (h2 : Heap) (next7 : List AV → Heap → Prop) : Prop :=
  BIN 0 .lss (nth vs0 4) (nth vs0 3) fun v1 =>
  COND v1
  (LOAD true 5 (nth vs0 1) h2 fun v3 =>
  CALL P f_step_table_around [v3, (nth vs0 4)] 136 h2 (fun _ v5 h6 =>
  vc_step_table_figures_k1 P pre r post h6 v5 vs0 next7)
  (fun _ _ _ => False))
  (POST (nth vs0 2) h2 pre r post)
def vc_step_table_figures (P : Ctx) (pre : List ABlk) (a0 a1 : AV) (r : AV) (post : List PB) : Prop :=
  let h0 : Heap := numbered 0 pre
  BOX T_step_table a0 24 h0 fun v2 h1 =>
  CALL P f_slices_Clone_l_int_int [a1] 48 h1 (fun _ v9 h2 =>
  LEN false a1 h2 fun v11 =>
  LOOP [a1, v2, v9, v11, (.d (.num .i64 0))] h2 88 fun vs4 h5 next4 =>
  vc_step_table_figures_k2 P pre r post vs4 h5 next4)
  (fun _ _ _ => False)
theorem vc_step_table_figures_eq (g : GG) (pre : List ABlk) (a0 a1 : AV) (r : AV) (post : List PB) : vcFn2 (Tz g) false ann_step_table_figures Tryz.f79 pre [a0, a1] (.ret r) post = vc_step_table_figures (Tz g) pre a0 a1 r post := by kernel_rfl
theorem hf_step_table_figures : Tryz.prog.funcs[f_step_table_figures]? = some Tryz.f79 := by kernel_rfl
theorem ok_step_table_figures : fnVcOK Tryz.prog Tryz.f79 = true := by kernel_rfl
theorem nt_step_table_figures : Nat.ble 2 Tryz.f79.ntmps = true := by kernel_rfl
theorem meetsH_step_table_figures {g : GG} {pre : List ABlk} {a0 a1 : AV} {r : AV} {post : List PB} (hk : Nat.ble pre.length 24 = true) (h : vc_step_table_figures (Tz g) pre a0 a1 r post) : MeetsH (Tz g) f_step_table_figures pre [a0, a1] (.ret r) post :=
  meetsH_of_vc (C := Tz g) ann_step_table_figures hf_step_table_figures ok_step_table_figures nt_step_table_figures hk (pn := false) (Eq.mpr ((vcFn2_eq _ _ _ _ _ _ _ _).trans (vc_step_table_figures_eq g pre a0 a1 r post)) h)
def ann_step_Figures : Nat → List Nat := fun n => match n with  | _ => []
def vc_step_Figures_k0 (P : Ctx) (pre : List ABlk) (r : AV) (post : List PB) (v0 : AV) (h2 : Heap) (v3 : AV) (a5 : AV) (a9 : AV) : Prop :=
  NOT v0 fun v1 =>
  COND v1
  (POST (.tup [.zc, (.d (.num .i64 2))]) h2 pre r post)
  (LOAD true 3 v3 h2 fun v4 =>
  CALL P f_step_tableOf [v4, a5] 184 h2 (fun _ v7 h8 =>
  CALL P f_step_table_figures [v7, a9] 200 h8 (fun _ v11 h12 =>
  POST (.tup [v11, (.d (.num .i64 0))]) h12 pre r post)
  (fun _ _ _ => False))
  (fun _ _ _ => False))
def vc_step_Figures_k1 (P : Ctx) (pre : List ABlk) (r : AV) (post : List PB) (v0 : AV) (h2 : Heap) (v3 : AV) (a5 : AV) (a11 : AV) : Prop :=
  NOT v0 fun v1 =>
  CONDG v1
  (POST (.tup [.zc, (.d (.num .i64 2))]) h2 pre r post)
  (LOAD true 3 v3 h2 fun v4 =>
  CALL P f_step_isKept [v4, a5] 96 h2 (fun _ v7 h8 =>
  NOT v7 fun v9 =>
  CONDG v9
  (POST (.tup [.zc, (.d (.num .i64 2))]) h8 pre r post)
  (LOAD true 3 v3 h8 fun v10 =>
  CALL P f_step_isTruth [v10, a11] 144 h8 (fun _ v13 h14 =>
  vc_step_Figures_k0 P pre r post v13 h14 v3 a5 a11)
  (fun _ _ _ => False)))
  (fun _ _ _ => False))
def vc_step_Figures (P : Ctx) (pre : List ABlk) (a0 a1 a2 : AV) (r : AV) (post : List PB) : Prop :=
  let h0 : Heap := numbered 0 pre
  BOX T_api_StepTable a0 24 h0 fun v3 h1 =>
  LOAD true 3 v3 h1 fun v8 =>
  CALL P f_step_isTable [v8] 56 h1 (fun _ v9 h2 =>
  vc_step_Figures_k1 P pre r post v9 h2 v3 a1 a2)
  (fun _ _ _ => False)
theorem vc_step_Figures_eq (g : GG) (pre : List ABlk) (a0 a1 a2 : AV) (r : AV) (post : List PB) : vcFn2 (Tz g) false ann_step_Figures Tryz.f30 pre [a0, a1, a2] (.ret r) post = vc_step_Figures (Tz g) pre a0 a1 a2 r post := by kernel_rfl
theorem hf_step_Figures : Tryz.prog.funcs[f_step_Figures]? = some Tryz.f30 := by kernel_rfl
theorem ok_step_Figures : fnVcOK Tryz.prog Tryz.f30 = true := by kernel_rfl
theorem nt_step_Figures : Nat.ble 3 Tryz.f30.ntmps = true := by kernel_rfl
theorem meetsH_step_Figures {g : GG} {pre : List ABlk} {a0 a1 a2 : AV} {r : AV} {post : List PB} (hk : Nat.ble pre.length 24 = true) (h : vc_step_Figures (Tz g) pre a0 a1 a2 r post) : MeetsH (Tz g) f_step_Figures pre [a0, a1, a2] (.ret r) post :=
  meetsH_of_vc (C := Tz g) ann_step_Figures hf_step_Figures ok_step_Figures nt_step_Figures hk (pn := false) (Eq.mpr ((vcFn2_eq _ _ _ _ _ _ _ _).trans (vc_step_Figures_eq g pre a0 a1 a2 r post)) h)
theorem meets_step_Figures {g : GG} {a0 a1 a2 : D} {r : Res} (h : vc_step_Figures (Tz g) [] (.d a0) (.d a1) (.d a2) r.val (r.bl.map .upd)) : Meets (Tz g) f_step_Figures [a0, a1, a2] r := meetsH_step_Figures rfl h
def ann_step_table_right : Nat → List Nat := fun n => match n with | 2 => [1, 2, 9, 10, 11] | _ => []
def vc_step_table_right_k0 (_P : Ctx) (pre : List ABlk) (r : AV) (post : List PB) (vs0 : List AV) (h1 : Heap) (v5 : AV) (h7 : Heap) (v8 : AV) (rd9 : List Nat) (next11 : List AV → Heap → Prop) : Prop :=
  FADDR 0 (nth vs0 1) h1 fun v2 =>
  FADDR 2 v2 h1 fun v3 =>
  LOAD false 1 v3 h1 fun v4 =>
  BIN 0 .gtr v5 v4 fun v6 =>
  ORDX [] [0, 0, 0, 6, 14, 31, 0, 64, 192, 511] [(3, wr h7 h7, (ids (nth vs0 0))), (4, wr h7 h7, (ids v8)), (5, wr h7 h1, rd9), (6, wr h1 h1, (ids (nth vs0 1))), (7, wr h1 h1, (ids v2)), (8, wr h1 h1, (ids v3))] ∧
  COND v6
  (POST (.d (.bool false)) h1 pre r post)
  (BIN 0 .add (nth vs0 4) (.d (.num .i64 1)) fun v10 =>
  next11 [(nth vs0 0), (nth vs0 1), (nth vs0 2), (nth vs0 3), v10] h1)
def vc_step_table_right_k1 (P : Ctx) (pre : List ABlk) (r : AV) (post : List PB) (vs0 : List AV) (h2 : Heap) (next10 : List AV → Heap → Prop) : Prop :=
  BIN 0 .lss (nth vs0 4) (nth vs0 3) fun v1 =>
  COND v1
  (IADDR 1 T_int (nth vs0 2) (nth vs0 4) h2 fun v3 =>
  LOAD false 1 v3 h2 fun v4 =>
  IADDR 1 T_int (nth vs0 0) (nth vs0 4) h2 fun v5 =>
  LOAD false 1 v5 h2 fun v6 =>
  CALL P f_step_far [v4, v6] 176 h2 (fun rd7 v8 h9 =>
  vc_step_table_right_k0 P pre r post vs0 h9 v8 h2 v5 rd7 next10)
  (fun _ _ _ => False))
  (POST (.d (.bool true)) h2 pre r post)
def vc_step_table_right (P : Ctx) (pre : List ABlk) (a0 a1 : AV) (r : AV) (post : List PB) : Prop :=
  let h0 : Heap := numbered 0 pre
  BOX T_step_table a0 24 h0 fun v2 h1 =>
  LOAD true 5 v2 h1 fun v7 =>
  CALL P f_step_table_figures [v7, a1] 56 h1 (fun _ v9 h2 =>
  LEN false v9 h2 fun v10 =>
  LOOP [a1, v2, v9, v10, (.d (.num .i64 0))] h2 80 fun vs4 h5 next4 =>
  vc_step_table_right_k1 P pre r post vs4 h5 next4)
  (fun _ _ _ => False)
theorem vc_step_table_right_eq (g : GG) (pre : List ABlk) (a0 a1 : AV) (r : AV) (post : List PB) : vcFn2 (Tz g) false ann_step_table_right Tryz.f78 pre [a0, a1] (.ret r) post = vc_step_table_right (Tz g) pre a0 a1 r post := by kernel_rfl
theorem hf_step_table_right : Tryz.prog.funcs[f_step_table_right]? = some Tryz.f78 := by kernel_rfl
theorem ok_step_table_right : fnVcOK Tryz.prog Tryz.f78 = true := by kernel_rfl
theorem nt_step_table_right : Nat.ble 2 Tryz.f78.ntmps = true := by kernel_rfl
theorem meetsH_step_table_right {g : GG} {pre : List ABlk} {a0 a1 : AV} {r : AV} {post : List PB} (hk : Nat.ble pre.length 24 = true) (h : vc_step_table_right (Tz g) pre a0 a1 r post) : MeetsH (Tz g) f_step_table_right pre [a0, a1] (.ret r) post :=
  meetsH_of_vc (C := Tz g) ann_step_table_right hf_step_table_right ok_step_table_right nt_step_table_right hk (pn := false) (Eq.mpr ((vcFn2_eq _ _ _ _ _ _ _ _).trans (vc_step_table_right_eq g pre a0 a1 r post)) h)
def ann_step_Right : Nat → List Nat := fun n => match n with  | _ => []
def vc_step_Right_k0 (P : Ctx) (pre : List ABlk) (r : AV) (post : List PB) (v0 : AV) (h2 : Heap) (v3 : AV) (a5 : AV) (a9 : AV) : Prop :=
  NOT v0 fun v1 =>
  COND v1
  (POST (.tup [(.d (.bool false)), (.d (.num .i64 2))]) h2 pre r post)
  (LOAD true 3 v3 h2 fun v4 =>
  CALL P f_step_tableOf [v4, a5] 184 h2 (fun _ v7 h8 =>
  CALL P f_step_table_right [v7, a9] 200 h8 (fun _ v11 h12 =>
  POST (.tup [v11, (.d (.num .i64 0))]) h12 pre r post)
  (fun _ _ _ => False))
  (fun _ _ _ => False))
def vc_step_Right_k1 (P : Ctx) (pre : List ABlk) (r : AV) (post : List PB) (v0 : AV) (h2 : Heap) (v3 : AV) (a5 : AV) (a9 : AV) : Prop :=
  NOT v0 fun v1 =>
  CONDG v1
  (POST (.tup [(.d (.bool false)), (.d (.num .i64 2))]) h2 pre r post)
  (LOAD true 3 v3 h2 fun v4 =>
  CALL P f_step_isTruth [v4, a5] 144 h2 (fun _ v7 h8 =>
  vc_step_Right_k0 P pre r post v7 h8 v3 a9 a5)
  (fun _ _ _ => False))
def vc_step_Right_k2 (P : Ctx) (pre : List ABlk) (r : AV) (post : List PB) (v0 : AV) (h2 : Heap) (v3 : AV) (a5 : AV) (a9 : AV) : Prop :=
  NOT v0 fun v1 =>
  CONDG v1
  (POST (.tup [(.d (.bool false)), (.d (.num .i64 2))]) h2 pre r post)
  (LOAD true 3 v3 h2 fun v4 =>
  CALL P f_step_isKept [v4, a5] 96 h2 (fun _ v7 h8 =>
  vc_step_Right_k1 P pre r post v7 h8 v3 a9 a5)
  (fun _ _ _ => False))
def vc_step_Right (P : Ctx) (pre : List ABlk) (a0 a1 a2 : AV) (r : AV) (post : List PB) : Prop :=
  let h0 : Heap := numbered 0 pre
  BOX T_api_StepTable a0 24 h0 fun v3 h1 =>
  LOAD true 3 v3 h1 fun v8 =>
  CALL P f_step_isTable [v8] 56 h1 (fun _ v9 h2 =>
  vc_step_Right_k2 P pre r post v9 h2 v3 a1 a2)
  (fun _ _ _ => False)
theorem vc_step_Right_eq (g : GG) (pre : List ABlk) (a0 a1 a2 : AV) (r : AV) (post : List PB) : vcFn2 (Tz g) false ann_step_Right Tryz.f29 pre [a0, a1, a2] (.ret r) post = vc_step_Right (Tz g) pre a0 a1 a2 r post := by kernel_rfl
theorem hf_step_Right : Tryz.prog.funcs[f_step_Right]? = some Tryz.f29 := by kernel_rfl
theorem ok_step_Right : fnVcOK Tryz.prog Tryz.f29 = true := by kernel_rfl
theorem nt_step_Right : Nat.ble 3 Tryz.f29.ntmps = true := by kernel_rfl
theorem meetsH_step_Right {g : GG} {pre : List ABlk} {a0 a1 a2 : AV} {r : AV} {post : List PB} (hk : Nat.ble pre.length 24 = true) (h : vc_step_Right (Tz g) pre a0 a1 a2 r post) : MeetsH (Tz g) f_step_Right pre [a0, a1, a2] (.ret r) post :=
  meetsH_of_vc (C := Tz g) ann_step_Right hf_step_Right ok_step_Right nt_step_Right hk (pn := false) (Eq.mpr ((vcFn2_eq _ _ _ _ _ _ _ _).trans (vc_step_Right_eq g pre a0 a1 a2 r post)) h)
theorem meets_step_Right {g : GG} {a0 a1 a2 : D} {r : Res} (h : vc_step_Right (Tz g) [] (.d a0) (.d a1) (.d a2) r.val (r.bl.map .upd)) : Meets (Tz g) f_step_Right [a0, a1, a2] r := meetsH_step_Right rfl h
end Go.Vc

namespace Go.Vc
open Go Go.Proofs Go.RowKit
def ann_step_table_mustBeSure : Nat → List Nat := fun n => match n with  | _ => []
def vc_step_table_mustBeSure_k0 (_P : Ctx) (pre : List ABlk) (r : AV) (post : List PB) (v0 : AV) (h1 : Heap) : Prop :=
  LEN false v0 h1 fun v2 =>
  BIN 0 .gtr v2 (.d (.num .i64 0)) fun v3 =>
  COND v3
  (IADDR 1 T_int v0 (.d (.num .i64 0)) h1 fun v4 =>
  LOAD false 1 v4 h1 fun v5 =>
  BUILD [(0, 1)] [.d (.num .i64 0)] [(0, v5)] fun v6 =>
  PANIC (.iface T_step_wrong v6) fun _ => False)
  (POST (.tup []) h1 pre r post)
def vc_step_table_mustBeSure (P : Ctx) (pre : List ABlk) (a0 : AV) (r : AV) (post : List PB) : Prop :=
  let h0 : Heap := numbered 0 pre
  BOX T_step_table a0 24 h0 fun v1 h1 =>
  LOAD true 5 v1 h1 fun v3 =>
  CALL P f_step_table_doubts [v3] 40 h1 (fun _ v4 h2 =>
  vc_step_table_mustBeSure_k0 P pre r post v4 h2)
  (fun _ _ _ => False)
theorem vc_step_table_mustBeSure_eq (g : GG) (pre : List ABlk) (a0 : AV) (r : AV) (post : List PB) : vcFn2 (Tz g) false ann_step_table_mustBeSure Tryz.f136 pre [a0] (.ret r) post = vc_step_table_mustBeSure (Tz g) pre a0 r post := by kernel_rfl
theorem hf_step_table_mustBeSure : Tryz.prog.funcs[f_step_table_mustBeSure]? = some Tryz.f136 := by kernel_rfl
theorem ok_step_table_mustBeSure : fnVcOK Tryz.prog Tryz.f136 = true := by kernel_rfl
theorem nt_step_table_mustBeSure : Nat.ble 1 Tryz.f136.ntmps = true := by kernel_rfl
theorem meetsH_step_table_mustBeSure {g : GG} {pre : List ABlk} {a0 : AV} {r : AV} {post : List PB} (hk : Nat.ble pre.length 24 = true) (h : vc_step_table_mustBeSure (Tz g) pre a0 r post) : MeetsH (Tz g) f_step_table_mustBeSure pre [a0] (.ret r) post :=
  meetsH_of_vc (C := Tz g) ann_step_table_mustBeSure hf_step_table_mustBeSure ok_step_table_mustBeSure nt_step_table_mustBeSure hk (pn := false) (Eq.mpr ((vcFn2_eq _ _ _ _ _ _ _ _).trans (vc_step_table_mustBeSure_eq g pre a0 r post)) h)
def annp_step_table_mustBeSure : Nat → List Nat := fun n => match n with  | _ => []
def vcp_step_table_mustBeSure_k0 (_P : Ctx) (pre : List ABlk) (r : AV) (post : List PB) (v0 : AV) (h1 : Heap) : Prop :=
  LEN false v0 h1 fun v2 =>
  BIN 0 .gtr v2 (.d (.num .i64 0)) fun v3 =>
  COND v3
  (IADDR 1 T_int v0 (.d (.num .i64 0)) h1 fun v4 =>
  LOAD false 1 v4 h1 fun v5 =>
  BUILD [(0, 1)] [.d (.num .i64 0)] [(0, v5)] fun v6 =>
  PANIC (.iface T_step_wrong v6) fun pv7 =>
  POST pv7 h1 pre r post)
  (False)
def vcp_step_table_mustBeSure (P : Ctx) (pre : List ABlk) (a0 : AV) (r : AV) (post : List PB) : Prop :=
  let h0 : Heap := numbered 0 pre
  BOX T_step_table a0 24 h0 fun v1 h1 =>
  LOAD true 5 v1 h1 fun v3 =>
  CALL P f_step_table_doubts [v3] 40 h1 (fun _ v4 h2 =>
  vcp_step_table_mustBeSure_k0 P pre r post v4 h2)
  (fun _ pv4 ph5 =>
  POST pv4 ph5 pre r post)
theorem vcp_step_table_mustBeSure_eq (g : GG) (pre : List ABlk) (a0 : AV) (r : AV) (post : List PB) : vcFn2 (Tz g) true annp_step_table_mustBeSure Tryz.f136 pre [a0] (.pan r) post = vcp_step_table_mustBeSure (Tz g) pre a0 r post := by kernel_rfl
theorem hfp_step_table_mustBeSure : Tryz.prog.funcs[f_step_table_mustBeSure]? = some Tryz.f136 := by kernel_rfl
theorem okp_step_table_mustBeSure : fnVcOK Tryz.prog Tryz.f136 = true := by kernel_rfl
theorem ntp_step_table_mustBeSure : Nat.ble 1 Tryz.f136.ntmps = true := by kernel_rfl
theorem meetsHp_step_table_mustBeSure {g : GG} {pre : List ABlk} {a0 : AV} {r : AV} {post : List PB} (hk : Nat.ble pre.length 24 = true) (h : vcp_step_table_mustBeSure (Tz g) pre a0 r post) : MeetsH (Tz g) f_step_table_mustBeSure pre [a0] (.pan r) post :=
  meetsH_of_vc (C := Tz g) annp_step_table_mustBeSure hfp_step_table_mustBeSure okp_step_table_mustBeSure ntp_step_table_mustBeSure hk (pn := true) (Eq.mpr ((vcFn2_eq _ _ _ _ _ _ _ _).trans (vcp_step_table_mustBeSure_eq g pre a0 r post)) h)
def ann_step_table_can : Nat → List Nat := fun n => match n with | 3 => [2, 3, 4, 7, 8] | 6 => [2, 3, 4, 7, 8, 34, 35, 36] | 10 => [2, 3, 4, 7, 8, 10, 11, 12, 34, 35, 36] | _ => []
def vc_step_table_can_k0 (_P : Ctx) (_pre : List ABlk) (_r : AV) (_post : List PB) (h0 : Heap) (vs1 : List AV) (v2 : AV) (v3 : AV) (v4 : AV) (v5 : AV) (v6 : AV) (v7 : AV) (v8 : AV) (v9 : AV) (v10 : AV) (v11 : AV) (v12 : AV) (v13 : AV) (v14 : AV) (v15 : AV) (h16 : Heap) (rd17 : List Nat) (next19 : List AV → Heap → Prop) (v20 : AV) : Prop :=
  ORDX [] [0, 1, 3, 3, 11, 27, 3, 123, 251, 507, 3, 1027, 3075, 8187, 3, 16387, 49155, 3, 245763, 507907, 1032195, 3, 2097155, 6291459, 16760835, 33554431, 67108863, 134217727] [(3, wr h0 h0, (ids (nth vs1 1))), (4, wr h0 h0, (ids v2)), (5, wr h0 h0, (ids v3)), (7, wr h0 h0, (ids v4)), (8, wr h0 h0, (ids v5)), (9, wr h0 h0, (ids v6)), (10, wr h0 h0, (ids (nth vs1 1))), (11, wr h0 h0, (ids v7)), (12, wr h0 h0, (ids v8)), (14, wr h0 h0, (ids (nth vs1 1))), (15, wr h0 h0, (ids v9)), (16, wr h0 h0, (ids v10)), (18, wr h0 h0, (ids v11)), (19, wr h0 h0, (ids v12)), (20, wr h0 h0, (ids v13)), (21, wr h0 h0, (ids (nth vs1 1))), (22, wr h0 h0, (ids v14)), (23, wr h0 h0, (ids v15)), (25, wr h0 h16, rd17)] ∧
  BIN 0 .add (nth vs1 7) (.d (.num .i64 1)) fun v18 =>
  next19 [(nth vs1 0), (nth vs1 1), (nth vs1 2), (nth vs1 3), (nth vs1 4), (nth vs1 5), v20, v18, (nth vs1 8), (nth vs1 9), (nth vs1 10)] h16
def vc_step_table_can_k1 (P : Ctx) (pre : List ABlk) (r : AV) (post : List PB) (vs0 : List AV) (h1 : Heap) (v22 : AV) (next26 : List AV → Heap → Prop) : Prop :=
  FADDR 0 (nth vs0 1) h1 fun v2 =>
  FADDR 0 v2 h1 fun v3 =>
  LOAD false 1 v3 h1 fun v4 =>
  IADDR 2 T_api_Span v4 (nth vs0 7) h1 fun v5 =>
  FADDR 0 v5 h1 fun v6 =>
  LOAD false 1 v6 h1 fun v7 =>
  FADDR 0 (nth vs0 1) h1 fun v8 =>
  FADDR 2 v8 h1 fun v9 =>
  LOAD false 1 v9 h1 fun v10 =>
  BIN 0 .sub v7 v10 fun v11 =>
  FADDR 0 (nth vs0 1) h1 fun v12 =>
  FADDR 0 v12 h1 fun v13 =>
  LOAD false 1 v13 h1 fun v14 =>
  IADDR 2 T_api_Span v14 (nth vs0 7) h1 fun v15 =>
  FADDR 1 v15 h1 fun v16 =>
  LOAD false 1 v16 h1 fun v17 =>
  FADDR 0 (nth vs0 1) h1 fun v18 =>
  FADDR 2 v18 h1 fun v19 =>
  LOAD false 1 v19 h1 fun v20 =>
  BIN 0 .add v17 v20 fun v21 =>
  CALL P f_step_in [v22, v11, v21] 616 h1 (fun rd23 v24 h25 =>
  vc_step_table_can_k0 P pre r post h1 vs0 v2 v3 v4 v5 v6 v8 v9 v12 v13 v14 v15 v16 v18 v19 h25 rd23 next26 v24)
  (fun _ _ _ => False)
def vc_step_table_can_k2 (_P : Ctx) (_pre : List ABlk) (_r : AV) (_post : List PB) (vs0 : List AV) (next2 : List AV → Heap → Prop) (h3 : Heap) : Prop :=
  ORDX [] [0, 1, 3, 3, 11, 27, 3, 123, 251, 507, 3, 1027, 3075, 8187, 3, 16387, 49155, 3, 245763, 507907, 1032195, 3, 2097155, 6291459, 16760835, 33554431, 67108863, 134217727] [] ∧
  BIN 0 .add (nth vs0 7) (.d (.num .i64 1)) fun v1 =>
  next2 [(nth vs0 0), (nth vs0 1), (nth vs0 2), (nth vs0 3), (nth vs0 4), (nth vs0 5), (.d (.bool false)), v1, (nth vs0 8), (nth vs0 9), (nth vs0 10)] h3
def vc_step_table_can_k3 (P : Ctx) (pre : List ABlk) (r : AV) (post : List PB) (vs0 : List AV) (h1 : Heap) (next7 : List AV → Heap → Prop) : Prop :=
  LOAD true 5 (nth vs0 1) h1 fun v2 =>
  LOAD true 2 (nth vs0 2) h1 fun v3 =>
  CALL P f_step_table_figure [v2, v3, (nth vs0 5), (nth vs0 4), (nth vs0 7)] 400 h1 (fun _ v5 h6 =>
  CONDG (nth vs0 6)
  (vc_step_table_can_k1 P pre r post vs0 h6 v5 next7)
  (vc_step_table_can_k2 P pre r post vs0 next7 h6))
  (fun _ _ _ => False)
def vc_step_table_can_k4 (_P : Ctx) (_pre : List ABlk) (_r : AV) (_post : List PB) (vs0 : List AV) (h1 : Heap) (next7 : List AV → Heap → Prop) (next9 : List AV → Heap → Prop) : Prop :=
  COND (nth vs0 6)
  (MKS T_int 1 [(nth vs0 4)] 384 h1 fun v2 h3 =>
  APP T_int 1 (nth vs0 3) v2 392 h3 fun v4 h5 =>
  BIN 0 .add (nth vs0 4) (.d (.num .i64 1)) fun v6 =>
  next7 [(nth vs0 0), (nth vs0 1), (nth vs0 2), v4, v6] h5)
  (BIN 0 .add (nth vs0 10) (.d (.num .i64 1)) fun v8 =>
  next9 [(nth vs0 0), (nth vs0 1), (nth vs0 2), (nth vs0 3), (nth vs0 4), (nth vs0 8), (nth vs0 9), v8] h1)
def vc_step_table_can_k5 (P : Ctx) (pre : List ABlk) (r : AV) (post : List PB) (vs0 : List AV) (h2 : Heap) (next14 : List AV → Heap → Prop) (next15 : List AV → Heap → Prop) : Prop :=
  BIN 0 .lss (nth vs0 7) (nth vs0 6) fun v1 =>
  COND v1
  (IADDR 1 T_int (nth vs0 5) (nth vs0 7) h2 fun v3 =>
  LOAD false 1 v3 h2 fun v4 =>
  FADDR 0 (nth vs0 2) h2 fun v5 =>
  LOAD false 1 v5 h2 fun v6 =>
  BIN 0 .add v6 (.d (.num .i64 1)) fun v7 =>
  LOOP [(nth vs0 0), (nth vs0 1), (nth vs0 2), (nth vs0 3), (nth vs0 4), v4, (.d (.bool true)), v7, (nth vs0 5), (nth vs0 6), (nth vs0 7)] h2 320 fun vs8 h9 next10 =>
  FADDR 1 (nth vs8 2) h9 fun v11 =>
  LOAD false 1 v11 h9 fun v12 =>
  BIN 0 .lss (nth vs8 7) v12 fun v13 =>
  COND v13
  (vc_step_table_can_k3 P pre r post vs8 h9 next10)
  (vc_step_table_can_k4 P pre r post vs8 h9 next14 next15))
  (BIN 0 .add (nth vs0 4) (.d (.num .i64 1)) fun v16 =>
  next14 [(nth vs0 0), (nth vs0 1), (nth vs0 2), (nth vs0 3), v16] h2)
def vc_step_table_can_k6 (P : Ctx) (pre : List ABlk) (r : AV) (post : List PB) (vs0 : List AV) (h1 : Heap) (next15 : List AV → Heap → Prop) : Prop :=
  FADDR 0 (nth vs0 1) h1 fun v2 =>
  FADDR 0 v2 h1 fun v3 =>
  LOAD false 1 v3 h1 fun v4 =>
  FADDR 1 (nth vs0 2) h1 fun v5 =>
  LOAD false 1 v5 h1 fun v6 =>
  IADDR 2 T_api_Span v4 v6 h1 fun v7 =>
  FADDR 1 v7 h1 fun v8 =>
  LOAD false 1 v8 h1 fun v9 =>
  BIN 0 .leq (nth vs0 4) v9 fun v10 =>
  COND v10
  (LEN false (nth vs0 0) h1 fun v11 =>
  LOOP [(nth vs0 0), (nth vs0 1), (nth vs0 2), (nth vs0 3), (nth vs0 4), (nth vs0 0), v11, (.d (.num .i64 0))] h1 240 fun vs12 h13 next14 =>
  vc_step_table_can_k5 P pre r post vs12 h13 next15 next14)
  (POST (nth vs0 3) h1 pre r post)
def vc_step_table_can (P : Ctx) (pre : List ABlk) (a0 a1 a2 : AV) (r : AV) (post : List PB) : Prop :=
  let h0 : Heap := numbered 0 pre
  BOX T_step_table a0 24 h0 fun v3 h1 =>
  BOX T_step_pair a1 32 h1 fun v4 h2 =>
  FADDR 0 v3 h2 fun v14 =>
  FADDR 0 v14 h2 fun v15 =>
  LOAD false 1 v15 h2 fun v16 =>
  FADDR 1 v4 h2 fun v17 =>
  LOAD false 1 v17 h2 fun v18 =>
  IADDR 2 T_api_Span v16 v18 h2 fun v19 =>
  FADDR 0 v19 h2 fun v20 =>
  LOAD false 1 v20 h2 fun v21 =>
  LOOP [a2, v3, v4, .zc, v21] h2 128 fun vs3 h4 next3 =>
  vc_step_table_can_k6 P pre r post vs3 h4 next3
theorem vc_step_table_can_eq (g : GG) (pre : List ABlk) (a0 a1 a2 : AV) (r : AV) (post : List PB) : vcFn2 (Tz g) false ann_step_table_can Tryz.f137 pre [a0, a1, a2] (.ret r) post = vc_step_table_can (Tz g) pre a0 a1 a2 r post := by kernel_rfl
theorem hf_step_table_can : Tryz.prog.funcs[f_step_table_can]? = some Tryz.f137 := by kernel_rfl
theorem ok_step_table_can : fnVcOK Tryz.prog Tryz.f137 = true := by kernel_rfl
theorem nt_step_table_can : Nat.ble 3 Tryz.f137.ntmps = true := by kernel_rfl
theorem meetsH_step_table_can {g : GG} {pre : List ABlk} {a0 a1 a2 : AV} {r : AV} {post : List PB} (hk : Nat.ble pre.length 24 = true) (h : vc_step_table_can (Tz g) pre a0 a1 a2 r post) : MeetsH (Tz g) f_step_table_can pre [a0, a1, a2] (.ret r) post :=
  meetsH_of_vc (C := Tz g) ann_step_table_can hf_step_table_can ok_step_table_can nt_step_table_can hk (pn := false) (Eq.mpr ((vcFn2_eq _ _ _ _ _ _ _ _).trans (vc_step_table_can_eq g pre a0 a1 a2 r post)) h)
def ann_step_table_may : Nat → List Nat := fun n => match n with | 3 => [1, 3, 4] | 7 => [1, 3, 29, 30] | _ => []
def vc_step_table_may_k0 (_P : Ctx) (_pre : List ABlk) (_r : AV) (_post : List PB) (h0 : Heap) (vs1 : List AV) (v2 : AV) (v3 : AV) (v4 : AV) (v5 : AV) (v6 : AV) (v7 : AV) (h8 : Heap) (rd9 : List Nat) (next11 : List AV → Heap → Prop) (v12 : AV) : Prop :=
  ORDX [] [0, 0, 2, 0, 14, 30, 0, 64, 0, 256, 960, 1984, 4094, 0, 16383, 32767] [(0, wr h0 h0, (ids (nth vs1 0))), (1, wr h0 h0, (ids (nth vs1 0))), (2, wr h0 h0, (ids v2)), (4, wr h0 h0, (ids v3)), (5, wr h0 h0, (ids v4)), (6, wr h0 h0, (ids (nth vs1 0))), (7, wr h0 h0, (ids v5)), (10, wr h0 h0, (ids v6)), (11, wr h0 h0, (ids v7)), (14, wr h0 h8, rd9)] ∧
  BIN 0 .add (nth vs1 3) (.d (.num .i64 1)) fun v10 =>
  next11 [(nth vs1 0), v12, (nth vs1 2), v10] h8
def vc_step_table_may_k1 (P : Ctx) (pre : List ABlk) (r : AV) (post : List PB) (vs0 : List AV) (h2 : Heap) (next17 : List AV → Heap → Prop) : Prop :=
  BIN 0 .lss (nth vs0 3) (nth vs0 2) fun v1 =>
  COND v1
  (LOAD true 5 (nth vs0 0) h2 fun v3 =>
  FADDR 3 (nth vs0 0) h2 fun v4 =>
  LOAD false 1 v4 h2 fun v5 =>
  IADDR 1 T_int v5 (nth vs0 3) h2 fun v6 =>
  LOAD false 1 v6 h2 fun v7 =>
  FADDR 3 (nth vs0 0) h2 fun v8 =>
  LOAD false 1 v8 h2 fun v9 =>
  BIN 0 .add (nth vs0 3) (.d (.num .i64 1)) fun v10 =>
  IADDR 1 T_int v9 v10 h2 fun v11 =>
  LOAD false 1 v11 h2 fun v12 =>
  BUILD [(0, 1), (1, 1)] [.d (.num .i64 0), .d (.num .i64 0)] [(0, v7), (1, v12)] fun v13 =>
  CALL P f_step_table_can [v3, v13, (nth vs0 1)] 360 h2 (fun rd14 v15 h16 =>
  vc_step_table_may_k0 P pre r post h2 vs0 v4 v5 v6 v8 v9 v11 h16 rd14 next17 v15)
  (fun _ _ _ => False))
  (LEN false (nth vs0 1) h2 fun v18 =>
  BIN 0 .gtr v18 (.d (.num .i64 0)) fun v19 =>
  POST v19 h2 pre r post)
def vc_step_table_may_k2 (P : Ctx) (pre : List ABlk) (r : AV) (post : List PB) (vs0 : List AV) (h1 : Heap) (next14 : List AV → Heap → Prop) : Prop :=
  FADDR 0 (nth vs0 0) h1 fun v2 =>
  FADDR 0 v2 h1 fun v3 =>
  LOAD false 1 v3 h1 fun v4 =>
  IADDR 2 T_api_Span v4 (.d (.num .i64 0)) h1 fun v5 =>
  FADDR 1 v5 h1 fun v6 =>
  LOAD false 1 v6 h1 fun v7 =>
  BIN 0 .leq (nth vs0 2) v7 fun v8 =>
  COND v8
  (MKS T_int 1 [(nth vs0 2)] 192 h1 fun v9 h10 =>
  APP T_int 1 (nth vs0 1) v9 200 h10 fun v11 h12 =>
  BIN 0 .add (nth vs0 2) (.d (.num .i64 1)) fun v13 =>
  next14 [(nth vs0 0), v11, v13] h12)
  (FADDR 3 (nth vs0 0) h1 fun v15 =>
  LOAD false 1 v15 h1 fun v16 =>
  LEN false v16 h1 fun v17 =>
  BIN 0 .sub v17 (.d (.num .i64 1)) fun v18 =>
  LOOP [(nth vs0 0), (nth vs0 1), v18, (.d (.num .i64 0))] h1 216 fun vs19 h20 next21 =>
  vc_step_table_may_k1 P pre r post vs19 h20 next21)
def vc_step_table_may (P : Ctx) (pre : List ABlk) (a0 : AV) (r : AV) (post : List PB) : Prop :=
  let h0 : Heap := numbered 0 pre
  BOX T_step_table a0 24 h0 fun v1 h1 =>
  FADDR 0 v1 h1 fun v6 =>
  FADDR 0 v6 h1 fun v7 =>
  LOAD false 1 v7 h1 fun v8 =>
  IADDR 2 T_api_Span v8 (.d (.num .i64 0)) h1 fun v9 =>
  FADDR 0 v9 h1 fun v10 =>
  LOAD false 1 v10 h1 fun v11 =>
  LOOP [v1, .zc, v11] h1 104 fun vs2 h3 next2 =>
  vc_step_table_may_k2 P pre r post vs2 h3 next2
theorem vc_step_table_may_eq (g : GG) (pre : List ABlk) (a0 : AV) (r : AV) (post : List PB) : vcFn2 (Tz g) false ann_step_table_may Tryz.f72 pre [a0] (.ret r) post = vc_step_table_may (Tz g) pre a0 r post := by kernel_rfl
theorem hf_step_table_may : Tryz.prog.funcs[f_step_table_may]? = some Tryz.f72 := by kernel_rfl
theorem ok_step_table_may : fnVcOK Tryz.prog Tryz.f72 = true := by kernel_rfl
theorem nt_step_table_may : Nat.ble 1 Tryz.f72.ntmps = true := by kernel_rfl
theorem meetsH_step_table_may {g : GG} {pre : List ABlk} {a0 : AV} {r : AV} {post : List PB} (hk : Nat.ble pre.length 24 = true) (h : vc_step_table_may (Tz g) pre a0 r post) : MeetsH (Tz g) f_step_table_may pre [a0] (.ret r) post :=
  meetsH_of_vc (C := Tz g) ann_step_table_may hf_step_table_may ok_step_table_may nt_step_table_may hk (pn := false) (Eq.mpr ((vcFn2_eq _ _ _ _ _ _ _ _).trans (vc_step_table_may_eq g pre a0 r post)) h)
def ann_step_table_surely : Nat → List Nat := fun n => match n with  | _ => []
def vc_step_table_surely (P : Ctx) (pre : List ABlk) (a0 : AV) (r : AV) (post : List PB) : Prop :=
  let h0 : Heap := numbered 0 pre
  BOX T_step_table a0 24 h0 fun v1 h1 =>
  LOAD true 5 v1 h1 fun v3 =>
  CALL P f_step_attempt [(.fn f_step_table_mustBeSure [v3] [])] 56 h1 (fun _ v5 h2 =>
  BIN 0 .eql v5 (.d (.num .i64 0)) fun v6 =>
  POST v6 h2 pre r post)
  (fun _ _ _ => False)
theorem vc_step_table_surely_eq (g : GG) (pre : List ABlk) (a0 : AV) (r : AV) (post : List PB) : vcFn2 (Tz g) false ann_step_table_surely Tryz.f71 pre [a0] (.ret r) post = vc_step_table_surely (Tz g) pre a0 r post := by kernel_rfl
theorem hf_step_table_surely : Tryz.prog.funcs[f_step_table_surely]? = some Tryz.f71 := by kernel_rfl
theorem ok_step_table_surely : fnVcOK Tryz.prog Tryz.f71 = true := by kernel_rfl
theorem nt_step_table_surely : Nat.ble 1 Tryz.f71.ntmps = true := by kernel_rfl
theorem meetsH_step_table_surely {g : GG} {pre : List ABlk} {a0 : AV} {r : AV} {post : List PB} (hk : Nat.ble pre.length 24 = true) (h : vc_step_table_surely (Tz g) pre a0 r post) : MeetsH (Tz g) f_step_table_surely pre [a0] (.ret r) post :=
  meetsH_of_vc (C := Tz g) ann_step_table_surely hf_step_table_surely ok_step_table_surely nt_step_table_surely hk (pn := false) (Eq.mpr ((vcFn2_eq _ _ _ _ _ _ _ _).trans (vc_step_table_surely_eq g pre a0 r post)) h)
def ann_step_Word : Nat → List Nat := fun n => match n with  | _ => []
def vc_step_Word_k0 (P : Ctx) (pre : List ABlk) (r : AV) (post : List PB) (v0 : AV) (h1 : Heap) (v2 : AV) : Prop :=
  COND v0
  (POST (.tup [(.d (.num .i64 3)), (.d (.num .i64 0))]) h1 pre r post)
  (LOAD true 5 v2 h1 fun v3 =>
  CALL P f_step_table_may [v3] 192 h1 (fun _ v5 h6 =>
  COND v5
  (POST (.tup [(.d (.num .i64 2)), (.d (.num .i64 0))]) h6 pre r post)
  (POST (.tup [(.d (.num .i64 1)), (.d (.num .i64 0))]) h6 pre r post))
  (fun _ _ _ => False))
def vc_step_Word_k1 (P : Ctx) (pre : List ABlk) (r : AV) (post : List PB) (h0 : Heap) (v3 : AV) : Prop :=
  ALLOC T_step_table [.zc, .d (.num .i64 0), .d (.num .i64 0), .zc, .any] 144 h0 fun v1 h2 =>
  STORE 5 v1 v3 h2 fun h4 =>
  LOAD true 5 v1 h4 fun v5 =>
  CALL P f_step_table_surely [v5] 168 h4 (fun _ v7 h8 =>
  vc_step_Word_k0 P pre r post v7 h8 v1)
  (fun _ _ _ => False)
def vc_step_Word_k2 (P : Ctx) (pre : List ABlk) (r : AV) (post : List PB) (v0 : AV) (h2 : Heap) (v3 : AV) (a5 : AV) : Prop :=
  NOT v0 fun v1 =>
  CONDG v1
  (POST (.tup [(.d (.num .i64 0)), (.d (.num .i64 2))]) h2 pre r post)
  (LOAD true 3 v3 h2 fun v4 =>
  CALL P f_step_isKept [v4, a5] 96 h2 (fun _ v7 h8 =>
  NOT v7 fun v9 =>
  COND v9
  (POST (.tup [(.d (.num .i64 0)), (.d (.num .i64 2))]) h8 pre r post)
  (LOAD true 3 v3 h8 fun v10 =>
  CALL P f_step_tableOf [v10, a5] 136 h8 (fun _ v12 h13 =>
  vc_step_Word_k1 P pre r post h13 v12)
  (fun _ _ _ => False)))
  (fun _ _ _ => False))
def vc_step_Word (P : Ctx) (pre : List ABlk) (a0 a1 : AV) (r : AV) (post : List PB) : Prop :=
  let h0 : Heap := numbered 0 pre
  BOX T_api_StepTable a0 24 h0 fun v2 h1 =>
  LOAD true 3 v2 h1 fun v7 =>
  CALL P f_step_isTable [v7] 56 h1 (fun _ v8 h2 =>
  vc_step_Word_k2 P pre r post v8 h2 v2 a1)
  (fun _ _ _ => False)
theorem vc_step_Word_eq (g : GG) (pre : List ABlk) (a0 a1 : AV) (r : AV) (post : List PB) : vcFn2 (Tz g) false ann_step_Word Tryz.f23 pre [a0, a1] (.ret r) post = vc_step_Word (Tz g) pre a0 a1 r post := by kernel_rfl
theorem hf_step_Word : Tryz.prog.funcs[f_step_Word]? = some Tryz.f23 := by kernel_rfl
theorem ok_step_Word : fnVcOK Tryz.prog Tryz.f23 = true := by kernel_rfl
theorem nt_step_Word : Nat.ble 2 Tryz.f23.ntmps = true := by kernel_rfl
theorem meetsH_step_Word {g : GG} {pre : List ABlk} {a0 a1 : AV} {r : AV} {post : List PB} (hk : Nat.ble pre.length 24 = true) (h : vc_step_Word (Tz g) pre a0 a1 r post) : MeetsH (Tz g) f_step_Word pre [a0, a1] (.ret r) post :=
  meetsH_of_vc (C := Tz g) ann_step_Word hf_step_Word ok_step_Word nt_step_Word hk (pn := false) (Eq.mpr ((vcFn2_eq _ _ _ _ _ _ _ _).trans (vc_step_Word_eq g pre a0 a1 r post)) h)
theorem meets_step_Word {g : GG} {a0 a1 : D} {r : Res} (h : vc_step_Word (Tz g) [] (.d a0) (.d a1) r.val (r.bl.map .upd)) : Meets (Tz g) f_step_Word [a0, a1] r := meetsH_step_Word rfl h
end Go.Vc
