/- A part of the proof: general laws of a reading of the model by abstract data, or contracts of the functions that the law calls. -/
import Derived.Test.YtflbianfhogdjaaGreatDoorVc22
import Derived.Test.YtflbianfhogdjaaGreatDoorVc11
import Derived.Test.YtflbianfhogdjaaGreatDoorVc29
import Derived.Test.YtflbianfhogdjaaGreatDoorVc25
set_option maxRecDepth 100000
namespace Go.Vc
open Go Go.Proofs Go.RowKit
def ann_ref01_Choose : Nat → List Nat := fun n => match n with  | _ => []
def vc_ref01_Choose (P : Ctx) (pre : List ABlk) (a0 a1 : AV) (r : AV) (post : List PB) : Prop :=
  let h0 : Heap := numbered 0 pre
  BIN 0 .eql a1 (.d (.num .i64 0)) fun v6 =>
  COND v6
  (POST (.d (.num .i64 1)) h0 pre r post)
  (BIN 0 .sub a1 (.d (.num .i64 1)) fun v9 =>
  CALL P f_ref01_Choose [a0, v9] 72 h0 (fun _ v10 h1 =>
  BIN 0 .sub a0 a1 fun v13 =>
  BIN 0 .add v13 (.d (.num .i64 1)) fun v14 =>
  BIN 0 .mul v10 v14 fun v15 =>
  BIN 0 .quo v15 a1 fun v17 =>
  POST v17 h1 pre r post)
  (fun _ _ _ => False))
theorem vc_ref01_Choose_eq (g : GG) (pre : List ABlk) (a0 a1 : AV) (r : AV) (post : List PB) : vcFn2 (Tz g) false ann_ref01_Choose Tryz.f74 pre [a0, a1] (.ret r) post = vc_ref01_Choose (Tz g) pre a0 a1 r post := by kernel_rfl
theorem hf_ref01_Choose : Tryz.prog.funcs[f_ref01_Choose]? = some Tryz.f74 := by kernel_rfl
theorem ok_ref01_Choose : fnVcOK Tryz.prog Tryz.f74 = true := by kernel_rfl
theorem nt_ref01_Choose : Nat.ble 2 Tryz.f74.ntmps = true := by kernel_rfl
theorem meetsH_ref01_Choose {g : GG} {pre : List ABlk} {a0 a1 : AV} {r : AV} {post : List PB} (hk : Nat.ble pre.length 24 = true) (h : vc_ref01_Choose (Tz g) pre a0 a1 r post) : MeetsH (Tz g) f_ref01_Choose pre [a0, a1] (.ret r) post :=
  meetsH_of_vc (C := Tz g) ann_ref01_Choose hf_ref01_Choose ok_ref01_Choose nt_ref01_Choose hk (pn := false) (Eq.mpr ((vcFn2_eq _ _ _ _ _ _ _ _).trans (vc_ref01_Choose_eq g pre a0 a1 r post)) h)
theorem meets_ref01_Choose {g : GG} {a0 a1 : D} {r : Res} (h : vc_ref01_Choose (Tz g) [] (.d a0) (.d a1) r.val (r.bl.map .upd)) : Meets (Tz g) f_ref01_Choose [a0, a1] r := meetsH_ref01_Choose rfl h
def ann_ref01_value : Nat → List Nat := fun n => match n with | 3 => [0, 1, 5, 6] | _ => []
def vc_ref01_value (P : Ctx) (pre : List ABlk) (a0 a1 : AV) (r : AV) (post : List PB) : Prop :=
  let h0 : Heap := numbered 0 pre
  LOOP [a0, a1, (.d (.num .i64 0)), (.d (.num .i64 0))] h0 48 fun vs1 h2 next1 =>
  LEN false (nth vs1 0) h2 fun v9 =>
  BIN 0 .lss (nth vs1 3) v9 fun v10 =>
  COND v10
  (IADDR 1 T_int (nth vs1 0) (nth vs1 3) h2 fun v16 =>
  LOAD false 1 v16 h2 fun v17 =>
  CALL P f_ref01_Choose [(nth vs1 1), (nth vs1 3)] 144 h2 (fun rd4 v20 h3 =>
  BIN 0 .mul v17 v20 fun v21 =>
  BIN 0 .add (nth vs1 2) v21 fun v22 =>
  ORDX [] [0, 0, 0, 6, 14, 0, 0, 96, 254, 511, 1023] [(3, wr h2 h2, (ids (nth vs1 0))), (4, wr h2 h2, (ids v16)), (7, wr h2 h3, rd4)] ∧
  BIN 0 .add (nth vs1 3) (.d (.num .i64 1)) fun v12 =>
  next1 [(nth vs1 0), (nth vs1 1), v22, v12] h3)
  (fun _ _ _ => False))
  (POST (nth vs1 2) h2 pre r post)
theorem vc_ref01_value_eq (g : GG) (pre : List ABlk) (a0 a1 : AV) (r : AV) (post : List PB) : vcFn2 (Tz g) false ann_ref01_value Tryz.f71 pre [a0, a1] (.ret r) post = vc_ref01_value (Tz g) pre a0 a1 r post := by kernel_rfl
theorem hf_ref01_value : Tryz.prog.funcs[f_ref01_value]? = some Tryz.f71 := by kernel_rfl
theorem ok_ref01_value : fnVcOK Tryz.prog Tryz.f71 = true := by kernel_rfl
theorem nt_ref01_value : Nat.ble 2 Tryz.f71.ntmps = true := by kernel_rfl
theorem meetsH_ref01_value {g : GG} {pre : List ABlk} {a0 a1 : AV} {r : AV} {post : List PB} (hk : Nat.ble pre.length 24 = true) (h : vc_ref01_value (Tz g) pre a0 a1 r post) : MeetsH (Tz g) f_ref01_value pre [a0, a1] (.ret r) post :=
  meetsH_of_vc (C := Tz g) ann_ref01_value hf_ref01_value ok_ref01_value nt_ref01_value hk (pn := false) (Eq.mpr ((vcFn2_eq _ _ _ _ _ _ _ _).trans (vc_ref01_value_eq g pre a0 a1 r post)) h)
theorem meets_ref01_value {g : GG} {a0 a1 : D} {r : Res} (h : vc_ref01_value (Tz g) [] (.d a0) (.d a1) r.val (r.bl.map .upd)) : Meets (Tz g) f_ref01_value [a0, a1] r := meetsH_ref01_value rfl h
def ann_ref01_Table : Nat → List Nat := fun n => match n with | 3 => [1, 2, 5, 6] | _ => []
def vc_ref01_Table (P : Ctx) (pre : List ABlk) (a0 a1 : AV) (r : AV) (post : List PB) : Prop :=
  let h0 : Heap := numbered 0 pre
  BOX T_api_DifferPlan a0 24 h0 fun v2 h1 =>
  LOOP [a1, v2, .zc, (.d (.num .i64 0))] h1 56 fun vs2 h3 next2 =>
  FADDR 1 (nth vs2 1) h3 fun v8 =>
  LOAD false 1 v8 h3 fun v9 =>
  BIN 0 .lss (nth vs2 3) v9 fun v10 =>
  COND v10
  (CALL P f_ref01_value [(nth vs2 0), (nth vs2 3)] 120 h3 (fun _ v16 h4 =>
  MKS T_int 1 [v16] 128 h4 fun v17 h6 =>
  APP T_int 1 (nth vs2 2) v17 136 h6 fun v18 h7 =>
  BIN 0 .add (nth vs2 3) (.d (.num .i64 1)) fun v12 =>
  next2 [(nth vs2 0), (nth vs2 1), v18, v12] h7)
  (fun _ _ _ => False))
  (POST (nth vs2 2) h3 pre r post)
theorem vc_ref01_Table_eq (g : GG) (pre : List ABlk) (a0 a1 : AV) (r : AV) (post : List PB) : vcFn2 (Tz g) false ann_ref01_Table Tryz.f40 pre [a0, a1] (.ret r) post = vc_ref01_Table (Tz g) pre a0 a1 r post := by kernel_rfl
theorem hf_ref01_Table : Tryz.prog.funcs[f_ref01_Table]? = some Tryz.f40 := by kernel_rfl
theorem ok_ref01_Table : fnVcOK Tryz.prog Tryz.f40 = true := by kernel_rfl
theorem nt_ref01_Table : Nat.ble 2 Tryz.f40.ntmps = true := by kernel_rfl
theorem meetsH_ref01_Table {g : GG} {pre : List ABlk} {a0 a1 : AV} {r : AV} {post : List PB} (hk : Nat.ble pre.length 24 = true) (h : vc_ref01_Table (Tz g) pre a0 a1 r post) : MeetsH (Tz g) f_ref01_Table pre [a0, a1] (.ret r) post :=
  meetsH_of_vc (C := Tz g) ann_ref01_Table hf_ref01_Table ok_ref01_Table nt_ref01_Table hk (pn := false) (Eq.mpr ((vcFn2_eq _ _ _ _ _ _ _ _).trans (vc_ref01_Table_eq g pre a0 a1 r post)) h)
theorem meets_ref01_Table {g : GG} {a0 a1 : D} {r : Res} (h : vc_ref01_Table (Tz g) [] (.d a0) (.d a1) r.val (r.bl.map .upd)) : Meets (Tz g) f_ref01_Table [a0, a1] r := meetsH_ref01_Table rfl h
def ann_differ_start_least : Nat → List Nat := fun n => match n with  | _ => []
def vc_differ_start_least (P : Ctx) (pre : List ABlk) (a0 : AV) (r : AV) (post : List PB) : Prop :=
  let h0 : Heap := numbered 0 pre
  BOX T_differ_start a0 24 h0 fun v1 h1 =>
  FADDR 0 v1 h1 fun v3 =>
  LOAD false 1 v3 h1 fun v4 =>
  POST v4 h1 pre r post
theorem vc_differ_start_least_eq (g : GG) (pre : List ABlk) (a0 : AV) (r : AV) (post : List PB) : vcFn2 (Tz g) false ann_differ_start_least Tryz.f125 pre [a0] (.ret r) post = vc_differ_start_least (Tz g) pre a0 r post := by kernel_rfl
theorem hf_differ_start_least : Tryz.prog.funcs[f_differ_start_least]? = some Tryz.f125 := by kernel_rfl
theorem ok_differ_start_least : fnVcOK Tryz.prog Tryz.f125 = true := by kernel_rfl
theorem nt_differ_start_least : Nat.ble 1 Tryz.f125.ntmps = true := by kernel_rfl
theorem meetsH_differ_start_least {g : GG} {pre : List ABlk} {a0 : AV} {r : AV} {post : List PB} (hk : Nat.ble pre.length 24 = true) (h : vc_differ_start_least (Tz g) pre a0 r post) : MeetsH (Tz g) f_differ_start_least pre [a0] (.ret r) post :=
  meetsH_of_vc (C := Tz g) ann_differ_start_least hf_differ_start_least ok_differ_start_least nt_differ_start_least hk (pn := false) (Eq.mpr ((vcFn2_eq _ _ _ _ _ _ _ _).trans (vc_differ_start_least_eq g pre a0 r post)) h)
theorem meets_differ_start_least {g : GG} {a0 : D} {r : Res} (h : vc_differ_start_least (Tz g) [] (.d a0) r.val (r.bl.map .upd)) : Meets (Tz g) f_differ_start_least [a0] r := meetsH_differ_start_least rfl h
def ann_differ_start_most : Nat → List Nat := fun n => match n with  | _ => []
def vc_differ_start_most (P : Ctx) (pre : List ABlk) (a0 : AV) (r : AV) (post : List PB) : Prop :=
  let h0 : Heap := numbered 0 pre
  BOX T_differ_start a0 24 h0 fun v1 h1 =>
  FADDR 1 v1 h1 fun v3 =>
  LOAD false 1 v3 h1 fun v4 =>
  POST v4 h1 pre r post
theorem vc_differ_start_most_eq (g : GG) (pre : List ABlk) (a0 : AV) (r : AV) (post : List PB) : vcFn2 (Tz g) false ann_differ_start_most Tryz.f126 pre [a0] (.ret r) post = vc_differ_start_most (Tz g) pre a0 r post := by kernel_rfl
theorem hf_differ_start_most : Tryz.prog.funcs[f_differ_start_most]? = some Tryz.f126 := by kernel_rfl
theorem ok_differ_start_most : fnVcOK Tryz.prog Tryz.f126 = true := by kernel_rfl
theorem nt_differ_start_most : Nat.ble 1 Tryz.f126.ntmps = true := by kernel_rfl
theorem meetsH_differ_start_most {g : GG} {pre : List ABlk} {a0 : AV} {r : AV} {post : List PB} (hk : Nat.ble pre.length 24 = true) (h : vc_differ_start_most (Tz g) pre a0 r post) : MeetsH (Tz g) f_differ_start_most pre [a0] (.ret r) post :=
  meetsH_of_vc (C := Tz g) ann_differ_start_most hf_differ_start_most ok_differ_start_most nt_differ_start_most hk (pn := false) (Eq.mpr ((vcFn2_eq _ _ _ _ _ _ _ _).trans (vc_differ_start_most_eq g pre a0 r post)) h)
theorem meets_differ_start_most {g : GG} {a0 : D} {r : Res} (h : vc_differ_start_most (Tz g) [] (.d a0) r.val (r.bl.map .upd)) : Meets (Tz g) f_differ_start_most [a0] r := meetsH_differ_start_most rfl h
def ann_differ_end : Nat → List Nat := fun n => match n with | 4 => [1, 5, 6, 11, 12, 13] | _ => []
def vc_differ_end (P : Ctx) (pre : List ABlk) (a0 a1 : AV) (r : AV) (post : List PB) : Prop :=
  let h0 : Heap := numbered 0 pre
  BOX T_api_DifferPlan a0 24 h0 fun v2 h1 =>
  BUILD [(0, 1), (1, 1)] [.any, .any] [(0, (.d (.fn f_differ_start_least [] []))), (1, (.d (.fn f_differ_start_most [] [])))] fun v9 =>
  ALLOC T_2_func_differ_start_int [.any, .any] 48 h1 fun v5 h2 =>
  STORE 2 v5 v9 h2 fun h3 =>
  FADDR 0 v2 h3 fun v10 =>
  LOAD false 1 v10 h3 fun v11 =>
  LEN false v11 h3 fun v12 =>
  LOOP [a1, v5, .zc, v11, v12, (.d (.num .i64 0))] h3 104 fun vs4 h5 next4 =>
  BIN 0 .lss (nth vs4 5) (nth vs4 4) fun v14 =>
  COND v14
  (IADDR 2 T_api_Span (nth vs4 3) (nth vs4 5) h5 fun v15 =>
  LOAD true 2 v15 h5 fun v16 =>
  ALLOC T_api_Span [.d (.num .i64 0), .d (.num .i64 0)] 136 h5 fun v8 h6 =>
  STORE 2 v8 v16 h6 fun h7 =>
  AADDR 1 2 (nth vs4 1) (nth vs4 0) h7 fun v19 =>
  LOAD false 1 v19 h7 fun v20 =>
  LOAD true 2 v8 h7 fun v21 =>
  CALLV P v20 [v21] 192 h7 (fun rd9 v22 h8 =>
  MKS T_int 1 [v22] 200 h8 fun v23 h10 =>
  APP T_int 1 (nth vs4 2) v23 208 h10 fun v24 h11 =>
  ORDX [] [0, 0, 2, 6, 0, 30, 62, 127, 255] [(2, wr h7 h7, (ids (nth vs4 1))), (3, wr h7 h7, (ids v19)), (4, wr h7 h7, (ids v8)), (5, wr h7 h8, rd9), (6, wr h8 h10, (ids.idsL [v22])), (7, wr h10 h11, (ids.idsL [(nth vs4 2), v23]))] ∧
  BIN 0 .add (nth vs4 5) (.d (.num .i64 1)) fun v25 =>
  next4 [(nth vs4 0), (nth vs4 1), v24, (nth vs4 3), (nth vs4 4), v25] h11)
  (fun _ _ _ => False))
  (POST (nth vs4 2) h5 pre r post)
theorem vc_differ_end_eq (g : GG) (pre : List ABlk) (a0 a1 : AV) (r : AV) (post : List PB) : vcFn2 (Tz g) false ann_differ_end Tryz.f105 pre [a0, a1] (.ret r) post = vc_differ_end (Tz g) pre a0 a1 r post := by kernel_rfl
theorem hf_differ_end : Tryz.prog.funcs[f_differ_end]? = some Tryz.f105 := by kernel_rfl
theorem ok_differ_end : fnVcOK Tryz.prog Tryz.f105 = true := by kernel_rfl
theorem nt_differ_end : Nat.ble 2 Tryz.f105.ntmps = true := by kernel_rfl
theorem meetsH_differ_end {g : GG} {pre : List ABlk} {a0 a1 : AV} {r : AV} {post : List PB} (hk : Nat.ble pre.length 24 = true) (h : vc_differ_end (Tz g) pre a0 a1 r post) : MeetsH (Tz g) f_differ_end pre [a0, a1] (.ret r) post :=
  meetsH_of_vc (C := Tz g) ann_differ_end hf_differ_end ok_differ_end nt_differ_end hk (pn := false) (Eq.mpr ((vcFn2_eq _ _ _ _ _ _ _ _).trans (vc_differ_end_eq g pre a0 a1 r post)) h)
theorem meets_differ_end {g : GG} {a0 a1 : D} {r : Res} (h : vc_differ_end (Tz g) [] (.d a0) (.d a1) r.val (r.bl.map .upd)) : Meets (Tz g) f_differ_end [a0, a1] r := meetsH_differ_end rfl h
def ann_differ_rows : Nat → List Nat := fun n => match n with | 4 => [3, 4, 5, 18, 19] | _ => []
def vc_differ_rows (P : Ctx) (pre : List ABlk) (a0 : AV) (r : AV) (post : List PB) : Prop :=
  let h0 : Heap := numbered 0 pre
  BOX T_api_DifferPlan a0 24 h0 fun v1 h1 =>
  LOAD true 3 v1 h1 fun v7 =>
  LOAD true 3 v1 h1 fun v8 =>
  CALL P f_differ_end [v8, (.d (.num .i64 0))] 56 h1 (fun rd3 v9 h2 =>
  BUILD [(0, 3), (3, 1)] [.zc, .d (.num .i64 0), .d (.num .i64 0), .zc] [(0, v7), (1, v9)] fun v10 =>
  CALL P f_differ_table_values [v10] 72 h2 (fun rd5 v11 h4 =>
  LOAD true 3 v1 h4 fun v12 =>
  LOAD true 3 v1 h4 fun v13 =>
  CALL P f_differ_end [v13, (.d (.num .i64 1))] 96 h4 (fun rd7 v14 h6 =>
  BUILD [(0, 3), (3, 1)] [.zc, .d (.num .i64 0), .d (.num .i64 0), .zc] [(0, v12), (1, v14)] fun v15 =>
  CALL P f_differ_table_values [v15] 112 h6 (fun rd9 v16 h8 =>
  ORDX [] [0, 0, 2, 7, 15, 0, 0, 95, 255, 511, 1023, 2047] [(0, wr h1 h1, (ids v1)), (1, wr h1 h1, (ids v1)), (2, wr h1 h2, rd3), (4, wr h2 h4, rd5), (5, wr h4 h4, (ids v1)), (6, wr h4 h4, (ids v1)), (7, wr h4 h6, rd7), (9, wr h6 h8, rd9)] ∧
  LEN false v11 h8 fun v18 =>
  LOOP [v11, v16, .zc, v18, (.d (.num .i64 0))] h8 168 fun vs10 h11 next10 =>
  BIN 0 .lss (nth vs10 4) (nth vs10 3) fun v20 =>
  COND v20
  (IADDR 1 T_int (nth vs10 0) (nth vs10 4) h11 fun v25 =>
  LOAD false 1 v25 h11 fun v26 =>
  IADDR 1 T_int (nth vs10 1) (nth vs10 4) h11 fun v29 =>
  LOAD false 1 v29 h11 fun v30 =>
  BUILD [(0, 1), (1, 1)] [.d (.num .i64 0), .d (.num .i64 0)] [(0, v26), (1, v30)] fun v31 =>
  MKS T_api_Span 2 [v31] 280 h11 fun v32 h12 =>
  APP T_api_Span 2 (nth vs10 2) v32 288 h12 fun v33 h13 =>
  ORDX [] [0, 0, 0, 6, 14, 0, 0, 96, 224, 510, 1022, 2047, 4095] [(3, wr h11 h11, (ids (nth vs10 0))), (4, wr h11 h11, (ids v25)), (7, wr h11 h11, (ids (nth vs10 1))), (8, wr h11 h11, (ids v29)), (10, wr h11 h12, (ids.idsL [v31])), (11, wr h12 h13, (ids.idsL [(nth vs10 2), v32]))] ∧
  BIN 0 .add (nth vs10 4) (.d (.num .i64 1)) fun v34 =>
  next10 [(nth vs10 0), (nth vs10 1), v33, (nth vs10 3), v34] h13)
  (POST (nth vs10 2) h11 pre r post))
  (fun _ _ _ => False))
  (fun _ _ _ => False))
  (fun _ _ _ => False))
  (fun _ _ _ => False)
theorem vc_differ_rows_eq (g : GG) (pre : List ABlk) (a0 : AV) (r : AV) (post : List PB) : vcFn2 (Tz g) false ann_differ_rows Tryz.f72 pre [a0] (.ret r) post = vc_differ_rows (Tz g) pre a0 r post := by kernel_rfl
theorem hf_differ_rows : Tryz.prog.funcs[f_differ_rows]? = some Tryz.f72 := by kernel_rfl
theorem ok_differ_rows : fnVcOK Tryz.prog Tryz.f72 = true := by kernel_rfl
theorem nt_differ_rows : Nat.ble 1 Tryz.f72.ntmps = true := by kernel_rfl
theorem meetsH_differ_rows {g : GG} {pre : List ABlk} {a0 : AV} {r : AV} {post : List PB} (hk : Nat.ble pre.length 24 = true) (h : vc_differ_rows (Tz g) pre a0 r post) : MeetsH (Tz g) f_differ_rows pre [a0] (.ret r) post :=
  meetsH_of_vc (C := Tz g) ann_differ_rows hf_differ_rows ok_differ_rows nt_differ_rows hk (pn := false) (Eq.mpr ((vcFn2_eq _ _ _ _ _ _ _ _).trans (vc_differ_rows_eq g pre a0 r post)) h)
theorem meets_differ_rows {g : GG} {a0 : D} {r : Res} (h : vc_differ_rows (Tz g) [] (.d a0) r.val (r.bl.map .upd)) : Meets (Tz g) f_differ_rows [a0] r := meetsH_differ_rows rfl h
def ann_differ_unit : Nat → List Nat := fun n => match n with | 3 => [3, 5, 6] | _ => []
def vc_differ_unit (P : Ctx) (pre : List ABlk) (a0 : AV) (r : AV) (post : List PB) : Prop :=
  let h0 : Heap := numbered 0 pre
  BOX T_api_DifferPlan a0 24 h0 fun v1 h1 =>
  FADDR 2 v1 h1 fun v4 =>
  LOAD false 1 v4 h1 fun v5 =>
  LOOP [(.d (.num .i64 1)), v5, (.d (.num .i64 0))] h1 72 fun vs2 h3 next2 =>
  BIN 0 .lss (nth vs2 2) (nth vs2 1) fun v7 =>
  COND v7
  (BIN 0 .mul (nth vs2 0) (.d (.num .i64 10)) fun v9 =>
  BIN 0 .add (nth vs2 2) (.d (.num .i64 1)) fun v10 =>
  next2 [v9, (nth vs2 1), v10] h3)
  (POST (nth vs2 0) h3 pre r post)
theorem vc_differ_unit_eq (g : GG) (pre : List ABlk) (a0 : AV) (r : AV) (post : List PB) : vcFn2 (Tz g) false ann_differ_unit Tryz.f134 pre [a0] (.ret r) post = vc_differ_unit (Tz g) pre a0 r post := by kernel_rfl
theorem hf_differ_unit : Tryz.prog.funcs[f_differ_unit]? = some Tryz.f134 := by kernel_rfl
theorem ok_differ_unit : fnVcOK Tryz.prog Tryz.f134 = true := by kernel_rfl
theorem nt_differ_unit : Nat.ble 1 Tryz.f134.ntmps = true := by kernel_rfl
theorem meetsH_differ_unit {g : GG} {pre : List ABlk} {a0 : AV} {r : AV} {post : List PB} (hk : Nat.ble pre.length 24 = true) (h : vc_differ_unit (Tz g) pre a0 r post) : MeetsH (Tz g) f_differ_unit pre [a0] (.ret r) post :=
  meetsH_of_vc (C := Tz g) ann_differ_unit hf_differ_unit ok_differ_unit nt_differ_unit hk (pn := false) (Eq.mpr ((vcFn2_eq _ _ _ _ _ _ _ _).trans (vc_differ_unit_eq g pre a0 r post)) h)
theorem meets_differ_unit {g : GG} {a0 : D} {r : Res} (h : vc_differ_unit (Tz g) [] (.d a0) r.val (r.bl.map .upd)) : Meets (Tz g) f_differ_unit [a0] r := meetsH_differ_unit rfl h
def ann_differ_figure : Nat → List Nat := fun n => match n with  | _ => []
def vc_differ_figure (P : Ctx) (pre : List ABlk) (a0 a1 : AV) (r : AV) (post : List PB) : Prop :=
  let h0 : Heap := numbered 0 pre
  BOX T_api_DifferPlan a0 24 h0 fun v2 h1 =>
  LOAD true 3 v2 h1 fun v7 =>
  CALL P f_differ_unit [v7] 48 h1 (fun _ v8 h2 =>
  BIN 0 .quo v8 (.d (.num .i64 2)) fun v11 =>
  BIN 0 .add a1 v11 fun v12 =>
  BIN 0 .lss v12 (.d (.num .i64 0)) fun v14 =>
  COND v14
  (BIN 0 .sub v8 (.d (.num .i64 1)) fun v16 =>
  BIN 0 .sub v16 v12 fun v18 =>
  BIN 0 .quo v18 v8 fun v20 =>
  NEG v20 fun v21 =>
  POST v21 h2 pre r post)
  (BIN 0 .quo v12 v8 fun v24 =>
  POST v24 h2 pre r post))
  (fun _ _ _ => False)
theorem vc_differ_figure_eq (g : GG) (pre : List ABlk) (a0 a1 : AV) (r : AV) (post : List PB) : vcFn2 (Tz g) false ann_differ_figure Tryz.f116 pre [a0, a1] (.ret r) post = vc_differ_figure (Tz g) pre a0 a1 r post := by kernel_rfl
theorem hf_differ_figure : Tryz.prog.funcs[f_differ_figure]? = some Tryz.f116 := by kernel_rfl
theorem ok_differ_figure : fnVcOK Tryz.prog Tryz.f116 = true := by kernel_rfl
theorem nt_differ_figure : Nat.ble 2 Tryz.f116.ntmps = true := by kernel_rfl
theorem meetsH_differ_figure {g : GG} {pre : List ABlk} {a0 a1 : AV} {r : AV} {post : List PB} (hk : Nat.ble pre.length 24 = true) (h : vc_differ_figure (Tz g) pre a0 a1 r post) : MeetsH (Tz g) f_differ_figure pre [a0, a1] (.ret r) post :=
  meetsH_of_vc (C := Tz g) ann_differ_figure hf_differ_figure ok_differ_figure nt_differ_figure hk (pn := false) (Eq.mpr ((vcFn2_eq _ _ _ _ _ _ _ _).trans (vc_differ_figure_eq g pre a0 a1 r post)) h)
theorem meets_differ_figure {g : GG} {a0 a1 : D} {r : Res} (h : vc_differ_figure (Tz g) [] (.d a0) (.d a1) r.val (r.bl.map .upd)) : Meets (Tz g) f_differ_figure [a0, a1] r := meetsH_differ_figure rfl h
def ann_differ_printed : Nat → List Nat := fun n => match n with | 3 => [1, 3, 7, 8, 9] | _ => []
def vc_differ_printed (P : Ctx) (pre : List ABlk) (a0 : AV) (r : AV) (post : List PB) : Prop :=
  let h0 : Heap := numbered 0 pre
  BOX T_api_DifferPlan a0 24 h0 fun v1 h1 =>
  LOAD true 3 v1 h1 fun v6 =>
  CALL P f_differ_rows [v6] 56 h1 (fun _ v7 h2 =>
  LEN false v7 h2 fun v8 =>
  LOOP [v1, .zc, v7, v8, (.d (.num .i64 0))] h2 80 fun vs4 h5 next4 =>
  BIN 0 .lss (nth vs4 4) (nth vs4 3) fun v10 =>
  COND v10
  (IADDR 2 T_api_Span (nth vs4 2) (nth vs4 4) h5 fun v11 =>
  LOAD true 2 v11 h5 fun v12 =>
  ALLOC T_api_Span [.d (.num .i64 0), .d (.num .i64 0)] 112 h5 fun v5 h6 =>
  STORE 2 v5 v12 h6 fun h7 =>
  LOAD true 3 (nth vs4 0) h7 fun v14 =>
  FADDR 0 v5 h7 fun v15 =>
  LOAD false 1 v15 h7 fun v16 =>
  CALL P f_differ_figure [v14, v16] 160 h7 (fun rd9 v17 h8 =>
  LOAD true 3 (nth vs4 0) h8 fun v18 =>
  FADDR 1 v5 h8 fun v19 =>
  LOAD false 1 v19 h8 fun v20 =>
  CALL P f_differ_figure [v18, v20] 192 h8 (fun rd11 v21 h10 =>
  BUILD [(0, 1), (1, 1)] [.d (.num .i64 0), .d (.num .i64 0)] [(0, v17), (1, v21)] fun v22 =>
  MKS T_api_Span 2 [v22] 208 h10 fun v23 h12 =>
  APP T_api_Span 2 (nth vs4 1) v23 216 h12 fun v24 h13 =>
  ORDX [] [0, 0, 0, 4, 14, 0, 0, 64, 254, 510, 1022, 2047, 4095] [(1, wr h7 h7, (ids (nth vs4 0))), (2, wr h7 h7, (ids v5)), (3, wr h7 h7, (ids v15)), (4, wr h7 h8, rd9), (5, wr h8 h8, (ids (nth vs4 0))), (6, wr h8 h8, (ids v5)), (7, wr h8 h8, (ids v19)), (8, wr h8 h10, rd11), (10, wr h10 h12, (ids.idsL [v22])), (11, wr h12 h13, (ids.idsL [(nth vs4 1), v23]))] ∧
  BIN 0 .add (nth vs4 4) (.d (.num .i64 1)) fun v25 =>
  next4 [(nth vs4 0), v24, (nth vs4 2), (nth vs4 3), v25] h13)
  (fun _ _ _ => False))
  (fun _ _ _ => False))
  (POST (nth vs4 1) h5 pre r post))
  (fun _ _ _ => False)
theorem vc_differ_printed_eq (g : GG) (pre : List ABlk) (a0 : AV) (r : AV) (post : List PB) : vcFn2 (Tz g) false ann_differ_printed Tryz.f83 pre [a0] (.ret r) post = vc_differ_printed (Tz g) pre a0 r post := by kernel_rfl
theorem hf_differ_printed : Tryz.prog.funcs[f_differ_printed]? = some Tryz.f83 := by kernel_rfl
theorem ok_differ_printed : fnVcOK Tryz.prog Tryz.f83 = true := by kernel_rfl
theorem nt_differ_printed : Nat.ble 1 Tryz.f83.ntmps = true := by kernel_rfl
theorem meetsH_differ_printed {g : GG} {pre : List ABlk} {a0 : AV} {r : AV} {post : List PB} (hk : Nat.ble pre.length 24 = true) (h : vc_differ_printed (Tz g) pre a0 r post) : MeetsH (Tz g) f_differ_printed pre [a0] (.ret r) post :=
  meetsH_of_vc (C := Tz g) ann_differ_printed hf_differ_printed ok_differ_printed nt_differ_printed hk (pn := false) (Eq.mpr ((vcFn2_eq _ _ _ _ _ _ _ _).trans (vc_differ_printed_eq g pre a0 r post)) h)
theorem meets_differ_printed {g : GG} {a0 : D} {r : Res} (h : vc_differ_printed (Tz g) [] (.d a0) r.val (r.bl.map .upd)) : Meets (Tz g) f_differ_printed [a0] r := meetsH_differ_printed rfl h
def ann_ref01_SameSpans : Nat → List Nat := fun n => match n with | 4 => [0, 1, 5] | _ => []
def vc_ref01_SameSpans (P : Ctx) (pre : List ABlk) (a0 a1 : AV) (r : AV) (post : List PB) : Prop :=
  let h0 : Heap := numbered 0 pre
  LEN false a0 h0 fun v7 =>
  LEN false a1 h0 fun v9 =>
  BIN 0 .neq v7 v9 fun v10 =>
  COND v10
  (POST (.d (.bool false)) h0 pre r post)
  (LOOP [a0, a1, (.d (.num .i64 0))] h0 80 fun vs1 h2 next1 =>
  LEN false (nth vs1 0) h2 fun v13 =>
  BIN 0 .lss (nth vs1 2) v13 fun v14 =>
  COND v14
  (IADDR 2 T_api_Span (nth vs1 0) (nth vs1 2) h2 fun v19 =>
  LOAD true 2 v19 h2 fun v20 =>
  IADDR 2 T_api_Span (nth vs1 1) (nth vs1 2) h2 fun v23 =>
  LOAD true 2 v23 h2 fun v24 =>
  BIN 1002 .neq v20 v24 fun v25 =>
  ORDX [] [0, 0, 3, 7, 0, 0, 48, 112, 255] [(2, wr h2 h2, (ids (nth vs1 0))), (3, wr h2 h2, (ids v19)), (6, wr h2 h2, (ids (nth vs1 1))), (7, wr h2 h2, (ids v23))] ∧
  COND v25
  (POST (.d (.bool false)) h2 pre r post)
  (BIN 0 .add (nth vs1 2) (.d (.num .i64 1)) fun v16 =>
  next1 [(nth vs1 0), (nth vs1 1), v16] h2))
  (POST (.d (.bool true)) h2 pre r post))
theorem vc_ref01_SameSpans_eq (g : GG) (pre : List ABlk) (a0 a1 : AV) (r : AV) (post : List PB) : vcFn2 (Tz g) false ann_ref01_SameSpans Tryz.f25 pre [a0, a1] (.ret r) post = vc_ref01_SameSpans (Tz g) pre a0 a1 r post := by kernel_rfl
theorem hf_ref01_SameSpans : Tryz.prog.funcs[f_ref01_SameSpans]? = some Tryz.f25 := by kernel_rfl
theorem ok_ref01_SameSpans : fnVcOK Tryz.prog Tryz.f25 = true := by kernel_rfl
theorem nt_ref01_SameSpans : Nat.ble 2 Tryz.f25.ntmps = true := by kernel_rfl
theorem meetsH_ref01_SameSpans {g : GG} {pre : List ABlk} {a0 a1 : AV} {r : AV} {post : List PB} (hk : Nat.ble pre.length 24 = true) (h : vc_ref01_SameSpans (Tz g) pre a0 a1 r post) : MeetsH (Tz g) f_ref01_SameSpans pre [a0, a1] (.ret r) post :=
  meetsH_of_vc (C := Tz g) ann_ref01_SameSpans hf_ref01_SameSpans ok_ref01_SameSpans nt_ref01_SameSpans hk (pn := false) (Eq.mpr ((vcFn2_eq _ _ _ _ _ _ _ _).trans (vc_ref01_SameSpans_eq g pre a0 a1 r post)) h)
theorem meets_ref01_SameSpans {g : GG} {a0 a1 : D} {r : Res} (h : vc_ref01_SameSpans (Tz g) [] (.d a0) (.d a1) r.val (r.bl.map .upd)) : Meets (Tz g) f_ref01_SameSpans [a0, a1] r := meetsH_ref01_SameSpans rfl h
def ann_differ_Rows : Nat → List Nat := fun n => match n with  | _ => []
def vc_differ_Rows (P : Ctx) (pre : List ABlk) (a0 : AV) (r : AV) (post : List PB) : Prop :=
  let h0 : Heap := numbered 0 pre
  BOX T_api_DifferPlan a0 24 h0 fun v1 h1 =>
  LOAD true 3 v1 h1 fun v4 =>
  CALL P f_differ_isPlan [v4] 56 h1 (fun _ v5 h2 =>
  NOT v5 fun v6 =>
  COND v6
  (POST (.tup [.zc, (.d (.num .i64 2))]) h2 pre r post)
  (LOAD true 3 v1 h2 fun v7 =>
  CALL P f_differ_rows [v7] 80 h2 (fun _ v8 h4 =>
  POST (.tup [v8, (.d (.num .i64 0))]) h4 pre r post)
  (fun _ _ _ => False)))
  (fun _ _ _ => False)
theorem vc_differ_Rows_eq (g : GG) (pre : List ABlk) (a0 : AV) (r : AV) (post : List PB) : vcFn2 (Tz g) false ann_differ_Rows Tryz.f35 pre [a0] (.ret r) post = vc_differ_Rows (Tz g) pre a0 r post := by kernel_rfl
theorem hf_differ_Rows : Tryz.prog.funcs[f_differ_Rows]? = some Tryz.f35 := by kernel_rfl
theorem ok_differ_Rows : fnVcOK Tryz.prog Tryz.f35 = true := by kernel_rfl
theorem nt_differ_Rows : Nat.ble 1 Tryz.f35.ntmps = true := by kernel_rfl
theorem meetsH_differ_Rows {g : GG} {pre : List ABlk} {a0 : AV} {r : AV} {post : List PB} (hk : Nat.ble pre.length 24 = true) (h : vc_differ_Rows (Tz g) pre a0 r post) : MeetsH (Tz g) f_differ_Rows pre [a0] (.ret r) post :=
  meetsH_of_vc (C := Tz g) ann_differ_Rows hf_differ_Rows ok_differ_Rows nt_differ_Rows hk (pn := false) (Eq.mpr ((vcFn2_eq _ _ _ _ _ _ _ _).trans (vc_differ_Rows_eq g pre a0 r post)) h)
theorem meets_differ_Rows {g : GG} {a0 : D} {r : Res} (h : vc_differ_Rows (Tz g) [] (.d a0) r.val (r.bl.map .upd)) : Meets (Tz g) f_differ_Rows [a0] r := meetsH_differ_Rows rfl h
def ann_differ_Printed : Nat → List Nat := fun n => match n with  | _ => []
def vc_differ_Printed (P : Ctx) (pre : List ABlk) (a0 : AV) (r : AV) (post : List PB) : Prop :=
  let h0 : Heap := numbered 0 pre
  BOX T_api_DifferPlan a0 24 h0 fun v1 h1 =>
  LOAD true 3 v1 h1 fun v4 =>
  CALL P f_differ_isPlan [v4] 56 h1 (fun _ v5 h2 =>
  NOT v5 fun v6 =>
  COND v6
  (POST (.tup [.zc, (.d (.num .i64 2))]) h2 pre r post)
  (LOAD true 3 v1 h2 fun v7 =>
  CALL P f_differ_printed [v7] 80 h2 (fun _ v8 h4 =>
  POST (.tup [v8, (.d (.num .i64 0))]) h4 pre r post)
  (fun _ _ _ => False)))
  (fun _ _ _ => False)
theorem vc_differ_Printed_eq (g : GG) (pre : List ABlk) (a0 : AV) (r : AV) (post : List PB) : vcFn2 (Tz g) false ann_differ_Printed Tryz.f49 pre [a0] (.ret r) post = vc_differ_Printed (Tz g) pre a0 r post := by kernel_rfl
theorem hf_differ_Printed : Tryz.prog.funcs[f_differ_Printed]? = some Tryz.f49 := by kernel_rfl
theorem ok_differ_Printed : fnVcOK Tryz.prog Tryz.f49 = true := by kernel_rfl
theorem nt_differ_Printed : Nat.ble 1 Tryz.f49.ntmps = true := by kernel_rfl
theorem meetsH_differ_Printed {g : GG} {pre : List ABlk} {a0 : AV} {r : AV} {post : List PB} (hk : Nat.ble pre.length 24 = true) (h : vc_differ_Printed (Tz g) pre a0 r post) : MeetsH (Tz g) f_differ_Printed pre [a0] (.ret r) post :=
  meetsH_of_vc (C := Tz g) ann_differ_Printed hf_differ_Printed ok_differ_Printed nt_differ_Printed hk (pn := false) (Eq.mpr ((vcFn2_eq _ _ _ _ _ _ _ _).trans (vc_differ_Printed_eq g pre a0 r post)) h)
theorem meets_differ_Printed {g : GG} {a0 : D} {r : Res} (h : vc_differ_Printed (Tz g) [] (.d a0) r.val (r.bl.map .upd)) : Meets (Tz g) f_differ_Printed [a0] r := meetsH_differ_Printed rfl h
end Go.Vc

namespace Go.Vc
open Go Go.Proofs
variable {g : GG}
theorem take_next {α : Type} {L : List α} {k : Nat} {x : α} (h : L[k]? = some x) : L.take (k + 1) = L.take k ++ [x] := by
  rw [List.take_add_one, h]; rfl
theorem take_all {α : Type} {L : List α} {k : Nat} (h : L.length ≤ k) : L.take k = L := List.take_of_length_le h
theorem ref01_Choose_meets (n : Nat) (hn : n ≤ 12) : ∀ k : Nat, k ≤ 6 → Meets (Tz g) f_ref01_Choose [int n, int k] ⟨.d (int (ch n k)), []⟩
  | 0, _ => by
    refine meets_ref01_Choose ?_
    unfold vc_ref01_Choose
    simp [ch_zero]
  | k + 1, hk => by
    have hf := ch_facts n (by omega) k (by omega)
    refine meets_ref01_Choose ?_
    unfold vc_ref01_Choose
    simp
    constructor
    · intro h; omega
    · intro h
      rw [wrap_id (by omega) (by omega)]
      refine CALL.val _ _ rfl (ref01_Choose_meets n hn k (by omega)) (.inl rfl) ?_
      simp
      rw [wrap_id (n := (n : Int) - ((k : Int) + 1)) (by omega) (by omega)]
      rw [wrap_id (n := (n : Int) - ((k : Int) + 1) + 1) (by omega) (by omega)]
      rw [wrap_id (n := (ch n k : Int) * ((n : Int) - ((k : Int) + 1) + 1)) (by omega) (by omega)]
      rw [hf.2.1]
      have h2 := (ch_facts n (by omega) (k + 1) (by omega)).1
      rw [wrap_id (n := (ch n (k + 1) : Int)) (by omega) (by omega)]
      simp
      exact h
theorem ref01_value_meets (t : List Int) (row : Nat) (hr : row ≤ 12) (hl : t.length ≤ 6) (hb : ∀ x, x ∈ t → -1000000000 ≤ x ∧ x ≤ 1000000000) : Meets (Tz g) f_ref01_value [ints t, int row] ⟨.d (int (valL t row 0)), []⟩ := by
  refine meets_ref01_value ?_
  unfold vc_ref01_value
  simp [ints]
  refine LOOP.mk Nat (fun k => [.d (ints t), .d (int row), .d (int (valL (t.take k) row 0)), .d (int k)]) (fun _ => []) (fun k => k ≤ t.length) (fun k => t.length - k) [] (by simp) 0 (by omega) (by simp [WEAK, ints, valL]) (fun _ _ => rfl) ?_
  intro k hk
  simp [ints]
  constructor
  · intro hlt
    have hlt : k < t.length := by omega
    have hg : t[k]? = some t[k] := List.getElem?_eq_getElem hlt
    simp [hg]
    refine CALL.val _ _ rfl (ref01_Choose_meets row hr k (by omega)) (.inl rfl) ?_
    have h1 := hb t[k] (List.getElem_mem _)
    have h2 := (ch_facts row (by omega) k (by omega)).1
    have h3 := mul_bound t[k] (ch row k : Int) h1.1 h1.2 (by omega) (by omega)
    have h4 := valL_bound row hr (t.take k) 0 (fun x hx => hb x (List.mem_of_mem_take hx)) (by simp; omega)
    have h5 : (t.take k).length = k := by simp; omega
    rw [h5] at h4
    simp
    rw [wrap_id (n := t[k] * (ch row k : Int)) (by omega) (by omega)]
    rw [wrap_id (n := valL (t.take k) row 0 + t[k] * (ch row k : Int)) (by omega) (by omega)]
    rw [wrap_id (n := (k : Int) + 1) (by omega) (by omega)]
    refine ⟨rfl, k + 1, by omega, ?_, by omega⟩
    have h6 := valL_append (t.take k) t[k] row 0
    rw [h5, Nat.zero_add] at h6
    have h7 : t.take (k + 1) = t.take k ++ [t[k]] := by rw [List.take_add_one, hg]; rfl
    have h8 : valL (t.take (k + 1)) row 0 = valL (t.take k) row 0 + t[k] * (ch row k : Int) := by rw [h7, h6]
    simp [WEAK, h8]
  · intro hge
    have : k = t.length := by omega
    subst this
    simp
theorem ref01_Table_meets (p : Plan) (t : List Int) (n : Nat) (hn : p.rows = n) (hn2 : n ≤ 12) (h1 : 1 ≤ t.length) (hl : t.length ≤ 6) (hb : ∀ x, x ∈ t → -1000000000 ≤ x ∧ x ≤ 1000000000) : Meets (Tz g) f_ref01_Table [p.d, ints t] ⟨.own 0 0, [⟨0, T_int, .lst ((heads t n).map int)⟩]⟩ := by
  rw [heads_val t n h1]
  refine meets_ref01_Table ?_
  unfold vc_ref01_Table
  simp [Plan.d, spans, ints]
  refine LOOP.mk Nat (fun k => [.d (ints t), .ptr 24 0 0 0, .own 56 k, .d (int k)]) (fun k => [(56, some ⟨k, T_int, .lst (((List.range k).map fun j => valL t j 0).map int)⟩), (24, some ⟨0, T_api_DifferPlan, .box [.d (spans p.starts), .d (int p.rows), .d (int p.guard)]⟩)]) (fun k => k ≤ n) (fun k => n - k) [(2, T_int)] (by simp) 0 (by omega) (by simp [WEAK, spans, ints]) (fun _ _ => rfl) ?_
  intro k hk
  simp [hn]
  constructor
  · intro hlt
    refine CALL.val _ _ rfl (ref01_value_meets t k (by omega) hl hb) (.inl rfl) ?_
    simp
    rw [wrap_id (n := (k : Int) + 1) (by omega) (by omega)]
    simp [and_assoc]
    refine ⟨by omega, k + 1, by omega, ?_, by omega⟩
    simp [WEAK, List.range_succ]
  · intro hge
    have : k = n := by omega
    subst this
    simp
end Go.Vc

namespace Go.Vc
open Go Go.Proofs
variable {g : GG}
theorem pow10_le (k : Nat) (h : k ≤ 3) : 1 ≤ (10 : Int) ^ k ∧ (10 : Int) ^ k ≤ 1000 := by
  match k, h with
  | 0, _ => decide
  | 1, _ => decide
  | 2, _ => decide
  | 3, _ => decide
theorem differ_unit_meets (p : Plan) (n : Nat) (hg : p.guard = n) (hn : n ≤ 3) : Meets (Tz g) f_differ_unit [p.d] ⟨.d (int (unitL p)), []⟩ := by
  refine meets_differ_unit ?_
  unfold vc_differ_unit
  simp [Plan.d, spans]
  refine LOOP.mk Nat (fun k => [.d (int (10 ^ k)), .d (int n), .d (int k)]) (fun k => [(24, some ⟨0, T_api_DifferPlan, .box [.d (spans p.starts), .d (int p.rows), .d (int p.guard)]⟩)]) (fun k => k ≤ n) (fun k => n - k) [] (by simp) 0 (by omega) (by simp [WEAK, spans, hg]) (fun _ _ => rfl) ?_
  intro k hk
  simp
  constructor
  · intro hlt
    have h1 := pow10_le k (by omega)
    rw [wrap_id (n := (10 : Int) ^ k * 10) (by omega) (by omega)]
    rw [wrap_id (n := (k : Int) + 1) (by omega) (by omega)]
    refine ⟨k + 1, by omega, ?_, by omega⟩
    simp [WEAK, spans, Int.pow_succ]
  · intro hge
    have : k = n := by omega
    subst this
    simp [unitL, hg]
theorem tdiv_le (a b : Int) (_hb : 1 ≤ b) (ha : -5000000000000 ≤ a ∧ a ≤ 5000000000000) : -5000000000000 ≤ a.tdiv b ∧ a.tdiv b ≤ 5000000000000 := by
  have h : (a.tdiv b).natAbs ≤ a.natAbs := by
    rw [Int.natAbs_tdiv]; exact Nat.div_le_self _ _
  omega
theorem unit_half (u : Int) (h : 1 ≤ u ∧ u ≤ 1000) : u.tdiv 2 = u / 2 := by rw [Int.tdiv_eq_ediv_of_nonneg (by omega)]
theorem differ_figure_meets (p : Plan) (v : Int) (n : Nat) (hg : p.guard = n) (hn : n ≤ 3) (hv : -4500000000000 ≤ v ∧ v ≤ 4500000000000) : Meets (Tz g) f_differ_figure [p.d, int v] ⟨.d (int (figL (unitL p) v)), []⟩ := by
  refine meets_differ_figure ?_
  unfold vc_differ_figure
  simp [Plan.d, spans]
  refine CALL.val [p.d] _ rfl (differ_unit_meets p n hg hn) (.inl rfl) ?_
  have hu : 1 ≤ unitL p ∧ unitL p ≤ 1000 := by unfold unitL; rw [hg]; exact pow10_le n hn
  generalize unitL p = u at hu
  have hu0 : ¬ u = 0 := by omega
  simp
  rw [unit_half u hu, wrap_id (n := u / 2) (by omega) (by omega), wrap_id (n := v + u / 2) (by omega) (by omega)]
  unfold figL
  generalize hx : v + u / 2 = x
  constructor
  · intro hlt
    rw [wrap_id (n := u - 1) (by omega) (by omega), wrap_id (n := u - 1 - x) (by omega) (by omega)]
    have h1 := tdiv_le (u - 1 - x) u hu.1 (by omega)
    rw [wrap_id (n := (u - 1 - x).tdiv u) (by omega) (by omega)]
    have h2 := fig_neg x u hu.1 hlt
    simp [hu0]
    rw [wrap_id (n := - (u - 1 - x).tdiv u) (by omega) (by omega)]
    simp [h2]
  · intro hge
    have h1 := tdiv_le x u hu.1 (by omega)
    rw [wrap_id (n := x.tdiv u) (by omega) (by omega)]
    have h2 := fig_pos x u (by omega)
    simp [hu0, h2]
end Go.Vc

namespace Go.Vc
open Go Go.Proofs
variable {g : GG}
attribute [local simp] and_assoc
theorem start_least_meets (s : Sp) : Meets (Tz g) f_differ_start_least [s.d] ⟨.d (int s.low), []⟩ := by
  refine meets_differ_start_least ?_
  unfold vc_differ_start_least
  simp [Sp.d]
theorem start_most_meets (s : Sp) : Meets (Tz g) f_differ_start_most [s.d] ⟨.d (int s.high), []⟩ := by
  refine meets_differ_start_most ?_
  unfold vc_differ_start_most
  simp [Sp.d]
theorem differ_end_lows (p : Plan) (hl : p.starts.length ≤ 1000) : Meets (Tz g) f_differ_end [p.d, int 0] ⟨.own 0 0, [⟨0, T_int, .lst ((lows p).map int)⟩]⟩ := by
  refine meets_differ_end ?_
  unfold vc_differ_end
  simp [Plan.d, spans]
  refine LOOP.mk Nat (fun k => [.d (int 0), .ptr 48 0 0 0, .own 104 k, .d (spans p.starts), .d (int p.starts.length), .d (int k)]) (fun k => [(104, some ⟨k, T_int, .lst (((lows p).map int).take k)⟩), (48, some ⟨0, T_2_func_differ_start_int, .box [.d (.fn f_differ_start_least [] []), .d (.fn f_differ_start_most [] [])]⟩), (24, some ⟨0, T_api_DifferPlan, .box [.d (spans p.starts), .d (int p.rows), .d (int p.guard)]⟩)]) (fun k => k ≤ p.starts.length) (fun k => p.starts.length - k) [(2, T_int)] (by simp) 0 (by omega) (by simp [WEAK, spans]) (fun _ _ => rfl) ?_
  intro k hk
  simp [spans]
  constructor
  · intro hlt
    have hlt : k < p.starts.length := by omega
    have hg : p.starts[k]? = some p.starts[k] := List.getElem?_eq_getElem hlt
    simp [hg, Sp.d]
    refine CALL.val [(p.starts[k]).d] _ rfl (start_least_meets _) (.inl rfl) ?_
    simp
    rw [wrap_id (n := (k : Int) + 1) (by omega) (by omega)]
    have h7 := take_next (L := (lows p).map int) (k := k) (x := int p.starts[k].low) (by simp [lows, hg])
    refine ⟨by simp [lows]; omega, rfl, k + 1, by omega, ?_, by omega⟩
    simp [WEAK]
    rw [h7]
  · intro hge
    have : k = p.starts.length := by omega
    subst this
    simp [lows]
    exact take_all (by simp)
theorem differ_end_highs (p : Plan) (hl : p.starts.length ≤ 1000) : Meets (Tz g) f_differ_end [p.d, int 1] ⟨.own 0 0, [⟨0, T_int, .lst ((highs p).map int)⟩]⟩ := by
  refine meets_differ_end ?_
  unfold vc_differ_end
  simp [Plan.d, spans]
  refine LOOP.mk Nat (fun k => [.d (int 1), .ptr 48 0 0 0, .own 104 k, .d (spans p.starts), .d (int p.starts.length), .d (int k)]) (fun k => [(104, some ⟨k, T_int, .lst (((highs p).map int).take k)⟩), (48, some ⟨0, T_2_func_differ_start_int, .box [.d (.fn f_differ_start_least [] []), .d (.fn f_differ_start_most [] [])]⟩), (24, some ⟨0, T_api_DifferPlan, .box [.d (spans p.starts), .d (int p.rows), .d (int p.guard)]⟩)]) (fun k => k ≤ p.starts.length) (fun k => p.starts.length - k) [(2, T_int)] (by simp) 0 (by omega) (by simp [WEAK, spans]) (fun _ _ => rfl) ?_
  intro k hk
  simp [spans]
  constructor
  · intro hlt
    have hlt : k < p.starts.length := by omega
    have hg : p.starts[k]? = some p.starts[k] := List.getElem?_eq_getElem hlt
    simp [hg, Sp.d]
    refine CALL.val [(p.starts[k]).d] _ rfl (start_most_meets _) (.inl rfl) ?_
    simp
    rw [wrap_id (n := (k : Int) + 1) (by omega) (by omega)]
    have h7 := take_next (L := (highs p).map int) (k := k) (x := int p.starts[k].high) (by simp [highs, hg])
    refine ⟨by simp [highs]; omega, rfl, k + 1, by omega, ?_, by omega⟩
    simp [WEAK]
    rw [h7]
  · intro hge
    have : k = p.starts.length := by omega
    subst this
    simp [highs]
    exact take_all (by simp)
theorem lows_len (p : Plan) : (lows p).length = p.starts.length := by simp [lows]
theorem highs_len (p : Plan) : (highs p).length = p.starts.length := by simp [highs]
theorem lows_within {p : Plan} (h : p.ok = true) : within p.starts (lows p) = true := within_lows fun s hs => (startB_le ((Plan.ok_len h).2.2.2.2 s hs)).2.1
theorem highs_within {p : Plan} (h : p.ok = true) : within p.starts (highs p) = true := within_highs fun s hs => (startB_le ((Plan.ok_len h).2.2.2.2 s hs)).2.1
theorem far_of {l : List Int} (h : ∀ x, x ∈ l → -99999 ≤ x ∧ x ≤ 99999) : ∀ x, x ∈ l → -1000000000 ≤ x ∧ x ≤ 1000000000 := fun x hx => by have := h x hx; omega
theorem lows_bound {p : Plan} (h : p.ok = true) : ∀ x, x ∈ lows p → -99999 ≤ x ∧ x ≤ 99999 := within_bound (Plan.ok_len h).2.2.2.2 (lows_within h)
theorem highs_bound {p : Plan} (h : p.ok = true) : ∀ x, x ∈ highs p → -99999 ≤ x ∧ x ≤ 99999 := within_bound (Plan.ok_len h).2.2.2.2 (highs_within h)
theorem rowsL_get (p : Plan) (n k : Nat) (hn : p.rows = n) (h : k < n) : (rowsL p)[k]? = some ⟨(afterL k (lows p)).headD 0, (afterL k (highs p)).headD 0⟩ := by
  simp [rowsL, hn, h]
theorem rowsL_len (p : Plan) (n : Nat) (hn : p.rows = n) : (rowsL p).length = n := by simp [rowsL, hn]
theorem differ_rows_meets (p : Plan) (h : p.ok = true) : Meets (Tz g) f_differ_rows [p.d] ⟨.own 0 0, [⟨0, T_api_Span, .lst ((rowsL p).map Sp.d)⟩]⟩ := by
  obtain ⟨a1, a2, a3, a4, a5⟩ := Plan.ok_len h
  obtain ⟨n, hn⟩ : ∃ n : Nat, p.rows = n := ⟨p.rows.toNat, by omega⟩
  have l1 := lows_len p
  have l2 := highs_len p
  refine meets_differ_rows ?_
  unfold vc_differ_rows
  simp [Plan.d, spans]
  refine CALL.mk [p.d, int 0] _ rfl (differ_end_lows p (by omega)) (.inl rfl) (by simp) ?_
  simp
  refine CALL.mk [tabD p (lows p)] _ (by simp [tabD, spans, ints]) (differ_values_meets p (lows p) n hn (by omega) (by omega) (by omega) (far_of (lows_bound h))) (.inr (by simp [Res.flatP, AV.flatB, blksFlat, Body.flatP, D.flatB])) (by simp) ?_
  simp
  refine CALL.mk [p.d, int 1] _ rfl (differ_end_highs p (by omega)) (.inl rfl) (by simp) ?_
  simp
  refine CALL.mk [tabD p (highs p)] _ (by simp [tabD, spans, ints]) (differ_values_meets p (highs p) n hn (by omega) (by omega) (by omega) (far_of (highs_bound h))) (.inr (by simp [Res.flatP, AV.flatB, blksFlat, Body.flatP, D.flatB])) (by simp) ?_
  simp
  refine ⟨rfl, ?_⟩
  have hh : ∀ t : List Int, (heads t n).length = n := fun t => by simp [heads]
  refine LOOP.mk Nat (fun k => [.own 72 0, .own 112 0, .own 168 k, .d (int n), .d (int k)]) (fun k => [(168, some ⟨k, T_api_Span, .lst (((rowsL p).map Sp.d).take k)⟩), (112, some ⟨0, T_int, .lst ((heads (highs p) n).map int)⟩), (72, some ⟨0, T_int, .lst ((heads (lows p) n).map int)⟩)]) (fun k => k ≤ n) (fun k => n - k) [(2, T_api_Span)] (by simp) 0 (by omega) (by simp [WEAK, hh]) (fun _ _ => rfl) ?_
  intro k hk
  simp
  constructor
  · intro hlt
    have g1 : (heads (lows p) n)[k]? = some ((afterL k (lows p)).headD 0) := by simp [heads, hlt]
    have g2 : (heads (highs p) n)[k]? = some ((afterL k (highs p)).headD 0) := by simp [heads, hlt]
    simp [g1, g2, hh]
    have h7 := take_next (L := (rowsL p).map Sp.d) (k := k) (x := Sp.d ⟨(afterL k (lows p)).headD 0, (afterL k (highs p)).headD 0⟩) (by simp [rowsL_get p n k hn hlt])
    rw [wrap_id (n := (k : Int) + 1) (by omega) (by omega)]
    refine ⟨hlt, by omega, rfl, k + 1, by omega, ?_, by omega⟩
    simp [WEAK]
    rw [h7]
    simp [Sp.d]
  · intro hge
    have : k = n := by omega
    subst this
    exact take_all (by simp [rowsL_len p k hn])
theorem rows_bound {p : Plan} (h : p.ok = true) {s : Sp} (hs : s ∈ rowsL p) : -23199768 ≤ s.low ∧ s.low ≤ 23199768 ∧ -23199768 ≤ s.high ∧ s.high ≤ 23199768 := by
  obtain ⟨a1, a2, a3, a4, a5⟩ := Plan.ok_len h
  have l1 := lows_len p
  have l2 := highs_len p
  simp only [rowsL, List.mem_map, List.mem_range] at hs
  obtain ⟨k, hk, rfl⟩ := hs
  simp only [after_head (lows p) k (by omega), after_head (highs p) k (by omega)]
  have h1 := val_232 (lows p) k (by omega) (by omega) (lows_bound h)
  have h2 := val_232 (highs p) k (by omega) (by omega) (highs_bound h)
  omega
theorem differ_printed_meets (p : Plan) (h : p.ok = true) : Meets (Tz g) f_differ_printed [p.d] ⟨.own 0 0, [⟨0, T_api_Span, .lst ((printedL p).map Sp.d)⟩]⟩ := by
  obtain ⟨a1, a2, a3, a4, a5⟩ := Plan.ok_len h
  obtain ⟨n, hn⟩ : ∃ n : Nat, p.rows = n := ⟨p.rows.toNat, by omega⟩
  obtain ⟨m, hm⟩ : ∃ m : Nat, p.guard = m := ⟨p.guard.toNat, by have := h; simp [Plan.ok, inB] at this; omega⟩
  have hm3 : m ≤ 3 := by have := h; simp [Plan.ok, inB] at this; omega
  have hr := rowsL_len p n hn
  refine meets_differ_printed ?_
  unfold vc_differ_printed
  simp [Plan.d, spans]
  refine CALL.mk [p.d] _ rfl (differ_rows_meets p h) (.inl rfl) (by simp) ?_
  simp
  refine LOOP.mk Nat (fun k => [.ptr 24 0 0 0, .own 80 k, .own 56 0, .d (int n), .d (int k)]) (fun k => [(80, some ⟨k, T_api_Span, .lst (((printedL p).map Sp.d).take k)⟩), (56, some ⟨0, T_api_Span, .lst ((rowsL p).map Sp.d)⟩), (24, some ⟨0, T_api_DifferPlan, .box [.d (spans p.starts), .d (int p.rows), .d (int p.guard)]⟩)]) (fun k => k ≤ n) (fun k => n - k) [(1, T_api_Span)] (by simp) 0 (by omega) (by simp [WEAK, hr, spans]) (fun _ _ => rfl) ?_
  intro k hk
  simp
  constructor
  · intro hlt
    have hg := rowsL_get p n k hn hlt
    generalize hs : (⟨(afterL k (lows p)).headD 0, (afterL k (highs p)).headD 0⟩ : Sp) = s at hg
    have hb := rows_bound h (List.mem_of_getElem? hg)
    simp [hg, hr, Sp.d]
    refine ⟨hlt, ?_⟩
    refine CALL.val [p.d, int s.low] _ rfl (differ_figure_meets p s.low m hm hm3 (by omega)) (.inl rfl) ?_
    simp
    refine CALL.val [p.d, int s.high] _ rfl (differ_figure_meets p s.high m hm hm3 (by omega)) (.inl rfl) ?_
    simp
    have h7 := take_next (L := (printedL p).map Sp.d) (k := k) (x := Sp.d ⟨figL (unitL p) s.low, figL (unitL p) s.high⟩) (by simp [printedL, hg])
    rw [wrap_id (n := (k : Int) + 1) (by omega) (by omega)]
    refine ⟨by omega, rfl, k + 1, by omega, ?_, by omega⟩
    simp [WEAK]
    rw [h7]
    simp [Sp.d]
  · intro hge
    have : k = n := by omega
    subst this
    exact take_all (by simp [printedL, hr])
theorem differ_Rows_meets (p : Plan) (hl : p.starts.length ≤ 1000) : Meets (Tz g) f_differ_Rows [p.d] (if p.ok = true then ⟨.tup [.own 0 0, .d (int 0)], [⟨0, T_api_Span, .lst ((rowsL p).map Sp.d)⟩]⟩ else ⟨.tup [.d (.list []), .d (int 2)], []⟩) := by
  refine meets_differ_Rows ?_
  unfold vc_differ_Rows
  simp [Plan.d, spans]
  refine CALL.val [p.d] _ rfl (differ_isPlan_meets p hl) (.inl rfl) ?_
  simp
  constructor
  · intro h1
    simp [h1]
  · intro h1
    refine CALL.mk [p.d] _ rfl (differ_rows_meets p h1) (.inl rfl) (by simp) ?_
    simp [h1]
theorem differ_Printed_meets (p : Plan) (hl : p.starts.length ≤ 1000) : Meets (Tz g) f_differ_Printed [p.d] (if p.ok = true then ⟨.tup [.own 0 0, .d (int 0)], [⟨0, T_api_Span, .lst ((printedL p).map Sp.d)⟩]⟩ else ⟨.tup [.d (.list []), .d (int 2)], []⟩) := by
  refine meets_differ_Printed ?_
  unfold vc_differ_Printed
  simp [Plan.d, spans]
  refine CALL.val [p.d] _ rfl (differ_isPlan_meets p hl) (.inl rfl) ?_
  simp
  constructor
  · intro h1
    simp [h1]
  · intro h1
    refine CALL.mk [p.d] _ rfl (differ_printed_meets p h1) (.inl rfl) (by simp) ?_
    simp [h1]
end Go.Vc

namespace Go.Vc
open Go Go.Proofs
variable {g : GG}
attribute [local simp] and_assoc
def turn {α : Type} (a b : List α) (k : Nat) : List α := a.take k ++ b.drop k
theorem turn_len {α : Type} {a b : List α} {k : Nat} (h : a.length = b.length) (hk : k ≤ b.length) : (turn a b k).length = b.length := by simp [turn]; omega
theorem turn_get {α : Type} {a b : List α} {k : Nat} (h : a.length = b.length) (hk : k ≤ b.length) (j : Nat) : (turn a b k)[j]? = if j < k then a[j]? else b[j]? := by
  unfold turn
  by_cases h2 : j < k
  · rw [List.getElem?_append_left (by simp; omega), if_pos h2, List.getElem?_take, if_pos h2]
  · rw [List.getElem?_append_right (by simp; omega), if_neg h2, List.getElem?_drop]
    congr 1
    simp
    omega
theorem turn_at {α : Type} {a b : List α} {k : Nat} (h : a.length = b.length) (hk : k ≤ b.length) : (turn a b k)[k]? = b[k]? := by rw [turn_get h hk, if_neg (by omega)]
theorem turn_set {α : Type} {a b : List α} {k : Nat} {x : α} (h : a.length = b.length) (hx : a[k]? = some x) : (turn a b k).set k x = turn a b (k + 1) := by
  have hk := (List.getElem?_eq_some_iff.1 hx).1
  refine List.ext_getElem? fun j => ?_
  rw [List.getElem?_set, turn_get h (by omega), turn_get h (by omega), turn_len h (by omega)]
  by_cases hj : k = j
  · subst hj
    rw [if_pos rfl, if_pos (by omega), if_pos (by omega), hx]
  · rw [if_neg hj]
    by_cases h2 : j < k
    · rw [if_pos h2, if_pos (by omega)]
    · rw [if_neg h2, if_neg (by omega)]
theorem turn_zero {α : Type} (a b : List α) : turn a b 0 = b := by simp [turn]
theorem turn_all {α : Type} {a b : List α} {k : Nat} (h : a.length = b.length) (hk : k = b.length) : turn a b k = a := by
  subst hk; rw [← h]; simp [turn]; omega
theorem turn_map {α β : Type} (f : α → β) (a b : List α) (k : Nat) : turn (a.map f) (b.map f) k = (turn a b k).map f := by simp [turn]
theorem BIN_d0 {K : AV → Prop} (op : BinOp) (a b : D) : BIN 0 op (.d a) (.d b) K = ∃ r, binD 0 op a b = some r ∧ K (.d r) := rfl
theorem Sp.d_inj {a b : Sp} (h : a.d = b.d) : a = b := by
  cases a; cases b; simp [Sp.d] at h; simp [h]
@[simp high] theorem BIN_Sp (a b : Sp) (K : AV → Prop) : BIN 1002 .neq (.d (.agg [int a.low, int a.high])) (.d (.agg [int b.low, int b.high])) K = K (.d (.bool !decide (a = b))) := by
  have e : binD 1002 .neq (.agg [int a.low, int a.high]) (.agg [int b.low, int b.high]) = some (.bool !decide (a = b)) := by
    obtain ⟨a1, a2⟩ := a
    obtain ⟨b1, b2⟩ := b
    by_cases h1 : a1 = b1 <;> by_cases h2 : a2 = b2 <;> simp [h1, h2]
  show (∃ r, binD 1002 .neq _ _ = some r ∧ K (.d r)) = _
  rw [e]
  simp
theorem ref01_SameSpans_meets (l m : List Sp) (hl : l.length ≤ 1000000) (_hm : m.length ≤ 1000000) : Meets (Tz g) f_ref01_SameSpans [spans l, spans m] ⟨.d (.bool (decide (l = m))), []⟩ := by
  refine meets_ref01_SameSpans ?_
  unfold vc_ref01_SameSpans
  simp [spans]
  constructor
  · intro h
    have : l ≠ m := fun e => h (by rw [e])
    simpa using this
  · intro h
    have h : l.length = m.length := by omega
    refine LOOP.mk Nat (fun k => [.d (spans l), .d (spans m), .d (int k)]) (fun k => []) (fun k => k ≤ l.length ∧ (l = m ↔ l.drop k = m.drop k)) (fun k => l.length - k) [] (by simp) 0 (by simp) (by simp [WEAK, spans]) (fun _ _ => rfl) ?_
    rintro k ⟨hk, he⟩
    simp [spans, -BIN_d, BIN_d0]
    constructor
    · intro hlt
      have hlt : k < l.length := by omega
      have h1 : l[k]? = some l[k] := List.getElem?_eq_getElem hlt
      have h2 : m[k]? = some m[k] := List.getElem?_eq_getElem (by omega)
      rw [List.drop_eq_getElem_cons hlt, List.drop_eq_getElem_cons (show k < m.length by omega)] at he
      simp [h1, h2, Sp.d, -BIN_d]
      refine ⟨rfl, ?_, ?_⟩
      · intro hq e
        exact hq (List.cons.inj (he.1 e)).1
      · intro hq
        rw [wrap_id (n := (k : Int) + 1) (by omega) (by omega)]
        refine ⟨k + 1, by omega, ?_, by simp [WEAK], by omega⟩
        exact he.trans ⟨fun h' => (List.cons.inj h').2, fun h' => by rw [hq, h']⟩
    · intro hge
      have : k = l.length := by omega
      subst this
      exact he.2 (by rw [List.drop_eq_nil_of_le (by omega), List.drop_eq_nil_of_le (by omega)])
end Go.Vc

namespace Go.Vc
open Go Go.Proofs
variable {g : GG}
theorem known_call (hg : GOK g) {new : Nat} {h : Heap} {K KP : List Nat → AV → Heap → Prop} (h3 : K [] (.d (.bool true)) h) : CALL (Tz g) f_law01_known [] new h K KP :=
  CALL.val [] _ rfl (known_meets hg) (.inl rfl) h3
end Go.Vc
