/- A part of the proof: general laws of a reading of the model by abstract data, or contracts of the functions that the law calls. -/
import Derived.Test.YtkefjhemmdolaaaGreatVc23
import Derived.Test.YtkefjhemmdolaaaGreatVc11
set_option maxRecDepth 100000
namespace Go.Vc
open Go Go.Proofs Go.RowKit
def ann_copies_fits : Nat → List Nat := fun n => match n with  | _ => []
def vc_copies_fits (_P : Ctx) (pre : List ABlk) (a0 a1 a2 a3 : AV) (r : AV) (post : List PB) : Prop :=
  let h0 : Heap := numbered 0 pre
  BOX T_api_CopiesTree a0 24 h0 fun v4 h1 =>
  FADDR 1 v4 h1 fun v10 =>
  LOAD false 1 v10 h1 fun v11 =>
  IADDR 2 T_api_CopiesCopy v11 a1 h1 fun v13 =>
  FADDR 1 v13 h1 fun v14 =>
  LOAD false 1 v14 h1 fun v15 =>
  IADDR 1 T_int v15 a2 h1 fun v17 =>
  LOAD false 1 v17 h1 fun v18 =>
  BIN 0 .eql v18 (.d (.num .i64 (-1))) fun v20 =>
  CONDG v20
  (POST (.d (.bool true)) h1 pre r post)
  (BIN 0 .eql v18 a3 fun v24 =>
  POST v24 h1 pre r post)
theorem vc_copies_fits_eq (g : GG) (pre : List ABlk) (a0 a1 a2 a3 : AV) (r : AV) (post : List PB) : vcFn2 (Tz g) false ann_copies_fits Tryz.f178 pre [a0, a1, a2, a3] (.ret r) post = vc_copies_fits (Tz g) pre a0 a1 a2 a3 r post := by kernel_rfl
theorem hf_copies_fits : Tryz.prog.funcs[f_copies_fits]? = some Tryz.f178 := by kernel_rfl
theorem ok_copies_fits : fnVcOK Tryz.prog Tryz.f178 = true := by kernel_rfl
theorem nt_copies_fits : Nat.ble 4 Tryz.f178.ntmps = true := by kernel_rfl
theorem meetsH_copies_fits {g : GG} {pre : List ABlk} {a0 a1 a2 a3 : AV} {r : AV} {post : List PB} (hk : Nat.ble pre.length 24 = true) (h : vc_copies_fits (Tz g) pre a0 a1 a2 a3 r post) : MeetsH (Tz g) f_copies_fits pre [a0, a1, a2, a3] (.ret r) post :=
  meetsH_of_vc (C := Tz g) ann_copies_fits hf_copies_fits ok_copies_fits nt_copies_fits hk (pn := false) (Eq.mpr ((vcFn2_eq _ _ _ _ _ _ _ _).trans (vc_copies_fits_eq g pre a0 a1 a2 a3 r post)) h)
theorem meets_copies_fits {g : GG} {a0 a1 a2 a3 : D} {r : Res} (h : vc_copies_fits (Tz g) [] (.d a0) (.d a1) (.d a2) (.d a3) r.val (r.bl.map .upd)) : Meets (Tz g) f_copies_fits [a0, a1, a2, a3] r := meetsH_copies_fits rfl h
def ann_copies_sum : Nat → List Nat := fun n => match n with | 3 => [3, 6, 7, 8] | _ => []
def vc_copies_sum_k0 (_P : Ctx) (pre : List ABlk) (r : AV) (post : List PB) (vs0 : List AV) (h2 : Heap) (next8 : List AV → Heap → Prop) : Prop :=
  BIN 0 .lss (nth vs0 3) (nth vs0 2) fun v1 =>
  COND v1
  (IADDR 1 T_int (nth vs0 1) (nth vs0 3) h2 fun v3 =>
  LOAD false 1 v3 h2 fun v4 =>
  BIN 0 .add (nth vs0 0) v4 fun v5 =>
  MINK (.d (.num .i64 1000)) v5 fun v6 =>
  BIN 0 .add (nth vs0 3) (.d (.num .i64 1)) fun v7 =>
  next8 [v6, (nth vs0 1), (nth vs0 2), v7] h2)
  (POST (nth vs0 0) h2 pre r post)
def vc_copies_sum (P : Ctx) (pre : List ABlk) (a0 : AV) (r : AV) (post : List PB) : Prop :=
  let h0 : Heap := numbered 0 pre
  LEN false a0 h0 fun v7 =>
  LOOP [(.d (.num .i64 0)), a0, v7, (.d (.num .i64 0))] h0 64 fun vs1 h2 next1 =>
  vc_copies_sum_k0 P pre r post vs1 h2 next1
theorem vc_copies_sum_eq (g : GG) (pre : List ABlk) (a0 : AV) (r : AV) (post : List PB) : vcFn2 (Tz g) false ann_copies_sum Tryz.f180 pre [a0] (.ret r) post = vc_copies_sum (Tz g) pre a0 r post := by kernel_rfl
theorem hf_copies_sum : Tryz.prog.funcs[f_copies_sum]? = some Tryz.f180 := by kernel_rfl
theorem ok_copies_sum : fnVcOK Tryz.prog Tryz.f180 = true := by kernel_rfl
theorem nt_copies_sum : Nat.ble 1 Tryz.f180.ntmps = true := by kernel_rfl
theorem meetsH_copies_sum {g : GG} {pre : List ABlk} {a0 : AV} {r : AV} {post : List PB} (hk : Nat.ble pre.length 24 = true) (h : vc_copies_sum (Tz g) pre a0 r post) : MeetsH (Tz g) f_copies_sum pre [a0] (.ret r) post :=
  meetsH_of_vc (C := Tz g) ann_copies_sum hf_copies_sum ok_copies_sum nt_copies_sum hk (pn := false) (Eq.mpr ((vcFn2_eq _ _ _ _ _ _ _ _).trans (vc_copies_sum_eq g pre a0 r post)) h)
theorem meets_copies_sum {g : GG} {a0 : D} {r : Res} (h : vc_copies_sum (Tz g) [] (.d a0) r.val (r.bl.map .upd)) : Meets (Tz g) f_copies_sum [a0] r := meetsH_copies_sum rfl h
def ann_copies_reading_step : Nat → List Nat := fun n => match n with  | _ => []
def vc_copies_reading_step (P : Ctx) (pre : List ABlk) (a0 a1 a2 a3 : AV) (r : AV) (post : List PB) : Prop :=
  let h0 : Heap := numbered 0 pre
  BOX T_copies_reading a0 24 h0 fun v4 h1 =>
  LOAD true 5 v4 h1 fun v10 =>
  BUILD [(0, 1), (1, 1)] [.d (.num .i64 0), .d (.num .i64 0)] [(0, a1), (1, a2)] fun v13 =>
  CALL P f_copies_reading_least [v10, v13] 72 h1 (fun _ v14 h2 =>
  BIN 0 .neq a2 a3 fun v17 =>
  COND v17
  (MKS T_int 1 [v14, (.d (.num .i64 1))] 120 h2 fun v19 h4 =>
  CALL P f_copies_sum [v19] 128 h4 (fun _ v20 h5 =>
  POST v20 h5 pre r post)
  (fun _ _ _ => False))
  (POST v14 h2 pre r post))
  (fun _ _ _ => False)
theorem vc_copies_reading_step_eq (g : GG) (pre : List ABlk) (a0 a1 a2 a3 : AV) (r : AV) (post : List PB) : vcFn2 (Tz g) false ann_copies_reading_step Tryz.f188 pre [a0, a1, a2, a3] (.ret r) post = vc_copies_reading_step (Tz g) pre a0 a1 a2 a3 r post := by kernel_rfl
theorem hf_copies_reading_step : Tryz.prog.funcs[f_copies_reading_step]? = some Tryz.f188 := by kernel_rfl
theorem ok_copies_reading_step : fnVcOK Tryz.prog Tryz.f188 = true := by kernel_rfl
theorem nt_copies_reading_step : Nat.ble 4 Tryz.f188.ntmps = true := by kernel_rfl
theorem meetsH_copies_reading_step {g : GG} {pre : List ABlk} {a0 a1 a2 a3 : AV} {r : AV} {post : List PB} (hk : Nat.ble pre.length 24 = true) (h : vc_copies_reading_step (Tz g) pre a0 a1 a2 a3 r post) : MeetsH (Tz g) f_copies_reading_step pre [a0, a1, a2, a3] (.ret r) post :=
  meetsH_of_vc (C := Tz g) ann_copies_reading_step hf_copies_reading_step ok_copies_reading_step nt_copies_reading_step hk (pn := false) (Eq.mpr ((vcFn2_eq _ _ _ _ _ _ _ _).trans (vc_copies_reading_step_eq g pre a0 a1 a2 a3 r post)) h)
def ann_copies_reading_fewest : Nat → List Nat := fun n => match n with | 3 => [1, 2, 3, 7, 9] | _ => []
def vc_copies_reading_fewest_k0 (P : Ctx) (pre : List ABlk) (r : AV) (post : List PB) (vs0 : List AV) (h2 : Heap) (next9 : List AV → Heap → Prop) : Prop :=
  BIN 0 .lss (nth vs0 4) (.d (.num .i64 10)) fun v1 =>
  COND v1
  (LOAD true 5 (nth vs0 2) h2 fun v3 =>
  CALL P f_copies_reading_step [v3, (nth vs0 0), (nth vs0 4), (nth vs0 1)] 128 h2 (fun _ v5 h6 =>
  MINK (nth vs0 3) v5 fun v7 =>
  BIN 0 .add (nth vs0 4) (.d (.num .i64 1)) fun v8 =>
  next9 [(nth vs0 0), (nth vs0 1), (nth vs0 2), v7, v8] h6)
  (fun _ _ _ => False))
  (POST (nth vs0 3) h2 pre r post)
def vc_copies_reading_fewest (P : Ctx) (pre : List ABlk) (a0 a1 a2 : AV) (r : AV) (post : List PB) : Prop :=
  let h0 : Heap := numbered 0 pre
  BOX T_copies_reading a0 24 h0 fun v3 h1 =>
  LOOP [a1, a2, v3, (.d (.num .i64 1000)), (.d (.num .i64 0))] h1 56 fun vs2 h3 next2 =>
  vc_copies_reading_fewest_k0 P pre r post vs2 h3 next2
theorem vc_copies_reading_fewest_eq (g : GG) (pre : List ABlk) (a0 a1 a2 : AV) (r : AV) (post : List PB) : vcFn2 (Tz g) false ann_copies_reading_fewest Tryz.f179 pre [a0, a1, a2] (.ret r) post = vc_copies_reading_fewest (Tz g) pre a0 a1 a2 r post := by kernel_rfl
theorem hf_copies_reading_fewest : Tryz.prog.funcs[f_copies_reading_fewest]? = some Tryz.f179 := by kernel_rfl
theorem ok_copies_reading_fewest : fnVcOK Tryz.prog Tryz.f179 = true := by kernel_rfl
theorem nt_copies_reading_fewest : Nat.ble 3 Tryz.f179.ntmps = true := by kernel_rfl
theorem meetsH_copies_reading_fewest {g : GG} {pre : List ABlk} {a0 a1 a2 : AV} {r : AV} {post : List PB} (hk : Nat.ble pre.length 24 = true) (h : vc_copies_reading_fewest (Tz g) pre a0 a1 a2 r post) : MeetsH (Tz g) f_copies_reading_fewest pre [a0, a1, a2] (.ret r) post :=
  meetsH_of_vc (C := Tz g) ann_copies_reading_fewest hf_copies_reading_fewest ok_copies_reading_fewest nt_copies_reading_fewest hk (pn := false) (Eq.mpr ((vcFn2_eq _ _ _ _ _ _ _ _).trans (vc_copies_reading_fewest_eq g pre a0 a1 a2 r post)) h)
def ann_copies_reading_least : Nat → List Nat := fun n => match n with | 8 => [2, 3, 7, 40, 41, 42] | _ => []
def vc_copies_reading_least_k0 (P : Ctx) (_pre : List ABlk) (_r : AV) (_post : List PB) (vs0 : List AV) (h1 : Heap) (next15 : List AV → Heap → Prop) : Prop :=
  IADDR 1 T_int (nth vs0 3) (nth vs0 5) h1 fun v2 =>
  LOAD false 1 v2 h1 fun v3 =>
  LOAD true 5 (nth vs0 0) h1 fun v4 =>
  FADDR 1 (nth vs0 1) h1 fun v5 =>
  LOAD false 1 v5 h1 fun v6 =>
  CALL P f_copies_reading_fewest [v4, v3, v6] 408 h1 (fun _ v8 h9 =>
  MKS T_int 1 [v8] 416 h9 fun v10 h11 =>
  APP T_int 1 (nth vs0 2) v10 424 h11 fun v12 h13 =>
  BIN 0 .add (nth vs0 5) (.d (.num .i64 1)) fun v14 =>
  next15 [(nth vs0 0), (nth vs0 1), v12, (nth vs0 3), (nth vs0 4), v14] h13)
  (fun _ _ _ => False)
def vc_copies_reading_least_k1 (P : Ctx) (pre : List ABlk) (r : AV) (post : List PB) (vs0 : List AV) (h1 : Heap) : Prop :=
  CALL P f_copies_sum [(nth vs0 2)] 352 h1 (fun _ v3 h4 =>
  FADDR 4 (nth vs0 0) h4 fun v5 =>
  LOAD false 1 v5 h4 fun v6 =>
  LOAD true 2 (nth vs0 1) h4 fun v7 =>
  MUPD 1002 v6 v7 v3 h4 fun h8 =>
  POST v3 h8 pre r post)
  (fun _ _ _ => False)
def vc_copies_reading_least_k2 (P : Ctx) (_pre : List ABlk) (_r : AV) (_post : List PB) (vs0 : List AV) (h1 : Heap) (next15 : List AV → Heap → Prop) : Prop :=
  IADDR 1 T_int (nth vs0 3) (nth vs0 5) h1 fun v2 =>
  LOAD false 1 v2 h1 fun v3 =>
  LOAD true 5 (nth vs0 0) h1 fun v4 =>
  FADDR 1 (nth vs0 1) h1 fun v5 =>
  LOAD false 1 v5 h1 fun v6 =>
  CALL P f_copies_reading_fewest [v4, v3, v6] 376 h1 (fun _ v8 h9 =>
  MKS T_int 1 [v8] 384 h9 fun v10 h11 =>
  APP T_int 1 (nth vs0 2) v10 392 h11 fun v12 h13 =>
  BIN 0 .add (nth vs0 5) (.d (.num .i64 1)) fun v14 =>
  next15 [(nth vs0 0), (nth vs0 1), v12, (nth vs0 3), (nth vs0 4), v14] h13)
  (fun _ _ _ => False)
def vc_copies_reading_least_k3 (P : Ctx) (pre : List ABlk) (r : AV) (post : List PB) (vs0 : List AV) (h1 : Heap) : Prop :=
  CALL P f_copies_sum [(nth vs0 2)] 320 h1 (fun _ v3 h4 =>
  FADDR 4 (nth vs0 0) h4 fun v5 =>
  LOAD false 1 v5 h4 fun v6 =>
  LOAD true 2 (nth vs0 1) h4 fun v7 =>
  MUPD 1002 v6 v7 v3 h4 fun h8 =>
  POST v3 h8 pre r post)
  (fun _ _ _ => False)
def vc_copies_reading_least_k4 (P : Ctx) (pre : List ABlk) (r : AV) (post : List PB) (h0 : Heap) (v5 : AV) (v9 : AV) : Prop :=
  MKS T_int 1 [(.d (.num .i64 1000))] 232 h0 fun v1 h2 =>
  APP T_int 1 .zc v1 240 h2 fun v3 h4 =>
  FADDR 0 v5 h4 fun v6 =>
  FADDR 2 v6 h4 fun v7 =>
  LOAD false 1 v7 h4 fun v8 =>
  FADDR 0 v9 h4 fun v10 =>
  LOAD false 1 v10 h4 fun v11 =>
  IADDR 1 T_l_int v8 v11 h4 fun v12 =>
  LOAD false 1 v12 h4 fun v13 =>
  LEN false v13 h4 fun v14 =>
  LOOP [v5, v9, v3, v13, v14, (.d (.num .i64 0))] h4 328 fun vs15 h16 next17 =>
  BIN 0 .lss (nth vs15 5) (nth vs15 4) fun v18 =>
  COND v18
  (vc_copies_reading_least_k0 P pre r post vs15 h16 next17)
  (vc_copies_reading_least_k1 P pre r post vs15 h16)
def vc_copies_reading_least_k5 (P : Ctx) (pre : List ABlk) (r : AV) (post : List PB) (v0 : AV) (h1 : Heap) (v5 : AV) : Prop :=
  FADDR 0 v0 h1 fun v2 =>
  FADDR 2 v2 h1 fun v3 =>
  LOAD false 1 v3 h1 fun v4 =>
  FADDR 0 v5 h1 fun v6 =>
  LOAD false 1 v6 h1 fun v7 =>
  IADDR 1 T_l_int v4 v7 h1 fun v8 =>
  LOAD false 1 v8 h1 fun v9 =>
  LEN false v9 h1 fun v10 =>
  LOOP [v0, v5, .zc, v9, v10, (.d (.num .i64 0))] h1 296 fun vs11 h12 next13 =>
  BIN 0 .lss (nth vs11 5) (nth vs11 4) fun v14 =>
  COND v14
  (vc_copies_reading_least_k2 P pre r post vs11 h12 next13)
  (vc_copies_reading_least_k3 P pre r post vs11 h12)
def vc_copies_reading_least (P : Ctx) (pre : List ABlk) (a0 a1 : AV) (r : AV) (post : List PB) : Prop :=
  let h0 : Heap := numbered 0 pre
  BOX T_copies_reading a0 24 h0 fun v2 h1 =>
  BOX T_copies_spot a1 32 h1 fun v3 h2 =>
  FADDR 4 v2 h2 fun v12 =>
  LOAD false 1 v12 h2 fun v13 =>
  LOAD true 2 v3 h2 fun v14 =>
  LOOKUP 1002 (.num .i64 0) true v13 v14 h2 fun v15 =>
  EXT v15 0 fun v16 =>
  EXT v15 1 fun v17 =>
  COND v17
  (POST v16 h2 pre r post)
  (FADDR 0 v2 h2 fun v20 =>
  FADDR 0 v20 h2 fun v21 =>
  LOAD true 2 v21 h2 fun v22 =>
  FADDR 0 v3 h2 fun v23 =>
  LOAD false 1 v23 h2 fun v24 =>
  FADDR 3 v2 h2 fun v25 =>
  LOAD false 1 v25 h2 fun v26 =>
  FADDR 1 v3 h2 fun v27 =>
  LOAD false 1 v27 h2 fun v28 =>
  CALL P f_copies_fits [v22, v24, v26, v28] 208 h2 (fun _ v29 h3 =>
  NOT v29 fun v30 =>
  COND v30
  (vc_copies_reading_least_k4 P pre r post h3 v2 v3)
  (vc_copies_reading_least_k5 P pre r post v2 h3 v3))
  (fun _ _ _ => False))
theorem vc_copies_reading_least_eq (g : GG) (pre : List ABlk) (a0 a1 : AV) (r : AV) (post : List PB) : vcFn2 (Tz g) false ann_copies_reading_least Tryz.f149 pre [a0, a1] (.ret r) post = vc_copies_reading_least (Tz g) pre a0 a1 r post := by kernel_rfl
theorem hf_copies_reading_least : Tryz.prog.funcs[f_copies_reading_least]? = some Tryz.f149 := by kernel_rfl
theorem ok_copies_reading_least : fnVcOK Tryz.prog Tryz.f149 = true := by kernel_rfl
theorem nt_copies_reading_least : Nat.ble 2 Tryz.f149.ntmps = true := by kernel_rfl
theorem meetsH_copies_reading_least {g : GG} {pre : List ABlk} {a0 a1 : AV} {r : AV} {post : List PB} (hk : Nat.ble pre.length 24 = true) (h : vc_copies_reading_least (Tz g) pre a0 a1 r post) : MeetsH (Tz g) f_copies_reading_least pre [a0, a1] (.ret r) post :=
  meetsH_of_vc (C := Tz g) ann_copies_reading_least hf_copies_reading_least ok_copies_reading_least nt_copies_reading_least hk (pn := false) (Eq.mpr ((vcFn2_eq _ _ _ _ _ _ _ _).trans (vc_copies_reading_least_eq g pre a0 a1 r post)) h)
def ann_copies_reading_errors : Nat → List Nat := fun n => match n with | 3 => [1, 3, 5] | _ => []
def vc_copies_reading_errors_k0 (P : Ctx) (pre : List ABlk) (r : AV) (post : List PB) (vs0 : List AV) (h2 : Heap) (next10 : List AV → Heap → Prop) : Prop :=
  BIN 0 .lss (nth vs0 2) (.d (.num .i64 10)) fun v1 =>
  COND v1
  (LOAD true 5 (nth vs0 0) h2 fun v3 =>
  BUILD [(0, 1), (1, 1)] [.d (.num .i64 0), .d (.num .i64 0)] [(0, (.d (.num .i64 0))), (1, (nth vs0 2))] fun v4 =>
  CALL P f_copies_reading_least [v3, v4] 120 h2 (fun _ v6 h7 =>
  MINK (nth vs0 1) v6 fun v8 =>
  BIN 0 .add (nth vs0 2) (.d (.num .i64 1)) fun v9 =>
  next10 [(nth vs0 0), v8, v9] h7)
  (fun _ _ _ => False))
  (POST (nth vs0 1) h2 pre r post)
def vc_copies_reading_errors (P : Ctx) (pre : List ABlk) (a0 : AV) (r : AV) (post : List PB) : Prop :=
  let h0 : Heap := numbered 0 pre
  BOX T_copies_reading a0 24 h0 fun v1 h1 =>
  LOOP [v1, (.d (.num .i64 1000)), (.d (.num .i64 0))] h1 56 fun vs2 h3 next2 =>
  vc_copies_reading_errors_k0 P pre r post vs2 h3 next2
theorem vc_copies_reading_errors_eq (g : GG) (pre : List ABlk) (a0 : AV) (r : AV) (post : List PB) : vcFn2 (Tz g) false ann_copies_reading_errors Tryz.f87 pre [a0] (.ret r) post = vc_copies_reading_errors (Tz g) pre a0 r post := by kernel_rfl
theorem hf_copies_reading_errors : Tryz.prog.funcs[f_copies_reading_errors]? = some Tryz.f87 := by kernel_rfl
theorem ok_copies_reading_errors : fnVcOK Tryz.prog Tryz.f87 = true := by kernel_rfl
theorem nt_copies_reading_errors : Nat.ble 1 Tryz.f87.ntmps = true := by kernel_rfl
theorem meetsH_copies_reading_errors {g : GG} {pre : List ABlk} {a0 : AV} {r : AV} {post : List PB} (hk : Nat.ble pre.length 24 = true) (h : vc_copies_reading_errors (Tz g) pre a0 r post) : MeetsH (Tz g) f_copies_reading_errors pre [a0] (.ret r) post :=
  meetsH_of_vc (C := Tz g) ann_copies_reading_errors hf_copies_reading_errors ok_copies_reading_errors nt_copies_reading_errors hk (pn := false) (Eq.mpr ((vcFn2_eq _ _ _ _ _ _ _ _).trans (vc_copies_reading_errors_eq g pre a0 r post)) h)
def ann_copies_Fewest : Nat → List Nat := fun n => match n with | 5 => [1, 4, 10, 11] | _ => []
def vc_copies_Fewest_k0 (P : Ctx) (pre : List ABlk) (r : AV) (post : List PB) (vs0 : List AV) (h2 : Heap) (next12 : List AV → Heap → Prop) : Prop :=
  BIN 0 .lss (nth vs0 3) (nth vs0 2) fun v1 =>
  COND v1
  (LOAD true 2 (nth vs0 0) h2 fun v3 =>
  CALL P f_copies_readingOf [v3, (nth vs0 3)] 160 h2 (fun _ v5 h6 =>
  CALL P f_copies_reading_errors [v5] 168 h6 (fun _ v8 h9 =>
  BIN 0 .add (nth vs0 1) v8 fun v10 =>
  BIN 0 .add (nth vs0 3) (.d (.num .i64 1)) fun v11 =>
  next12 [(nth vs0 0), v10, (nth vs0 2), v11] h9)
  (fun _ _ _ => False))
  (fun _ _ _ => False))
  (POST (.tup [(nth vs0 1), (.d (.num .i64 0))]) h2 pre r post)
def vc_copies_Fewest_k1 (P : Ctx) (pre : List ABlk) (r : AV) (post : List PB) (v0 : AV) (h2 : Heap) (v3 : AV) : Prop :=
  NOT v0 fun v1 =>
  COND v1
  (POST (.tup [(.d (.num .i64 0)), (.d (.num .i64 2))]) h2 pre r post)
  (FADDR 0 v3 h2 fun v4 =>
  LOAD false 1 v4 h2 fun v5 =>
  LOOP [v3, (.d (.num .i64 0)), v5, (.d (.num .i64 0))] h2 104 fun vs6 h7 next8 =>
  vc_copies_Fewest_k0 P pre r post vs6 h7 next8)
def vc_copies_Fewest (P : Ctx) (pre : List ABlk) (a0 : AV) (r : AV) (post : List PB) : Prop :=
  let h0 : Heap := numbered 0 pre
  BOX T_api_CopiesTree a0 24 h0 fun v1 h1 =>
  LOAD true 2 v1 h1 fun v6 =>
  CALL P f_copies_isTree [v6] 56 h1 (fun _ v7 h2 =>
  vc_copies_Fewest_k1 P pre r post v7 h2 v1)
  (fun _ _ _ => False)
theorem vc_copies_Fewest_eq (g : GG) (pre : List ABlk) (a0 : AV) (r : AV) (post : List PB) : vcFn2 (Tz g) false ann_copies_Fewest Tryz.f33 pre [a0] (.ret r) post = vc_copies_Fewest (Tz g) pre a0 r post := by kernel_rfl
theorem hf_copies_Fewest : Tryz.prog.funcs[f_copies_Fewest]? = some Tryz.f33 := by kernel_rfl
theorem ok_copies_Fewest : fnVcOK Tryz.prog Tryz.f33 = true := by kernel_rfl
theorem nt_copies_Fewest : Nat.ble 1 Tryz.f33.ntmps = true := by kernel_rfl
theorem meetsH_copies_Fewest {g : GG} {pre : List ABlk} {a0 : AV} {r : AV} {post : List PB} (hk : Nat.ble pre.length 24 = true) (h : vc_copies_Fewest (Tz g) pre a0 r post) : MeetsH (Tz g) f_copies_Fewest pre [a0] (.ret r) post :=
  meetsH_of_vc (C := Tz g) ann_copies_Fewest hf_copies_Fewest ok_copies_Fewest nt_copies_Fewest hk (pn := false) (Eq.mpr ((vcFn2_eq _ _ _ _ _ _ _ _).trans (vc_copies_Fewest_eq g pre a0 r post)) h)
theorem meets_copies_Fewest {g : GG} {a0 : D} {r : Res} (h : vc_copies_Fewest (Tz g) [] (.d a0) r.val (r.bl.map .upd)) : Meets (Tz g) f_copies_Fewest [a0] r := meetsH_copies_Fewest rfl h
end Go.Vc
