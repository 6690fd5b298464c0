/- A part of the proof: general laws of a reading of the model by abstract data, or contracts of the functions that the law calls. -/
import Derived.Test.YtonajancjagefaaGreatVc33
import Derived.Test.YtonajancjagefaaGreatVc29
import Derived.Test.YtonajancjagefaaGreatVc15
set_option maxRecDepth 100000

namespace Go.Vc
open Go Go.Proofs Go.RowKit
def ann_copies_fits : Nat → List Nat := fun n => match n with  | _ => []
def vc_copies_fits (_P : Ctx) (pre : List ABlk) (a0 a1 a2 a3 : AV) (r : AV) (post : List PB) : Prop :=
  let h0 : Heap := numbered 0 pre
  BOX T_api_CopiesTree a0 24 h0 fun v4 h1 =>
  FADDR 1 v4 h1 fun v10 =>
  LOAD false 1 v10 h1 fun v11 =>
  IADDR 2 T_api_CopiesCopy v11 a1 h1 fun v13 =>
  FADDR 1 v13 h1 fun v14 =>
  LOAD false 1 v14 h1 fun v15 =>
  IADDR 1 T_int v15 a2 h1 fun v17 =>
  LOAD false 1 v17 h1 fun v18 =>
  BIN 0 .eql v18 (.d (.num .i64 (-1))) fun v20 =>
  CONDG v20
  (POST (.d (.bool true)) h1 pre r post)
  (BIN 0 .eql v18 a3 fun v24 =>
  POST v24 h1 pre r post)
theorem vc_copies_fits_eq (g : GG) (pre : List ABlk) (a0 a1 a2 a3 : AV) (r : AV) (post : List PB) : vcFn2 (Tz g) false ann_copies_fits Tryz.f105 pre [a0, a1, a2, a3] (.ret r) post = vc_copies_fits (Tz g) pre a0 a1 a2 a3 r post := by kernel_rfl
theorem hf_copies_fits : Tryz.prog.funcs[f_copies_fits]? = some Tryz.f105 := by kernel_rfl
theorem ok_copies_fits : fnVcOK Tryz.prog Tryz.f105 = true := by kernel_rfl
theorem nt_copies_fits : Nat.ble 4 Tryz.f105.ntmps = true := by kernel_rfl
theorem meetsH_copies_fits {g : GG} {pre : List ABlk} {a0 a1 a2 a3 : AV} {r : AV} {post : List PB} (hk : Nat.ble pre.length 24 = true) (h : vc_copies_fits (Tz g) pre a0 a1 a2 a3 r post) : MeetsH (Tz g) f_copies_fits pre [a0, a1, a2, a3] (.ret r) post :=
  meetsH_of_vc (C := Tz g) ann_copies_fits hf_copies_fits ok_copies_fits nt_copies_fits hk (pn := false) (Eq.mpr ((vcFn2_eq _ _ _ _ _ _ _ _).trans (vc_copies_fits_eq g pre a0 a1 a2 a3 r post)) h)
theorem meets_copies_fits {g : GG} {a0 a1 a2 a3 : D} {r : Res} (h : vc_copies_fits (Tz g) [] (.d a0) (.d a1) (.d a2) (.d a3) r.val (r.bl.map .upd)) : Meets (Tz g) f_copies_fits [a0, a1, a2, a3] r := meetsH_copies_fits rfl h
def ann_copies_sum : Nat → List Nat := fun n => match n with | 3 => [3, 6, 7, 8] | _ => []
def vc_copies_sum_k0 (_P : Ctx) (pre : List ABlk) (r : AV) (post : List PB) (vs0 : List AV) (h2 : Heap) (next8 : List AV → Heap → Prop) : Prop :=
  BIN 0 .lss (nth vs0 3) (nth vs0 2) fun v1 =>
  COND v1
  (IADDR 1 T_int (nth vs0 1) (nth vs0 3) h2 fun v3 =>
  LOAD false 1 v3 h2 fun v4 =>
  BIN 0 .add (nth vs0 0) v4 fun v5 =>
  MINK (.d (.num .i64 1000)) v5 fun v6 =>
  BIN 0 .add (nth vs0 3) (.d (.num .i64 1)) fun v7 =>
  next8 [v6, (nth vs0 1), (nth vs0 2), v7] h2)
  (POST (nth vs0 0) h2 pre r post)
def vc_copies_sum (P : Ctx) (pre : List ABlk) (a0 : AV) (r : AV) (post : List PB) : Prop :=
  let h0 : Heap := numbered 0 pre
  LEN false a0 h0 fun v7 =>
  LOOP [(.d (.num .i64 0)), a0, v7, (.d (.num .i64 0))] h0 64 fun vs1 h2 next1 =>
  vc_copies_sum_k0 P pre r post vs1 h2 next1
theorem vc_copies_sum_eq (g : GG) (pre : List ABlk) (a0 : AV) (r : AV) (post : List PB) : vcFn2 (Tz g) false ann_copies_sum Tryz.f107 pre [a0] (.ret r) post = vc_copies_sum (Tz g) pre a0 r post := by kernel_rfl
theorem hf_copies_sum : Tryz.prog.funcs[f_copies_sum]? = some Tryz.f107 := by kernel_rfl
theorem ok_copies_sum : fnVcOK Tryz.prog Tryz.f107 = true := by kernel_rfl
theorem nt_copies_sum : Nat.ble 1 Tryz.f107.ntmps = true := by kernel_rfl
theorem meetsH_copies_sum {g : GG} {pre : List ABlk} {a0 : AV} {r : AV} {post : List PB} (hk : Nat.ble pre.length 24 = true) (h : vc_copies_sum (Tz g) pre a0 r post) : MeetsH (Tz g) f_copies_sum pre [a0] (.ret r) post :=
  meetsH_of_vc (C := Tz g) ann_copies_sum hf_copies_sum ok_copies_sum nt_copies_sum hk (pn := false) (Eq.mpr ((vcFn2_eq _ _ _ _ _ _ _ _).trans (vc_copies_sum_eq g pre a0 r post)) h)
theorem meets_copies_sum {g : GG} {a0 : D} {r : Res} (h : vc_copies_sum (Tz g) [] (.d a0) r.val (r.bl.map .upd)) : Meets (Tz g) f_copies_sum [a0] r := meetsH_copies_sum rfl h
def ann_copies_reading_step : Nat → List Nat := fun n => match n with  | _ => []
def vc_copies_reading_step (P : Ctx) (pre : List ABlk) (a0 a1 a2 a3 : AV) (r : AV) (post : List PB) : Prop :=
  let h0 : Heap := numbered 0 pre
  BOX T_copies_reading a0 24 h0 fun v4 h1 =>
  LOAD true 5 v4 h1 fun v10 =>
  BUILD [(0, 1), (1, 1)] [.d (.num .i64 0), .d (.num .i64 0)] [(0, a1), (1, a2)] fun v13 =>
  CALL P f_copies_reading_least [v10, v13] 72 h1 (fun _ v14 h2 =>
  BIN 0 .neq a2 a3 fun v17 =>
  COND v17
  (MKS T_int 1 [v14, (.d (.num .i64 1))] 120 h2 fun v19 h4 =>
  CALL P f_copies_sum [v19] 128 h4 (fun _ v20 h5 =>
  POST v20 h5 pre r post)
  (fun _ _ _ => False))
  (POST v14 h2 pre r post))
  (fun _ _ _ => False)
theorem vc_copies_reading_step_eq (g : GG) (pre : List ABlk) (a0 a1 a2 a3 : AV) (r : AV) (post : List PB) : vcFn2 (Tz g) false ann_copies_reading_step Tryz.f116 pre [a0, a1, a2, a3] (.ret r) post = vc_copies_reading_step (Tz g) pre a0 a1 a2 a3 r post := by kernel_rfl
theorem hf_copies_reading_step : Tryz.prog.funcs[f_copies_reading_step]? = some Tryz.f116 := by kernel_rfl
theorem ok_copies_reading_step : fnVcOK Tryz.prog Tryz.f116 = true := by kernel_rfl
theorem nt_copies_reading_step : Nat.ble 4 Tryz.f116.ntmps = true := by kernel_rfl
theorem meetsH_copies_reading_step {g : GG} {pre : List ABlk} {a0 a1 a2 a3 : AV} {r : AV} {post : List PB} (hk : Nat.ble pre.length 24 = true) (h : vc_copies_reading_step (Tz g) pre a0 a1 a2 a3 r post) : MeetsH (Tz g) f_copies_reading_step pre [a0, a1, a2, a3] (.ret r) post :=
  meetsH_of_vc (C := Tz g) ann_copies_reading_step hf_copies_reading_step ok_copies_reading_step nt_copies_reading_step hk (pn := false) (Eq.mpr ((vcFn2_eq _ _ _ _ _ _ _ _).trans (vc_copies_reading_step_eq g pre a0 a1 a2 a3 r post)) h)
def ann_copies_reading_fewest : Nat → List Nat := fun n => match n with | 3 => [1, 2, 3, 7, 9] | _ => []
def vc_copies_reading_fewest_k0 (P : Ctx) (pre : List ABlk) (r : AV) (post : List PB) (vs0 : List AV) (h2 : Heap) (next9 : List AV → Heap → Prop) : Prop :=
  BIN 0 .lss (nth vs0 4) (.d (.num .i64 10)) fun v1 =>
  COND v1
  (LOAD true 5 (nth vs0 2) h2 fun v3 =>
  CALL P f_copies_reading_step [v3, (nth vs0 0), (nth vs0 4), (nth vs0 1)] 128 h2 (fun _ v5 h6 =>
  MINK (nth vs0 3) v5 fun v7 =>
  BIN 0 .add (nth vs0 4) (.d (.num .i64 1)) fun v8 =>
  next9 [(nth vs0 0), (nth vs0 1), (nth vs0 2), v7, v8] h6)
  (fun _ _ _ => False))
  (POST (nth vs0 3) h2 pre r post)
def vc_copies_reading_fewest (P : Ctx) (pre : List ABlk) (a0 a1 a2 : AV) (r : AV) (post : List PB) : Prop :=
  let h0 : Heap := numbered 0 pre
  BOX T_copies_reading a0 24 h0 fun v3 h1 =>
  LOOP [a1, a2, v3, (.d (.num .i64 1000)), (.d (.num .i64 0))] h1 56 fun vs2 h3 next2 =>
  vc_copies_reading_fewest_k0 P pre r post vs2 h3 next2
theorem vc_copies_reading_fewest_eq (g : GG) (pre : List ABlk) (a0 a1 a2 : AV) (r : AV) (post : List PB) : vcFn2 (Tz g) false ann_copies_reading_fewest Tryz.f106 pre [a0, a1, a2] (.ret r) post = vc_copies_reading_fewest (Tz g) pre a0 a1 a2 r post := by kernel_rfl
theorem hf_copies_reading_fewest : Tryz.prog.funcs[f_copies_reading_fewest]? = some Tryz.f106 := by kernel_rfl
theorem ok_copies_reading_fewest : fnVcOK Tryz.prog Tryz.f106 = true := by kernel_rfl
theorem nt_copies_reading_fewest : Nat.ble 3 Tryz.f106.ntmps = true := by kernel_rfl
theorem meetsH_copies_reading_fewest {g : GG} {pre : List ABlk} {a0 a1 a2 : AV} {r : AV} {post : List PB} (hk : Nat.ble pre.length 24 = true) (h : vc_copies_reading_fewest (Tz g) pre a0 a1 a2 r post) : MeetsH (Tz g) f_copies_reading_fewest pre [a0, a1, a2] (.ret r) post :=
  meetsH_of_vc (C := Tz g) ann_copies_reading_fewest hf_copies_reading_fewest ok_copies_reading_fewest nt_copies_reading_fewest hk (pn := false) (Eq.mpr ((vcFn2_eq _ _ _ _ _ _ _ _).trans (vc_copies_reading_fewest_eq g pre a0 a1 a2 r post)) h)
def ann_copies_reading_least : Nat → List Nat := fun n => match n with | 8 => [2, 3, 7, 40, 41, 42] | _ => []
def vc_copies_reading_least_k0 (P : Ctx) (_pre : List ABlk) (_r : AV) (_post : List PB) (vs0 : List AV) (h1 : Heap) (next15 : List AV → Heap → Prop) : Prop :=
  IADDR 1 T_int (nth vs0 3) (nth vs0 5) h1 fun v2 =>
  LOAD false 1 v2 h1 fun v3 =>
  LOAD true 5 (nth vs0 0) h1 fun v4 =>
  FADDR 1 (nth vs0 1) h1 fun v5 =>
  LOAD false 1 v5 h1 fun v6 =>
  CALL P f_copies_reading_fewest [v4, v3, v6] 408 h1 (fun _ v8 h9 =>
  MKS T_int 1 [v8] 416 h9 fun v10 h11 =>
  APP T_int 1 (nth vs0 2) v10 424 h11 fun v12 h13 =>
  BIN 0 .add (nth vs0 5) (.d (.num .i64 1)) fun v14 =>
  next15 [(nth vs0 0), (nth vs0 1), v12, (nth vs0 3), (nth vs0 4), v14] h13)
  (fun _ _ _ => False)
def vc_copies_reading_least_k1 (P : Ctx) (pre : List ABlk) (r : AV) (post : List PB) (vs0 : List AV) (h1 : Heap) : Prop :=
  CALL P f_copies_sum [(nth vs0 2)] 352 h1 (fun _ v3 h4 =>
  FADDR 4 (nth vs0 0) h4 fun v5 =>
  LOAD false 1 v5 h4 fun v6 =>
  LOAD true 2 (nth vs0 1) h4 fun v7 =>
  MUPD 1002 v6 v7 v3 h4 fun h8 =>
  POST v3 h8 pre r post)
  (fun _ _ _ => False)
def vc_copies_reading_least_k2 (P : Ctx) (_pre : List ABlk) (_r : AV) (_post : List PB) (vs0 : List AV) (h1 : Heap) (next15 : List AV → Heap → Prop) : Prop :=
  IADDR 1 T_int (nth vs0 3) (nth vs0 5) h1 fun v2 =>
  LOAD false 1 v2 h1 fun v3 =>
  LOAD true 5 (nth vs0 0) h1 fun v4 =>
  FADDR 1 (nth vs0 1) h1 fun v5 =>
  LOAD false 1 v5 h1 fun v6 =>
  CALL P f_copies_reading_fewest [v4, v3, v6] 376 h1 (fun _ v8 h9 =>
  MKS T_int 1 [v8] 384 h9 fun v10 h11 =>
  APP T_int 1 (nth vs0 2) v10 392 h11 fun v12 h13 =>
  BIN 0 .add (nth vs0 5) (.d (.num .i64 1)) fun v14 =>
  next15 [(nth vs0 0), (nth vs0 1), v12, (nth vs0 3), (nth vs0 4), v14] h13)
  (fun _ _ _ => False)
def vc_copies_reading_least_k3 (P : Ctx) (pre : List ABlk) (r : AV) (post : List PB) (vs0 : List AV) (h1 : Heap) : Prop :=
  CALL P f_copies_sum [(nth vs0 2)] 320 h1 (fun _ v3 h4 =>
  FADDR 4 (nth vs0 0) h4 fun v5 =>
  LOAD false 1 v5 h4 fun v6 =>
  LOAD true 2 (nth vs0 1) h4 fun v7 =>
  MUPD 1002 v6 v7 v3 h4 fun h8 =>
  POST v3 h8 pre r post)
  (fun _ _ _ => False)
def vc_copies_reading_least_k4 (P : Ctx) (pre : List ABlk) (r : AV) (post : List PB) (h0 : Heap) (v5 : AV) (v9 : AV) : Prop :=
  MKS T_int 1 [(.d (.num .i64 1000))] 232 h0 fun v1 h2 =>
  APP T_int 1 .zc v1 240 h2 fun v3 h4 =>
  FADDR 0 v5 h4 fun v6 =>
  FADDR 2 v6 h4 fun v7 =>
  LOAD false 1 v7 h4 fun v8 =>
  FADDR 0 v9 h4 fun v10 =>
  LOAD false 1 v10 h4 fun v11 =>
  IADDR 1 T_l_int v8 v11 h4 fun v12 =>
  LOAD false 1 v12 h4 fun v13 =>
  LEN false v13 h4 fun v14 =>
  LOOP [v5, v9, v3, v13, v14, (.d (.num .i64 0))] h4 328 fun vs15 h16 next17 =>
  BIN 0 .lss (nth vs15 5) (nth vs15 4) fun v18 =>
  COND v18
  (vc_copies_reading_least_k0 P pre r post vs15 h16 next17)
  (vc_copies_reading_least_k1 P pre r post vs15 h16)
def vc_copies_reading_least_k5 (P : Ctx) (pre : List ABlk) (r : AV) (post : List PB) (v0 : AV) (h1 : Heap) (v5 : AV) : Prop :=
  FADDR 0 v0 h1 fun v2 =>
  FADDR 2 v2 h1 fun v3 =>
  LOAD false 1 v3 h1 fun v4 =>
  FADDR 0 v5 h1 fun v6 =>
  LOAD false 1 v6 h1 fun v7 =>
  IADDR 1 T_l_int v4 v7 h1 fun v8 =>
  LOAD false 1 v8 h1 fun v9 =>
  LEN false v9 h1 fun v10 =>
  LOOP [v0, v5, .zc, v9, v10, (.d (.num .i64 0))] h1 296 fun vs11 h12 next13 =>
  BIN 0 .lss (nth vs11 5) (nth vs11 4) fun v14 =>
  COND v14
  (vc_copies_reading_least_k2 P pre r post vs11 h12 next13)
  (vc_copies_reading_least_k3 P pre r post vs11 h12)
def vc_copies_reading_least (P : Ctx) (pre : List ABlk) (a0 a1 : AV) (r : AV) (post : List PB) : Prop :=
  let h0 : Heap := numbered 0 pre
  BOX T_copies_reading a0 24 h0 fun v2 h1 =>
  BOX T_copies_spot a1 32 h1 fun v3 h2 =>
  FADDR 4 v2 h2 fun v12 =>
  LOAD false 1 v12 h2 fun v13 =>
  LOAD true 2 v3 h2 fun v14 =>
  LOOKUP 1002 (.num .i64 0) true v13 v14 h2 fun v15 =>
  EXT v15 0 fun v16 =>
  EXT v15 1 fun v17 =>
  COND v17
  (POST v16 h2 pre r post)
  (FADDR 0 v2 h2 fun v20 =>
  FADDR 0 v20 h2 fun v21 =>
  LOAD true 2 v21 h2 fun v22 =>
  FADDR 0 v3 h2 fun v23 =>
  LOAD false 1 v23 h2 fun v24 =>
  FADDR 3 v2 h2 fun v25 =>
  LOAD false 1 v25 h2 fun v26 =>
  FADDR 1 v3 h2 fun v27 =>
  LOAD false 1 v27 h2 fun v28 =>
  CALL P f_copies_fits [v22, v24, v26, v28] 208 h2 (fun _ v29 h3 =>
  NOT v29 fun v30 =>
  COND v30
  (vc_copies_reading_least_k4 P pre r post h3 v2 v3)
  (vc_copies_reading_least_k5 P pre r post v2 h3 v3))
  (fun _ _ _ => False))
theorem vc_copies_reading_least_eq (g : GG) (pre : List ABlk) (a0 a1 : AV) (r : AV) (post : List PB) : vcFn2 (Tz g) false ann_copies_reading_least Tryz.f84 pre [a0, a1] (.ret r) post = vc_copies_reading_least (Tz g) pre a0 a1 r post := by kernel_rfl
theorem hf_copies_reading_least : Tryz.prog.funcs[f_copies_reading_least]? = some Tryz.f84 := by kernel_rfl
theorem ok_copies_reading_least : fnVcOK Tryz.prog Tryz.f84 = true := by kernel_rfl
theorem nt_copies_reading_least : Nat.ble 2 Tryz.f84.ntmps = true := by kernel_rfl
theorem meetsH_copies_reading_least {g : GG} {pre : List ABlk} {a0 a1 : AV} {r : AV} {post : List PB} (hk : Nat.ble pre.length 24 = true) (h : vc_copies_reading_least (Tz g) pre a0 a1 r post) : MeetsH (Tz g) f_copies_reading_least pre [a0, a1] (.ret r) post :=
  meetsH_of_vc (C := Tz g) ann_copies_reading_least hf_copies_reading_least ok_copies_reading_least nt_copies_reading_least hk (pn := false) (Eq.mpr ((vcFn2_eq _ _ _ _ _ _ _ _).trans (vc_copies_reading_least_eq g pre a0 a1 r post)) h)
def ann_copies_reading_errors : Nat → List Nat := fun n => match n with | 3 => [1, 3, 5] | _ => []
def vc_copies_reading_errors_k0 (P : Ctx) (pre : List ABlk) (r : AV) (post : List PB) (vs0 : List AV) (h2 : Heap) (next10 : List AV → Heap → Prop) : Prop :=
  BIN 0 .lss (nth vs0 2) (.d (.num .i64 10)) fun v1 =>
  COND v1
  (LOAD true 5 (nth vs0 0) h2 fun v3 =>
  BUILD [(0, 1), (1, 1)] [.d (.num .i64 0), .d (.num .i64 0)] [(0, (.d (.num .i64 0))), (1, (nth vs0 2))] fun v4 =>
  CALL P f_copies_reading_least [v3, v4] 120 h2 (fun _ v6 h7 =>
  MINK (nth vs0 1) v6 fun v8 =>
  BIN 0 .add (nth vs0 2) (.d (.num .i64 1)) fun v9 =>
  next10 [(nth vs0 0), v8, v9] h7)
  (fun _ _ _ => False))
  (POST (nth vs0 1) h2 pre r post)
def vc_copies_reading_errors (P : Ctx) (pre : List ABlk) (a0 : AV) (r : AV) (post : List PB) : Prop :=
  let h0 : Heap := numbered 0 pre
  BOX T_copies_reading a0 24 h0 fun v1 h1 =>
  LOOP [v1, (.d (.num .i64 1000)), (.d (.num .i64 0))] h1 56 fun vs2 h3 next2 =>
  vc_copies_reading_errors_k0 P pre r post vs2 h3 next2
theorem vc_copies_reading_errors_eq (g : GG) (pre : List ABlk) (a0 : AV) (r : AV) (post : List PB) : vcFn2 (Tz g) false ann_copies_reading_errors Tryz.f42 pre [a0] (.ret r) post = vc_copies_reading_errors (Tz g) pre a0 r post := by kernel_rfl
theorem hf_copies_reading_errors : Tryz.prog.funcs[f_copies_reading_errors]? = some Tryz.f42 := by kernel_rfl
theorem ok_copies_reading_errors : fnVcOK Tryz.prog Tryz.f42 = true := by kernel_rfl
theorem nt_copies_reading_errors : Nat.ble 1 Tryz.f42.ntmps = true := by kernel_rfl
theorem meetsH_copies_reading_errors {g : GG} {pre : List ABlk} {a0 : AV} {r : AV} {post : List PB} (hk : Nat.ble pre.length 24 = true) (h : vc_copies_reading_errors (Tz g) pre a0 r post) : MeetsH (Tz g) f_copies_reading_errors pre [a0] (.ret r) post :=
  meetsH_of_vc (C := Tz g) ann_copies_reading_errors hf_copies_reading_errors ok_copies_reading_errors nt_copies_reading_errors hk (pn := false) (Eq.mpr ((vcFn2_eq _ _ _ _ _ _ _ _).trans (vc_copies_reading_errors_eq g pre a0 r post)) h)
def ann_copies_Fewest : Nat → List Nat := fun n => match n with | 5 => [1, 4, 10, 11] | _ => []
def vc_copies_Fewest_k0 (P : Ctx) (pre : List ABlk) (r : AV) (post : List PB) (vs0 : List AV) (h2 : Heap) (next12 : List AV → Heap → Prop) : Prop :=
  BIN 0 .lss (nth vs0 3) (nth vs0 2) fun v1 =>
  COND v1
  (LOAD true 2 (nth vs0 0) h2 fun v3 =>
  CALL P f_copies_readingOf [v3, (nth vs0 3)] 160 h2 (fun _ v5 h6 =>
  CALL P f_copies_reading_errors [v5] 168 h6 (fun _ v8 h9 =>
  BIN 0 .add (nth vs0 1) v8 fun v10 =>
  BIN 0 .add (nth vs0 3) (.d (.num .i64 1)) fun v11 =>
  next12 [(nth vs0 0), v10, (nth vs0 2), v11] h9)
  (fun _ _ _ => False))
  (fun _ _ _ => False))
  (POST (.tup [(nth vs0 1), (.d (.num .i64 0))]) h2 pre r post)
def vc_copies_Fewest_k1 (P : Ctx) (pre : List ABlk) (r : AV) (post : List PB) (v0 : AV) (h2 : Heap) (v3 : AV) : Prop :=
  NOT v0 fun v1 =>
  COND v1
  (POST (.tup [(.d (.num .i64 0)), (.d (.num .i64 2))]) h2 pre r post)
  (FADDR 0 v3 h2 fun v4 =>
  LOAD false 1 v4 h2 fun v5 =>
  LOOP [v3, (.d (.num .i64 0)), v5, (.d (.num .i64 0))] h2 104 fun vs6 h7 next8 =>
  vc_copies_Fewest_k0 P pre r post vs6 h7 next8)
def vc_copies_Fewest (P : Ctx) (pre : List ABlk) (a0 : AV) (r : AV) (post : List PB) : Prop :=
  let h0 : Heap := numbered 0 pre
  BOX T_api_CopiesTree a0 24 h0 fun v1 h1 =>
  LOAD true 2 v1 h1 fun v6 =>
  CALL P f_copies_isTree [v6] 56 h1 (fun _ v7 h2 =>
  vc_copies_Fewest_k1 P pre r post v7 h2 v1)
  (fun _ _ _ => False)
theorem vc_copies_Fewest_eq (g : GG) (pre : List ABlk) (a0 : AV) (r : AV) (post : List PB) : vcFn2 (Tz g) false ann_copies_Fewest Tryz.f17 pre [a0] (.ret r) post = vc_copies_Fewest (Tz g) pre a0 r post := by kernel_rfl
theorem hf_copies_Fewest : Tryz.prog.funcs[f_copies_Fewest]? = some Tryz.f17 := by kernel_rfl
theorem ok_copies_Fewest : fnVcOK Tryz.prog Tryz.f17 = true := by kernel_rfl
theorem nt_copies_Fewest : Nat.ble 1 Tryz.f17.ntmps = true := by kernel_rfl
theorem meetsH_copies_Fewest {g : GG} {pre : List ABlk} {a0 : AV} {r : AV} {post : List PB} (hk : Nat.ble pre.length 24 = true) (h : vc_copies_Fewest (Tz g) pre a0 r post) : MeetsH (Tz g) f_copies_Fewest pre [a0] (.ret r) post :=
  meetsH_of_vc (C := Tz g) ann_copies_Fewest hf_copies_Fewest ok_copies_Fewest nt_copies_Fewest hk (pn := false) (Eq.mpr ((vcFn2_eq _ _ _ _ _ _ _ _).trans (vc_copies_Fewest_eq g pre a0 r post)) h)
theorem meets_copies_Fewest {g : GG} {a0 : D} {r : Res} (h : vc_copies_Fewest (Tz g) [] (.d a0) r.val (r.bl.map .upd)) : Meets (Tz g) f_copies_Fewest [a0] r := meetsH_copies_Fewest rfl h
end Go.Vc

namespace Go.Vc
open Go Go.Proofs
variable {g : GG}
attribute [local simp] and_assoc
structure E3 where
  c : Int
  f : Int
  n : Int
abbrev Ms := List E3
def cp_keyD (c f : Int) : D := .agg [int c, int f]
def ments : Nat → Ms → List MEnt
  | _, [] => []
  | i, e :: r => ⟨cp_keyD e.c e.f, int e.n, i⟩ :: ments (i + 1) r
def findS (c f : Int) : Ms → Nat → Option (Nat × E3)
  | [], _ => none
  | e :: r, i => match decide (c = e.c) && decide (f = e.f) with
    | true => some (i, e)
    | false => findS c f r (i + 1)
def entR (x : Option (Nat × E3)) : Option (Nat × MEnt) := match x with
  | some (k, e) => some (k, ⟨cp_keyD e.c e.f, int e.n, k⟩)
  | none => none
theorem mfind_ents (c f : Int) : ∀ (st : Ms) (i : Nat), mfind (cp_keyD c f) (ments i st) i = some (entR (findS c f st i))
  | [], _ => rfl
  | e :: r, i => by
    have ih := mfind_ents c f r (i + 1)
    have hk : keyEq (cp_keyD c f) (cp_keyD e.c e.f) = some (decide (c = e.c) && decide (f = e.f)) := by simp [cp_keyD, keyEq, beqAll, D.beq]
    simp only [ments, mfind, hk, findS]
    cases decide (c = e.c) && decide (f = e.f) with
    | true => rfl
    | false => simpa using ih
def putS (st : Ms) (c f n : Int) : Ms := match findS c f st 0 with
  | some (i, _) => st.set i ⟨c, f, n⟩
  | none => st ++ [⟨c, f, n⟩]
theorem ents_set (c f n : Int) : ∀ (st : Ms) (i k : Nat), (ments i st).set k ⟨cp_keyD c f, int n, i + k⟩ = ments i (st.set k ⟨c, f, n⟩)
  | [], _, _ => by simp [ments]
  | e :: r, i, 0 => by simp [ments]
  | e :: r, i, k + 1 => by
    have ih := ents_set c f n r (i + 1) k
    rw [show i + 1 + k = i + (k + 1) by omega] at ih
    simp only [ments, List.set_cons_succ, ih]
theorem ents_app (e : E3) : ∀ (st : Ms) (i : Nat), ments i (st ++ [e]) = ments i st ++ [⟨cp_keyD e.c e.f, int e.n, i + st.length⟩]
  | [], i => by simp [ments]
  | x :: r, i => by
    have ih := ents_app e r (i + 1)
    simp only [List.cons_append, ments, ih, List.length_cons]
    rw [show i + 1 + r.length = i + (r.length + 1) by omega]
theorem mput_ents (c f n : Int) (st : Ms) : mput (cp_keyD c f) (int n) (ments 0 st) st.length (entR (findS c f st 0)) = (ments 0 (putS st c f n), (putS st c f n).length) := by
  unfold putS
  cases h : findS c f st 0 with
  | none =>
    have := ents_app ⟨c, f, n⟩ st 0
    simp only [Nat.zero_add] at this
    simp [entR, mput, this]
  | some x =>
    obtain ⟨k, e⟩ := x
    have := ents_set c f n st 0 k
    simp only [Nat.zero_add] at this
    simp [entR, mput, this]
def InvM (st : Ms) : Prop := ∀ e, e ∈ st → 0 ≤ e.n ∧ e.n ≤ 1000
theorem findS_mem {c f : Int} : ∀ {st : Ms} {i k : Nat} {e : E3}, findS c f st i = some (k, e) → e ∈ st
  | [], _, _, _, h => by cases h
  | x :: r, i, k, e, h => by
    simp only [findS] at h
    split at h
    · injection h with h; injection h with h1 h2; subst h2; exact List.mem_cons_self
    · exact List.mem_cons_of_mem _ (findS_mem h)
theorem InvM.put {st : Ms} (h : InvM st) {c f n : Int} (h0 : 0 ≤ n) (h1 : n ≤ 1000) : InvM (putS st c f n) := by
  unfold putS
  intro e he
  split at he
  · rcases List.mem_or_eq_of_mem_set he with he | rfl
    · exact h e he
    · exact ⟨h0, h1⟩
  · rcases List.mem_append.1 he with he | he
    · exact h e he
    · obtain rfl := List.mem_singleton.1 he
      exact ⟨h0, h1⟩
def cpD (p : Int) (l : List Int) : D := .agg [int p, ints l]
def seenA : List (List Int) := [[4, 7], [-1, -1], [4, 1], [4, 1], [-1, 7], [8, 7]]
def copsA : D := .list [cpD 0 [4, 7], cpD 0 [-1, -1], cpD 1 [4, 1], cpD 1 [4, 1], cpD 0 [-1, 7], cpD 4 [8, 7]]
def treA : D := .agg [int 2, copsA]
def boxA : ABlk := ⟨0, T_l_int, .box [.own 1 0, .own 2 0, .zc, .zc, .own 3 0, .zc]⟩
def lstA (l : List Int) : ABlk := ⟨0, T_int, .lst (l.map int)⟩
def mapA (st : Ms) : ABlk := ⟨0, 0, .mp (ments 0 st) st.length⟩
def preC (st : Ms) : List ABlk := [boxA, lstA [1, 4], lstA [2, 3], lstA [5], mapA st]
def postC (st : Ms) : List PB := [.same, .same, .same, .same, .upd (mapA st)]
def cp_rdA (p : Nat) : AV := .agg [.d (int 2), .d copsA, .own 0 0, .d (int p), .mapv 4]
def seen1 (p c : Nat) : Int := ((seenA.getD c []).getD p 0)
def fitB (p c : Nat) (f : Int) : Bool := decide (seen1 p c = -1) || decide (seen1 p c = f)
theorem fits_meets (p c : Nat) (f : Int) (hp : p < 2) (hc : c < 6) : Meets (Tz g) f_copies_fits [treA, int c, int p, int f] ⟨.d (.bool (fitB p c f)), []⟩ := by
  refine meets_copies_fits ?_
  unfold vc_copies_fits
  rcases (by omega : p = 0 ∨ p = 1) with rfl | rfl <;> rcases (by omega : c = 0 ∨ c = 1 ∨ c = 2 ∨ c = 3 ∨ c = 4 ∨ c = 5) with rfl | rfl | rfl | rfl | rfl | rfl <;> simp [treA, copsA, cpD, ints, lookH, fitB, seen1, seenA]
def sumP (l : List Int) : Int := l.foldl (fun n x => min 1000 (n + x)) 0
theorem sum_snoc (l : List Int) (x : Int) : sumP (l ++ [x]) = min 1000 (sumP l + x) := by simp [sumP]
theorem sum_bnd : ∀ (l : List Int), (∀ x, x ∈ l → 0 ≤ x ∧ x ≤ 1000) → 0 ≤ sumP l ∧ sumP l ≤ 1000 := by
  have key : ∀ (l : List Int) (a : Int), 0 ≤ a → a ≤ 1000 → (∀ x, x ∈ l → 0 ≤ x ∧ x ≤ 1000) → 0 ≤ l.foldl (fun n x => min 1000 (n + x)) a ∧ l.foldl (fun n x => min 1000 (n + x)) a ≤ 1000 := by
    intro l
    induction l with
    | nil => intro a h0 h1 _; exact ⟨h0, h1⟩
    | cons x r ih =>
      intro a h0 h1 h
      have := h x List.mem_cons_self
      have e1 : 0 ≤ min 1000 (a + x) := by omega
      have e2 : min 1000 (a + x) ≤ 1000 := by omega
      exact ih _ e1 e2 (fun y hy => h y (List.mem_cons_of_mem _ hy))
  intro l h
  exact key l 0 (by omega) (by omega) h
theorem take_next' {α : Type} {l : List α} {k : Nat} {a : α} (h : l[k]? = some a) : l.take (k + 1) = l.take k ++ [a] := by
  rw [List.take_add_one, h]; rfl
theorem csum_meets (l : List Int) (hl : l.length ≤ 1000) (h : ∀ x, x ∈ l → 0 ≤ x ∧ x ≤ 1000) : Meets (Tz g) f_copies_sum [ints l] ⟨.d (int (sumP l)), []⟩ := by
  refine meets_copies_sum ?_
  unfold vc_copies_sum
  simp [ints]
  refine LOOP.mk Nat (fun i => [.d (int (sumP (l.take i))), .d (ints l), .d (int l.length), .d (int i)]) (fun i => []) (fun i => i ≤ l.length) (fun i => l.length - i) [] (by simp) 0 (by omega) (by simp [WEAK, ints, sumP]) (fun _ _ => rfl) ?_
  intro i hi
  simp [vc_copies_sum_k0, ints]
  refine ⟨fun hlt => ?_, fun hge => ?_⟩
  · have hg : l[i]? = some l[i] := List.getElem?_eq_getElem hlt
    have hb := sum_bnd (l.take i) (fun x hx => h x (List.mem_of_mem_take hx))
    have hx := h _ (List.mem_of_getElem? hg)
    have w1 := wrap_id (n := sumP (l.take i) + l[i]) (by omega) (by omega)
    have w2 := wrap_id (n := (i : Int) + 1) (by omega) (by omega)
    refine ⟨_, ⟨_, hg, rfl⟩, rfl, _, rfl, ?_⟩
    simp [w1, w2]
    refine ⟨i + 1, by omega, ?_, by omega⟩
    rw [take_next' hg, sum_snoc]
    simp [WEAK, ints]
  · have : i = l.length := by omega
    subst this
    simp
def kidsA (c : Nat) : List Nat := [[1, 4], [2, 3], [], [], [5], []].getD c []
def stepP (L : Ms → Nat → Int → Int × Ms) (st : Ms) (c : Nat) (fig parent : Int) : Int × Ms := match L st c fig with
  | (m, st') => (match decide (fig = parent) with | true => m | false => sumP [m, 1], st')
theorem stepP_eq (L : Ms → Nat → Int → Int × Ms) (st : Ms) (c : Nat) (fig parent : Int) : stepP L st c fig parent = (if fig = parent then (L st c fig).1 else sumP [(L st c fig).1, 1], (L st c fig).2) := by
  cases h : L st c fig with
  | mk m st' =>
    simp only [stepP, h]
    by_cases hf : fig = parent <;> simp [hf]
def fewP (L : Ms → Nat → Int → Int × Ms) (st : Ms) (c : Nat) (parent : Int) : Nat → Int × Ms
  | 0 => (1000, st)
  | i + 1 => match fewP L st c parent i with
    | (n, st1) => match stepP L st1 c i parent with
      | (m, st2) => (min n m, st2)
theorem fewP_zero (L : Ms → Nat → Int → Int × Ms) (st : Ms) (c : Nat) (parent : Int) : fewP L st c parent 0 = (1000, st) := rfl
theorem fewP_succ (L : Ms → Nat → Int → Int × Ms) (st : Ms) (c : Nat) (parent : Int) (i : Nat) : fewP L st c parent (i + 1) = (min (fewP L st c parent i).1 (stepP L (fewP L st c parent i).2 c i parent).1, (stepP L (fewP L st c parent i).2 c i parent).2) := rfl
def kidsP (F : Ms → Nat → Int × Ms) : List Nat → List Int × Ms → List Int × Ms
  | [], a => a
  | c :: r, (l, st) => match F st c with | (m, st') => kidsP F r (l ++ [m], st')
theorem kidsP_cons (F : Ms → Nat → Int × Ms) (c : Nat) (r : List Nat) (a : List Int × Ms) : kidsP F (c :: r) a = kidsP F r (a.1 ++ [(F a.2 c).1], (F a.2 c).2) := rfl
def leastP (p : Nat) : Nat → Ms → Nat → Int → Int × Ms
  | 0, st, _, _ => (0, st)
  | k + 1, st, c, f => match findS c f st 0 with
    | some (_, e) => (e.n, st)
    | none => match kidsP (fun st c => fewP (leastP p k) st c f 10) (kidsA c) ((match fitB p c f with | true => [] | false => [1000]), st) with
      | (l, st') => (sumP l, putS st' c f (sumP l))
def LOK (g : GG) (p : Nat) (L : Ms → Nat → Int → Int × Ms) (c : Nat) : Prop := ∀ (st : Ms) (f : Int), InvM st → 0 ≤ f → f ≤ 9 →
  MeetsH (Tz g) f_copies_reading_least (preC st) [cp_rdA p, .d (cp_keyD c f)] (.ret (.d (int (L st c f).1))) (postC (L st c f).2) ∧ InvM (L st c f).2 ∧ 0 ≤ (L st c f).1 ∧ (L st c f).1 ≤ 1000
theorem CALL.rd {f : FuncId} {p : Nat} {ds : List D} {st st' : Ms} {x : D} {new : Nat} {h : Heap} {K KP : List Nat → AV → Heap → Prop} (hM : MeetsH (Tz g) f (preC st) (cp_rdA p :: ds.map .d) (.ret (.d x)) (postC st'))
    (h0 : lookH h 0 = some boxA) (h1 : lookH h 1 = some (lstA [1, 4])) (h2 : lookH h 2 = some (lstA [2, 3])) (h3 : lookH h 3 = some (lstA [5])) (h4 : lookH h 4 = some (mapA st))
    (hK : ∀ rd, K rd (.d x) ((4, some (mapA st')) :: h)) : CALL (Tz g) f (cp_rdA p :: ds.map .d) new h K KP := by
  have d1 : ∀ (ds : List D), argsM (bodyOf h) (rho [0, 1, 2, 3, 4] new) (ds.map fun _ => true) (ds.map .d) (ds.map .d) := by
    intro ds
    induction ds with
    | nil => trivial
    | cons d r ih => exact ⟨⟨d, rfl, rfl⟩, ih⟩
  have d2 : ∀ (ds : List D), lentL (ds.map fun _ => true) (ds.map AV.d) = [] := by
    intro ds
    induction ds with
    | nil => rfl
    | cons d r ih => simp [lentL, ids, ih]
  have d3 : ∀ (ds : List D), ids.idsL (ds.map AV.d) = [] := by
    intro ds
    induction ds with
    | nil => rfl
    | cons d r ih => simp [ids.idsL, ids, ih]
  refine CALL.gen [0, 1, 2, 3, 4] (false :: ds.map fun _ => true) _ _ _ _ hM rfl ⟨?_, d1 ds⟩ ?_ ?_ ?_ ?_ ?_
  · simp [cp_rdA, AV.ren, AV.ren.renL, rho]
  · simp [preC, preB, bodyOf, h0, h1, h2, h3, h4, boxA, lstA, mapA, Body.ren, AV.ren, AV.ren.renL, rho]
  · simp [cp_rdA, ids.idsL, ids, d3, preC, preIds, boxA, lstA, mapA, Body.ids, lowL]
  · simp [lentL, d2, disjB]
  · simp [preC, postC]
  · have := hK (ids.idsL (cp_rdA p :: ds.map .d) ++ [0, 1, 2, 3, 4])
    simpa [AV.ren, postC, upsP, rho, mapA, ABlk.ren, Body.ren, lentL, d2, kills] using this
theorem step_meets (p c : Nat) {L : Ms → Nat → Int → Int × Ms} (hL : LOK g p L c) (st : Ms) (hI : InvM st) (fig parent : Int) (h0 : 0 ≤ fig) (h1 : fig ≤ 9) :
    MeetsH (Tz g) f_copies_reading_step (preC st) (cp_rdA p :: [int c, int fig, int parent].map .d) (.ret (.d (int (stepP L st c fig parent).1))) (postC (stepP L st c fig parent).2) ∧ InvM (stepP L st c fig parent).2 ∧ 0 ≤ (stepP L st c fig parent).1 ∧ (stepP L st c fig parent).1 ≤ 1000 := by
  obtain ⟨hM, hI', b0, b1⟩ := hL st fig hI h0 h1
  have hs := sum_bnd [(L st c fig).1, 1] (fun x hx => by
    rcases List.mem_cons.1 hx with rfl | hx
    · exact ⟨b0, b1⟩
    · obtain rfl := List.mem_singleton.1 hx; omega)
  rw [stepP_eq]
  refine ⟨?_, hI', by dsimp only; split <;> omega, by dsimp only; split <;> omega⟩
  refine meetsH_copies_reading_step rfl ?_
  unfold vc_copies_reading_step
  simp [numbered, preC, cp_rdA, lookH]
  refine CALL.rd (ds := [cp_keyD c fig]) hM rfl rfl rfl rfl rfl (fun rd => ?_)
  simp
  by_cases hf : fig = parent
  · simp [hf]
    refine ⟨[], ?_⟩
    subst hf
    simp [postC, yv, yv.yvL, yh, yb, yver, bodyOf, fz, fz.fzL, fzH, fzB, stay, src, lookH, NodupB, disjB, preC, boxA, lstA, mapA]
  · simp [hf]
    refine CALL.val [ints [(L st c fig).1, 1]] _ rfl (csum_meets _ (by simp) (fun x hx => by
      rcases List.mem_cons.1 hx with rfl | hx
      · exact ⟨b0, b1⟩
      · obtain rfl := List.mem_singleton.1 hx; omega)) (.inr rfl) ?_
    refine ⟨[], ?_⟩
    simp [hf, postC, yv, yv.yvL, yh, yb, yver, bodyOf, fz, fz.fzL, fzH, fzB, stay, src, lookH, NodupB, disjB, preC, boxA, lstA, mapA]
end Go.Vc

namespace Go.Vc
open Go Go.Proofs
variable {g : GG}
attribute [local simp] and_assoc
def boxR (p : Nat) : ABlk := ⟨0, T_copies_reading, .box [.d (int 2), .d copsA, .own 0 0, .d (int p), .mapv 4]⟩
def hC (p : Nat) (st : Ms) : Heap := [(0, some boxA), (1, some (lstA [1, 4])), (2, some (lstA [2, 3])), (3, some (lstA [5])), (4, some (mapA st)), (24, some (boxR p))]
theorem few_inv (p c : Nat) {L : Ms → Nat → Int → Int × Ms} (hL : LOK g p L c) (st : Ms) (hI : InvM st) (parent : Int) : ∀ i, i ≤ 10 → InvM (fewP L st c parent i).2 ∧ 0 ≤ (fewP L st c parent i).1 ∧ (fewP L st c parent i).1 ≤ 1000
  | 0, _ => ⟨hI, by show (0 : Int) ≤ 1000; omega, by show (1000 : Int) ≤ 1000; omega⟩
  | i + 1, hi => by
    obtain ⟨h1, h2, h3⟩ := few_inv p c hL st hI parent i (by omega)
    obtain ⟨_, k1, k2, k3⟩ := step_meets p c hL (fewP L st c parent i).2 h1 i parent (by omega) (by omega)
    rw [fewP_succ]
    refine ⟨k1, ?_, ?_⟩
    · show 0 ≤ min _ _
      omega
    · show min _ _ ≤ 1000
      omega
theorem few_meets (p c : Nat) {L : Ms → Nat → Int → Int × Ms} (hL : LOK g p L c) (st : Ms) (hI : InvM st) (parent : Int) :
    MeetsH (Tz g) f_copies_reading_fewest (preC st) (cp_rdA p :: [int c, int parent].map .d) (.ret (.d (int (fewP L st c parent 10).1))) (postC (fewP L st c parent 10).2) := by
  refine meetsH_copies_reading_fewest rfl ?_
  unfold vc_copies_reading_fewest
  simp [numbered, preC, cp_rdA]
  refine LOOP.mk Nat (fun i => [.d (int c), .d (int parent), .ptr 24 0 0 0, .d (int (fewP L st c parent i).1), .d (int i)]) (fun i => hC p (fewP L st c parent i).2) (fun i => i ≤ 10) (fun i => 10 - i) [] (by simp) 0 (by omega) (by simp [WEAK, lookH, hC, fewP_zero, boxR]) (fun _ _ => rfl) ?_
  intro i hi
  obtain ⟨h1, b0, b1⟩ := few_inv p c hL st hI parent i hi
  simp [vc_copies_reading_fewest_k0]
  refine ⟨fun hlt => ?_, fun hge => ?_⟩
  · obtain ⟨hM, k1, k2, k3⟩ := step_meets p c hL (fewP L st c parent i).2 h1 i parent (by omega) (by omega)
    have w1 := wrap_id (n := (i : Int) + 1) (by omega) (by omega)
    simp [hC, lookH, boxR]
    refine CALL.rd (ds := [int c, int i, int parent]) hM rfl rfl rfl rfl rfl (fun rd => ?_)
    simp [w1]
    refine ⟨i + 1, by omega, ?_, by omega⟩
    simp [WEAK, lookH, fewP_succ, boxR]
  · have : i = 10 := by omega
    subst this
    refine ⟨[], ?_⟩
    simp [postC, yv, yv.yvL, yh, yb, yver, bodyOf, fz, fz.fzL, fzH, fzB, stay, src, lookH, NodupB, disjB, hC, boxA, lstA, mapA]
def mvA (c : Nat) : AV := [AV.own 1 0, .own 2 0, .zc, .zc, .own 3 0, .zc].getD c .any
def boxS (c : Nat) (f : Int) : ABlk := ⟨0, T_copies_spot, .box [.d (int c), .d (int f)]⟩
abbrev FW (p k : Nat) (f : Int) : Ms → Nat → Int × Ms := fun st c => fewP (leastP p k) st c f 10
theorem kidsP_snoc (F : Ms → Nat → Int × Ms) (c : Nat) : ∀ (l : List Nat) (a : List Int × Ms), kidsP F (l ++ [c]) a = ((kidsP F l a).1 ++ [(F (kidsP F l a).2 c).1], (F (kidsP F l a).2 c).2)
  | [], a => rfl
  | x :: r, a => by simp only [List.cons_append, kidsP_cons]; exact kidsP_snoc F c r _
theorem kids_inv (p k : Nat) (f : Int) {l : List Nat} (hL : ∀ c, c ∈ l → LOK g p (leastP p k) c) : ∀ (a : List Int × Ms), InvM a.2 → (∀ x, x ∈ a.1 → 0 ≤ x ∧ x ≤ 1000) → ∀ i, InvM (kidsP (FW p k f) (l.take i) a).2 ∧ ∀ x, x ∈ (kidsP (FW p k f) (l.take i) a).1 → 0 ≤ x ∧ x ≤ 1000 := by
  induction l with
  | nil => intro a h1 h2 i; simpa [kidsP] using ⟨h1, h2⟩
  | cons c r ih =>
    intro a h1 h2 i
    cases i with
    | zero => exact ⟨h1, h2⟩
    | succ i =>
      obtain ⟨k1, k2, k3⟩ := few_inv p c (hL c List.mem_cons_self) a.2 h1 f 10 (by omega)
      exact ih (fun c hc => hL c (List.mem_cons_of_mem _ hc)) _ k1 (fun x hx => by
        rcases List.mem_append.1 hx with hx | hx
        · exact h2 x hx
        · obtain rfl := List.mem_singleton.1 hx; exact ⟨k2, k3⟩) i
theorem kid_own {c : Nat} (hc : c < 6) (h : kidsA c ≠ []) : ∃ j, mvA c = .own j 0 ∧ (j = 1 ∨ j = 2 ∨ j = 3) ∧ ∀ p st x y, lookH (hC p st ++ [x, y]) j = some (lstA ((kidsA c).map fun n : Nat => (n : Int))) := by
  rcases (by omega : c = 0 ∨ c = 1 ∨ c = 2 ∨ c = 3 ∨ c = 4 ∨ c = 5) with rfl | rfl | rfl | rfl | rfl | rfl
  · exact ⟨1, rfl, .inl rfl, fun p st x y => rfl⟩
  · exact ⟨2, rfl, .inr (.inl rfl), fun p st x y => rfl⟩
  · exact absurd rfl h
  · exact absurd rfl h
  · exact ⟨3, rfl, .inr (.inr rfl), fun p st x y => rfl⟩
  · exact absurd rfl h
def hK (p c : Nat) (f : Int) (id ver : Nat) (q : List Int × Ms) : Heap := hC p q.2 ++ [(32, some (boxS c f)), (id, some ⟨ver, T_int, .lst (q.1.map int)⟩)]
set_option maxHeartbeats 4000000 in
theorem kloop_0 (p k c : Nat) (f : Int) (hc : c < 6) (hL : ∀ c', c' ∈ kidsA c → LOK g p (leastP p k) c') (a : List Int × Ms) (hI : InvM a.2) (ha : ∀ x, x ∈ a.1 → 0 ≤ x ∧ x ≤ 1000) (hal : a.1.length ≤ 1) (st0 : Ms) (v : AV) (h : Heap) (R : Int × Ms)
    (hR : R = (sumP (kidsP (FW p k f) (kidsA c) a).1, putS (kidsP (FW p k f) (kidsA c) a).2 c f (sumP (kidsP (FW p k f) (kidsA c) a).1)))
    (hW : WEAK (promote 328 [] 0 [.ptr 24 0 0 0, .ptr 32 0 0 0, v, mvA c, .d (int (kidsA c).length), .d (int 0)] h).1 (promote 328 [] 0 [.ptr 24 0 0 0, .ptr 32 0 0 0, v, mvA c, .d (int (kidsA c).length), .d (int 0)] h).2 [.ptr 24 0 0 0, .ptr 32 0 0 0, .own 240 0, mvA c, .d (int (kidsA c).length), .d (int 0)] (hK p c f 240 0 a)) :
    LOOP [.ptr 24 0 0 0, .ptr 32 0 0 0, v, mvA c, .d (int (kidsA c).length), .d (int 0)] h 328 fun vs15 h16 next17 =>
      BIN 0 .lss (nth vs15 5) (nth vs15 4) fun v18 => COND v18 (vc_copies_reading_least_k0 (Tz g) (preC st0) (.d (int R.1)) (postC R.2) vs15 h16 next17) (vc_copies_reading_least_k1 (Tz g) (preC st0) (.d (int R.1)) (postC R.2) vs15 h16) := by
  have hkl : (kidsA c).length ≤ 2 := by
    rcases (by omega : c = 0 ∨ c = 1 ∨ c = 2 ∨ c = 3 ∨ c = 4 ∨ c = 5) with rfl | rfl | rfl | rfl | rfl | rfl <;> decide
  have hlow : ∀ i, lowB (328 + 8) [.ptr 24 0 0 0, .ptr 32 0 0 0, .own 240 i, mvA c, .d (int (kidsA c).length), .d (int i)] (hK p c f 240 i (kidsP (FW p k f) ((kidsA c).take i) a)) = true := fun i => by
    rcases (by omega : c = 0 ∨ c = 1 ∨ c = 2 ∨ c = 3 ∨ c = 4 ∨ c = 5) with rfl | rfl | rfl | rfl | rfl | rfl <;> rfl
  have hlen : ∀ i, i ≤ (kidsA c).length → (kidsP (FW p k f) ((kidsA c).take i) a).1.length = a.1.length + i := by
    intro i
    induction i with
    | zero => intro _; simp [kidsP]
    | succ i ih =>
      intro hi
      have hg : (kidsA c)[i]? = some (kidsA c)[i] := List.getElem?_eq_getElem (by omega)
      rw [take_next' hg, kidsP_snoc]
      simp only [List.length_append, ih (by omega), List.length_cons, List.length_nil]
      omega
  refine LOOP.mk Nat (fun i => [.ptr 24 0 0 0, .ptr 32 0 0 0, .own 240 i, mvA c, .d (int (kidsA c).length), .d (int i)]) (fun i => hK p c f 240 i (kidsP (FW p k f) ((kidsA c).take i) a)) (fun i => i ≤ (kidsA c).length) (fun i => (kidsA c).length - i) [] (by simp) 0 (by omega) (by simpa [kidsP] using hW) (fun i _ => hlow i) ?_
  intro i hi
  have hln := hlen i hi
  obtain ⟨hI1, hb1⟩ := kids_inv p k f hL a hI ha i
  simp
  refine ⟨fun hlt => ?_, fun hge => ?_⟩
  · have hg : (kidsA c)[i]? = some (kidsA c)[i] := List.getElem?_eq_getElem hlt
    have hnx : kidsP (FW p k f) ((kidsA c).take (i + 1)) a = ((kidsP (FW p k f) ((kidsA c).take i) a).1 ++ [(FW p k f (kidsP (FW p k f) ((kidsA c).take i) a).2 (kidsA c)[i]).1], (FW p k f (kidsP (FW p k f) ((kidsA c).take i) a).2 (kidsA c)[i]).2) := by
      rw [take_next' hg, kidsP_snoc]
    generalize kidsP (FW p k f) ((kidsA c).take i) a = q at hI1 hb1 hnx hln
    have hM := few_meets p (kidsA c)[i] (hL _ (List.getElem_mem hlt)) q.2 hI1 f
    obtain ⟨j, hj, hj3, hjl⟩ := kid_own hc (fun e => by rw [e] at hlt; simp at hlt)
    have hjb := hjl p q.2 (32, some (boxS c f)) (240, some ⟨i, T_int, .lst (q.1.map int)⟩)
    have hlk : lookH (hK p c f 240 i q) j = some ⟨0, T_int, .lst (((kidsA c).map fun n : Nat => (n : Int)).map int)⟩ := hjb
    have w1 := wrap_id (n := (i : Int) + 1) (by omega) (by omega)
    simp [vc_copies_reading_least_k0, hj, hlk]
    refine ⟨hlt, _, ⟨_, hg, rfl⟩, ?_⟩
    simp [hK, hC, lookH, boxR, boxS]
    refine CALL.rd (ds := [int (kidsA c)[i], int f]) hM rfl rfl rfl rfl rfl (fun rd => ?_)
    simp [lookH, w1]
    refine ⟨by omega, i + 1, by omega, ?_, by omega⟩
    rw [hnx]
    rcases hj3 with rfl | rfl | rfl <;> simp [WEAK, lookH, hK, hC, boxR, boxS, mapA]
  · have : i = (kidsA c).length := by omega
    subst this
    rw [List.take_of_length_le (Nat.le_refl _)] at hI1 hb1 hln ⊢
    generalize kidsP (FW p k f) (kidsA c) a = q at hI1 hb1 hln hR
    have hs := sum_bnd q.1 hb1
    subst hR
    simp [vc_copies_reading_least_k1]
    refine CALL.val [ints q.1] _ (by simp [argsD, argD, toD, hK, hC, lookH, bodyOf, ints]) (csum_meets q.1 (by omega) hb1) (.inr rfl) ?_
    simp [-mput, hK, hC, lookH, boxR, boxS, bodyOf, mapA]
    have hf := mfind_ents c f q.2 0
    have hp := mput_ents c f (sumP q.1) q.2
    unfold cp_keyD at hf hp
    refine ⟨rfl, rfl, _, hf, ?_⟩
    simp only [mput] at hp
    rw [hp]
    refine ⟨[], ?_⟩
    simp [postC, yv, yv.yvL, yh, yb, yver, bodyOf, fz, fz.fzL, fzH, fzB, stay, src, lookH, NodupB, disjB, preC, boxA, lstA, mapA]
set_option maxHeartbeats 4000000 in
theorem kloop_2 (p k c : Nat) (f : Int) (hc : c < 6) (hL : ∀ c', c' ∈ kidsA c → LOK g p (leastP p k) c') (a : List Int × Ms) (hI : InvM a.2) (ha : ∀ x, x ∈ a.1 → 0 ≤ x ∧ x ≤ 1000) (hal : a.1.length ≤ 1) (st0 : Ms) (v : AV) (h : Heap) (R : Int × Ms)
    (hR : R = (sumP (kidsP (FW p k f) (kidsA c) a).1, putS (kidsP (FW p k f) (kidsA c) a).2 c f (sumP (kidsP (FW p k f) (kidsA c) a).1)))
    (hW : WEAK (promote 296 [(2, T_int)] 0 [.ptr 24 0 0 0, .ptr 32 0 0 0, v, mvA c, .d (int (kidsA c).length), .d (int 0)] h).1 (promote 296 [(2, T_int)] 0 [.ptr 24 0 0 0, .ptr 32 0 0 0, v, mvA c, .d (int (kidsA c).length), .d (int 0)] h).2 [.ptr 24 0 0 0, .ptr 32 0 0 0, .own 296 0, mvA c, .d (int (kidsA c).length), .d (int 0)] (hK p c f 296 0 a)) :
    LOOP [.ptr 24 0 0 0, .ptr 32 0 0 0, v, mvA c, .d (int (kidsA c).length), .d (int 0)] h 296 fun vs15 h16 next17 =>
      BIN 0 .lss (nth vs15 5) (nth vs15 4) fun v18 => COND v18 (vc_copies_reading_least_k2 (Tz g) (preC st0) (.d (int R.1)) (postC R.2) vs15 h16 next17) (vc_copies_reading_least_k3 (Tz g) (preC st0) (.d (int R.1)) (postC R.2) vs15 h16) := by
  have hkl : (kidsA c).length ≤ 2 := by
    rcases (by omega : c = 0 ∨ c = 1 ∨ c = 2 ∨ c = 3 ∨ c = 4 ∨ c = 5) with rfl | rfl | rfl | rfl | rfl | rfl <;> decide
  have hlow : ∀ i, lowB (296 + 8) [.ptr 24 0 0 0, .ptr 32 0 0 0, .own 296 i, mvA c, .d (int (kidsA c).length), .d (int i)] (hK p c f 296 i (kidsP (FW p k f) ((kidsA c).take i) a)) = true := fun i => by
    rcases (by omega : c = 0 ∨ c = 1 ∨ c = 2 ∨ c = 3 ∨ c = 4 ∨ c = 5) with rfl | rfl | rfl | rfl | rfl | rfl <;> rfl
  have hlen : ∀ i, i ≤ (kidsA c).length → (kidsP (FW p k f) ((kidsA c).take i) a).1.length = a.1.length + i := by
    intro i
    induction i with
    | zero => intro _; simp [kidsP]
    | succ i ih =>
      intro hi
      have hg : (kidsA c)[i]? = some (kidsA c)[i] := List.getElem?_eq_getElem (by omega)
      rw [take_next' hg, kidsP_snoc]
      simp only [List.length_append, ih (by omega), List.length_cons, List.length_nil]
      omega
  refine LOOP.mk Nat (fun i => [.ptr 24 0 0 0, .ptr 32 0 0 0, .own 296 i, mvA c, .d (int (kidsA c).length), .d (int i)]) (fun i => hK p c f 296 i (kidsP (FW p k f) ((kidsA c).take i) a)) (fun i => i ≤ (kidsA c).length) (fun i => (kidsA c).length - i) [(2, T_int)] (by simp) 0 (by omega) (by simpa [kidsP] using hW) (fun i _ => hlow i) ?_
  intro i hi
  have hln := hlen i hi
  obtain ⟨hI1, hb1⟩ := kids_inv p k f hL a hI ha i
  simp
  refine ⟨fun hlt => ?_, fun hge => ?_⟩
  · have hg : (kidsA c)[i]? = some (kidsA c)[i] := List.getElem?_eq_getElem hlt
    have hnx : kidsP (FW p k f) ((kidsA c).take (i + 1)) a = ((kidsP (FW p k f) ((kidsA c).take i) a).1 ++ [(FW p k f (kidsP (FW p k f) ((kidsA c).take i) a).2 (kidsA c)[i]).1], (FW p k f (kidsP (FW p k f) ((kidsA c).take i) a).2 (kidsA c)[i]).2) := by
      rw [take_next' hg, kidsP_snoc]
    generalize kidsP (FW p k f) ((kidsA c).take i) a = q at hI1 hb1 hnx hln
    have hM := few_meets p (kidsA c)[i] (hL _ (List.getElem_mem hlt)) q.2 hI1 f
    obtain ⟨j, hj, hj3, hjl⟩ := kid_own hc (fun e => by rw [e] at hlt; simp at hlt)
    have hjb := hjl p q.2 (32, some (boxS c f)) (296, some ⟨i, T_int, .lst (q.1.map int)⟩)
    have hlk : lookH (hK p c f 296 i q) j = some ⟨0, T_int, .lst (((kidsA c).map fun n : Nat => (n : Int)).map int)⟩ := hjb
    have w1 := wrap_id (n := (i : Int) + 1) (by omega) (by omega)
    simp [vc_copies_reading_least_k2, hj, hlk]
    refine ⟨hlt, _, ⟨_, hg, rfl⟩, ?_⟩
    simp [hK, hC, lookH, boxR, boxS]
    refine CALL.rd (ds := [int (kidsA c)[i], int f]) hM rfl rfl rfl rfl rfl (fun rd => ?_)
    simp [lookH, w1]
    refine ⟨by omega, i + 1, by omega, ?_, by omega⟩
    rw [hnx]
    rcases hj3 with rfl | rfl | rfl <;> simp [WEAK, lookH, hK, hC, boxR, boxS, mapA]
  · have : i = (kidsA c).length := by omega
    subst this
    rw [List.take_of_length_le (Nat.le_refl _)] at hI1 hb1 hln ⊢
    generalize kidsP (FW p k f) (kidsA c) a = q at hI1 hb1 hln hR
    have hs := sum_bnd q.1 hb1
    subst hR
    simp [vc_copies_reading_least_k3]
    refine CALL.val [ints q.1] _ (by simp [argsD, argD, toD, hK, hC, lookH, bodyOf, ints]) (csum_meets q.1 (by omega) hb1) (.inr rfl) ?_
    simp [-mput, hK, hC, lookH, boxR, boxS, bodyOf, mapA]
    have hf := mfind_ents c f q.2 0
    have hp := mput_ents c f (sumP q.1) q.2
    unfold cp_keyD at hf hp
    refine ⟨rfl, rfl, _, hf, ?_⟩
    simp only [mput] at hp
    rw [hp]
    refine ⟨[], ?_⟩
    simp [postC, yv, yv.yvL, yh, yb, yver, bodyOf, fz, fz.fzL, fzH, fzB, stay, src, lookH, NodupB, disjB, preC, boxA, lstA, mapA]
end Go.Vc
