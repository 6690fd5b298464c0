/- A part of the proof: general laws of a reading of the model by abstract data, or contracts of the functions that the law calls. -/
import Derived.Test.YtkefjhemmdolaaaGreatVc23
import Derived.Test.YtkefjhemmdolaaaGreatVc11
set_option maxRecDepth 100000
namespace Go.Vc
open Go Go.Proofs Go.RowKit
def ann_step_in : Nat → List Nat := fun n => match n with  | _ => []
def vc_step_in (_P : Ctx) (pre : List ABlk) (a0 a1 a2 : AV) (r : AV) (post : List PB) : Prop :=
  let h0 : Heap := numbered 0 pre
  BIN 0 .geq a0 a1 fun v9 =>
  CONDG v9
  (BIN 0 .leq a0 a2 fun v13 =>
  POST v13 h0 pre r post)
  (POST (.d (.bool false)) h0 pre r post)
theorem vc_step_in_eq (g : GG) (pre : List ABlk) (a0 a1 a2 : AV) (r : AV) (post : List PB) : vcFn2 (Tz g) false ann_step_in Tryz.f45 pre [a0, a1, a2] (.ret r) post = vc_step_in (Tz g) pre a0 a1 a2 r post := by kernel_rfl
theorem hf_step_in : Tryz.prog.funcs[f_step_in]? = some Tryz.f45 := by kernel_rfl
theorem ok_step_in : fnVcOK Tryz.prog Tryz.f45 = true := by kernel_rfl
theorem nt_step_in : Nat.ble 3 Tryz.f45.ntmps = true := by kernel_rfl
theorem meetsH_step_in {g : GG} {pre : List ABlk} {a0 a1 a2 : AV} {r : AV} {post : List PB} (hk : Nat.ble pre.length 24 = true) (h : vc_step_in (Tz g) pre a0 a1 a2 r post) : MeetsH (Tz g) f_step_in pre [a0, a1, a2] (.ret r) post :=
  meetsH_of_vc (C := Tz g) ann_step_in hf_step_in ok_step_in nt_step_in hk (pn := false) (Eq.mpr ((vcFn2_eq _ _ _ _ _ _ _ _).trans (vc_step_in_eq g pre a0 a1 a2 r post)) h)
theorem meets_step_in {g : GG} {a0 a1 a2 : D} {r : Res} (h : vc_step_in (Tz g) [] (.d a0) (.d a1) (.d a2) r.val (r.bl.map .upd)) : Meets (Tz g) f_step_in [a0, a1, a2] r := meetsH_step_in rfl h
def ann_step_isRule : Nat → List Nat := fun n => match n with  | _ => []
def vc_step_isRule (_P : Ctx) (pre : List ABlk) (a0 : AV) (r : AV) (post : List PB) : Prop :=
  let h0 : Heap := numbered 0 pre
  BIN 0 .geq a0 (.d (.num .i64 1)) fun v4 =>
  CONDG v4
  (BIN 0 .leq a0 (.d (.num .i64 4)) fun v7 =>
  POST v7 h0 pre r post)
  (POST (.d (.bool false)) h0 pre r post)
theorem vc_step_isRule_eq (g : GG) (pre : List ABlk) (a0 : AV) (r : AV) (post : List PB) : vcFn2 (Tz g) false ann_step_isRule Tryz.f96 pre [a0] (.ret r) post = vc_step_isRule (Tz g) pre a0 r post := by kernel_rfl
theorem hf_step_isRule : Tryz.prog.funcs[f_step_isRule]? = some Tryz.f96 := by kernel_rfl
theorem ok_step_isRule : fnVcOK Tryz.prog Tryz.f96 = true := by kernel_rfl
theorem nt_step_isRule : Nat.ble 1 Tryz.f96.ntmps = true := by kernel_rfl
theorem meetsH_step_isRule {g : GG} {pre : List ABlk} {a0 : AV} {r : AV} {post : List PB} (hk : Nat.ble pre.length 24 = true) (h : vc_step_isRule (Tz g) pre a0 r post) : MeetsH (Tz g) f_step_isRule pre [a0] (.ret r) post :=
  meetsH_of_vc (C := Tz g) ann_step_isRule hf_step_isRule ok_step_isRule nt_step_isRule hk (pn := false) (Eq.mpr ((vcFn2_eq _ _ _ _ _ _ _ _).trans (vc_step_isRule_eq g pre a0 r post)) h)
theorem meets_step_isRule {g : GG} {a0 : D} {r : Res} (h : vc_step_isRule (Tz g) [] (.d a0) r.val (r.bl.map .upd)) : Meets (Tz g) f_step_isRule [a0] r := meetsH_step_isRule rfl h
def ann_step_isTable : Nat → List Nat := fun n => match n with  | _ => []
def vc_step_isTable_k0 (P : Ctx) (pre : List ABlk) (r : AV) (post : List PB) (v0 : AV) (v1 : AV) (h2 : Heap) : Prop :=
  CONDG v0
  (FADDR 0 v1 h2 fun v3 =>
  LOAD false 1 v3 h2 fun v4 =>
  CALL P f_slices_ContainsFunc_l_api_Span_api_Span [v4, (.d (.fn f_step_isTable_1 [] []))] 176 h2 (fun _ v6 h7 =>
  NOT v6 fun v8 =>
  POST v8 h7 pre r post)
  (fun _ _ _ => False))
  (POST (.d (.bool false)) h2 pre r post)
def vc_step_isTable_k1 (P : Ctx) (pre : List ABlk) (r : AV) (post : List PB) (v0 : AV) (v1 : AV) (h2 : Heap) : Prop :=
  CONDG v0
  (FADDR 2 v1 h2 fun v3 =>
  LOAD false 1 v3 h2 fun v4 =>
  CALL P f_step_in [v4, (.d (.num .i64 0)), (.d (.num .i64 100))] 136 h2 (fun _ v6 h7 =>
  vc_step_isTable_k0 P pre r post v6 v1 h7)
  (fun _ _ _ => False))
  (POST (.d (.bool false)) h2 pre r post)
def vc_step_isTable (P : Ctx) (pre : List ABlk) (a0 : AV) (r : AV) (post : List PB) : Prop :=
  let h0 : Heap := numbered 0 pre
  BOX T_api_StepTable a0 24 h0 fun v1 h1 =>
  FADDR 0 v1 h1 fun v3 =>
  LOAD false 1 v3 h1 fun v4 =>
  LEN false v4 h1 fun v5 =>
  CALL P f_step_in [v5, (.d (.num .i64 2)), (.d (.num .i64 13))] 64 h1 (fun _ v6 h2 =>
  CONDG v6
  (FADDR 1 v1 h2 fun v8 =>
  LOAD false 1 v8 h2 fun v9 =>
  CALL P f_step_isRule [v9] 96 h2 (fun _ v10 h4 =>
  vc_step_isTable_k1 P pre r post v10 v1 h4)
  (fun _ _ _ => False))
  (POST (.d (.bool false)) h2 pre r post))
  (fun _ _ _ => False)
theorem vc_step_isTable_eq (g : GG) (pre : List ABlk) (a0 : AV) (r : AV) (post : List PB) : vcFn2 (Tz g) false ann_step_isTable Tryz.f44 pre [a0] (.ret r) post = vc_step_isTable (Tz g) pre a0 r post := by kernel_rfl
theorem hf_step_isTable : Tryz.prog.funcs[f_step_isTable]? = some Tryz.f44 := by kernel_rfl
theorem ok_step_isTable : fnVcOK Tryz.prog Tryz.f44 = true := by kernel_rfl
theorem nt_step_isTable : Nat.ble 1 Tryz.f44.ntmps = true := by kernel_rfl
theorem meetsH_step_isTable {g : GG} {pre : List ABlk} {a0 : AV} {r : AV} {post : List PB} (hk : Nat.ble pre.length 24 = true) (h : vc_step_isTable (Tz g) pre a0 r post) : MeetsH (Tz g) f_step_isTable pre [a0] (.ret r) post :=
  meetsH_of_vc (C := Tz g) ann_step_isTable hf_step_isTable ok_step_isTable nt_step_isTable hk (pn := false) (Eq.mpr ((vcFn2_eq _ _ _ _ _ _ _ _).trans (vc_step_isTable_eq g pre a0 r post)) h)
theorem meets_step_isTable {g : GG} {a0 : D} {r : Res} (h : vc_step_isTable (Tz g) [] (.d a0) r.val (r.bl.map .upd)) : Meets (Tz g) f_step_isTable [a0] r := meetsH_step_isTable rfl h
def ann_step_isTable_1 : Nat → List Nat := fun n => match n with  | _ => []
def vc_step_isTable_1_k0 (_P : Ctx) (pre : List ABlk) (r : AV) (post : List PB) (v0 : AV) (h2 : Heap) (v3 : AV) : Prop :=
  NOT v0 fun v1 =>
  CONDG v1
  (POST (.d (.bool true)) h2 pre r post)
  (FADDR 1 v3 h2 fun v4 =>
  LOAD false 1 v4 h2 fun v5 =>
  FADDR 0 v3 h2 fun v6 =>
  LOAD false 1 v6 h2 fun v7 =>
  BIN 0 .sub v5 v7 fun v8 =>
  BIN 0 .gtr v8 (.d (.num .i64 4)) fun v9 =>
  POST v9 h2 pre r post)
def vc_step_isTable_1_k1 (P : Ctx) (pre : List ABlk) (r : AV) (post : List PB) (v0 : AV) (h2 : Heap) (v3 : AV) : Prop :=
  NOT v0 fun v1 =>
  CONDG v1
  (POST (.d (.bool true)) h2 pre r post)
  (FADDR 1 v3 h2 fun v4 =>
  LOAD false 1 v4 h2 fun v5 =>
  FADDR 0 v3 h2 fun v6 =>
  LOAD false 1 v6 h2 fun v7 =>
  CALL P f_step_in [v5, v7, (.d (.num .i64 9999))] 112 h2 (fun _ v9 h10 =>
  vc_step_isTable_1_k0 P pre r post v9 h10 v3)
  (fun _ _ _ => False))
def vc_step_isTable_1 (P : Ctx) (pre : List ABlk) (a0 : AV) (r : AV) (post : List PB) : Prop :=
  let h0 : Heap := numbered 0 pre
  BOX T_api_Span a0 24 h0 fun v1 h1 =>
  FADDR 0 v1 h1 fun v3 =>
  LOAD false 1 v3 h1 fun v4 =>
  CALL P f_step_in [v4, (.d (.num .i64 (-9999))), (.d (.num .i64 9999))] 56 h1 (fun _ v5 h2 =>
  vc_step_isTable_1_k1 P pre r post v5 h2 v1)
  (fun _ _ _ => False)
theorem vc_step_isTable_1_eq (g : GG) (pre : List ABlk) (a0 : AV) (r : AV) (post : List PB) : vcFn2 (Tz g) false ann_step_isTable_1 Tryz.f97 pre [a0] (.ret r) post = vc_step_isTable_1 (Tz g) pre a0 r post := by kernel_rfl
theorem hf_step_isTable_1 : Tryz.prog.funcs[f_step_isTable_1]? = some Tryz.f97 := by kernel_rfl
theorem ok_step_isTable_1 : fnVcOK Tryz.prog Tryz.f97 = true := by kernel_rfl
theorem nt_step_isTable_1 : Nat.ble 1 Tryz.f97.ntmps = true := by kernel_rfl
theorem meetsH_step_isTable_1 {g : GG} {pre : List ABlk} {a0 : AV} {r : AV} {post : List PB} (hk : Nat.ble pre.length 24 = true) (h : vc_step_isTable_1 (Tz g) pre a0 r post) : MeetsH (Tz g) f_step_isTable_1 pre [a0] (.ret r) post :=
  meetsH_of_vc (C := Tz g) ann_step_isTable_1 hf_step_isTable_1 ok_step_isTable_1 nt_step_isTable_1 hk (pn := false) (Eq.mpr ((vcFn2_eq _ _ _ _ _ _ _ _).trans (vc_step_isTable_1_eq g pre a0 r post)) h)
theorem meets_step_isTable_1 {g : GG} {a0 : D} {r : Res} (h : vc_step_isTable_1 (Tz g) [] (.d a0) r.val (r.bl.map .upd)) : Meets (Tz g) f_step_isTable_1 [a0] r := meetsH_step_isTable_1 rfl h
def ann_step_isKept : Nat → List Nat := fun n => match n with | 2 => [1, 2, 7, 8, 9] | _ => []
def vc_step_isKept_k0 (_P : Ctx) (pre : List ABlk) (r : AV) (post : List PB) (v0 : AV) (h2 : Heap) (vs3 : List AV) (v8 : AV) (next11 : List AV → Heap → Prop) : Prop :=
  NOT v0 fun v1 =>
  CONDG v1
  (POST (.d (.bool false)) h2 pre r post)
  (BIN 0 .gtr (nth vs3 4) (.d (.num .i64 0)) fun v4 =>
  CONDG v4
  (BIN 0 .sub (nth vs3 4) (.d (.num .i64 1)) fun v5 =>
  IADDR 1 T_int (nth vs3 0) v5 h2 fun v6 =>
  LOAD false 1 v6 h2 fun v7 =>
  BIN 0 .leq v8 v7 fun v9 =>
  COND v9
  (POST (.d (.bool false)) h2 pre r post)
  (BIN 0 .add (nth vs3 4) (.d (.num .i64 1)) fun v10 =>
  next11 [(nth vs3 0), (nth vs3 1), (nth vs3 2), (nth vs3 3), v10] h2))
  (BIN 0 .add (nth vs3 4) (.d (.num .i64 1)) fun v10 =>
  next11 [(nth vs3 0), (nth vs3 1), (nth vs3 2), (nth vs3 3), v10] h2))
def vc_step_isKept_k1 (_P : Ctx) (pre : List ABlk) (r : AV) (post : List PB) (vs0 : List AV) (h1 : Heap) (v11 : AV) : Prop :=
  LEN false (nth vs0 0) h1 fun v2 =>
  BIN 0 .sub v2 (.d (.num .i64 1)) fun v3 =>
  IADDR 1 T_int (nth vs0 0) v3 h1 fun v4 =>
  LOAD false 1 v4 h1 fun v5 =>
  FADDR 0 (nth vs0 1) h1 fun v6 =>
  LOAD false 1 v6 h1 fun v7 =>
  LEN false v7 h1 fun v8 =>
  BIN 0 .sub v8 (.d (.num .i64 1)) fun v9 =>
  BIN 0 .eql v5 v9 fun v10 =>
  ORDX [] [0, 1, 3, 7, 15, 31, 63, 127, 255, 511, 1023, 1023, 3071, 7167, 16383, 32767, 1023, 66559, 197631, 459775, 1048575, 2097151, 4194303] [(1, wr h1 h1, (ids (nth vs0 0))), (5, wr h1 h1, (ids (nth vs0 0))), (6, wr h1 h1, (ids v11)), (12, wr h1 h1, (ids (nth vs0 0))), (14, wr h1 h1, (ids (nth vs0 0))), (15, wr h1 h1, (ids v4)), (16, wr h1 h1, (ids (nth vs0 1))), (17, wr h1 h1, (ids v6)), (18, wr h1 h1, (ids v7))] ∧
  POST v10 h1 pre r post
def vc_step_isKept_k2 (_P : Ctx) (pre : List ABlk) (r : AV) (post : List PB) (h0 : Heap) (vs1 : List AV) (v2 : AV) : Prop :=
  ORDX [] [0, 1, 3, 7, 15, 31, 63, 127, 255, 511, 1023, 1023, 3071, 7167, 16383, 32767, 1023, 66559, 197631, 459775, 1048575, 2097151, 4194303] [(1, wr h0 h0, (ids (nth vs1 0))), (5, wr h0 h0, (ids (nth vs1 0))), (6, wr h0 h0, (ids v2))] ∧
  POST (.d (.bool false)) h0 pre r post
def vc_step_isKept_k3 (P : Ctx) (pre : List ABlk) (r : AV) (post : List PB) (vs0 : List AV) (h1 : Heap) (next11 : List AV → Heap → Prop) : Prop :=
  IADDR 1 T_int (nth vs0 2) (nth vs0 4) h1 fun v2 =>
  LOAD false 1 v2 h1 fun v3 =>
  FADDR 0 (nth vs0 1) h1 fun v4 =>
  LOAD false 1 v4 h1 fun v5 =>
  LEN false v5 h1 fun v6 =>
  BIN 0 .sub v6 (.d (.num .i64 1)) fun v7 =>
  CALL P f_step_in [v3, (.d (.num .i64 0)), v7] 160 h1 (fun _ v9 h10 =>
  vc_step_isKept_k0 P pre r post v9 h10 vs0 v3 next11)
  (fun _ _ _ => False)
def vc_step_isKept_k4 (P : Ctx) (pre : List ABlk) (r : AV) (post : List PB) (vs0 : List AV) (h1 : Heap) : Prop :=
  LEN false (nth vs0 0) h1 fun v2 =>
  BIN 0 .geq v2 (.d (.num .i64 2)) fun v3 =>
  CONDG v3
  (IADDR 1 T_int (nth vs0 0) (.d (.num .i64 0)) h1 fun v4 =>
  LOAD false 1 v4 h1 fun v5 =>
  BIN 0 .eql v5 (.d (.num .i64 0)) fun v6 =>
  CONDG v6
  (vc_step_isKept_k1 P pre r post vs0 h1 v4)
  (vc_step_isKept_k2 P pre r post h1 vs0 v4))
  (ORDX [] [0, 1, 3, 7, 15, 31, 63, 127, 255, 511, 1023, 1023, 3071, 7167, 16383, 32767, 1023, 66559, 197631, 459775, 1048575, 2097151, 4194303] [(1, wr h1 h1, (ids (nth vs0 0)))] ∧
  POST (.d (.bool false)) h1 pre r post)
def vc_step_isKept (P : Ctx) (pre : List ABlk) (a0 a1 : AV) (r : AV) (post : List PB) : Prop :=
  let h0 : Heap := numbered 0 pre
  BOX T_api_StepTable a0 24 h0 fun v2 h1 =>
  LEN false a1 h1 fun v8 =>
  LOOP [a1, v2, a1, v8, (.d (.num .i64 0))] h1 64 fun vs2 h3 next2 =>
  BIN 0 .lss (nth vs2 4) (nth vs2 3) fun v10 =>
  COND v10
  (vc_step_isKept_k3 P pre r post vs2 h3 next2)
  (vc_step_isKept_k4 P pre r post vs2 h3)
theorem vc_step_isKept_eq (g : GG) (pre : List ABlk) (a0 a1 : AV) (r : AV) (post : List PB) : vcFn2 (Tz g) false ann_step_isKept Tryz.f47 pre [a0, a1] (.ret r) post = vc_step_isKept (Tz g) pre a0 a1 r post := by kernel_rfl
theorem hf_step_isKept : Tryz.prog.funcs[f_step_isKept]? = some Tryz.f47 := by kernel_rfl
theorem ok_step_isKept : fnVcOK Tryz.prog Tryz.f47 = true := by kernel_rfl
theorem nt_step_isKept : Nat.ble 2 Tryz.f47.ntmps = true := by kernel_rfl
theorem meetsH_step_isKept {g : GG} {pre : List ABlk} {a0 a1 : AV} {r : AV} {post : List PB} (hk : Nat.ble pre.length 24 = true) (h : vc_step_isKept (Tz g) pre a0 a1 r post) : MeetsH (Tz g) f_step_isKept pre [a0, a1] (.ret r) post :=
  meetsH_of_vc (C := Tz g) ann_step_isKept hf_step_isKept ok_step_isKept nt_step_isKept hk (pn := false) (Eq.mpr ((vcFn2_eq _ _ _ _ _ _ _ _).trans (vc_step_isKept_eq g pre a0 a1 r post)) h)
theorem meets_step_isKept {g : GG} {a0 a1 : D} {r : Res} (h : vc_step_isKept (Tz g) [] (.d a0) (.d a1) r.val (r.bl.map .upd)) : Meets (Tz g) f_step_isKept [a0, a1] r := meetsH_step_isKept rfl h
def ann_step_tableOf : Nat → List Nat := fun n => match n with  | _ => []
def vc_step_tableOf (_P : Ctx) (pre : List ABlk) (a0 a1 : AV) (r : AV) (post : List PB) : Prop :=
  let h0 : Heap := numbered 0 pre
  BOX T_api_StepTable a0 24 h0 fun v2 h1 =>
  ALLOC T_step_table [.zc, .d (.num .i64 0), .d (.num .i64 0), .zc, .any] 32 h1 fun v4 h2 =>
  LOAD true 3 v2 h2 fun v5 =>
  MKMAP 56 h2 fun v7 h3 =>
  BUILD [(0, 3), (3, 1), (4, 1)] [.zc, .d (.num .i64 0), .d (.num .i64 0), .zc, .any] [(0, v5), (1, a1), (2, v7)] fun v8 =>
  STORE 5 v4 v8 h3 fun h4 =>
  LOAD true 5 v4 h4 fun r5 =>
  POST r5 h4 pre r post
theorem vc_step_tableOf_eq (g : GG) (pre : List ABlk) (a0 a1 : AV) (r : AV) (post : List PB) : vcFn2 (Tz g) false ann_step_tableOf Tryz.f48 pre [a0, a1] (.ret r) post = vc_step_tableOf (Tz g) pre a0 a1 r post := by kernel_rfl
theorem hf_step_tableOf : Tryz.prog.funcs[f_step_tableOf]? = some Tryz.f48 := by kernel_rfl
theorem ok_step_tableOf : fnVcOK Tryz.prog Tryz.f48 = true := by kernel_rfl
theorem nt_step_tableOf : Nat.ble 2 Tryz.f48.ntmps = true := by kernel_rfl
theorem meetsH_step_tableOf {g : GG} {pre : List ABlk} {a0 a1 : AV} {r : AV} {post : List PB} (hk : Nat.ble pre.length 24 = true) (h : vc_step_tableOf (Tz g) pre a0 a1 r post) : MeetsH (Tz g) f_step_tableOf pre [a0, a1] (.ret r) post :=
  meetsH_of_vc (C := Tz g) ann_step_tableOf hf_step_tableOf ok_step_tableOf nt_step_tableOf hk (pn := false) (Eq.mpr ((vcFn2_eq _ _ _ _ _ _ _ _).trans (vc_step_tableOf_eq g pre a0 a1 r post)) h)
theorem meets_step_tableOf {g : GG} {a0 a1 : D} {r : Res} (h : vc_step_tableOf (Tz g) [] (.d a0) (.d a1) r.val (r.bl.map .upd)) : Meets (Tz g) f_step_tableOf [a0, a1] r := meetsH_step_tableOf rfl h
def ann_step_sum : Nat → List Nat := fun n => match n with | 3 => [3, 6, 7, 8] | _ => []
def vc_step_sum_k0 (_P : Ctx) (pre : List ABlk) (r : AV) (post : List PB) (vs0 : List AV) (h2 : Heap) (next7 : List AV → Heap → Prop) : Prop :=
  BIN 0 .lss (nth vs0 3) (nth vs0 2) fun v1 =>
  COND v1
  (IADDR 1 T_int (nth vs0 1) (nth vs0 3) h2 fun v3 =>
  LOAD false 1 v3 h2 fun v4 =>
  BIN 0 .add (nth vs0 0) v4 fun v5 =>
  BIN 0 .add (nth vs0 3) (.d (.num .i64 1)) fun v6 =>
  next7 [v5, (nth vs0 1), (nth vs0 2), v6] h2)
  (POST (nth vs0 0) h2 pre r post)
def vc_step_sum (P : Ctx) (pre : List ABlk) (a0 : AV) (r : AV) (post : List PB) : Prop :=
  let h0 : Heap := numbered 0 pre
  LEN false a0 h0 fun v7 =>
  LOOP [(.d (.num .i64 0)), a0, v7, (.d (.num .i64 0))] h0 64 fun vs1 h2 next1 =>
  vc_step_sum_k0 P pre r post vs1 h2 next1
theorem vc_step_sum_eq (g : GG) (pre : List ABlk) (a0 : AV) (r : AV) (post : List PB) : vcFn2 (Tz g) false ann_step_sum Tryz.f157 pre [a0] (.ret r) post = vc_step_sum (Tz g) pre a0 r post := by kernel_rfl
theorem hf_step_sum : Tryz.prog.funcs[f_step_sum]? = some Tryz.f157 := by kernel_rfl
theorem ok_step_sum : fnVcOK Tryz.prog Tryz.f157 = true := by kernel_rfl
theorem nt_step_sum : Nat.ble 1 Tryz.f157.ntmps = true := by kernel_rfl
theorem meetsH_step_sum {g : GG} {pre : List ABlk} {a0 : AV} {r : AV} {post : List PB} (hk : Nat.ble pre.length 24 = true) (h : vc_step_sum (Tz g) pre a0 r post) : MeetsH (Tz g) f_step_sum pre [a0] (.ret r) post :=
  meetsH_of_vc (C := Tz g) ann_step_sum hf_step_sum ok_step_sum nt_step_sum hk (pn := false) (Eq.mpr ((vcFn2_eq _ _ _ _ _ _ _ _).trans (vc_step_sum_eq g pre a0 r post)) h)
theorem meets_step_sum {g : GG} {a0 : D} {r : Res} (h : vc_step_sum (Tz g) [] (.d a0) r.val (r.bl.map .upd)) : Meets (Tz g) f_step_sum [a0] r := meetsH_step_sum rfl h
def ann_step_bounds_low : Nat → List Nat := fun n => match n with  | _ => []
def vc_step_bounds_low (_P : Ctx) (pre : List ABlk) (a0 : AV) (r : AV) (post : List PB) : Prop :=
  let h0 : Heap := numbered 0 pre
  BOX T_step_bounds a0 24 h0 fun v1 h1 =>
  FADDR 0 v1 h1 fun v3 =>
  LOAD false 1 v3 h1 fun v4 =>
  POST v4 h1 pre r post
theorem vc_step_bounds_low_eq (g : GG) (pre : List ABlk) (a0 : AV) (r : AV) (post : List PB) : vcFn2 (Tz g) false ann_step_bounds_low Tryz.f158 pre [a0] (.ret r) post = vc_step_bounds_low (Tz g) pre a0 r post := by kernel_rfl
theorem hf_step_bounds_low : Tryz.prog.funcs[f_step_bounds_low]? = some Tryz.f158 := by kernel_rfl
theorem ok_step_bounds_low : fnVcOK Tryz.prog Tryz.f158 = true := by kernel_rfl
theorem nt_step_bounds_low : Nat.ble 1 Tryz.f158.ntmps = true := by kernel_rfl
theorem meetsH_step_bounds_low {g : GG} {pre : List ABlk} {a0 : AV} {r : AV} {post : List PB} (hk : Nat.ble pre.length 24 = true) (h : vc_step_bounds_low (Tz g) pre a0 r post) : MeetsH (Tz g) f_step_bounds_low pre [a0] (.ret r) post :=
  meetsH_of_vc (C := Tz g) ann_step_bounds_low hf_step_bounds_low ok_step_bounds_low nt_step_bounds_low hk (pn := false) (Eq.mpr ((vcFn2_eq _ _ _ _ _ _ _ _).trans (vc_step_bounds_low_eq g pre a0 r post)) h)
theorem meets_step_bounds_low {g : GG} {a0 : D} {r : Res} (h : vc_step_bounds_low (Tz g) [] (.d a0) r.val (r.bl.map .upd)) : Meets (Tz g) f_step_bounds_low [a0] r := meetsH_step_bounds_low rfl h
def ann_step_bounds_high : Nat → List Nat := fun n => match n with  | _ => []
def vc_step_bounds_high (_P : Ctx) (pre : List ABlk) (a0 : AV) (r : AV) (post : List PB) : Prop :=
  let h0 : Heap := numbered 0 pre
  BOX T_step_bounds a0 24 h0 fun v1 h1 =>
  FADDR 1 v1 h1 fun v3 =>
  LOAD false 1 v3 h1 fun v4 =>
  POST v4 h1 pre r post
theorem vc_step_bounds_high_eq (g : GG) (pre : List ABlk) (a0 : AV) (r : AV) (post : List PB) : vcFn2 (Tz g) false ann_step_bounds_high Tryz.f159 pre [a0] (.ret r) post = vc_step_bounds_high (Tz g) pre a0 r post := by kernel_rfl
theorem hf_step_bounds_high : Tryz.prog.funcs[f_step_bounds_high]? = some Tryz.f159 := by kernel_rfl
theorem ok_step_bounds_high : fnVcOK Tryz.prog Tryz.f159 = true := by kernel_rfl
theorem nt_step_bounds_high : Nat.ble 1 Tryz.f159.ntmps = true := by kernel_rfl
theorem meetsH_step_bounds_high {g : GG} {pre : List ABlk} {a0 : AV} {r : AV} {post : List PB} (hk : Nat.ble pre.length 24 = true) (h : vc_step_bounds_high (Tz g) pre a0 r post) : MeetsH (Tz g) f_step_bounds_high pre [a0] (.ret r) post :=
  meetsH_of_vc (C := Tz g) ann_step_bounds_high hf_step_bounds_high ok_step_bounds_high nt_step_bounds_high hk (pn := false) (Eq.mpr ((vcFn2_eq _ _ _ _ _ _ _ _).trans (vc_step_bounds_high_eq g pre a0 r post)) h)
theorem meets_step_bounds_high {g : GG} {a0 : D} {r : Res} (h : vc_step_bounds_high (Tz g) [] (.d a0) r.val (r.bl.map .upd)) : Meets (Tz g) f_step_bounds_high [a0] r := meetsH_step_bounds_high rfl h
def ann_step_keep : Nat → List Nat := fun n => match n with | 4 => [1, 5, 6, 7] | _ => []
def vc_step_keep_k0 (_P : Ctx) (pre : List ABlk) (r : AV) (post : List PB) (vs0 : List AV) (h2 : Heap) (next8 : List AV → Heap → Prop) : Prop :=
  BIN 0 .lss (nth vs0 3) (nth vs0 2) fun v1 =>
  COND v1
  (MKS T_int 1 [(nth vs0 3)] 144 h2 fun v3 h4 =>
  APP T_int 1 (nth vs0 1) v3 152 h4 fun v5 h6 =>
  BIN 0 .add (nth vs0 3) (nth vs0 0) fun v7 =>
  next8 [(nth vs0 0), v5, (nth vs0 2), v7] h6)
  (MKS T_int 1 [(nth vs0 2)] 144 h2 fun v9 h10 =>
  APP T_int 1 (nth vs0 1) v9 152 h10 fun v11 h12 =>
  POST v11 h12 pre r post)
def vc_step_keep (P : Ctx) (pre : List ABlk) (a0 a1 : AV) (r : AV) (post : List PB) : Prop :=
  let h0 : Heap := numbered 0 pre
  BOX T_api_StepTable a0 24 h0 fun v2 h1 =>
  FADDR 0 v2 h1 fun v8 =>
  LOAD false 1 v8 h1 fun v9 =>
  LEN false v9 h1 fun v10 =>
  BIN 0 .sub v10 (.d (.num .i64 1)) fun v11 =>
  LOOP [a1, .zc, v11, (.d (.num .i64 0))] h1 96 fun vs2 h3 next2 =>
  vc_step_keep_k0 P pre r post vs2 h3 next2
theorem vc_step_keep_eq (g : GG) (pre : List ABlk) (a0 a1 : AV) (r : AV) (post : List PB) : vcFn2 (Tz g) false ann_step_keep Tryz.f46 pre [a0, a1] (.ret r) post = vc_step_keep (Tz g) pre a0 a1 r post := by kernel_rfl
theorem hf_step_keep : Tryz.prog.funcs[f_step_keep]? = some Tryz.f46 := by kernel_rfl
theorem ok_step_keep : fnVcOK Tryz.prog Tryz.f46 = true := by kernel_rfl
theorem nt_step_keep : Nat.ble 2 Tryz.f46.ntmps = true := by kernel_rfl
theorem meetsH_step_keep {g : GG} {pre : List ABlk} {a0 a1 : AV} {r : AV} {post : List PB} (hk : Nat.ble pre.length 24 = true) (h : vc_step_keep (Tz g) pre a0 a1 r post) : MeetsH (Tz g) f_step_keep pre [a0, a1] (.ret r) post :=
  meetsH_of_vc (C := Tz g) ann_step_keep hf_step_keep ok_step_keep nt_step_keep hk (pn := false) (Eq.mpr ((vcFn2_eq _ _ _ _ _ _ _ _).trans (vc_step_keep_eq g pre a0 a1 r post)) h)
theorem meets_step_keep {g : GG} {a0 a1 : D} {r : Res} (h : vc_step_keep (Tz g) [] (.d a0) (.d a1) r.val (r.bl.map .upd)) : Meets (Tz g) f_step_keep [a0, a1] r := meetsH_step_keep rfl h
def ann_step_Keep : Nat → List Nat := fun n => match n with  | _ => []
def vc_step_Keep_k0 (P : Ctx) (pre : List ABlk) (r : AV) (post : List PB) (v0 : AV) (h2 : Heap) (v3 : AV) (a8 : AV) : Prop :=
  NOT v0 fun v1 =>
  CONDG v1
  (POST (.tup [.zc, (.d (.num .i64 2))]) h2 pre r post)
  (FADDR 0 v3 h2 fun v4 =>
  LOAD false 1 v4 h2 fun v5 =>
  LEN false v5 h2 fun v6 =>
  BIN 0 .sub v6 (.d (.num .i64 1)) fun v7 =>
  CALL P f_step_in [a8, (.d (.num .i64 1)), v7] 120 h2 (fun _ v10 h11 =>
  NOT v10 fun v12 =>
  COND v12
  (POST (.tup [.zc, (.d (.num .i64 2))]) h11 pre r post)
  (LOAD true 3 v3 h11 fun v13 =>
  CALL P f_step_keep [v13, a8] 160 h11 (fun _ v15 h16 =>
  POST (.tup [v15, (.d (.num .i64 0))]) h16 pre r post)
  (fun _ _ _ => False)))
  (fun _ _ _ => False))
def vc_step_Keep (P : Ctx) (pre : List ABlk) (a0 a1 : AV) (r : AV) (post : List PB) : Prop :=
  let h0 : Heap := numbered 0 pre
  BOX T_api_StepTable a0 24 h0 fun v2 h1 =>
  LOAD true 3 v2 h1 fun v6 =>
  CALL P f_step_isTable [v6] 56 h1 (fun _ v7 h2 =>
  vc_step_Keep_k0 P pre r post v7 h2 v2 a1)
  (fun _ _ _ => False)
theorem vc_step_Keep_eq (g : GG) (pre : List ABlk) (a0 a1 : AV) (r : AV) (post : List PB) : vcFn2 (Tz g) false ann_step_Keep Tryz.f11 pre [a0, a1] (.ret r) post = vc_step_Keep (Tz g) pre a0 a1 r post := by kernel_rfl
theorem hf_step_Keep : Tryz.prog.funcs[f_step_Keep]? = some Tryz.f11 := by kernel_rfl
theorem ok_step_Keep : fnVcOK Tryz.prog Tryz.f11 = true := by kernel_rfl
theorem nt_step_Keep : Nat.ble 2 Tryz.f11.ntmps = true := by kernel_rfl
theorem meetsH_step_Keep {g : GG} {pre : List ABlk} {a0 a1 : AV} {r : AV} {post : List PB} (hk : Nat.ble pre.length 24 = true) (h : vc_step_Keep (Tz g) pre a0 a1 r post) : MeetsH (Tz g) f_step_Keep pre [a0, a1] (.ret r) post :=
  meetsH_of_vc (C := Tz g) ann_step_Keep hf_step_Keep ok_step_Keep nt_step_Keep hk (pn := false) (Eq.mpr ((vcFn2_eq _ _ _ _ _ _ _ _).trans (vc_step_Keep_eq g pre a0 a1 r post)) h)
theorem meets_step_Keep {g : GG} {a0 a1 : D} {r : Res} (h : vc_step_Keep (Tz g) [] (.d a0) (.d a1) r.val (r.bl.map .upd)) : Meets (Tz g) f_step_Keep [a0, a1] r := meetsH_step_Keep rfl h
end Go.Vc

namespace Go.Vc
open Go Go.Proofs Go.RowKit
def ann_ref04_Rule : Nat → List Nat := fun n => match n with  | _ => []
def vc_ref04_Rule (_P : Ctx) (pre : List ABlk) (a0 : AV) (r : AV) (post : List PB) : Prop :=
  let h0 : Heap := numbered 0 pre
  BIN 0 .geq a0 (.d (.num .i64 1)) fun v4 =>
  CONDG v4
  (BIN 0 .leq a0 (.d (.num .i64 4)) fun v7 =>
  POST v7 h0 pre r post)
  (POST (.d (.bool false)) h0 pre r post)
theorem vc_ref04_Rule_eq (g : GG) (pre : List ABlk) (a0 : AV) (r : AV) (post : List PB) : vcFn2 (Tz g) false ann_ref04_Rule Tryz.f43 pre [a0] (.ret r) post = vc_ref04_Rule (Tz g) pre a0 r post := by kernel_rfl
theorem hf_ref04_Rule : Tryz.prog.funcs[f_ref04_Rule]? = some Tryz.f43 := by kernel_rfl
theorem ok_ref04_Rule : fnVcOK Tryz.prog Tryz.f43 = true := by kernel_rfl
theorem nt_ref04_Rule : Nat.ble 1 Tryz.f43.ntmps = true := by kernel_rfl
theorem meetsH_ref04_Rule {g : GG} {pre : List ABlk} {a0 : AV} {r : AV} {post : List PB} (hk : Nat.ble pre.length 24 = true) (h : vc_ref04_Rule (Tz g) pre a0 r post) : MeetsH (Tz g) f_ref04_Rule pre [a0] (.ret r) post :=
  meetsH_of_vc (C := Tz g) ann_ref04_Rule hf_ref04_Rule ok_ref04_Rule nt_ref04_Rule hk (pn := false) (Eq.mpr ((vcFn2_eq _ _ _ _ _ _ _ _).trans (vc_ref04_Rule_eq g pre a0 r post)) h)
theorem meets_ref04_Rule {g : GG} {a0 : D} {r : Res} (h : vc_ref04_Rule (Tz g) [] (.d a0) r.val (r.bl.map .upd)) : Meets (Tz g) f_ref04_Rule [a0] r := meetsH_ref04_Rule rfl h
def ann_ref05_in : Nat → List Nat := fun n => match n with  | _ => []
def vc_ref05_in (_P : Ctx) (pre : List ABlk) (a0 a1 a2 : AV) (r : AV) (post : List PB) : Prop :=
  let h0 : Heap := numbered 0 pre
  BIN 0 .geq a0 a1 fun v9 =>
  CONDG v9
  (BIN 0 .leq a0 a2 fun v13 =>
  POST v13 h0 pre r post)
  (POST (.d (.bool false)) h0 pre r post)
theorem vc_ref05_in_eq (g : GG) (pre : List ABlk) (a0 a1 a2 : AV) (r : AV) (post : List PB) : vcFn2 (Tz g) false ann_ref05_in Tryz.f42 pre [a0, a1, a2] (.ret r) post = vc_ref05_in (Tz g) pre a0 a1 a2 r post := by kernel_rfl
theorem hf_ref05_in : Tryz.prog.funcs[f_ref05_in]? = some Tryz.f42 := by kernel_rfl
theorem ok_ref05_in : fnVcOK Tryz.prog Tryz.f42 = true := by kernel_rfl
theorem nt_ref05_in : Nat.ble 3 Tryz.f42.ntmps = true := by kernel_rfl
theorem meetsH_ref05_in {g : GG} {pre : List ABlk} {a0 a1 a2 : AV} {r : AV} {post : List PB} (hk : Nat.ble pre.length 24 = true) (h : vc_ref05_in (Tz g) pre a0 a1 a2 r post) : MeetsH (Tz g) f_ref05_in pre [a0, a1, a2] (.ret r) post :=
  meetsH_of_vc (C := Tz g) ann_ref05_in hf_ref05_in ok_ref05_in nt_ref05_in hk (pn := false) (Eq.mpr ((vcFn2_eq _ _ _ _ _ _ _ _).trans (vc_ref05_in_eq g pre a0 a1 a2 r post)) h)
theorem meets_ref05_in {g : GG} {a0 a1 a2 : D} {r : Res} (h : vc_ref05_in (Tz g) [] (.d a0) (.d a1) (.d a2) r.val (r.bl.map .upd)) : Meets (Tz g) f_ref05_in [a0, a1, a2] r := meetsH_ref05_in rfl h
def ann_ref05_Value : Nat → List Nat := fun n => match n with  | _ => []
def vc_ref05_Value_k0 (P : Ctx) (pre : List ABlk) (r : AV) (post : List PB) (v0 : AV) (v1 : AV) (h2 : Heap) : Prop :=
  CONDG v0
  (FADDR 1 v1 h2 fun v3 =>
  LOAD false 1 v3 h2 fun v4 =>
  FADDR 0 v1 h2 fun v5 =>
  LOAD false 1 v5 h2 fun v6 =>
  FADDR 0 v1 h2 fun v7 =>
  LOAD false 1 v7 h2 fun v8 =>
  BIN 0 .add v8 (.d (.num .i64 4)) fun v9 =>
  MINK (.d (.num .i64 9999)) v9 fun v10 =>
  CALL P f_ref05_in [v4, v6, v10] 136 h2 (fun _ v12 h13 =>
  POST v12 h13 pre r post)
  (fun _ _ _ => False))
  (POST (.d (.bool false)) h2 pre r post)
def vc_ref05_Value (P : Ctx) (pre : List ABlk) (a0 : AV) (r : AV) (post : List PB) : Prop :=
  let h0 : Heap := numbered 0 pre
  BOX T_api_Span a0 24 h0 fun v1 h1 =>
  FADDR 0 v1 h1 fun v3 =>
  LOAD false 1 v3 h1 fun v4 =>
  CALL P f_ref05_in [v4, (.d (.num .i64 (-9999))), (.d (.num .i64 9999))] 56 h1 (fun _ v5 h2 =>
  vc_ref05_Value_k0 P pre r post v5 v1 h2)
  (fun _ _ _ => False)
theorem vc_ref05_Value_eq (g : GG) (pre : List ABlk) (a0 : AV) (r : AV) (post : List PB) : vcFn2 (Tz g) false ann_ref05_Value Tryz.f41 pre [a0] (.ret r) post = vc_ref05_Value (Tz g) pre a0 r post := by kernel_rfl
theorem hf_ref05_Value : Tryz.prog.funcs[f_ref05_Value]? = some Tryz.f41 := by kernel_rfl
theorem ok_ref05_Value : fnVcOK Tryz.prog Tryz.f41 = true := by kernel_rfl
theorem nt_ref05_Value : Nat.ble 1 Tryz.f41.ntmps = true := by kernel_rfl
theorem meetsH_ref05_Value {g : GG} {pre : List ABlk} {a0 : AV} {r : AV} {post : List PB} (hk : Nat.ble pre.length 24 = true) (h : vc_ref05_Value (Tz g) pre a0 r post) : MeetsH (Tz g) f_ref05_Value pre [a0] (.ret r) post :=
  meetsH_of_vc (C := Tz g) ann_ref05_Value hf_ref05_Value ok_ref05_Value nt_ref05_Value hk (pn := false) (Eq.mpr ((vcFn2_eq _ _ _ _ _ _ _ _).trans (vc_ref05_Value_eq g pre a0 r post)) h)
theorem meets_ref05_Value {g : GG} {a0 : D} {r : Res} (h : vc_ref05_Value (Tz g) [] (.d a0) r.val (r.bl.map .upd)) : Meets (Tz g) f_ref05_Value [a0] r := meetsH_ref05_Value rfl h
def ann_ref05_Table : Nat → List Nat := fun n => match n with | 2 => [1, 3] | _ => []
def vc_ref05_Table_k0 (P : Ctx) (pre : List ABlk) (r : AV) (post : List PB) (v0 : AV) (vs1 : List AV) (h2 : Heap) : Prop :=
  CONDG v0
  (FADDR 1 (nth vs1 0) h2 fun v3 =>
  LOAD false 1 v3 h2 fun v4 =>
  CALL P f_ref04_Rule [v4] 152 h2 (fun _ v6 h7 =>
  CONDG v6
  (FADDR 2 (nth vs1 0) h7 fun v8 =>
  LOAD false 1 v8 h7 fun v9 =>
  CALL P f_ref05_Off [v9] 192 h7 (fun _ v11 h12 =>
  POST v11 h12 pre r post)
  (fun _ _ _ => False))
  (POST (.d (.bool false)) h7 pre r post))
  (fun _ _ _ => False))
  (POST (.d (.bool false)) h2 pre r post)
def vc_ref05_Table_k1 (P : Ctx) (pre : List ABlk) (r : AV) (post : List PB) (vs0 : List AV) (h1 : Heap) (next15 : List AV → Heap → Prop) : Prop :=
  FADDR 0 (nth vs0 0) h1 fun v2 =>
  LOAD false 1 v2 h1 fun v3 =>
  LEN false v3 h1 fun v4 =>
  BIN 0 .lss (nth vs0 1) v4 fun v5 =>
  COND v5
  (FADDR 0 (nth vs0 0) h1 fun v6 =>
  LOAD false 1 v6 h1 fun v7 =>
  IADDR 2 T_api_Span v7 (nth vs0 1) h1 fun v8 =>
  LOAD true 2 v8 h1 fun v9 =>
  CALL P f_ref05_Value [v9] 136 h1 (fun _ v11 h12 =>
  NOT v11 fun v13 =>
  COND v13
  (POST (.d (.bool false)) h12 pre r post)
  (BIN 0 .add (nth vs0 1) (.d (.num .i64 1)) fun v14 =>
  next15 [(nth vs0 0), v14] h12))
  (fun _ _ _ => False))
  (FADDR 0 (nth vs0 0) h1 fun v16 =>
  LOAD false 1 v16 h1 fun v17 =>
  LEN false v17 h1 fun v18 =>
  CALL P f_ref05_in [v18, (.d (.num .i64 2)), (.d (.num .i64 13))] 120 h1 (fun _ v20 h21 =>
  vc_ref05_Table_k0 P pre r post v20 vs0 h21)
  (fun _ _ _ => False))
def vc_ref05_Table (P : Ctx) (pre : List ABlk) (a0 : AV) (r : AV) (post : List PB) : Prop :=
  let h0 : Heap := numbered 0 pre
  BOX T_api_StepTable a0 24 h0 fun v1 h1 =>
  LOOP [v1, (.d (.num .i64 0))] h1 48 fun vs2 h3 next2 =>
  vc_ref05_Table_k1 P pre r post vs2 h3 next2
theorem vc_ref05_Table_eq (g : GG) (pre : List ABlk) (a0 : AV) (r : AV) (post : List PB) : vcFn2 (Tz g) false ann_ref05_Table Tryz.f10 pre [a0] (.ret r) post = vc_ref05_Table (Tz g) pre a0 r post := by kernel_rfl
theorem hf_ref05_Table : Tryz.prog.funcs[f_ref05_Table]? = some Tryz.f10 := by kernel_rfl
theorem ok_ref05_Table : fnVcOK Tryz.prog Tryz.f10 = true := by kernel_rfl
theorem nt_ref05_Table : Nat.ble 1 Tryz.f10.ntmps = true := by kernel_rfl
theorem meetsH_ref05_Table {g : GG} {pre : List ABlk} {a0 : AV} {r : AV} {post : List PB} (hk : Nat.ble pre.length 24 = true) (h : vc_ref05_Table (Tz g) pre a0 r post) : MeetsH (Tz g) f_ref05_Table pre [a0] (.ret r) post :=
  meetsH_of_vc (C := Tz g) ann_ref05_Table hf_ref05_Table ok_ref05_Table nt_ref05_Table hk (pn := false) (Eq.mpr ((vcFn2_eq _ _ _ _ _ _ _ _).trans (vc_ref05_Table_eq g pre a0 r post)) h)
theorem meets_ref05_Table {g : GG} {a0 : D} {r : Res} (h : vc_ref05_Table (Tz g) [] (.d a0) r.val (r.bl.map .upd)) : Meets (Tz g) f_ref05_Table [a0] r := meetsH_ref05_Table rfl h
def ann_ref05_Off : Nat → List Nat := fun n => match n with  | _ => []
def vc_ref05_Off (P : Ctx) (pre : List ABlk) (a0 : AV) (r : AV) (post : List PB) : Prop :=
  let h0 : Heap := numbered 0 pre
  CALL P f_ref05_in [a0, (.d (.num .i64 0)), (.d (.num .i64 100))] 40 h0 (fun _ v4 h1 =>
  POST v4 h1 pre r post)
  (fun _ _ _ => False)
theorem vc_ref05_Off_eq (g : GG) (pre : List ABlk) (a0 : AV) (r : AV) (post : List PB) : vcFn2 (Tz g) false ann_ref05_Off Tryz.f21 pre [a0] (.ret r) post = vc_ref05_Off (Tz g) pre a0 r post := by kernel_rfl
theorem hf_ref05_Off : Tryz.prog.funcs[f_ref05_Off]? = some Tryz.f21 := by kernel_rfl
theorem ok_ref05_Off : fnVcOK Tryz.prog Tryz.f21 = true := by kernel_rfl
theorem nt_ref05_Off : Nat.ble 1 Tryz.f21.ntmps = true := by kernel_rfl
theorem meetsH_ref05_Off {g : GG} {pre : List ABlk} {a0 : AV} {r : AV} {post : List PB} (hk : Nat.ble pre.length 24 = true) (h : vc_ref05_Off (Tz g) pre a0 r post) : MeetsH (Tz g) f_ref05_Off pre [a0] (.ret r) post :=
  meetsH_of_vc (C := Tz g) ann_ref05_Off hf_ref05_Off ok_ref05_Off nt_ref05_Off hk (pn := false) (Eq.mpr ((vcFn2_eq _ _ _ _ _ _ _ _).trans (vc_ref05_Off_eq g pre a0 r post)) h)
theorem meets_ref05_Off {g : GG} {a0 : D} {r : Res} (h : vc_ref05_Off (Tz g) [] (.d a0) r.val (r.bl.map .upd)) : Meets (Tz g) f_ref05_Off [a0] r := meetsH_ref05_Off rfl h
def ann_ref05_Kept : Nat → List Nat := fun n => match n with | 4 => [1, 5] | _ => []
def vc_ref05_Kept_k0 (_P : Ctx) (pre : List ABlk) (r : AV) (post : List PB) (vs0 : List AV) (h1 : Heap) (next11 : List AV → Heap → Prop) : Prop :=
  LEN false (nth vs0 0) h1 fun v2 =>
  BIN 0 .lss (nth vs0 1) v2 fun v3 =>
  COND v3
  (IADDR 1 T_int (nth vs0 0) (nth vs0 1) h1 fun v4 =>
  LOAD false 1 v4 h1 fun v5 =>
  BIN 0 .sub (nth vs0 1) (.d (.num .i64 1)) fun v6 =>
  IADDR 1 T_int (nth vs0 0) v6 h1 fun v7 =>
  LOAD false 1 v7 h1 fun v8 =>
  BIN 0 .leq v5 v8 fun v9 =>
  ORDX [] [0, 0, 3, 7, 0, 0, 32, 112, 240, 511] [(2, wr h1 h1, (ids (nth vs0 0))), (3, wr h1 h1, (ids v4)), (7, wr h1 h1, (ids (nth vs0 0))), (8, wr h1 h1, (ids v7))] ∧
  COND v9
  (POST (.d (.bool false)) h1 pre r post)
  (BIN 0 .add (nth vs0 1) (.d (.num .i64 1)) fun v10 =>
  next11 [(nth vs0 0), v10] h1))
  (POST (.d (.bool true)) h1 pre r post)
def vc_ref05_Kept (P : Ctx) (pre : List ABlk) (a0 a1 : AV) (r : AV) (post : List PB) : Prop :=
  let h0 : Heap := numbered 0 pre
  BOX T_api_StepTable a0 24 h0 fun v2 h1 =>
  LEN false a1 h1 fun v7 =>
  BIN 0 .lss v7 (.d (.num .i64 2)) fun v8 =>
  CONDG v8
  (ORDX [] [0, 1, 3, 7, 15, 31, 63, 127, 255, 511, 1023, 1023, 3071, 7167, 16383, 32767, 1023, 66559, 197631, 459775, 1048575, 2097151] [(1, wr h1 h1, (ids a1))] ∧
  POST (.d (.bool false)) h1 pre r post)
  (IADDR 1 T_int a1 (.d (.num .i64 0)) h1 fun v11 =>
  LOAD false 1 v11 h1 fun v12 =>
  BIN 0 .neq v12 (.d (.num .i64 0)) fun v13 =>
  CONDG v13
  (ORDX [] [0, 1, 3, 7, 15, 31, 63, 127, 255, 511, 1023, 1023, 3071, 7167, 16383, 32767, 1023, 66559, 197631, 459775, 1048575, 2097151] [(1, wr h1 h1, (ids a1)), (5, wr h1 h1, (ids a1)), (6, wr h1 h1, (ids v11))] ∧
  POST (.d (.bool false)) h1 pre r post)
  (LEN false a1 h1 fun v18 =>
  BIN 0 .sub v18 (.d (.num .i64 1)) fun v19 =>
  IADDR 1 T_int a1 v19 h1 fun v20 =>
  LOAD false 1 v20 h1 fun v21 =>
  FADDR 0 v2 h1 fun v22 =>
  LOAD false 1 v22 h1 fun v23 =>
  LEN false v23 h1 fun v24 =>
  BIN 0 .sub v24 (.d (.num .i64 1)) fun v25 =>
  BIN 0 .neq v21 v25 fun v26 =>
  ORDX [] [0, 1, 3, 7, 15, 31, 63, 127, 255, 511, 1023, 1023, 3071, 7167, 16383, 32767, 1023, 66559, 197631, 459775, 1048575, 2097151] [(1, wr h1 h1, (ids a1)), (5, wr h1 h1, (ids a1)), (6, wr h1 h1, (ids v11)), (12, wr h1 h1, (ids a1)), (14, wr h1 h1, (ids a1)), (15, wr h1 h1, (ids v20)), (16, wr h1 h1, (ids v2)), (17, wr h1 h1, (ids v22)), (18, wr h1 h1, (ids v23))] ∧
  COND v26
  (POST (.d (.bool false)) h1 pre r post)
  (LOOP [a1, (.d (.num .i64 1))] h1 224 fun vs2 h3 next2 =>
  vc_ref05_Kept_k0 P pre r post vs2 h3 next2)))
theorem vc_ref05_Kept_eq (g : GG) (pre : List ABlk) (a0 a1 : AV) (r : AV) (post : List PB) : vcFn2 (Tz g) false ann_ref05_Kept Tryz.f12 pre [a0, a1] (.ret r) post = vc_ref05_Kept (Tz g) pre a0 a1 r post := by kernel_rfl
theorem hf_ref05_Kept : Tryz.prog.funcs[f_ref05_Kept]? = some Tryz.f12 := by kernel_rfl
theorem ok_ref05_Kept : fnVcOK Tryz.prog Tryz.f12 = true := by kernel_rfl
theorem nt_ref05_Kept : Nat.ble 2 Tryz.f12.ntmps = true := by kernel_rfl
theorem meetsH_ref05_Kept {g : GG} {pre : List ABlk} {a0 a1 : AV} {r : AV} {post : List PB} (hk : Nat.ble pre.length 24 = true) (h : vc_ref05_Kept (Tz g) pre a0 a1 r post) : MeetsH (Tz g) f_ref05_Kept pre [a0, a1] (.ret r) post :=
  meetsH_of_vc (C := Tz g) ann_ref05_Kept hf_ref05_Kept ok_ref05_Kept nt_ref05_Kept hk (pn := false) (Eq.mpr ((vcFn2_eq _ _ _ _ _ _ _ _).trans (vc_ref05_Kept_eq g pre a0 a1 r post)) h)
theorem meets_ref05_Kept {g : GG} {a0 a1 : D} {r : Res} (h : vc_ref05_Kept (Tz g) [] (.d a0) (.d a1) r.val (r.bl.map .upd)) : Meets (Tz g) f_ref05_Kept [a0, a1] r := meetsH_ref05_Kept rfl h
def ann_top_of11 : Nat → List Nat := fun n => match n with | 3 => [0, 6, 7, 8] | _ => []
def vc_top_of11_k0 (_P : Ctx) (pre : List ABlk) (r : AV) (post : List PB) (vs0 : List AV) (h1 : Heap) (next18 : List AV → Heap → Prop) : Prop :=
  LEN false (nth vs0 0) h1 fun v2 =>
  BIN 0 .lss (nth vs0 3) v2 fun v3 =>
  COND v3
  (FADDR 0 (nth vs0 2) h1 fun v4 =>
  LOAD false 1 v4 h1 fun v5 =>
  IADDR 1 T_int (nth vs0 0) (nth vs0 3) h1 fun v6 =>
  LOAD false 1 v6 h1 fun v7 =>
  IADDR 1 T_int (nth vs0 0) (nth vs0 3) h1 fun v8 =>
  LOAD false 1 v8 h1 fun v9 =>
  BUILD [(0, 1), (1, 1)] [.d (.num .i64 0), .d (.num .i64 0)] [(0, v7), (1, v9)] fun v10 =>
  MKS T_api_Span 2 [v10] 208 h1 fun v11 h12 =>
  APP T_api_Span 2 v5 v11 216 h12 fun v13 h14 =>
  FADDR 0 (nth vs0 2) h14 fun v15 =>
  STORE 1 v15 v13 h14 fun h16 =>
  ORDX [] [0, 1, 0, 0, 12, 28, 0, 0, 192, 448, 1020, 2044, 4095, 8191, 16383] [(0, wr h1 h1, (ids (nth vs0 2))), (1, wr h1 h1, (ids v4)), (4, wr h1 h1, (ids (nth vs0 0))), (5, wr h1 h1, (ids v6)), (8, wr h1 h1, (ids (nth vs0 0))), (9, wr h1 h1, (ids v8)), (11, wr h1 h12, (ids.idsL [v10])), (12, wr h12 h14, (ids.idsL [v5, v11])), (13, wr h14 h14, (ids (nth vs0 2))), (14, wr h14 h16, (ids v15))] ∧
  BIN 0 .add (nth vs0 3) (.d (.num .i64 1)) fun v17 =>
  next18 [(nth vs0 0), (nth vs0 1), (nth vs0 2), v17] h16)
  (LOAD true 3 (nth vs0 2) h1 fun v19 =>
  STORE 3 (nth vs0 1) v19 h1 fun h20 =>
  LOAD true 3 (nth vs0 1) h20 fun r10 =>
  POST r10 h20 pre r post)
def vc_top_of11 (P : Ctx) (pre : List ABlk) (a0 a1 a2 : AV) (r : AV) (post : List PB) : Prop :=
  let h0 : Heap := numbered 0 pre
  ALLOC T_api_StepTable [.zc, .d (.num .i64 0), .d (.num .i64 0)] 24 h0 fun v6 h1 =>
  BUILD [(0, 1), (1, 1), (2, 1)] [.zc, .d (.num .i64 0), .d (.num .i64 0)] [(1, a1), (2, a2)] fun v11 =>
  ALLOC T_api_StepTable [.zc, .d (.num .i64 0), .d (.num .i64 0)] 56 h1 fun v7 h2 =>
  STORE 3 v7 v11 h2 fun h3 =>
  LOOP [a0, v6, v7, (.d (.num .i64 0))] h3 80 fun vs4 h5 next4 =>
  vc_top_of11_k0 P pre r post vs4 h5 next4
theorem vc_top_of11_eq (g : GG) (pre : List ABlk) (a0 a1 a2 : AV) (r : AV) (post : List PB) : vcFn2 (Tz g) false ann_top_of11 Tryz.f9 pre [a0, a1, a2] (.ret r) post = vc_top_of11 (Tz g) pre a0 a1 a2 r post := by kernel_rfl
theorem hf_top_of11 : Tryz.prog.funcs[f_top_of11]? = some Tryz.f9 := by kernel_rfl
theorem ok_top_of11 : fnVcOK Tryz.prog Tryz.f9 = true := by kernel_rfl
theorem nt_top_of11 : Nat.ble 3 Tryz.f9.ntmps = true := by kernel_rfl
theorem meetsH_top_of11 {g : GG} {pre : List ABlk} {a0 a1 a2 : AV} {r : AV} {post : List PB} (hk : Nat.ble pre.length 24 = true) (h : vc_top_of11 (Tz g) pre a0 a1 a2 r post) : MeetsH (Tz g) f_top_of11 pre [a0, a1, a2] (.ret r) post :=
  meetsH_of_vc (C := Tz g) ann_top_of11 hf_top_of11 ok_top_of11 nt_top_of11 hk (pn := false) (Eq.mpr ((vcFn2_eq _ _ _ _ _ _ _ _).trans (vc_top_of11_eq g pre a0 a1 a2 r post)) h)
theorem meets_top_of11 {g : GG} {a0 a1 a2 : D} {r : Res} (h : vc_top_of11 (Tz g) [] (.d a0) (.d a1) (.d a2) r.val (r.bl.map .upd)) : Meets (Tz g) f_top_of11 [a0, a1, a2] r := meetsH_top_of11 rfl h
end Go.Vc
