/- A part of the proof: general laws of a reading of the model by abstract data, or contracts of the functions that the law calls. -/
import Derived.Test.YtflbianfhogdjaaGreatDoorVc22
import Derived.Test.YtflbianfhogdjaaGreatDoorVc11
import Derived.Test.YtflbianfhogdjaaGreatDoorVc41
set_option maxRecDepth 100000
namespace Go.Vc
open Go Go.Proofs Go.RowKit
def ann_differ_areSeen : Nat → List Nat := fun n => match n with  | _ => []
def vc_differ_areSeen (P : Ctx) (pre : List ABlk) (a0 a1 : AV) (r : AV) (post : List PB) : Prop :=
  let h0 : Heap := numbered 0 pre
  BOX T_api_DifferPlan a0 24 h0 fun v2 h1 =>
  LEN false a1 h1 fun v6 =>
  BIN 0 .leq v6 (.d (.num .i64 6)) fun v7 =>
  CONDG v7
  (CALL P f_slices_ContainsFunc_l_api_DifferSeen_api_DifferSeen [a1, (.fn f_differ_areSeen_1 [] [v2])] 88 h1 (fun _ v11 h2 =>
  NOT v11 fun v12 =>
  POST v12 h2 pre r post)
  (fun _ _ _ => False))
  (POST (.d (.bool false)) h1 pre r post)
theorem vc_differ_areSeen_eq (g : GG) (pre : List ABlk) (a0 a1 : AV) (r : AV) (post : List PB) : vcFn2 (Tz g) false ann_differ_areSeen Tryz.f64 pre [a0, a1] (.ret r) post = vc_differ_areSeen (Tz g) pre a0 a1 r post := by kernel_rfl
theorem hf_differ_areSeen : Tryz.prog.funcs[f_differ_areSeen]? = some Tryz.f64 := by kernel_rfl
theorem ok_differ_areSeen : fnVcOK Tryz.prog Tryz.f64 = true := by kernel_rfl
theorem nt_differ_areSeen : Nat.ble 2 Tryz.f64.ntmps = true := by kernel_rfl
theorem meetsH_differ_areSeen {g : GG} {pre : List ABlk} {a0 a1 : AV} {r : AV} {post : List PB} (hk : Nat.ble pre.length 24 = true) (h : vc_differ_areSeen (Tz g) pre a0 a1 r post) : MeetsH (Tz g) f_differ_areSeen pre [a0, a1] (.ret r) post :=
  meetsH_of_vc (C := Tz g) ann_differ_areSeen hf_differ_areSeen ok_differ_areSeen nt_differ_areSeen hk (pn := false) (Eq.mpr ((vcFn2_eq _ _ _ _ _ _ _ _).trans (vc_differ_areSeen_eq g pre a0 a1 r post)) h)
theorem meets_differ_areSeen {g : GG} {a0 a1 : D} {r : Res} (h : vc_differ_areSeen (Tz g) [] (.d a0) (.d a1) r.val (r.bl.map .upd)) : Meets (Tz g) f_differ_areSeen [a0, a1] r := meetsH_differ_areSeen rfl h
def ann_differ_areSeen_1 : Nat → List Nat := fun n => match n with  | _ => []
def vc_differ_areSeen_1_k0 (P : Ctx) (pre : List ABlk) (r : AV) (post : List PB) (v0 : AV) (h2 : Heap) (v3 : AV) : Prop :=
  NOT v0 fun v1 =>
  CONDG v1
  (POST (.d (.bool true)) h2 pre r post)
  (FADDR 1 v3 h2 fun v4 =>
  LOAD false 1 v4 h2 fun v5 =>
  CALL P f_differ_in [v5, (.d (.num .i64 (-1000000000))), (.d (.num .i64 1000000000))] 104 h2 (fun _ v7 h8 =>
  NOT v7 fun v9 =>
  POST v9 h8 pre r post)
  (fun _ _ _ => False))
def vc_differ_areSeen_1 (P : Ctx) (pre : List ABlk) (a0 a1 : AV) (r : AV) (post : List PB) : Prop :=
  let h0 : Heap := numbered 0 pre
  BOX T_api_DifferSeen a0 24 h0 fun v2 h1 =>
  LOAD true 3 a1 h1 fun v4 =>
  FADDR 0 v2 h1 fun v5 =>
  LOAD false 1 v5 h1 fun v6 =>
  CALL P f_differ_hasRow [v4, v6] 64 h1 (fun _ v7 h2 =>
  vc_differ_areSeen_1_k0 P pre r post v7 h2 v2)
  (fun _ _ _ => False)
theorem vc_differ_areSeen_1_eq (g : GG) (pre : List ABlk) (a0 a1 : AV) (r : AV) (post : List PB) : vcFn2 (Tz g) false ann_differ_areSeen_1 Tryz.f102 pre [a0, a1] (.ret r) post = vc_differ_areSeen_1 (Tz g) pre a0 a1 r post := by kernel_rfl
theorem hf_differ_areSeen_1 : Tryz.prog.funcs[f_differ_areSeen_1]? = some Tryz.f102 := by kernel_rfl
theorem ok_differ_areSeen_1 : fnVcOK Tryz.prog Tryz.f102 = true := by kernel_rfl
theorem nt_differ_areSeen_1 : Nat.ble 2 Tryz.f102.ntmps = true := by kernel_rfl
theorem meetsH_differ_areSeen_1 {g : GG} {pre : List ABlk} {a0 a1 : AV} {r : AV} {post : List PB} (hk : Nat.ble pre.length 24 = true) (h : vc_differ_areSeen_1 (Tz g) pre a0 a1 r post) : MeetsH (Tz g) f_differ_areSeen_1 pre [a0, a1] (.ret r) post :=
  meetsH_of_vc (C := Tz g) ann_differ_areSeen_1 hf_differ_areSeen_1 ok_differ_areSeen_1 nt_differ_areSeen_1 hk (pn := false) (Eq.mpr ((vcFn2_eq _ _ _ _ _ _ _ _).trans (vc_differ_areSeen_1_eq g pre a0 a1 r post)) h)
theorem meets_differ_areSeen_1 {g : GG} {a0 a1 : D} {r : Res} (h : vc_differ_areSeen_1 (Tz g) [] (.d a0) (.d a1) r.val (r.bl.map .upd)) : Meets (Tz g) f_differ_areSeen_1 [a0, a1] r := meetsH_differ_areSeen_1 rfl h
def ann_differ_Agree : Nat → List Nat := fun n => match n with  | _ => []
def vc_differ_Agree_k0 (P : Ctx) (pre : List ABlk) (r : AV) (post : List PB) (v0 : AV) (h2 : Heap) (v3 : AV) (a5 : AV) : Prop :=
  NOT v0 fun v1 =>
  COND v1
  (POST (.tup [(.d (.num .i64 0)), (.d (.num .i64 2))]) h2 pre r post)
  (LOAD true 3 v3 h2 fun v4 =>
  CALL P f_differ_agreeing [v4, a5] 136 h2 (fun _ v7 h8 =>
  LEN false v7 h8 fun v9 =>
  POST (.tup [v9, (.d (.num .i64 0))]) h8 pre r post)
  (fun _ _ _ => False))
def vc_differ_Agree_k1 (P : Ctx) (pre : List ABlk) (r : AV) (post : List PB) (v0 : AV) (h2 : Heap) (v3 : AV) (a5 : AV) : Prop :=
  NOT v0 fun v1 =>
  CONDG v1
  (POST (.tup [(.d (.num .i64 0)), (.d (.num .i64 2))]) h2 pre r post)
  (LOAD true 3 v3 h2 fun v4 =>
  CALL P f_differ_areSeen [v4, a5] 96 h2 (fun _ v7 h8 =>
  vc_differ_Agree_k0 P pre r post v7 h8 v3 a5)
  (fun _ _ _ => False))
def vc_differ_Agree (P : Ctx) (pre : List ABlk) (a0 a1 : AV) (r : AV) (post : List PB) : Prop :=
  let h0 : Heap := numbered 0 pre
  BOX T_api_DifferPlan a0 24 h0 fun v2 h1 =>
  LOAD true 3 v2 h1 fun v6 =>
  CALL P f_differ_isPlan [v6] 56 h1 (fun _ v7 h2 =>
  vc_differ_Agree_k1 P pre r post v7 h2 v2 a1)
  (fun _ _ _ => False)
theorem vc_differ_Agree_eq (g : GG) (pre : List ABlk) (a0 a1 : AV) (r : AV) (post : List PB) : vcFn2 (Tz g) false ann_differ_Agree Tryz.f20 pre [a0, a1] (.ret r) post = vc_differ_Agree (Tz g) pre a0 a1 r post := by kernel_rfl
theorem hf_differ_Agree : Tryz.prog.funcs[f_differ_Agree]? = some Tryz.f20 := by kernel_rfl
theorem ok_differ_Agree : fnVcOK Tryz.prog Tryz.f20 = true := by kernel_rfl
theorem nt_differ_Agree : Nat.ble 2 Tryz.f20.ntmps = true := by kernel_rfl
theorem meetsH_differ_Agree {g : GG} {pre : List ABlk} {a0 a1 : AV} {r : AV} {post : List PB} (hk : Nat.ble pre.length 24 = true) (h : vc_differ_Agree (Tz g) pre a0 a1 r post) : MeetsH (Tz g) f_differ_Agree pre [a0, a1] (.ret r) post :=
  meetsH_of_vc (C := Tz g) ann_differ_Agree hf_differ_Agree ok_differ_Agree nt_differ_Agree hk (pn := false) (Eq.mpr ((vcFn2_eq _ _ _ _ _ _ _ _).trans (vc_differ_Agree_eq g pre a0 a1 r post)) h)
theorem meets_differ_Agree {g : GG} {a0 a1 : D} {r : Res} (h : vc_differ_Agree (Tz g) [] (.d a0) (.d a1) r.val (r.bl.map .upd)) : Meets (Tz g) f_differ_Agree [a0, a1] r := meetsH_differ_Agree rfl h
def ann_differ_Next : Nat → List Nat := fun n => match n with | 9 => [8, 9, 35, 36, 37] | 12 => [8, 9, 35, 36, 37, 42, 43, 44] | _ => []
def vc_differ_Next_k0 (P : Ctx) (pre : List ABlk) (r : AV) (post : List PB) (vs0 : List AV) (h2 : Heap) (next26 : List AV → Heap → Prop) (next28 : List AV → Heap → Prop) : Prop :=
  BIN 0 .lss (nth vs0 7) (nth vs0 6) fun v1 =>
  COND v1
  (IADDR 1 T_int (nth vs0 5) (nth vs0 7) h2 fun v3 =>
  LOAD false 1 v3 h2 fun v4 =>
  BUILD [(0, 1), (1, 1)] [.d (.num .i64 0), .d (.num .i64 0)] [(0, (nth vs0 7)), (1, v4)] fun v5 =>
  ALLOC T_api_DifferSeen [.d (.num .i64 0), .d (.num .i64 0)] 416 h2 fun v6 h7 =>
  STORE 2 v6 v5 h7 fun h8 =>
  LOAD true 2 v6 h8 fun v9 =>
  LOOKUP 1002 (.num .i64 0) false (nth vs0 0) v9 h8 fun v10 =>
  BIN 0 .add v10 (.d (.num .i64 1)) fun v11 =>
  MENTRY 1002 (.num .i64 0) (nth vs0 0) v9 h8 fun v12 h13 =>
  EXT v12 1 fun v14 =>
  MSTORE (nth vs0 0) v14 v11 h13 fun h15 =>
  ORDX [(2, 4)] [0, 0, 3, 7, 3, 19, 63] [(1, wr h8 h8, (ids v6)), (2, wr h8 h8, (ids (nth vs0 0))), (4, wr h8 h13, (ids (nth vs0 0))), (6, wr h13 h15, (ids (nth vs0 0)))] ∧
  IADDR 2 T_differ_asked (nth vs0 1) (nth vs0 7) h15 fun v16 =>
  FADDR 1 v16 h15 fun v17 =>
  LOAD false 1 v17 h15 fun v18 =>
  LOAD true 2 v6 h15 fun v19 =>
  LOOKUP 1002 (.num .i64 0) false (nth vs0 0) v19 h15 fun v20 =>
  MAXK v18 v20 fun v21 =>
  BUILD [(0, 1), (1, 1)] [.d (.num .i64 0), .d (.num .i64 0)] [(0, (nth vs0 7)), (1, v21)] fun v22 =>
  IADDR 2 T_differ_asked (nth vs0 1) (nth vs0 7) h15 fun v23 =>
  STORE 2 v23 v22 h15 fun h24 =>
  ORDX [] [0, 0, 0, 0, 0, 24, 56, 120, 0, 0, 768, 2040, 4092, 8191, 16383] [(5, wr h15 h15, (ids (nth vs0 1))), (6, wr h15 h15, (ids v16)), (7, wr h15 h15, (ids v17)), (9, wr h15 h15, (ids v6)), (10, wr h15 h15, (ids (nth vs0 0))), (13, wr h15 h15, (ids (nth vs0 1))), (14, wr h15 h24, (ids v23))] ∧
  BIN 0 .add (nth vs0 7) (.d (.num .i64 1)) fun v25 =>
  next26 [(nth vs0 0), (nth vs0 1), (nth vs0 2), (nth vs0 3), (nth vs0 4), (nth vs0 5), (nth vs0 6), v25] h24)
  (BIN 0 .add (nth vs0 4) (.d (.num .i64 1)) fun v27 =>
  next28 [(nth vs0 0), (nth vs0 1), (nth vs0 2), (nth vs0 3), v27] h2)
def vc_differ_Next_k1 (P : Ctx) (pre : List ABlk) (r : AV) (post : List PB) (h0 : Heap) (v3 : AV) : Prop :=
  ALLOC T_differ_asked [.d (.num .i64 0), .d (.num .i64 0)] 288 h0 fun v1 h2 =>
  STORE 2 v1 v3 h2 fun h4 =>
  FADDR 0 v1 h4 fun v5 =>
  LOAD false 1 v5 h4 fun v6 =>
  FADDR 1 v1 h4 fun v7 =>
  LOAD false 1 v7 h4 fun v8 =>
  ORDX [] [0, 1, 0, 4, 3, 31, 63] [(0, wr h4 h4, (ids v1)), (1, wr h4 h4, (ids v5)), (2, wr h4 h4, (ids v1)), (3, wr h4 h4, (ids v7))] ∧
  POST (.tup [v6, v8, (.d (.num .i64 0))]) h4 pre r post
def vc_differ_Next_k2 (P : Ctx) (pre : List ABlk) (r : AV) (post : List PB) (vs0 : List AV) (h2 : Heap) (next16 : List AV → Heap → Prop) : Prop :=
  BIN 0 .lss (nth vs0 4) (nth vs0 3) fun v1 =>
  COND v1
  (IADDR 4 T_differ_table (nth vs0 2) (nth vs0 4) h2 fun v3 =>
  LOAD true 4 v3 h2 fun v4 =>
  ALLOC T_differ_table [.zc, .d (.num .i64 0), .d (.num .i64 0), .zc] 288 h2 fun v5 h6 =>
  STORE 4 v5 v4 h6 fun h7 =>
  LOAD true 4 v5 h7 fun v8 =>
  CALL P f_differ_table_values [v8] 312 h7 (fun _ v10 h11 =>
  LEN false v10 h11 fun v12 =>
  LOOP [(nth vs0 0), (nth vs0 1), (nth vs0 2), (nth vs0 3), (nth vs0 4), v10, v12, (.d (.num .i64 0))] h11 336 fun vs13 h14 next15 =>
  vc_differ_Next_k0 P pre r post vs13 h14 next15 next16)
  (fun _ _ _ => False))
  (CALL P f_differ_best_differ_asked [(nth vs0 1), (.d (.fn f_differ_Next_1 [] []))] 280 h2 (fun _ v18 h19 =>
  vc_differ_Next_k1 P pre r post h19 v18)
  (fun _ _ _ => False))
def vc_differ_Next_k3 (P : Ctx) (pre : List ABlk) (r : AV) (post : List PB) (v0 : AV) (h1 : Heap) (v6 : AV) : Prop :=
  LEN false v0 h1 fun v2 =>
  BIN 0 .eql v2 (.d (.num .i64 0)) fun v3 =>
  COND v3
  (POST (.tup [(.d (.num .i64 0)), (.d (.num .i64 0)), (.d (.num .i64 7))]) h1 pre r post)
  (MKMAP 184 h1 fun v4 h5 =>
  FADDR 1 v6 h5 fun v7 =>
  LOAD false 1 v7 h5 fun v8 =>
  MAKE T_differ_asked (.agg [.num .i64 0, .num .i64 0]) v8 216 h5 fun v9 h10 =>
  LEN false v0 h10 fun v11 =>
  LOOP [v4, v9, v0, v11, (.d (.num .i64 0))] h10 256 fun vs12 h13 next14 =>
  vc_differ_Next_k2 P pre r post vs12 h13 next14)
def vc_differ_Next_k4 (P : Ctx) (pre : List ABlk) (r : AV) (post : List PB) (v0 : AV) (h2 : Heap) (v3 : AV) (a5 : AV) : Prop :=
  NOT v0 fun v1 =>
  COND v1
  (POST (.tup [(.d (.num .i64 0)), (.d (.num .i64 0)), (.d (.num .i64 2))]) h2 pre r post)
  (LOAD true 3 v3 h2 fun v4 =>
  CALL P f_differ_agreeing [v4, a5] 144 h2 (fun _ v7 h8 =>
  vc_differ_Next_k3 P pre r post v7 h8 v3)
  (fun _ _ _ => False))
def vc_differ_Next_k5 (P : Ctx) (pre : List ABlk) (r : AV) (post : List PB) (v0 : AV) (h2 : Heap) (v3 : AV) (a5 : AV) : Prop :=
  NOT v0 fun v1 =>
  CONDG v1
  (POST (.tup [(.d (.num .i64 0)), (.d (.num .i64 0)), (.d (.num .i64 2))]) h2 pre r post)
  (LOAD true 3 v3 h2 fun v4 =>
  CALL P f_differ_areSeen [v4, a5] 104 h2 (fun _ v7 h8 =>
  vc_differ_Next_k4 P pre r post v7 h8 v3 a5)
  (fun _ _ _ => False))
def vc_differ_Next (P : Ctx) (pre : List ABlk) (a0 a1 : AV) (r : AV) (post : List PB) : Prop :=
  let h0 : Heap := numbered 0 pre
  BOX T_api_DifferPlan a0 24 h0 fun v2 h1 =>
  LOAD true 3 v2 h1 fun v16 =>
  CALL P f_differ_isPlan [v16] 64 h1 (fun _ v17 h2 =>
  vc_differ_Next_k5 P pre r post v17 h2 v2 a1)
  (fun _ _ _ => False)
theorem vc_differ_Next_eq (g : GG) (pre : List ABlk) (a0 a1 : AV) (r : AV) (post : List PB) : vcFn2 (Tz g) false ann_differ_Next Tryz.f29 pre [a0, a1] (.ret r) post = vc_differ_Next (Tz g) pre a0 a1 r post := by kernel_rfl
theorem hf_differ_Next : Tryz.prog.funcs[f_differ_Next]? = some Tryz.f29 := by kernel_rfl
theorem ok_differ_Next : fnVcOK Tryz.prog Tryz.f29 = true := by kernel_rfl
theorem nt_differ_Next : Nat.ble 2 Tryz.f29.ntmps = true := by kernel_rfl
theorem meetsH_differ_Next {g : GG} {pre : List ABlk} {a0 a1 : AV} {r : AV} {post : List PB} (hk : Nat.ble pre.length 24 = true) (h : vc_differ_Next (Tz g) pre a0 a1 r post) : MeetsH (Tz g) f_differ_Next pre [a0, a1] (.ret r) post :=
  meetsH_of_vc (C := Tz g) ann_differ_Next hf_differ_Next ok_differ_Next nt_differ_Next hk (pn := false) (Eq.mpr ((vcFn2_eq _ _ _ _ _ _ _ _).trans (vc_differ_Next_eq g pre a0 a1 r post)) h)
theorem meets_differ_Next {g : GG} {a0 a1 : D} {r : Res} (h : vc_differ_Next (Tz g) [] (.d a0) (.d a1) r.val (r.bl.map .upd)) : Meets (Tz g) f_differ_Next [a0, a1] r := meetsH_differ_Next rfl h
def ann_differ_best_differ_asked : Nat → List Nat := fun n => match n with | 3 => [1, 4, 5, 12, 13, 14] | _ => []
def vc_differ_best_differ_asked_k0 (P : Ctx) (pre : List ABlk) (r : AV) (post : List PB) (v0 : AV) (v1 : AV) (h2 : Heap) (vs4 : List AV) (next7 : List AV → Heap → Prop) : Prop :=
  COND v0
  (LOAD true 2 v1 h2 fun v3 =>
  STORE 2 (nth vs4 2) v3 h2 fun h5 =>
  BIN 0 .add (nth vs4 5) (.d (.num .i64 1)) fun v6 =>
  next7 [(nth vs4 0), (nth vs4 1), (nth vs4 2), (nth vs4 3), (nth vs4 4), v6] h5)
  (BIN 0 .add (nth vs4 5) (.d (.num .i64 1)) fun v6 =>
  next7 [(nth vs4 0), (nth vs4 1), (nth vs4 2), (nth vs4 3), (nth vs4 4), v6] h2)
def vc_differ_best_differ_asked_k1 (P : Ctx) (pre : List ABlk) (r : AV) (post : List PB) (vs0 : List AV) (h2 : Heap) (next13 : List AV → Heap → Prop) : Prop :=
  BIN 0 .lss (nth vs0 5) (nth vs0 4) fun v1 =>
  COND v1
  (IADDR 2 T_differ_asked (nth vs0 3) (nth vs0 5) h2 fun v3 =>
  LOAD true 2 v3 h2 fun v4 =>
  ALLOC T_differ_asked [.d (.num .i64 0), .d (.num .i64 0)] 136 h2 fun v5 h6 =>
  STORE 2 v5 v4 h6 fun h7 =>
  LOAD true 2 v5 h7 fun v8 =>
  LOAD true 2 (nth vs0 2) h7 fun v9 =>
  CALLV P (nth vs0 0) [v8, v9] 176 h7 (fun _ v11 h12 =>
  vc_differ_best_differ_asked_k0 P pre r post v11 v5 h12 vs0 next13)
  (fun _ _ _ => False))
  (LOAD true 2 (nth vs0 2) h2 fun v14 =>
  STORE 2 (nth vs0 1) v14 h2 fun h15 =>
  LOAD true 2 (nth vs0 1) h15 fun r12 =>
  POST r12 h15 pre r post)
def vc_differ_best_differ_asked (P : Ctx) (pre : List ABlk) (a0 a1 : AV) (r : AV) (post : List PB) : Prop :=
  let h0 : Heap := numbered 0 pre
  ALLOC T_differ_asked [.d (.num .i64 0), .d (.num .i64 0)] 24 h0 fun v4 h1 =>
  IADDR 2 T_differ_asked a0 (.d (.num .i64 0)) h1 fun v9 =>
  LOAD true 2 v9 h1 fun v10 =>
  ALLOC T_differ_asked [.d (.num .i64 0), .d (.num .i64 0)] 56 h1 fun v5 h2 =>
  STORE 2 v5 v10 h2 fun h3 =>
  SLICE 3 a0 (some (.d (.num .i64 1))) none none fun v12 =>
  LEN false v12 h3 fun v13 =>
  LOOP [a1, v4, v5, v12, v13, (.d (.num .i64 0))] h3 104 fun vs4 h5 next4 =>
  vc_differ_best_differ_asked_k1 P pre r post vs4 h5 next4
theorem vc_differ_best_differ_asked_eq (g : GG) (pre : List ABlk) (a0 a1 : AV) (r : AV) (post : List PB) : vcFn2 (Tz g) false ann_differ_best_differ_asked Tryz.f69 pre [a0, a1] (.ret r) post = vc_differ_best_differ_asked (Tz g) pre a0 a1 r post := by kernel_rfl
theorem hf_differ_best_differ_asked : Tryz.prog.funcs[f_differ_best_differ_asked]? = some Tryz.f69 := by kernel_rfl
theorem ok_differ_best_differ_asked : fnVcOK Tryz.prog Tryz.f69 = true := by kernel_rfl
theorem nt_differ_best_differ_asked : Nat.ble 2 Tryz.f69.ntmps = true := by kernel_rfl
theorem meetsH_differ_best_differ_asked {g : GG} {pre : List ABlk} {a0 a1 : AV} {r : AV} {post : List PB} (hk : Nat.ble pre.length 24 = true) (h : vc_differ_best_differ_asked (Tz g) pre a0 a1 r post) : MeetsH (Tz g) f_differ_best_differ_asked pre [a0, a1] (.ret r) post :=
  meetsH_of_vc (C := Tz g) ann_differ_best_differ_asked hf_differ_best_differ_asked ok_differ_best_differ_asked nt_differ_best_differ_asked hk (pn := false) (Eq.mpr ((vcFn2_eq _ _ _ _ _ _ _ _).trans (vc_differ_best_differ_asked_eq g pre a0 a1 r post)) h)
theorem meets_differ_best_differ_asked {g : GG} {a0 a1 : D} {r : Res} (h : vc_differ_best_differ_asked (Tz g) [] (.d a0) (.d a1) r.val (r.bl.map .upd)) : Meets (Tz g) f_differ_best_differ_asked [a0, a1] r := meetsH_differ_best_differ_asked rfl h
def ann_differ_Next_1 : Nat → List Nat := fun n => match n with  | _ => []
def vc_differ_Next_1 (P : Ctx) (pre : List ABlk) (a0 a1 : AV) (r : AV) (post : List PB) : Prop :=
  let h0 : Heap := numbered 0 pre
  BOX T_differ_asked a0 24 h0 fun v2 h1 =>
  BOX T_differ_asked a1 32 h1 fun v3 h2 =>
  FADDR 1 v2 h2 fun v5 =>
  LOAD false 1 v5 h2 fun v6 =>
  FADDR 1 v3 h2 fun v7 =>
  LOAD false 1 v7 h2 fun v8 =>
  BIN 0 .lss v6 v8 fun v9 =>
  POST v9 h2 pre r post
theorem vc_differ_Next_1_eq (g : GG) (pre : List ABlk) (a0 a1 : AV) (r : AV) (post : List PB) : vcFn2 (Tz g) false ann_differ_Next_1 Tryz.f70 pre [a0, a1] (.ret r) post = vc_differ_Next_1 (Tz g) pre a0 a1 r post := by kernel_rfl
theorem hf_differ_Next_1 : Tryz.prog.funcs[f_differ_Next_1]? = some Tryz.f70 := by kernel_rfl
theorem ok_differ_Next_1 : fnVcOK Tryz.prog Tryz.f70 = true := by kernel_rfl
theorem nt_differ_Next_1 : Nat.ble 2 Tryz.f70.ntmps = true := by kernel_rfl
theorem meetsH_differ_Next_1 {g : GG} {pre : List ABlk} {a0 a1 : AV} {r : AV} {post : List PB} (hk : Nat.ble pre.length 24 = true) (h : vc_differ_Next_1 (Tz g) pre a0 a1 r post) : MeetsH (Tz g) f_differ_Next_1 pre [a0, a1] (.ret r) post :=
  meetsH_of_vc (C := Tz g) ann_differ_Next_1 hf_differ_Next_1 ok_differ_Next_1 nt_differ_Next_1 hk (pn := false) (Eq.mpr ((vcFn2_eq _ _ _ _ _ _ _ _).trans (vc_differ_Next_1_eq g pre a0 a1 r post)) h)
theorem meets_differ_Next_1 {g : GG} {a0 a1 : D} {r : Res} (h : vc_differ_Next_1 (Tz g) [] (.d a0) (.d a1) r.val (r.bl.map .upd)) : Meets (Tz g) f_differ_Next_1 [a0, a1] r := meetsH_differ_Next_1 rfl h
def ann_ref01_Seen : Nat → List Nat := fun n => match n with | 2 => [1, 2, 5] | _ => []
def vc_ref01_Seen_k0 (P : Ctx) (pre : List ABlk) (r : AV) (post : List PB) (v0 : AV) (h2 : Heap) (vs3 : List AV) (v4 : AV) (v5 : AV) (h6 : Heap) (rd7 : List Nat) (v8 : AV) (v9 : AV) (h10 : Heap) (rd11 : List Nat) (next13 : List AV → Heap → Prop) : Prop :=
  NOT v0 fun v1 =>
  ORDX [] [0, 0, 0, 6, 14, 30, 63, 127, 255, 511, 511, 2047, 4095, 8191, 16383, 32767, 65535] [(0, wr h2 h2, (ids (nth vs3 1))), (3, wr h2 h2, (ids (nth vs3 0))), (4, wr h2 h2, (ids v4)), (5, wr h2 h2, (ids v5)), (6, wr h2 h6, rd7), (11, wr h6 h6, (ids (nth vs3 0))), (12, wr h6 h6, (ids v8)), (13, wr h6 h6, (ids v9)), (14, wr h6 h10, rd11)] ∧
  COND v1
  (POST (.d (.bool false)) h10 pre r post)
  (BIN 0 .add (nth vs3 2) (.d (.num .i64 1)) fun v12 =>
  next13 [(nth vs3 0), (nth vs3 1), v12] h10)
def vc_ref01_Seen_k1 (P : Ctx) (pre : List ABlk) (r : AV) (post : List PB) (h0 : Heap) (vs1 : List AV) (v2 : AV) (v3 : AV) (h4 : Heap) (rd5 : List Nat) : Prop :=
  ORDX [] [0, 0, 0, 6, 14, 30, 63, 127, 255, 511, 511, 2047, 4095, 8191, 16383, 32767, 65535] [(0, wr h0 h0, (ids (nth vs1 1))), (3, wr h0 h0, (ids (nth vs1 0))), (4, wr h0 h0, (ids v2)), (5, wr h0 h0, (ids v3)), (6, wr h0 h4, rd5)] ∧
  POST (.d (.bool false)) h4 pre r post
def vc_ref01_Seen_k2 (P : Ctx) (pre : List ABlk) (r : AV) (post : List PB) (vs0 : List AV) (h1 : Heap) (h8 : Heap) (v9 : AV) (v10 : AV) (rd11 : List Nat) (next12 : List AV → Heap → Prop) : Prop :=
  IADDR 2 T_api_DifferSeen (nth vs0 0) (nth vs0 2) h1 fun v2 =>
  FADDR 1 v2 h1 fun v3 =>
  LOAD false 1 v3 h1 fun v4 =>
  CALL P f_ref01_in [v4, (.d (.num .i64 (-1000000000))), (.d (.num .i64 1000000000))] 200 h1 (fun rd5 v6 h7 =>
  vc_ref01_Seen_k0 P pre r post v6 h8 vs0 v9 v10 h1 rd11 v2 v3 h7 rd5 next12)
  (fun _ _ _ => False)
def vc_ref01_Seen_k3 (P : Ctx) (pre : List ABlk) (r : AV) (post : List PB) (vs0 : List AV) (h1 : Heap) (next12 : List AV → Heap → Prop) : Prop :=
  LEN false (nth vs0 0) h1 fun v2 =>
  BIN 0 .lss (nth vs0 2) v2 fun v3 =>
  COND v3
  (LOAD true 3 (nth vs0 1) h1 fun v4 =>
  IADDR 2 T_api_DifferSeen (nth vs0 0) (nth vs0 2) h1 fun v5 =>
  FADDR 0 v5 h1 fun v6 =>
  LOAD false 1 v6 h1 fun v7 =>
  CALL P f_ref01_Line [v4, v7] 136 h1 (fun rd8 v9 h10 =>
  NOT v9 fun v11 =>
  CONDG v11
  (vc_ref01_Seen_k1 P pre r post h1 vs0 v5 v6 h10 rd8)
  (vc_ref01_Seen_k2 P pre r post vs0 h10 h1 v5 v6 rd8 next12))
  (fun _ _ _ => False))
  (LEN false (nth vs0 0) h1 fun v13 =>
  BIN 0 .leq v13 (.d (.num .i64 6)) fun v14 =>
  POST v14 h1 pre r post)
def vc_ref01_Seen (P : Ctx) (pre : List ABlk) (a0 a1 : AV) (r : AV) (post : List PB) : Prop :=
  let h0 : Heap := numbered 0 pre
  BOX T_api_DifferPlan a0 24 h0 fun v2 h1 =>
  LOOP [a1, v2, (.d (.num .i64 0))] h1 48 fun vs2 h3 next2 =>
  vc_ref01_Seen_k3 P pre r post vs2 h3 next2
theorem vc_ref01_Seen_eq (g : GG) (pre : List ABlk) (a0 a1 : AV) (r : AV) (post : List PB) : vcFn2 (Tz g) false ann_ref01_Seen Tryz.f23 pre [a0, a1] (.ret r) post = vc_ref01_Seen (Tz g) pre a0 a1 r post := by kernel_rfl
theorem hf_ref01_Seen : Tryz.prog.funcs[f_ref01_Seen]? = some Tryz.f23 := by kernel_rfl
theorem ok_ref01_Seen : fnVcOK Tryz.prog Tryz.f23 = true := by kernel_rfl
theorem nt_ref01_Seen : Nat.ble 2 Tryz.f23.ntmps = true := by kernel_rfl
theorem meetsH_ref01_Seen {g : GG} {pre : List ABlk} {a0 a1 : AV} {r : AV} {post : List PB} (hk : Nat.ble pre.length 24 = true) (h : vc_ref01_Seen (Tz g) pre a0 a1 r post) : MeetsH (Tz g) f_ref01_Seen pre [a0, a1] (.ret r) post :=
  meetsH_of_vc (C := Tz g) ann_ref01_Seen hf_ref01_Seen ok_ref01_Seen nt_ref01_Seen hk (pn := false) (Eq.mpr ((vcFn2_eq _ _ _ _ _ _ _ _).trans (vc_ref01_Seen_eq g pre a0 a1 r post)) h)
theorem meets_ref01_Seen {g : GG} {a0 a1 : D} {r : Res} (h : vc_ref01_Seen (Tz g) [] (.d a0) (.d a1) r.val (r.bl.map .upd)) : Meets (Tz g) f_ref01_Seen [a0, a1] r := meetsH_ref01_Seen rfl h
def ann_ref01_Fits : Nat → List Nat := fun n => match n with | 2 => [0, 1, 5] | _ => []
def vc_ref01_Fits_k0 (P : Ctx) (pre : List ABlk) (r : AV) (post : List PB) (vs0 : List AV) (h1 : Heap) (v5 : AV) (h7 : Heap) (v8 : AV) (v9 : AV) (rd10 : List Nat) (next12 : List AV → Heap → Prop) : Prop :=
  IADDR 2 T_api_DifferSeen (nth vs0 1) (nth vs0 2) h1 fun v2 =>
  FADDR 1 v2 h1 fun v3 =>
  LOAD false 1 v3 h1 fun v4 =>
  BIN 0 .neq v5 v4 fun v6 =>
  ORDX [] [0, 0, 0, 6, 14, 30, 63, 0, 0, 384, 896, 1920, 4095] [(3, wr h7 h7, (ids (nth vs0 1))), (4, wr h7 h7, (ids v8)), (5, wr h7 h7, (ids v9)), (6, wr h7 h1, rd10), (9, wr h1 h1, (ids (nth vs0 1))), (10, wr h1 h1, (ids v2)), (11, wr h1 h1, (ids v3))] ∧
  COND v6
  (POST (.d (.bool false)) h1 pre r post)
  (BIN 0 .add (nth vs0 2) (.d (.num .i64 1)) fun v11 =>
  next12 [(nth vs0 0), (nth vs0 1), v11] h1)
def vc_ref01_Fits_k1 (P : Ctx) (pre : List ABlk) (r : AV) (post : List PB) (vs0 : List AV) (h1 : Heap) (next10 : List AV → Heap → Prop) : Prop :=
  LEN false (nth vs0 1) h1 fun v2 =>
  BIN 0 .lss (nth vs0 2) v2 fun v3 =>
  COND v3
  (IADDR 2 T_api_DifferSeen (nth vs0 1) (nth vs0 2) h1 fun v4 =>
  FADDR 0 v4 h1 fun v5 =>
  LOAD false 1 v5 h1 fun v6 =>
  CALL P f_ref01_value [(nth vs0 0), v6] 128 h1 (fun rd7 v8 h9 =>
  vc_ref01_Fits_k0 P pre r post vs0 h9 v8 h1 v4 v5 rd7 next10)
  (fun _ _ _ => False))
  (POST (.d (.bool true)) h1 pre r post)
def vc_ref01_Fits (P : Ctx) (pre : List ABlk) (a0 a1 : AV) (r : AV) (post : List PB) : Prop :=
  let h0 : Heap := numbered 0 pre
  LOOP [a0, a1, (.d (.num .i64 0))] h0 40 fun vs1 h2 next1 =>
  vc_ref01_Fits_k1 P pre r post vs1 h2 next1
theorem vc_ref01_Fits_eq (g : GG) (pre : List ABlk) (a0 a1 : AV) (r : AV) (post : List PB) : vcFn2 (Tz g) false ann_ref01_Fits Tryz.f31 pre [a0, a1] (.ret r) post = vc_ref01_Fits (Tz g) pre a0 a1 r post := by kernel_rfl
theorem hf_ref01_Fits : Tryz.prog.funcs[f_ref01_Fits]? = some Tryz.f31 := by kernel_rfl
theorem ok_ref01_Fits : fnVcOK Tryz.prog Tryz.f31 = true := by kernel_rfl
theorem nt_ref01_Fits : Nat.ble 2 Tryz.f31.ntmps = true := by kernel_rfl
theorem meetsH_ref01_Fits {g : GG} {pre : List ABlk} {a0 a1 : AV} {r : AV} {post : List PB} (hk : Nat.ble pre.length 24 = true) (h : vc_ref01_Fits (Tz g) pre a0 a1 r post) : MeetsH (Tz g) f_ref01_Fits pre [a0, a1] (.ret r) post :=
  meetsH_of_vc (C := Tz g) ann_ref01_Fits hf_ref01_Fits ok_ref01_Fits nt_ref01_Fits hk (pn := false) (Eq.mpr ((vcFn2_eq _ _ _ _ _ _ _ _).trans (vc_ref01_Fits_eq g pre a0 a1 r post)) h)
theorem meets_ref01_Fits {g : GG} {a0 a1 : D} {r : Res} (h : vc_ref01_Fits (Tz g) [] (.d a0) (.d a1) r.val (r.bl.map .upd)) : Meets (Tz g) f_ref01_Fits [a0, a1] r := meetsH_ref01_Fits rfl h
def ann_ref01_truths : Nat → List Nat := fun n => match n with | 5 => [1, 2, 5, 6] | _ => []
def vc_ref01_truths_k0 (P : Ctx) (pre : List ABlk) (r : AV) (post : List PB) (vs0 : List AV) (v1 : AV) (h2 : Heap) (h5 : Heap) (h6 : Heap) (h7 : Heap) (h8 : Heap) (v9 : AV) (v10 : AV) (rd11 : List Nat) (next13 : List AV → Heap → Prop) : Prop :=
  APP T_l_int 1 (nth vs0 2) v1 304 h2 fun v3 h4 =>
  ORDX [] [0, 0, 0, 4, 0, 16, 60, 126, 255, 511] [(1, wr h5 h5, (ids (nth vs0 1))), (3, wr h5 h6, (ids.idsL [.zc, (nth vs0 0)])), (5, wr h6 h7, (ids.idsL [(nth vs0 3)])), (6, wr h7 h8, (ids.idsL [v9, v10])), (7, wr h8 h2, rd11), (8, wr h2 h4, (ids.idsL [(nth vs0 2), v1]))] ∧
  BIN 0 .add (nth vs0 3) (.d (.num .i64 1)) fun v12 =>
  next13 [(nth vs0 0), (nth vs0 1), v3, v12] h4
def vc_ref01_truths_k1 (P : Ctx) (pre : List ABlk) (r : AV) (post : List PB) (vs0 : List AV) (h1 : Heap) (next19 : List AV → Heap → Prop) : Prop :=
  FADDR 0 (nth vs0 1) h1 fun v2 =>
  LOAD false 1 v2 h1 fun v3 =>
  LEN false (nth vs0 0) h1 fun v4 =>
  IADDR 2 T_api_Span v3 v4 h1 fun v5 =>
  FADDR 1 v5 h1 fun v6 =>
  LOAD false 1 v6 h1 fun v7 =>
  BIN 0 .leq (nth vs0 3) v7 fun v8 =>
  COND v8
  (LOAD true 3 (nth vs0 1) h1 fun v9 =>
  APP T_int 1 .zc (nth vs0 0) 264 h1 fun v10 h11 =>
  MKS T_int 1 [(nth vs0 3)] 280 h11 fun v12 h13 =>
  APP T_int 1 v10 v12 288 h13 fun v14 h15 =>
  CALL P f_ref01_truths [v9, v14] 296 h15 (fun rd16 v17 h18 =>
  vc_ref01_truths_k0 P pre r post vs0 v17 h18 h1 h11 h13 h15 v10 v12 rd16 next19)
  (fun _ _ _ => False))
  (POST (nth vs0 2) h1 pre r post)
def vc_ref01_truths (P : Ctx) (pre : List ABlk) (a0 a1 : AV) (r : AV) (post : List PB) : Prop :=
  let h0 : Heap := numbered 0 pre
  BOX T_api_DifferPlan a0 24 h0 fun v2 h1 =>
  LEN false a1 h1 fun v8 =>
  FADDR 0 v2 h1 fun v9 =>
  LOAD false 1 v9 h1 fun v10 =>
  LEN false v10 h1 fun v11 =>
  BIN 0 .eql v8 v11 fun v12 =>
  COND v12
  (MKS T_l_int 1 [a1] 96 h1 fun v14 h2 =>
  POST v14 h2 pre r post)
  (FADDR 0 v2 h1 fun v15 =>
  LOAD false 1 v15 h1 fun v16 =>
  LEN false a1 h1 fun v18 =>
  IADDR 2 T_api_Span v16 v18 h1 fun v19 =>
  FADDR 0 v19 h1 fun v20 =>
  LOAD false 1 v20 h1 fun v21 =>
  LOOP [a1, v2, .zc, v21] h1 160 fun vs3 h4 next3 =>
  vc_ref01_truths_k1 P pre r post vs3 h4 next3)
theorem vc_ref01_truths_eq (g : GG) (pre : List ABlk) (a0 a1 : AV) (r : AV) (post : List PB) : vcFn2 (Tz g) false ann_ref01_truths Tryz.f67 pre [a0, a1] (.ret r) post = vc_ref01_truths (Tz g) pre a0 a1 r post := by kernel_rfl
theorem hf_ref01_truths : Tryz.prog.funcs[f_ref01_truths]? = some Tryz.f67 := by kernel_rfl
theorem ok_ref01_truths : fnVcOK Tryz.prog Tryz.f67 = true := by kernel_rfl
theorem nt_ref01_truths : Nat.ble 2 Tryz.f67.ntmps = true := by kernel_rfl
theorem meetsH_ref01_truths {g : GG} {pre : List ABlk} {a0 a1 : AV} {r : AV} {post : List PB} (hk : Nat.ble pre.length 24 = true) (h : vc_ref01_truths (Tz g) pre a0 a1 r post) : MeetsH (Tz g) f_ref01_truths pre [a0, a1] (.ret r) post :=
  meetsH_of_vc (C := Tz g) ann_ref01_truths hf_ref01_truths ok_ref01_truths nt_ref01_truths hk (pn := false) (Eq.mpr ((vcFn2_eq _ _ _ _ _ _ _ _).trans (vc_ref01_truths_eq g pre a0 a1 r post)) h)
theorem meets_ref01_truths {g : GG} {a0 a1 : D} {r : Res} (h : vc_ref01_truths (Tz g) [] (.d a0) (.d a1) r.val (r.bl.map .upd)) : Meets (Tz g) f_ref01_truths [a0, a1] r := meetsH_ref01_truths rfl h
def ann_ref01_All : Nat → List Nat := fun n => match n with | 4 => [1, 5, 6, 7] | _ => []
def vc_ref01_All_k0 (P : Ctx) (pre : List ABlk) (r : AV) (post : List PB) (v0 : AV) (vs1 : List AV) (h2 : Heap) (next10 : List AV → Heap → Prop) : Prop :=
  COND v0
  (IADDR 1 T_l_int (nth vs1 1) (nth vs1 3) h2 fun v3 =>
  LOAD false 1 v3 h2 fun v4 =>
  MKS T_l_int 1 [v4] 208 h2 fun v5 h6 =>
  APP T_l_int 1 (nth vs1 2) v5 216 h6 fun v7 h8 =>
  BIN 0 .add (nth vs1 3) (.d (.num .i64 1)) fun v9 =>
  next10 [(nth vs1 0), (nth vs1 1), v7, v9] h8)
  (BIN 0 .add (nth vs1 3) (.d (.num .i64 1)) fun v9 =>
  next10 [(nth vs1 0), (nth vs1 1), (nth vs1 2), v9] h2)
def vc_ref01_All_k1 (P : Ctx) (pre : List ABlk) (r : AV) (post : List PB) (vs0 : List AV) (h1 : Heap) (next9 : List AV → Heap → Prop) : Prop :=
  LEN false (nth vs0 1) h1 fun v2 =>
  BIN 0 .lss (nth vs0 3) v2 fun v3 =>
  COND v3
  (IADDR 1 T_l_int (nth vs0 1) (nth vs0 3) h1 fun v4 =>
  LOAD false 1 v4 h1 fun v5 =>
  CALL P f_ref01_Fits [v5, (nth vs0 0)] 160 h1 (fun _ v7 h8 =>
  vc_ref01_All_k0 P pre r post v7 vs0 h8 next9)
  (fun _ _ _ => False))
  (POST (nth vs0 2) h1 pre r post)
def vc_ref01_All (P : Ctx) (pre : List ABlk) (a0 a1 : AV) (r : AV) (post : List PB) : Prop :=
  let h0 : Heap := numbered 0 pre
  BOX T_api_DifferPlan a0 24 h0 fun v2 h1 =>
  LOAD true 3 v2 h1 fun v8 =>
  CALL P f_ref01_truths [v8, .zc] 48 h1 (fun _ v9 h2 =>
  LOOP [a1, v9, .zc, (.d (.num .i64 0))] h2 80 fun vs4 h5 next4 =>
  vc_ref01_All_k1 P pre r post vs4 h5 next4)
  (fun _ _ _ => False)
theorem vc_ref01_All_eq (g : GG) (pre : List ABlk) (a0 a1 : AV) (r : AV) (post : List PB) : vcFn2 (Tz g) false ann_ref01_All Tryz.f24 pre [a0, a1] (.ret r) post = vc_ref01_All (Tz g) pre a0 a1 r post := by kernel_rfl
theorem hf_ref01_All : Tryz.prog.funcs[f_ref01_All]? = some Tryz.f24 := by kernel_rfl
theorem ok_ref01_All : fnVcOK Tryz.prog Tryz.f24 = true := by kernel_rfl
theorem nt_ref01_All : Nat.ble 2 Tryz.f24.ntmps = true := by kernel_rfl
theorem meetsH_ref01_All {g : GG} {pre : List ABlk} {a0 a1 : AV} {r : AV} {post : List PB} (hk : Nat.ble pre.length 24 = true) (h : vc_ref01_All (Tz g) pre a0 a1 r post) : MeetsH (Tz g) f_ref01_All pre [a0, a1] (.ret r) post :=
  meetsH_of_vc (C := Tz g) ann_ref01_All hf_ref01_All ok_ref01_All nt_ref01_All hk (pn := false) (Eq.mpr ((vcFn2_eq _ _ _ _ _ _ _ _).trans (vc_ref01_All_eq g pre a0 a1 r post)) h)
theorem meets_ref01_All {g : GG} {a0 a1 : D} {r : Res} (h : vc_ref01_All (Tz g) [] (.d a0) (.d a1) r.val (r.bl.map .upd)) : Meets (Tz g) f_ref01_All [a0, a1] r := meetsH_ref01_All rfl h
def ann_ref01_Left : Nat → List Nat := fun n => match n with | 5 => [0, 1, 5, 6, 7, 8] | 13 => [5, 6, 10, 11, 12] | _ => []
def vc_ref01_Left_k0 (P : Ctx) (pre : List ABlk) (r : AV) (post : List PB) (v0 : AV) (h1 : Heap) (vs4 : List AV) (next10 : List AV → Heap → Prop) : Prop :=
  MKS T_int 1 [v0] 224 h1 fun v2 h3 =>
  APP T_int 1 (nth vs4 2) v2 232 h3 fun v5 h6 =>
  MINK (nth vs4 3) v0 fun v7 =>
  MAXK (nth vs4 4) v0 fun v8 =>
  BIN 0 .add (nth vs4 5) (.d (.num .i64 1)) fun v9 =>
  next10 [(nth vs4 0), (nth vs4 1), v5, v7, v8, v9] h6
def vc_ref01_Left_k1 (P : Ctx) (pre : List ABlk) (r : AV) (post : List PB) (vs0 : List AV) (h1 : Heap) (next19 : List AV → Heap → Prop) : Prop :=
  LEN false (nth vs0 0) h1 fun v2 =>
  BIN 0 .lss (nth vs0 4) v2 fun v3 =>
  COND v3
  (IADDR 1 T_int (nth vs0 0) (nth vs0 4) h1 fun v4 =>
  LOAD false 1 v4 h1 fun v5 =>
  BIN 0 .sub v5 (nth vs0 1) fun v6 =>
  IADDR 1 T_int (nth vs0 2) v6 h1 fun v7 =>
  LOAD false 1 v7 h1 fun v8 =>
  BIN 0 .add v8 (.d (.num .i64 1)) fun v9 =>
  IADDR 1 T_int (nth vs0 2) v6 h1 fun v10 =>
  STORE 1 v10 v9 h1 fun h11 =>
  IADDR 1 T_int (nth vs0 0) (nth vs0 4) h11 fun v12 =>
  LOAD false 1 v12 h11 fun v13 =>
  BIN 0 .sub v13 (nth vs0 1) fun v14 =>
  IADDR 1 T_int (nth vs0 2) v14 h11 fun v15 =>
  LOAD false 1 v15 h11 fun v16 =>
  MAXK (nth vs0 3) v16 fun v17 =>
  BIN 0 .add (nth vs0 4) (.d (.num .i64 1)) fun v18 =>
  next19 [(nth vs0 0), (nth vs0 1), (nth vs0 2), v17, v18] h11)
  (POST (nth vs0 3) h1 pre r post)
def vc_ref01_Left_k2 (P : Ctx) (pre : List ABlk) (r : AV) (post : List PB) (vs0 : List AV) (h1 : Heap) (next9 : List AV → Heap → Prop) : Prop :=
  LEN false (nth vs0 0) h1 fun v2 =>
  BIN 0 .lss (nth vs0 5) v2 fun v3 =>
  COND v3
  (IADDR 1 T_l_int (nth vs0 0) (nth vs0 5) h1 fun v4 =>
  LOAD false 1 v4 h1 fun v5 =>
  CALL P f_ref01_value [v5, (nth vs0 1)] 192 h1 (fun _ v7 h8 =>
  vc_ref01_Left_k0 P pre r post v7 h8 vs0 next9)
  (fun _ _ _ => False))
  (BIN 0 .sub (nth vs0 4) (nth vs0 3) fun v10 =>
  BIN 0 .add v10 (.d (.num .i64 1)) fun v11 =>
  MAKE T_int (.num .i64 0) v11 184 h1 fun v12 h13 =>
  LOOP [(nth vs0 2), (nth vs0 3), v12, (.d (.num .i64 0)), (.d (.num .i64 0))] h13 216 fun vs14 h15 next16 =>
  vc_ref01_Left_k1 P pre r post vs14 h15 next16)
def vc_ref01_Left (P : Ctx) (pre : List ABlk) (a0 a1 : AV) (r : AV) (post : List PB) : Prop :=
  let h0 : Heap := numbered 0 pre
  IADDR 1 T_l_int a0 (.d (.num .i64 0)) h0 fun v14 =>
  LOAD false 1 v14 h0 fun v15 =>
  CALL P f_ref01_value [v15, a1] 72 h0 (fun _ v17 h1 =>
  LOOP [a0, a1, .zc, v17, v17, (.d (.num .i64 0))] h1 112 fun vs3 h4 next3 =>
  vc_ref01_Left_k2 P pre r post vs3 h4 next3)
  (fun _ _ _ => False)
theorem vc_ref01_Left_eq (g : GG) (pre : List ABlk) (a0 a1 : AV) (r : AV) (post : List PB) : vcFn2 (Tz g) false ann_ref01_Left Tryz.f32 pre [a0, a1] (.ret r) post = vc_ref01_Left (Tz g) pre a0 a1 r post := by kernel_rfl
theorem hf_ref01_Left : Tryz.prog.funcs[f_ref01_Left]? = some Tryz.f32 := by kernel_rfl
theorem ok_ref01_Left : fnVcOK Tryz.prog Tryz.f32 = true := by kernel_rfl
theorem nt_ref01_Left : Nat.ble 2 Tryz.f32.ntmps = true := by kernel_rfl
theorem meetsH_ref01_Left {g : GG} {pre : List ABlk} {a0 a1 : AV} {r : AV} {post : List PB} (hk : Nat.ble pre.length 24 = true) (h : vc_ref01_Left (Tz g) pre a0 a1 r post) : MeetsH (Tz g) f_ref01_Left pre [a0, a1] (.ret r) post :=
  meetsH_of_vc (C := Tz g) ann_ref01_Left hf_ref01_Left ok_ref01_Left nt_ref01_Left hk (pn := false) (Eq.mpr ((vcFn2_eq _ _ _ _ _ _ _ _).trans (vc_ref01_Left_eq g pre a0 a1 r post)) h)
theorem meets_ref01_Left {g : GG} {a0 a1 : D} {r : Res} (h : vc_ref01_Left (Tz g) [] (.d a0) (.d a1) r.val (r.bl.map .upd)) : Meets (Tz g) f_ref01_Left [a0, a1] r := meetsH_ref01_Left rfl h
end Go.Vc

namespace Go.Vc
open Go Go.Proofs
variable {g : GG}
attribute [local simp] and_assoc
def seenB (p : Plan) (x : Sn) : Bool := inB x.row 0 (p.rows - 1) && inB x.value (-1000000000) 1000000000
def seensB (p : Plan) (l : List Sn) : Bool := decide (l.length ≤ 6) && l.all (seenB p)
theorem areSeen_1_meets (p : Plan) (x : Sn) (hok : p.ok = true) : Meets (Tz g) f_differ_areSeen_1 [x.d, planC p] ⟨.d (.bool (!seenB p x)), []⟩ := by
  obtain ⟨a1, a2, a3, a4, a5⟩ := Plan.ok_len hok
  refine meets_differ_areSeen_1 ?_
  unfold vc_differ_areSeen_1
  simp [Sn.d, planC, spans]
  refine CALL.val [p.d, int x.row] _ (by simp [Plan.d, spans]) (differ_hasRow_meets p x.row ⟨a3, a4⟩) (.inl rfl) ?_
  simp [vc_differ_areSeen_1_k0]
  constructor
  · intro h
    simp [seenB, h]
  · intro h
    refine CALL.val [int x.value, int (-1000000000), int 1000000000] _ rfl (differ_in_meets _ _ _) (.inl rfl) ?_
    simp [seenB, h]
theorem all_not_any {α : Type} (q : α → Bool) : ∀ (l : List α), (!l.any fun x => !q x) = l.all q
  | [] => rfl
  | x :: r => by simp only [List.any_cons, List.all_cons, ← all_not_any q r]; cases q x <;> simp
theorem differ_areSeen_meets (p : Plan) (l : List Sn) (hok : p.ok = true) (hl : l.length ≤ 1000) : Meets (Tz g) f_differ_areSeen [p.d, seens l] ⟨.d (.bool (seensB p l)), []⟩ := by
  refine meets_differ_areSeen ?_
  unfold vc_differ_areSeen
  simp [Plan.d, spans]
  constructor
  · intro h
    refine CALL.val [seens l, .fn f_differ_areSeen_1 [] [planC p]] _ (by simp [planC, spans]) (contains_seens_meets l _ _ (fun x => !seenB p x) (fun x _ => areSeen_1_meets p x hok) hl) (.inr rfl) ?_
    simp
    have := all_not_any (seenB p) l
    have h6 : l.length ≤ 6 := by omega
    simp [seensB, h6, ← this]
  · intro h
    have h6 : ¬ l.length ≤ 6 := by omega
    simp [seensB, h6]
def fitL (p : Plan) (sn : List Sn) : List (List Int) := (truthsL p.starts []).filter (fitsB p sn)
theorem flatMap_addT (p : Plan) (sn : List Sn) : ∀ (l : List (List Int)), l.flatMap (addT p sn) = (l.filter (fitsB p sn)).map (tabD p)
  | [] => rfl
  | t :: r => by
    rw [List.flatMap_cons, flatMap_addT p sn r]
    unfold addT
    cases h : fitsB p sn t <;> simp [h]
theorem aggL_fit (p : Plan) (sn : List Sn) : aggL p sn p.starts [] = (fitL p sn).map (tabD p) := flatMap_addT p sn _
theorem seensB_rows {p : Plan} {sn : List Sn} {n : Nat} (hn : p.rows = n) (h : seensB p sn = true) : (∀ x, x ∈ sn → 0 ≤ x.row ∧ x.row < n) ∧ sn.length ≤ 6 := by
  simp [seensB] at h
  refine ⟨fun x hx => ?_, h.1⟩
  have := h.2 x hx
  simp [seenB, inB] at this
  omega
theorem agreeing_fit (p : Plan) (sn : List Sn) (n : Nat) (hok : p.ok = true) (hn : p.rows = n) (h : seensB p sn = true) :
    Meets (Tz g) f_differ_agreeing [p.d, seens sn] ⟨.d (.list ((fitL p sn).map (tabD p))), []⟩ := by
  obtain ⟨h1, h2⟩ := seensB_rows hn h
  rw [← aggL_fit]
  exact agreeing_meets p sn n hok hn h1 (by omega)
theorem differ_Agree_ok (p : Plan) (sn : List Sn) (n : Nat) (hok : p.ok = true) (hn : p.rows = n) (h : seensB p sn = true) : Meets (Tz g) f_differ_Agree [p.d, seens sn] ⟨.tup [.d (int (fitL p sn).length), .d (int 0)], []⟩ := by
  obtain ⟨a1, a2, a3, a4, a5⟩ := Plan.ok_len hok
  obtain ⟨h1, h2⟩ := seensB_rows hn h
  refine meets_differ_Agree ?_
  unfold vc_differ_Agree
  simp [Plan.d, spans]
  refine CALL.val [p.d] _ rfl (differ_isPlan_meets p (by omega)) (.inl rfl) ?_
  simp [vc_differ_Agree_k1, hok]
  refine CALL.val [p.d, seens sn] _ rfl (differ_areSeen_meets p sn hok (by omega)) (.inl rfl) ?_
  simp [h, vc_differ_Agree_k0]
  refine CALL.val [p.d, seens sn] _ rfl (agreeing_fit p sn n hok hn h) (.inl rfl) ?_
  simp
end Go.Vc

namespace Go.Vc
open Go Go.Proofs
variable {g : GG}
attribute [local simp] and_assoc
theorem truthsL_len : ∀ (rest : List Sp) (now t : List Int), t ∈ truthsL rest now → t.length = now.length + rest.length
  | [], now, t, h => by simp [truthsL] at h; simp [h]
  | s :: r, now, t, h => by
    simp only [truthsL, List.mem_flatMap] at h
    obtain ⟨i, _, h⟩ := h
    have := truthsL_len r _ t h
    simp at this ⊢
    omega
theorem truthsL_cnt (rest : List Sp) (now : List Int) (h : ∀ s, s ∈ rest → startB s = true) : (truthsL rest now).length ≤ 7 ^ rest.length := by
  induction rest generalizing now with
  | nil => simp [truthsL]
  | cons s r ih =>
    have hs := h s (by simp)
    simp [startB, inB] at hs
    have hw : widthN s ≤ 7 := by unfold widthN; omega
    unfold truthsL
    have h1 := flatMap_len (fun i : Nat => truthsL r (now ++ [s.low + (i : Int)])) (7 ^ r.length) (List.range (widthN s)) (fun i _ => ih _ (fun x hx => h x (by simp [hx])))
    simp only [List.length_range] at h1
    refine Nat.le_trans h1 ?_
    simp only [List.length_cons, Nat.pow_succ]
    rw [Nat.mul_comm (7 ^ r.length) 7]
    exact Nat.mul_le_mul_right _ hw
theorem fitL_cnt {p : Plan} {sn : List Sn} (hok : p.ok = true) : (fitL p sn).length ≤ 2401 := by
  obtain ⟨a1, a2, a3, a4, a5⟩ := Plan.ok_len hok
  have h1 := truthsL_cnt p.starts [] a5
  have h2 : 7 ^ p.starts.length ≤ 7 ^ 4 := Nat.pow_le_pow_right (by omega) a2
  have h3 : (fitL p sn).length ≤ (truthsL p.starts []).length := List.length_filter_le _ _
  omega
end Go.Vc

namespace Go.Vc
open Go Go.Proofs
variable {g : GG}
attribute [local simp] and_assoc
set_option maxHeartbeats 1000000 in
theorem ref01_Seen_meets (p : Plan) (l : List Sn) (hok : p.ok = true) (hl : l.length ≤ 1000) : Meets (Tz g) f_ref01_Seen [p.d, seens l] ⟨.d (.bool (seensB p l)), []⟩ := by
  obtain ⟨a1, a2, a3, a4, a5⟩ := Plan.ok_len hok
  refine meets_ref01_Seen ?_
  unfold vc_ref01_Seen
  simp [Plan.d, spans]
  refine LOOP.mk Nat (fun k => [.d (seens l), .ptr 24 0 0 0, .d (int k)]) (fun k => [(24, some ⟨0, T_api_DifferPlan, .box [.d (.list (p.starts.map Sp.d)), .d (int p.rows), .d (int p.guard)]⟩)]) (fun k => k ≤ l.length ∧ (l.take k).all (seenB p) = true) (fun k => l.length - k) [] (by simp) 0 (by simp) (by simp [WEAK]) (fun _ _ => rfl) ?_
  rintro k ⟨hk, ha⟩
  simp [vc_ref01_Seen_k3]
  constructor
  · intro hlt
    have hg : l[k]? = some l[k] := List.getElem?_eq_getElem hlt
    have hm : l[k] ∈ l := List.getElem_mem hlt
    generalize l[k] = x at hg hm
    simp [hg, Sn.d]
    refine CALL.val [p.d, int x.row] _ (by simp [Plan.d, spans]) (ref01_Line_meets p x.row ⟨a3, a4⟩) (.inl rfl) ?_
    simp
    constructor
    · intro h1
      have hs : seensB p l = false := by
        simp [seensB]
        intro _
        exact ⟨x, hm, by simp [seenB, h1]⟩
      simp [vc_ref01_Seen_k1, hs]
      rfl
    · intro h1
      simp [vc_ref01_Seen_k2, hg, Sn.d]
      refine CALL.val [int x.value, int (-1000000000), int 1000000000] _ rfl (ref01_in_meets _ _ _) (.inl rfl) ?_
      simp [vc_ref01_Seen_k0]
      refine ⟨rfl, ?_⟩
      constructor
      · intro h2
        have hs : seensB p l = false := by
          simp [seensB]
          intro _
          exact ⟨x, hm, by simp [seenB, h2]⟩
        simp [hs]
      · intro h2
        rw [wrap_id (n := (k : Int) + 1) (by omega) (by omega)]
        refine ⟨k + 1, by omega, ?_, by simp [WEAK], by omega⟩
        have hx : seenB p x = true := by simp [seenB, h1, h2]
        rw [List.take_add_one, hg]
        intro y hy
        rcases List.mem_append.1 hy with hy | hy
        · exact List.all_eq_true.1 ha y hy
        · simp at hy; rw [hy]; exact hx
  · intro hge
    have : k = l.length := by omega
    subst this
    rw [List.take_length] at ha
    simp [seensB, ha]
    omega
set_option maxHeartbeats 1000000 in
theorem ref01_Fits_meets (p : Plan) (t : List Int) (sn : List Sn) (n : Nat) (hn : p.rows = n) (hn2 : n ≤ 12) (h1 : 1 ≤ t.length) (hl : t.length ≤ 6) (hb : ∀ x, x ∈ t → -1000000000 ≤ x ∧ x ≤ 1000000000) (hs : ∀ x, x ∈ sn → 0 ≤ x.row ∧ x.row < n) (hsl : sn.length ≤ 1000) : Meets (Tz g) f_ref01_Fits [ints t, seens sn] ⟨.d (.bool (fitsB p sn t)), []⟩ := by
  have hpn : p.rows.toNat = n := by omega
  refine meets_ref01_Fits ?_
  unfold vc_ref01_Fits
  refine LOOP.mk Nat (fun k => [.d (ints t), .d (seens sn), .d (int k)]) (fun _ => []) (fun k => k ≤ sn.length ∧ ∀ x, x ∈ sn.take k → (heads t n).getD x.row.toNat 0 = x.value) (fun k => sn.length - k) [] (by simp) 0 (by simp) (by simp [WEAK]) (fun _ _ => rfl) ?_
  rintro k ⟨hk, ha⟩
  simp [vc_ref01_Fits_k1]
  constructor
  · intro hlt
    have hg : sn[k]? = some sn[k] := List.getElem?_eq_getElem hlt
    have hm : sn[k] ∈ sn := List.getElem_mem hlt
    generalize sn[k] = x at hg hm
    have hx := hs x hm
    obtain ⟨q, hq⟩ : ∃ q : Nat, x.row = q := ⟨x.row.toNat, by omega⟩
    have hv : (heads t n).getD x.row.toNat 0 = valL t q 0 := by
      have : q < n := by omega
      rw [heads_val t n h1, hq]
      simp [this]
    simp [hg, Sn.d]
    refine CALL.val [ints t, int x.row] _ rfl (by rw [hq]; exact ref01_value_meets t q (by omega) hl hb) (.inl rfl) ?_
    simp [vc_ref01_Fits_k0, hg, Sn.d]
    refine ⟨rfl, ?_⟩
    constructor
    · intro h2
      have hf : fitsB p sn t = false := by
        simp only [fitsB, Bool.not_eq_false', List.any_eq_true]
        refine ⟨x, hm, ?_⟩
        rw [hpn, hv]
        simp [h2]
      simp [hf]
    · intro h2
      rw [wrap_id (n := (k : Int) + 1) (by omega) (by omega)]
      refine ⟨k + 1, by omega, ?_, by simp [WEAK], by omega⟩
      rw [List.take_add_one, hg]
      intro y hy
      simp only [Option.toList_some, List.mem_append, List.mem_singleton] at hy
      rcases hy with hy | rfl
      · exact ha y hy
      · show (heads t n).getD y.row.toNat 0 = y.value
        rw [hv]; exact h2
  · intro hge
    have : k = sn.length := by omega
    subst this
    rw [List.take_length] at ha
    have hf : fitsB p sn t = true := by
      simp only [fitsB, Bool.not_eq_true', List.any_eq_false]
      intro x hx
      rw [hpn, ha x hx]
      simp
    simp [hf]
end Go.Vc

namespace Go.Vc
open Go Go.Proofs
variable {g : GG}
attribute [local simp] and_assoc
set_option maxHeartbeats 2000000 in
theorem ref01_truths_meets (p : Plan) (hp : p.starts.length ≤ 4 ∧ 1 ≤ p.starts.length) (hst : ∀ s, s ∈ p.starts → startB s = true) :
    ∀ (rest : List Sp) (now : List Int), p.starts.drop now.length = rest → now.length ≤ p.starts.length →
      Meets (Tz g) f_ref01_truths [p.d, ints now] ⟨.own 0 0, [⟨0, T_l_int, .lst ((truthsL rest now).map ints)⟩]⟩ := by
  intro rest
  induction rest with
  | nil =>
    intro now hd hle
    have hlen : now.length = p.starts.length := by
      have := congrArg List.length hd
      simp at this
      omega
    refine meets_ref01_truths ?_
    unfold vc_ref01_truths
    simp [Plan.d, spans, ints, hlen, truthsL]
  | cons s r ih =>
    intro now hd hle
    have hlen : now.length + (r.length + 1) = p.starts.length := by
      have := congrArg List.length hd
      simp at this
      omega
    have hg : p.starts[now.length]? = some s := by
      have := congrArg List.head? hd
      simpa using this
    have hsm : s ∈ p.starts := List.mem_of_getElem? hg
    have hsb := hst s hsm
    simp [startB, inB] at hsb
    have hz : ¬ ((now.length : Int) = (p.starts.length : Int)) := by omega
    refine meets_ref01_truths ?_
    unfold vc_ref01_truths
    simp [Plan.d, spans, ints, hg, hz, Sp.d]
    refine LOOP.mk Nat (fun j => [.d (ints now), .ptr 24 0 0 0, .own 160 j, .d (int (s.low + (j : Int)))])
      (fun j => [(160, some ⟨j, T_l_int, .lst (((List.range j).flatMap fun (i : Nat) => truthsL r (now ++ [s.low + (i : Int)])).map ints)⟩), (24, some ⟨0, T_api_DifferPlan, .box [.d (.list (p.starts.map Sp.d)), .d (int p.rows), .d (int p.guard)]⟩)])
      (fun j => j ≤ widthN s) (fun j => widthN s - j) [(2, T_l_int)] (by simp) 0 (by omega) (by simp [WEAK, ints]) (fun _ _ => rfl) ?_
    intro j hj
    obtain ⟨ys, hys⟩ : ∃ ys, ys = (List.range j).flatMap fun (i : Nat) => truthsL r (now ++ [s.low + (i : Int)]) := ⟨_, rfl⟩
    have hq : widthN s ≤ 7 := by unfold widthN; omega
    have h7 : 7 ^ r.length ≤ 7 ^ 3 := Nat.pow_le_pow_right (by omega) (by omega)
    have hyl : ys.length ≤ j * 7 ^ r.length := by
      have := flatMap_len (fun (i : Nat) => truthsL r (now ++ [s.low + (i : Int)])) (7 ^ r.length) (List.range j) (fun i _ => truthsL_cnt r _ (fun x hx => hst x (List.mem_of_mem_drop (hd ▸ List.mem_cons_of_mem _ hx))))
      rw [hys]
      simpa using this
    have hyl2 : ys.length ≤ 2401 := by
      have h1 : j * 7 ^ r.length ≤ 7 * 7 ^ r.length := Nat.mul_le_mul_right _ (by omega)
      omega
    rw [← hys]
    simp [vc_ref01_truths_k1, hg, Sp.d, ints]
    constructor
    · intro hlt
      have hd2 : p.starts.drop (now ++ [s.low + (j : Int)]).length = r := by
        have := congrArg List.tail hd
        simpa using this
      have hjw : j < widthN s := by unfold widthN; omega
      have hcn := truthsL_cnt r (now ++ [s.low + (j : Int)]) (fun x hx => hst x (List.mem_of_mem_drop (hd ▸ List.mem_cons_of_mem _ hx)))
      refine ⟨by omega, by omega, ?_⟩
      refine CALL.gen [] [true, true] [.d p.d, .d (ints (now ++ [s.low + (j : Int)]))] [] _ _ (ih (now ++ [s.low + (j : Int)]) hd2 (by simp; omega)) rfl (by simp [argsM, argD, toD, Plan.d, spans, ints, bodyOf, lookH]) (by simp [preB]) (by simp [lowL, ids.idsL, ids, preIds]) (by simp [lentL, ids, disjB]) (by simp) ?_
      simp [vc_ref01_truths_k0, AV.ren, upsP, rho, ABlk.ren, Body.ren, lentL, ids, kills]
      refine ⟨fun a _ => rfl, by omega, rfl, ?_⟩
      rw [wrap_id (n := s.low + (j : Int) + 1) (by omega) (by omega)]
      refine ⟨j + 1, by omega, ?_, by omega⟩
      rw [List.range_succ]
      simp only [List.flatMap_append, List.flatMap_cons, List.flatMap_nil, List.append_nil, List.map_append]
      simp [WEAK, hys]
      omega
    · intro hge
      have hjw : j = widthN s := by unfold widthN at hj ⊢; omega
      subst hjw
      simp [truthsL, hys]
theorem truthsL_bound : ∀ (rest : List Sp) (now t : List Int), (∀ s, s ∈ rest → startB s = true) → (∀ x, x ∈ now → -99999 ≤ x ∧ x ≤ 99999) → t ∈ truthsL rest now → ∀ x, x ∈ t → -99999 ≤ x ∧ x ≤ 99999
  | [], now, t, _, hb, h => by simp [truthsL] at h; rw [h]; exact hb
  | s :: r, now, t, hst, hb, h => by
    simp only [truthsL, List.mem_flatMap, List.mem_range] at h
    obtain ⟨i, hi, h⟩ := h
    have hs := hst s (by simp)
    simp [startB, inB] at hs
    refine truthsL_bound r _ t (fun x hx => hst x (by simp [hx])) (fun x hx => ?_) h
    rcases List.mem_append.1 hx with hx | hx
    · exact hb x hx
    · simp at hx
      unfold widthN at hi
      omega
attribute [local simp] ints_cells
set_option maxHeartbeats 1000000 in
theorem ref01_All_meets (p : Plan) (sn : List Sn) (n : Nat) (hok : p.ok = true) (hn : p.rows = n) (h : seensB p sn = true) : Meets (Tz g) f_ref01_All [p.d, seens sn] ⟨.own 0 0, [⟨0, T_l_int, .lst ((fitL p sn).map ints)⟩]⟩ := by
  obtain ⟨a1, a2, a3, a4, a5⟩ := Plan.ok_len hok
  obtain ⟨h1, h2⟩ := seensB_rows hn h
  refine meets_ref01_All ?_
  unfold vc_ref01_All
  simp [Plan.d, spans]
  refine CALL.mk [p.d, ints []] _ (by simp [Plan.d, spans, ints]) (ref01_truths_meets p ⟨a2, a1⟩ a5 p.starts [] rfl (by simp)) (.inl rfl) (by simp) ?_
  have hc0 := truthsL_cnt p.starts [] a5
  have h7 : 7 ^ p.starts.length ≤ 7 ^ 4 := Nat.pow_le_pow_right (by omega) a2
  have hlen : ∀ t, t ∈ truthsL p.starts [] → t.length = p.starts.length := fun t ht => by simpa using truthsL_len p.starts [] t ht
  have hbd : ∀ t, t ∈ truthsL p.starts [] → ∀ x, x ∈ t → -99999 ≤ x ∧ x ≤ 99999 := fun t ht => truthsL_bound p.starts [] t a5 (by simp) ht
  have hfl : fitL p sn = (truthsL p.starts []).filter (fitsB p sn) := rfl
  rw [hfl]
  generalize truthsL p.starts [] = ts at *
  simp
  refine LOOP.mk Nat (fun j => [.d (seens sn), .own 48 0, .own 80 ((ts.take j).filter (fitsB p sn)).length, .d (int j)])
    (fun j => [(80, some ⟨((ts.take j).filter (fitsB p sn)).length, T_l_int, .lst (((ts.take j).filter (fitsB p sn)).map ints)⟩), (48, some ⟨0, T_l_int, .lst (ts.map ints)⟩)])
    (fun j => j ≤ ts.length) (fun j => ts.length - j) [(2, T_l_int)] (by simp) 0 (by omega) (by simp [WEAK]) (fun _ _ => rfl) ?_
  intro j hj
  obtain ⟨ys, hys⟩ : ∃ ys, ys = (ts.take j).filter (fitsB p sn) := ⟨_, rfl⟩
  have hyl : ys.length ≤ 2401 := by
    have e1 : ys.length ≤ (ts.take j).length := by rw [hys]; exact List.length_filter_le _ _
    have e2 : (ts.take j).length ≤ ts.length := by simp; omega
    omega
  rw [← hys]
  simp [vc_ref01_All_k1]
  constructor
  · intro hlt
    have hg : ts[j]? = some ts[j] := List.getElem?_eq_getElem hlt
    have hm : ts[j] ∈ ts := List.getElem_mem hlt
    generalize ts[j] = t at hg hm
    have e1 := hlen t hm
    have e2 := hbd t hm
    simp [hg]
    refine ⟨hlt, ?_⟩
    refine CALL.val [ints t, seens sn] _ (by simp [ints]) (ref01_Fits_meets p t sn n hn (by omega) (by omega) (by omega) (fun x hx => by have := e2 x hx; omega) h1 (by omega)) (.inl rfl) ?_
    simp [vc_ref01_All_k0, hg]
    constructor
    · intro hf
      refine ⟨hlt, by omega, ?_⟩
      rw [wrap_id (n := (j : Int) + 1) (by omega) (by omega)]
      refine ⟨j + 1, by omega, ?_, by omega⟩
      rw [List.take_add_one, hg]
      simp [WEAK, ← hys, hf, List.filter_append]
    · intro hf
      rw [wrap_id (n := (j : Int) + 1) (by omega) (by omega)]
      refine ⟨j + 1, by omega, ?_, by omega⟩
      rw [List.take_add_one, hg]
      simp [WEAK, ← hys, hf, List.filter_append]
  · intro hge
    have : j = ts.length := by omega
    subst this
    rw [List.take_length] at hys
    simp [hys]
end Go.Vc

namespace Go.Vc
open Go Go.Proofs
variable {g : GG}
attribute [local simp] and_assoc
attribute [local simp] ints_cells
end Go.Vc
