/- A part of the proof: general laws of a reading of the model by abstract data, or contracts of the functions that the law calls. -/
import Derived.Test.YtflbianfhogdjaaGreatDoorVc22
import Derived.Test.YtflbianfhogdjaaGreatDoorVc11
import Derived.Test.YtflbianfhogdjaaGreatDoorVc33
set_option maxRecDepth 100000
namespace Go.Vc
open Go Go.Proofs Go.RowKit
def ann_differ_hasStart : Nat → List Nat := fun n => match n with  | _ => []
def vc_differ_hasStart (P : Ctx) (pre : List ABlk) (a0 a1 : AV) (r : AV) (post : List PB) : Prop :=
  let h0 : Heap := numbered 0 pre
  BOX T_api_DifferPlan a0 24 h0 fun v2 h1 =>
  FADDR 0 v2 h1 fun v6 =>
  LOAD false 1 v6 h1 fun v7 =>
  LEN false v7 h1 fun v8 =>
  BIN 0 .sub v8 (.d (.num .i64 1)) fun v9 =>
  CALL P f_differ_in [a1, (.d (.num .i64 0)), v9] 80 h1 (fun _ v10 h2 =>
  POST v10 h2 pre r post)
  (fun _ _ _ => False)
theorem vc_differ_hasStart_eq (g : GG) (pre : List ABlk) (a0 a1 : AV) (r : AV) (post : List PB) : vcFn2 (Tz g) false ann_differ_hasStart Tryz.f86 pre [a0, a1] (.ret r) post = vc_differ_hasStart (Tz g) pre a0 a1 r post := by kernel_rfl
theorem hf_differ_hasStart : Tryz.prog.funcs[f_differ_hasStart]? = some Tryz.f86 := by kernel_rfl
theorem ok_differ_hasStart : fnVcOK Tryz.prog Tryz.f86 = true := by kernel_rfl
theorem nt_differ_hasStart : Nat.ble 2 Tryz.f86.ntmps = true := by kernel_rfl
theorem meetsH_differ_hasStart {g : GG} {pre : List ABlk} {a0 a1 : AV} {r : AV} {post : List PB} (hk : Nat.ble pre.length 24 = true) (h : vc_differ_hasStart (Tz g) pre a0 a1 r post) : MeetsH (Tz g) f_differ_hasStart pre [a0, a1] (.ret r) post :=
  meetsH_of_vc (C := Tz g) ann_differ_hasStart hf_differ_hasStart ok_differ_hasStart nt_differ_hasStart hk (pn := false) (Eq.mpr ((vcFn2_eq _ _ _ _ _ _ _ _).trans (vc_differ_hasStart_eq g pre a0 a1 r post)) h)
theorem meets_differ_hasStart {g : GG} {a0 a1 : D} {r : Res} (h : vc_differ_hasStart (Tz g) [] (.d a0) (.d a1) r.val (r.bl.map .upd)) : Meets (Tz g) f_differ_hasStart [a0, a1] r := meetsH_differ_hasStart rfl h
def ann_differ_allSure : Nat → List Nat := fun n => match n with  | _ => []
def vc_differ_allSure (P : Ctx) (pre : List ABlk) (a0 : AV) (r : AV) (post : List PB) : Prop :=
  let h0 : Heap := numbered 0 pre
  BOX T_api_DifferPlan a0 24 h0 fun v1 h1 =>
  CALL P f_differ_attempt [(.fn f_differ_allSure_1 [] [v1])] 48 h1 (fun _ v7 h2 =>
  EXT v7 0 fun v8 =>
  EXT v7 1 fun v9 =>
  BIN 0 .eql v9 (.d (.num .i64 0)) fun v11 =>
  POST v11 h2 pre r post)
  (fun _ _ _ => False)
theorem vc_differ_allSure_eq (g : GG) (pre : List ABlk) (a0 : AV) (r : AV) (post : List PB) : vcFn2 (Tz g) false ann_differ_allSure Tryz.f88 pre [a0] (.ret r) post = vc_differ_allSure (Tz g) pre a0 r post := by kernel_rfl
theorem hf_differ_allSure : Tryz.prog.funcs[f_differ_allSure]? = some Tryz.f88 := by kernel_rfl
theorem ok_differ_allSure : fnVcOK Tryz.prog Tryz.f88 = true := by kernel_rfl
theorem nt_differ_allSure : Nat.ble 1 Tryz.f88.ntmps = true := by kernel_rfl
theorem meetsH_differ_allSure {g : GG} {pre : List ABlk} {a0 : AV} {r : AV} {post : List PB} (hk : Nat.ble pre.length 24 = true) (h : vc_differ_allSure (Tz g) pre a0 r post) : MeetsH (Tz g) f_differ_allSure pre [a0] (.ret r) post :=
  meetsH_of_vc (C := Tz g) ann_differ_allSure hf_differ_allSure ok_differ_allSure nt_differ_allSure hk (pn := false) (Eq.mpr ((vcFn2_eq _ _ _ _ _ _ _ _).trans (vc_differ_allSure_eq g pre a0 r post)) h)
theorem meets_differ_allSure {g : GG} {a0 : D} {r : Res} (h : vc_differ_allSure (Tz g) [] (.d a0) r.val (r.bl.map .upd)) : Meets (Tz g) f_differ_allSure [a0] r := meetsH_differ_allSure rfl h
def ann_differ_allSure_1 : Nat → List Nat := fun n => match n with  | _ => []
def vc_differ_allSure_1 (P : Ctx) (pre : List ABlk) (a0 : AV) (r : AV) (post : List PB) : Prop :=
  let h0 : Heap := numbered 0 pre
  LOAD true 3 a0 h0 fun v1 =>
  CALL P f_differ_mustBeSure [v1] 32 h0 (fun _ v2 h1 =>
  POST (.tup []) h1 pre r post)
  (fun _ _ _ => False)
theorem vc_differ_allSure_1_eq (g : GG) (pre : List ABlk) (a0 : AV) (r : AV) (post : List PB) : vcFn2 (Tz g) false ann_differ_allSure_1 Tryz.f117 pre [a0] (.ret r) post = vc_differ_allSure_1 (Tz g) pre a0 r post := by kernel_rfl
theorem hf_differ_allSure_1 : Tryz.prog.funcs[f_differ_allSure_1]? = some Tryz.f117 := by kernel_rfl
theorem ok_differ_allSure_1 : fnVcOK Tryz.prog Tryz.f117 = true := by kernel_rfl
theorem nt_differ_allSure_1 : Nat.ble 1 Tryz.f117.ntmps = true := by kernel_rfl
theorem meetsH_differ_allSure_1 {g : GG} {pre : List ABlk} {a0 : AV} {r : AV} {post : List PB} (hk : Nat.ble pre.length 24 = true) (h : vc_differ_allSure_1 (Tz g) pre a0 r post) : MeetsH (Tz g) f_differ_allSure_1 pre [a0] (.ret r) post :=
  meetsH_of_vc (C := Tz g) ann_differ_allSure_1 hf_differ_allSure_1 ok_differ_allSure_1 nt_differ_allSure_1 hk (pn := false) (Eq.mpr ((vcFn2_eq _ _ _ _ _ _ _ _).trans (vc_differ_allSure_1_eq g pre a0 r post)) h)
theorem meets_differ_allSure_1 {g : GG} {a0 : D} {r : Res} (h : vc_differ_allSure_1 (Tz g) [] (.d a0) r.val (r.bl.map .upd)) : Meets (Tz g) f_differ_allSure_1 [a0] r := meetsH_differ_allSure_1 rfl h
def annp_differ_allSure_1 : Nat → List Nat := fun n => match n with  | _ => []
def vcp_differ_allSure_1 (P : Ctx) (pre : List ABlk) (a0 : AV) (r : AV) (post : List PB) : Prop :=
  let h0 : Heap := numbered 0 pre
  LOAD true 3 a0 h0 fun v1 =>
  CALL P f_differ_mustBeSure [v1] 32 h0 (fun _ v2 h1 =>
  False)
  (fun _ pv3 ph4 =>
  POST pv3 ph4 pre r post)
theorem vcp_differ_allSure_1_eq (g : GG) (pre : List ABlk) (a0 : AV) (r : AV) (post : List PB) : vcFn2 (Tz g) true annp_differ_allSure_1 Tryz.f117 pre [a0] (.pan r) post = vcp_differ_allSure_1 (Tz g) pre a0 r post := by kernel_rfl
theorem hfp_differ_allSure_1 : Tryz.prog.funcs[f_differ_allSure_1]? = some Tryz.f117 := by kernel_rfl
theorem okp_differ_allSure_1 : fnVcOK Tryz.prog Tryz.f117 = true := by kernel_rfl
theorem ntp_differ_allSure_1 : Nat.ble 1 Tryz.f117.ntmps = true := by kernel_rfl
theorem meetsHp_differ_allSure_1 {g : GG} {pre : List ABlk} {a0 : AV} {r : AV} {post : List PB} (hk : Nat.ble pre.length 24 = true) (h : vcp_differ_allSure_1 (Tz g) pre a0 r post) : MeetsH (Tz g) f_differ_allSure_1 pre [a0] (.pan r) post :=
  meetsH_of_vc (C := Tz g) annp_differ_allSure_1 hfp_differ_allSure_1 okp_differ_allSure_1 ntp_differ_allSure_1 hk (pn := true) (Eq.mpr ((vcFn2_eq _ _ _ _ _ _ _ _).trans (vcp_differ_allSure_1_eq g pre a0 r post)) h)
theorem meetsP_differ_allSure_1 {g : GG} {a0 : D} {x : D} (h : vcp_differ_allSure_1 (Tz g) [] (.d a0) (.d x) []) : MeetsP (Tz g) f_differ_allSure_1 [a0] x := meetsHp_differ_allSure_1 rfl h
def ann_differ_Widest : Nat → List Nat := fun n => match n with | 7 => [1, 2, 6, 7, 8, 28] | _ => []
def vc_differ_Widest_k0 (P : Ctx) (pre : List ABlk) (r : AV) (post : List PB) (v0 : AV) (vs1 : List AV) (h2 : Heap) (next11 : List AV → Heap → Prop) : Prop :=
  CONDG v0
  (LOAD true 3 (nth vs1 1) h2 fun v3 =>
  CALL P f_differ_allSure [v3] 408 h2 (fun _ v5 h6 =>
  COND v5
  (FADDR 1 (nth vs1 2) h6 fun v7 =>
  LOAD false 1 v7 h6 fun v8 =>
  NOT (.d (.bool true)) fun v9 =>
  COND v9
  (POST (.tup [(.d (.num .i64 0)), (.d (.num .i64 5))]) h6 pre r post)
  (POST (.tup [v8, (.d (.num .i64 0))]) h6 pre r post))
  (BIN 0 .add (nth vs1 5) (.d (.num .i64 1)) fun v10 =>
  next11 [(nth vs1 0), (nth vs1 1), (nth vs1 2), (nth vs1 3), (nth vs1 4), v10] h6))
  (fun _ _ _ => False))
  (BIN 0 .add (nth vs1 5) (.d (.num .i64 1)) fun v10 =>
  next11 [(nth vs1 0), (nth vs1 1), (nth vs1 2), (nth vs1 3), (nth vs1 4), v10] h2)
def vc_differ_Widest_k1 (P : Ctx) (pre : List ABlk) (r : AV) (post : List PB) (vs0 : List AV) (h2 : Heap) (next18 : List AV → Heap → Prop) : Prop :=
  BIN 0 .lss (nth vs0 5) (.d (.num .i64 7)) fun v1 =>
  COND v1
  (FADDR 0 (nth vs0 2) h2 fun v3 =>
  LOAD false 1 v3 h2 fun v4 =>
  BIN 0 .add v4 (.d (.num .i64 6)) fun v5 =>
  BIN 0 .sub v5 (nth vs0 5) fun v6 =>
  FADDR 1 (nth vs0 2) h2 fun v7 =>
  STORE 1 v7 v6 h2 fun h8 =>
  FADDR 0 (nth vs0 1) h8 fun v9 =>
  LOAD false 1 v9 h8 fun v10 =>
  LOAD true 2 (nth vs0 2) h8 fun v11 =>
  IADDR 2 T_api_Span v10 (nth vs0 0) h8 fun v12 =>
  STORE 2 v12 v11 h8 fun h13 =>
  LOAD true 3 (nth vs0 1) h13 fun v14 =>
  CALL P f_differ_isPlan [v14] 384 h13 (fun _ v16 h17 =>
  vc_differ_Widest_k0 P pre r post v16 vs0 h17 next18)
  (fun _ _ _ => False))
  (NOT (nth vs0 4) fun v19 =>
  COND v19
  (POST (.tup [(.d (.num .i64 0)), (.d (.num .i64 5))]) h2 pre r post)
  (POST (.tup [(nth vs0 3), (.d (.num .i64 0))]) h2 pre r post))
def vc_differ_Widest_k2 (P : Ctx) (pre : List ABlk) (r : AV) (post : List PB) (v0 : AV) (h1 : Heap) (v3 : AV) (a7 : AV) : Prop :=
  FADDR 0 v0 h1 fun v2 =>
  STORE 1 v2 v3 h1 fun h4 =>
  FADDR 0 v0 h4 fun v5 =>
  LOAD false 1 v5 h4 fun v6 =>
  IADDR 2 T_api_Span v6 a7 h4 fun v8 =>
  LOAD true 2 v8 h4 fun v9 =>
  ALLOC T_api_Span [.d (.num .i64 0), .d (.num .i64 0)] 200 h4 fun v10 h11 =>
  STORE 2 v10 v9 h11 fun h12 =>
  LOOP [a7, v0, v10, (.d (.num .i64 0)), (.d (.bool false)), (.d (.num .i64 0))] h12 240 fun vs13 h14 next15 =>
  vc_differ_Widest_k1 P pre r post vs13 h14 next15
def vc_differ_Widest_k3 (P : Ctx) (pre : List ABlk) (r : AV) (post : List PB) (v0 : AV) (h2 : Heap) (v3 : AV) (a5 : AV) : Prop :=
  NOT v0 fun v1 =>
  CONDG v1
  (POST (.tup [(.d (.num .i64 0)), (.d (.num .i64 2))]) h2 pre r post)
  (LOAD true 3 v3 h2 fun v4 =>
  CALL P f_differ_hasStart [v4, a5] 96 h2 (fun _ v7 h8 =>
  NOT v7 fun v9 =>
  COND v9
  (POST (.tup [(.d (.num .i64 0)), (.d (.num .i64 2))]) h8 pre r post)
  (FADDR 0 v3 h8 fun v10 =>
  LOAD false 1 v10 h8 fun v11 =>
  CALL P f_slices_Clone_l_api_Span_api_Span [v11] 136 h8 (fun _ v13 h14 =>
  vc_differ_Widest_k2 P pre r post v3 h14 v13 a5)
  (fun _ _ _ => False)))
  (fun _ _ _ => False))
def vc_differ_Widest (P : Ctx) (pre : List ABlk) (a0 a1 : AV) (r : AV) (post : List PB) : Prop :=
  let h0 : Heap := numbered 0 pre
  BOX T_api_DifferPlan a0 24 h0 fun v2 h1 =>
  LOAD true 3 v2 h1 fun v10 =>
  CALL P f_differ_isPlan [v10] 56 h1 (fun _ v11 h2 =>
  vc_differ_Widest_k3 P pre r post v11 h2 v2 a1)
  (fun _ _ _ => False)
theorem vc_differ_Widest_eq (g : GG) (pre : List ABlk) (a0 a1 : AV) (r : AV) (post : List PB) : vcFn2 (Tz g) false ann_differ_Widest Tryz.f53 pre [a0, a1] (.ret r) post = vc_differ_Widest (Tz g) pre a0 a1 r post := by kernel_rfl
theorem hf_differ_Widest : Tryz.prog.funcs[f_differ_Widest]? = some Tryz.f53 := by kernel_rfl
theorem ok_differ_Widest : fnVcOK Tryz.prog Tryz.f53 = true := by kernel_rfl
theorem nt_differ_Widest : Nat.ble 2 Tryz.f53.ntmps = true := by kernel_rfl
theorem meetsH_differ_Widest {g : GG} {pre : List ABlk} {a0 a1 : AV} {r : AV} {post : List PB} (hk : Nat.ble pre.length 24 = true) (h : vc_differ_Widest (Tz g) pre a0 a1 r post) : MeetsH (Tz g) f_differ_Widest pre [a0, a1] (.ret r) post :=
  meetsH_of_vc (C := Tz g) ann_differ_Widest hf_differ_Widest ok_differ_Widest nt_differ_Widest hk (pn := false) (Eq.mpr ((vcFn2_eq _ _ _ _ _ _ _ _).trans (vc_differ_Widest_eq g pre a0 a1 r post)) h)
theorem meets_differ_Widest {g : GG} {a0 a1 : D} {r : Res} (h : vc_differ_Widest (Tz g) [] (.d a0) (.d a1) r.val (r.bl.map .upd)) : Meets (Tz g) f_differ_Widest [a0, a1] r := meetsH_differ_Widest rfl h
def ann_differ_shares : Nat → List Nat := fun n => match n with | 3 => [1, 2, 5, 11, 12, 13] | _ => []
def vc_differ_shares_k0 (P : Ctx) (pre : List ABlk) (r : AV) (post : List PB) (v0 : AV) (h1 : Heap) (v7 : AV) (vs11 : List AV) (next18 : List AV → Heap → Prop) : Prop :=
  FADDR 1 v0 h1 fun v2 =>
  LOAD false 1 v2 h1 fun v3 =>
  FADDR 0 v0 h1 fun v4 =>
  LOAD false 1 v4 h1 fun v5 =>
  BIN 0 .sub v3 v5 fun v6 =>
  IADDR 1 T_int v7 (.d (.num .i64 0)) h1 fun v8 =>
  LOAD false 1 v8 h1 fun v9 =>
  BIN 0 .mul v6 v9 fun v10 =>
  BUILD [(0, 1), (1, 1)] [.d (.num .i64 0), .d (.num .i64 0)] [(0, (nth vs11 5)), (1, v10)] fun v12 =>
  MKS T_differ_share 2 [v12] 360 h1 fun v13 h14 =>
  APP T_differ_share 2 (nth vs11 2) v13 368 h14 fun v15 h16 =>
  ORDX [] [0, 0, 0, 4, 0, 16, 60, 0, 128, 384, 1020, 2046, 4094, 8191, 16383] [(2, wr h1 h1, (ids v0)), (3, wr h1 h1, (ids v2)), (4, wr h1 h1, (ids v0)), (5, wr h1 h1, (ids v4)), (8, wr h1 h1, (ids v7)), (9, wr h1 h1, (ids v8)), (12, wr h1 h14, (ids.idsL [v12])), (13, wr h14 h16, (ids.idsL [(nth vs11 2), v13]))] ∧
  BIN 0 .add (nth vs11 5) (.d (.num .i64 1)) fun v17 =>
  next18 [(nth vs11 0), (nth vs11 1), v15, (nth vs11 3), (nth vs11 4), v17] h16
def vc_differ_shares_k1 (P : Ctx) (pre : List ABlk) (r : AV) (post : List PB) (vs0 : List AV) (h2 : Heap) (next20 : List AV → Heap → Prop) : Prop :=
  BIN 0 .lss (nth vs0 5) (nth vs0 4) fun v1 =>
  COND v1
  (IADDR 2 T_api_Span (nth vs0 3) (nth vs0 5) h2 fun v3 =>
  LOAD true 2 v3 h2 fun v4 =>
  ALLOC T_api_Span [.d (.num .i64 0), .d (.num .i64 0)] 120 h2 fun v5 h6 =>
  STORE 2 v5 v4 h6 fun h7 =>
  FADDR 0 (nth vs0 1) h7 fun v8 =>
  LOAD false 1 v8 h7 fun v9 =>
  LEN false v9 h7 fun v10 =>
  MAKE T_int (.num .i64 0) v10 168 h7 fun v11 h12 =>
  IADDR 1 T_int v11 (nth vs0 5) h12 fun v13 =>
  STORE 1 v13 (.d (.num .i64 1)) h12 fun h14 =>
  LOAD true 3 (nth vs0 1) h14 fun v15 =>
  BUILD [(0, 3), (3, 1)] [.zc, .d (.num .i64 0), .d (.num .i64 0), .zc] [(0, v15), (1, v11)] fun v16 =>
  CALL P f_differ_table_state [v16, (nth vs0 0)] 248 h14 (fun _ v18 h19 =>
  vc_differ_shares_k0 P pre r post v5 h19 v18 vs0 next20)
  (fun _ _ _ => False))
  (POST (nth vs0 2) h2 pre r post)
def vc_differ_shares (P : Ctx) (pre : List ABlk) (a0 a1 : AV) (r : AV) (post : List PB) : Prop :=
  let h0 : Heap := numbered 0 pre
  BOX T_api_DifferPlan a0 24 h0 fun v2 h1 =>
  FADDR 0 v2 h1 fun v10 =>
  LOAD false 1 v10 h1 fun v11 =>
  LEN false v11 h1 fun v12 =>
  LOOP [a1, v2, .zc, v11, v12, (.d (.num .i64 0))] h1 80 fun vs2 h3 next2 =>
  vc_differ_shares_k1 P pre r post vs2 h3 next2
theorem vc_differ_shares_eq (g : GG) (pre : List ABlk) (a0 a1 : AV) (r : AV) (post : List PB) : vcFn2 (Tz g) false ann_differ_shares Tryz.f89 pre [a0, a1] (.ret r) post = vc_differ_shares (Tz g) pre a0 a1 r post := by kernel_rfl
theorem hf_differ_shares : Tryz.prog.funcs[f_differ_shares]? = some Tryz.f89 := by kernel_rfl
theorem ok_differ_shares : fnVcOK Tryz.prog Tryz.f89 = true := by kernel_rfl
theorem nt_differ_shares : Nat.ble 2 Tryz.f89.ntmps = true := by kernel_rfl
theorem meetsH_differ_shares {g : GG} {pre : List ABlk} {a0 a1 : AV} {r : AV} {post : List PB} (hk : Nat.ble pre.length 24 = true) (h : vc_differ_shares (Tz g) pre a0 a1 r post) : MeetsH (Tz g) f_differ_shares pre [a0, a1] (.ret r) post :=
  meetsH_of_vc (C := Tz g) ann_differ_shares hf_differ_shares ok_differ_shares nt_differ_shares hk (pn := false) (Eq.mpr ((vcFn2_eq _ _ _ _ _ _ _ _).trans (vc_differ_shares_eq g pre a0 a1 r post)) h)
theorem meets_differ_shares {g : GG} {a0 a1 : D} {r : Res} (h : vc_differ_shares (Tz g) [] (.d a0) (.d a1) r.val (r.bl.map .upd)) : Meets (Tz g) f_differ_shares [a0, a1] r := meetsH_differ_shares rfl h
def ann_differ_sum : Nat → List Nat := fun n => match n with | 3 => [3, 6, 7, 8] | _ => []
def vc_differ_sum (P : Ctx) (pre : List ABlk) (a0 : AV) (r : AV) (post : List PB) : Prop :=
  let h0 : Heap := numbered 0 pre
  LEN false a0 h0 fun v7 =>
  LOOP [(.d (.num .i64 0)), a0, v7, (.d (.num .i64 0))] h0 64 fun vs1 h2 next1 =>
  BIN 0 .lss (nth vs1 3) (nth vs1 2) fun v9 =>
  COND v9
  (IADDR 1 T_int (nth vs1 1) (nth vs1 3) h2 fun v10 =>
  LOAD false 1 v10 h2 fun v11 =>
  BIN 0 .add (nth vs1 0) v11 fun v14 =>
  BIN 0 .add (nth vs1 3) (.d (.num .i64 1)) fun v15 =>
  next1 [v14, (nth vs1 1), (nth vs1 2), v15] h2)
  (POST (nth vs1 0) h2 pre r post)
theorem vc_differ_sum_eq (g : GG) (pre : List ABlk) (a0 : AV) (r : AV) (post : List PB) : vcFn2 (Tz g) false ann_differ_sum Tryz.f90 pre [a0] (.ret r) post = vc_differ_sum (Tz g) pre a0 r post := by kernel_rfl
theorem hf_differ_sum : Tryz.prog.funcs[f_differ_sum]? = some Tryz.f90 := by kernel_rfl
theorem ok_differ_sum : fnVcOK Tryz.prog Tryz.f90 = true := by kernel_rfl
theorem nt_differ_sum : Nat.ble 1 Tryz.f90.ntmps = true := by kernel_rfl
theorem meetsH_differ_sum {g : GG} {pre : List ABlk} {a0 : AV} {r : AV} {post : List PB} (hk : Nat.ble pre.length 24 = true) (h : vc_differ_sum (Tz g) pre a0 r post) : MeetsH (Tz g) f_differ_sum pre [a0] (.ret r) post :=
  meetsH_of_vc (C := Tz g) ann_differ_sum hf_differ_sum ok_differ_sum nt_differ_sum hk (pn := false) (Eq.mpr ((vcFn2_eq _ _ _ _ _ _ _ _).trans (vc_differ_sum_eq g pre a0 r post)) h)
theorem meets_differ_sum {g : GG} {a0 : D} {r : Res} (h : vc_differ_sum (Tz g) [] (.d a0) r.val (r.bl.map .upd)) : Meets (Tz g) f_differ_sum [a0] r := meetsH_differ_sum rfl h
def ann_differ_best_differ_share : Nat → List Nat := fun n => match n with | 3 => [1, 4, 5, 12, 13, 14] | _ => []
def vc_differ_best_differ_share_k0 (P : Ctx) (pre : List ABlk) (r : AV) (post : List PB) (vs0 : List AV) (h2 : Heap) (next16 : List AV → Heap → Prop) : Prop :=
  BIN 0 .lss (nth vs0 5) (nth vs0 4) fun v1 =>
  COND v1
  (IADDR 2 T_differ_share (nth vs0 3) (nth vs0 5) h2 fun v3 =>
  LOAD true 2 v3 h2 fun v4 =>
  ALLOC T_differ_share [.d (.num .i64 0), .d (.num .i64 0)] 136 h2 fun v5 h6 =>
  STORE 2 v5 v4 h6 fun h7 =>
  LOAD true 2 v5 h7 fun v8 =>
  LOAD true 2 (nth vs0 2) h7 fun v9 =>
  CALLV P (nth vs0 0) [v8, v9] 176 h7 (fun _ v11 h12 =>
  COND v11
  (LOAD true 2 v5 h12 fun v13 =>
  STORE 2 (nth vs0 2) v13 h12 fun h14 =>
  BIN 0 .add (nth vs0 5) (.d (.num .i64 1)) fun v15 =>
  next16 [(nth vs0 0), (nth vs0 1), (nth vs0 2), (nth vs0 3), (nth vs0 4), v15] h14)
  (BIN 0 .add (nth vs0 5) (.d (.num .i64 1)) fun v15 =>
  next16 [(nth vs0 0), (nth vs0 1), (nth vs0 2), (nth vs0 3), (nth vs0 4), v15] h12))
  (fun _ _ _ => False))
  (LOAD true 2 (nth vs0 2) h2 fun v17 =>
  STORE 2 (nth vs0 1) v17 h2 fun h18 =>
  LOAD true 2 (nth vs0 1) h18 fun r12 =>
  POST r12 h18 pre r post)
def vc_differ_best_differ_share (P : Ctx) (pre : List ABlk) (a0 a1 : AV) (r : AV) (post : List PB) : Prop :=
  let h0 : Heap := numbered 0 pre
  ALLOC T_differ_share [.d (.num .i64 0), .d (.num .i64 0)] 24 h0 fun v4 h1 =>
  IADDR 2 T_differ_share a0 (.d (.num .i64 0)) h1 fun v9 =>
  LOAD true 2 v9 h1 fun v10 =>
  ALLOC T_differ_share [.d (.num .i64 0), .d (.num .i64 0)] 56 h1 fun v5 h2 =>
  STORE 2 v5 v10 h2 fun h3 =>
  SLICE 3 a0 (some (.d (.num .i64 1))) none none fun v12 =>
  LEN false v12 h3 fun v13 =>
  LOOP [a1, v4, v5, v12, v13, (.d (.num .i64 0))] h3 104 fun vs4 h5 next4 =>
  vc_differ_best_differ_share_k0 P pre r post vs4 h5 next4
theorem vc_differ_best_differ_share_eq (g : GG) (pre : List ABlk) (a0 a1 : AV) (r : AV) (post : List PB) : vcFn2 (Tz g) false ann_differ_best_differ_share Tryz.f91 pre [a0, a1] (.ret r) post = vc_differ_best_differ_share (Tz g) pre a0 a1 r post := by kernel_rfl
theorem hf_differ_best_differ_share : Tryz.prog.funcs[f_differ_best_differ_share]? = some Tryz.f91 := by kernel_rfl
theorem ok_differ_best_differ_share : fnVcOK Tryz.prog Tryz.f91 = true := by kernel_rfl
theorem nt_differ_best_differ_share : Nat.ble 2 Tryz.f91.ntmps = true := by kernel_rfl
theorem meetsH_differ_best_differ_share {g : GG} {pre : List ABlk} {a0 a1 : AV} {r : AV} {post : List PB} (hk : Nat.ble pre.length 24 = true) (h : vc_differ_best_differ_share (Tz g) pre a0 a1 r post) : MeetsH (Tz g) f_differ_best_differ_share pre [a0, a1] (.ret r) post :=
  meetsH_of_vc (C := Tz g) ann_differ_best_differ_share hf_differ_best_differ_share ok_differ_best_differ_share nt_differ_best_differ_share hk (pn := false) (Eq.mpr ((vcFn2_eq _ _ _ _ _ _ _ _).trans (vc_differ_best_differ_share_eq g pre a0 a1 r post)) h)
theorem meets_differ_best_differ_share {g : GG} {a0 a1 : D} {r : Res} (h : vc_differ_best_differ_share (Tz g) [] (.d a0) (.d a1) r.val (r.bl.map .upd)) : Meets (Tz g) f_differ_best_differ_share [a0, a1] r := meetsH_differ_best_differ_share rfl h
def ann_differ_Blame : Nat → List Nat := fun n => match n with | 6 => [6, 7, 22, 23, 24] | _ => []
def vc_differ_Blame_k0 (P : Ctx) (pre : List ABlk) (r : AV) (post : List PB) (vs0 : List AV) (h1 : Heap) (next14 : List AV → Heap → Prop) : Prop :=
  IADDR 2 T_differ_share (nth vs0 2) (nth vs0 4) h1 fun v2 =>
  LOAD true 2 v2 h1 fun v3 =>
  ALLOC T_differ_share [.d (.num .i64 0), .d (.num .i64 0)] 216 h1 fun v4 h5 =>
  STORE 2 v4 v3 h5 fun h6 =>
  FADDR 1 v4 h6 fun v7 =>
  LOAD false 1 v7 h6 fun v8 =>
  MKS T_int 1 [v8] 256 h6 fun v9 h10 =>
  APP T_int 1 (nth vs0 1) v9 264 h10 fun v11 h12 =>
  BIN 0 .add (nth vs0 4) (.d (.num .i64 1)) fun v13 =>
  next14 [(nth vs0 0), v11, (nth vs0 2), (nth vs0 3), v13] h12
def vc_differ_Blame_k1 (P : Ctx) (pre : List ABlk) (r : AV) (post : List PB) (vs0 : List AV) (h1 : Heap) : Prop :=
  CALL P f_differ_sum [(nth vs0 1)] 208 h1 (fun _ v3 h4 =>
  BIN 0 .eql v3 (.d (.num .i64 0)) fun v5 =>
  COND v5
  (POST (.tup [(.d (.num .i64 0)), (.d (.num .i64 5))]) h4 pre r post)
  (CALL P f_differ_best_differ_share [(nth vs0 0), (.d (.fn f_differ_Blame_1 [] []))] 232 h4 (fun _ v7 h8 =>
  PART false 1 0 v7 fun v9 =>
  POST (.tup [v9, (.d (.num .i64 0))]) h8 pre r post)
  (fun _ _ _ => False)))
  (fun _ _ _ => False)
def vc_differ_Blame_k2 (P : Ctx) (pre : List ABlk) (r : AV) (post : List PB) (v0 : AV) (h2 : Heap) (v3 : AV) (a5 : AV) : Prop :=
  NOT v0 fun v1 =>
  COND v1
  (POST (.tup [(.d (.num .i64 0)), (.d (.num .i64 2))]) h2 pre r post)
  (LOAD true 3 v3 h2 fun v4 =>
  CALL P f_differ_shares [v4, a5] 136 h2 (fun _ v7 h8 =>
  LEN false v7 h8 fun v9 =>
  LOOP [v7, .zc, v7, v9, (.d (.num .i64 0))] h8 184 fun vs10 h11 next12 =>
  BIN 0 .lss (nth vs10 4) (nth vs10 3) fun v13 =>
  COND v13
  (vc_differ_Blame_k0 P pre r post vs10 h11 next12)
  (vc_differ_Blame_k1 P pre r post vs10 h11))
  (fun _ _ _ => False))
def vc_differ_Blame (P : Ctx) (pre : List ABlk) (a0 a1 : AV) (r : AV) (post : List PB) : Prop :=
  let h0 : Heap := numbered 0 pre
  BOX T_api_DifferPlan a0 24 h0 fun v2 h1 =>
  LOAD true 3 v2 h1 fun v10 =>
  CALL P f_differ_isPlan [v10] 56 h1 (fun _ v11 h2 =>
  NOT v11 fun v12 =>
  CONDG v12
  (POST (.tup [(.d (.num .i64 0)), (.d (.num .i64 2))]) h2 pre r post)
  (LOAD true 3 v2 h2 fun v14 =>
  CALL P f_differ_hasRow [v14, a1] 96 h2 (fun _ v16 h4 =>
  vc_differ_Blame_k2 P pre r post v16 h4 v2 a1)
  (fun _ _ _ => False)))
  (fun _ _ _ => False)
theorem vc_differ_Blame_eq (g : GG) (pre : List ABlk) (a0 a1 : AV) (r : AV) (post : List PB) : vcFn2 (Tz g) false ann_differ_Blame Tryz.f54 pre [a0, a1] (.ret r) post = vc_differ_Blame (Tz g) pre a0 a1 r post := by kernel_rfl
theorem hf_differ_Blame : Tryz.prog.funcs[f_differ_Blame]? = some Tryz.f54 := by kernel_rfl
theorem ok_differ_Blame : fnVcOK Tryz.prog Tryz.f54 = true := by kernel_rfl
theorem nt_differ_Blame : Nat.ble 2 Tryz.f54.ntmps = true := by kernel_rfl
theorem meetsH_differ_Blame {g : GG} {pre : List ABlk} {a0 a1 : AV} {r : AV} {post : List PB} (hk : Nat.ble pre.length 24 = true) (h : vc_differ_Blame (Tz g) pre a0 a1 r post) : MeetsH (Tz g) f_differ_Blame pre [a0, a1] (.ret r) post :=
  meetsH_of_vc (C := Tz g) ann_differ_Blame hf_differ_Blame ok_differ_Blame nt_differ_Blame hk (pn := false) (Eq.mpr ((vcFn2_eq _ _ _ _ _ _ _ _).trans (vc_differ_Blame_eq g pre a0 a1 r post)) h)
theorem meets_differ_Blame {g : GG} {a0 a1 : D} {r : Res} (h : vc_differ_Blame (Tz g) [] (.d a0) (.d a1) r.val (r.bl.map .upd)) : Meets (Tz g) f_differ_Blame [a0, a1] r := meetsH_differ_Blame rfl h
def ann_differ_Blame_1 : Nat → List Nat := fun n => match n with  | _ => []
def vc_differ_Blame_1 (P : Ctx) (pre : List ABlk) (a0 a1 : AV) (r : AV) (post : List PB) : Prop :=
  let h0 : Heap := numbered 0 pre
  BOX T_differ_share a0 24 h0 fun v2 h1 =>
  BOX T_differ_share a1 32 h1 fun v3 h2 =>
  FADDR 1 v2 h2 fun v5 =>
  LOAD false 1 v5 h2 fun v6 =>
  FADDR 1 v3 h2 fun v7 =>
  LOAD false 1 v7 h2 fun v8 =>
  BIN 0 .gtr v6 v8 fun v9 =>
  POST v9 h2 pre r post
theorem vc_differ_Blame_1_eq (g : GG) (pre : List ABlk) (a0 a1 : AV) (r : AV) (post : List PB) : vcFn2 (Tz g) false ann_differ_Blame_1 Tryz.f92 pre [a0, a1] (.ret r) post = vc_differ_Blame_1 (Tz g) pre a0 a1 r post := by kernel_rfl
theorem hf_differ_Blame_1 : Tryz.prog.funcs[f_differ_Blame_1]? = some Tryz.f92 := by kernel_rfl
theorem ok_differ_Blame_1 : fnVcOK Tryz.prog Tryz.f92 = true := by kernel_rfl
theorem nt_differ_Blame_1 : Nat.ble 2 Tryz.f92.ntmps = true := by kernel_rfl
theorem meetsH_differ_Blame_1 {g : GG} {pre : List ABlk} {a0 a1 : AV} {r : AV} {post : List PB} (hk : Nat.ble pre.length 24 = true) (h : vc_differ_Blame_1 (Tz g) pre a0 a1 r post) : MeetsH (Tz g) f_differ_Blame_1 pre [a0, a1] (.ret r) post :=
  meetsH_of_vc (C := Tz g) ann_differ_Blame_1 hf_differ_Blame_1 ok_differ_Blame_1 nt_differ_Blame_1 hk (pn := false) (Eq.mpr ((vcFn2_eq _ _ _ _ _ _ _ _).trans (vc_differ_Blame_1_eq g pre a0 a1 r post)) h)
theorem meets_differ_Blame_1 {g : GG} {a0 a1 : D} {r : Res} (h : vc_differ_Blame_1 (Tz g) [] (.d a0) (.d a1) r.val (r.bl.map .upd)) : Meets (Tz g) f_differ_Blame_1 [a0, a1] r := meetsH_differ_Blame_1 rfl h
def ann_ref01_Begin : Nat → List Nat := fun n => match n with  | _ => []
def vc_ref01_Begin (P : Ctx) (pre : List ABlk) (a0 a1 : AV) (r : AV) (post : List PB) : Prop :=
  let h0 : Heap := numbered 0 pre
  BOX T_api_DifferPlan a0 24 h0 fun v2 h1 =>
  FADDR 0 v2 h1 fun v6 =>
  LOAD false 1 v6 h1 fun v7 =>
  LEN false v7 h1 fun v8 =>
  BIN 0 .sub v8 (.d (.num .i64 1)) fun v9 =>
  CALL P f_ref01_in [a1, (.d (.num .i64 0)), v9] 80 h1 (fun _ v10 h2 =>
  POST v10 h2 pre r post)
  (fun _ _ _ => False)
theorem vc_ref01_Begin_eq (g : GG) (pre : List ABlk) (a0 a1 : AV) (r : AV) (post : List PB) : vcFn2 (Tz g) false ann_ref01_Begin Tryz.f33 pre [a0, a1] (.ret r) post = vc_ref01_Begin (Tz g) pre a0 a1 r post := by kernel_rfl
theorem hf_ref01_Begin : Tryz.prog.funcs[f_ref01_Begin]? = some Tryz.f33 := by kernel_rfl
theorem ok_ref01_Begin : fnVcOK Tryz.prog Tryz.f33 = true := by kernel_rfl
theorem nt_ref01_Begin : Nat.ble 2 Tryz.f33.ntmps = true := by kernel_rfl
theorem meetsH_ref01_Begin {g : GG} {pre : List ABlk} {a0 a1 : AV} {r : AV} {post : List PB} (hk : Nat.ble pre.length 24 = true) (h : vc_ref01_Begin (Tz g) pre a0 a1 r post) : MeetsH (Tz g) f_ref01_Begin pre [a0, a1] (.ret r) post :=
  meetsH_of_vc (C := Tz g) ann_ref01_Begin hf_ref01_Begin ok_ref01_Begin nt_ref01_Begin hk (pn := false) (Eq.mpr ((vcFn2_eq _ _ _ _ _ _ _ _).trans (vc_ref01_Begin_eq g pre a0 a1 r post)) h)
theorem meets_ref01_Begin {g : GG} {a0 a1 : D} {r : Res} (h : vc_ref01_Begin (Tz g) [] (.d a0) (.d a1) r.val (r.bl.map .upd)) : Meets (Tz g) f_ref01_Begin [a0, a1] r := meetsH_ref01_Begin rfl h
def ann_ref01_With : Nat → List Nat := fun n => match n with  | _ => []
def vc_ref01_With (P : Ctx) (pre : List ABlk) (a0 a1 a2 : AV) (r : AV) (post : List PB) : Prop :=
  let h0 : Heap := numbered 0 pre
  BOX T_api_DifferPlan a0 24 h0 fun v3 h1 =>
  ALLOC T_api_DifferPlan [.zc, .d (.num .i64 0), .d (.num .i64 0)] 32 h1 fun v6 h2 =>
  FADDR 0 v3 h2 fun v7 =>
  LOAD false 1 v7 h2 fun v8 =>
  APP T_api_Span 2 .zc v8 56 h2 fun v9 h3 =>
  FADDR 0 v3 h3 fun v10 =>
  STORE 1 v10 v9 h3 fun h4 =>
  FADDR 0 v3 h4 fun v11 =>
  LOAD false 1 v11 h4 fun v12 =>
  IADDR 2 T_api_Span v12 a1 h4 fun v15 =>
  FADDR 1 v15 h4 fun v16 =>
  STORE 1 v16 a2 h4 fun h5 =>
  LOAD true 3 v3 h5 fun v17 =>
  STORE 3 v6 v17 h5 fun h6 =>
  LOAD true 3 v6 h6 fun r7 =>
  POST r7 h6 pre r post
theorem vc_ref01_With_eq (g : GG) (pre : List ABlk) (a0 a1 a2 : AV) (r : AV) (post : List PB) : vcFn2 (Tz g) false ann_ref01_With Tryz.f36 pre [a0, a1, a2] (.ret r) post = vc_ref01_With (Tz g) pre a0 a1 a2 r post := by kernel_rfl
theorem hf_ref01_With : Tryz.prog.funcs[f_ref01_With]? = some Tryz.f36 := by kernel_rfl
theorem ok_ref01_With : fnVcOK Tryz.prog Tryz.f36 = true := by kernel_rfl
theorem nt_ref01_With : Nat.ble 3 Tryz.f36.ntmps = true := by kernel_rfl
theorem meetsH_ref01_With {g : GG} {pre : List ABlk} {a0 a1 a2 : AV} {r : AV} {post : List PB} (hk : Nat.ble pre.length 24 = true) (h : vc_ref01_With (Tz g) pre a0 a1 a2 r post) : MeetsH (Tz g) f_ref01_With pre [a0, a1, a2] (.ret r) post :=
  meetsH_of_vc (C := Tz g) ann_ref01_With hf_ref01_With ok_ref01_With nt_ref01_With hk (pn := false) (Eq.mpr ((vcFn2_eq _ _ _ _ _ _ _ _).trans (vc_ref01_With_eq g pre a0 a1 a2 r post)) h)
theorem meets_ref01_With {g : GG} {a0 a1 a2 : D} {r : Res} (h : vc_ref01_With (Tz g) [] (.d a0) (.d a1) (.d a2) r.val (r.bl.map .upd)) : Meets (Tz g) f_ref01_With [a0, a1, a2] r := meetsH_ref01_With rfl h
end Go.Vc

namespace Go.Vc
open Go Go.Proofs
variable {g : GG}
attribute [local simp] and_assoc
theorem hasStart_meets (p : Plan) (i : Int) (hl : p.starts.length ≤ 1000) : Meets (Tz g) f_differ_hasStart [p.d, int i] ⟨.d (.bool (inB i 0 (p.starts.length - 1))), []⟩ := by
  refine meets_differ_hasStart ?_
  unfold vc_differ_hasStart
  simp [Plan.d, spans]
  rw [wrap_id (by omega) (by omega)]
  refine CALL.val _ _ rfl (differ_in_meets _ _ _) (.inl rfl) ?_
  simp
theorem ref01_Begin_meets (p : Plan) (i : Int) (hl : p.starts.length ≤ 1000) : Meets (Tz g) f_ref01_Begin [p.d, int i] ⟨.d (.bool (inB i 0 (p.starts.length - 1))), []⟩ := by
  refine meets_ref01_Begin ?_
  unfold vc_ref01_Begin
  simp [Plan.d, spans]
  rw [wrap_id (by omega) (by omega)]
  refine CALL.val _ _ rfl (ref01_in_meets _ _ _) (.inl rfl) ?_
  simp
theorem allSure_1_ret (p : Plan) (h : p.ok = true) (hd : doubtL p < 0) : MeetsH (Tz g) f_differ_allSure_1 [] [.d (planC p)] (.ret (.tup [])) [] := by
  refine meetsH_differ_allSure_1 rfl ?_
  unfold vc_differ_allSure_1
  simp [planC]
  refine CALL.mk [p.d] _ rfl (mustBeSure_ret p h hd) (.inl rfl) (by simp) ?_
  simp
theorem allSure_1_pan (p : Plan) (h : p.ok = true) (hd : 0 ≤ doubtL p) : MeetsH (Tz g) f_differ_allSure_1 [] [.d (planC p)] (.pan (.d (unsureD (doubtL p)))) [] := by
  refine meetsHp_differ_allSure_1 rfl ?_
  unfold vcp_differ_allSure_1
  simp [planC]
  refine CALL.pan [p.d] _ rfl (mustBeSure_pan p h hd) ?_
  simp [unsureD]
theorem attempt_sure (p : Plan) (h : p.ok = true) : Meets (Tz g) f_differ_attempt [.fn f_differ_allSure_1 [] [planC p]] ⟨.tup [.d (int (if doubtL p < 0 then 0 else doubtL p)), .d (int (if doubtL p < 0 then 0 else 7))], []⟩ := by
  by_cases hd : doubtL p < 0
  · simp only [if_pos hd]
    exact att_meets (allSure_1_ret p h hd) (at_go2 _ _) (at_ret2 _)
  · simp only [if_neg hd]
    exact att_meets (allSure_1_pan p h (by omega)) (at_go2 _ _) (at_pan2 _ _)
theorem allSure_meets (p : Plan) (h : p.ok = true) : Meets (Tz g) f_differ_allSure [p.d] ⟨.d (.bool (decide (doubtL p < 0))), []⟩ := by
  refine meets_differ_allSure ?_
  unfold vc_differ_allSure
  simp [Plan.d, spans]
  refine CALL.mk [.fn f_differ_allSure_1 [] [planC p]] _ (by simp [planC, spans]) (attempt_sure p h) (.inr (by simp [Res.flatP, AV.flatB, AV.flatB.flatL, blksFlat, D.flatB])) (by simp) ?_
  by_cases hd : doubtL p < 0
  · simp [hd]
  · simp [hd]
theorem clone_Span_meets (l : List Sp) (hl : l.length ≤ 1000) : Meets (Tz g) f_slices_Clone_l_api_Span_api_Span [spans l] ⟨.own 0 0, [⟨0, T_api_Span, .lst (l.map Sp.d)⟩]⟩ := by
  refine meets_slices_Clone_l_api_Span_api_Span ?_
  unfold vc_slices_Clone_l_api_Span_api_Span
  cases l with
  | nil => simp [spans]
  | cons n r =>
    simp at hl
    simp [spans, Sp.d]
    omega
def putH (l : List Sp) (i : Nat) (h : Int) : List Sp := match l[i]? with
  | some s => l.set i ⟨s.low, h⟩
  | none => l
def withH (p : Plan) (i : Nat) (h : Int) : Plan := ⟨putH p.starts i h, p.rows, p.guard⟩
theorem putH_at {l : List Sp} {i : Nat} {s : Sp} (hs : l[i]? = some s) (h : Int) : putH l i h = l.set i ⟨s.low, h⟩ := by simp [putH, hs]
theorem putH_len (l : List Sp) (i : Nat) (h : Int) : (putH l i h).length = l.length := by
  unfold putH; split <;> simp
def okSure (p : Plan) : Bool := p.ok && decide (doubtL p < 0)
def wideF (q : Int → Bool) : Nat → Int → Option Int
  | 0, _ => none
  | m + 1, h => if q h then some h else wideF q m (h - 1)
def widestO (p : Plan) (i : Nat) (low : Int) : Option Int := wideF (fun h => okSure (withH p i h)) 7 (low + 6)
def widR (o : Option Int) : Res := match o with
  | some h => ⟨.tup [.d (int h), .d (int 0)], []⟩
  | none => ⟨.tup [.d (int 0), .d (int 5)], []⟩
theorem set_self' {l : List Sp} {i : Nat} {s : Sp} (hs : l[i]? = some s) : l.set i ⟨s.low, s.high⟩ = l := by
  refine List.ext_getElem? fun j => ?_
  rw [List.getElem?_set]
  by_cases hj : i = j
  · subst hj
    have := (List.getElem?_eq_some_iff.1 hs).1
    rw [if_pos rfl, if_pos this, hs]
  · rw [if_neg hj]
set_option maxHeartbeats 1000000 in
theorem differ_Widest_ok (p : Plan) (i : Nat) (s : Sp) (h : p.ok = true) (hs : p.starts[i]? = some s) : Meets (Tz g) f_differ_Widest [p.d, int i] (widR (widestO p i s.low)) := by
  obtain ⟨a1, a2, a3, a4, a5⟩ := Plan.ok_len h
  have hi := (List.getElem?_eq_some_iff.1 hs).1
  have hb := startB_le (a5 s (List.mem_of_getElem? hs))
  have hib : inB (i : Int) 0 ((p.starts.length : Int) - 1) = true := by simp [inB]; omega
  refine meets_differ_Widest ?_
  unfold vc_differ_Widest
  simp [Plan.d, spans]
  refine CALL.val [p.d] _ rfl (differ_isPlan_meets p (by omega)) (.inl rfl) ?_
  simp [h, vc_differ_Widest_k3]
  refine CALL.val [p.d, int i] _ rfl (hasStart_meets p i (by omega)) (.inl rfl) ?_
  simp [hib]
  refine CALL.mk [spans p.starts] _ rfl (clone_Span_meets p.starts (by omega)) (.inl rfl) (by simp) ?_
  simp [vc_differ_Widest_k2, hs, Sp.d]
  refine ⟨hi, ?_⟩
  refine LOOP.mk (Nat × Int) (fun st => [.d (int i), .ptr 24 0 0 0, .ptr 200 0 0 0, .d (int 0), .d (.bool false), .d (int st.1)]) (fun st => [(200, some ⟨0, T_api_Span, .box [.d (int s.low), .d (int st.2)]⟩), (136, some ⟨0, T_api_Span, .lst ((p.starts.set i ⟨s.low, st.2⟩).map Sp.d)⟩), (24, some ⟨0, T_api_DifferPlan, .box [.own 136 0, .d (int p.rows), .d (int p.guard)]⟩)]) (fun st => st.1 ≤ 7 ∧ widestO p i s.low = wideF (fun h => okSure (withH p i h)) (7 - st.1) (s.low + 6 - st.1)) (fun st => 7 - st.1) [] (by simp) (0, s.high) (by simp [widestO]) (by simp [WEAK, set_self' hs]) (fun _ _ => rfl) ?_
  rintro ⟨k, x⟩ ⟨hk, he⟩
  simp only at hk he
  simp [vc_differ_Widest_k1]
  constructor
  · intro hlt
    rw [wrap_id (n := s.low + 6) (by omega) (by omega), wrap_id (n := s.low + 6 - (k : Int)) (by omega) (by omega)]
    have hg2 : ((List.map Sp.d p.starts).set i (Sp.d ⟨s.low, x⟩))[i]? = some (Sp.d ⟨s.low, x⟩) := by simp [hi]
    simp [hg2]
    generalize hy : s.low + 6 - (k : Int) = y
    rw [hy] at he
    have hmap : (List.map Sp.d p.starts).set i (.agg [int s.low, int y]) = (withH p i y).starts.map Sp.d := by simp [withH, putH_at hs, List.map_set, Sp.d]
    refine ⟨hi, by simp [Sp.d], ?_⟩
    have hwl : (withH p i y).starts.length = p.starts.length := putH_len _ _ _
    refine CALL.val [(withH p i y).d] _ (by simp [Plan.d, spans, Sp.d, ← hmap]; exact ⟨rfl, rfl⟩) (differ_isPlan_meets _ (by omega)) (.inr rfl) ?_
    simp [vc_differ_Widest_k0, Sp.d]
    obtain ⟨m, hm⟩ : ∃ m, 7 - k = m + 1 := ⟨6 - k, by omega⟩
    rw [hm] at he
    have hm2 : m = 7 - (k + 1) := by omega
    have hy2 : y - 1 = s.low + 6 - ((k + 1 : Nat) : Int) := by omega
    simp only [wideF] at he
    have hnext : okSure (withH p i y) = false → widestO p i s.low = wideF (fun h => okSure (withH p i h)) (7 - (k + 1)) (s.low + 6 - ((k + 1 : Nat) : Int)) := by
      intro hq
      rw [he, if_neg (by simp [hq]), hm2, hy2]
    rw [wrap_id (n := (k : Int) + 1) (by omega) (by omega)]
    constructor
    · intro hok
      refine CALL.val [(withH p i y).d] _ (by simp [Plan.d, spans, Sp.d, ← hmap]; exact ⟨rfl, rfl⟩) (allSure_meets _ hok) (.inr rfl) ?_
      simp
      constructor
      · intro hd
        have hq : okSure (withH p i y) = true := by simp [okSure, hok, hd]
        rw [he, if_pos hq]
        simp [widR]
      · intro hd
        have hq : okSure (withH p i y) = false := by simp [okSure, hok]; omega
        exact ⟨k + 1, by omega, hnext hq, ⟨y, by simp [WEAK, Sp.d]⟩, by omega⟩
    · intro hok
      have hq : okSure (withH p i y) = false := by simp [okSure, hok]
      exact ⟨k + 1, by omega, hnext hq, ⟨y, by simp [WEAK, Sp.d]⟩, by omega⟩
  · intro hge
    have : k = 7 := by omega
    subst this
    simp [wideF] at he
    rw [he]
    simp [widR]
theorem differ_Widest_bad (p : Plan) (i : Int) (hl : p.starts.length ≤ 1000) (h : (p.ok && inB i 0 (p.starts.length - 1)) = false) : Meets (Tz g) f_differ_Widest [p.d, int i] ⟨.tup [.d (int 0), .d (int 2)], []⟩ := by
  refine meets_differ_Widest ?_
  unfold vc_differ_Widest
  simp [Plan.d, spans]
  refine CALL.val [p.d] _ rfl (differ_isPlan_meets p hl) (.inl rfl) ?_
  simp [vc_differ_Widest_k3]
  intro h1
  refine CALL.val [p.d, int i] _ rfl (hasStart_meets p i hl) (.inl rfl) ?_
  simp [h1] at h
  simp [h]
theorem ref01_With_meets (p : Plan) (i : Nat) (s : Sp) (h : Int) (hs : p.starts[i]? = some s) (hl : p.starts.length ≤ 1000) : Meets (Tz g) f_ref01_With [p.d, int i, int h] ⟨.d (withH p i h).d, []⟩ := by
  have hi := (List.getElem?_eq_some_iff.1 hs).1
  refine meets_ref01_With ?_
  unfold vc_ref01_With
  have hse : p.starts[i] = s := by rw [List.getElem?_eq_getElem hi] at hs; exact Option.some.inj hs
  simp [Plan.d, spans, hi, hse, Sp.d]
  refine ⟨by omega, by simp [withH, putH_at hs, List.map_set, Sp.d], rfl, rfl⟩
def widT (o : Option Int) : Res := match o with
  | some h => ⟨.tup [.d (int h), .d (.bool true)], []⟩
  | none => ⟨.tup [.d (int 0), .d (.bool false)], []⟩
end Go.Vc

namespace Go.Vc
open Go Go.Proofs
variable {g : GG}
attribute [local simp] and_assoc
def widths : List Sp → Nat → Nat → List Int
  | [], _, _ => []
  | s :: r, row, k => (s.high - s.low) * (ch row k : Int) :: widths r row (k + 1)
def blameF : List Int → Int → Int × Int → Int × Int
  | [], _, m => m
  | w :: r, i, m => blameF r (i + 1) (if m.2 < w then (i, w) else m)
def blameO (p : Plan) (row : Nat) : Int × Int := blameF (widths p.starts row 0) 0 (0, 0)
theorem widths_len : ∀ (l : List Sp) (row k : Nat), (widths l row k).length = l.length
  | [], _, _ => rfl
  | _ :: r, row, k => by simp [widths, widths_len r row (k + 1)]
theorem widths_get : ∀ (l : List Sp) (row k i : Nat) (s : Sp), l[i]? = some s → (widths l row k)[i]? = some ((s.high - s.low) * (ch row (k + i) : Int))
  | [], _, _, i, s, h => by simp at h
  | x :: r, row, k, 0, s, h => by simp at h; subst h; simp [widths]
  | x :: r, row, k, i + 1, s, h => by
    have := widths_get r row (k + 1) i s (by simpa using h)
    simp only [widths, List.getElem?_cons_succ, this]
    congr 4
    omega
theorem widths_bound (row : Nat) (hr : row ≤ 12) : ∀ (l : List Sp) (k : Nat), (∀ s, s ∈ l → startB s = true) → k + l.length ≤ 7 → ∀ w, w ∈ widths l row k → 0 ≤ w ∧ w ≤ 6000
  | [], k, _, _, w, hw => by simp [widths] at hw
  | s :: r, k, h, hk, w, hw => by
    simp only [List.length_cons] at hk
    simp only [widths, List.mem_cons] at hw
    rcases hw with rfl | hw
    · have h1 := startB_le (h s (by simp))
      have h2 := (ch_facts row (by omega) k (by omega)).1
      have h3 : 0 ≤ (s.high - s.low) * (ch row k : Int) := Int.mul_nonneg (by omega) (by omega)
      have h4 : (s.high - s.low) * (ch row k : Int) ≤ 6 * (ch row k : Int) := Int.mul_le_mul_of_nonneg_right (by omega) (by omega)
      omega
    · exact widths_bound row hr r (k + 1) (fun x hx => h x (by simp [hx])) (by omega) w hw
theorem blameF_ge : ∀ (l : List Int) (i : Int) (m : Int × Int), m.2 ≤ (blameF l i m).2
  | [], _, m => Int.le_refl _
  | w :: r, i, m => by
    have := blameF_ge r (i + 1) (if m.2 < w then (i, w) else m)
    simp only [blameF]
    by_cases h : m.2 < w
    · simp only [h, if_true] at this ⊢; omega
    · simp only [h, if_false] at this ⊢; exact this
theorem blameF_zero : ∀ (l : List Int) (i : Int) (m : Int × Int), (∀ w, w ∈ l → w ≤ m.2) → blameF l i m = m
  | [], _, m, _ => rfl
  | w :: r, i, m, h => by
    have h1 := h w (by simp)
    simp only [blameF]
    rw [if_neg (by omega)]
    exact blameF_zero r (i + 1) m (fun x hx => h x (by simp [hx]))
theorem blameF_mem : ∀ (l : List Int) (i : Int) (m : Int × Int) (w : Int), w ∈ l → w ≤ (blameF l i m).2
  | x :: r, i, m, w, h => by
    simp only [blameF]
    rcases List.mem_cons.1 h with rfl | h
    · have := blameF_ge r (i + 1) (if m.2 < w then (i, w) else m)
      by_cases hm : m.2 < w
      · simp only [hm, if_true] at this ⊢; exact this
      · simp only [hm, if_false] at this ⊢; omega
    · exact blameF_mem r (i + 1) _ w h
def sumL : List Int → Int
  | [] => 0
  | x :: r => x + sumL r
theorem sumL_snoc : ∀ (l : List Int) (x : Int), sumL (l ++ [x]) = sumL l + x
  | [], x => by simp [sumL]
  | y :: r, x => by simp only [List.cons_append, sumL, sumL_snoc r x]; omega
theorem sumL_bound : ∀ (l : List Int), (∀ w, w ∈ l → 0 ≤ w ∧ w ≤ 6000) → 0 ≤ sumL l ∧ sumL l ≤ 6000 * l.length
  | [], _ => by simp [sumL]
  | x :: r, h => by
    have h1 := h x (by simp)
    have h2 := sumL_bound r (fun w hw => h w (by simp [hw]))
    simp only [sumL, List.length_cons]
    omega
theorem sumL_zero : ∀ (l : List Int), (∀ w, w ∈ l → 0 ≤ w ∧ w ≤ 6000) → (sumL l = 0 ↔ ∀ w, w ∈ l → w ≤ 0)
  | [], _ => by simp [sumL]
  | x :: r, h => by
    have h1 := h x (by simp)
    have h2 := sumL_bound r (fun w hw => h w (by simp [hw]))
    have ih := sumL_zero r (fun w hw => h w (by simp [hw]))
    simp only [sumL]
    constructor
    · intro he w hw
      rcases List.mem_cons.1 hw with rfl | hw
      · omega
      · exact ih.1 (by omega) w hw
    · intro ha
      have := ha x (by simp)
      have := ih.2 (fun w hw => ha w (by simp [hw]))
      omega
theorem blame_sum (l : List Int) (h : ∀ w, w ∈ l → 0 ≤ w ∧ w ≤ 6000) : sumL l = 0 ↔ (blameF l 0 (0, 0)).2 ≤ 0 := by
  rw [sumL_zero l h]
  constructor
  · intro ha
    rw [blameF_zero l 0 (0, 0) ha]
    exact Int.le_refl _
  · intro hb w hw
    have := blameF_mem l 0 (0, 0) w hw
    omega
theorem valL_zeros : ∀ (n row k : Nat), valL (List.replicate n 0) row k = 0
  | 0, _, _ => rfl
  | n + 1, row, k => by simp [List.replicate_succ, valL, valL_zeros n row (k + 1)]
theorem valL_one : ∀ (n i row k : Nat), i < n → valL ((List.replicate n 0).set i 1) row k = (ch row (k + i) : Int)
  | n + 1, 0, row, k, _ => by simp [List.replicate_succ, valL, valL_zeros]
  | n + 1, i + 1, row, k, h => by
    have := valL_one n i row (k + 1) (by omega)
    simp only [List.replicate_succ, List.set_cons_succ, valL, this]
    rw [show k + 1 + i = k + (i + 1) by omega]
    omega
  | 0, i, _, _, h => by omega
end Go.Vc
