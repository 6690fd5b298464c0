/- A part of the proof: general laws of a reading of the model by abstract data, or contracts of the functions that the law calls. -/
import Derived.Test.YtonajancjagefaaGreatVc29
import Derived.Test.YtonajancjagefaaGreatVc15
import Derived.Test.YtonajancjagefaaGreatVc33
import Derived.Test.YtonajancjagefaaGreatVc45
import Derived.Test.YtonajancjagefaaGreatVc25
set_option maxRecDepth 100000
namespace Go.Vc
open Go Go.Proofs Go.RowKit
def ann_pay_in : Nat → List Nat := fun n => match n with  | _ => []
def vc_pay_in (_P : Ctx) (pre : List ABlk) (a0 a1 a2 : AV) (r : AV) (post : List PB) : Prop :=
  let h0 : Heap := numbered 0 pre
  BIN 0 .geq a0 a1 fun v9 =>
  CONDG v9
  (BIN 0 .leq a0 a2 fun v13 =>
  POST v13 h0 pre r post)
  (POST (.d (.bool false)) h0 pre r post)
theorem vc_pay_in_eq (g : GG) (pre : List ABlk) (a0 a1 a2 : AV) (r : AV) (post : List PB) : vcFn2 (Tz g) false ann_pay_in Tryz.f27 pre [a0, a1, a2] (.ret r) post = vc_pay_in (Tz g) pre a0 a1 a2 r post := by kernel_rfl
theorem hf_pay_in : Tryz.prog.funcs[f_pay_in]? = some Tryz.f27 := by kernel_rfl
theorem ok_pay_in : fnVcOK Tryz.prog Tryz.f27 = true := by kernel_rfl
theorem nt_pay_in : Nat.ble 3 Tryz.f27.ntmps = true := by kernel_rfl
theorem meetsH_pay_in {g : GG} {pre : List ABlk} {a0 a1 a2 : AV} {r : AV} {post : List PB} (hk : Nat.ble pre.length 24 = true) (h : vc_pay_in (Tz g) pre a0 a1 a2 r post) : MeetsH (Tz g) f_pay_in pre [a0, a1, a2] (.ret r) post :=
  meetsH_of_vc (C := Tz g) ann_pay_in hf_pay_in ok_pay_in nt_pay_in hk (pn := false) (Eq.mpr ((vcFn2_eq _ _ _ _ _ _ _ _).trans (vc_pay_in_eq g pre a0 a1 a2 r post)) h)
theorem meets_pay_in {g : GG} {a0 a1 a2 : D} {r : Res} (h : vc_pay_in (Tz g) [] (.d a0) (.d a1) (.d a2) r.val (r.bl.map .upd)) : Meets (Tz g) f_pay_in [a0, a1, a2] r := meetsH_pay_in rfl h
def ann_pay_isMoney : Nat → List Nat := fun n => match n with  | _ => []
def vc_pay_isMoney_k0 (P : Ctx) (pre : List ABlk) (r : AV) (post : List PB) (v0 : AV) (v1 : AV) (h2 : Heap) : Prop :=
  CONDG v0
  (FADDR 2 v1 h2 fun v3 =>
  LOAD false 1 v3 h2 fun v4 =>
  CALL P f_pay_in [v4, (.d (.num .i64 0)), (.d (.num .i64 11))] 128 h2 (fun _ v6 h7 =>
  CONDG v6
  (FADDR 3 v1 h7 fun v8 =>
  LOAD false 1 v8 h7 fun v9 =>
  CALL P f_pay_in [v9, (.d (.num .i64 0)), (.d (.num .i64 3))] 168 h7 (fun _ v11 h12 =>
  POST v11 h12 pre r post)
  (fun _ _ _ => False))
  (POST (.d (.bool false)) h7 pre r post))
  (fun _ _ _ => False))
  (POST (.d (.bool false)) h2 pre r post)
def vc_pay_isMoney_k1 (P : Ctx) (pre : List ABlk) (r : AV) (post : List PB) (v0 : AV) (v1 : AV) (h2 : Heap) : Prop :=
  CONDG v0
  (FADDR 1 v1 h2 fun v3 =>
  LOAD false 1 v3 h2 fun v4 =>
  CALL P f_pay_in [v4, (.d (.num .i64 0)), (.d (.num .i64 19))] 88 h2 (fun _ v6 h7 =>
  vc_pay_isMoney_k0 P pre r post v6 v1 h7)
  (fun _ _ _ => False))
  (POST (.d (.bool false)) h2 pre r post)
def vc_pay_isMoney (P : Ctx) (pre : List ABlk) (a0 : AV) (r : AV) (post : List PB) : Prop :=
  let h0 : Heap := numbered 0 pre
  BOX T_api_PayMoney a0 24 h0 fun v1 h1 =>
  FADDR 0 v1 h1 fun v3 =>
  LOAD false 1 v3 h1 fun v4 =>
  CALL P f_pay_in [v4, (.d (.num .i64 0)), (.d (.num .i64 999))] 56 h1 (fun _ v5 h2 =>
  vc_pay_isMoney_k1 P pre r post v5 v1 h2)
  (fun _ _ _ => False)
theorem vc_pay_isMoney_eq (g : GG) (pre : List ABlk) (a0 : AV) (r : AV) (post : List PB) : vcFn2 (Tz g) false ann_pay_isMoney Tryz.f100 pre [a0] (.ret r) post = vc_pay_isMoney (Tz g) pre a0 r post := by kernel_rfl
theorem hf_pay_isMoney : Tryz.prog.funcs[f_pay_isMoney]? = some Tryz.f100 := by kernel_rfl
theorem ok_pay_isMoney : fnVcOK Tryz.prog Tryz.f100 = true := by kernel_rfl
theorem nt_pay_isMoney : Nat.ble 1 Tryz.f100.ntmps = true := by kernel_rfl
theorem meetsH_pay_isMoney {g : GG} {pre : List ABlk} {a0 : AV} {r : AV} {post : List PB} (hk : Nat.ble pre.length 24 = true) (h : vc_pay_isMoney (Tz g) pre a0 r post) : MeetsH (Tz g) f_pay_isMoney pre [a0] (.ret r) post :=
  meetsH_of_vc (C := Tz g) ann_pay_isMoney hf_pay_isMoney ok_pay_isMoney nt_pay_isMoney hk (pn := false) (Eq.mpr ((vcFn2_eq _ _ _ _ _ _ _ _).trans (vc_pay_isMoney_eq g pre a0 r post)) h)
theorem meets_pay_isMoney {g : GG} {a0 : D} {r : Res} (h : vc_pay_isMoney (Tz g) [] (.d a0) r.val (r.bl.map .upd)) : Meets (Tz g) f_pay_isMoney [a0] r := meetsH_pay_isMoney rfl h
def ann_pay_isLine : Nat → List Nat := fun n => match n with  | _ => []
def vc_pay_isLine_k0 (P : Ctx) (pre : List ABlk) (r : AV) (post : List PB) (v0 : AV) (v1 : AV) (h2 : Heap) : Prop :=
  CONDG v0
  (FADDR 5 v1 h2 fun v3 =>
  LOAD false 1 v3 h2 fun v4 =>
  CALL P f_pay_in [v4, (.d (.num .i64 0)), (.d (.num .i64 10))] 376 h2 (fun _ v6 h7 =>
  CONDG v6
  (FADDR 6 v1 h7 fun v8 =>
  LOAD true 4 v8 h7 fun v9 =>
  CALL P f_pay_isMoney [v9] 416 h7 (fun _ v11 h12 =>
  POST v11 h12 pre r post)
  (fun _ _ _ => False))
  (POST (.d (.bool false)) h7 pre r post))
  (fun _ _ _ => False))
  (POST (.d (.bool false)) h2 pre r post)
def vc_pay_isLine_k1 (P : Ctx) (pre : List ABlk) (r : AV) (post : List PB) (v0 : AV) (v1 : AV) (h2 : Heap) : Prop :=
  CONDG v0
  (FADDR 4 v1 h2 fun v3 =>
  LOAD false 1 v3 h2 fun v4 =>
  CALL P f_pay_in [v4, (.d (.num .i64 0)), (.d (.num .i64 10))] 336 h2 (fun _ v6 h7 =>
  vc_pay_isLine_k0 P pre r post v6 v1 h7)
  (fun _ _ _ => False))
  (POST (.d (.bool false)) h2 pre r post)
def vc_pay_isLine_k2 (P : Ctx) (pre : List ABlk) (r : AV) (post : List PB) (v0 : AV) (v1 : AV) (h2 : Heap) : Prop :=
  CONDG v0
  (FADDR 1 v1 h2 fun v3 =>
  LOAD false 1 v3 h2 fun v4 =>
  CALL P f_pay_in [v4, (.d (.num .i64 0)), (.d (.num .i64 20))] 296 h2 (fun _ v6 h7 =>
  vc_pay_isLine_k1 P pre r post v6 v1 h7)
  (fun _ _ _ => False))
  (POST (.d (.bool false)) h2 pre r post)
def vc_pay_isLine_k3 (P : Ctx) (pre : List ABlk) (r : AV) (post : List PB) (v0 : AV) (v1 : AV) (h2 : Heap) (v5 : AV) : Prop :=
  CONDG v0
  (FADDR 0 v1 h2 fun v3 =>
  LOAD false 1 v3 h2 fun v4 =>
  FADDR 0 v5 h2 fun v6 =>
  LOAD false 1 v6 h2 fun v7 =>
  BIN 0 .sub v7 (.d (.num .i64 1)) fun v8 =>
  CALL P f_pay_in [v4, (.d (.num .i64 0)), v8] 256 h2 (fun _ v10 h11 =>
  vc_pay_isLine_k2 P pre r post v10 v1 h11)
  (fun _ _ _ => False))
  (POST (.d (.bool false)) h2 pre r post)
def vc_pay_isLine_k4 (P : Ctx) (pre : List ABlk) (r : AV) (post : List PB) (v0 : AV) (v1 : AV) (h2 : Heap) (v14 : AV) (v15 : AV) : Prop :=
  CONDG v0
  (FADDR 1 v1 h2 fun v3 =>
  LOAD false 1 v3 h2 fun v4 =>
  FADDR 0 v1 h2 fun v5 =>
  LOAD false 1 v5 h2 fun v6 =>
  FADDR 0 v1 h2 fun v7 =>
  LOAD false 1 v7 h2 fun v8 =>
  BIN 0 .add v8 (.d (.num .i64 3)) fun v9 =>
  MINK (.d (.num .i64 20)) v9 fun v10 =>
  CALL P f_pay_in [v4, v6, v10] 176 h2 (fun _ v12 h13 =>
  vc_pay_isLine_k3 P pre r post v12 v14 h13 v15)
  (fun _ _ _ => False))
  (POST (.d (.bool false)) h2 pre r post)
def vc_pay_isLine (P : Ctx) (pre : List ABlk) (a0 a1 : AV) (r : AV) (post : List PB) : Prop :=
  let h0 : Heap := numbered 0 pre
  BOX T_api_PayBook a0 24 h0 fun v2 h1 =>
  BOX T_api_PayLine a1 32 h1 fun v3 h2 =>
  FADDR 2 v3 h2 fun v7 =>
  LOAD true 2 v7 h2 fun v8 =>
  ALLOC T_api_Span [.d (.num .i64 0), .d (.num .i64 0)] 64 h2 fun v5 h3 =>
  STORE 2 v5 v8 h3 fun h4 =>
  FADDR 0 v5 h4 fun v9 =>
  LOAD false 1 v9 h4 fun v10 =>
  CALL P f_pay_in [v10, (.d (.num .i64 0)), (.d (.num .i64 20))] 96 h4 (fun _ v11 h5 =>
  vc_pay_isLine_k4 P pre r post v11 v5 h5 v3 v2)
  (fun _ _ _ => False)
theorem vc_pay_isLine_eq (g : GG) (pre : List ABlk) (a0 a1 : AV) (r : AV) (post : List PB) : vcFn2 (Tz g) false ann_pay_isLine Tryz.f65 pre [a0, a1] (.ret r) post = vc_pay_isLine (Tz g) pre a0 a1 r post := by kernel_rfl
theorem hf_pay_isLine : Tryz.prog.funcs[f_pay_isLine]? = some Tryz.f65 := by kernel_rfl
theorem ok_pay_isLine : fnVcOK Tryz.prog Tryz.f65 = true := by kernel_rfl
theorem nt_pay_isLine : Nat.ble 2 Tryz.f65.ntmps = true := by kernel_rfl
theorem meetsH_pay_isLine {g : GG} {pre : List ABlk} {a0 a1 : AV} {r : AV} {post : List PB} (hk : Nat.ble pre.length 24 = true) (h : vc_pay_isLine (Tz g) pre a0 a1 r post) : MeetsH (Tz g) f_pay_isLine pre [a0, a1] (.ret r) post :=
  meetsH_of_vc (C := Tz g) ann_pay_isLine hf_pay_isLine ok_pay_isLine nt_pay_isLine hk (pn := false) (Eq.mpr ((vcFn2_eq _ _ _ _ _ _ _ _).trans (vc_pay_isLine_eq g pre a0 a1 r post)) h)
theorem meets_pay_isLine {g : GG} {a0 a1 : D} {r : Res} (h : vc_pay_isLine (Tz g) [] (.d a0) (.d a1) r.val (r.bl.map .upd)) : Meets (Tz g) f_pay_isLine [a0, a1] r := meetsH_pay_isLine rfl h
def ann_pay_isBook : Nat → List Nat := fun n => match n with  | _ => []
def vc_pay_isBook_k0 (P : Ctx) (pre : List ABlk) (r : AV) (post : List PB) (v0 : AV) (h1 : Heap) (v2 : AV) : Prop :=
  COND v0
  (POST (.d (.bool false)) h1 pre r post)
  (FADDR 6 v2 h1 fun v3 =>
  LOAD false 1 v3 h1 fun v4 =>
  CALL P f_slices_ContainsFunc_l_api_PayLine_api_PayLine [v4, (.fn f_pay_isBook_2 [] [v2])] 296 h1 (fun _ v6 h7 =>
  NOT v6 fun v8 =>
  POST v8 h7 pre r post)
  (fun _ _ _ => False))
def vc_pay_isBook_k1 (P : Ctx) (pre : List ABlk) (r : AV) (post : List PB) (v0 : AV) (h2 : Heap) (v3 : AV) : Prop :=
  NOT v0 fun v1 =>
  COND v1
  (POST (.d (.bool false)) h2 pre r post)
  (FADDR 2 v3 h2 fun v4 =>
  LOAD false 1 v4 h2 fun v5 =>
  FADDR 3 v3 h2 fun v6 =>
  LOAD false 1 v6 h2 fun v7 =>
  FADDR 4 v3 h2 fun v8 =>
  LOAD false 1 v8 h2 fun v9 =>
  FADDR 5 v3 h2 fun v10 =>
  LOAD false 1 v10 h2 fun v11 =>
  MKS T_int 1 [v5, v7, v9, v11] 248 h2 fun v12 h13 =>
  CALL P f_slices_ContainsFunc_l_int_int [v12, (.d (.fn f_pay_isBook_1 [] []))] 264 h13 (fun _ v15 h16 =>
  vc_pay_isBook_k0 P pre r post v15 h16 v3)
  (fun _ _ _ => False))
def vc_pay_isBook_k2 (P : Ctx) (pre : List ABlk) (r : AV) (post : List PB) (v0 : AV) (h2 : Heap) (v3 : AV) : Prop :=
  NOT v0 fun v1 =>
  CONDG v1
  (POST (.d (.bool false)) h2 pre r post)
  (FADDR 6 v3 h2 fun v4 =>
  LOAD false 1 v4 h2 fun v5 =>
  LEN false v5 h2 fun v6 =>
  CALL P f_pay_in [v6, (.d (.num .i64 1)), (.d (.num .i64 5))] 152 h2 (fun _ v8 h9 =>
  vc_pay_isBook_k1 P pre r post v8 h9 v3)
  (fun _ _ _ => False))
def vc_pay_isBook_k3 (P : Ctx) (pre : List ABlk) (r : AV) (post : List PB) (v0 : AV) (h2 : Heap) (v3 : AV) : Prop :=
  NOT v0 fun v1 =>
  CONDG v1
  (POST (.d (.bool false)) h2 pre r post)
  (FADDR 1 v3 h2 fun v4 =>
  LOAD false 1 v4 h2 fun v5 =>
  CALL P f_pay_in [v5, (.d (.num .i64 1)), (.d (.num .i64 48))] 96 h2 (fun _ v7 h8 =>
  vc_pay_isBook_k2 P pre r post v7 h8 v3)
  (fun _ _ _ => False))
def vc_pay_isBook (P : Ctx) (pre : List ABlk) (a0 : AV) (r : AV) (post : List PB) : Prop :=
  let h0 : Heap := numbered 0 pre
  BOX T_api_PayBook a0 24 h0 fun v1 h1 =>
  FADDR 0 v1 h1 fun v4 =>
  LOAD false 1 v4 h1 fun v5 =>
  CALL P f_pay_in [v5, (.d (.num .i64 1)), (.d (.num .i64 3))] 56 h1 (fun _ v6 h2 =>
  vc_pay_isBook_k3 P pre r post v6 h2 v1)
  (fun _ _ _ => False)
theorem vc_pay_isBook_eq (g : GG) (pre : List ABlk) (a0 : AV) (r : AV) (post : List PB) : vcFn2 (Tz g) false ann_pay_isBook Tryz.f26 pre [a0] (.ret r) post = vc_pay_isBook (Tz g) pre a0 r post := by kernel_rfl
theorem hf_pay_isBook : Tryz.prog.funcs[f_pay_isBook]? = some Tryz.f26 := by kernel_rfl
theorem ok_pay_isBook : fnVcOK Tryz.prog Tryz.f26 = true := by kernel_rfl
theorem nt_pay_isBook : Nat.ble 1 Tryz.f26.ntmps = true := by kernel_rfl
theorem meetsH_pay_isBook {g : GG} {pre : List ABlk} {a0 : AV} {r : AV} {post : List PB} (hk : Nat.ble pre.length 24 = true) (h : vc_pay_isBook (Tz g) pre a0 r post) : MeetsH (Tz g) f_pay_isBook pre [a0] (.ret r) post :=
  meetsH_of_vc (C := Tz g) ann_pay_isBook hf_pay_isBook ok_pay_isBook nt_pay_isBook hk (pn := false) (Eq.mpr ((vcFn2_eq _ _ _ _ _ _ _ _).trans (vc_pay_isBook_eq g pre a0 r post)) h)
theorem meets_pay_isBook {g : GG} {a0 : D} {r : Res} (h : vc_pay_isBook (Tz g) [] (.d a0) r.val (r.bl.map .upd)) : Meets (Tz g) f_pay_isBook [a0] r := meetsH_pay_isBook rfl h
def ann_pay_isBook_1 : Nat → List Nat := fun n => match n with  | _ => []
def vc_pay_isBook_1 (P : Ctx) (pre : List ABlk) (a0 : AV) (r : AV) (post : List PB) : Prop :=
  let h0 : Heap := numbered 0 pre
  CALL P f_pay_in [a0, (.d (.num .i64 0)), (.d (.num .i64 800))] 40 h0 (fun _ v4 h1 =>
  NOT v4 fun v5 =>
  POST v5 h1 pre r post)
  (fun _ _ _ => False)
theorem vc_pay_isBook_1_eq (g : GG) (pre : List ABlk) (a0 : AV) (r : AV) (post : List PB) : vcFn2 (Tz g) false ann_pay_isBook_1 Tryz.f61 pre [a0] (.ret r) post = vc_pay_isBook_1 (Tz g) pre a0 r post := by kernel_rfl
theorem hf_pay_isBook_1 : Tryz.prog.funcs[f_pay_isBook_1]? = some Tryz.f61 := by kernel_rfl
theorem ok_pay_isBook_1 : fnVcOK Tryz.prog Tryz.f61 = true := by kernel_rfl
theorem nt_pay_isBook_1 : Nat.ble 1 Tryz.f61.ntmps = true := by kernel_rfl
theorem meetsH_pay_isBook_1 {g : GG} {pre : List ABlk} {a0 : AV} {r : AV} {post : List PB} (hk : Nat.ble pre.length 24 = true) (h : vc_pay_isBook_1 (Tz g) pre a0 r post) : MeetsH (Tz g) f_pay_isBook_1 pre [a0] (.ret r) post :=
  meetsH_of_vc (C := Tz g) ann_pay_isBook_1 hf_pay_isBook_1 ok_pay_isBook_1 nt_pay_isBook_1 hk (pn := false) (Eq.mpr ((vcFn2_eq _ _ _ _ _ _ _ _).trans (vc_pay_isBook_1_eq g pre a0 r post)) h)
theorem meets_pay_isBook_1 {g : GG} {a0 : D} {r : Res} (h : vc_pay_isBook_1 (Tz g) [] (.d a0) r.val (r.bl.map .upd)) : Meets (Tz g) f_pay_isBook_1 [a0] r := meetsH_pay_isBook_1 rfl h
def ann_pay_isBook_2 : Nat → List Nat := fun n => match n with  | _ => []
def vc_pay_isBook_2 (P : Ctx) (pre : List ABlk) (a0 a1 : AV) (r : AV) (post : List PB) : Prop :=
  let h0 : Heap := numbered 0 pre
  BOX T_api_PayLine a0 24 h0 fun v2 h1 =>
  LOAD true 7 a1 h1 fun v4 =>
  LOAD true 10 v2 h1 fun v5 =>
  CALL P f_pay_isLine [v4, v5] 56 h1 (fun _ v6 h2 =>
  NOT v6 fun v7 =>
  POST v7 h2 pre r post)
  (fun _ _ _ => False)
theorem vc_pay_isBook_2_eq (g : GG) (pre : List ABlk) (a0 a1 : AV) (r : AV) (post : List PB) : vcFn2 (Tz g) false ann_pay_isBook_2 Tryz.f64 pre [a0, a1] (.ret r) post = vc_pay_isBook_2 (Tz g) pre a0 a1 r post := by kernel_rfl
theorem hf_pay_isBook_2 : Tryz.prog.funcs[f_pay_isBook_2]? = some Tryz.f64 := by kernel_rfl
theorem ok_pay_isBook_2 : fnVcOK Tryz.prog Tryz.f64 = true := by kernel_rfl
theorem nt_pay_isBook_2 : Nat.ble 2 Tryz.f64.ntmps = true := by kernel_rfl
theorem meetsH_pay_isBook_2 {g : GG} {pre : List ABlk} {a0 a1 : AV} {r : AV} {post : List PB} (hk : Nat.ble pre.length 24 = true) (h : vc_pay_isBook_2 (Tz g) pre a0 a1 r post) : MeetsH (Tz g) f_pay_isBook_2 pre [a0, a1] (.ret r) post :=
  meetsH_of_vc (C := Tz g) ann_pay_isBook_2 hf_pay_isBook_2 ok_pay_isBook_2 nt_pay_isBook_2 hk (pn := false) (Eq.mpr ((vcFn2_eq _ _ _ _ _ _ _ _).trans (vc_pay_isBook_2_eq g pre a0 a1 r post)) h)
theorem meets_pay_isBook_2 {g : GG} {a0 a1 : D} {r : Res} (h : vc_pay_isBook_2 (Tz g) [] (.d a0) (.d a1) r.val (r.bl.map .upd)) : Meets (Tz g) f_pay_isBook_2 [a0, a1] r := meetsH_pay_isBook_2 rfl h
def ann_slices_ContainsFunc_l_api_PayLine_api_PayLine : Nat → List Nat := fun n => match n with  | _ => []
def vc_slices_ContainsFunc_l_api_PayLine_api_PayLine (P : Ctx) (pre : List ABlk) (a0 a1 : AV) (r : AV) (post : List PB) : Prop :=
  let h0 : Heap := numbered 0 pre
  CALL P f_slices_IndexFunc_l_api_PayLine_api_PayLine [a0, a1] 48 h0 (fun _ v7 h1 =>
  BIN 0 .geq v7 (.d (.num .i64 0)) fun v8 =>
  POST v8 h1 pre r post)
  (fun _ _ _ => False)
theorem vc_slices_ContainsFunc_l_api_PayLine_api_PayLine_eq (g : GG) (pre : List ABlk) (a0 a1 : AV) (r : AV) (post : List PB) : vcFn2 (Tz g) false ann_slices_ContainsFunc_l_api_PayLine_api_PayLine Tryz.f63 pre [a0, a1] (.ret r) post = vc_slices_ContainsFunc_l_api_PayLine_api_PayLine (Tz g) pre a0 a1 r post := by kernel_rfl
theorem hf_slices_ContainsFunc_l_api_PayLine_api_PayLine : Tryz.prog.funcs[f_slices_ContainsFunc_l_api_PayLine_api_PayLine]? = some Tryz.f63 := by kernel_rfl
theorem ok_slices_ContainsFunc_l_api_PayLine_api_PayLine : fnVcOK Tryz.prog Tryz.f63 = true := by kernel_rfl
theorem nt_slices_ContainsFunc_l_api_PayLine_api_PayLine : Nat.ble 2 Tryz.f63.ntmps = true := by kernel_rfl
theorem meetsH_slices_ContainsFunc_l_api_PayLine_api_PayLine {g : GG} {pre : List ABlk} {a0 a1 : AV} {r : AV} {post : List PB} (hk : Nat.ble pre.length 24 = true) (h : vc_slices_ContainsFunc_l_api_PayLine_api_PayLine (Tz g) pre a0 a1 r post) : MeetsH (Tz g) f_slices_ContainsFunc_l_api_PayLine_api_PayLine pre [a0, a1] (.ret r) post :=
  meetsH_of_vc (C := Tz g) ann_slices_ContainsFunc_l_api_PayLine_api_PayLine hf_slices_ContainsFunc_l_api_PayLine_api_PayLine ok_slices_ContainsFunc_l_api_PayLine_api_PayLine nt_slices_ContainsFunc_l_api_PayLine_api_PayLine hk (pn := false) (Eq.mpr ((vcFn2_eq _ _ _ _ _ _ _ _).trans (vc_slices_ContainsFunc_l_api_PayLine_api_PayLine_eq g pre a0 a1 r post)) h)
theorem meets_slices_ContainsFunc_l_api_PayLine_api_PayLine {g : GG} {a0 a1 : D} {r : Res} (h : vc_slices_ContainsFunc_l_api_PayLine_api_PayLine (Tz g) [] (.d a0) (.d a1) r.val (r.bl.map .upd)) : Meets (Tz g) f_slices_ContainsFunc_l_api_PayLine_api_PayLine [a0, a1] r := meetsH_slices_ContainsFunc_l_api_PayLine_api_PayLine rfl h
def ann_slices_IndexFunc_l_api_PayLine_api_PayLine : Nat → List Nat := fun n => match n with | 2 => [0, 1, 7, 8] | _ => []
def vc_slices_IndexFunc_l_api_PayLine_api_PayLine_k0 (P : Ctx) (pre : List ABlk) (r : AV) (post : List PB) (vs0 : List AV) (h2 : Heap) (next9 : List AV → Heap → Prop) : Prop :=
  BIN 0 .lss (nth vs0 3) (nth vs0 2) fun v1 =>
  COND v1
  (IADDR 10 T_api_PayLine (nth vs0 0) (nth vs0 3) h2 fun v3 =>
  LOAD true 10 v3 h2 fun v4 =>
  CALLV P (nth vs0 1) [v4] 128 h2 (fun _ v6 h7 =>
  COND v6
  (POST (nth vs0 3) h7 pre r post)
  (BIN 0 .add (nth vs0 3) (.d (.num .i64 1)) fun v8 =>
  next9 [(nth vs0 0), (nth vs0 1), (nth vs0 2), v8] h7))
  (fun _ _ _ => False))
  (POST (.d (.num .i64 (-1))) h2 pre r post)
def vc_slices_IndexFunc_l_api_PayLine_api_PayLine (P : Ctx) (pre : List ABlk) (a0 a1 : AV) (r : AV) (post : List PB) : Prop :=
  let h0 : Heap := numbered 0 pre
  LEN false a0 h0 fun v7 =>
  LOOP [a0, a1, v7, (.d (.num .i64 0))] h0 56 fun vs1 h2 next1 =>
  vc_slices_IndexFunc_l_api_PayLine_api_PayLine_k0 P pre r post vs1 h2 next1
theorem vc_slices_IndexFunc_l_api_PayLine_api_PayLine_eq (g : GG) (pre : List ABlk) (a0 a1 : AV) (r : AV) (post : List PB) : vcFn2 (Tz g) false ann_slices_IndexFunc_l_api_PayLine_api_PayLine Tryz.f99 pre [a0, a1] (.ret r) post = vc_slices_IndexFunc_l_api_PayLine_api_PayLine (Tz g) pre a0 a1 r post := by kernel_rfl
theorem hf_slices_IndexFunc_l_api_PayLine_api_PayLine : Tryz.prog.funcs[f_slices_IndexFunc_l_api_PayLine_api_PayLine]? = some Tryz.f99 := by kernel_rfl
theorem ok_slices_IndexFunc_l_api_PayLine_api_PayLine : fnVcOK Tryz.prog Tryz.f99 = true := by kernel_rfl
theorem nt_slices_IndexFunc_l_api_PayLine_api_PayLine : Nat.ble 2 Tryz.f99.ntmps = true := by kernel_rfl
theorem meetsH_slices_IndexFunc_l_api_PayLine_api_PayLine {g : GG} {pre : List ABlk} {a0 a1 : AV} {r : AV} {post : List PB} (hk : Nat.ble pre.length 24 = true) (h : vc_slices_IndexFunc_l_api_PayLine_api_PayLine (Tz g) pre a0 a1 r post) : MeetsH (Tz g) f_slices_IndexFunc_l_api_PayLine_api_PayLine pre [a0, a1] (.ret r) post :=
  meetsH_of_vc (C := Tz g) ann_slices_IndexFunc_l_api_PayLine_api_PayLine hf_slices_IndexFunc_l_api_PayLine_api_PayLine ok_slices_IndexFunc_l_api_PayLine_api_PayLine nt_slices_IndexFunc_l_api_PayLine_api_PayLine hk (pn := false) (Eq.mpr ((vcFn2_eq _ _ _ _ _ _ _ _).trans (vc_slices_IndexFunc_l_api_PayLine_api_PayLine_eq g pre a0 a1 r post)) h)
theorem meets_slices_IndexFunc_l_api_PayLine_api_PayLine {g : GG} {a0 a1 : D} {r : Res} (h : vc_slices_IndexFunc_l_api_PayLine_api_PayLine (Tz g) [] (.d a0) (.d a1) r.val (r.bl.map .upd)) : Meets (Tz g) f_slices_IndexFunc_l_api_PayLine_api_PayLine [a0, a1] r := meetsH_slices_IndexFunc_l_api_PayLine_api_PayLine rfl h
def ann_pay_account_sheets : Nat → List Nat := fun n => match n with  | _ => []
def vc_pay_account_sheets (_P : Ctx) (pre : List ABlk) (a0 a1 : AV) (r : AV) (post : List PB) : Prop :=
  let h0 : Heap := numbered 0 pre
  BOX T_pay_account a0 24 h0 fun v2 h1 =>
  FADDR 0 v2 h1 fun v5 =>
  FADDR 2 v5 h1 fun v6 =>
  LOAD false 1 v6 h1 fun v7 =>
  FADDR 0 v2 h1 fun v8 =>
  FADDR 6 v8 h1 fun v9 =>
  LOAD false 1 v9 h1 fun v10 =>
  IADDR 10 T_api_PayLine v10 a1 h1 fun v12 =>
  FADDR 1 v12 h1 fun v13 =>
  LOAD false 1 v13 h1 fun v14 =>
  BIN 0 .mul v7 v14 fun v15 =>
  FADDR 0 v2 h1 fun v16 =>
  FADDR 3 v16 h1 fun v17 =>
  LOAD false 1 v17 h1 fun v18 =>
  FADDR 7 v2 h1 fun v19 =>
  LOAD false 1 v19 h1 fun v20 =>
  IADDR 1 T_int v20 a1 h1 fun v22 =>
  LOAD false 1 v22 h1 fun v23 =>
  BIN 0 .mul v18 v23 fun v24 =>
  BIN 0 .sub v15 v24 fun v25 =>
  MAXK (.d (.num .i64 0)) v25 fun v26 =>
  ORDX [] [0, 1, 3, 0, 8, 24, 0, 120, 248, 504, 1023, 0, 2048, 6144, 0, 16384, 0, 114688, 245760, 522240, 1048575, 2097151, 4194303] [(0, wr h1 h1, (ids v2)), (1, wr h1 h1, (ids v5)), (2, wr h1 h1, (ids v6)), (3, wr h1 h1, (ids v2)), (4, wr h1 h1, (ids v8)), (5, wr h1 h1, (ids v9)), (7, wr h1 h1, (ids v10)), (8, wr h1 h1, (ids v12)), (9, wr h1 h1, (ids v13)), (11, wr h1 h1, (ids v2)), (12, wr h1 h1, (ids v16)), (13, wr h1 h1, (ids v17)), (14, wr h1 h1, (ids v2)), (15, wr h1 h1, (ids v19)), (17, wr h1 h1, (ids v20)), (18, wr h1 h1, (ids v22))] ∧
  POST v26 h1 pre r post
theorem vc_pay_account_sheets_eq (g : GG) (pre : List ABlk) (a0 a1 : AV) (r : AV) (post : List PB) : vcFn2 (Tz g) false ann_pay_account_sheets Tryz.f67 pre [a0, a1] (.ret r) post = vc_pay_account_sheets (Tz g) pre a0 a1 r post := by kernel_rfl
theorem hf_pay_account_sheets : Tryz.prog.funcs[f_pay_account_sheets]? = some Tryz.f67 := by kernel_rfl
theorem ok_pay_account_sheets : fnVcOK Tryz.prog Tryz.f67 = true := by kernel_rfl
theorem nt_pay_account_sheets : Nat.ble 2 Tryz.f67.ntmps = true := by kernel_rfl
theorem meetsH_pay_account_sheets {g : GG} {pre : List ABlk} {a0 a1 : AV} {r : AV} {post : List PB} (hk : Nat.ble pre.length 24 = true) (h : vc_pay_account_sheets (Tz g) pre a0 a1 r post) : MeetsH (Tz g) f_pay_account_sheets pre [a0, a1] (.ret r) post :=
  meetsH_of_vc (C := Tz g) ann_pay_account_sheets hf_pay_account_sheets ok_pay_account_sheets nt_pay_account_sheets hk (pn := false) (Eq.mpr ((vcFn2_eq _ _ _ _ _ _ _ _).trans (vc_pay_account_sheets_eq g pre a0 a1 r post)) h)
theorem meets_pay_account_sheets {g : GG} {a0 a1 : D} {r : Res} (h : vc_pay_account_sheets (Tz g) [] (.d a0) (.d a1) r.val (r.bl.map .upd)) : Meets (Tz g) f_pay_account_sheets [a0, a1] r := meetsH_pay_account_sheets rfl h
def ann_pay_account_mornings : Nat → List Nat := fun n => match n with  | _ => []
def vc_pay_account_mornings (_P : Ctx) (pre : List ABlk) (a0 a1 : AV) (r : AV) (post : List PB) : Prop :=
  let h0 : Heap := numbered 0 pre
  BOX T_pay_account a0 24 h0 fun v2 h1 =>
  FADDR 0 v2 h1 fun v5 =>
  FADDR 4 v5 h1 fun v6 =>
  LOAD false 1 v6 h1 fun v7 =>
  FADDR 0 v2 h1 fun v8 =>
  FADDR 6 v8 h1 fun v9 =>
  LOAD false 1 v9 h1 fun v10 =>
  IADDR 10 T_api_PayLine v10 a1 h1 fun v12 =>
  FADDR 4 v12 h1 fun v13 =>
  LOAD false 1 v13 h1 fun v14 =>
  BIN 0 .mul v7 v14 fun v15 =>
  ORDX [] [0, 1, 3, 0, 8, 24, 0, 120, 248, 504, 1023, 2047] [(0, wr h1 h1, (ids v2)), (1, wr h1 h1, (ids v5)), (2, wr h1 h1, (ids v6)), (3, wr h1 h1, (ids v2)), (4, wr h1 h1, (ids v8)), (5, wr h1 h1, (ids v9)), (7, wr h1 h1, (ids v10)), (8, wr h1 h1, (ids v12)), (9, wr h1 h1, (ids v13))] ∧
  POST v15 h1 pre r post
theorem vc_pay_account_mornings_eq (g : GG) (pre : List ABlk) (a0 a1 : AV) (r : AV) (post : List PB) : vcFn2 (Tz g) false ann_pay_account_mornings Tryz.f68 pre [a0, a1] (.ret r) post = vc_pay_account_mornings (Tz g) pre a0 a1 r post := by kernel_rfl
theorem hf_pay_account_mornings : Tryz.prog.funcs[f_pay_account_mornings]? = some Tryz.f68 := by kernel_rfl
theorem ok_pay_account_mornings : fnVcOK Tryz.prog Tryz.f68 = true := by kernel_rfl
theorem nt_pay_account_mornings : Nat.ble 2 Tryz.f68.ntmps = true := by kernel_rfl
theorem meetsH_pay_account_mornings {g : GG} {pre : List ABlk} {a0 a1 : AV} {r : AV} {post : List PB} (hk : Nat.ble pre.length 24 = true) (h : vc_pay_account_mornings (Tz g) pre a0 a1 r post) : MeetsH (Tz g) f_pay_account_mornings pre [a0, a1] (.ret r) post :=
  meetsH_of_vc (C := Tz g) ann_pay_account_mornings hf_pay_account_mornings ok_pay_account_mornings nt_pay_account_mornings hk (pn := false) (Eq.mpr ((vcFn2_eq _ _ _ _ _ _ _ _).trans (vc_pay_account_mornings_eq g pre a0 a1 r post)) h)
theorem meets_pay_account_mornings {g : GG} {a0 a1 : D} {r : Res} (h : vc_pay_account_mornings (Tz g) [] (.d a0) (.d a1) r.val (r.bl.map .upd)) : Meets (Tz g) f_pay_account_mornings [a0, a1] r := meetsH_pay_account_mornings rfl h
def ann_pay_account_posts : Nat → List Nat := fun n => match n with  | _ => []
def vc_pay_account_posts (_P : Ctx) (pre : List ABlk) (a0 a1 : AV) (r : AV) (post : List PB) : Prop :=
  let h0 : Heap := numbered 0 pre
  BOX T_pay_account a0 24 h0 fun v2 h1 =>
  FADDR 0 v2 h1 fun v5 =>
  FADDR 5 v5 h1 fun v6 =>
  LOAD false 1 v6 h1 fun v7 =>
  FADDR 0 v2 h1 fun v8 =>
  FADDR 6 v8 h1 fun v9 =>
  LOAD false 1 v9 h1 fun v10 =>
  IADDR 10 T_api_PayLine v10 a1 h1 fun v12 =>
  FADDR 5 v12 h1 fun v13 =>
  LOAD false 1 v13 h1 fun v14 =>
  BIN 0 .mul v7 v14 fun v15 =>
  ORDX [] [0, 1, 3, 0, 8, 24, 0, 120, 248, 504, 1023, 2047] [(0, wr h1 h1, (ids v2)), (1, wr h1 h1, (ids v5)), (2, wr h1 h1, (ids v6)), (3, wr h1 h1, (ids v2)), (4, wr h1 h1, (ids v8)), (5, wr h1 h1, (ids v9)), (7, wr h1 h1, (ids v10)), (8, wr h1 h1, (ids v12)), (9, wr h1 h1, (ids v13))] ∧
  POST v15 h1 pre r post
theorem vc_pay_account_posts_eq (g : GG) (pre : List ABlk) (a0 a1 : AV) (r : AV) (post : List PB) : vcFn2 (Tz g) false ann_pay_account_posts Tryz.f69 pre [a0, a1] (.ret r) post = vc_pay_account_posts (Tz g) pre a0 a1 r post := by kernel_rfl
theorem hf_pay_account_posts : Tryz.prog.funcs[f_pay_account_posts]? = some Tryz.f69 := by kernel_rfl
theorem ok_pay_account_posts : fnVcOK Tryz.prog Tryz.f69 = true := by kernel_rfl
theorem nt_pay_account_posts : Nat.ble 2 Tryz.f69.ntmps = true := by kernel_rfl
theorem meetsH_pay_account_posts {g : GG} {pre : List ABlk} {a0 a1 : AV} {r : AV} {post : List PB} (hk : Nat.ble pre.length 24 = true) (h : vc_pay_account_posts (Tz g) pre a0 a1 r post) : MeetsH (Tz g) f_pay_account_posts pre [a0, a1] (.ret r) post :=
  meetsH_of_vc (C := Tz g) ann_pay_account_posts hf_pay_account_posts ok_pay_account_posts nt_pay_account_posts hk (pn := false) (Eq.mpr ((vcFn2_eq _ _ _ _ _ _ _ _).trans (vc_pay_account_posts_eq g pre a0 a1 r post)) h)
theorem meets_pay_account_posts {g : GG} {a0 a1 : D} {r : Res} (h : vc_pay_account_posts (Tz g) [] (.d a0) (.d a1) r.val (r.bl.map .upd)) : Meets (Tz g) f_pay_account_posts [a0, a1] r := meetsH_pay_account_posts rfl h
def ann_pay_account_owed : Nat → List Nat := fun n => match n with | 3 => [1, 5, 14, 15] | _ => []
def vc_pay_account_owed_k0 (P : Ctx) (pre : List ABlk) (r : AV) (post : List PB) (vs0 : List AV) (h3 : Heap) (next9 : List AV → Heap → Prop) : Prop :=
  BIN 0 .lss (nth vs0 3) (.d (.num .i64 3)) fun v1 =>
  COND v1
  (AIDX false 1 3 (nth vs0 2) (nth vs0 3) fun v2 =>
  CALLV P v2 [(nth vs0 0)] 168 h3 (fun _ v5 h6 =>
  BIN 0 .add (nth vs0 1) v5 fun v7 =>
  BIN 0 .add (nth vs0 3) (.d (.num .i64 1)) fun v8 =>
  next9 [(nth vs0 0), v7, (nth vs0 2), v8] h6)
  (fun _ _ _ => False))
  (POST (nth vs0 1) h3 pre r post)
def vc_pay_account_owed (P : Ctx) (pre : List ABlk) (a0 a1 : AV) (r : AV) (post : List PB) : Prop :=
  let h0 : Heap := numbered 0 pre
  BOX T_pay_account a0 24 h0 fun v2 h1 =>
  LOAD true 8 v2 h1 fun v8 =>
  LOAD true 8 v2 h1 fun v10 =>
  LOAD true 8 v2 h1 fun v12 =>
  BUILD [(0, 1), (1, 1), (2, 1)] [.d .nilf, .d .nilf, .d .nilf] [(0, (.fn f_pay_account_sheets [v8] [])), (1, (.fn f_pay_account_mornings [v10] [])), (2, (.fn f_pay_account_posts [v12] []))] fun v14 =>
  LOOP [a1, (.d (.num .i64 0)), v14, (.d (.num .i64 0))] h1 112 fun vs2 h3 next2 =>
  vc_pay_account_owed_k0 P pre r post vs2 h3 next2
theorem vc_pay_account_owed_eq (g : GG) (pre : List ABlk) (a0 a1 : AV) (r : AV) (post : List PB) : vcFn2 (Tz g) false ann_pay_account_owed Tryz.f30 pre [a0, a1] (.ret r) post = vc_pay_account_owed (Tz g) pre a0 a1 r post := by kernel_rfl
theorem hf_pay_account_owed : Tryz.prog.funcs[f_pay_account_owed]? = some Tryz.f30 := by kernel_rfl
theorem ok_pay_account_owed : fnVcOK Tryz.prog Tryz.f30 = true := by kernel_rfl
theorem nt_pay_account_owed : Nat.ble 2 Tryz.f30.ntmps = true := by kernel_rfl
theorem meetsH_pay_account_owed {g : GG} {pre : List ABlk} {a0 a1 : AV} {r : AV} {post : List PB} (hk : Nat.ble pre.length 24 = true) (h : vc_pay_account_owed (Tz g) pre a0 a1 r post) : MeetsH (Tz g) f_pay_account_owed pre [a0, a1] (.ret r) post :=
  meetsH_of_vc (C := Tz g) ann_pay_account_owed hf_pay_account_owed ok_pay_account_owed nt_pay_account_owed hk (pn := false) (Eq.mpr ((vcFn2_eq _ _ _ _ _ _ _ _).trans (vc_pay_account_owed_eq g pre a0 a1 r post)) h)
theorem meets_pay_account_owed {g : GG} {a0 a1 : D} {r : Res} (h : vc_pay_account_owed (Tz g) [] (.d a0) (.d a1) r.val (r.bl.map .upd)) : Meets (Tz g) f_pay_account_owed [a0, a1] r := meetsH_pay_account_owed rfl h
def ann_pay_always : Nat → List Nat := fun n => match n with  | _ => []
def vc_pay_always (_P : Ctx) (pre : List ABlk) (a0 : AV) (r : AV) (post : List PB) : Prop :=
  let h0 : Heap := numbered 0 pre
  BOX T_pay_account a0 24 h0 fun _ h1 =>
  POST (.d (.bool true)) h1 pre r post
theorem vc_pay_always_eq (g : GG) (pre : List ABlk) (a0 : AV) (r : AV) (post : List PB) : vcFn2 (Tz g) false ann_pay_always Tryz.f31 pre [a0] (.ret r) post = vc_pay_always (Tz g) pre a0 r post := by kernel_rfl
theorem hf_pay_always : Tryz.prog.funcs[f_pay_always]? = some Tryz.f31 := by kernel_rfl
theorem ok_pay_always : fnVcOK Tryz.prog Tryz.f31 = true := by kernel_rfl
theorem nt_pay_always : Nat.ble 1 Tryz.f31.ntmps = true := by kernel_rfl
theorem meetsH_pay_always {g : GG} {pre : List ABlk} {a0 : AV} {r : AV} {post : List PB} (hk : Nat.ble pre.length 24 = true) (h : vc_pay_always (Tz g) pre a0 r post) : MeetsH (Tz g) f_pay_always pre [a0] (.ret r) post :=
  meetsH_of_vc (C := Tz g) ann_pay_always hf_pay_always ok_pay_always nt_pay_always hk (pn := false) (Eq.mpr ((vcFn2_eq _ _ _ _ _ _ _ _).trans (vc_pay_always_eq g pre a0 r post)) h)
theorem meets_pay_always {g : GG} {a0 : D} {r : Res} (h : vc_pay_always (Tz g) [] (.d a0) r.val (r.bl.map .upd)) : Meets (Tz g) f_pay_always [a0] r := meetsH_pay_always rfl h
def ann_pay_Owed_1 : Nat → List Nat := fun n => match n with  | _ => []
def vc_pay_Owed_1 (P : Ctx) (pre : List ABlk) (a0 a1 : AV) (r : AV) (post : List PB) : Prop :=
  let h0 : Heap := numbered 0 pre
  BOX T_pay_account a0 24 h0 fun v2 h1 =>
  LOAD true 8 v2 h1 fun v4 =>
  LOAD false 1 a1 h1 fun v5 =>
  CALL P f_pay_account_owed [v4, v5] 56 h1 (fun _ v6 h2 =>
  POST v6 h2 pre r post)
  (fun _ _ _ => False)
theorem vc_pay_Owed_1_eq (g : GG) (pre : List ABlk) (a0 a1 : AV) (r : AV) (post : List PB) : vcFn2 (Tz g) false ann_pay_Owed_1 Tryz.f29 pre [a0, a1] (.ret r) post = vc_pay_Owed_1 (Tz g) pre a0 a1 r post := by kernel_rfl
theorem hf_pay_Owed_1 : Tryz.prog.funcs[f_pay_Owed_1]? = some Tryz.f29 := by kernel_rfl
theorem ok_pay_Owed_1 : fnVcOK Tryz.prog Tryz.f29 = true := by kernel_rfl
theorem nt_pay_Owed_1 : Nat.ble 2 Tryz.f29.ntmps = true := by kernel_rfl
theorem meetsH_pay_Owed_1 {g : GG} {pre : List ABlk} {a0 a1 : AV} {r : AV} {post : List PB} (hk : Nat.ble pre.length 24 = true) (h : vc_pay_Owed_1 (Tz g) pre a0 a1 r post) : MeetsH (Tz g) f_pay_Owed_1 pre [a0, a1] (.ret r) post :=
  meetsH_of_vc (C := Tz g) ann_pay_Owed_1 hf_pay_Owed_1 ok_pay_Owed_1 nt_pay_Owed_1 hk (pn := false) (Eq.mpr ((vcFn2_eq _ _ _ _ _ _ _ _).trans (vc_pay_Owed_1_eq g pre a0 a1 r post)) h)
theorem meets_pay_Owed_1 {g : GG} {a0 a1 : D} {r : Res} (h : vc_pay_Owed_1 (Tz g) [] (.d a0) (.d a1) r.val (r.bl.map .upd)) : Meets (Tz g) f_pay_Owed_1 [a0, a1] r := meetsH_pay_Owed_1 rfl h
end Go.Vc

namespace Go.Vc
open Go Go.Proofs
variable {g : GG}
attribute [local simp] and_assoc
structure Pn where
  sheets : Int
  errs : Int
def Pn.d (x : Pn) : D := .agg [int 0, int x.sheets, int x.errs, int x.errs, int 0, int 0, int 0, int 0, int 0, int 0]
@[simp] theorem Pn_cells (x : Pn) : x.d.cells = [int 0, int x.sheets, int x.errs, int x.errs, int 0, int 0, int 0, int 0, int 0, int 0] := rfl
def pns (l : List Pn) : D := .list (l.map Pn.d)
def bookC (rate fine : Int) (l : List Pn) : List D := [int 1, int 1, int rate, int fine, int 0, int 0, pns l]
def bookD (rate fine : Int) (l : List Pn) : D := .agg (bookC rate fine l)
theorem pay_in_meets (x lo hi : Int) : Meets (Tz g) f_pay_in [int x, int lo, int hi] ⟨.d (.bool (inB x lo hi)), []⟩ := by
  refine meets_pay_in ?_
  unfold vc_pay_in
  simp [inB]
  constructor
  · intro h; simp [h]
  · intro h; omega
theorem pay_isMoney_meets : Meets (Tz g) f_pay_isMoney [.agg [int 0, int 0, int 0, int 0]] ⟨.d (.bool true), []⟩ := by
  refine meets_pay_isMoney ?_
  unfold vc_pay_isMoney
  simp
  refine CALL.val [int 0, int 0, int 999] _ rfl (pay_in_meets _ _ _) (.inl rfl) ?_
  simp [inB, vc_pay_isMoney_k1]
  refine CALL.val [int 0, int 0, int 19] _ rfl (pay_in_meets _ _ _) (.inl rfl) ?_
  simp [inB, vc_pay_isMoney_k0]
  refine CALL.val [int 0, int 0, int 11] _ rfl (pay_in_meets _ _ _) (.inl rfl) ?_
  simp [inB]
  refine CALL.val [int 0, int 0, int 3] _ rfl (pay_in_meets _ _ _) (.inl rfl) ?_
  simp [inB]
def lineOK (x : Pn) : Prop := 0 ≤ x.sheets ∧ x.sheets ≤ 20 ∧ 0 ≤ x.errs ∧ x.errs ≤ 20
theorem pay_isLine_meets (rate fine : Int) (l : List Pn) (x : Pn) (hx : lineOK x) : Meets (Tz g) f_pay_isLine [bookD rate fine l, x.d] ⟨.d (.bool true), []⟩ := by
  obtain ⟨h1, h2, h3, h4⟩ := hx
  refine meets_pay_isLine ?_
  unfold vc_pay_isLine
  simp [bookD, bookC, Pn.d]
  refine CALL.val [int x.errs, int 0, int 20] _ rfl (pay_in_meets _ _ _) (.inl rfl) ?_
  simp [inB, h3, h4, vc_pay_isLine_k4]
  rw [wrap_id (n := x.errs + 3) (by omega) (by omega)]
  refine CALL.val [int x.errs, int x.errs, int (min 20 (x.errs + 3))] _ rfl (pay_in_meets _ _ _) (.inl rfl) ?_
  have e1 : inB x.errs x.errs (min 20 (x.errs + 3)) = true := by simp [inB]; omega
  simp [e1, vc_pay_isLine_k3]
  refine CALL.val [int 0, int 0, int 0] _ rfl (pay_in_meets _ _ _) (.inl rfl) ?_
  simp [inB, vc_pay_isLine_k2]
  refine CALL.val [int x.sheets, int 0, int 20] _ rfl (pay_in_meets _ _ _) (.inl rfl) ?_
  simp [inB, h1, h2, vc_pay_isLine_k1]
  refine CALL.val [int 0, int 0, int 10] _ rfl (pay_in_meets _ _ _) (.inl rfl) ?_
  simp [inB, vc_pay_isLine_k0]
  refine CALL.val [int 0, int 0, int 10] _ rfl (pay_in_meets _ _ _) (.inl rfl) ?_
  simp [inB]
  refine CALL.val [.agg [int 0, int 0, int 0, int 0]] _ rfl pay_isMoney_meets (.inl rfl) ?_
  simp
theorem pay_isBook_2_meets (rate fine : Int) (l : List Pn) (x : Pn) (hx : lineOK x) : Meets (Tz g) f_pay_isBook_2 [x.d, .cp (bookC rate fine l)] ⟨.d (.bool false), []⟩ := by
  refine meets_pay_isBook_2 ?_
  unfold vc_pay_isBook_2
  simp [Pn.d, bookC]
  refine CALL.val [bookD rate fine l, x.d] _ rfl (pay_isLine_meets rate fine l x hx) (.inl rfl) ?_
  simp
theorem index_pns_meets (ls : List Pn) (f : FuncId) (c : D) (hf : ∀ l, l ∈ ls → Meets (Tz g) f [l.d, c] ⟨.d (.bool false), []⟩) (hl : ls.length ≤ 1000) : Meets (Tz g) f_slices_IndexFunc_l_api_PayLine_api_PayLine [pns ls, .fn f [] [c]] ⟨.d (int (-1)), []⟩ := by
  refine meets_slices_IndexFunc_l_api_PayLine_api_PayLine ?_
  unfold vc_slices_IndexFunc_l_api_PayLine_api_PayLine
  simp [pns]
  refine LOOP.mk Nat (fun k => [.d (pns ls), .d (.fn f [] [c]), .d (int ls.length), .d (int k)]) (fun _ => []) (fun k => k ≤ ls.length) (fun k => ls.length - k) [] (by simp) 0 (by simp) (by simp [WEAK, pns]) (fun _ _ => rfl) ?_
  intro k hk
  simp [vc_slices_IndexFunc_l_api_PayLine_api_PayLine_k0, pns]
  intro hlt
  have hg : ls[k]? = some ls[k] := List.getElem?_eq_getElem hlt
  have hm : ls[k] ∈ ls := List.getElem_mem hlt
  generalize ls[k] = l at hg hm
  simp [hg]
  refine CALL.val [l.d, c] _ (by simp [Pn.d]) (hf l hm) (.inl rfl) ?_
  simp
  rw [wrap_id (by omega) (by omega)]
  exact ⟨k + 1, by omega, by simp [WEAK], by omega⟩
theorem contains_pns_meets (ls : List Pn) (f : FuncId) (c : D) (hf : ∀ l, l ∈ ls → Meets (Tz g) f [l.d, c] ⟨.d (.bool false), []⟩) (hl : ls.length ≤ 1000) : Meets (Tz g) f_slices_ContainsFunc_l_api_PayLine_api_PayLine [pns ls, .fn f [] [c]] ⟨.d (.bool false), []⟩ := by
  refine meets_slices_ContainsFunc_l_api_PayLine_api_PayLine ?_
  unfold vc_slices_ContainsFunc_l_api_PayLine_api_PayLine
  refine CALL.val _ _ rfl (index_pns_meets ls f c hf hl) (.inl rfl) ?_
  simp
end Go.Vc

namespace Go.Vc
open Go Go.Proofs
variable {g : GG}
attribute [local simp] and_assoc
theorem pay_isBook_1_meets (n : Int) : Meets (Tz g) f_pay_isBook_1 [int n] ⟨.d (.bool (!inB n 0 800)), []⟩ := by
  refine meets_pay_isBook_1 ?_
  unfold vc_pay_isBook_1
  refine CALL.val [int n, int 0, int 800] _ rfl (pay_in_meets _ _ _) (.inl rfl) ?_
  simp
theorem pay_isBook_meets (rate fine : Int) (l : List Pn) (hr : 0 ≤ rate ∧ rate ≤ 800) (hf : 0 ≤ fine ∧ fine ≤ 800) (hl : 1 ≤ l.length ∧ l.length ≤ 5) (hx : ∀ x, x ∈ l → lineOK x) : Meets (Tz g) f_pay_isBook [bookD rate fine l] ⟨.d (.bool true), []⟩ := by
  refine meets_pay_isBook ?_
  unfold vc_pay_isBook
  simp [bookD, bookC, pns]
  refine CALL.val [int 1, int 1, int 3] _ rfl (pay_in_meets _ _ _) (.inl rfl) ?_
  simp [inB, vc_pay_isBook_k3]
  refine CALL.val [int 1, int 1, int 48] _ rfl (pay_in_meets _ _ _) (.inl rfl) ?_
  simp [inB, vc_pay_isBook_k2]
  refine CALL.val [int l.length, int 1, int 5] _ rfl (pay_in_meets _ _ _) (.inl rfl) ?_
  have e1 : inB (l.length : Int) 1 5 = true := by simp [inB]; omega
  simp [e1, vc_pay_isBook_k1]
  refine CALL.val [ints [rate, fine, 0, 0], .fn f_pay_isBook_1 [] []] _ (by simp [ints]) (contains_nums_meets [rate, fine, 0, 0] f_pay_isBook_1 (fun n => !inB n 0 800) pay_isBook_1_meets (by simp)) (.inr rfl) ?_
  have e2 : ([rate, fine, 0, 0].any fun n => !inB n 0 800) = false := by simp [inB, hr, hf]
  simp [e2, vc_pay_isBook_k0]
  refine CALL.data [pns l, .fn f_pay_isBook_2 [] [.cp (bookC rate fine l)]] _ (by simp [bookC, pns]) (contains_pns_meets l _ _ (fun x hm => pay_isBook_2_meets rate fine l x (hx x hm)) (by omega)) ?_
  simp
def accD (rate fine : Int) (l : List Pn) (es : List Int) : D := .agg [int 1, int 1, int rate, int fine, int 0, int 0, pns l, ints es]
def owedI (rate fine : Int) (x : Pn) : Int := max 0 (rate * x.sheets - fine * x.errs)
theorem mul_bnd {a b : Int} (ha : 0 ≤ a ∧ a ≤ 800) (hb : 0 ≤ b ∧ b ≤ 20) : 0 ≤ a * b ∧ a * b ≤ 16000 := by
  refine ⟨Int.mul_nonneg ha.1 hb.1, ?_⟩
  have h1 : a * b ≤ 800 * b := Int.mul_le_mul_of_nonneg_right ha.2 hb.1
  omega
theorem pay_sheets_meets (rate fine : Int) (l : List Pn) (es : List Int) (k : Nat) (x : Pn) (hr : 0 ≤ rate ∧ rate ≤ 800) (hf : 0 ≤ fine ∧ fine ≤ 800) (hk : l[k]? = some x) (he : es[k]? = some x.errs) (hx : lineOK x) : Meets (Tz g) f_pay_account_sheets [accD rate fine l es, int k] ⟨.d (int (owedI rate fine x)), []⟩ := by
  obtain ⟨h1, h2, h3, h4⟩ := hx
  have b1 := mul_bnd hr ⟨h1, h2⟩
  have b2 := mul_bnd hf ⟨h3, h4⟩
  refine meets_pay_account_sheets ?_
  unfold vc_pay_account_sheets
  simp [accD, pns, ints, hk, he]
  rw [wrap_id (n := rate * x.sheets) (by omega) (by omega), wrap_id (n := fine * x.errs) (by omega) (by omega), wrap_id (n := rate * x.sheets - fine * x.errs) (by omega) (by omega)]
  exact ⟨rfl, rfl⟩
theorem pay_mornings_meets (rate fine : Int) (l : List Pn) (es : List Int) (k : Nat) (x : Pn) (hk : l[k]? = some x) : Meets (Tz g) f_pay_account_mornings [accD rate fine l es, int k] ⟨.d (int 0), []⟩ := by
  refine meets_pay_account_mornings ?_
  unfold vc_pay_account_mornings
  simp [accD, pns, ints, hk]
  exact ⟨rfl, rfl⟩
theorem pay_posts_meets (rate fine : Int) (l : List Pn) (es : List Int) (k : Nat) (x : Pn) (hk : l[k]? = some x) : Meets (Tz g) f_pay_account_posts [accD rate fine l es, int k] ⟨.d (int 0), []⟩ := by
  refine meets_pay_account_posts ?_
  unfold vc_pay_account_posts
  simp [accD, pns, ints, hk]
  exact ⟨rfl, rfl⟩
theorem pay_owed_meets (rate fine : Int) (l : List Pn) (es : List Int) (k : Nat) (x : Pn) (hr : 0 ≤ rate ∧ rate ≤ 800) (hf : 0 ≤ fine ∧ fine ≤ 800) (hk : l[k]? = some x) (he : es[k]? = some x.errs) (hx : lineOK x) : Meets (Tz g) f_pay_account_owed [accD rate fine l es, int k] ⟨.d (int (owedI rate fine x)), []⟩ := by
  have hS := pay_sheets_meets (g := g) rate fine l es k x hr hf hk he hx
  have hM := pay_mornings_meets (g := g) rate fine l es k x hk
  have hP := pay_posts_meets (g := g) rate fine l es k x hk
  obtain ⟨h1, h2, h3, h4⟩ := hx
  have b1 := mul_bnd hr ⟨h1, h2⟩
  have b2 := mul_bnd hf ⟨h3, h4⟩
  have b3 : 0 ≤ owedI rate fine x ∧ owedI rate fine x ≤ 16000 := by unfold owedI; omega
  generalize owedI rate fine x = w at *
  refine meets_pay_account_owed ?_
  unfold vc_pay_account_owed
  simp [accD, pns, ints]
  refine LOOP.mk Nat (fun i => [.d (int k), .d (int (match i with | 0 => 0 | _ + 1 => w)), .agg [.fn f_pay_account_sheets [.d (accD rate fine l es)] [], .fn f_pay_account_mornings [.d (accD rate fine l es)] [], .fn f_pay_account_posts [.d (accD rate fine l es)] []], .d (int i)]) (fun _ => []) (fun i => i ≤ 3) (fun i => 3 - i) [] (by simp) 0 (by omega) (by simp [WEAK, accD, pns, ints]) (fun _ _ => rfl) ?_
  intro i hi
  rcases (by omega : i = 0 ∨ i = 1 ∨ i = 2 ∨ i = 3) with rfl | rfl | rfl | rfl
  · simp [vc_pay_account_owed_k0]
    refine CALL.val [accD rate fine l es, int k] _ rfl hS (.inl rfl) ?_
    simp
    rw [wrap_id (n := w) (by omega) (by omega)]
    exact ⟨1, by omega, by simp [WEAK]; rfl, by omega⟩
  · simp [vc_pay_account_owed_k0]
    refine CALL.val [accD rate fine l es, int k] _ rfl hM (.inl rfl) ?_
    simp
    rw [wrap_id (n := w) (by omega) (by omega)]
    exact ⟨2, by omega, by simp [WEAK]; rfl, by omega⟩
  · simp [vc_pay_account_owed_k0]
    refine CALL.val [accD rate fine l es, int k] _ rfl hP (.inl rfl) ?_
    simp
    rw [wrap_id (n := w) (by omega) (by omega)]
    exact ⟨3, by omega, by simp [WEAK]; rfl, by omega⟩
  · simp [vc_pay_account_owed_k0]
theorem pay_always_meets (rate fine : Int) (l : List Pn) (es : List Int) : Meets (Tz g) f_pay_always [accD rate fine l es] ⟨.d (.bool true), []⟩ := by
  refine meets_pay_always ?_
  unfold vc_pay_always
  simp
theorem pay_Owed_1_meets (rate fine : Int) (l : List Pn) (es : List Int) (k : Nat) (x : Pn) (hr : 0 ≤ rate ∧ rate ≤ 800) (hf : 0 ≤ fine ∧ fine ≤ 800) (hk : l[k]? = some x) (he : es[k]? = some x.errs) (hx : lineOK x) : Meets (Tz g) f_pay_Owed_1 [accD rate fine l es, .cp [int k]] ⟨.d (int (owedI rate fine x)), []⟩ := by
  refine meets_pay_Owed_1 ?_
  unfold vc_pay_Owed_1
  simp [accD, pns, ints]
  refine CALL.val [accD rate fine l es, int k] _ (by simp [accD, pns, ints]) (pay_owed_meets rate fine l es k x hr hf hk he hx) (.inl rfl) ?_
  simp
end Go.Vc
