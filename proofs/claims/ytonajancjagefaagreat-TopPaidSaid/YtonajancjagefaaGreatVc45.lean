/- A part of the proof: general laws of a reading of the model by abstract data, or contracts of the functions that the law calls. -/
import Derived.Test.YtonajancjagefaaGreatVc29
import Derived.Test.YtonajancjagefaaGreatVc15
import Derived.Test.YtonajancjagefaaGreatVc33
set_option maxRecDepth 100000
namespace Go.Vc
open Go Go.Proofs Go.RowKit
def ann_hands_in : Nat → List Nat := fun n => match n with  | _ => []
def vc_hands_in (_P : Ctx) (pre : List ABlk) (a0 a1 a2 : AV) (r : AV) (post : List PB) : Prop :=
  let h0 : Heap := numbered 0 pre
  BIN 0 .geq a0 a1 fun v9 =>
  CONDG v9
  (BIN 0 .leq a0 a2 fun v13 =>
  POST v13 h0 pre r post)
  (POST (.d (.bool false)) h0 pre r post)
theorem vc_hands_in_eq (g : GG) (pre : List ABlk) (a0 a1 a2 : AV) (r : AV) (post : List PB) : vcFn2 (Tz g) false ann_hands_in Tryz.f92 pre [a0, a1, a2] (.ret r) post = vc_hands_in (Tz g) pre a0 a1 a2 r post := by kernel_rfl
theorem hf_hands_in : Tryz.prog.funcs[f_hands_in]? = some Tryz.f92 := by kernel_rfl
theorem ok_hands_in : fnVcOK Tryz.prog Tryz.f92 = true := by kernel_rfl
theorem nt_hands_in : Nat.ble 3 Tryz.f92.ntmps = true := by kernel_rfl
theorem meetsH_hands_in {g : GG} {pre : List ABlk} {a0 a1 a2 : AV} {r : AV} {post : List PB} (hk : Nat.ble pre.length 24 = true) (h : vc_hands_in (Tz g) pre a0 a1 a2 r post) : MeetsH (Tz g) f_hands_in pre [a0, a1, a2] (.ret r) post :=
  meetsH_of_vc (C := Tz g) ann_hands_in hf_hands_in ok_hands_in nt_hands_in hk (pn := false) (Eq.mpr ((vcFn2_eq _ _ _ _ _ _ _ _).trans (vc_hands_in_eq g pre a0 a1 a2 r post)) h)
theorem meets_hands_in {g : GG} {a0 a1 a2 : D} {r : Res} (h : vc_hands_in (Tz g) [] (.d a0) (.d a1) (.d a2) r.val (r.bl.map .upd)) : Meets (Tz g) f_hands_in [a0, a1, a2] r := meetsH_hands_in rfl h
def ann_hands_isNumber : Nat → List Nat := fun n => match n with  | _ => []
def vc_hands_isNumber (P : Ctx) (pre : List ABlk) (a0 : AV) (r : AV) (post : List PB) : Prop :=
  let h0 : Heap := numbered 0 pre
  CALL P f_hands_in [a0, (.d (.num .i64 (-999))), (.d (.num .i64 999))] 40 h0 (fun _ v4 h1 =>
  POST v4 h1 pre r post)
  (fun _ _ _ => False)
theorem vc_hands_isNumber_eq (g : GG) (pre : List ABlk) (a0 : AV) (r : AV) (post : List PB) : vcFn2 (Tz g) false ann_hands_isNumber Tryz.f94 pre [a0] (.ret r) post = vc_hands_isNumber (Tz g) pre a0 r post := by kernel_rfl
theorem hf_hands_isNumber : Tryz.prog.funcs[f_hands_isNumber]? = some Tryz.f94 := by kernel_rfl
theorem ok_hands_isNumber : fnVcOK Tryz.prog Tryz.f94 = true := by kernel_rfl
theorem nt_hands_isNumber : Nat.ble 1 Tryz.f94.ntmps = true := by kernel_rfl
theorem meetsH_hands_isNumber {g : GG} {pre : List ABlk} {a0 : AV} {r : AV} {post : List PB} (hk : Nat.ble pre.length 24 = true) (h : vc_hands_isNumber (Tz g) pre a0 r post) : MeetsH (Tz g) f_hands_isNumber pre [a0] (.ret r) post :=
  meetsH_of_vc (C := Tz g) ann_hands_isNumber hf_hands_isNumber ok_hands_isNumber nt_hands_isNumber hk (pn := false) (Eq.mpr ((vcFn2_eq _ _ _ _ _ _ _ _).trans (vc_hands_isNumber_eq g pre a0 r post)) h)
theorem meets_hands_isNumber {g : GG} {a0 : D} {r : Res} (h : vc_hands_isNumber (Tz g) [] (.d a0) r.val (r.bl.map .upd)) : Meets (Tz g) f_hands_isNumber [a0] r := meetsH_hands_isNumber rfl h
def ann_hands_isColumn : Nat → List Nat := fun n => match n with  | _ => []
def vc_hands_isColumn (P : Ctx) (pre : List ABlk) (a0 : AV) (r : AV) (post : List PB) : Prop :=
  let h0 : Heap := numbered 0 pre
  LEN false a0 h0 fun v4 =>
  CALL P f_hands_in [v4, (.d (.num .i64 1)), (.d (.num .i64 6))] 48 h0 (fun _ v5 h1 =>
  CONDG v5
  (CALL P f_slices_ContainsFunc_l_int_int [a0, (.d (.fn f_hands_isColumn_1 [] []))] 72 h1 (fun _ v8 h3 =>
  NOT v8 fun v9 =>
  POST v9 h3 pre r post)
  (fun _ _ _ => False))
  (POST (.d (.bool false)) h1 pre r post))
  (fun _ _ _ => False)
theorem vc_hands_isColumn_eq (g : GG) (pre : List ABlk) (a0 : AV) (r : AV) (post : List PB) : vcFn2 (Tz g) false ann_hands_isColumn Tryz.f57 pre [a0] (.ret r) post = vc_hands_isColumn (Tz g) pre a0 r post := by kernel_rfl
theorem hf_hands_isColumn : Tryz.prog.funcs[f_hands_isColumn]? = some Tryz.f57 := by kernel_rfl
theorem ok_hands_isColumn : fnVcOK Tryz.prog Tryz.f57 = true := by kernel_rfl
theorem nt_hands_isColumn : Nat.ble 1 Tryz.f57.ntmps = true := by kernel_rfl
theorem meetsH_hands_isColumn {g : GG} {pre : List ABlk} {a0 : AV} {r : AV} {post : List PB} (hk : Nat.ble pre.length 24 = true) (h : vc_hands_isColumn (Tz g) pre a0 r post) : MeetsH (Tz g) f_hands_isColumn pre [a0] (.ret r) post :=
  meetsH_of_vc (C := Tz g) ann_hands_isColumn hf_hands_isColumn ok_hands_isColumn nt_hands_isColumn hk (pn := false) (Eq.mpr ((vcFn2_eq _ _ _ _ _ _ _ _).trans (vc_hands_isColumn_eq g pre a0 r post)) h)
theorem meets_hands_isColumn {g : GG} {a0 : D} {r : Res} (h : vc_hands_isColumn (Tz g) [] (.d a0) r.val (r.bl.map .upd)) : Meets (Tz g) f_hands_isColumn [a0] r := meetsH_hands_isColumn rfl h
def ann_hands_isColumn_1 : Nat → List Nat := fun n => match n with  | _ => []
def vc_hands_isColumn_1 (P : Ctx) (pre : List ABlk) (a0 : AV) (r : AV) (post : List PB) : Prop :=
  let h0 : Heap := numbered 0 pre
  CALL P f_hands_isNumber [a0] 40 h0 (fun _ v4 h1 =>
  NOT v4 fun v5 =>
  POST v5 h1 pre r post)
  (fun _ _ _ => False)
theorem vc_hands_isColumn_1_eq (g : GG) (pre : List ABlk) (a0 : AV) (r : AV) (post : List PB) : vcFn2 (Tz g) false ann_hands_isColumn_1 Tryz.f93 pre [a0] (.ret r) post = vc_hands_isColumn_1 (Tz g) pre a0 r post := by kernel_rfl
theorem hf_hands_isColumn_1 : Tryz.prog.funcs[f_hands_isColumn_1]? = some Tryz.f93 := by kernel_rfl
theorem ok_hands_isColumn_1 : fnVcOK Tryz.prog Tryz.f93 = true := by kernel_rfl
theorem nt_hands_isColumn_1 : Nat.ble 1 Tryz.f93.ntmps = true := by kernel_rfl
theorem meetsH_hands_isColumn_1 {g : GG} {pre : List ABlk} {a0 : AV} {r : AV} {post : List PB} (hk : Nat.ble pre.length 24 = true) (h : vc_hands_isColumn_1 (Tz g) pre a0 r post) : MeetsH (Tz g) f_hands_isColumn_1 pre [a0] (.ret r) post :=
  meetsH_of_vc (C := Tz g) ann_hands_isColumn_1 hf_hands_isColumn_1 ok_hands_isColumn_1 nt_hands_isColumn_1 hk (pn := false) (Eq.mpr ((vcFn2_eq _ _ _ _ _ _ _ _).trans (vc_hands_isColumn_1_eq g pre a0 r post)) h)
theorem meets_hands_isColumn_1 {g : GG} {a0 : D} {r : Res} (h : vc_hands_isColumn_1 (Tz g) [] (.d a0) r.val (r.bl.map .upd)) : Meets (Tz g) f_hands_isColumn_1 [a0] r := meetsH_hands_isColumn_1 rfl h
def ann_slices_ContainsFunc_l_int_int : Nat → List Nat := fun n => match n with  | _ => []
def vc_slices_ContainsFunc_l_int_int (P : Ctx) (pre : List ABlk) (a0 a1 : AV) (r : AV) (post : List PB) : Prop :=
  let h0 : Heap := numbered 0 pre
  CALL P f_slices_IndexFunc_l_int_int [a0, a1] 48 h0 (fun _ v7 h1 =>
  BIN 0 .geq v7 (.d (.num .i64 0)) fun v8 =>
  POST v8 h1 pre r post)
  (fun _ _ _ => False)
theorem vc_slices_ContainsFunc_l_int_int_eq (g : GG) (pre : List ABlk) (a0 a1 : AV) (r : AV) (post : List PB) : vcFn2 (Tz g) false ann_slices_ContainsFunc_l_int_int Tryz.f62 pre [a0, a1] (.ret r) post = vc_slices_ContainsFunc_l_int_int (Tz g) pre a0 a1 r post := by kernel_rfl
theorem hf_slices_ContainsFunc_l_int_int : Tryz.prog.funcs[f_slices_ContainsFunc_l_int_int]? = some Tryz.f62 := by kernel_rfl
theorem ok_slices_ContainsFunc_l_int_int : fnVcOK Tryz.prog Tryz.f62 = true := by kernel_rfl
theorem nt_slices_ContainsFunc_l_int_int : Nat.ble 2 Tryz.f62.ntmps = true := by kernel_rfl
theorem meetsH_slices_ContainsFunc_l_int_int {g : GG} {pre : List ABlk} {a0 a1 : AV} {r : AV} {post : List PB} (hk : Nat.ble pre.length 24 = true) (h : vc_slices_ContainsFunc_l_int_int (Tz g) pre a0 a1 r post) : MeetsH (Tz g) f_slices_ContainsFunc_l_int_int pre [a0, a1] (.ret r) post :=
  meetsH_of_vc (C := Tz g) ann_slices_ContainsFunc_l_int_int hf_slices_ContainsFunc_l_int_int ok_slices_ContainsFunc_l_int_int nt_slices_ContainsFunc_l_int_int hk (pn := false) (Eq.mpr ((vcFn2_eq _ _ _ _ _ _ _ _).trans (vc_slices_ContainsFunc_l_int_int_eq g pre a0 a1 r post)) h)
theorem meets_slices_ContainsFunc_l_int_int {g : GG} {a0 a1 : D} {r : Res} (h : vc_slices_ContainsFunc_l_int_int (Tz g) [] (.d a0) (.d a1) r.val (r.bl.map .upd)) : Meets (Tz g) f_slices_ContainsFunc_l_int_int [a0, a1] r := meetsH_slices_ContainsFunc_l_int_int rfl h
def ann_slices_IndexFunc_l_int_int : Nat → List Nat := fun n => match n with | 2 => [0, 1, 7, 8] | _ => []
def vc_slices_IndexFunc_l_int_int_k0 (P : Ctx) (pre : List ABlk) (r : AV) (post : List PB) (vs0 : List AV) (h2 : Heap) (next9 : List AV → Heap → Prop) : Prop :=
  BIN 0 .lss (nth vs0 3) (nth vs0 2) fun v1 =>
  COND v1
  (IADDR 1 T_int (nth vs0 0) (nth vs0 3) h2 fun v3 =>
  LOAD false 1 v3 h2 fun v4 =>
  CALLV P (nth vs0 1) [v4] 128 h2 (fun _ v6 h7 =>
  COND v6
  (POST (nth vs0 3) h7 pre r post)
  (BIN 0 .add (nth vs0 3) (.d (.num .i64 1)) fun v8 =>
  next9 [(nth vs0 0), (nth vs0 1), (nth vs0 2), v8] h7))
  (fun _ _ _ => False))
  (POST (.d (.num .i64 (-1))) h2 pre r post)
def vc_slices_IndexFunc_l_int_int (P : Ctx) (pre : List ABlk) (a0 a1 : AV) (r : AV) (post : List PB) : Prop :=
  let h0 : Heap := numbered 0 pre
  LEN false a0 h0 fun v7 =>
  LOOP [a0, a1, v7, (.d (.num .i64 0))] h0 56 fun vs1 h2 next1 =>
  vc_slices_IndexFunc_l_int_int_k0 P pre r post vs1 h2 next1
theorem vc_slices_IndexFunc_l_int_int_eq (g : GG) (pre : List ABlk) (a0 a1 : AV) (r : AV) (post : List PB) : vcFn2 (Tz g) false ann_slices_IndexFunc_l_int_int Tryz.f98 pre [a0, a1] (.ret r) post = vc_slices_IndexFunc_l_int_int (Tz g) pre a0 a1 r post := by kernel_rfl
theorem hf_slices_IndexFunc_l_int_int : Tryz.prog.funcs[f_slices_IndexFunc_l_int_int]? = some Tryz.f98 := by kernel_rfl
theorem ok_slices_IndexFunc_l_int_int : fnVcOK Tryz.prog Tryz.f98 = true := by kernel_rfl
theorem nt_slices_IndexFunc_l_int_int : Nat.ble 2 Tryz.f98.ntmps = true := by kernel_rfl
theorem meetsH_slices_IndexFunc_l_int_int {g : GG} {pre : List ABlk} {a0 a1 : AV} {r : AV} {post : List PB} (hk : Nat.ble pre.length 24 = true) (h : vc_slices_IndexFunc_l_int_int (Tz g) pre a0 a1 r post) : MeetsH (Tz g) f_slices_IndexFunc_l_int_int pre [a0, a1] (.ret r) post :=
  meetsH_of_vc (C := Tz g) ann_slices_IndexFunc_l_int_int hf_slices_IndexFunc_l_int_int ok_slices_IndexFunc_l_int_int nt_slices_IndexFunc_l_int_int hk (pn := false) (Eq.mpr ((vcFn2_eq _ _ _ _ _ _ _ _).trans (vc_slices_IndexFunc_l_int_int_eq g pre a0 a1 r post)) h)
theorem meets_slices_IndexFunc_l_int_int {g : GG} {a0 a1 : D} {r : Res} (h : vc_slices_IndexFunc_l_int_int (Tz g) [] (.d a0) (.d a1) r.val (r.bl.map .upd)) : Meets (Tz g) f_slices_IndexFunc_l_int_int [a0, a1] r := meetsH_slices_IndexFunc_l_int_int rfl h
def ann_hands_signed : Nat → List Nat := fun n => match n with  | _ => []
def vc_hands_signed (_P : Ctx) (pre : List ABlk) (a0 a1 a2 a3 : AV) (r : AV) (post : List PB) : Prop :=
  let h0 : Heap := numbered 0 pre
  BIN 0 .mul (.d (.num .i64 100)) a1 fun v11 =>
  BIN 0 .mul (.d (.num .i64 10)) a2 fun v13 =>
  BIN 0 .add v11 v13 fun v14 =>
  BIN 0 .add v14 a3 fun v16 =>
  BIN 0 .lss a0 (.d (.num .i64 0)) fun v18 =>
  COND v18
  (NEG v16 fun v20 =>
  POST v20 h0 pre r post)
  (POST v16 h0 pre r post)
theorem vc_hands_signed_eq (g : GG) (pre : List ABlk) (a0 a1 a2 a3 : AV) (r : AV) (post : List PB) : vcFn2 (Tz g) false ann_hands_signed Tryz.f118 pre [a0, a1, a2, a3] (.ret r) post = vc_hands_signed (Tz g) pre a0 a1 a2 a3 r post := by kernel_rfl
theorem hf_hands_signed : Tryz.prog.funcs[f_hands_signed]? = some Tryz.f118 := by kernel_rfl
theorem ok_hands_signed : fnVcOK Tryz.prog Tryz.f118 = true := by kernel_rfl
theorem nt_hands_signed : Nat.ble 4 Tryz.f118.ntmps = true := by kernel_rfl
theorem meetsH_hands_signed {g : GG} {pre : List ABlk} {a0 a1 a2 a3 : AV} {r : AV} {post : List PB} (hk : Nat.ble pre.length 24 = true) (h : vc_hands_signed (Tz g) pre a0 a1 a2 a3 r post) : MeetsH (Tz g) f_hands_signed pre [a0, a1, a2, a3] (.ret r) post :=
  meetsH_of_vc (C := Tz g) ann_hands_signed hf_hands_signed ok_hands_signed nt_hands_signed hk (pn := false) (Eq.mpr ((vcFn2_eq _ _ _ _ _ _ _ _).trans (vc_hands_signed_eq g pre a0 a1 a2 a3 r post)) h)
theorem meets_hands_signed {g : GG} {a0 a1 a2 a3 : D} {r : Res} (h : vc_hands_signed (Tz g) [] (.d a0) (.d a1) (.d a2) (.d a3) r.val (r.bl.map .upd)) : Meets (Tz g) f_hands_signed [a0, a1, a2, a3] r := meetsH_hands_signed rfl h
def ann_hands_right_figures : Nat → List Nat := fun n => match n with  | _ => []
def vc_hands_right_figures (_P : Ctx) (pre : List ABlk) (a0 : AV) (r : AV) (post : List PB) : Prop :=
  let h0 : Heap := numbered 0 pre
  BOX T_hands_right a0 24 h0 fun v1 h1 =>
  FADDR 0 v1 h1 fun v6 =>
  LOAD false 1 v6 h1 fun v7 =>
  FADDR 0 v1 h1 fun v8 =>
  LOAD false 1 v8 h1 fun v9 =>
  NEG v9 fun v10 =>
  MAXK v7 v10 fun v11 =>
  BIN 0 .quo v11 (.d (.num .i64 100)) fun v13 =>
  BIN 0 .quo v11 (.d (.num .i64 10)) fun v15 =>
  BIN 0 .rem v15 (.d (.num .i64 10)) fun v16 =>
  BIN 0 .rem v11 (.d (.num .i64 10)) fun v18 =>
  POST (.tup [v13, v16, v18]) h1 pre r post
theorem vc_hands_right_figures_eq (g : GG) (pre : List ABlk) (a0 : AV) (r : AV) (post : List PB) : vcFn2 (Tz g) false ann_hands_right_figures Tryz.f117 pre [a0] (.ret r) post = vc_hands_right_figures (Tz g) pre a0 r post := by kernel_rfl
theorem hf_hands_right_figures : Tryz.prog.funcs[f_hands_right_figures]? = some Tryz.f117 := by kernel_rfl
theorem ok_hands_right_figures : fnVcOK Tryz.prog Tryz.f117 = true := by kernel_rfl
theorem nt_hands_right_figures : Nat.ble 1 Tryz.f117.ntmps = true := by kernel_rfl
theorem meetsH_hands_right_figures {g : GG} {pre : List ABlk} {a0 : AV} {r : AV} {post : List PB} (hk : Nat.ble pre.length 24 = true) (h : vc_hands_right_figures (Tz g) pre a0 r post) : MeetsH (Tz g) f_hands_right_figures pre [a0] (.ret r) post :=
  meetsH_of_vc (C := Tz g) ann_hands_right_figures hf_hands_right_figures ok_hands_right_figures nt_hands_right_figures hk (pn := false) (Eq.mpr ((vcFn2_eq _ _ _ _ _ _ _ _).trans (vc_hands_right_figures_eq g pre a0 r post)) h)
theorem meets_hands_right_figures {g : GG} {a0 : D} {r : Res} (h : vc_hands_right_figures (Tz g) [] (.d a0) r.val (r.bl.map .upd)) : Meets (Tz g) f_hands_right_figures [a0] r := meetsH_hands_right_figures rfl h
def ann_hands_right_turned : Nat → List Nat := fun n => match n with  | _ => []
def vc_hands_right_turned_k0 (P : Ctx) (pre : List ABlk) (r : AV) (post : List PB) (a0 : AV) (v1 : AV) (h3 : Heap) (v4 : AV) (v7 : AV) (v8 : AV) (v9 : AV) : Prop :=
  BIN 0 .eql a0 v1 fun v2 =>
  CONDG v2
  (POST (.d (.bool true)) h3 pre r post)
  (FADDR 0 v4 h3 fun v5 =>
  LOAD false 1 v5 h3 fun v6 =>
  CALL P f_hands_signed [v6, v7, v8, v9] 232 h3 (fun _ v11 h12 =>
  BIN 0 .eql a0 v11 fun v13 =>
  POST v13 h12 pre r post)
  (fun _ _ _ => False))
def vc_hands_right_turned_k1 (P : Ctx) (pre : List ABlk) (r : AV) (post : List PB) (v0 : AV) (v4 : AV) (h5 : Heap) (a11 : AV) : Prop :=
  EXT v0 0 fun v1 =>
  EXT v0 1 fun v2 =>
  EXT v0 2 fun v3 =>
  FADDR 0 v4 h5 fun v6 =>
  LOAD false 1 v6 h5 fun v7 =>
  CALL P f_hands_signed [v7, v2, v1, v3] 160 h5 (fun _ v9 h10 =>
  vc_hands_right_turned_k0 P pre r post a11 v9 h10 v4 v1 v3 v2)
  (fun _ _ _ => False)
def vc_hands_right_turned (P : Ctx) (pre : List ABlk) (a0 a1 : AV) (r : AV) (post : List PB) : Prop :=
  let h0 : Heap := numbered 0 pre
  BOX T_hands_right a0 24 h0 fun v2 h1 =>
  LOAD true 3 v2 h1 fun v9 =>
  CALL P f_hands_right_figures [v9] 48 h1 (fun _ v10 h2 =>
  vc_hands_right_turned_k1 P pre r post v10 v2 h2 a1)
  (fun _ _ _ => False)
theorem vc_hands_right_turned_eq (g : GG) (pre : List ABlk) (a0 a1 : AV) (r : AV) (post : List PB) : vcFn2 (Tz g) false ann_hands_right_turned Tryz.f110 pre [a0, a1] (.ret r) post = vc_hands_right_turned (Tz g) pre a0 a1 r post := by kernel_rfl
theorem hf_hands_right_turned : Tryz.prog.funcs[f_hands_right_turned]? = some Tryz.f110 := by kernel_rfl
theorem ok_hands_right_turned : fnVcOK Tryz.prog Tryz.f110 = true := by kernel_rfl
theorem nt_hands_right_turned : Nat.ble 2 Tryz.f110.ntmps = true := by kernel_rfl
theorem meetsH_hands_right_turned {g : GG} {pre : List ABlk} {a0 a1 : AV} {r : AV} {post : List PB} (hk : Nat.ble pre.length 24 = true) (h : vc_hands_right_turned (Tz g) pre a0 a1 r post) : MeetsH (Tz g) f_hands_right_turned pre [a0, a1] (.ret r) post :=
  meetsH_of_vc (C := Tz g) ann_hands_right_turned hf_hands_right_turned ok_hands_right_turned nt_hands_right_turned hk (pn := false) (Eq.mpr ((vcFn2_eq _ _ _ _ _ _ _ _).trans (vc_hands_right_turned_eq g pre a0 a1 r post)) h)
theorem meets_hands_right_turned {g : GG} {a0 a1 : D} {r : Res} (h : vc_hands_right_turned (Tz g) [] (.d a0) (.d a1) r.val (r.bl.map .upd)) : Meets (Tz g) f_hands_right_turned [a0, a1] r := meetsH_hands_right_turned rfl h
def ann_hands_right_carried : Nat → List Nat := fun n => match n with  | _ => []
def vc_hands_right_carried_k0 (P : Ctx) (pre : List ABlk) (r : AV) (post : List PB) (a0 : AV) (v1 : AV) (h3 : Heap) (v4 : AV) (v6 : AV) (v10 : AV) (v11 : AV) : Prop :=
  BIN 0 .eql a0 v1 fun v2 =>
  CONDG v2
  (POST (.d (.bool true)) h3 pre r post)
  (BIN 0 .gtr v4 (.d (.num .i64 0)) fun v5 =>
  CONDG v5
  (FADDR 0 v6 h3 fun v7 =>
  LOAD false 1 v7 h3 fun v8 =>
  BIN 0 .sub v4 (.d (.num .i64 1)) fun v9 =>
  CALL P f_hands_signed [v8, v10, v9, v11] 304 h3 (fun _ v13 h14 =>
  BIN 0 .eql a0 v13 fun v15 =>
  POST v15 h14 pre r post)
  (fun _ _ _ => False))
  (POST (.d (.bool false)) h3 pre r post))
def vc_hands_right_carried_k1 (P : Ctx) (pre : List ABlk) (r : AV) (post : List PB) (v0 : AV) (h1 : Heap) (v4 : AV) (v6 : AV) (v7 : AV) (a11 : AV) : Prop :=
  FADDR 0 v0 h1 fun v2 =>
  LOAD false 1 v2 h1 fun v3 =>
  BIN 0 .sub v4 (.d (.num .i64 1)) fun v5 =>
  CALL P f_hands_signed [v3, v5, v6, v7] 192 h1 (fun _ v9 h10 =>
  vc_hands_right_carried_k0 P pre r post a11 v9 h10 v6 v0 v4 v7)
  (fun _ _ _ => False)
def vc_hands_right_carried_k2 (P : Ctx) (pre : List ABlk) (r : AV) (post : List PB) (v0 : AV) (v2 : AV) (h3 : Heap) (v7 : AV) (v8 : AV) (a12 : AV) : Prop :=
  BIN 0 .gtr v0 (.d (.num .i64 0)) fun v1 =>
  CONDG v1
  (FADDR 0 v2 h3 fun v4 =>
  LOAD false 1 v4 h3 fun v5 =>
  BIN 0 .sub v0 (.d (.num .i64 1)) fun v6 =>
  CALL P f_hands_signed [v5, v7, v6, v8] 304 h3 (fun _ v10 h11 =>
  BIN 0 .eql a12 v10 fun v13 =>
  POST v13 h11 pre r post)
  (fun _ _ _ => False))
  (POST (.d (.bool false)) h3 pre r post)
def vc_hands_right_carried (P : Ctx) (pre : List ABlk) (a0 a1 : AV) (r : AV) (post : List PB) : Prop :=
  let h0 : Heap := numbered 0 pre
  BOX T_hands_right a0 24 h0 fun v2 h1 =>
  LOAD true 3 v2 h1 fun v9 =>
  CALL P f_hands_right_figures [v9] 48 h1 (fun _ v10 h2 =>
  EXT v10 0 fun v11 =>
  EXT v10 1 fun v12 =>
  EXT v10 2 fun v13 =>
  BIN 0 .gtr v11 (.d (.num .i64 0)) fun v15 =>
  CONDG v15
  (vc_hands_right_carried_k1 P pre r post v2 h2 v11 v12 v13 a1)
  (vc_hands_right_carried_k2 P pre r post v12 v2 h2 v11 v13 a1))
  (fun _ _ _ => False)
theorem vc_hands_right_carried_eq (g : GG) (pre : List ABlk) (a0 a1 : AV) (r : AV) (post : List PB) : vcFn2 (Tz g) false ann_hands_right_carried Tryz.f111 pre [a0, a1] (.ret r) post = vc_hands_right_carried (Tz g) pre a0 a1 r post := by kernel_rfl
theorem hf_hands_right_carried : Tryz.prog.funcs[f_hands_right_carried]? = some Tryz.f111 := by kernel_rfl
theorem ok_hands_right_carried : fnVcOK Tryz.prog Tryz.f111 = true := by kernel_rfl
theorem nt_hands_right_carried : Nat.ble 2 Tryz.f111.ntmps = true := by kernel_rfl
theorem meetsH_hands_right_carried {g : GG} {pre : List ABlk} {a0 a1 : AV} {r : AV} {post : List PB} (hk : Nat.ble pre.length 24 = true) (h : vc_hands_right_carried (Tz g) pre a0 a1 r post) : MeetsH (Tz g) f_hands_right_carried pre [a0, a1] (.ret r) post :=
  meetsH_of_vc (C := Tz g) ann_hands_right_carried hf_hands_right_carried ok_hands_right_carried nt_hands_right_carried hk (pn := false) (Eq.mpr ((vcFn2_eq _ _ _ _ _ _ _ _).trans (vc_hands_right_carried_eq g pre a0 a1 r post)) h)
theorem meets_hands_right_carried {g : GG} {a0 a1 : D} {r : Res} (h : vc_hands_right_carried (Tz g) [] (.d a0) (.d a1) r.val (r.bl.map .upd)) : Meets (Tz g) f_hands_right_carried [a0, a1] r := meetsH_hands_right_carried rfl h
def ann_hands_right_other : Nat → List Nat := fun n => match n with  | _ => []
def vc_hands_right_other (_P : Ctx) (pre : List ABlk) (a0 a1 : AV) (r : AV) (post : List PB) : Prop :=
  let h0 : Heap := numbered 0 pre
  BOX T_hands_right a0 24 h0 fun v2 h1 =>
  FADDR 0 v2 h1 fun v6 =>
  LOAD false 1 v6 h1 fun v7 =>
  NEG v7 fun v8 =>
  BIN 0 .eql a1 v8 fun v9 =>
  POST v9 h1 pre r post
theorem vc_hands_right_other_eq (g : GG) (pre : List ABlk) (a0 a1 : AV) (r : AV) (post : List PB) : vcFn2 (Tz g) false ann_hands_right_other Tryz.f112 pre [a0, a1] (.ret r) post = vc_hands_right_other (Tz g) pre a0 a1 r post := by kernel_rfl
theorem hf_hands_right_other : Tryz.prog.funcs[f_hands_right_other]? = some Tryz.f112 := by kernel_rfl
theorem ok_hands_right_other : fnVcOK Tryz.prog Tryz.f112 = true := by kernel_rfl
theorem nt_hands_right_other : Nat.ble 2 Tryz.f112.ntmps = true := by kernel_rfl
theorem meetsH_hands_right_other {g : GG} {pre : List ABlk} {a0 a1 : AV} {r : AV} {post : List PB} (hk : Nat.ble pre.length 24 = true) (h : vc_hands_right_other (Tz g) pre a0 a1 r post) : MeetsH (Tz g) f_hands_right_other pre [a0, a1] (.ret r) post :=
  meetsH_of_vc (C := Tz g) ann_hands_right_other hf_hands_right_other ok_hands_right_other nt_hands_right_other hk (pn := false) (Eq.mpr ((vcFn2_eq _ _ _ _ _ _ _ _).trans (vc_hands_right_other_eq g pre a0 a1 r post)) h)
theorem meets_hands_right_other {g : GG} {a0 a1 : D} {r : Res} (h : vc_hands_right_other (Tz g) [] (.d a0) (.d a1) r.val (r.bl.map .upd)) : Meets (Tz g) f_hands_right_other [a0, a1] r := meetsH_hands_right_other rfl h
def ann_hands_right_line : Nat → List Nat := fun n => match n with  | _ => []
def vc_hands_right_line (_P : Ctx) (pre : List ABlk) (a0 a1 : AV) (r : AV) (post : List PB) : Prop :=
  let h0 : Heap := numbered 0 pre
  BOX T_hands_right a0 24 h0 fun v2 h1 =>
  FADDR 2 v2 h1 fun v5 =>
  LOAD false 1 v5 h1 fun v6 =>
  NOT v6 fun v7 =>
  CONDG v7
  (FADDR 1 v2 h1 fun v10 =>
  LOAD false 1 v10 h1 fun v11 =>
  BIN 0 .eql a1 v11 fun v12 =>
  POST v12 h1 pre r post)
  (POST (.d (.bool false)) h1 pre r post)
theorem vc_hands_right_line_eq (g : GG) (pre : List ABlk) (a0 a1 : AV) (r : AV) (post : List PB) : vcFn2 (Tz g) false ann_hands_right_line Tryz.f113 pre [a0, a1] (.ret r) post = vc_hands_right_line (Tz g) pre a0 a1 r post := by kernel_rfl
theorem hf_hands_right_line : Tryz.prog.funcs[f_hands_right_line]? = some Tryz.f113 := by kernel_rfl
theorem ok_hands_right_line : fnVcOK Tryz.prog Tryz.f113 = true := by kernel_rfl
theorem nt_hands_right_line : Nat.ble 2 Tryz.f113.ntmps = true := by kernel_rfl
theorem meetsH_hands_right_line {g : GG} {pre : List ABlk} {a0 a1 : AV} {r : AV} {post : List PB} (hk : Nat.ble pre.length 24 = true) (h : vc_hands_right_line (Tz g) pre a0 a1 r post) : MeetsH (Tz g) f_hands_right_line pre [a0, a1] (.ret r) post :=
  meetsH_of_vc (C := Tz g) ann_hands_right_line hf_hands_right_line ok_hands_right_line nt_hands_right_line hk (pn := false) (Eq.mpr ((vcFn2_eq _ _ _ _ _ _ _ _).trans (vc_hands_right_line_eq g pre a0 a1 r post)) h)
theorem meets_hands_right_line {g : GG} {a0 a1 : D} {r : Res} (h : vc_hands_right_line (Tz g) [] (.d a0) (.d a1) r.val (r.bl.map .upd)) : Meets (Tz g) f_hands_right_line [a0, a1] r := meetsH_hands_right_line rfl h
def ann_hands_right_kind : Nat → List Nat := fun n => match n with | 3 => [1, 2, 9, 10] | _ => []
def vc_hands_right_kind_k0 (P : Ctx) (pre : List ABlk) (r : AV) (post : List PB) (vs0 : List AV) (h4 : Heap) (next10 : List AV → Heap → Prop) : Prop :=
  BIN 0 .lss (nth vs0 3) (.d (.num .i64 5)) fun v1 =>
  COND v1
  (AIDX false 1 5 (nth vs0 2) (nth vs0 3) fun v2 =>
  BIN 997 .neq v2 (.d .nilf) fun v3 =>
  CONDG v3
  (LOAD true 3 (nth vs0 1) h4 fun v5 =>
  CALLV P v2 [v5, (nth vs0 0)] 176 h4 (fun _ v7 h8 =>
  COND v7
  (POST (nth vs0 3) h8 pre r post)
  (BIN 0 .add (nth vs0 3) (.d (.num .i64 1)) fun v9 =>
  next10 [(nth vs0 0), (nth vs0 1), (nth vs0 2), v9] h8))
  (fun _ _ _ => False))
  (BIN 0 .add (nth vs0 3) (.d (.num .i64 1)) fun v9 =>
  next10 [(nth vs0 0), (nth vs0 1), (nth vs0 2), v9] h4))
  (POST (.d (.num .i64 0)) h4 pre r post)
def vc_hands_right_kind (P : Ctx) (pre : List ABlk) (a0 a1 : AV) (r : AV) (post : List PB) : Prop :=
  let h0 : Heap := numbered 0 pre
  BOX T_hands_right a0 24 h0 fun v2 h1 =>
  BUILD [(0, 1), (1, 1), (2, 1), (3, 1), (4, 1)] [.d .nilf, .d .nilf, .d .nilf, .d .nilf, .d .nilf] [(1, (.d (.fn f_hands_right_turned [] []))), (2, (.d (.fn f_hands_right_carried [] []))), (3, (.d (.fn f_hands_right_other [] []))), (4, (.d (.fn f_hands_right_line [] [])))] fun v8 =>
  ALLOC T_5_func_hands_right_int_bool [.d .nilf, .d .nilf, .d .nilf, .d .nilf, .d .nilf] 48 h1 fun v5 h2 =>
  STORE 5 v5 v8 h2 fun h3 =>
  LOAD true 5 v5 h3 fun v9 =>
  LOOP [a1, v2, v9, (.d (.num .i64 0))] h3 80 fun vs4 h5 next4 =>
  vc_hands_right_kind_k0 P pre r post vs4 h5 next4
theorem vc_hands_right_kind_eq (g : GG) (pre : List ABlk) (a0 a1 : AV) (r : AV) (post : List PB) : vcFn2 (Tz g) false ann_hands_right_kind Tryz.f97 pre [a0, a1] (.ret r) post = vc_hands_right_kind (Tz g) pre a0 a1 r post := by kernel_rfl
theorem hf_hands_right_kind : Tryz.prog.funcs[f_hands_right_kind]? = some Tryz.f97 := by kernel_rfl
theorem ok_hands_right_kind : fnVcOK Tryz.prog Tryz.f97 = true := by kernel_rfl
theorem nt_hands_right_kind : Nat.ble 2 Tryz.f97.ntmps = true := by kernel_rfl
theorem meetsH_hands_right_kind {g : GG} {pre : List ABlk} {a0 a1 : AV} {r : AV} {post : List PB} (hk : Nat.ble pre.length 24 = true) (h : vc_hands_right_kind (Tz g) pre a0 a1 r post) : MeetsH (Tz g) f_hands_right_kind pre [a0, a1] (.ret r) post :=
  meetsH_of_vc (C := Tz g) ann_hands_right_kind hf_hands_right_kind ok_hands_right_kind nt_hands_right_kind hk (pn := false) (Eq.mpr ((vcFn2_eq _ _ _ _ _ _ _ _).trans (vc_hands_right_kind_eq g pre a0 a1 r post)) h)
theorem meets_hands_right_kind {g : GG} {a0 a1 : D} {r : Res} (h : vc_hands_right_kind (Tz g) [] (.d a0) (.d a1) r.val (r.bl.map .upd)) : Meets (Tz g) f_hands_right_kind [a0, a1] r := meetsH_hands_right_kind rfl h
def ann_hands_of : Nat → List Nat := fun n => match n with  | _ => []
def vc_hands_of_k0 (_P : Ctx) (pre : List ABlk) (r : AV) (post : List PB) (a0 : AV) (a1 : AV) (h2 : Heap) (v6 : AV) : Prop :=
  IADDR 1 T_int a0 a1 h2 fun v3 =>
  LOAD false 1 v3 h2 fun v4 =>
  BUILD [(0, 1), (1, 1), (2, 1)] [.d (.num .i64 0), .d (.num .i64 0), .d (.bool false)] [(0, v4), (2, (.d (.bool true)))] fun v5 =>
  STORE 3 v6 v5 h2 fun h7 =>
  LOAD true 3 v6 h7 fun r3 =>
  POST r3 h7 pre r post
def vc_hands_of_k1 (_P : Ctx) (pre : List ABlk) (r : AV) (post : List PB) (a0 : AV) (a1 : AV) (h2 : Heap) (v9 : AV) : Prop :=
  IADDR 1 T_int a0 a1 h2 fun v3 =>
  LOAD false 1 v3 h2 fun v4 =>
  BIN 0 .add a1 (.d (.num .i64 1)) fun v5 =>
  IADDR 1 T_int a0 v5 h2 fun v6 =>
  LOAD false 1 v6 h2 fun v7 =>
  BUILD [(0, 1), (1, 1), (2, 1)] [.d (.num .i64 0), .d (.num .i64 0), .d (.bool false)] [(0, v4), (1, v7)] fun v8 =>
  STORE 3 v9 v8 h2 fun h10 =>
  ORDX [] [0, 0, 3, 7, 0, 0, 32, 112, 240, 511, 1023] [(2, wr h2 h2, (ids a0)), (3, wr h2 h2, (ids v3)), (7, wr h2 h2, (ids a0)), (8, wr h2 h2, (ids v6)), (10, wr h2 h10, (ids v9))] ∧
  LOAD true 3 v9 h10 fun r5 =>
  POST r5 h10 pre r post
def vc_hands_of (P : Ctx) (pre : List ABlk) (a0 a1 : AV) (r : AV) (post : List PB) : Prop :=
  let h0 : Heap := numbered 0 pre
  ALLOC T_hands_right [.d (.num .i64 0), .d (.num .i64 0), .d (.bool false)] 24 h0 fun v4 h1 =>
  LEN false a0 h1 fun v7 =>
  BIN 0 .sub v7 (.d (.num .i64 1)) fun v8 =>
  BIN 0 .eql a1 v8 fun v9 =>
  COND v9
  (vc_hands_of_k0 P pre r post a0 a1 h1 v4)
  (vc_hands_of_k1 P pre r post a0 a1 h1 v4)
theorem vc_hands_of_eq (g : GG) (pre : List ABlk) (a0 a1 : AV) (r : AV) (post : List PB) : vcFn2 (Tz g) false ann_hands_of Tryz.f96 pre [a0, a1] (.ret r) post = vc_hands_of (Tz g) pre a0 a1 r post := by kernel_rfl
theorem hf_hands_of : Tryz.prog.funcs[f_hands_of]? = some Tryz.f96 := by kernel_rfl
theorem ok_hands_of : fnVcOK Tryz.prog Tryz.f96 = true := by kernel_rfl
theorem nt_hands_of : Nat.ble 2 Tryz.f96.ntmps = true := by kernel_rfl
theorem meetsH_hands_of {g : GG} {pre : List ABlk} {a0 a1 : AV} {r : AV} {post : List PB} (hk : Nat.ble pre.length 24 = true) (h : vc_hands_of (Tz g) pre a0 a1 r post) : MeetsH (Tz g) f_hands_of pre [a0, a1] (.ret r) post :=
  meetsH_of_vc (C := Tz g) ann_hands_of hf_hands_of ok_hands_of nt_hands_of hk (pn := false) (Eq.mpr ((vcFn2_eq _ _ _ _ _ _ _ _).trans (vc_hands_of_eq g pre a0 a1 r post)) h)
theorem meets_hands_of {g : GG} {a0 a1 : D} {r : Res} (h : vc_hands_of (Tz g) [] (.d a0) (.d a1) r.val (r.bl.map .upd)) : Meets (Tz g) f_hands_of [a0, a1] r := meetsH_hands_of rfl h
def ann_hands_copied : Nat → List Nat := fun n => match n with | 3 => [0, 5, 9, 10, 11] | _ => []
def vc_hands_copied_k0 (_P : Ctx) (_pre : List ABlk) (_r : AV) (_post : List PB) (v0 : AV) (vs2 : List AV) (h5 : Heap) (next11 : List AV → Heap → Prop) : Prop :=
  BIN 0 .eql v0 (.d (.num .i64 0)) fun v1 =>
  COND v1
  (BUILD [(0, 1)] [.d (.num .i64 0)] [(0, (nth vs2 4))] fun v3 =>
  PANIC (.iface T_hands_unlike v3) fun _ => False)
  (BUILD [(0, 1), (1, 1)] [.d (.num .i64 0), .d (.num .i64 0)] [(0, (nth vs2 4)), (1, v0)] fun v4 =>
  MKS T_api_HandsError 2 [v4] 264 h5 fun v6 h7 =>
  APP T_api_HandsError 2 (nth vs2 1) v6 272 h7 fun v8 h9 =>
  BIN 0 .add (nth vs2 4) (.d (.num .i64 1)) fun v10 =>
  next11 [(nth vs2 0), v8, (nth vs2 2), (nth vs2 3), v10] h9)
def vc_hands_copied_k1 (P : Ctx) (pre : List ABlk) (r : AV) (post : List PB) (vs0 : List AV) (h2 : Heap) (next9 : List AV → Heap → Prop) : Prop :=
  BIN 0 .lss (nth vs0 4) (nth vs0 3) fun v1 =>
  COND v1
  (IADDR 1 T_int (nth vs0 2) (nth vs0 4) h2 fun v3 =>
  LOAD false 1 v3 h2 fun v4 =>
  IADDR 1 T_int (nth vs0 0) (nth vs0 4) h2 fun v5 =>
  LOAD false 1 v5 h2 fun v6 =>
  BIN 0 .eql v4 v6 fun v7 =>
  COND v7
  (BIN 0 .add (nth vs0 4) (.d (.num .i64 1)) fun v8 =>
  next9 [(nth vs0 0), (nth vs0 1), (nth vs0 2), (nth vs0 3), v8] h2)
  (CALL P f_hands_of [(nth vs0 0), (nth vs0 4)] 184 h2 (fun _ v11 h12 =>
  CALL P f_hands_right_kind [v11, v4] 200 h12 (fun _ v14 h15 =>
  vc_hands_copied_k0 P pre r post v14 vs0 h15 next9)
  (fun _ _ _ => False))
  (fun _ _ _ => False)))
  (POST (nth vs0 1) h2 pre r post)
def vc_hands_copied (P : Ctx) (pre : List ABlk) (a0 a1 : AV) (r : AV) (post : List PB) : Prop :=
  let h0 : Heap := numbered 0 pre
  LEN false a1 h0 fun v10 =>
  LOOP [a0, .zc, a1, v10, (.d (.num .i64 0))] h0 64 fun vs1 h2 next1 =>
  vc_hands_copied_k1 P pre r post vs1 h2 next1
theorem vc_hands_copied_eq (g : GG) (pre : List ABlk) (a0 a1 : AV) (r : AV) (post : List PB) : vcFn2 (Tz g) false ann_hands_copied Tryz.f60 pre [a0, a1] (.ret r) post = vc_hands_copied (Tz g) pre a0 a1 r post := by kernel_rfl
theorem hf_hands_copied : Tryz.prog.funcs[f_hands_copied]? = some Tryz.f60 := by kernel_rfl
theorem ok_hands_copied : fnVcOK Tryz.prog Tryz.f60 = true := by kernel_rfl
theorem nt_hands_copied : Nat.ble 2 Tryz.f60.ntmps = true := by kernel_rfl
theorem meetsH_hands_copied {g : GG} {pre : List ABlk} {a0 a1 : AV} {r : AV} {post : List PB} (hk : Nat.ble pre.length 24 = true) (h : vc_hands_copied (Tz g) pre a0 a1 r post) : MeetsH (Tz g) f_hands_copied pre [a0, a1] (.ret r) post :=
  meetsH_of_vc (C := Tz g) ann_hands_copied hf_hands_copied ok_hands_copied nt_hands_copied hk (pn := false) (Eq.mpr ((vcFn2_eq _ _ _ _ _ _ _ _).trans (vc_hands_copied_eq g pre a0 a1 r post)) h)
theorem meets_hands_copied {g : GG} {a0 a1 : D} {r : Res} (h : vc_hands_copied (Tz g) [] (.d a0) (.d a1) r.val (r.bl.map .upd)) : Meets (Tz g) f_hands_copied [a0, a1] r := meetsH_hands_copied rfl h
def annp_hands_copied : Nat → List Nat := fun n => match n with | 3 => [0, 5, 9, 10, 11] | _ => []
def vcp_hands_copied_k0 (_P : Ctx) (pre : List ABlk) (r : AV) (post : List PB) (v0 : AV) (vs2 : List AV) (h5 : Heap) (next12 : List AV → Heap → Prop) : Prop :=
  BIN 0 .eql v0 (.d (.num .i64 0)) fun v1 =>
  COND v1
  (BUILD [(0, 1)] [.d (.num .i64 0)] [(0, (nth vs2 4))] fun v3 =>
  PANIC (.iface T_hands_unlike v3) fun pv4 =>
  POST pv4 h5 pre r post)
  (BUILD [(0, 1), (1, 1)] [.d (.num .i64 0), .d (.num .i64 0)] [(0, (nth vs2 4)), (1, v0)] fun v6 =>
  MKS T_api_HandsError 2 [v6] 264 h5 fun v7 h8 =>
  APP T_api_HandsError 2 (nth vs2 1) v7 272 h8 fun v9 h10 =>
  BIN 0 .add (nth vs2 4) (.d (.num .i64 1)) fun v11 =>
  next12 [(nth vs2 0), v9, (nth vs2 2), (nth vs2 3), v11] h10)
def vcp_hands_copied_k1 (P : Ctx) (pre : List ABlk) (r : AV) (post : List PB) (vs0 : List AV) (h2 : Heap) (next9 : List AV → Heap → Prop) : Prop :=
  BIN 0 .lss (nth vs0 4) (nth vs0 3) fun v1 =>
  COND v1
  (IADDR 1 T_int (nth vs0 2) (nth vs0 4) h2 fun v3 =>
  LOAD false 1 v3 h2 fun v4 =>
  IADDR 1 T_int (nth vs0 0) (nth vs0 4) h2 fun v5 =>
  LOAD false 1 v5 h2 fun v6 =>
  BIN 0 .eql v4 v6 fun v7 =>
  COND v7
  (BIN 0 .add (nth vs0 4) (.d (.num .i64 1)) fun v8 =>
  next9 [(nth vs0 0), (nth vs0 1), (nth vs0 2), (nth vs0 3), v8] h2)
  (CALL P f_hands_of [(nth vs0 0), (nth vs0 4)] 184 h2 (fun _ v11 h12 =>
  CALL P f_hands_right_kind [v11, v4] 200 h12 (fun _ v14 h15 =>
  vcp_hands_copied_k0 P pre r post v14 vs0 h15 next9)
  (fun _ pv16 ph17 =>
  POST pv16 ph17 pre r post))
  (fun _ pv18 ph19 =>
  POST pv18 ph19 pre r post)))
  (False)
def vcp_hands_copied (P : Ctx) (pre : List ABlk) (a0 a1 : AV) (r : AV) (post : List PB) : Prop :=
  let h0 : Heap := numbered 0 pre
  LEN false a1 h0 fun v10 =>
  LOOP [a0, .zc, a1, v10, (.d (.num .i64 0))] h0 64 fun vs1 h2 next1 =>
  vcp_hands_copied_k1 P pre r post vs1 h2 next1
theorem vcp_hands_copied_eq (g : GG) (pre : List ABlk) (a0 a1 : AV) (r : AV) (post : List PB) : vcFn2 (Tz g) true annp_hands_copied Tryz.f60 pre [a0, a1] (.pan r) post = vcp_hands_copied (Tz g) pre a0 a1 r post := by kernel_rfl
theorem hfp_hands_copied : Tryz.prog.funcs[f_hands_copied]? = some Tryz.f60 := by kernel_rfl
theorem okp_hands_copied : fnVcOK Tryz.prog Tryz.f60 = true := by kernel_rfl
theorem ntp_hands_copied : Nat.ble 2 Tryz.f60.ntmps = true := by kernel_rfl
theorem meetsHp_hands_copied {g : GG} {pre : List ABlk} {a0 a1 : AV} {r : AV} {post : List PB} (hk : Nat.ble pre.length 24 = true) (h : vcp_hands_copied (Tz g) pre a0 a1 r post) : MeetsH (Tz g) f_hands_copied pre [a0, a1] (.pan r) post :=
  meetsH_of_vc (C := Tz g) annp_hands_copied hfp_hands_copied okp_hands_copied ntp_hands_copied hk (pn := true) (Eq.mpr ((vcFn2_eq _ _ _ _ _ _ _ _).trans (vcp_hands_copied_eq g pre a0 a1 r post)) h)
theorem meetsP_hands_copied {g : GG} {a0 a1 : D} {x : D} (h : vcp_hands_copied (Tz g) [] (.d a0) (.d a1) (.d x) []) : MeetsP (Tz g) f_hands_copied [a0, a1] x := meetsHp_hands_copied rfl h
def ann_hands_Errors : Nat → List Nat := fun n => match n with  | _ => []
def vc_hands_Errors_k0 (P : Ctx) (pre : List ABlk) (r : AV) (post : List PB) (v0 : AV) (h2 : Heap) (v3 : AV) (v6 : AV) : Prop :=
  NOT v0 fun v1 =>
  CONDG v1
  (POST (.tup [.zc, (.d (.num .i64 2))]) h2 pre r post)
  (LOAD false 1 v3 h2 fun v4 =>
  LEN false v4 h2 fun v5 =>
  LOAD false 1 v6 h2 fun v7 =>
  LEN false v7 h2 fun v8 =>
  BIN 0 .neq v5 v8 fun v9 =>
  COND v9
  (POST (.tup [.zc, (.d (.num .i64 2))]) h2 pre r post)
  (ALLOC T_l_api_HandsError [.zc] 176 h2 fun v10 h11 =>
  CALL P f_hands_attempt [(.fn f_hands_Errors_1 [] [v3, v6, v10])] 192 h11 (fun _ v13 h14 =>
  BIN 0 .neq v13 (.d (.num .i64 0)) fun v15 =>
  COND v15
  (POST (.tup [.zc, v13]) h14 pre r post)
  (LOAD false 1 v10 h14 fun v16 =>
  POST (.tup [v16, (.d (.num .i64 0))]) h14 pre r post))
  (fun _ _ _ => False)))
def vc_hands_Errors (P : Ctx) (pre : List ABlk) (a0 a1 : AV) (r : AV) (post : List PB) : Prop :=
  let h0 : Heap := numbered 0 pre
  BOX T_l_int a0 24 h0 fun v2 h1 =>
  BOX T_l_int a1 32 h1 fun v3 h2 =>
  LOAD false 1 v2 h2 fun v8 =>
  CALL P f_hands_isColumn [v8] 64 h2 (fun _ v9 h3 =>
  NOT v9 fun v10 =>
  CONDG v10
  (POST (.tup [.zc, (.d (.num .i64 2))]) h3 pre r post)
  (LOAD false 1 v3 h3 fun v12 =>
  CALL P f_hands_isColumn [v12] 96 h3 (fun _ v13 h5 =>
  vc_hands_Errors_k0 P pre r post v13 h5 v2 v3)
  (fun _ _ _ => False)))
  (fun _ _ _ => False)
theorem vc_hands_Errors_eq (g : GG) (pre : List ABlk) (a0 a1 : AV) (r : AV) (post : List PB) : vcFn2 (Tz g) false ann_hands_Errors Tryz.f25 pre [a0, a1] (.ret r) post = vc_hands_Errors (Tz g) pre a0 a1 r post := by kernel_rfl
theorem hf_hands_Errors : Tryz.prog.funcs[f_hands_Errors]? = some Tryz.f25 := by kernel_rfl
theorem ok_hands_Errors : fnVcOK Tryz.prog Tryz.f25 = true := by kernel_rfl
theorem nt_hands_Errors : Nat.ble 2 Tryz.f25.ntmps = true := by kernel_rfl
theorem meetsH_hands_Errors {g : GG} {pre : List ABlk} {a0 a1 : AV} {r : AV} {post : List PB} (hk : Nat.ble pre.length 24 = true) (h : vc_hands_Errors (Tz g) pre a0 a1 r post) : MeetsH (Tz g) f_hands_Errors pre [a0, a1] (.ret r) post :=
  meetsH_of_vc (C := Tz g) ann_hands_Errors hf_hands_Errors ok_hands_Errors nt_hands_Errors hk (pn := false) (Eq.mpr ((vcFn2_eq _ _ _ _ _ _ _ _).trans (vc_hands_Errors_eq g pre a0 a1 r post)) h)
theorem meets_hands_Errors {g : GG} {a0 a1 : D} {r : Res} (h : vc_hands_Errors (Tz g) [] (.d a0) (.d a1) r.val (r.bl.map .upd)) : Meets (Tz g) f_hands_Errors [a0, a1] r := meetsH_hands_Errors rfl h
def ann_hands_Errors_1 : Nat → List Nat := fun n => match n with  | _ => []
def vc_hands_Errors_1 (P : Ctx) (pre : List ABlk) (a0 a1 a2 : AV) (r : AV) (post : List PB) : Prop :=
  let h0 : Heap := numbered 0 pre
  LOAD false 1 a0 h0 fun v3 =>
  LOAD false 1 a1 h0 fun v4 =>
  CALL P f_hands_copied [v3, v4] 40 h0 (fun _ v5 h1 =>
  STORE 1 a2 v5 h1 fun h3 =>
  POST (.tup []) h3 pre r post)
  (fun _ _ _ => False)
theorem vc_hands_Errors_1_eq (g : GG) (pre : List ABlk) (a0 a1 a2 : AV) (r : AV) (post : List PB) : vcFn2 (Tz g) false ann_hands_Errors_1 Tryz.f59 pre [a0, a1, a2] (.ret r) post = vc_hands_Errors_1 (Tz g) pre a0 a1 a2 r post := by kernel_rfl
theorem hf_hands_Errors_1 : Tryz.prog.funcs[f_hands_Errors_1]? = some Tryz.f59 := by kernel_rfl
theorem ok_hands_Errors_1 : fnVcOK Tryz.prog Tryz.f59 = true := by kernel_rfl
theorem nt_hands_Errors_1 : Nat.ble 3 Tryz.f59.ntmps = true := by kernel_rfl
theorem meetsH_hands_Errors_1 {g : GG} {pre : List ABlk} {a0 a1 a2 : AV} {r : AV} {post : List PB} (hk : Nat.ble pre.length 24 = true) (h : vc_hands_Errors_1 (Tz g) pre a0 a1 a2 r post) : MeetsH (Tz g) f_hands_Errors_1 pre [a0, a1, a2] (.ret r) post :=
  meetsH_of_vc (C := Tz g) ann_hands_Errors_1 hf_hands_Errors_1 ok_hands_Errors_1 nt_hands_Errors_1 hk (pn := false) (Eq.mpr ((vcFn2_eq _ _ _ _ _ _ _ _).trans (vc_hands_Errors_1_eq g pre a0 a1 a2 r post)) h)
def annp_hands_Errors_1 : Nat → List Nat := fun n => match n with  | _ => []
def vcp_hands_Errors_1 (P : Ctx) (pre : List ABlk) (a0 a1 a2 : AV) (r : AV) (post : List PB) : Prop :=
  let h0 : Heap := numbered 0 pre
  LOAD false 1 a0 h0 fun v3 =>
  LOAD false 1 a1 h0 fun v4 =>
  CALL P f_hands_copied [v3, v4] 40 h0 (fun _ v5 h1 =>
  STORE 1 a2 v5 h1 fun _ =>
  False)
  (fun _ pv3 ph4 =>
  POST pv3 ph4 pre r post)
theorem vcp_hands_Errors_1_eq (g : GG) (pre : List ABlk) (a0 a1 a2 : AV) (r : AV) (post : List PB) : vcFn2 (Tz g) true annp_hands_Errors_1 Tryz.f59 pre [a0, a1, a2] (.pan r) post = vcp_hands_Errors_1 (Tz g) pre a0 a1 a2 r post := by kernel_rfl
theorem hfp_hands_Errors_1 : Tryz.prog.funcs[f_hands_Errors_1]? = some Tryz.f59 := by kernel_rfl
theorem okp_hands_Errors_1 : fnVcOK Tryz.prog Tryz.f59 = true := by kernel_rfl
theorem ntp_hands_Errors_1 : Nat.ble 3 Tryz.f59.ntmps = true := by kernel_rfl
theorem meetsHp_hands_Errors_1 {g : GG} {pre : List ABlk} {a0 a1 a2 : AV} {r : AV} {post : List PB} (hk : Nat.ble pre.length 24 = true) (h : vcp_hands_Errors_1 (Tz g) pre a0 a1 a2 r post) : MeetsH (Tz g) f_hands_Errors_1 pre [a0, a1, a2] (.pan r) post :=
  meetsH_of_vc (C := Tz g) annp_hands_Errors_1 hfp_hands_Errors_1 okp_hands_Errors_1 ntp_hands_Errors_1 hk (pn := true) (Eq.mpr ((vcFn2_eq _ _ _ _ _ _ _ _).trans (vcp_hands_Errors_1_eq g pre a0 a1 a2 r post)) h)
def ann_proof_Errors : Nat → List Nat := fun n => match n with | 5 => [1, 4, 11, 12, 13] | _ => []
def vc_proof_Errors_k0 (P : Ctx) (pre : List ABlk) (r : AV) (post : List PB) (v0 : AV) (h1 : Heap) (vs5 : List AV) : Prop :=
  FADDR 0 v0 h1 fun v2 =>
  FADDR 3 v2 h1 fun v3 =>
  LOAD false 1 v3 h1 fun v4 =>
  CALL P f_hands_Errors [(nth vs5 1), v4] 176 h1 (fun _ v7 h8 =>
  EXT v7 0 fun v9 =>
  EXT v7 1 fun v10 =>
  POST (.tup [v9, v10]) h8 pre r post)
  (fun _ _ _ => False)
def vc_proof_Errors_k1 (P : Ctx) (pre : List ABlk) (r : AV) (post : List PB) (vs0 : List AV) (h2 : Heap) (next15 : List AV → Heap → Prop) : Prop :=
  BIN 0 .lss (nth vs0 4) (nth vs0 3) fun v1 =>
  COND v1
  (IADDR 3 T_api_ProofLine (nth vs0 2) (nth vs0 4) h2 fun v3 =>
  LOAD true 3 v3 h2 fun v4 =>
  ALLOC T_api_ProofLine [.d (.num .i64 0), .d (.num .i64 0), .d (.num .i64 0)] 144 h2 fun v5 h6 =>
  STORE 3 v5 v4 h6 fun h7 =>
  FADDR 1 v5 h7 fun v8 =>
  LOAD false 1 v8 h7 fun v9 =>
  MKS T_int 1 [v9] 184 h7 fun v10 h11 =>
  APP T_int 1 (nth vs0 1) v10 192 h11 fun v12 h13 =>
  BIN 0 .add (nth vs0 4) (.d (.num .i64 1)) fun v14 =>
  next15 [(nth vs0 0), v12, (nth vs0 2), (nth vs0 3), v14] h13)
  (LOAD true 3 (nth vs0 0) h2 fun v16 =>
  CALL P f_proof_pageOf [v16] 144 h2 (fun _ v18 h19 =>
  vc_proof_Errors_k0 P pre r post v18 h19 vs0)
  (fun _ _ _ => False))
def vc_proof_Errors_k2 (P : Ctx) (pre : List ABlk) (r : AV) (post : List PB) (v0 : AV) (h2 : Heap) (v3 : AV) : Prop :=
  NOT v0 fun v1 =>
  COND v1
  (POST (.tup [.zc, (.d (.num .i64 2))]) h2 pre r post)
  (FADDR 1 v3 h2 fun v4 =>
  LOAD false 1 v4 h2 fun v5 =>
  LEN false v5 h2 fun v6 =>
  LOOP [v3, .zc, v5, v6, (.d (.num .i64 0))] h2 112 fun vs7 h8 next9 =>
  vc_proof_Errors_k1 P pre r post vs7 h8 next9)
def vc_proof_Errors (P : Ctx) (pre : List ABlk) (a0 : AV) (r : AV) (post : List PB) : Prop :=
  let h0 : Heap := numbered 0 pre
  BOX T_api_ProofPage a0 24 h0 fun v1 h1 =>
  LOAD true 3 v1 h1 fun v7 =>
  CALL P f_proof_isPage [v7] 56 h1 (fun _ v8 h2 =>
  vc_proof_Errors_k2 P pre r post v8 h2 v1)
  (fun _ _ _ => False)
theorem vc_proof_Errors_eq (g : GG) (pre : List ABlk) (a0 : AV) (r : AV) (post : List PB) : vcFn2 (Tz g) false ann_proof_Errors Tryz.f7 pre [a0] (.ret r) post = vc_proof_Errors (Tz g) pre a0 r post := by kernel_rfl
theorem hf_proof_Errors : Tryz.prog.funcs[f_proof_Errors]? = some Tryz.f7 := by kernel_rfl
theorem ok_proof_Errors : fnVcOK Tryz.prog Tryz.f7 = true := by kernel_rfl
theorem nt_proof_Errors : Nat.ble 1 Tryz.f7.ntmps = true := by kernel_rfl
theorem meetsH_proof_Errors {g : GG} {pre : List ABlk} {a0 : AV} {r : AV} {post : List PB} (hk : Nat.ble pre.length 24 = true) (h : vc_proof_Errors (Tz g) pre a0 r post) : MeetsH (Tz g) f_proof_Errors pre [a0] (.ret r) post :=
  meetsH_of_vc (C := Tz g) ann_proof_Errors hf_proof_Errors ok_proof_Errors nt_proof_Errors hk (pn := false) (Eq.mpr ((vcFn2_eq _ _ _ _ _ _ _ _).trans (vc_proof_Errors_eq g pre a0 r post)) h)
theorem meets_proof_Errors {g : GG} {a0 : D} {r : Res} (h : vc_proof_Errors (Tz g) [] (.d a0) r.val (r.bl.map .upd)) : Meets (Tz g) f_proof_Errors [a0] r := meetsH_proof_Errors rfl h
end Go.Vc

namespace Go.Vc
open Go Go.Proofs
variable {g : GG}
attribute [local simp] and_assoc
theorem hands_in_meets (x lo hi : Int) : Meets (Tz g) f_hands_in [int x, int lo, int hi] ⟨.d (.bool (inB x lo hi)), []⟩ := by
  refine meets_hands_in ?_
  unfold vc_hands_in
  simp [inB]
  omega
theorem hands_isNumber_meets (n : Int) : Meets (Tz g) f_hands_isNumber [int n] ⟨.d (.bool (numB n)), []⟩ := by
  refine meets_hands_isNumber ?_
  unfold vc_hands_isNumber
  refine CALL.val [int n, int (-999), int 999] _ rfl (hands_in_meets n (-999) 999) (.inl rfl) ?_
  simp [numB]
theorem hands_isColumn_1_meets (n : Int) : Meets (Tz g) f_hands_isColumn_1 [int n] ⟨.d (.bool (!numB n)), []⟩ := by
  refine meets_hands_isColumn_1 ?_
  unfold vc_hands_isColumn_1
  refine CALL.val [int n] _ rfl (hands_isNumber_meets n) (.inl rfl) ?_
  simp
theorem index_nums_meets (l : List Int) (f : FuncId) (q : Int → Bool) (hf : ∀ x, Meets (Tz g) f [int x] ⟨.d (.bool (q x)), []⟩) (hl : l.length ≤ 1000) : Meets (Tz g) f_slices_IndexFunc_l_int_int [ints l, .fn f [] []] ⟨.d (int (idx q l 0)), []⟩ := by
  refine meets_slices_IndexFunc_l_int_int ?_
  unfold vc_slices_IndexFunc_l_int_int
  simp [ints]
  refine LOOP.mk Nat (fun k => [.d (ints l), .d (.fn f [] []), .d (int l.length), .d (int k)]) (fun _ => []) (fun k => k ≤ l.length ∧ idx q l 0 = idx q (l.drop k) k) (fun k => l.length - k) [] (by simp) 0 (by simp) (by simp [WEAK, ints]) (fun _ _ => rfl) ?_
  rintro k ⟨hk, he⟩
  have hw := wrap_id (n := (k : Int) + 1) (by omega) (by omega)
  simp [vc_slices_IndexFunc_l_int_int_k0, ints]
  constructor
  · intro hlt
    have hg : l[k]? = some l[k] := List.getElem?_eq_getElem hlt
    have hd := idx_drop q l k _ hg
    generalize l[k] = y at hg hd
    simp [hg]
    refine CALL.val [int y] _ rfl (hf y) (.inl rfl) ?_
    simp [hw]
    rw [hd] at he
    refine ⟨fun h => ?_, fun h => ?_⟩
    · rw [h] at he
      exact he.symm
    · rw [h] at he
      exact ⟨k + 1, by omega, by rw [he]; simp, by simp [WEAK], by omega⟩
  · intro hge
    rw [List.drop_eq_nil_of_le hge] at he
    rw [he]
    rfl
theorem contains_nums_meets (l : List Int) (f : FuncId) (q : Int → Bool) (hf : ∀ x, Meets (Tz g) f [int x] ⟨.d (.bool (q x)), []⟩) (hl : l.length ≤ 1000) : Meets (Tz g) f_slices_ContainsFunc_l_int_int [ints l, .fn f [] []] ⟨.d (.bool (l.any q)), []⟩ := by
  refine meets_slices_ContainsFunc_l_int_int ?_
  unfold vc_slices_ContainsFunc_l_int_int
  refine CALL.val [ints l, .fn f [] []] _ rfl (index_nums_meets l f q hf hl) (.inl rfl) ?_
  have := idx_any q l 0 (Int.le_refl 0)
  simp [this]
def colB (l : List Int) : Bool := inB l.length 1 6 && !l.any (fun n => !numB n)
theorem hands_isColumn_meets (l : List Int) (hl : l.length ≤ 1000) : Meets (Tz g) f_hands_isColumn [ints l] ⟨.d (.bool (colB l)), []⟩ := by
  have hc := contains_nums_meets (g := g) l _ _ hands_isColumn_1_meets hl
  refine meets_hands_isColumn ?_
  unfold vc_hands_isColumn
  simp [ints]
  refine CALL.val [int l.length, int 1, int 6] _ rfl (hands_in_meets _ _ _) (.inl rfl) ?_
  simp [colB]
  constructor
  · intro h
    refine CALL.val [ints l, .fn f_hands_isColumn_1 [] []] _ rfl hc (.inl rfl) ?_
    simp [h]
  · intro h
    simp [h]
def rightD (n nx : Int) (last : Bool) : D := .agg [int n, int nx, .bool last]
@[simp] theorem rightD_cells (n nx : Int) (last : Bool) : (rightD n nx last).cells = [int n, int nx, .bool last] := rfl
def fa (n : Int) : Int := (max n (-n)).tdiv 100
def fb (n : Int) : Int := ((max n (-n)).tdiv 10).tmod 10
def fc (n : Int) : Int := (max n (-n)).tmod 10
theorem fig_bnd {n : Int} (h : -999 ≤ n ∧ n ≤ 999) : 0 ≤ max n (-n) ∧ max n (-n) ≤ 999 ∧ 0 ≤ fa n ∧ fa n ≤ 9 ∧ 0 ≤ fb n ∧ fb n ≤ 9 ∧ 0 ≤ fc n ∧ fc n ≤ 9 ∧ 0 ≤ (max n (-n)).tdiv 10 ∧ (max n (-n)).tdiv 10 ≤ 99 := by
  have h0 : 0 ≤ max n (-n) := by omega
  have h1 : max n (-n) ≤ 999 := by omega
  have e3 : 0 ≤ (max n (-n)).tdiv 10 := by rw [Int.tdiv_eq_ediv_of_nonneg h0]; omega
  unfold fa fb fc
  rw [Int.tmod_eq_emod_of_nonneg e3, Int.tmod_eq_emod_of_nonneg h0, Int.tdiv_eq_ediv_of_nonneg h0, Int.tdiv_eq_ediv_of_nonneg h0]
  omega
theorem figures_meets (n nx : Int) (last : Bool) (hn : -999 ≤ n ∧ n ≤ 999) : Meets (Tz g) f_hands_right_figures [rightD n nx last] ⟨.tup [.d (int (fa n)), .d (int (fb n)), .d (int (fc n))], []⟩ := by
  obtain ⟨h0, h1, h2, h3, h4, h5, h6, h7, h8, h9⟩ := fig_bnd hn
  refine meets_hands_right_figures ?_
  unfold vc_hands_right_figures
  have e0 : IntKind.i64.wrap (-n) = -n := wrap_id (by omega) (by omega)
  have e1 : IntKind.i64.wrap ((max n (-n)).tdiv 100) = fa n := by
    have : (max n (-n)).tdiv 100 = fa n := rfl
    rw [this, wrap_id (by omega) (by omega)]
  have e2 : IntKind.i64.wrap ((max n (-n)).tdiv 10) = (max n (-n)).tdiv 10 := wrap_id (by omega) (by omega)
  simp [rightD, lookH, e0, e1, e2, fb, fc]
  exact POST.auto (by simp)
def sgnN (like a b c : Int) : Int := match decide (like < 0) with | true => -(100 * a + 10 * b + c) | false => 100 * a + 10 * b + c
theorem signed_meets (like a b c : Int) (ha : -10 ≤ a ∧ a ≤ 10) (hb : -10 ≤ b ∧ b ≤ 10) (hc : -10 ≤ c ∧ c ≤ 10) : Meets (Tz g) f_hands_signed [int like, int a, int b, int c] ⟨.d (int (sgnN like a b c)), []⟩ := by
  refine meets_hands_signed ?_
  unfold vc_hands_signed
  have e1 := wrap_id (n := 100 * a) (by omega) (by omega)
  have e2 := wrap_id (n := 10 * b) (by omega) (by omega)
  have e3 := wrap_id (n := 100 * a + 10 * b) (by omega) (by omega)
  have e4 := wrap_id (n := 100 * a + 10 * b + c) (by omega) (by omega)
  have e5 := wrap_id (n := -(100 * a + 10 * b + c)) (by omega) (by omega)
  simp [e1, e2, e3, e4, e5]
  unfold sgnN
  refine ⟨fun h => ?_, fun h => ?_⟩
  · rw [decide_eq_true h]
  · rw [decide_eq_false (by omega)]
def turnB (n w : Int) : Bool := decide (w = sgnN n (fb n) (fa n) (fc n)) || decide (w = sgnN n (fa n) (fc n) (fb n))
theorem turned_meets (n nx w : Int) (last : Bool) (hn : -999 ≤ n ∧ n ≤ 999) : Meets (Tz g) f_hands_right_turned [rightD n nx last, int w] ⟨.d (.bool (turnB n w)), []⟩ := by
  obtain ⟨h0, h1, h2, h3, h4, h5, h6, h7, h8, h9⟩ := fig_bnd hn
  refine meets_hands_right_turned ?_
  unfold vc_hands_right_turned
  simp [rightD, lookH]
  refine CALL.mk [rightD n nx last] _ rfl (figures_meets n nx last hn) (.inl rfl) (by simp) ?_
  simp [vc_hands_right_turned_k1, lookH]
  refine CALL.val [int n, int (fb n), int (fa n), int (fc n)] _ rfl (signed_meets n (fb n) (fa n) (fc n) (by omega) (by omega) (by omega)) (.inl rfl) ?_
  simp [vc_hands_right_turned_k0, lookH]
  refine ⟨fun h => ?_, fun h => ?_⟩
  · simp [turnB, h]
  · refine CALL.val [int n, int (fa n), int (fc n), int (fb n)] _ rfl (signed_meets n (fa n) (fc n) (fb n) (by omega) (by omega) (by omega)) (.inl rfl) ?_
    simp [turnB, h]
def carB (n w : Int) : Bool := (decide (0 < fa n) && decide (w = sgnN n (fa n - 1) (fb n) (fc n))) || (decide (0 < fb n) && decide (w = sgnN n (fa n) (fb n - 1) (fc n)))
theorem carried_meets (n nx w : Int) (last : Bool) (hn : -999 ≤ n ∧ n ≤ 999) : Meets (Tz g) f_hands_right_carried [rightD n nx last, int w] ⟨.d (.bool (carB n w)), []⟩ := by
  obtain ⟨h0, h1, h2, h3, h4, h5, h6, h7, h8, h9⟩ := fig_bnd hn
  have w1 := wrap_id (n := fa n - 1) (by omega) (by omega)
  have w2 := wrap_id (n := fb n - 1) (by omega) (by omega)
  refine meets_hands_right_carried ?_
  unfold vc_hands_right_carried
  simp [rightD, lookH]
  refine CALL.mk [rightD n nx last] _ rfl (figures_meets n nx last hn) (.inl rfl) (by simp) ?_
  simp
  refine ⟨fun h => ?_, fun h => ?_⟩
  · simp [vc_hands_right_carried_k1, lookH, w1]
    refine CALL.val [int n, int (fa n - 1), int (fb n), int (fc n)] _ rfl (signed_meets n (fa n - 1) (fb n) (fc n) (by omega) (by omega) (by omega)) (.inl rfl) ?_
    simp [vc_hands_right_carried_k0, lookH, w2]
    refine ⟨fun h1 => ?_, fun h1 => ⟨fun h2 => ?_, fun h2 => ?_⟩⟩
    · simp [carB, h, h1]
    · refine CALL.val [int n, int (fa n), int (fb n - 1), int (fc n)] _ rfl (signed_meets n (fa n) (fb n - 1) (fc n) (by omega) (by omega) (by omega)) (.inl rfl) ?_
      simp [carB, h, h1, h2]
    · have : ¬ 0 < fb n := by omega
      simp [carB, h1, this]
  · have h' : ¬ 0 < fa n := by omega
    simp [vc_hands_right_carried_k2, lookH, w2]
    refine ⟨fun h2 => ?_, fun h2 => ?_⟩
    · refine CALL.val [int n, int (fa n), int (fb n - 1), int (fc n)] _ rfl (signed_meets n (fa n) (fb n - 1) (fc n) (by omega) (by omega) (by omega)) (.inl rfl) ?_
      simp [carB, h', h2]
    · have : ¬ 0 < fb n := by omega
      simp [carB, h', this]
theorem other_meets (n nx w : Int) (last : Bool) (hn : -999 ≤ n ∧ n ≤ 999) : Meets (Tz g) f_hands_right_other [rightD n nx last, int w] ⟨.d (.bool (decide (w = -n))), []⟩ := by
  refine meets_hands_right_other ?_
  unfold vc_hands_right_other
  have e0 : IntKind.i64.wrap (-n) = -n := wrap_id (by omega) (by omega)
  simp [rightD, lookH, e0]
theorem line_meets (n nx w : Int) (last : Bool) : Meets (Tz g) f_hands_right_line [rightD n nx last, int w] ⟨.d (.bool (!last && decide (w = nx))), []⟩ := by
  refine meets_hands_right_line ?_
  unfold vc_hands_right_line
  simp [rightD, lookH]
  cases last <;> simp
def kindQ (n nx : Int) (last : Bool) (w : Int) : Nat → Bool
  | 1 => turnB n w
  | 2 => carB n w
  | 3 => decide (w = -n)
  | 4 => !last && decide (w = nx)
  | _ => false
def kindG (q : Nat → Bool) (k : Nat) : Nat → Nat
  | 0 => 0
  | m + 1 => match q k with | true => k | false => kindG q (k + 1) m
def kindF (n nx : Int) (last : Bool) (w : Int) : Nat := kindG (kindQ n nx last w) 0 5
theorem kindG_le (q : Nat → Bool) : ∀ (m k : Nat), kindG q k m = 0 ∨ (k ≤ kindG q k m ∧ kindG q k m < k + m)
  | 0, k => .inl rfl
  | m + 1, k => by
    simp only [kindG]
    cases q k with
    | true => exact .inr ⟨Nat.le_refl k, show k < k + (m + 1) by omega⟩
    | false =>
      rcases kindG_le q m (k + 1) with h | ⟨h1, h2⟩
      · exact .inl h
      · exact .inr ⟨show k ≤ kindG q (k + 1) m by omega, show kindG q (k + 1) m < k + (m + 1) by omega⟩
theorem kindF_le (n nx : Int) (last : Bool) (w : Int) : kindF n nx last w ≤ 4 := by
  have := kindG_le (kindQ n nx last w) 5 0
  unfold kindF
  omega
theorem kind_meets (n nx w : Int) (last : Bool) (hn : -999 ≤ n ∧ n ≤ 999) : Meets (Tz g) f_hands_right_kind [rightD n nx last, int w] ⟨.d (int (kindF n nx last w)), []⟩ := by
  refine meets_hands_right_kind ?_
  unfold vc_hands_right_kind
  simp [rightD, lookH]
  refine LOOP.mk Nat (fun k => [.d (int w), .ptr 24 0 0 0, .d (.agg [.nilf, .fn f_hands_right_turned [] [], .fn f_hands_right_carried [] [], .fn f_hands_right_other [] [], .fn f_hands_right_line [] []]), .d (int k)]) (fun _ => [(24, some ⟨0, T_hands_right, .box [.d (int n), .d (int nx), .d (.bool last)]⟩)]) (fun k => k ≤ 5 ∧ kindF n nx last w = kindG (kindQ n nx last w) k (5 - k)) (fun k => 5 - k) [] (by simp) 0 ⟨by omega, rfl⟩ (by simp [WEAK, lookH]) (fun _ _ => rfl) ?_
  rintro k ⟨hk, he⟩
  have hw := wrap_id (n := (k : Int) + 1) (by omega) (by omega)
  rcases (show k = 0 ∨ k = 1 ∨ k = 2 ∨ k = 3 ∨ k = 4 ∨ k = 5 by omega) with rfl | rfl | rfl | rfl | rfl | rfl
  · simp [vc_hands_right_kind_k0, lookH]
    refine ⟨.bool false, rfl, ?_⟩
    simp
    exact ⟨1, by omega, he, by simp [WEAK, lookH]; exact wrap_id (by omega) (by omega), by omega⟩
  · simp [vc_hands_right_kind_k0, lookH]
    refine ⟨.bool true, rfl, ?_⟩
    simp
    refine CALL.val [rightD n nx last, int w] _ rfl (turned_meets n nx w last hn) (.inl rfl) ?_
    have e1 : kindG (kindQ n nx last w) 1 (5 - 1) = (match kindQ n nx last w 1 with | true => 1 | false => kindG (kindQ n nx last w) 2 (5 - 2)) := rfl
    rw [e1] at he
    show COND (.d (.bool (kindQ n nx last w 1))) _ _
    cases hq : kindQ n nx last w 1 with
    | true =>
      rw [hq] at he
      simp [he]
    | false =>
      rw [hq] at he
      simp
      exact ⟨2, by omega, he, by simp [WEAK, lookH]; try exact wrap_id (by omega) (by omega), by omega⟩
  · simp [vc_hands_right_kind_k0, lookH]
    refine ⟨.bool true, rfl, ?_⟩
    simp
    refine CALL.val [rightD n nx last, int w] _ rfl (carried_meets n nx w last hn) (.inl rfl) ?_
    have e1 : kindG (kindQ n nx last w) 2 (5 - 2) = (match kindQ n nx last w 2 with | true => 2 | false => kindG (kindQ n nx last w) 3 (5 - 3)) := rfl
    rw [e1] at he
    show COND (.d (.bool (kindQ n nx last w 2))) _ _
    cases hq : kindQ n nx last w 2 with
    | true =>
      rw [hq] at he
      simp [he]
    | false =>
      rw [hq] at he
      simp
      exact ⟨3, by omega, he, by simp [WEAK, lookH]; try exact wrap_id (by omega) (by omega), by omega⟩
  · simp [vc_hands_right_kind_k0, lookH]
    refine ⟨.bool true, rfl, ?_⟩
    simp
    refine CALL.val [rightD n nx last, int w] _ rfl (other_meets n nx w last hn) (.inl rfl) ?_
    have e1 : kindG (kindQ n nx last w) 3 (5 - 3) = (match kindQ n nx last w 3 with | true => 3 | false => kindG (kindQ n nx last w) 4 (5 - 4)) := rfl
    rw [e1] at he
    show COND (.d (.bool (kindQ n nx last w 3))) _ _
    cases hq : kindQ n nx last w 3 with
    | true =>
      rw [hq] at he
      simp [he]
    | false =>
      rw [hq] at he
      simp
      exact ⟨4, by omega, he, by simp [WEAK, lookH]; try exact wrap_id (by omega) (by omega), by omega⟩
  · simp [vc_hands_right_kind_k0, lookH]
    refine ⟨.bool true, rfl, ?_⟩
    simp
    refine CALL.val [rightD n nx last, int w] _ rfl (line_meets n nx w last) (.inl rfl) ?_
    have e1 : kindG (kindQ n nx last w) 4 (5 - 4) = (match kindQ n nx last w 4 with | true => 4 | false => kindG (kindQ n nx last w) 5 (5 - 5)) := rfl
    rw [e1] at he
    show COND (.d (.bool (kindQ n nx last w 4))) _ _
    cases hq : kindQ n nx last w 4 with
    | true =>
      rw [hq] at he
      simp [he]
    | false =>
      rw [hq] at he
      simp
      exact ⟨5, by omega, he, by simp [WEAK, lookH]; try exact wrap_id (by omega) (by omega), by omega⟩
  · simp [vc_hands_right_kind_k0, lookH]
    rw [he]; rfl
def nextOf (l : List Int) (i : Nat) : Int := match decide (i + 1 = l.length) with | true => 0 | false => l.getD (i + 1) 0
theorem of_meets (l : List Int) (i : Nat) (n : Int) (hg : l[i]? = some n) (hl : l.length ≤ 1000) : Meets (Tz g) f_hands_of [ints l, int i] ⟨.d (rightD n (nextOf l i) (decide (i + 1 = l.length))), []⟩ := by
  have hi : i < l.length := (List.getElem?_eq_some_iff.1 hg).1
  have hw := wrap_id (n := (l.length : Int) - 1) (by omega) (by omega)
  have hw2 := wrap_id (n := (i : Int) + 1) (by omega) (by omega)
  refine meets_hands_of ?_
  unfold vc_hands_of
  simp [ints, hw]
  refine ⟨fun h2 => ?_, fun h2 => ?_⟩
  · have h : i + 1 = l.length := by omega
    have hn : nextOf l i = 0 := by unfold nextOf; rw [decide_eq_true h]
    simp [vc_hands_of_k0, lookH, hg, hn, h, rightD]
  · have h : ¬ i + 1 = l.length := by omega
    have hg2 : l[i + 1]? = some (l.getD (i + 1) 0) := by
      rw [List.getD_eq_getElem?_getD, List.getElem?_eq_getElem (show i + 1 < l.length by omega)]; rfl
    have hn : nextOf l i = l.getD (i + 1) 0 := by unfold nextOf; rw [decide_eq_false h]
    generalize l.getD (i + 1) 0 = y at hg2 hn
    simp [vc_hands_of_k1, lookH, hg, hg2, hw2, hn, h, rightD]
    exact ⟨by omega, rfl⟩
def errD (e : Int × Int) : D := .agg [int e.1, int e.2]
@[simp] theorem errD_cells (e : Int × Int) : (errD e).cells = [int e.1, int e.2] := rfl
def kindAt (fr to : List Int) (k : Nat) : Nat := kindF (fr.getD k 0) (nextOf fr k) (decide (k + 1 = fr.length)) (to.getD k 0)
def errN (fr to : List Int) : Nat → Option (List (Int × Int))
  | 0 => some []
  | k + 1 => match errN fr to k with
    | none => none
    | some l => match decide (to.getD k 0 = fr.getD k 0) with
      | true => some l
      | false => match kindAt fr to k with
        | 0 => none
        | q + 1 => some (l ++ [((k : Int), (q : Int) + 1)])
theorem errN_len (fr to : List Int) : ∀ (k : Nat) (l : List (Int × Int)), errN fr to k = some l → l.length ≤ k
  | 0, l, h => by simp only [errN, Option.some.injEq] at h; subst h; simp
  | k + 1, l, h => by
    simp only [errN] at h
    cases h1 : errN fr to k with
    | none => rw [h1] at h; cases h
    | some m =>
      have := errN_len fr to k m h1
      rw [h1] at h
      simp only at h
      cases h2 : decide (to.getD k 0 = fr.getD k 0) with
      | true => rw [h2] at h; simp only [Option.some.injEq] at h; subst h; omega
      | false =>
        rw [h2] at h
        simp only at h
        cases h3 : kindAt fr to k with
        | zero => rw [h3] at h; cases h
        | succ q =>
          rw [h3] at h
          simp only [Option.some.injEq] at h
          subst h
          simp; omega
theorem errN_none {fr to : List Int} {k : Nat} (h : errN fr to k = none) : ∀ j, errN fr to (k + j) = none
  | 0 => h
  | j + 1 => by
    have := errN_none h j
    rw [← Nat.add_assoc]
    simp only [errN, this]
theorem errN_some {fr to : List Int} {k m : Nat} {l : List (Int × Int)} (h : errN fr to m = some l) (hk : k ≤ m) : ∃ l', errN fr to k = some l' := by
  cases h1 : errN fr to k with
  | some l' => exact ⟨l', rfl⟩
  | none =>
    have := errN_none h1 (m - k)
    rw [Nat.add_sub_cancel' hk, h] at this
    cases this
theorem getD_some {l : List Int} {k : Nat} (h : k < l.length) : l[k]? = some (l.getD k 0) := by
  rw [List.getD_eq_getElem?_getD, List.getElem?_eq_getElem h]; rfl
theorem getD_mem {l : List Int} {k : Nat} (h : k < l.length) : l.getD k 0 ∈ l := by
  rw [List.getD_eq_getElem?_getD, List.getElem?_eq_getElem h]; exact List.getElem_mem h
theorem copied_meets (fr to : List Int) (l : List (Int × Int)) (hl : fr.length = to.length) (hl2 : to.length ≤ 6) (hb : ∀ x, x ∈ fr → -999 ≤ x ∧ x ≤ 999) (he : errN fr to to.length = some l) : Meets (Tz g) f_hands_copied [ints fr, ints to] ⟨.own 0 0, [⟨0, T_api_HandsError, .lst (l.map errD)⟩]⟩ := by
  refine meets_hands_copied ?_
  unfold vc_hands_copied
  simp [ints]
  refine LOOP.mk Nat (fun k => [.d (ints fr), .own 64 ((errN fr to k).getD []).length, .d (ints to), .d (int to.length), .d (int k)]) (fun k => [(64, some ⟨((errN fr to k).getD []).length, T_api_HandsError, .lst (((errN fr to k).getD []).map errD)⟩)])
    (fun k => k ≤ to.length) (fun k => to.length - k) [(1, T_api_HandsError)] (by simp) 0 (by simp) (by simp [WEAK, ints, errN]) (fun _ _ => rfl) ?_
  intro k hk
  have hw := wrap_id (n := (k : Int) + 1) (by omega) (by omega)
  simp [vc_hands_copied_k1, ints]
  constructor
  · intro hlt
    obtain ⟨l1, h1⟩ := errN_some he (Nat.le_of_lt hlt)
    obtain ⟨l2, h2⟩ := errN_some he (show k + 1 ≤ to.length by omega)
    have hlen := errN_len _ _ _ _ h1
    have hgf := getD_some (l := fr) (k := k) (by omega)
    have hgt := getD_some (l := to) (k := k) hlt
    have hbk := hb _ (getD_mem (l := fr) (k := k) (by omega))
    have hOf := of_meets (g := g) fr k _ hgf (by omega)
    have hKi := kind_meets (g := g) (fr.getD k 0) (nextOf fr k) (to.getD k 0) (decide (k + 1 = fr.length)) hbk
    have hka : kindF (fr.getD k 0) (nextOf fr k) (decide (k + 1 = fr.length)) (to.getD k 0) = kindAt fr to k := rfl
    rw [hka] at hKi
    have h2' := h2
    simp only [errN, h1] at h2'
    generalize fr.getD k 0 = a at *
    generalize to.getD k 0 = b at *
    simp [h1, hgf, hgt, hw]
    refine ⟨fun h => ?_, fun h => ?_⟩
    · rw [decide_eq_true h] at h2'
      simp only [Option.some.injEq] at h2'
      subst h2'
      exact ⟨k + 1, by omega, by simp [WEAK, lookH, h2], by omega⟩
    · rw [decide_eq_false h] at h2'
      simp only at h2'
      refine CALL.val [ints fr, int k] _ rfl hOf (.inl rfl) ?_
      refine CALL.val [rightD a (nextOf fr k) (decide (k + 1 = fr.length)), int b] _ rfl hKi (.inl rfl) ?_
      cases hq : kindAt fr to k with
      | zero => rw [hq] at h2'; cases h2'
      | succ q =>
        rw [hq] at h2'
        simp only [Option.some.injEq] at h2'
        subst h2'
        have hne : ¬ ((q : Int) + 1 = 0) := by omega
        simp [vc_hands_copied_k0, hne, hw]
        exact ⟨by omega, k + 1, by omega, by simp [WEAK, lookH, h2, errD], by omega⟩
  · intro hge
    have : k = to.length := by omega
    subst this
    simp [he]
end Go.Vc
