/- A part of the proof: general laws of a reading of the model by abstract data, or contracts of the functions that the law calls. -/
import Derived.KernelRfl
import Derived.Test.YtnbdfpppcdgkpaaGreatDoorProg
import Derived.Test.YtnbdfpppcdgkpaaGreatDoorVc15
set_option maxRecDepth 100000
namespace Go.Vc
open Go Go.Proofs Go.RowKit
abbrev f_law01_DifferSheets : FuncId := 3
abbrev f_law01_right : FuncId := 4
abbrev f_ref01_Size : FuncId := 5
abbrev f_law01_known : FuncId := 6
abbrev f_differ_Cut : FuncId := 7
abbrev f_differ_Joins : FuncId := 8
abbrev f_ref01_Same : FuncId := 9
abbrev f_law01_short : FuncId := 10
abbrev f_ref01_Plan : FuncId := 11
abbrev f_ref01_Truth : FuncId := 12
abbrev f_ref01_in : FuncId := 13
abbrev f_differ_isPlan : FuncId := 33
abbrev f_differ_isTruth : FuncId := 34
abbrev f_differ_in : FuncId := 35
abbrev f_differ_table_state : FuncId := 36
abbrev f_differ_areFirsts : FuncId := 37
abbrev f_slices_Equal_l_int_int : FuncId := 38
abbrev f_differ_after : FuncId := 39
abbrev f_ref01_Start : FuncId := 40
abbrev f_slices_Clone_l_api_Span_api_Span : FuncId := 49
abbrev f_differ_isState : FuncId := 55
abbrev f_slices_Clone_l_int_int : FuncId := 56
abbrev f_slices_ContainsFunc_l_api_Span_api_Span : FuncId := 66
abbrev f_differ_isPlan_1 : FuncId := 67
abbrev f_differ_isStart : FuncId := 68
abbrev f_slices_ContainsFunc_l_l_int_l_int : FuncId := 69
abbrev f_differ_areFirsts_1 : FuncId := 70
abbrev f_slices_ContainsFunc_l_int_int : FuncId := 75
abbrev f_differ_isState_1 : FuncId := 76
abbrev f_slices_IndexFunc_l_api_Span_api_Span : FuncId := 87
abbrev f_slices_IndexFunc_l_l_int_l_int : FuncId := 88
abbrev f_slices_IndexFunc_l_int_int : FuncId := 92
abbrev T_int : TypeId := 3
abbrev T_api_DifferPlan : TypeId := 24
abbrev T_l_int : TypeId := 25
abbrev T_api_Span : TypeId := 60
abbrev T_differ_table : TypeId := 65
abbrev GG := {p : Nat × (World → Prop) // ∀ w w', p.2 w → Below p.1 w w' → p.2 w'}
noncomputable def Tz (g : GG) : Ctx := ⟨Tryz.prog, g.1.1, g.1.2, g.2, true⟩
end Go.Vc

namespace Go.Vc
open Go Go.Proofs Go.RowKit
def ann_differ_in : Nat → List Nat := fun n => match n with  | _ => []
def vc_differ_in (_P : Ctx) (pre : List ABlk) (a0 a1 a2 : AV) (r : AV) (post : List PB) : Prop :=
  let h0 : Heap := numbered 0 pre
  BIN 0 .geq a0 a1 fun v9 =>
  CONDG v9
  (BIN 0 .leq a0 a2 fun v13 =>
  POST v13 h0 pre r post)
  (POST (.d (.bool false)) h0 pre r post)
theorem vc_differ_in_eq (g : GG) (pre : List ABlk) (a0 a1 a2 : AV) (r : AV) (post : List PB) : vcFn2 (Tz g) false ann_differ_in Tryz.f35 pre [a0, a1, a2] (.ret r) post = vc_differ_in (Tz g) pre a0 a1 a2 r post := by kernel_rfl
theorem hf_differ_in : Tryz.prog.funcs[f_differ_in]? = some Tryz.f35 := by kernel_rfl
theorem ok_differ_in : fnVcOK Tryz.prog Tryz.f35 = true := by kernel_rfl
theorem nt_differ_in : Nat.ble 3 Tryz.f35.ntmps = true := by kernel_rfl
theorem meetsH_differ_in {g : GG} {pre : List ABlk} {a0 a1 a2 : AV} {r : AV} {post : List PB} (hk : Nat.ble pre.length 24 = true) (h : vc_differ_in (Tz g) pre a0 a1 a2 r post) : MeetsH (Tz g) f_differ_in pre [a0, a1, a2] (.ret r) post :=
  meetsH_of_vc (C := Tz g) ann_differ_in hf_differ_in ok_differ_in nt_differ_in hk (pn := false) (Eq.mpr ((vcFn2_eq _ _ _ _ _ _ _ _).trans (vc_differ_in_eq g pre a0 a1 a2 r post)) h)
theorem meets_differ_in {g : GG} {a0 a1 a2 : D} {r : Res} (h : vc_differ_in (Tz g) [] (.d a0) (.d a1) (.d a2) r.val (r.bl.map .upd)) : Meets (Tz g) f_differ_in [a0, a1, a2] r := meetsH_differ_in rfl h
def ann_differ_isStart : Nat → List Nat := fun n => match n with  | _ => []
def vc_differ_isStart (P : Ctx) (pre : List ABlk) (a0 : AV) (r : AV) (post : List PB) : Prop :=
  let h0 : Heap := numbered 0 pre
  BOX T_api_Span a0 24 h0 fun v1 h1 =>
  FADDR 0 v1 h1 fun v3 =>
  LOAD false 1 v3 h1 fun v4 =>
  CALL P f_differ_in [v4, (.d (.num .i64 (-99999))), (.d (.num .i64 99999))] 56 h1 (fun _ v5 h2 =>
  CONDG v5
  (FADDR 1 v1 h2 fun v7 =>
  LOAD false 1 v7 h2 fun v8 =>
  FADDR 0 v1 h2 fun v9 =>
  LOAD false 1 v9 h2 fun v10 =>
  CALL P f_differ_in [v8, v10, (.d (.num .i64 99999))] 104 h2 (fun _ v11 h4 =>
  CONDG v11
  (FADDR 1 v1 h4 fun v14 =>
  LOAD false 1 v14 h4 fun v15 =>
  FADDR 0 v1 h4 fun v16 =>
  LOAD false 1 v16 h4 fun v17 =>
  BIN 0 .add v17 (.d (.num .i64 6)) fun v18 =>
  BIN 0 .leq v15 v18 fun v19 =>
  POST v19 h4 pre r post)
  (POST (.d (.bool false)) h4 pre r post))
  (fun _ _ _ => False))
  (POST (.d (.bool false)) h2 pre r post))
  (fun _ _ _ => False)
theorem vc_differ_isStart_eq (g : GG) (pre : List ABlk) (a0 : AV) (r : AV) (post : List PB) : vcFn2 (Tz g) false ann_differ_isStart Tryz.f68 pre [a0] (.ret r) post = vc_differ_isStart (Tz g) pre a0 r post := by kernel_rfl
theorem hf_differ_isStart : Tryz.prog.funcs[f_differ_isStart]? = some Tryz.f68 := by kernel_rfl
theorem ok_differ_isStart : fnVcOK Tryz.prog Tryz.f68 = true := by kernel_rfl
theorem nt_differ_isStart : Nat.ble 1 Tryz.f68.ntmps = true := by kernel_rfl
theorem meetsH_differ_isStart {g : GG} {pre : List ABlk} {a0 : AV} {r : AV} {post : List PB} (hk : Nat.ble pre.length 24 = true) (h : vc_differ_isStart (Tz g) pre a0 r post) : MeetsH (Tz g) f_differ_isStart pre [a0] (.ret r) post :=
  meetsH_of_vc (C := Tz g) ann_differ_isStart hf_differ_isStart ok_differ_isStart nt_differ_isStart hk (pn := false) (Eq.mpr ((vcFn2_eq _ _ _ _ _ _ _ _).trans (vc_differ_isStart_eq g pre a0 r post)) h)
theorem meets_differ_isStart {g : GG} {a0 : D} {r : Res} (h : vc_differ_isStart (Tz g) [] (.d a0) r.val (r.bl.map .upd)) : Meets (Tz g) f_differ_isStart [a0] r := meetsH_differ_isStart rfl h
def ann_differ_isPlan : Nat → List Nat := fun n => match n with  | _ => []
def vc_differ_isPlan (P : Ctx) (pre : List ABlk) (a0 : AV) (r : AV) (post : List PB) : Prop :=
  let h0 : Heap := numbered 0 pre
  BOX T_api_DifferPlan a0 24 h0 fun v1 h1 =>
  FADDR 0 v1 h1 fun v3 =>
  LOAD false 1 v3 h1 fun v4 =>
  LEN false v4 h1 fun v5 =>
  CALL P f_differ_in [v5, (.d (.num .i64 1)), (.d (.num .i64 4))] 64 h1 (fun _ v6 h2 =>
  CONDG v6
  (FADDR 1 v1 h2 fun v8 =>
  LOAD false 1 v8 h2 fun v9 =>
  CALL P f_differ_in [v9, (.d (.num .i64 1)), (.d (.num .i64 12))] 96 h2 (fun _ v10 h4 =>
  CONDG v10
  (FADDR 2 v1 h4 fun v13 =>
  LOAD false 1 v13 h4 fun v14 =>
  CALL P f_differ_in [v14, (.d (.num .i64 0)), (.d (.num .i64 3))] 136 h4 (fun _ v15 h6 =>
  CONDG v15
  (FADDR 0 v1 h6 fun v18 =>
  LOAD false 1 v18 h6 fun v19 =>
  CALL P f_slices_ContainsFunc_l_api_Span_api_Span [v19, (.d (.fn f_differ_isPlan_1 [] []))] 176 h6 (fun _ v20 h8 =>
  NOT v20 fun v21 =>
  POST v21 h8 pre r post)
  (fun _ _ _ => False))
  (POST (.d (.bool false)) h6 pre r post))
  (fun _ _ _ => False))
  (POST (.d (.bool false)) h4 pre r post))
  (fun _ _ _ => False))
  (POST (.d (.bool false)) h2 pre r post))
  (fun _ _ _ => False)
theorem vc_differ_isPlan_eq (g : GG) (pre : List ABlk) (a0 : AV) (r : AV) (post : List PB) : vcFn2 (Tz g) false ann_differ_isPlan Tryz.f33 pre [a0] (.ret r) post = vc_differ_isPlan (Tz g) pre a0 r post := by kernel_rfl
theorem hf_differ_isPlan : Tryz.prog.funcs[f_differ_isPlan]? = some Tryz.f33 := by kernel_rfl
theorem ok_differ_isPlan : fnVcOK Tryz.prog Tryz.f33 = true := by kernel_rfl
theorem nt_differ_isPlan : Nat.ble 1 Tryz.f33.ntmps = true := by kernel_rfl
theorem meetsH_differ_isPlan {g : GG} {pre : List ABlk} {a0 : AV} {r : AV} {post : List PB} (hk : Nat.ble pre.length 24 = true) (h : vc_differ_isPlan (Tz g) pre a0 r post) : MeetsH (Tz g) f_differ_isPlan pre [a0] (.ret r) post :=
  meetsH_of_vc (C := Tz g) ann_differ_isPlan hf_differ_isPlan ok_differ_isPlan nt_differ_isPlan hk (pn := false) (Eq.mpr ((vcFn2_eq _ _ _ _ _ _ _ _).trans (vc_differ_isPlan_eq g pre a0 r post)) h)
theorem meets_differ_isPlan {g : GG} {a0 : D} {r : Res} (h : vc_differ_isPlan (Tz g) [] (.d a0) r.val (r.bl.map .upd)) : Meets (Tz g) f_differ_isPlan [a0] r := meetsH_differ_isPlan rfl h
def ann_differ_isPlan_1 : Nat → List Nat := fun n => match n with  | _ => []
def vc_differ_isPlan_1 (P : Ctx) (pre : List ABlk) (a0 : AV) (r : AV) (post : List PB) : Prop :=
  let h0 : Heap := numbered 0 pre
  BOX T_api_Span a0 24 h0 fun v1 h1 =>
  LOAD true 2 v1 h1 fun v3 =>
  CALL P f_differ_isStart [v3] 48 h1 (fun _ v4 h2 =>
  NOT v4 fun v5 =>
  POST v5 h2 pre r post)
  (fun _ _ _ => False)
theorem vc_differ_isPlan_1_eq (g : GG) (pre : List ABlk) (a0 : AV) (r : AV) (post : List PB) : vcFn2 (Tz g) false ann_differ_isPlan_1 Tryz.f67 pre [a0] (.ret r) post = vc_differ_isPlan_1 (Tz g) pre a0 r post := by kernel_rfl
theorem hf_differ_isPlan_1 : Tryz.prog.funcs[f_differ_isPlan_1]? = some Tryz.f67 := by kernel_rfl
theorem ok_differ_isPlan_1 : fnVcOK Tryz.prog Tryz.f67 = true := by kernel_rfl
theorem nt_differ_isPlan_1 : Nat.ble 1 Tryz.f67.ntmps = true := by kernel_rfl
theorem meetsH_differ_isPlan_1 {g : GG} {pre : List ABlk} {a0 : AV} {r : AV} {post : List PB} (hk : Nat.ble pre.length 24 = true) (h : vc_differ_isPlan_1 (Tz g) pre a0 r post) : MeetsH (Tz g) f_differ_isPlan_1 pre [a0] (.ret r) post :=
  meetsH_of_vc (C := Tz g) ann_differ_isPlan_1 hf_differ_isPlan_1 ok_differ_isPlan_1 nt_differ_isPlan_1 hk (pn := false) (Eq.mpr ((vcFn2_eq _ _ _ _ _ _ _ _).trans (vc_differ_isPlan_1_eq g pre a0 r post)) h)
theorem meets_differ_isPlan_1 {g : GG} {a0 : D} {r : Res} (h : vc_differ_isPlan_1 (Tz g) [] (.d a0) r.val (r.bl.map .upd)) : Meets (Tz g) f_differ_isPlan_1 [a0] r := meetsH_differ_isPlan_1 rfl h
def ann_slices_IndexFunc_l_api_Span_api_Span : Nat → List Nat := fun n => match n with | 2 => [0, 1, 7, 8] | _ => []
def vc_slices_IndexFunc_l_api_Span_api_Span (P : Ctx) (pre : List ABlk) (a0 a1 : AV) (r : AV) (post : List PB) : Prop :=
  let h0 : Heap := numbered 0 pre
  LEN false a0 h0 fun v7 =>
  LOOP [a0, a1, v7, (.d (.num .i64 0))] h0 56 fun vs1 h2 next1 =>
  BIN 0 .lss (nth vs1 3) (nth vs1 2) fun v9 =>
  COND v9
  (IADDR 2 T_api_Span (nth vs1 0) (nth vs1 3) h2 fun v14 =>
  LOAD true 2 v14 h2 fun v15 =>
  CALLV P (nth vs1 1) [v15] 128 h2 (fun _ v16 h3 =>
  COND v16
  (POST (nth vs1 3) h3 pre r post)
  (BIN 0 .add (nth vs1 3) (.d (.num .i64 1)) fun v18 =>
  next1 [(nth vs1 0), (nth vs1 1), (nth vs1 2), v18] h3))
  (fun _ _ _ => False))
  (POST (.d (.num .i64 (-1))) h2 pre r post)
theorem vc_slices_IndexFunc_l_api_Span_api_Span_eq (g : GG) (pre : List ABlk) (a0 a1 : AV) (r : AV) (post : List PB) : vcFn2 (Tz g) false ann_slices_IndexFunc_l_api_Span_api_Span Tryz.f87 pre [a0, a1] (.ret r) post = vc_slices_IndexFunc_l_api_Span_api_Span (Tz g) pre a0 a1 r post := by kernel_rfl
theorem hf_slices_IndexFunc_l_api_Span_api_Span : Tryz.prog.funcs[f_slices_IndexFunc_l_api_Span_api_Span]? = some Tryz.f87 := by kernel_rfl
theorem ok_slices_IndexFunc_l_api_Span_api_Span : fnVcOK Tryz.prog Tryz.f87 = true := by kernel_rfl
theorem nt_slices_IndexFunc_l_api_Span_api_Span : Nat.ble 2 Tryz.f87.ntmps = true := by kernel_rfl
theorem meetsH_slices_IndexFunc_l_api_Span_api_Span {g : GG} {pre : List ABlk} {a0 a1 : AV} {r : AV} {post : List PB} (hk : Nat.ble pre.length 24 = true) (h : vc_slices_IndexFunc_l_api_Span_api_Span (Tz g) pre a0 a1 r post) : MeetsH (Tz g) f_slices_IndexFunc_l_api_Span_api_Span pre [a0, a1] (.ret r) post :=
  meetsH_of_vc (C := Tz g) ann_slices_IndexFunc_l_api_Span_api_Span hf_slices_IndexFunc_l_api_Span_api_Span ok_slices_IndexFunc_l_api_Span_api_Span nt_slices_IndexFunc_l_api_Span_api_Span hk (pn := false) (Eq.mpr ((vcFn2_eq _ _ _ _ _ _ _ _).trans (vc_slices_IndexFunc_l_api_Span_api_Span_eq g pre a0 a1 r post)) h)
theorem meets_slices_IndexFunc_l_api_Span_api_Span {g : GG} {a0 a1 : D} {r : Res} (h : vc_slices_IndexFunc_l_api_Span_api_Span (Tz g) [] (.d a0) (.d a1) r.val (r.bl.map .upd)) : Meets (Tz g) f_slices_IndexFunc_l_api_Span_api_Span [a0, a1] r := meetsH_slices_IndexFunc_l_api_Span_api_Span rfl h
def ann_slices_ContainsFunc_l_api_Span_api_Span : Nat → List Nat := fun n => match n with  | _ => []
def vc_slices_ContainsFunc_l_api_Span_api_Span (P : Ctx) (pre : List ABlk) (a0 a1 : AV) (r : AV) (post : List PB) : Prop :=
  let h0 : Heap := numbered 0 pre
  CALL P f_slices_IndexFunc_l_api_Span_api_Span [a0, a1] 48 h0 (fun _ v7 h1 =>
  BIN 0 .geq v7 (.d (.num .i64 0)) fun v8 =>
  POST v8 h1 pre r post)
  (fun _ _ _ => False)
theorem vc_slices_ContainsFunc_l_api_Span_api_Span_eq (g : GG) (pre : List ABlk) (a0 a1 : AV) (r : AV) (post : List PB) : vcFn2 (Tz g) false ann_slices_ContainsFunc_l_api_Span_api_Span Tryz.f66 pre [a0, a1] (.ret r) post = vc_slices_ContainsFunc_l_api_Span_api_Span (Tz g) pre a0 a1 r post := by kernel_rfl
theorem hf_slices_ContainsFunc_l_api_Span_api_Span : Tryz.prog.funcs[f_slices_ContainsFunc_l_api_Span_api_Span]? = some Tryz.f66 := by kernel_rfl
theorem ok_slices_ContainsFunc_l_api_Span_api_Span : fnVcOK Tryz.prog Tryz.f66 = true := by kernel_rfl
theorem nt_slices_ContainsFunc_l_api_Span_api_Span : Nat.ble 2 Tryz.f66.ntmps = true := by kernel_rfl
theorem meetsH_slices_ContainsFunc_l_api_Span_api_Span {g : GG} {pre : List ABlk} {a0 a1 : AV} {r : AV} {post : List PB} (hk : Nat.ble pre.length 24 = true) (h : vc_slices_ContainsFunc_l_api_Span_api_Span (Tz g) pre a0 a1 r post) : MeetsH (Tz g) f_slices_ContainsFunc_l_api_Span_api_Span pre [a0, a1] (.ret r) post :=
  meetsH_of_vc (C := Tz g) ann_slices_ContainsFunc_l_api_Span_api_Span hf_slices_ContainsFunc_l_api_Span_api_Span ok_slices_ContainsFunc_l_api_Span_api_Span nt_slices_ContainsFunc_l_api_Span_api_Span hk (pn := false) (Eq.mpr ((vcFn2_eq _ _ _ _ _ _ _ _).trans (vc_slices_ContainsFunc_l_api_Span_api_Span_eq g pre a0 a1 r post)) h)
theorem meets_slices_ContainsFunc_l_api_Span_api_Span {g : GG} {a0 a1 : D} {r : Res} (h : vc_slices_ContainsFunc_l_api_Span_api_Span (Tz g) [] (.d a0) (.d a1) r.val (r.bl.map .upd)) : Meets (Tz g) f_slices_ContainsFunc_l_api_Span_api_Span [a0, a1] r := meetsH_slices_ContainsFunc_l_api_Span_api_Span rfl h
def ann_slices_Clone_l_int_int : Nat → List Nat := fun n => match n with  | _ => []
def vc_slices_Clone_l_int_int (_P : Ctx) (pre : List ABlk) (a0 : AV) (r : AV) (post : List PB) : Prop :=
  let h0 : Heap := numbered 0 pre
  BIN 998 .eql a0 .zc fun v4 =>
  COND v4
  (POST .zc h0 pre r post)
  (MKS T_int 1 [] 48 h0 fun v5 h1 =>
  APP T_int 1 v5 a0 64 h1 fun v7 h2 =>
  POST v7 h2 pre r post)
theorem vc_slices_Clone_l_int_int_eq (g : GG) (pre : List ABlk) (a0 : AV) (r : AV) (post : List PB) : vcFn2 (Tz g) false ann_slices_Clone_l_int_int Tryz.f56 pre [a0] (.ret r) post = vc_slices_Clone_l_int_int (Tz g) pre a0 r post := by kernel_rfl
theorem hf_slices_Clone_l_int_int : Tryz.prog.funcs[f_slices_Clone_l_int_int]? = some Tryz.f56 := by kernel_rfl
theorem ok_slices_Clone_l_int_int : fnVcOK Tryz.prog Tryz.f56 = true := by kernel_rfl
theorem nt_slices_Clone_l_int_int : Nat.ble 1 Tryz.f56.ntmps = true := by kernel_rfl
theorem meetsH_slices_Clone_l_int_int {g : GG} {pre : List ABlk} {a0 : AV} {r : AV} {post : List PB} (hk : Nat.ble pre.length 24 = true) (h : vc_slices_Clone_l_int_int (Tz g) pre a0 r post) : MeetsH (Tz g) f_slices_Clone_l_int_int pre [a0] (.ret r) post :=
  meetsH_of_vc (C := Tz g) ann_slices_Clone_l_int_int hf_slices_Clone_l_int_int ok_slices_Clone_l_int_int nt_slices_Clone_l_int_int hk (pn := false) (Eq.mpr ((vcFn2_eq _ _ _ _ _ _ _ _).trans (vc_slices_Clone_l_int_int_eq g pre a0 r post)) h)
theorem meets_slices_Clone_l_int_int {g : GG} {a0 : D} {r : Res} (h : vc_slices_Clone_l_int_int (Tz g) [] (.d a0) r.val (r.bl.map .upd)) : Meets (Tz g) f_slices_Clone_l_int_int [a0] r := meetsH_slices_Clone_l_int_int rfl h
def ann_differ_after : Nat → List Nat := fun n => match n with | 3 => [5, 9, 10] | 5 => [5, 9, 10, 14, 15] | _ => []
def vc_differ_after (P : Ctx) (pre : List ABlk) (a0 a1 : AV) (r : AV) (post : List PB) : Prop :=
  let h0 : Heap := numbered 0 pre
  CALL P f_slices_Clone_l_int_int [a0] 40 h0 (fun _ v8 h1 =>
  LOOP [v8, a1, (.d (.num .i64 0))] h1 72 fun vs3 h4 next3 =>
  BIN 0 .lss (nth vs3 2) (nth vs3 1) fun v11 =>
  COND v11
  (LEN false (nth vs3 0) h4 fun v13 =>
  BIN 0 .sub v13 (.d (.num .i64 1)) fun v14 =>
  LOOP [(nth vs3 0), (nth vs3 1), (nth vs3 2), v14, (.d (.num .i64 0))] h4 120 fun vs5 h6 next5 =>
  BIN 0 .lss (nth vs5 4) (nth vs5 3) fun v16 =>
  COND v16
  (IADDR 1 T_int (nth vs5 0) (nth vs5 4) h6 fun v20 =>
  LOAD false 1 v20 h6 fun v21 =>
  BIN 0 .add (nth vs5 4) (.d (.num .i64 1)) fun v24 =>
  IADDR 1 T_int (nth vs5 0) v24 h6 fun v25 =>
  LOAD false 1 v25 h6 fun v26 =>
  BIN 0 .add v21 v26 fun v27 =>
  IADDR 1 T_int (nth vs5 0) (nth vs5 4) h6 fun v28 =>
  STORE 1 v28 v27 h6 fun h7 =>
  ORDX [] [0, 0, 3, 7, 0, 0, 32, 112, 240, 511, 1023, 2047] [(2, wr h6 h6, (ids (nth vs5 0))), (3, wr h6 h6, (ids v20)), (7, wr h6 h6, (ids (nth vs5 0))), (8, wr h6 h6, (ids v25)), (10, wr h6 h6, (ids (nth vs5 0))), (11, wr h6 h7, (ids v28))] ∧
  BIN 0 .add (nth vs5 4) (.d (.num .i64 1)) fun v29 =>
  next5 [(nth vs5 0), (nth vs5 1), (nth vs5 2), (nth vs5 3), v29] h7)
  (BIN 0 .add (nth vs5 2) (.d (.num .i64 1)) fun v30 =>
  next3 [(nth vs5 0), (nth vs5 1), v30] h6))
  (POST (nth vs3 0) h4 pre r post))
  (fun _ _ _ => False)
theorem vc_differ_after_eq (g : GG) (pre : List ABlk) (a0 a1 : AV) (r : AV) (post : List PB) : vcFn2 (Tz g) false ann_differ_after Tryz.f39 pre [a0, a1] (.ret r) post = vc_differ_after (Tz g) pre a0 a1 r post := by kernel_rfl
theorem hf_differ_after : Tryz.prog.funcs[f_differ_after]? = some Tryz.f39 := by kernel_rfl
theorem ok_differ_after : fnVcOK Tryz.prog Tryz.f39 = true := by kernel_rfl
theorem nt_differ_after : Nat.ble 2 Tryz.f39.ntmps = true := by kernel_rfl
theorem meetsH_differ_after {g : GG} {pre : List ABlk} {a0 a1 : AV} {r : AV} {post : List PB} (hk : Nat.ble pre.length 24 = true) (h : vc_differ_after (Tz g) pre a0 a1 r post) : MeetsH (Tz g) f_differ_after pre [a0, a1] (.ret r) post :=
  meetsH_of_vc (C := Tz g) ann_differ_after hf_differ_after ok_differ_after nt_differ_after hk (pn := false) (Eq.mpr ((vcFn2_eq _ _ _ _ _ _ _ _).trans (vc_differ_after_eq g pre a0 a1 r post)) h)
theorem meets_differ_after {g : GG} {a0 a1 : D} {r : Res} (h : vc_differ_after (Tz g) [] (.d a0) (.d a1) r.val (r.bl.map .upd)) : Meets (Tz g) f_differ_after [a0, a1] r := meetsH_differ_after rfl h
def ann_differ_table_state : Nat → List Nat := fun n => match n with  | _ => []
def vc_differ_table_state (P : Ctx) (pre : List ABlk) (a0 a1 : AV) (r : AV) (post : List PB) : Prop :=
  let h0 : Heap := numbered 0 pre
  BOX T_differ_table a0 24 h0 fun v2 h1 =>
  FADDR 3 v2 h1 fun v5 =>
  LOAD false 1 v5 h1 fun v6 =>
  CALL P f_differ_after [v6, a1] 64 h1 (fun _ v8 h2 =>
  POST v8 h2 pre r post)
  (fun _ _ _ => False)
theorem vc_differ_table_state_eq (g : GG) (pre : List ABlk) (a0 a1 : AV) (r : AV) (post : List PB) : vcFn2 (Tz g) false ann_differ_table_state Tryz.f36 pre [a0, a1] (.ret r) post = vc_differ_table_state (Tz g) pre a0 a1 r post := by kernel_rfl
theorem hf_differ_table_state : Tryz.prog.funcs[f_differ_table_state]? = some Tryz.f36 := by kernel_rfl
theorem ok_differ_table_state : fnVcOK Tryz.prog Tryz.f36 = true := by kernel_rfl
theorem nt_differ_table_state : Nat.ble 2 Tryz.f36.ntmps = true := by kernel_rfl
theorem meetsH_differ_table_state {g : GG} {pre : List ABlk} {a0 a1 : AV} {r : AV} {post : List PB} (hk : Nat.ble pre.length 24 = true) (h : vc_differ_table_state (Tz g) pre a0 a1 r post) : MeetsH (Tz g) f_differ_table_state pre [a0, a1] (.ret r) post :=
  meetsH_of_vc (C := Tz g) ann_differ_table_state hf_differ_table_state ok_differ_table_state nt_differ_table_state hk (pn := false) (Eq.mpr ((vcFn2_eq _ _ _ _ _ _ _ _).trans (vc_differ_table_state_eq g pre a0 a1 r post)) h)
theorem meets_differ_table_state {g : GG} {a0 a1 : D} {r : Res} (h : vc_differ_table_state (Tz g) [] (.d a0) (.d a1) r.val (r.bl.map .upd)) : Meets (Tz g) f_differ_table_state [a0, a1] r := meetsH_differ_table_state rfl h
def ann_differ_isTruth : Nat → List Nat := fun n => match n with | 4 => [2, 13, 14, 15] | _ => []
def vc_differ_isTruth (P : Ctx) (pre : List ABlk) (a0 a1 : AV) (r : AV) (post : List PB) : Prop :=
  let h0 : Heap := numbered 0 pre
  BOX T_api_DifferPlan a0 24 h0 fun v2 h1 =>
  LEN false a1 h1 fun v8 =>
  FADDR 0 v2 h1 fun v9 =>
  LOAD false 1 v9 h1 fun v10 =>
  LEN false v10 h1 fun v11 =>
  BIN 0 .neq v8 v11 fun v12 =>
  COND v12
  (POST (.d (.bool false)) h1 pre r post)
  (LEN false a1 h1 fun v14 =>
  LOOP [v2, a1, v14, (.d (.num .i64 0))] h1 112 fun vs2 h3 next2 =>
  BIN 0 .lss (nth vs2 3) (nth vs2 2) fun v16 =>
  COND v16
  (IADDR 1 T_int (nth vs2 1) (nth vs2 3) h3 fun v18 =>
  LOAD false 1 v18 h3 fun v19 =>
  FADDR 0 (nth vs2 0) h3 fun v21 =>
  LOAD false 1 v21 h3 fun v22 =>
  IADDR 2 T_api_Span v22 (nth vs2 3) h3 fun v24 =>
  FADDR 0 v24 h3 fun v25 =>
  LOAD false 1 v25 h3 fun v26 =>
  FADDR 0 (nth vs2 0) h3 fun v27 =>
  LOAD false 1 v27 h3 fun v28 =>
  IADDR 2 T_api_Span v28 (nth vs2 3) h3 fun v30 =>
  FADDR 1 v30 h3 fun v31 =>
  LOAD false 1 v31 h3 fun v32 =>
  CALL P f_differ_in [v19, v26, v32] 272 h3 (fun rd5 v33 h4 =>
  NOT v33 fun v34 =>
  ORDX [] [0, 0, 2, 0, 14, 30, 62, 0, 128, 0, 896, 1920, 3968, 8191, 16383] [(1, wr h3 h3, (ids (nth vs2 0))), (2, wr h3 h3, (ids v21)), (4, wr h3 h3, (ids v22)), (5, wr h3 h3, (ids v24)), (6, wr h3 h3, (ids v25)), (7, wr h3 h3, (ids (nth vs2 0))), (8, wr h3 h3, (ids v27)), (10, wr h3 h3, (ids v28)), (11, wr h3 h3, (ids v30)), (12, wr h3 h3, (ids v31)), (13, wr h3 h4, rd5)] ∧
  COND v34
  (POST (.d (.bool false)) h4 pre r post)
  (BIN 0 .add (nth vs2 3) (.d (.num .i64 1)) fun v35 =>
  next2 [(nth vs2 0), (nth vs2 1), (nth vs2 2), v35] h4))
  (fun _ _ _ => False))
  (POST (.d (.bool true)) h3 pre r post))
theorem vc_differ_isTruth_eq (g : GG) (pre : List ABlk) (a0 a1 : AV) (r : AV) (post : List PB) : vcFn2 (Tz g) false ann_differ_isTruth Tryz.f34 pre [a0, a1] (.ret r) post = vc_differ_isTruth (Tz g) pre a0 a1 r post := by kernel_rfl
theorem hf_differ_isTruth : Tryz.prog.funcs[f_differ_isTruth]? = some Tryz.f34 := by kernel_rfl
theorem ok_differ_isTruth : fnVcOK Tryz.prog Tryz.f34 = true := by kernel_rfl
theorem nt_differ_isTruth : Nat.ble 2 Tryz.f34.ntmps = true := by kernel_rfl
theorem meetsH_differ_isTruth {g : GG} {pre : List ABlk} {a0 a1 : AV} {r : AV} {post : List PB} (hk : Nat.ble pre.length 24 = true) (h : vc_differ_isTruth (Tz g) pre a0 a1 r post) : MeetsH (Tz g) f_differ_isTruth pre [a0, a1] (.ret r) post :=
  meetsH_of_vc (C := Tz g) ann_differ_isTruth hf_differ_isTruth ok_differ_isTruth nt_differ_isTruth hk (pn := false) (Eq.mpr ((vcFn2_eq _ _ _ _ _ _ _ _).trans (vc_differ_isTruth_eq g pre a0 a1 r post)) h)
theorem meets_differ_isTruth {g : GG} {a0 a1 : D} {r : Res} (h : vc_differ_isTruth (Tz g) [] (.d a0) (.d a1) r.val (r.bl.map .upd)) : Meets (Tz g) f_differ_isTruth [a0, a1] r := meetsH_differ_isTruth rfl h
def ann_ref01_in : Nat → List Nat := fun n => match n with  | _ => []
def vc_ref01_in (_P : Ctx) (pre : List ABlk) (a0 a1 a2 : AV) (r : AV) (post : List PB) : Prop :=
  let h0 : Heap := numbered 0 pre
  BIN 0 .geq a0 a1 fun v9 =>
  CONDG v9
  (BIN 0 .leq a0 a2 fun v13 =>
  POST v13 h0 pre r post)
  (POST (.d (.bool false)) h0 pre r post)
theorem vc_ref01_in_eq (g : GG) (pre : List ABlk) (a0 a1 a2 : AV) (r : AV) (post : List PB) : vcFn2 (Tz g) false ann_ref01_in Tryz.f13 pre [a0, a1, a2] (.ret r) post = vc_ref01_in (Tz g) pre a0 a1 a2 r post := by kernel_rfl
theorem hf_ref01_in : Tryz.prog.funcs[f_ref01_in]? = some Tryz.f13 := by kernel_rfl
theorem ok_ref01_in : fnVcOK Tryz.prog Tryz.f13 = true := by kernel_rfl
theorem nt_ref01_in : Nat.ble 3 Tryz.f13.ntmps = true := by kernel_rfl
theorem meetsH_ref01_in {g : GG} {pre : List ABlk} {a0 a1 a2 : AV} {r : AV} {post : List PB} (hk : Nat.ble pre.length 24 = true) (h : vc_ref01_in (Tz g) pre a0 a1 a2 r post) : MeetsH (Tz g) f_ref01_in pre [a0, a1, a2] (.ret r) post :=
  meetsH_of_vc (C := Tz g) ann_ref01_in hf_ref01_in ok_ref01_in nt_ref01_in hk (pn := false) (Eq.mpr ((vcFn2_eq _ _ _ _ _ _ _ _).trans (vc_ref01_in_eq g pre a0 a1 a2 r post)) h)
theorem meets_ref01_in {g : GG} {a0 a1 a2 : D} {r : Res} (h : vc_ref01_in (Tz g) [] (.d a0) (.d a1) (.d a2) r.val (r.bl.map .upd)) : Meets (Tz g) f_ref01_in [a0, a1, a2] r := meetsH_ref01_in rfl h
def ann_ref01_Start : Nat → List Nat := fun n => match n with  | _ => []
def vc_ref01_Start (P : Ctx) (pre : List ABlk) (a0 : AV) (r : AV) (post : List PB) : Prop :=
  let h0 : Heap := numbered 0 pre
  BOX T_api_Span a0 24 h0 fun v1 h1 =>
  FADDR 0 v1 h1 fun v3 =>
  LOAD false 1 v3 h1 fun v4 =>
  CALL P f_ref01_in [v4, (.d (.num .i64 (-99999))), (.d (.num .i64 99999))] 56 h1 (fun _ v5 h2 =>
  CONDG v5
  (FADDR 1 v1 h2 fun v7 =>
  LOAD false 1 v7 h2 fun v8 =>
  FADDR 0 v1 h2 fun v9 =>
  LOAD false 1 v9 h2 fun v10 =>
  FADDR 0 v1 h2 fun v11 =>
  LOAD false 1 v11 h2 fun v12 =>
  BIN 0 .add v12 (.d (.num .i64 6)) fun v13 =>
  MINK (.d (.num .i64 99999)) v13 fun v14 =>
  CALL P f_ref01_in [v8, v10, v14] 136 h2 (fun _ v15 h4 =>
  POST v15 h4 pre r post)
  (fun _ _ _ => False))
  (POST (.d (.bool false)) h2 pre r post))
  (fun _ _ _ => False)
theorem vc_ref01_Start_eq (g : GG) (pre : List ABlk) (a0 : AV) (r : AV) (post : List PB) : vcFn2 (Tz g) false ann_ref01_Start Tryz.f40 pre [a0] (.ret r) post = vc_ref01_Start (Tz g) pre a0 r post := by kernel_rfl
theorem hf_ref01_Start : Tryz.prog.funcs[f_ref01_Start]? = some Tryz.f40 := by kernel_rfl
theorem ok_ref01_Start : fnVcOK Tryz.prog Tryz.f40 = true := by kernel_rfl
theorem nt_ref01_Start : Nat.ble 1 Tryz.f40.ntmps = true := by kernel_rfl
theorem meetsH_ref01_Start {g : GG} {pre : List ABlk} {a0 : AV} {r : AV} {post : List PB} (hk : Nat.ble pre.length 24 = true) (h : vc_ref01_Start (Tz g) pre a0 r post) : MeetsH (Tz g) f_ref01_Start pre [a0] (.ret r) post :=
  meetsH_of_vc (C := Tz g) ann_ref01_Start hf_ref01_Start ok_ref01_Start nt_ref01_Start hk (pn := false) (Eq.mpr ((vcFn2_eq _ _ _ _ _ _ _ _).trans (vc_ref01_Start_eq g pre a0 r post)) h)
theorem meets_ref01_Start {g : GG} {a0 : D} {r : Res} (h : vc_ref01_Start (Tz g) [] (.d a0) r.val (r.bl.map .upd)) : Meets (Tz g) f_ref01_Start [a0] r := meetsH_ref01_Start rfl h
def ann_ref01_Plan : Nat → List Nat := fun n => match n with | 4 => [1, 3] | _ => []
def vc_ref01_Plan (P : Ctx) (pre : List ABlk) (a0 : AV) (r : AV) (post : List PB) : Prop :=
  let h0 : Heap := numbered 0 pre
  BOX T_api_DifferPlan a0 24 h0 fun v1 h1 =>
  FADDR 0 v1 h1 fun v4 =>
  LOAD false 1 v4 h1 fun v5 =>
  LEN false v5 h1 fun v6 =>
  CALL P f_ref01_in [v6, (.d (.num .i64 1)), (.d (.num .i64 4))] 64 h1 (fun _ v7 h2 =>
  NOT v7 fun v8 =>
  CONDG v8
  (POST (.d (.bool false)) h2 pre r post)
  (FADDR 1 v1 h2 fun v10 =>
  LOAD false 1 v10 h2 fun v11 =>
  CALL P f_ref01_in [v11, (.d (.num .i64 1)), (.d (.num .i64 12))] 104 h2 (fun _ v12 h4 =>
  NOT v12 fun v13 =>
  CONDG v13
  (POST (.d (.bool false)) h4 pre r post)
  (FADDR 2 v1 h4 fun v16 =>
  LOAD false 1 v16 h4 fun v17 =>
  CALL P f_ref01_in [v17, (.d (.num .i64 0)), (.d (.num .i64 3))] 152 h4 (fun _ v18 h6 =>
  NOT v18 fun v19 =>
  COND v19
  (POST (.d (.bool false)) h6 pre r post)
  (LOOP [v1, (.d (.num .i64 0))] h6 184 fun vs8 h9 next8 =>
  FADDR 0 (nth vs8 0) h9 fun v22 =>
  LOAD false 1 v22 h9 fun v23 =>
  LEN false v23 h9 fun v24 =>
  BIN 0 .lss (nth vs8 1) v24 fun v25 =>
  COND v25
  (FADDR 0 (nth vs8 0) h9 fun v28 =>
  LOAD false 1 v28 h9 fun v29 =>
  IADDR 2 T_api_Span v29 (nth vs8 1) h9 fun v31 =>
  LOAD true 2 v31 h9 fun v32 =>
  CALL P f_ref01_Start [v32] 272 h9 (fun _ v33 h10 =>
  NOT v33 fun v34 =>
  COND v34
  (POST (.d (.bool false)) h10 pre r post)
  (BIN 0 .add (nth vs8 1) (.d (.num .i64 1)) fun v27 =>
  next8 [(nth vs8 0), v27] h10))
  (fun _ _ _ => False))
  (POST (.d (.bool true)) h9 pre r post)))
  (fun _ _ _ => False)))
  (fun _ _ _ => False)))
  (fun _ _ _ => False)
theorem vc_ref01_Plan_eq (g : GG) (pre : List ABlk) (a0 : AV) (r : AV) (post : List PB) : vcFn2 (Tz g) false ann_ref01_Plan Tryz.f11 pre [a0] (.ret r) post = vc_ref01_Plan (Tz g) pre a0 r post := by kernel_rfl
theorem hf_ref01_Plan : Tryz.prog.funcs[f_ref01_Plan]? = some Tryz.f11 := by kernel_rfl
theorem ok_ref01_Plan : fnVcOK Tryz.prog Tryz.f11 = true := by kernel_rfl
theorem nt_ref01_Plan : Nat.ble 1 Tryz.f11.ntmps = true := by kernel_rfl
theorem meetsH_ref01_Plan {g : GG} {pre : List ABlk} {a0 : AV} {r : AV} {post : List PB} (hk : Nat.ble pre.length 24 = true) (h : vc_ref01_Plan (Tz g) pre a0 r post) : MeetsH (Tz g) f_ref01_Plan pre [a0] (.ret r) post :=
  meetsH_of_vc (C := Tz g) ann_ref01_Plan hf_ref01_Plan ok_ref01_Plan nt_ref01_Plan hk (pn := false) (Eq.mpr ((vcFn2_eq _ _ _ _ _ _ _ _).trans (vc_ref01_Plan_eq g pre a0 r post)) h)
theorem meets_ref01_Plan {g : GG} {a0 : D} {r : Res} (h : vc_ref01_Plan (Tz g) [] (.d a0) r.val (r.bl.map .upd)) : Meets (Tz g) f_ref01_Plan [a0] r := meetsH_ref01_Plan rfl h
def ann_ref01_Truth : Nat → List Nat := fun n => match n with | 4 => [1, 2, 5] | _ => []
def vc_ref01_Truth (P : Ctx) (pre : List ABlk) (a0 a1 : AV) (r : AV) (post : List PB) : Prop :=
  let h0 : Heap := numbered 0 pre
  BOX T_api_DifferPlan a0 24 h0 fun v2 h1 =>
  LEN false a1 h1 fun v7 =>
  FADDR 0 v2 h1 fun v8 =>
  LOAD false 1 v8 h1 fun v9 =>
  LEN false v9 h1 fun v10 =>
  BIN 0 .neq v7 v10 fun v11 =>
  COND v11
  (POST (.d (.bool false)) h1 pre r post)
  (LOOP [a1, v2, (.d (.num .i64 0))] h1 96 fun vs2 h3 next2 =>
  LEN false (nth vs2 0) h3 fun v14 =>
  BIN 0 .lss (nth vs2 2) v14 fun v15 =>
  COND v15
  (IADDR 1 T_int (nth vs2 0) (nth vs2 2) h3 fun v20 =>
  LOAD false 1 v20 h3 fun v21 =>
  FADDR 0 (nth vs2 1) h3 fun v22 =>
  LOAD false 1 v22 h3 fun v23 =>
  IADDR 2 T_api_Span v23 (nth vs2 2) h3 fun v25 =>
  FADDR 0 v25 h3 fun v26 =>
  LOAD false 1 v26 h3 fun v27 =>
  FADDR 0 (nth vs2 1) h3 fun v28 =>
  LOAD false 1 v28 h3 fun v29 =>
  IADDR 2 T_api_Span v29 (nth vs2 2) h3 fun v31 =>
  FADDR 1 v31 h3 fun v32 =>
  LOAD false 1 v32 h3 fun v33 =>
  CALL P f_ref01_in [v21, v27, v33] 264 h3 (fun rd5 v34 h4 =>
  NOT v34 fun v35 =>
  ORDX [] [0, 0, 3, 7, 0, 16, 0, 112, 240, 496, 0, 1024, 0, 7168, 15360, 31744, 65535, 131071] [(2, wr h3 h3, (ids (nth vs2 0))), (3, wr h3 h3, (ids v20)), (4, wr h3 h3, (ids (nth vs2 1))), (5, wr h3 h3, (ids v22)), (7, wr h3 h3, (ids v23)), (8, wr h3 h3, (ids v25)), (9, wr h3 h3, (ids v26)), (10, wr h3 h3, (ids (nth vs2 1))), (11, wr h3 h3, (ids v28)), (13, wr h3 h3, (ids v29)), (14, wr h3 h3, (ids v31)), (15, wr h3 h3, (ids v32)), (16, wr h3 h4, rd5)] ∧
  COND v35
  (POST (.d (.bool false)) h4 pre r post)
  (BIN 0 .add (nth vs2 2) (.d (.num .i64 1)) fun v17 =>
  next2 [(nth vs2 0), (nth vs2 1), v17] h4))
  (fun _ _ _ => False))
  (POST (.d (.bool true)) h3 pre r post))
theorem vc_ref01_Truth_eq (g : GG) (pre : List ABlk) (a0 a1 : AV) (r : AV) (post : List PB) : vcFn2 (Tz g) false ann_ref01_Truth Tryz.f12 pre [a0, a1] (.ret r) post = vc_ref01_Truth (Tz g) pre a0 a1 r post := by kernel_rfl
theorem hf_ref01_Truth : Tryz.prog.funcs[f_ref01_Truth]? = some Tryz.f12 := by kernel_rfl
theorem ok_ref01_Truth : fnVcOK Tryz.prog Tryz.f12 = true := by kernel_rfl
theorem nt_ref01_Truth : Nat.ble 2 Tryz.f12.ntmps = true := by kernel_rfl
theorem meetsH_ref01_Truth {g : GG} {pre : List ABlk} {a0 a1 : AV} {r : AV} {post : List PB} (hk : Nat.ble pre.length 24 = true) (h : vc_ref01_Truth (Tz g) pre a0 a1 r post) : MeetsH (Tz g) f_ref01_Truth pre [a0, a1] (.ret r) post :=
  meetsH_of_vc (C := Tz g) ann_ref01_Truth hf_ref01_Truth ok_ref01_Truth nt_ref01_Truth hk (pn := false) (Eq.mpr ((vcFn2_eq _ _ _ _ _ _ _ _).trans (vc_ref01_Truth_eq g pre a0 a1 r post)) h)
theorem meets_ref01_Truth {g : GG} {a0 a1 : D} {r : Res} (h : vc_ref01_Truth (Tz g) [] (.d a0) (.d a1) r.val (r.bl.map .upd)) : Meets (Tz g) f_ref01_Truth [a0, a1] r := meetsH_ref01_Truth rfl h
def ann_ref01_Same : Nat → List Nat := fun n => match n with | 4 => [0, 1, 5] | _ => []
def vc_ref01_Same (_P : Ctx) (pre : List ABlk) (a0 a1 : AV) (r : AV) (post : List PB) : Prop :=
  let h0 : Heap := numbered 0 pre
  LEN false a0 h0 fun v7 =>
  LEN false a1 h0 fun v9 =>
  BIN 0 .neq v7 v9 fun v10 =>
  COND v10
  (POST (.d (.bool false)) h0 pre r post)
  (LOOP [a0, a1, (.d (.num .i64 0))] h0 80 fun vs1 h2 next1 =>
  LEN false (nth vs1 0) h2 fun v13 =>
  BIN 0 .lss (nth vs1 2) v13 fun v14 =>
  COND v14
  (IADDR 1 T_int (nth vs1 0) (nth vs1 2) h2 fun v19 =>
  LOAD false 1 v19 h2 fun v20 =>
  IADDR 1 T_int (nth vs1 1) (nth vs1 2) h2 fun v23 =>
  LOAD false 1 v23 h2 fun v24 =>
  BIN 0 .neq v20 v24 fun v25 =>
  ORDX [] [0, 0, 3, 7, 0, 0, 48, 112, 255] [(2, wr h2 h2, (ids (nth vs1 0))), (3, wr h2 h2, (ids v19)), (6, wr h2 h2, (ids (nth vs1 1))), (7, wr h2 h2, (ids v23))] ∧
  COND v25
  (POST (.d (.bool false)) h2 pre r post)
  (BIN 0 .add (nth vs1 2) (.d (.num .i64 1)) fun v16 =>
  next1 [(nth vs1 0), (nth vs1 1), v16] h2))
  (POST (.d (.bool true)) h2 pre r post))
theorem vc_ref01_Same_eq (g : GG) (pre : List ABlk) (a0 a1 : AV) (r : AV) (post : List PB) : vcFn2 (Tz g) false ann_ref01_Same Tryz.f9 pre [a0, a1] (.ret r) post = vc_ref01_Same (Tz g) pre a0 a1 r post := by kernel_rfl
theorem hf_ref01_Same : Tryz.prog.funcs[f_ref01_Same]? = some Tryz.f9 := by kernel_rfl
theorem ok_ref01_Same : fnVcOK Tryz.prog Tryz.f9 = true := by kernel_rfl
theorem nt_ref01_Same : Nat.ble 2 Tryz.f9.ntmps = true := by kernel_rfl
theorem meetsH_ref01_Same {g : GG} {pre : List ABlk} {a0 a1 : AV} {r : AV} {post : List PB} (hk : Nat.ble pre.length 24 = true) (h : vc_ref01_Same (Tz g) pre a0 a1 r post) : MeetsH (Tz g) f_ref01_Same pre [a0, a1] (.ret r) post :=
  meetsH_of_vc (C := Tz g) ann_ref01_Same hf_ref01_Same ok_ref01_Same nt_ref01_Same hk (pn := false) (Eq.mpr ((vcFn2_eq _ _ _ _ _ _ _ _).trans (vc_ref01_Same_eq g pre a0 a1 r post)) h)
theorem meets_ref01_Same {g : GG} {a0 a1 : D} {r : Res} (h : vc_ref01_Same (Tz g) [] (.d a0) (.d a1) r.val (r.bl.map .upd)) : Meets (Tz g) f_ref01_Same [a0, a1] r := meetsH_ref01_Same rfl h
def ann_law01_right : Nat → List Nat := fun n => match n with  | _ => []
def vc_law01_right (P : Ctx) (pre : List ABlk) (a0 a1 : AV) (r : AV) (post : List PB) : Prop :=
  let h0 : Heap := numbered 0 pre
  BOX T_api_DifferPlan a0 24 h0 fun v2 h1 =>
  LOAD true 3 v2 h1 fun v5 =>
  CALL P f_law01_short [v5] 48 h1 (fun _ v6 h2 =>
  CONDG v6
  (LEN false a1 h2 fun v9 =>
  BIN 0 .leq v9 (.d (.num .i64 6)) fun v10 =>
  CONDG v10
  (LOAD true 3 v2 h2 fun v13 =>
  CALL P f_ref01_Plan [v13] 112 h2 (fun _ v14 h4 =>
  CONDG v14
  (LOAD true 3 v2 h4 fun v17 =>
  CALL P f_ref01_Truth [v17, a1] 152 h4 (fun _ v19 h6 =>
  POST v19 h6 pre r post)
  (fun _ _ _ => False))
  (POST (.d (.bool false)) h4 pre r post))
  (fun _ _ _ => False))
  (POST (.d (.bool false)) h2 pre r post))
  (POST (.d (.bool false)) h2 pre r post))
  (fun _ _ _ => False)
theorem vc_law01_right_eq (g : GG) (pre : List ABlk) (a0 a1 : AV) (r : AV) (post : List PB) : vcFn2 (Tz g) false ann_law01_right Tryz.f4 pre [a0, a1] (.ret r) post = vc_law01_right (Tz g) pre a0 a1 r post := by kernel_rfl
theorem hf_law01_right : Tryz.prog.funcs[f_law01_right]? = some Tryz.f4 := by kernel_rfl
theorem ok_law01_right : fnVcOK Tryz.prog Tryz.f4 = true := by kernel_rfl
theorem nt_law01_right : Nat.ble 2 Tryz.f4.ntmps = true := by kernel_rfl
theorem meetsH_law01_right {g : GG} {pre : List ABlk} {a0 a1 : AV} {r : AV} {post : List PB} (hk : Nat.ble pre.length 24 = true) (h : vc_law01_right (Tz g) pre a0 a1 r post) : MeetsH (Tz g) f_law01_right pre [a0, a1] (.ret r) post :=
  meetsH_of_vc (C := Tz g) ann_law01_right hf_law01_right ok_law01_right nt_law01_right hk (pn := false) (Eq.mpr ((vcFn2_eq _ _ _ _ _ _ _ _).trans (vc_law01_right_eq g pre a0 a1 r post)) h)
theorem meets_law01_right {g : GG} {a0 a1 : D} {r : Res} (h : vc_law01_right (Tz g) [] (.d a0) (.d a1) r.val (r.bl.map .upd)) : Meets (Tz g) f_law01_right [a0, a1] r := meetsH_law01_right rfl h
def ann_law01_short : Nat → List Nat := fun n => match n with  | _ => []
def vc_law01_short (_P : Ctx) (pre : List ABlk) (a0 : AV) (r : AV) (post : List PB) : Prop :=
  let h0 : Heap := numbered 0 pre
  BOX T_api_DifferPlan a0 24 h0 fun v1 h1 =>
  FADDR 0 v1 h1 fun v3 =>
  LOAD false 1 v3 h1 fun v4 =>
  LEN false v4 h1 fun v5 =>
  BIN 0 .leq v5 (.d (.num .i64 6)) fun v6 =>
  POST v6 h1 pre r post
theorem vc_law01_short_eq (g : GG) (pre : List ABlk) (a0 : AV) (r : AV) (post : List PB) : vcFn2 (Tz g) false ann_law01_short Tryz.f10 pre [a0] (.ret r) post = vc_law01_short (Tz g) pre a0 r post := by kernel_rfl
theorem hf_law01_short : Tryz.prog.funcs[f_law01_short]? = some Tryz.f10 := by kernel_rfl
theorem ok_law01_short : fnVcOK Tryz.prog Tryz.f10 = true := by kernel_rfl
theorem nt_law01_short : Nat.ble 1 Tryz.f10.ntmps = true := by kernel_rfl
theorem meetsH_law01_short {g : GG} {pre : List ABlk} {a0 : AV} {r : AV} {post : List PB} (hk : Nat.ble pre.length 24 = true) (h : vc_law01_short (Tz g) pre a0 r post) : MeetsH (Tz g) f_law01_short pre [a0] (.ret r) post :=
  meetsH_of_vc (C := Tz g) ann_law01_short hf_law01_short ok_law01_short nt_law01_short hk (pn := false) (Eq.mpr ((vcFn2_eq _ _ _ _ _ _ _ _).trans (vc_law01_short_eq g pre a0 r post)) h)
theorem meets_law01_short {g : GG} {a0 : D} {r : Res} (h : vc_law01_short (Tz g) [] (.d a0) r.val (r.bl.map .upd)) : Meets (Tz g) f_law01_short [a0] r := meetsH_law01_short rfl h
def ann_slices_Clone_l_api_Span_api_Span : Nat → List Nat := fun n => match n with  | _ => []
def vc_slices_Clone_l_api_Span_api_Span (_P : Ctx) (pre : List ABlk) (a0 : AV) (r : AV) (post : List PB) : Prop :=
  let h0 : Heap := numbered 0 pre
  BIN 998 .eql a0 .zc fun v4 =>
  COND v4
  (POST .zc h0 pre r post)
  (MKS T_api_Span 2 [] 48 h0 fun v5 h1 =>
  APP T_api_Span 2 v5 a0 64 h1 fun v7 h2 =>
  POST v7 h2 pre r post)
theorem vc_slices_Clone_l_api_Span_api_Span_eq (g : GG) (pre : List ABlk) (a0 : AV) (r : AV) (post : List PB) : vcFn2 (Tz g) false ann_slices_Clone_l_api_Span_api_Span Tryz.f49 pre [a0] (.ret r) post = vc_slices_Clone_l_api_Span_api_Span (Tz g) pre a0 r post := by kernel_rfl
theorem hf_slices_Clone_l_api_Span_api_Span : Tryz.prog.funcs[f_slices_Clone_l_api_Span_api_Span]? = some Tryz.f49 := by kernel_rfl
theorem ok_slices_Clone_l_api_Span_api_Span : fnVcOK Tryz.prog Tryz.f49 = true := by kernel_rfl
theorem nt_slices_Clone_l_api_Span_api_Span : Nat.ble 1 Tryz.f49.ntmps = true := by kernel_rfl
theorem meetsH_slices_Clone_l_api_Span_api_Span {g : GG} {pre : List ABlk} {a0 : AV} {r : AV} {post : List PB} (hk : Nat.ble pre.length 24 = true) (h : vc_slices_Clone_l_api_Span_api_Span (Tz g) pre a0 r post) : MeetsH (Tz g) f_slices_Clone_l_api_Span_api_Span pre [a0] (.ret r) post :=
  meetsH_of_vc (C := Tz g) ann_slices_Clone_l_api_Span_api_Span hf_slices_Clone_l_api_Span_api_Span ok_slices_Clone_l_api_Span_api_Span nt_slices_Clone_l_api_Span_api_Span hk (pn := false) (Eq.mpr ((vcFn2_eq _ _ _ _ _ _ _ _).trans (vc_slices_Clone_l_api_Span_api_Span_eq g pre a0 r post)) h)
end Go.Vc
