/- A part of the proof: general laws of a reading of the model by abstract data, or contracts of the functions that the law calls. -/
import Derived.KernelRfl
import Derived.Test.YtcmdbmcggfmmnaaGreatDoorProg
import Derived.Test.YtcmdbmcggfmmnaaGreatDoorVc11
set_option maxRecDepth 100000
namespace Go.Vc
open Go Go.Proofs Go.RowKit
abbrev f_law01_DifferSpoilt : FuncId := 4
abbrev f_law01_known : FuncId := 6
abbrev f_differ_Read : FuncId := 7
abbrev f_ref01_Plan : FuncId := 9
abbrev f_ref01_SamePlans : FuncId := 10
abbrev f_differ_Print : FuncId := 11
abbrev f_law01_short : FuncId := 12
abbrev f_ref01_SameSpans : FuncId := 32
abbrev f_differ_attempt : FuncId := 36
abbrev f_differ_Read_1 : FuncId := 37
abbrev f_differ_parsed : FuncId := 38
abbrev f_differ_isPlan : FuncId := 39
abbrev f_ref01_in : FuncId := 42
abbrev f_ref01_Start : FuncId := 43
abbrev f_differ_text : FuncId := 44
abbrev f_differ_in : FuncId := 47
abbrev f_slices_Clone_l_api_Span_api_Span : FuncId := 59
abbrev f_slices_Clone_l_int_int : FuncId := 66
abbrev f_strings_Split : FuncId := 75
abbrev f_differ_need : FuncId := 76
abbrev f_differ_given : FuncId := 77
abbrev f_differ_signed : FuncId := 78
abbrev f_slices_ContainsFunc_l_api_Span_api_Span : FuncId := 79
abbrev f_differ_isPlan_1 : FuncId := 80
abbrev f_differ_isStart : FuncId := 81
abbrev f_differ_told : FuncId := 83
abbrev f_strconv_Itoa : FuncId := 84
abbrev f_strings_Join : FuncId := 85
abbrev f_strings_CutPrefix : FuncId := 99
abbrev f_slices_IndexFunc_l_api_Span_api_Span : FuncId := 100
abbrev f_differ_words : FuncId := 101
abbrev f_differ_head_numbers : FuncId := 161
abbrev f_differ_start_numbers : FuncId := 162
abbrev T_int : TypeId := 3
abbrev T_uint8 : TypeId := 5
abbrev T_string : TypeId := 9
abbrev T_api_DifferPlan : TypeId := 25
abbrev T_api_Span : TypeId := 67
abbrev T_differ_noText : TypeId := 112
abbrev T_differ_head : TypeId := 121
abbrev T_differ_start : TypeId := 122
abbrev T_2_string : TypeId := 141
abbrev GG := {p : Nat × (World → Prop) // ∀ w w', p.2 w → Below p.1 w w' → p.2 w'}
noncomputable def Tz (g : GG) : Ctx := ⟨Tryz.prog, g.1.1, g.1.2, g.2, true⟩
end Go.Vc

namespace Go.Vc
open Go Go.Proofs Go.RowKit
def ann_differ_in : Nat → List Nat := fun n => match n with  | _ => []
def vc_differ_in (_P : Ctx) (pre : List ABlk) (a0 a1 a2 : AV) (r : AV) (post : List PB) : Prop :=
  let h0 : Heap := numbered 0 pre
  BIN 0 .geq a0 a1 fun v9 =>
  CONDG v9
  (BIN 0 .leq a0 a2 fun v13 =>
  POST v13 h0 pre r post)
  (POST (.d (.bool false)) h0 pre r post)
theorem vc_differ_in_eq (g : GG) (pre : List ABlk) (a0 a1 a2 : AV) (r : AV) (post : List PB) : vcFn2 (Tz g) false ann_differ_in Tryz.f47 pre [a0, a1, a2] (.ret r) post = vc_differ_in (Tz g) pre a0 a1 a2 r post := by kernel_rfl
theorem hf_differ_in : Tryz.prog.funcs[f_differ_in]? = some Tryz.f47 := by kernel_rfl
theorem ok_differ_in : fnVcOK Tryz.prog Tryz.f47 = true := by kernel_rfl
theorem nt_differ_in : Nat.ble 3 Tryz.f47.ntmps = true := by kernel_rfl
theorem meetsH_differ_in {g : GG} {pre : List ABlk} {a0 a1 a2 : AV} {r : AV} {post : List PB} (hk : Nat.ble pre.length 24 = true) (h : vc_differ_in (Tz g) pre a0 a1 a2 r post) : MeetsH (Tz g) f_differ_in pre [a0, a1, a2] (.ret r) post :=
  meetsH_of_vc (C := Tz g) ann_differ_in hf_differ_in ok_differ_in nt_differ_in hk (pn := false) (Eq.mpr ((vcFn2_eq _ _ _ _ _ _ _ _).trans (vc_differ_in_eq g pre a0 a1 a2 r post)) h)
theorem meets_differ_in {g : GG} {a0 a1 a2 : D} {r : Res} (h : vc_differ_in (Tz g) [] (.d a0) (.d a1) (.d a2) r.val (r.bl.map .upd)) : Meets (Tz g) f_differ_in [a0, a1, a2] r := meetsH_differ_in rfl h
def ann_differ_isStart : Nat → List Nat := fun n => match n with  | _ => []
def vc_differ_isStart (P : Ctx) (pre : List ABlk) (a0 : AV) (r : AV) (post : List PB) : Prop :=
  let h0 : Heap := numbered 0 pre
  BOX T_api_Span a0 24 h0 fun v1 h1 =>
  FADDR 0 v1 h1 fun v3 =>
  LOAD false 1 v3 h1 fun v4 =>
  CALL P f_differ_in [v4, (.d (.num .i64 (-99999))), (.d (.num .i64 99999))] 56 h1 (fun _ v5 h2 =>
  CONDG v5
  (FADDR 1 v1 h2 fun v7 =>
  LOAD false 1 v7 h2 fun v8 =>
  FADDR 0 v1 h2 fun v9 =>
  LOAD false 1 v9 h2 fun v10 =>
  CALL P f_differ_in [v8, v10, (.d (.num .i64 99999))] 104 h2 (fun _ v11 h4 =>
  CONDG v11
  (FADDR 1 v1 h4 fun v14 =>
  LOAD false 1 v14 h4 fun v15 =>
  FADDR 0 v1 h4 fun v16 =>
  LOAD false 1 v16 h4 fun v17 =>
  BIN 0 .add v17 (.d (.num .i64 6)) fun v18 =>
  BIN 0 .leq v15 v18 fun v19 =>
  POST v19 h4 pre r post)
  (POST (.d (.bool false)) h4 pre r post))
  (fun _ _ _ => False))
  (POST (.d (.bool false)) h2 pre r post))
  (fun _ _ _ => False)
theorem vc_differ_isStart_eq (g : GG) (pre : List ABlk) (a0 : AV) (r : AV) (post : List PB) : vcFn2 (Tz g) false ann_differ_isStart Tryz.f81 pre [a0] (.ret r) post = vc_differ_isStart (Tz g) pre a0 r post := by kernel_rfl
theorem hf_differ_isStart : Tryz.prog.funcs[f_differ_isStart]? = some Tryz.f81 := by kernel_rfl
theorem ok_differ_isStart : fnVcOK Tryz.prog Tryz.f81 = true := by kernel_rfl
theorem nt_differ_isStart : Nat.ble 1 Tryz.f81.ntmps = true := by kernel_rfl
theorem meetsH_differ_isStart {g : GG} {pre : List ABlk} {a0 : AV} {r : AV} {post : List PB} (hk : Nat.ble pre.length 24 = true) (h : vc_differ_isStart (Tz g) pre a0 r post) : MeetsH (Tz g) f_differ_isStart pre [a0] (.ret r) post :=
  meetsH_of_vc (C := Tz g) ann_differ_isStart hf_differ_isStart ok_differ_isStart nt_differ_isStart hk (pn := false) (Eq.mpr ((vcFn2_eq _ _ _ _ _ _ _ _).trans (vc_differ_isStart_eq g pre a0 r post)) h)
theorem meets_differ_isStart {g : GG} {a0 : D} {r : Res} (h : vc_differ_isStart (Tz g) [] (.d a0) r.val (r.bl.map .upd)) : Meets (Tz g) f_differ_isStart [a0] r := meetsH_differ_isStart rfl h
def ann_differ_isPlan : Nat → List Nat := fun n => match n with  | _ => []
def vc_differ_isPlan (P : Ctx) (pre : List ABlk) (a0 : AV) (r : AV) (post : List PB) : Prop :=
  let h0 : Heap := numbered 0 pre
  BOX T_api_DifferPlan a0 24 h0 fun v1 h1 =>
  FADDR 0 v1 h1 fun v3 =>
  LOAD false 1 v3 h1 fun v4 =>
  LEN false v4 h1 fun v5 =>
  CALL P f_differ_in [v5, (.d (.num .i64 1)), (.d (.num .i64 4))] 64 h1 (fun _ v6 h2 =>
  CONDG v6
  (FADDR 1 v1 h2 fun v8 =>
  LOAD false 1 v8 h2 fun v9 =>
  CALL P f_differ_in [v9, (.d (.num .i64 1)), (.d (.num .i64 12))] 96 h2 (fun _ v10 h4 =>
  CONDG v10
  (FADDR 2 v1 h4 fun v13 =>
  LOAD false 1 v13 h4 fun v14 =>
  CALL P f_differ_in [v14, (.d (.num .i64 0)), (.d (.num .i64 3))] 136 h4 (fun _ v15 h6 =>
  CONDG v15
  (FADDR 0 v1 h6 fun v18 =>
  LOAD false 1 v18 h6 fun v19 =>
  CALL P f_slices_ContainsFunc_l_api_Span_api_Span [v19, (.d (.fn f_differ_isPlan_1 [] []))] 176 h6 (fun _ v20 h8 =>
  NOT v20 fun v21 =>
  POST v21 h8 pre r post)
  (fun _ _ _ => False))
  (POST (.d (.bool false)) h6 pre r post))
  (fun _ _ _ => False))
  (POST (.d (.bool false)) h4 pre r post))
  (fun _ _ _ => False))
  (POST (.d (.bool false)) h2 pre r post))
  (fun _ _ _ => False)
theorem vc_differ_isPlan_eq (g : GG) (pre : List ABlk) (a0 : AV) (r : AV) (post : List PB) : vcFn2 (Tz g) false ann_differ_isPlan Tryz.f39 pre [a0] (.ret r) post = vc_differ_isPlan (Tz g) pre a0 r post := by kernel_rfl
theorem hf_differ_isPlan : Tryz.prog.funcs[f_differ_isPlan]? = some Tryz.f39 := by kernel_rfl
theorem ok_differ_isPlan : fnVcOK Tryz.prog Tryz.f39 = true := by kernel_rfl
theorem nt_differ_isPlan : Nat.ble 1 Tryz.f39.ntmps = true := by kernel_rfl
theorem meetsH_differ_isPlan {g : GG} {pre : List ABlk} {a0 : AV} {r : AV} {post : List PB} (hk : Nat.ble pre.length 24 = true) (h : vc_differ_isPlan (Tz g) pre a0 r post) : MeetsH (Tz g) f_differ_isPlan pre [a0] (.ret r) post :=
  meetsH_of_vc (C := Tz g) ann_differ_isPlan hf_differ_isPlan ok_differ_isPlan nt_differ_isPlan hk (pn := false) (Eq.mpr ((vcFn2_eq _ _ _ _ _ _ _ _).trans (vc_differ_isPlan_eq g pre a0 r post)) h)
theorem meets_differ_isPlan {g : GG} {a0 : D} {r : Res} (h : vc_differ_isPlan (Tz g) [] (.d a0) r.val (r.bl.map .upd)) : Meets (Tz g) f_differ_isPlan [a0] r := meetsH_differ_isPlan rfl h
def ann_differ_isPlan_1 : Nat → List Nat := fun n => match n with  | _ => []
def vc_differ_isPlan_1 (P : Ctx) (pre : List ABlk) (a0 : AV) (r : AV) (post : List PB) : Prop :=
  let h0 : Heap := numbered 0 pre
  BOX T_api_Span a0 24 h0 fun v1 h1 =>
  LOAD true 2 v1 h1 fun v3 =>
  CALL P f_differ_isStart [v3] 48 h1 (fun _ v4 h2 =>
  NOT v4 fun v5 =>
  POST v5 h2 pre r post)
  (fun _ _ _ => False)
theorem vc_differ_isPlan_1_eq (g : GG) (pre : List ABlk) (a0 : AV) (r : AV) (post : List PB) : vcFn2 (Tz g) false ann_differ_isPlan_1 Tryz.f80 pre [a0] (.ret r) post = vc_differ_isPlan_1 (Tz g) pre a0 r post := by kernel_rfl
theorem hf_differ_isPlan_1 : Tryz.prog.funcs[f_differ_isPlan_1]? = some Tryz.f80 := by kernel_rfl
theorem ok_differ_isPlan_1 : fnVcOK Tryz.prog Tryz.f80 = true := by kernel_rfl
theorem nt_differ_isPlan_1 : Nat.ble 1 Tryz.f80.ntmps = true := by kernel_rfl
theorem meetsH_differ_isPlan_1 {g : GG} {pre : List ABlk} {a0 : AV} {r : AV} {post : List PB} (hk : Nat.ble pre.length 24 = true) (h : vc_differ_isPlan_1 (Tz g) pre a0 r post) : MeetsH (Tz g) f_differ_isPlan_1 pre [a0] (.ret r) post :=
  meetsH_of_vc (C := Tz g) ann_differ_isPlan_1 hf_differ_isPlan_1 ok_differ_isPlan_1 nt_differ_isPlan_1 hk (pn := false) (Eq.mpr ((vcFn2_eq _ _ _ _ _ _ _ _).trans (vc_differ_isPlan_1_eq g pre a0 r post)) h)
theorem meets_differ_isPlan_1 {g : GG} {a0 : D} {r : Res} (h : vc_differ_isPlan_1 (Tz g) [] (.d a0) r.val (r.bl.map .upd)) : Meets (Tz g) f_differ_isPlan_1 [a0] r := meetsH_differ_isPlan_1 rfl h
def ann_slices_IndexFunc_l_api_Span_api_Span : Nat → List Nat := fun n => match n with | 2 => [0, 1, 7, 8] | _ => []
def vc_slices_IndexFunc_l_api_Span_api_Span (P : Ctx) (pre : List ABlk) (a0 a1 : AV) (r : AV) (post : List PB) : Prop :=
  let h0 : Heap := numbered 0 pre
  LEN false a0 h0 fun v7 =>
  LOOP [a0, a1, v7, (.d (.num .i64 0))] h0 56 fun vs1 h2 next1 =>
  BIN 0 .lss (nth vs1 3) (nth vs1 2) fun v9 =>
  COND v9
  (IADDR 2 T_api_Span (nth vs1 0) (nth vs1 3) h2 fun v14 =>
  LOAD true 2 v14 h2 fun v15 =>
  CALLV P (nth vs1 1) [v15] 128 h2 (fun _ v16 h3 =>
  COND v16
  (POST (nth vs1 3) h3 pre r post)
  (BIN 0 .add (nth vs1 3) (.d (.num .i64 1)) fun v18 =>
  next1 [(nth vs1 0), (nth vs1 1), (nth vs1 2), v18] h3))
  (fun _ _ _ => False))
  (POST (.d (.num .i64 (-1))) h2 pre r post)
theorem vc_slices_IndexFunc_l_api_Span_api_Span_eq (g : GG) (pre : List ABlk) (a0 a1 : AV) (r : AV) (post : List PB) : vcFn2 (Tz g) false ann_slices_IndexFunc_l_api_Span_api_Span Tryz.f100 pre [a0, a1] (.ret r) post = vc_slices_IndexFunc_l_api_Span_api_Span (Tz g) pre a0 a1 r post := by kernel_rfl
theorem hf_slices_IndexFunc_l_api_Span_api_Span : Tryz.prog.funcs[f_slices_IndexFunc_l_api_Span_api_Span]? = some Tryz.f100 := by kernel_rfl
theorem ok_slices_IndexFunc_l_api_Span_api_Span : fnVcOK Tryz.prog Tryz.f100 = true := by kernel_rfl
theorem nt_slices_IndexFunc_l_api_Span_api_Span : Nat.ble 2 Tryz.f100.ntmps = true := by kernel_rfl
theorem meetsH_slices_IndexFunc_l_api_Span_api_Span {g : GG} {pre : List ABlk} {a0 a1 : AV} {r : AV} {post : List PB} (hk : Nat.ble pre.length 24 = true) (h : vc_slices_IndexFunc_l_api_Span_api_Span (Tz g) pre a0 a1 r post) : MeetsH (Tz g) f_slices_IndexFunc_l_api_Span_api_Span pre [a0, a1] (.ret r) post :=
  meetsH_of_vc (C := Tz g) ann_slices_IndexFunc_l_api_Span_api_Span hf_slices_IndexFunc_l_api_Span_api_Span ok_slices_IndexFunc_l_api_Span_api_Span nt_slices_IndexFunc_l_api_Span_api_Span hk (pn := false) (Eq.mpr ((vcFn2_eq _ _ _ _ _ _ _ _).trans (vc_slices_IndexFunc_l_api_Span_api_Span_eq g pre a0 a1 r post)) h)
theorem meets_slices_IndexFunc_l_api_Span_api_Span {g : GG} {a0 a1 : D} {r : Res} (h : vc_slices_IndexFunc_l_api_Span_api_Span (Tz g) [] (.d a0) (.d a1) r.val (r.bl.map .upd)) : Meets (Tz g) f_slices_IndexFunc_l_api_Span_api_Span [a0, a1] r := meetsH_slices_IndexFunc_l_api_Span_api_Span rfl h
def ann_slices_ContainsFunc_l_api_Span_api_Span : Nat → List Nat := fun n => match n with  | _ => []
def vc_slices_ContainsFunc_l_api_Span_api_Span (P : Ctx) (pre : List ABlk) (a0 a1 : AV) (r : AV) (post : List PB) : Prop :=
  let h0 : Heap := numbered 0 pre
  CALL P f_slices_IndexFunc_l_api_Span_api_Span [a0, a1] 48 h0 (fun _ v7 h1 =>
  BIN 0 .geq v7 (.d (.num .i64 0)) fun v8 =>
  POST v8 h1 pre r post)
  (fun _ _ _ => False)
theorem vc_slices_ContainsFunc_l_api_Span_api_Span_eq (g : GG) (pre : List ABlk) (a0 a1 : AV) (r : AV) (post : List PB) : vcFn2 (Tz g) false ann_slices_ContainsFunc_l_api_Span_api_Span Tryz.f79 pre [a0, a1] (.ret r) post = vc_slices_ContainsFunc_l_api_Span_api_Span (Tz g) pre a0 a1 r post := by kernel_rfl
theorem hf_slices_ContainsFunc_l_api_Span_api_Span : Tryz.prog.funcs[f_slices_ContainsFunc_l_api_Span_api_Span]? = some Tryz.f79 := by kernel_rfl
theorem ok_slices_ContainsFunc_l_api_Span_api_Span : fnVcOK Tryz.prog Tryz.f79 = true := by kernel_rfl
theorem nt_slices_ContainsFunc_l_api_Span_api_Span : Nat.ble 2 Tryz.f79.ntmps = true := by kernel_rfl
theorem meetsH_slices_ContainsFunc_l_api_Span_api_Span {g : GG} {pre : List ABlk} {a0 a1 : AV} {r : AV} {post : List PB} (hk : Nat.ble pre.length 24 = true) (h : vc_slices_ContainsFunc_l_api_Span_api_Span (Tz g) pre a0 a1 r post) : MeetsH (Tz g) f_slices_ContainsFunc_l_api_Span_api_Span pre [a0, a1] (.ret r) post :=
  meetsH_of_vc (C := Tz g) ann_slices_ContainsFunc_l_api_Span_api_Span hf_slices_ContainsFunc_l_api_Span_api_Span ok_slices_ContainsFunc_l_api_Span_api_Span nt_slices_ContainsFunc_l_api_Span_api_Span hk (pn := false) (Eq.mpr ((vcFn2_eq _ _ _ _ _ _ _ _).trans (vc_slices_ContainsFunc_l_api_Span_api_Span_eq g pre a0 a1 r post)) h)
theorem meets_slices_ContainsFunc_l_api_Span_api_Span {g : GG} {a0 a1 : D} {r : Res} (h : vc_slices_ContainsFunc_l_api_Span_api_Span (Tz g) [] (.d a0) (.d a1) r.val (r.bl.map .upd)) : Meets (Tz g) f_slices_ContainsFunc_l_api_Span_api_Span [a0, a1] r := meetsH_slices_ContainsFunc_l_api_Span_api_Span rfl h
def ann_slices_Clone_l_int_int : Nat → List Nat := fun n => match n with  | _ => []
def vc_slices_Clone_l_int_int (_P : Ctx) (pre : List ABlk) (a0 : AV) (r : AV) (post : List PB) : Prop :=
  let h0 : Heap := numbered 0 pre
  BIN 998 .eql a0 .zc fun v4 =>
  COND v4
  (POST .zc h0 pre r post)
  (MKS T_int 1 [] 48 h0 fun v5 h1 =>
  APP T_int 1 v5 a0 64 h1 fun v7 h2 =>
  POST v7 h2 pre r post)
theorem vc_slices_Clone_l_int_int_eq (g : GG) (pre : List ABlk) (a0 : AV) (r : AV) (post : List PB) : vcFn2 (Tz g) false ann_slices_Clone_l_int_int Tryz.f66 pre [a0] (.ret r) post = vc_slices_Clone_l_int_int (Tz g) pre a0 r post := by kernel_rfl
theorem hf_slices_Clone_l_int_int : Tryz.prog.funcs[f_slices_Clone_l_int_int]? = some Tryz.f66 := by kernel_rfl
theorem ok_slices_Clone_l_int_int : fnVcOK Tryz.prog Tryz.f66 = true := by kernel_rfl
theorem nt_slices_Clone_l_int_int : Nat.ble 1 Tryz.f66.ntmps = true := by kernel_rfl
theorem meetsH_slices_Clone_l_int_int {g : GG} {pre : List ABlk} {a0 : AV} {r : AV} {post : List PB} (hk : Nat.ble pre.length 24 = true) (h : vc_slices_Clone_l_int_int (Tz g) pre a0 r post) : MeetsH (Tz g) f_slices_Clone_l_int_int pre [a0] (.ret r) post :=
  meetsH_of_vc (C := Tz g) ann_slices_Clone_l_int_int hf_slices_Clone_l_int_int ok_slices_Clone_l_int_int nt_slices_Clone_l_int_int hk (pn := false) (Eq.mpr ((vcFn2_eq _ _ _ _ _ _ _ _).trans (vc_slices_Clone_l_int_int_eq g pre a0 r post)) h)
def ann_ref01_in : Nat → List Nat := fun n => match n with  | _ => []
def vc_ref01_in (_P : Ctx) (pre : List ABlk) (a0 a1 a2 : AV) (r : AV) (post : List PB) : Prop :=
  let h0 : Heap := numbered 0 pre
  BIN 0 .geq a0 a1 fun v9 =>
  CONDG v9
  (BIN 0 .leq a0 a2 fun v13 =>
  POST v13 h0 pre r post)
  (POST (.d (.bool false)) h0 pre r post)
theorem vc_ref01_in_eq (g : GG) (pre : List ABlk) (a0 a1 a2 : AV) (r : AV) (post : List PB) : vcFn2 (Tz g) false ann_ref01_in Tryz.f42 pre [a0, a1, a2] (.ret r) post = vc_ref01_in (Tz g) pre a0 a1 a2 r post := by kernel_rfl
theorem hf_ref01_in : Tryz.prog.funcs[f_ref01_in]? = some Tryz.f42 := by kernel_rfl
theorem ok_ref01_in : fnVcOK Tryz.prog Tryz.f42 = true := by kernel_rfl
theorem nt_ref01_in : Nat.ble 3 Tryz.f42.ntmps = true := by kernel_rfl
theorem meetsH_ref01_in {g : GG} {pre : List ABlk} {a0 a1 a2 : AV} {r : AV} {post : List PB} (hk : Nat.ble pre.length 24 = true) (h : vc_ref01_in (Tz g) pre a0 a1 a2 r post) : MeetsH (Tz g) f_ref01_in pre [a0, a1, a2] (.ret r) post :=
  meetsH_of_vc (C := Tz g) ann_ref01_in hf_ref01_in ok_ref01_in nt_ref01_in hk (pn := false) (Eq.mpr ((vcFn2_eq _ _ _ _ _ _ _ _).trans (vc_ref01_in_eq g pre a0 a1 a2 r post)) h)
theorem meets_ref01_in {g : GG} {a0 a1 a2 : D} {r : Res} (h : vc_ref01_in (Tz g) [] (.d a0) (.d a1) (.d a2) r.val (r.bl.map .upd)) : Meets (Tz g) f_ref01_in [a0, a1, a2] r := meetsH_ref01_in rfl h
def ann_ref01_Start : Nat → List Nat := fun n => match n with  | _ => []
def vc_ref01_Start (P : Ctx) (pre : List ABlk) (a0 : AV) (r : AV) (post : List PB) : Prop :=
  let h0 : Heap := numbered 0 pre
  BOX T_api_Span a0 24 h0 fun v1 h1 =>
  FADDR 0 v1 h1 fun v3 =>
  LOAD false 1 v3 h1 fun v4 =>
  CALL P f_ref01_in [v4, (.d (.num .i64 (-99999))), (.d (.num .i64 99999))] 56 h1 (fun _ v5 h2 =>
  CONDG v5
  (FADDR 1 v1 h2 fun v7 =>
  LOAD false 1 v7 h2 fun v8 =>
  FADDR 0 v1 h2 fun v9 =>
  LOAD false 1 v9 h2 fun v10 =>
  FADDR 0 v1 h2 fun v11 =>
  LOAD false 1 v11 h2 fun v12 =>
  BIN 0 .add v12 (.d (.num .i64 6)) fun v13 =>
  MINK (.d (.num .i64 99999)) v13 fun v14 =>
  CALL P f_ref01_in [v8, v10, v14] 136 h2 (fun _ v15 h4 =>
  POST v15 h4 pre r post)
  (fun _ _ _ => False))
  (POST (.d (.bool false)) h2 pre r post))
  (fun _ _ _ => False)
theorem vc_ref01_Start_eq (g : GG) (pre : List ABlk) (a0 : AV) (r : AV) (post : List PB) : vcFn2 (Tz g) false ann_ref01_Start Tryz.f43 pre [a0] (.ret r) post = vc_ref01_Start (Tz g) pre a0 r post := by kernel_rfl
theorem hf_ref01_Start : Tryz.prog.funcs[f_ref01_Start]? = some Tryz.f43 := by kernel_rfl
theorem ok_ref01_Start : fnVcOK Tryz.prog Tryz.f43 = true := by kernel_rfl
theorem nt_ref01_Start : Nat.ble 1 Tryz.f43.ntmps = true := by kernel_rfl
theorem meetsH_ref01_Start {g : GG} {pre : List ABlk} {a0 : AV} {r : AV} {post : List PB} (hk : Nat.ble pre.length 24 = true) (h : vc_ref01_Start (Tz g) pre a0 r post) : MeetsH (Tz g) f_ref01_Start pre [a0] (.ret r) post :=
  meetsH_of_vc (C := Tz g) ann_ref01_Start hf_ref01_Start ok_ref01_Start nt_ref01_Start hk (pn := false) (Eq.mpr ((vcFn2_eq _ _ _ _ _ _ _ _).trans (vc_ref01_Start_eq g pre a0 r post)) h)
theorem meets_ref01_Start {g : GG} {a0 : D} {r : Res} (h : vc_ref01_Start (Tz g) [] (.d a0) r.val (r.bl.map .upd)) : Meets (Tz g) f_ref01_Start [a0] r := meetsH_ref01_Start rfl h
def ann_ref01_Plan : Nat → List Nat := fun n => match n with | 4 => [1, 3] | _ => []
def vc_ref01_Plan (P : Ctx) (pre : List ABlk) (a0 : AV) (r : AV) (post : List PB) : Prop :=
  let h0 : Heap := numbered 0 pre
  BOX T_api_DifferPlan a0 24 h0 fun v1 h1 =>
  FADDR 0 v1 h1 fun v4 =>
  LOAD false 1 v4 h1 fun v5 =>
  LEN false v5 h1 fun v6 =>
  CALL P f_ref01_in [v6, (.d (.num .i64 1)), (.d (.num .i64 4))] 64 h1 (fun _ v7 h2 =>
  NOT v7 fun v8 =>
  CONDG v8
  (POST (.d (.bool false)) h2 pre r post)
  (FADDR 1 v1 h2 fun v10 =>
  LOAD false 1 v10 h2 fun v11 =>
  CALL P f_ref01_in [v11, (.d (.num .i64 1)), (.d (.num .i64 12))] 104 h2 (fun _ v12 h4 =>
  NOT v12 fun v13 =>
  CONDG v13
  (POST (.d (.bool false)) h4 pre r post)
  (FADDR 2 v1 h4 fun v16 =>
  LOAD false 1 v16 h4 fun v17 =>
  CALL P f_ref01_in [v17, (.d (.num .i64 0)), (.d (.num .i64 3))] 152 h4 (fun _ v18 h6 =>
  NOT v18 fun v19 =>
  COND v19
  (POST (.d (.bool false)) h6 pre r post)
  (LOOP [v1, (.d (.num .i64 0))] h6 184 fun vs8 h9 next8 =>
  FADDR 0 (nth vs8 0) h9 fun v22 =>
  LOAD false 1 v22 h9 fun v23 =>
  LEN false v23 h9 fun v24 =>
  BIN 0 .lss (nth vs8 1) v24 fun v25 =>
  COND v25
  (FADDR 0 (nth vs8 0) h9 fun v28 =>
  LOAD false 1 v28 h9 fun v29 =>
  IADDR 2 T_api_Span v29 (nth vs8 1) h9 fun v31 =>
  LOAD true 2 v31 h9 fun v32 =>
  CALL P f_ref01_Start [v32] 272 h9 (fun _ v33 h10 =>
  NOT v33 fun v34 =>
  COND v34
  (POST (.d (.bool false)) h10 pre r post)
  (BIN 0 .add (nth vs8 1) (.d (.num .i64 1)) fun v27 =>
  next8 [(nth vs8 0), v27] h10))
  (fun _ _ _ => False))
  (POST (.d (.bool true)) h9 pre r post)))
  (fun _ _ _ => False)))
  (fun _ _ _ => False)))
  (fun _ _ _ => False)
theorem vc_ref01_Plan_eq (g : GG) (pre : List ABlk) (a0 : AV) (r : AV) (post : List PB) : vcFn2 (Tz g) false ann_ref01_Plan Tryz.f9 pre [a0] (.ret r) post = vc_ref01_Plan (Tz g) pre a0 r post := by kernel_rfl
theorem hf_ref01_Plan : Tryz.prog.funcs[f_ref01_Plan]? = some Tryz.f9 := by kernel_rfl
theorem ok_ref01_Plan : fnVcOK Tryz.prog Tryz.f9 = true := by kernel_rfl
theorem nt_ref01_Plan : Nat.ble 1 Tryz.f9.ntmps = true := by kernel_rfl
theorem meetsH_ref01_Plan {g : GG} {pre : List ABlk} {a0 : AV} {r : AV} {post : List PB} (hk : Nat.ble pre.length 24 = true) (h : vc_ref01_Plan (Tz g) pre a0 r post) : MeetsH (Tz g) f_ref01_Plan pre [a0] (.ret r) post :=
  meetsH_of_vc (C := Tz g) ann_ref01_Plan hf_ref01_Plan ok_ref01_Plan nt_ref01_Plan hk (pn := false) (Eq.mpr ((vcFn2_eq _ _ _ _ _ _ _ _).trans (vc_ref01_Plan_eq g pre a0 r post)) h)
theorem meets_ref01_Plan {g : GG} {a0 : D} {r : Res} (h : vc_ref01_Plan (Tz g) [] (.d a0) r.val (r.bl.map .upd)) : Meets (Tz g) f_ref01_Plan [a0] r := meetsH_ref01_Plan rfl h
def ann_law01_short : Nat → List Nat := fun n => match n with  | _ => []
def vc_law01_short (_P : Ctx) (pre : List ABlk) (a0 : AV) (r : AV) (post : List PB) : Prop :=
  let h0 : Heap := numbered 0 pre
  BOX T_api_DifferPlan a0 24 h0 fun v1 h1 =>
  FADDR 0 v1 h1 fun v3 =>
  LOAD false 1 v3 h1 fun v4 =>
  LEN false v4 h1 fun v5 =>
  BIN 0 .leq v5 (.d (.num .i64 6)) fun v6 =>
  POST v6 h1 pre r post
theorem vc_law01_short_eq (g : GG) (pre : List ABlk) (a0 : AV) (r : AV) (post : List PB) : vcFn2 (Tz g) false ann_law01_short Tryz.f12 pre [a0] (.ret r) post = vc_law01_short (Tz g) pre a0 r post := by kernel_rfl
theorem hf_law01_short : Tryz.prog.funcs[f_law01_short]? = some Tryz.f12 := by kernel_rfl
theorem ok_law01_short : fnVcOK Tryz.prog Tryz.f12 = true := by kernel_rfl
theorem nt_law01_short : Nat.ble 1 Tryz.f12.ntmps = true := by kernel_rfl
theorem meetsH_law01_short {g : GG} {pre : List ABlk} {a0 : AV} {r : AV} {post : List PB} (hk : Nat.ble pre.length 24 = true) (h : vc_law01_short (Tz g) pre a0 r post) : MeetsH (Tz g) f_law01_short pre [a0] (.ret r) post :=
  meetsH_of_vc (C := Tz g) ann_law01_short hf_law01_short ok_law01_short nt_law01_short hk (pn := false) (Eq.mpr ((vcFn2_eq _ _ _ _ _ _ _ _).trans (vc_law01_short_eq g pre a0 r post)) h)
theorem meets_law01_short {g : GG} {a0 : D} {r : Res} (h : vc_law01_short (Tz g) [] (.d a0) r.val (r.bl.map .upd)) : Meets (Tz g) f_law01_short [a0] r := meetsH_law01_short rfl h
def ann_slices_Clone_l_api_Span_api_Span : Nat → List Nat := fun n => match n with  | _ => []
def vc_slices_Clone_l_api_Span_api_Span (_P : Ctx) (pre : List ABlk) (a0 : AV) (r : AV) (post : List PB) : Prop :=
  let h0 : Heap := numbered 0 pre
  BIN 998 .eql a0 .zc fun v4 =>
  COND v4
  (POST .zc h0 pre r post)
  (MKS T_api_Span 2 [] 48 h0 fun v5 h1 =>
  APP T_api_Span 2 v5 a0 64 h1 fun v7 h2 =>
  POST v7 h2 pre r post)
theorem vc_slices_Clone_l_api_Span_api_Span_eq (g : GG) (pre : List ABlk) (a0 : AV) (r : AV) (post : List PB) : vcFn2 (Tz g) false ann_slices_Clone_l_api_Span_api_Span Tryz.f59 pre [a0] (.ret r) post = vc_slices_Clone_l_api_Span_api_Span (Tz g) pre a0 r post := by kernel_rfl
theorem hf_slices_Clone_l_api_Span_api_Span : Tryz.prog.funcs[f_slices_Clone_l_api_Span_api_Span]? = some Tryz.f59 := by kernel_rfl
theorem ok_slices_Clone_l_api_Span_api_Span : fnVcOK Tryz.prog Tryz.f59 = true := by kernel_rfl
theorem nt_slices_Clone_l_api_Span_api_Span : Nat.ble 1 Tryz.f59.ntmps = true := by kernel_rfl
theorem meetsH_slices_Clone_l_api_Span_api_Span {g : GG} {pre : List ABlk} {a0 : AV} {r : AV} {post : List PB} (hk : Nat.ble pre.length 24 = true) (h : vc_slices_Clone_l_api_Span_api_Span (Tz g) pre a0 r post) : MeetsH (Tz g) f_slices_Clone_l_api_Span_api_Span pre [a0] (.ret r) post :=
  meetsH_of_vc (C := Tz g) ann_slices_Clone_l_api_Span_api_Span hf_slices_Clone_l_api_Span_api_Span ok_slices_Clone_l_api_Span_api_Span nt_slices_Clone_l_api_Span_api_Span hk (pn := false) (Eq.mpr ((vcFn2_eq _ _ _ _ _ _ _ _).trans (vc_slices_Clone_l_api_Span_api_Span_eq g pre a0 r post)) h)
def ann_ref01_SameSpans : Nat → List Nat := fun n => match n with | 4 => [0, 1, 5] | _ => []
def vc_ref01_SameSpans (_P : Ctx) (pre : List ABlk) (a0 a1 : AV) (r : AV) (post : List PB) : Prop :=
  let h0 : Heap := numbered 0 pre
  LEN false a0 h0 fun v7 =>
  LEN false a1 h0 fun v9 =>
  BIN 0 .neq v7 v9 fun v10 =>
  COND v10
  (POST (.d (.bool false)) h0 pre r post)
  (LOOP [a0, a1, (.d (.num .i64 0))] h0 80 fun vs1 h2 next1 =>
  LEN false (nth vs1 0) h2 fun v13 =>
  BIN 0 .lss (nth vs1 2) v13 fun v14 =>
  COND v14
  (IADDR 2 T_api_Span (nth vs1 0) (nth vs1 2) h2 fun v19 =>
  LOAD true 2 v19 h2 fun v20 =>
  IADDR 2 T_api_Span (nth vs1 1) (nth vs1 2) h2 fun v23 =>
  LOAD true 2 v23 h2 fun v24 =>
  BIN 1002 .neq v20 v24 fun v25 =>
  ORDX [] [0, 0, 3, 7, 0, 0, 48, 112, 255] [(2, wr h2 h2, (ids (nth vs1 0))), (3, wr h2 h2, (ids v19)), (6, wr h2 h2, (ids (nth vs1 1))), (7, wr h2 h2, (ids v23))] ∧
  COND v25
  (POST (.d (.bool false)) h2 pre r post)
  (BIN 0 .add (nth vs1 2) (.d (.num .i64 1)) fun v16 =>
  next1 [(nth vs1 0), (nth vs1 1), v16] h2))
  (POST (.d (.bool true)) h2 pre r post))
theorem vc_ref01_SameSpans_eq (g : GG) (pre : List ABlk) (a0 a1 : AV) (r : AV) (post : List PB) : vcFn2 (Tz g) false ann_ref01_SameSpans Tryz.f32 pre [a0, a1] (.ret r) post = vc_ref01_SameSpans (Tz g) pre a0 a1 r post := by kernel_rfl
theorem hf_ref01_SameSpans : Tryz.prog.funcs[f_ref01_SameSpans]? = some Tryz.f32 := by kernel_rfl
theorem ok_ref01_SameSpans : fnVcOK Tryz.prog Tryz.f32 = true := by kernel_rfl
theorem nt_ref01_SameSpans : Nat.ble 2 Tryz.f32.ntmps = true := by kernel_rfl
theorem meetsH_ref01_SameSpans {g : GG} {pre : List ABlk} {a0 a1 : AV} {r : AV} {post : List PB} (hk : Nat.ble pre.length 24 = true) (h : vc_ref01_SameSpans (Tz g) pre a0 a1 r post) : MeetsH (Tz g) f_ref01_SameSpans pre [a0, a1] (.ret r) post :=
  meetsH_of_vc (C := Tz g) ann_ref01_SameSpans hf_ref01_SameSpans ok_ref01_SameSpans nt_ref01_SameSpans hk (pn := false) (Eq.mpr ((vcFn2_eq _ _ _ _ _ _ _ _).trans (vc_ref01_SameSpans_eq g pre a0 a1 r post)) h)
theorem meets_ref01_SameSpans {g : GG} {a0 a1 : D} {r : Res} (h : vc_ref01_SameSpans (Tz g) [] (.d a0) (.d a1) r.val (r.bl.map .upd)) : Meets (Tz g) f_ref01_SameSpans [a0, a1] r := meetsH_ref01_SameSpans rfl h
end Go.Vc
