/- A part of the proof: general laws of a reading of the model by abstract data, or contracts of the functions that the law calls. -/
import Derived.KernelRfl
import Derived.Test.YtkefjhemmdolaaaGreatProg
import Derived.Test.YtkefjhemmdolaaaGreatVc11
set_option maxRecDepth 100000
namespace Go.Vc
open Go Go.Proofs Go.RowKit
abbrev f_top_TopSmooth : FuncId := 5
abbrev f_top_known11 : FuncId := 7
abbrev f_top_of11 : FuncId := 9
abbrev f_ref05_Table : FuncId := 10
abbrev f_step_Keep : FuncId := 11
abbrev f_ref05_Kept : FuncId := 12
abbrev f_round_To : FuncId := 14
abbrev f_ref05_Off : FuncId := 21
abbrev f_column_Jumps : FuncId := 22
abbrev f_step_Word : FuncId := 23
abbrev f_step_Doubts : FuncId := 24
abbrev f_ref01_Listed : FuncId := 25
abbrev f_copies_Fewest : FuncId := 33
abbrev f_differ_table_values : FuncId := 40
abbrev f_ref05_Value : FuncId := 41
abbrev f_ref05_in : FuncId := 42
abbrev f_ref04_Rule : FuncId := 43
abbrev f_step_isTable : FuncId := 44
abbrev f_step_in : FuncId := 45
abbrev f_step_keep : FuncId := 46
abbrev f_step_isKept : FuncId := 47
abbrev f_step_tableOf : FuncId := 48
abbrev f_step_table_around : FuncId := 49
abbrev f_step_table_off : FuncId := 50
abbrev f_round_in : FuncId := 51
abbrev f_round_isRule : FuncId := 52
abbrev f_round_ruler_rules : FuncId := 53
abbrev f_column_isSheet : FuncId := 68
abbrev f_column_sheetOf : FuncId := 69
abbrev f_column_sheet_jumping : FuncId := 70
abbrev f_step_table_surely : FuncId := 71
abbrev f_step_table_may : FuncId := 72
abbrev f_step_table_doubts : FuncId := 73
abbrev f_copies_isTree : FuncId := 85
abbrev f_copies_readingOf : FuncId := 86
abbrev f_copies_reading_errors : FuncId := 87
abbrev f_slices_ContainsFunc_l_api_Span_api_Span : FuncId := 92
abbrev f_step_isRule : FuncId := 96
abbrev f_step_isTable_1 : FuncId := 97
abbrev f_slices_BinarySearch_l_int_int : FuncId := 98
abbrev f_step_table_figure : FuncId := 99
abbrev f_step_table_end : FuncId := 100
abbrev f_round_ruler_down : FuncId := 101
abbrev f_round_ruler_up : FuncId := 102
abbrev f_round_ruler_near : FuncId := 103
abbrev f_round_ruler_even : FuncId := 104
abbrev f_slices_ContainsFunc_l_int_int : FuncId := 123
abbrev f_column_in : FuncId := 131
abbrev f_column_isSheet_1 : FuncId := 132
abbrev f_column_differences : FuncId := 133
abbrev f_column_sheet_jumps : FuncId := 134
abbrev f_step_attempt : FuncId := 135
abbrev f_step_table_mustBeSure : FuncId := 136
abbrev f_step_table_can : FuncId := 137
abbrev f_differ_end : FuncId := 138
abbrev f_slices_Clone_l_int_int : FuncId := 140
abbrev f_copies_reading_least : FuncId := 149
abbrev f_slices_IndexFunc_l_api_Span_api_Span : FuncId := 153
abbrev f_step_sum : FuncId := 157
abbrev f_step_bounds_low : FuncId := 158
abbrev f_step_bounds_high : FuncId := 159
abbrev f_slices_IndexFunc_l_int_int : FuncId := 170
abbrev f_copies_fits : FuncId := 178
abbrev f_copies_reading_fewest : FuncId := 179
abbrev f_copies_sum : FuncId := 180
abbrev f_copies_reading_step : FuncId := 188
abbrev T_int : TypeId := 3
abbrev T_api_Span : TypeId := 25
abbrev T_l_int : TypeId := 29
abbrev T_api_StepTable : TypeId := 34
abbrev T_api_ColumnSheet : TypeId := 72
abbrev T_api_CopiesTree : TypeId := 92
abbrev T_step_table : TypeId := 106
abbrev T_step_pair : TypeId := 109
abbrev T_5_func_int_int : TypeId := 113
abbrev T_round_ruler : TypeId := 115
abbrev T_column_sheet : TypeId := 134
abbrev T_copies_reading : TypeId := 152
abbrev T_api_CopiesCopy : TypeId := 156
abbrev T_copies_spot : TypeId := 193
abbrev T_step_bounds : TypeId := 200
abbrev T_2_func_step_bounds_int : TypeId := 201
abbrev T_step_wrong : TypeId := 224
abbrev GG := {p : Nat × (World → Prop) // ∀ w w', p.2 w → Below p.1 w w' → p.2 w'}
noncomputable def Tz (g : GG) : Ctx := ⟨Tryz.prog, g.1.1, g.1.2, g.2, true⟩
end Go.Vc

namespace Go.Vc
open Go Go.Proofs Go.RowKit
def ann_slices_IndexFunc_l_api_Span_api_Span : Nat → List Nat := fun n => match n with | 2 => [0, 1, 7, 8] | _ => []
def vc_slices_IndexFunc_l_api_Span_api_Span (P : Ctx) (pre : List ABlk) (a0 a1 : AV) (r : AV) (post : List PB) : Prop :=
  let h0 : Heap := numbered 0 pre
  LEN false a0 h0 fun v7 =>
  LOOP [a0, a1, v7, (.d (.num .i64 0))] h0 56 fun vs1 h2 next1 =>
  BIN 0 .lss (nth vs1 3) (nth vs1 2) fun v9 =>
  COND v9
  (IADDR 2 T_api_Span (nth vs1 0) (nth vs1 3) h2 fun v14 =>
  LOAD true 2 v14 h2 fun v15 =>
  CALLV P (nth vs1 1) [v15] 128 h2 (fun _ v16 h3 =>
  COND v16
  (POST (nth vs1 3) h3 pre r post)
  (BIN 0 .add (nth vs1 3) (.d (.num .i64 1)) fun v18 =>
  next1 [(nth vs1 0), (nth vs1 1), (nth vs1 2), v18] h3))
  (fun _ _ _ => False))
  (POST (.d (.num .i64 (-1))) h2 pre r post)
theorem vc_slices_IndexFunc_l_api_Span_api_Span_eq (g : GG) (pre : List ABlk) (a0 a1 : AV) (r : AV) (post : List PB) : vcFn2 (Tz g) false ann_slices_IndexFunc_l_api_Span_api_Span Tryz.f153 pre [a0, a1] (.ret r) post = vc_slices_IndexFunc_l_api_Span_api_Span (Tz g) pre a0 a1 r post := by kernel_rfl
theorem hf_slices_IndexFunc_l_api_Span_api_Span : Tryz.prog.funcs[f_slices_IndexFunc_l_api_Span_api_Span]? = some Tryz.f153 := by kernel_rfl
theorem ok_slices_IndexFunc_l_api_Span_api_Span : fnVcOK Tryz.prog Tryz.f153 = true := by kernel_rfl
theorem nt_slices_IndexFunc_l_api_Span_api_Span : Nat.ble 2 Tryz.f153.ntmps = true := by kernel_rfl
theorem meetsH_slices_IndexFunc_l_api_Span_api_Span {g : GG} {pre : List ABlk} {a0 a1 : AV} {r : AV} {post : List PB} (hk : Nat.ble pre.length 24 = true) (h : vc_slices_IndexFunc_l_api_Span_api_Span (Tz g) pre a0 a1 r post) : MeetsH (Tz g) f_slices_IndexFunc_l_api_Span_api_Span pre [a0, a1] (.ret r) post :=
  meetsH_of_vc (C := Tz g) ann_slices_IndexFunc_l_api_Span_api_Span hf_slices_IndexFunc_l_api_Span_api_Span ok_slices_IndexFunc_l_api_Span_api_Span nt_slices_IndexFunc_l_api_Span_api_Span hk (pn := false) (Eq.mpr ((vcFn2_eq _ _ _ _ _ _ _ _).trans (vc_slices_IndexFunc_l_api_Span_api_Span_eq g pre a0 a1 r post)) h)
theorem meets_slices_IndexFunc_l_api_Span_api_Span {g : GG} {a0 a1 : D} {r : Res} (h : vc_slices_IndexFunc_l_api_Span_api_Span (Tz g) [] (.d a0) (.d a1) r.val (r.bl.map .upd)) : Meets (Tz g) f_slices_IndexFunc_l_api_Span_api_Span [a0, a1] r := meetsH_slices_IndexFunc_l_api_Span_api_Span rfl h
def ann_slices_ContainsFunc_l_api_Span_api_Span : Nat → List Nat := fun n => match n with  | _ => []
def vc_slices_ContainsFunc_l_api_Span_api_Span (P : Ctx) (pre : List ABlk) (a0 a1 : AV) (r : AV) (post : List PB) : Prop :=
  let h0 : Heap := numbered 0 pre
  CALL P f_slices_IndexFunc_l_api_Span_api_Span [a0, a1] 48 h0 (fun _ v7 h1 =>
  BIN 0 .geq v7 (.d (.num .i64 0)) fun v8 =>
  POST v8 h1 pre r post)
  (fun _ _ _ => False)
theorem vc_slices_ContainsFunc_l_api_Span_api_Span_eq (g : GG) (pre : List ABlk) (a0 a1 : AV) (r : AV) (post : List PB) : vcFn2 (Tz g) false ann_slices_ContainsFunc_l_api_Span_api_Span Tryz.f92 pre [a0, a1] (.ret r) post = vc_slices_ContainsFunc_l_api_Span_api_Span (Tz g) pre a0 a1 r post := by kernel_rfl
theorem hf_slices_ContainsFunc_l_api_Span_api_Span : Tryz.prog.funcs[f_slices_ContainsFunc_l_api_Span_api_Span]? = some Tryz.f92 := by kernel_rfl
theorem ok_slices_ContainsFunc_l_api_Span_api_Span : fnVcOK Tryz.prog Tryz.f92 = true := by kernel_rfl
theorem nt_slices_ContainsFunc_l_api_Span_api_Span : Nat.ble 2 Tryz.f92.ntmps = true := by kernel_rfl
theorem meetsH_slices_ContainsFunc_l_api_Span_api_Span {g : GG} {pre : List ABlk} {a0 a1 : AV} {r : AV} {post : List PB} (hk : Nat.ble pre.length 24 = true) (h : vc_slices_ContainsFunc_l_api_Span_api_Span (Tz g) pre a0 a1 r post) : MeetsH (Tz g) f_slices_ContainsFunc_l_api_Span_api_Span pre [a0, a1] (.ret r) post :=
  meetsH_of_vc (C := Tz g) ann_slices_ContainsFunc_l_api_Span_api_Span hf_slices_ContainsFunc_l_api_Span_api_Span ok_slices_ContainsFunc_l_api_Span_api_Span nt_slices_ContainsFunc_l_api_Span_api_Span hk (pn := false) (Eq.mpr ((vcFn2_eq _ _ _ _ _ _ _ _).trans (vc_slices_ContainsFunc_l_api_Span_api_Span_eq g pre a0 a1 r post)) h)
theorem meets_slices_ContainsFunc_l_api_Span_api_Span {g : GG} {a0 a1 : D} {r : Res} (h : vc_slices_ContainsFunc_l_api_Span_api_Span (Tz g) [] (.d a0) (.d a1) r.val (r.bl.map .upd)) : Meets (Tz g) f_slices_ContainsFunc_l_api_Span_api_Span [a0, a1] r := meetsH_slices_ContainsFunc_l_api_Span_api_Span rfl h
def ann_slices_Clone_l_int_int : Nat → List Nat := fun n => match n with  | _ => []
def vc_slices_Clone_l_int_int (_P : Ctx) (pre : List ABlk) (a0 : AV) (r : AV) (post : List PB) : Prop :=
  let h0 : Heap := numbered 0 pre
  BIN 998 .eql a0 .zc fun v4 =>
  COND v4
  (POST .zc h0 pre r post)
  (MKS T_int 1 [] 48 h0 fun v5 h1 =>
  APP T_int 1 v5 a0 64 h1 fun v7 h2 =>
  POST v7 h2 pre r post)
theorem vc_slices_Clone_l_int_int_eq (g : GG) (pre : List ABlk) (a0 : AV) (r : AV) (post : List PB) : vcFn2 (Tz g) false ann_slices_Clone_l_int_int Tryz.f140 pre [a0] (.ret r) post = vc_slices_Clone_l_int_int (Tz g) pre a0 r post := by kernel_rfl
theorem hf_slices_Clone_l_int_int : Tryz.prog.funcs[f_slices_Clone_l_int_int]? = some Tryz.f140 := by kernel_rfl
theorem ok_slices_Clone_l_int_int : fnVcOK Tryz.prog Tryz.f140 = true := by kernel_rfl
theorem nt_slices_Clone_l_int_int : Nat.ble 1 Tryz.f140.ntmps = true := by kernel_rfl
theorem meetsH_slices_Clone_l_int_int {g : GG} {pre : List ABlk} {a0 : AV} {r : AV} {post : List PB} (hk : Nat.ble pre.length 24 = true) (h : vc_slices_Clone_l_int_int (Tz g) pre a0 r post) : MeetsH (Tz g) f_slices_Clone_l_int_int pre [a0] (.ret r) post :=
  meetsH_of_vc (C := Tz g) ann_slices_Clone_l_int_int hf_slices_Clone_l_int_int ok_slices_Clone_l_int_int nt_slices_Clone_l_int_int hk (pn := false) (Eq.mpr ((vcFn2_eq _ _ _ _ _ _ _ _).trans (vc_slices_Clone_l_int_int_eq g pre a0 r post)) h)
theorem meets_slices_Clone_l_int_int {g : GG} {a0 : D} {r : Res} (h : vc_slices_Clone_l_int_int (Tz g) [] (.d a0) r.val (r.bl.map .upd)) : Meets (Tz g) f_slices_Clone_l_int_int [a0] r := meetsH_slices_Clone_l_int_int rfl h
def ann_ref01_Listed : Nat → List Nat := fun n => match n with | 2 => [0, 1, 5] | _ => []
def vc_ref01_Listed (_P : Ctx) (pre : List ABlk) (a0 a1 : AV) (r : AV) (post : List PB) : Prop :=
  let h0 : Heap := numbered 0 pre
  LOOP [a0, a1, (.d (.num .i64 0))] h0 40 fun vs1 h2 next1 =>
  LEN false (nth vs1 0) h2 fun v8 =>
  BIN 0 .lss (nth vs1 2) v8 fun v9 =>
  COND v9
  (IADDR 1 T_int (nth vs1 0) (nth vs1 2) h2 fun v14 =>
  LOAD false 1 v14 h2 fun v15 =>
  BIN 0 .eql v15 (nth vs1 1) fun v17 =>
  COND v17
  (POST (.d (.bool true)) h2 pre r post)
  (BIN 0 .add (nth vs1 2) (.d (.num .i64 1)) fun v11 =>
  next1 [(nth vs1 0), (nth vs1 1), v11] h2))
  (POST (.d (.bool false)) h2 pre r post)
theorem vc_ref01_Listed_eq (g : GG) (pre : List ABlk) (a0 a1 : AV) (r : AV) (post : List PB) : vcFn2 (Tz g) false ann_ref01_Listed Tryz.f25 pre [a0, a1] (.ret r) post = vc_ref01_Listed (Tz g) pre a0 a1 r post := by kernel_rfl
theorem hf_ref01_Listed : Tryz.prog.funcs[f_ref01_Listed]? = some Tryz.f25 := by kernel_rfl
theorem ok_ref01_Listed : fnVcOK Tryz.prog Tryz.f25 = true := by kernel_rfl
theorem nt_ref01_Listed : Nat.ble 2 Tryz.f25.ntmps = true := by kernel_rfl
theorem meetsH_ref01_Listed {g : GG} {pre : List ABlk} {a0 a1 : AV} {r : AV} {post : List PB} (hk : Nat.ble pre.length 24 = true) (h : vc_ref01_Listed (Tz g) pre a0 a1 r post) : MeetsH (Tz g) f_ref01_Listed pre [a0, a1] (.ret r) post :=
  meetsH_of_vc (C := Tz g) ann_ref01_Listed hf_ref01_Listed ok_ref01_Listed nt_ref01_Listed hk (pn := false) (Eq.mpr ((vcFn2_eq _ _ _ _ _ _ _ _).trans (vc_ref01_Listed_eq g pre a0 a1 r post)) h)
theorem meets_ref01_Listed {g : GG} {a0 a1 : D} {r : Res} (h : vc_ref01_Listed (Tz g) [] (.d a0) (.d a1) r.val (r.bl.map .upd)) : Meets (Tz g) f_ref01_Listed [a0, a1] r := meetsH_ref01_Listed rfl h
end Go.Vc
