/- A part of the proof: general laws of a reading of the model by abstract data, or contracts of the functions that the law calls. -/
import Derived.KernelRfl
import Derived.Test.YtnbdfpppcdgkpaaGreatDoorProg
import Derived.Test.YtnbdfpppcdgkpaaGreatDoorVc21
set_option maxRecDepth 100000
namespace Go.Vc
open Go Go.Proofs Go.RowKit
def an_law01_right : Nat → List Nat := fun n => match n with  | _ => []
theorem te_law01_right : Tryz.prog.funcs[4]? = some Tryz.f4 ∧ fnEvOK Tryz.prog Tryz.f4 = true := ⟨by kernel_rfl, by kernel_rfl⟩
def an_ref01_Size : Nat → List Nat := fun n => match n with  | _ => []
theorem te_ref01_Size : Tryz.prog.funcs[5]? = some Tryz.f5 ∧ fnEvOK Tryz.prog Tryz.f5 = true := ⟨by kernel_rfl, by kernel_rfl⟩
def an_law01_known : Nat → List Nat := fun n => match n with | 100002 => [1, 2] | _ => []
theorem te_law01_known : Tryz.prog.funcs[6]? = some Tryz.f6 ∧ fnEvOK Tryz.prog Tryz.f6 = true := ⟨by kernel_rfl, by kernel_rfl⟩
def an_differ_Cut : Nat → List Nat := fun n => match n with | 6 => [2, 3, 8, 9, 10] | _ => []
theorem te_differ_Cut : Tryz.prog.funcs[7]? = some Tryz.f7 ∧ fnEvOK Tryz.prog Tryz.f7 = true := ⟨by kernel_rfl, by kernel_rfl⟩
def an_differ_Joins : Nat → List Nat := fun n => match n with | 5 => [1, 2, 8, 28, 29, 35, 36, 37, 38, 39, 40, 41, 42, 43, 44, 45, 46, 47] | _ => []
theorem te_differ_Joins : Tryz.prog.funcs[8]? = some Tryz.f8 ∧ fnEvOK Tryz.prog Tryz.f8 = true := ⟨by kernel_rfl, by kernel_rfl⟩
def an_ref01_Same : Nat → List Nat := fun n => match n with | 4 => [0, 1, 5] | _ => []
theorem te_ref01_Same : Tryz.prog.funcs[9]? = some Tryz.f9 ∧ fnEvOK Tryz.prog Tryz.f9 = true := ⟨by kernel_rfl, by kernel_rfl⟩
def an_law01_short : Nat → List Nat := fun n => match n with  | _ => []
theorem te_law01_short : Tryz.prog.funcs[10]? = some Tryz.f10 ∧ fnEvOK Tryz.prog Tryz.f10 = true := ⟨by kernel_rfl, by kernel_rfl⟩
def an_ref01_Plan : Nat → List Nat := fun n => match n with | 4 => [1, 3] | _ => []
theorem te_ref01_Plan : Tryz.prog.funcs[11]? = some Tryz.f11 ∧ fnEvOK Tryz.prog Tryz.f11 = true := ⟨by kernel_rfl, by kernel_rfl⟩
def an_ref01_Truth : Nat → List Nat := fun n => match n with | 4 => [1, 2, 5] | _ => []
theorem te_ref01_Truth : Tryz.prog.funcs[12]? = some Tryz.f12 ∧ fnEvOK Tryz.prog Tryz.f12 = true := ⟨by kernel_rfl, by kernel_rfl⟩
def an_ref01_in : Nat → List Nat := fun n => match n with  | _ => []
theorem te_ref01_in : Tryz.prog.funcs[13]? = some Tryz.f13 ∧ fnEvOK Tryz.prog Tryz.f13 = true := ⟨by kernel_rfl, by kernel_rfl⟩
def an_differ_Table : Nat → List Nat := fun n => match n with  | _ => []
theorem te_differ_Table : Tryz.prog.funcs[14]? = some Tryz.f14 ∧ fnEvOK Tryz.prog Tryz.f14 = true := ⟨by kernel_rfl, by kernel_rfl⟩
def an_law01_A : Nat → List Nat := fun n => match n with  | _ => []
theorem te_law01_A : Tryz.prog.funcs[15]? = some Tryz.f15 ∧ fnEvOK Tryz.prog Tryz.f15 = true := ⟨by kernel_rfl, by kernel_rfl⟩
def an_differ_State : Nat → List Nat := fun n => match n with  | _ => []
theorem te_differ_State : Tryz.prog.funcs[16]? = some Tryz.f16 ∧ fnEvOK Tryz.prog Tryz.f16 = true := ⟨by kernel_rfl, by kernel_rfl⟩
def an_differ_Rows : Nat → List Nat := fun n => match n with  | _ => []
theorem te_differ_Rows : Tryz.prog.funcs[17]? = some Tryz.f17 ∧ fnEvOK Tryz.prog Tryz.f17 = true := ⟨by kernel_rfl, by kernel_rfl⟩
def an_differ_Printed : Nat → List Nat := fun n => match n with  | _ => []
theorem te_differ_Printed : Tryz.prog.funcs[18]? = some Tryz.f18 ∧ fnEvOK Tryz.prog Tryz.f18 = true := ⟨by kernel_rfl, by kernel_rfl⟩
def an_law01_B : Nat → List Nat := fun n => match n with  | _ => []
theorem te_law01_B : Tryz.prog.funcs[19]? = some Tryz.f19 ∧ fnEvOK Tryz.prog Tryz.f19 = true := ⟨by kernel_rfl, by kernel_rfl⟩
def an_differ_Sure : Nat → List Nat := fun n => match n with | 5 => [4, 11, 12, 13] | _ => []
theorem te_differ_Sure : Tryz.prog.funcs[20]? = some Tryz.f20 ∧ fnEvOK Tryz.prog Tryz.f20 = true := ⟨by kernel_rfl, by kernel_rfl⟩
def an_differ_Doubt : Nat → List Nat := fun n => match n with  | _ => []
theorem te_differ_Doubt : Tryz.prog.funcs[21]? = some Tryz.f21 ∧ fnEvOK Tryz.prog Tryz.f21 = true := ⟨by kernel_rfl, by kernel_rfl⟩
def an_differ_Widest : Nat → List Nat := fun n => match n with | 7 => [1, 2, 6, 7, 8, 28, 45, 46] | _ => []
theorem te_differ_Widest : Tryz.prog.funcs[22]? = some Tryz.f22 ∧ fnEvOK Tryz.prog Tryz.f22 = true := ⟨by kernel_rfl, by kernel_rfl⟩
def an_differ_Blame : Nat → List Nat := fun n => match n with | 6 => [6, 7, 22, 23, 24] | _ => []
theorem te_differ_Blame : Tryz.prog.funcs[23]? = some Tryz.f23 ∧ fnEvOK Tryz.prog Tryz.f23 = true := ⟨by kernel_rfl, by kernel_rfl⟩
def an_differ_Climb : Nat → List Nat := fun n => match n with | 6 => [6, 7, 24, 25] | 8 => [6, 7, 8, 24, 25] | _ => []
theorem te_differ_Climb : Tryz.prog.funcs[24]? = some Tryz.f24 ∧ fnEvOK Tryz.prog Tryz.f24 = true := ⟨by kernel_rfl, by kernel_rfl⟩
def an_differ_Agree : Nat → List Nat := fun n => match n with  | _ => []
theorem te_differ_Agree : Tryz.prog.funcs[25]? = some Tryz.f25 ∧ fnEvOK Tryz.prog Tryz.f25 = true := ⟨by kernel_rfl, by kernel_rfl⟩
def an_differ_Known : Nat → List Nat := fun n => match n with | 8 => [6, 7, 30, 31] | 12 => [6, 7, 8, 9, 30, 31, 49, 50, 51] | _ => []
theorem te_differ_Known : Tryz.prog.funcs[26]? = some Tryz.f26 ∧ fnEvOK Tryz.prog Tryz.f26 = true := ⟨by kernel_rfl, by kernel_rfl⟩
def an_differ_Next : Nat → List Nat := fun n => match n with | 9 => [8, 9, 35, 36, 37] | 12 => [8, 9, 35, 36, 37, 42, 43, 44] | _ => []
theorem te_differ_Next : Tryz.prog.funcs[27]? = some Tryz.f27 ∧ fnEvOK Tryz.prog Tryz.f27 = true := ⟨by kernel_rfl, by kernel_rfl⟩
def an_differ_Read : Nat → List Nat := fun n => match n with  | _ => []
theorem te_differ_Read : Tryz.prog.funcs[28]? = some Tryz.f28 ∧ fnEvOK Tryz.prog Tryz.f28 = true := ⟨by kernel_rfl, by kernel_rfl⟩
def an_ref01_SameSpans : Nat → List Nat := fun n => match n with | 4 => [0, 1, 5] | _ => []
theorem te_ref01_SameSpans : Tryz.prog.funcs[29]? = some Tryz.f29 ∧ fnEvOK Tryz.prog Tryz.f29 = true := ⟨by kernel_rfl, by kernel_rfl⟩
def an_law01_span : Nat → List Nat := fun n => match n with  | _ => []
theorem te_law01_span : Tryz.prog.funcs[30]? = some Tryz.f30 ∧ fnEvOK Tryz.prog Tryz.f30 = true := ⟨by kernel_rfl, by kernel_rfl⟩
def an_ref01_SameLists : Nat → List Nat := fun n => match n with | 4 => [0, 1, 5] | _ => []
theorem te_ref01_SameLists : Tryz.prog.funcs[31]? = some Tryz.f31 ∧ fnEvOK Tryz.prog Tryz.f31 = true := ⟨by kernel_rfl, by kernel_rfl⟩
def an_ref01_Print : Nat → List Nat := fun n => match n with | 3 => [1, 3, 4] | _ => []
theorem te_ref01_Print : Tryz.prog.funcs[32]? = some Tryz.f32 ∧ fnEvOK Tryz.prog Tryz.f32 = true := ⟨by kernel_rfl, by kernel_rfl⟩
def an_differ_isPlan : Nat → List Nat := fun n => match n with  | _ => []
theorem te_differ_isPlan : Tryz.prog.funcs[33]? = some Tryz.f33 ∧ fnEvOK Tryz.prog Tryz.f33 = true := ⟨by kernel_rfl, by kernel_rfl⟩
def an_differ_isTruth : Nat → List Nat := fun n => match n with | 4 => [2, 13, 14, 15] | _ => []
theorem te_differ_isTruth : Tryz.prog.funcs[34]? = some Tryz.f34 ∧ fnEvOK Tryz.prog Tryz.f34 = true := ⟨by kernel_rfl, by kernel_rfl⟩
def an_differ_in : Nat → List Nat := fun n => match n with  | _ => []
theorem te_differ_in : Tryz.prog.funcs[35]? = some Tryz.f35 ∧ fnEvOK Tryz.prog Tryz.f35 = true := ⟨by kernel_rfl, by kernel_rfl⟩
def an_differ_table_state : Nat → List Nat := fun n => match n with  | _ => []
theorem te_differ_table_state : Tryz.prog.funcs[36]? = some Tryz.f36 ∧ fnEvOK Tryz.prog Tryz.f36 = true := ⟨by kernel_rfl, by kernel_rfl⟩
def an_differ_areFirsts : Nat → List Nat := fun n => match n with  | _ => []
theorem te_differ_areFirsts : Tryz.prog.funcs[37]? = some Tryz.f37 ∧ fnEvOK Tryz.prog Tryz.f37 = true := ⟨by kernel_rfl, by kernel_rfl⟩
def an_slices_Equal_l_int_int : Nat → List Nat := fun n => match n with | 4 => [0, 1, 12, 13] | _ => []
theorem te_slices_Equal_l_int_int : Tryz.prog.funcs[38]? = some Tryz.f38 ∧ fnEvOK Tryz.prog Tryz.f38 = true := ⟨by kernel_rfl, by kernel_rfl⟩
def an_differ_after : Nat → List Nat := fun n => match n with | 3 => [5, 9, 10] | 5 => [5, 9, 10, 14, 15] | _ => []
theorem te_differ_after : Tryz.prog.funcs[39]? = some Tryz.f39 ∧ fnEvOK Tryz.prog Tryz.f39 = true := ⟨by kernel_rfl, by kernel_rfl⟩
def an_ref01_Start : Nat → List Nat := fun n => match n with  | _ => []
theorem te_ref01_Start : Tryz.prog.funcs[40]? = some Tryz.f40 ∧ fnEvOK Tryz.prog Tryz.f40 = true := ⟨by kernel_rfl, by kernel_rfl⟩
def an_differ_table_values : Nat → List Nat := fun n => match n with | 3 => [1, 3, 8, 9] | _ => []
theorem te_differ_table_values : Tryz.prog.funcs[41]? = some Tryz.f41 ∧ fnEvOK Tryz.prog Tryz.f41 = true := ⟨by kernel_rfl, by kernel_rfl⟩
def an_differ_hasRow : Nat → List Nat := fun n => match n with  | _ => []
theorem te_differ_hasRow : Tryz.prog.funcs[42]? = some Tryz.f42 ∧ fnEvOK Tryz.prog Tryz.f42 = true := ⟨by kernel_rfl, by kernel_rfl⟩
def an_differ_rows : Nat → List Nat := fun n => match n with | 4 => [3, 4, 5, 18, 19] | _ => []
theorem te_differ_rows : Tryz.prog.funcs[43]? = some Tryz.f43 ∧ fnEvOK Tryz.prog Tryz.f43 = true := ⟨by kernel_rfl, by kernel_rfl⟩
def an_differ_printed : Nat → List Nat := fun n => match n with | 3 => [1, 3, 7, 8, 9] | _ => []
theorem te_differ_printed : Tryz.prog.funcs[44]? = some Tryz.f44 ∧ fnEvOK Tryz.prog Tryz.f44 = true := ⟨by kernel_rfl, by kernel_rfl⟩
def an_differ_attempt : Nat → List Nat := fun n => match n with  | _ => []
theorem te_differ_attempt : Tryz.prog.funcs[45]? = some Tryz.f45 ∧ fnEvOK Tryz.prog Tryz.f45 = true := ⟨by kernel_rfl, by kernel_rfl⟩
def an_differ_Doubt_1 : Nat → List Nat := fun n => match n with  | _ => []
theorem te_differ_Doubt_1 : Tryz.prog.funcs[46]? = some Tryz.f46 ∧ fnEvOK Tryz.prog Tryz.f46 = true := ⟨by kernel_rfl, by kernel_rfl⟩
def an_differ_mustBeSure : Nat → List Nat := fun n => match n with | 2 => [5, 6, 7] | _ => []
theorem te_differ_mustBeSure : Tryz.prog.funcs[47]? = some Tryz.f47 ∧ fnEvOK Tryz.prog Tryz.f47 = true := ⟨by kernel_rfl, by kernel_rfl⟩
def an_differ_hasStart : Nat → List Nat := fun n => match n with  | _ => []
theorem te_differ_hasStart : Tryz.prog.funcs[48]? = some Tryz.f48 ∧ fnEvOK Tryz.prog Tryz.f48 = true := ⟨by kernel_rfl, by kernel_rfl⟩
def an_slices_Clone_l_api_Span_api_Span : Nat → List Nat := fun n => match n with  | _ => []
theorem te_slices_Clone_l_api_Span_api_Span : Tryz.prog.funcs[49]? = some Tryz.f49 ∧ fnEvOK Tryz.prog Tryz.f49 = true := ⟨by kernel_rfl, by kernel_rfl⟩
def an_differ_allSure : Nat → List Nat := fun n => match n with  | _ => []
theorem te_differ_allSure : Tryz.prog.funcs[50]? = some Tryz.f50 ∧ fnEvOK Tryz.prog Tryz.f50 = true := ⟨by kernel_rfl, by kernel_rfl⟩
def an_differ_shares : Nat → List Nat := fun n => match n with | 3 => [1, 2, 5, 11, 12, 13] | _ => []
theorem te_differ_shares : Tryz.prog.funcs[51]? = some Tryz.f51 ∧ fnEvOK Tryz.prog Tryz.f51 = true := ⟨by kernel_rfl, by kernel_rfl⟩
def an_differ_sum : Nat → List Nat := fun n => match n with | 3 => [3, 6, 7, 8] | _ => []
theorem te_differ_sum : Tryz.prog.funcs[52]? = some Tryz.f52 ∧ fnEvOK Tryz.prog Tryz.f52 = true := ⟨by kernel_rfl, by kernel_rfl⟩
def an_differ_best_differ_share : Nat → List Nat := fun n => match n with | 3 => [1, 4, 5, 12, 13, 14] | 100002 => [0] | _ => []
theorem te_differ_best_differ_share : Tryz.prog.funcs[53]? = some Tryz.f53 ∧ fnEvOK Tryz.prog Tryz.f53 = true := ⟨by kernel_rfl, by kernel_rfl⟩
def an_differ_Blame_1 : Nat → List Nat := fun n => match n with  | _ => []
theorem te_differ_Blame_1 : Tryz.prog.funcs[54]? = some Tryz.f54 ∧ fnEvOK Tryz.prog Tryz.f54 = true := ⟨by kernel_rfl, by kernel_rfl⟩
def an_differ_isState : Nat → List Nat := fun n => match n with  | _ => []
theorem te_differ_isState : Tryz.prog.funcs[55]? = some Tryz.f55 ∧ fnEvOK Tryz.prog Tryz.f55 = true := ⟨by kernel_rfl, by kernel_rfl⟩
def an_slices_Clone_l_int_int : Nat → List Nat := fun n => match n with  | _ => []
theorem te_slices_Clone_l_int_int : Tryz.prog.funcs[56]? = some Tryz.f56 ∧ fnEvOK Tryz.prog Tryz.f56 = true := ⟨by kernel_rfl, by kernel_rfl⟩
def an_slices_Reverse_l_int_int : Nat → List Nat := fun n => match n with | 1 => [0, 2, 3] | _ => []
theorem te_slices_Reverse_l_int_int : Tryz.prog.funcs[57]? = some Tryz.f57 ∧ fnEvOK Tryz.prog Tryz.f57 = true := ⟨by kernel_rfl, by kernel_rfl⟩
def an_differ_areSeen : Nat → List Nat := fun n => match n with  | _ => []
theorem te_differ_areSeen : Tryz.prog.funcs[58]? = some Tryz.f58 ∧ fnEvOK Tryz.prog Tryz.f58 = true := ⟨by kernel_rfl, by kernel_rfl⟩
def an_differ_agreeing : Nat → List Nat := fun n => match n with | 3 => [3, 5] | _ => []
theorem te_differ_agreeing : Tryz.prog.funcs[59]? = some Tryz.f59 ∧ fnEvOK Tryz.prog Tryz.f59 = true := ⟨by kernel_rfl, by kernel_rfl⟩
def an_differ_best_differ_asked : Nat → List Nat := fun n => match n with | 3 => [1, 4, 5, 12, 13, 14] | 100002 => [0] | _ => []
theorem te_differ_best_differ_asked : Tryz.prog.funcs[60]? = some Tryz.f60 ∧ fnEvOK Tryz.prog Tryz.f60 = true := ⟨by kernel_rfl, by kernel_rfl⟩
def an_differ_Next_1 : Nat → List Nat := fun n => match n with  | _ => []
theorem te_differ_Next_1 : Tryz.prog.funcs[61]? = some Tryz.f61 ∧ fnEvOK Tryz.prog Tryz.f61 = true := ⟨by kernel_rfl, by kernel_rfl⟩
def an_differ_Read_1 : Nat → List Nat := fun n => match n with  | _ => []
theorem te_differ_Read_1 : Tryz.prog.funcs[62]? = some Tryz.f62 ∧ fnEvOK Tryz.prog Tryz.f62 = true := ⟨by kernel_rfl, by kernel_rfl⟩
def an_differ_parsed : Nat → List Nat := fun n => match n with | 7 => [0, 2, 5, 40, 41, 42] | 100006 => [3] | _ => []
theorem te_differ_parsed : Tryz.prog.funcs[63]? = some Tryz.f63 ∧ fnEvOK Tryz.prog Tryz.f63 = true := ⟨by kernel_rfl, by kernel_rfl⟩
def an_ref01_Row : Nat → List Nat := fun n => match n with | 2 => [0, 1, 5] | _ => []
theorem te_ref01_Row : Tryz.prog.funcs[64]? = some Tryz.f64 ∧ fnEvOK Tryz.prog Tryz.f64 = true := ⟨by kernel_rfl, by kernel_rfl⟩
def an_ref01_Sealed : Nat → List Nat := fun n => match n with | 3 => [0, 1, 5, 6, 7] | 6 => [0, 1, 5, 6, 7, 8] | _ => []
theorem te_ref01_Sealed : Tryz.prog.funcs[65]? = some Tryz.f65 ∧ fnEvOK Tryz.prog Tryz.f65 = true := ⟨by kernel_rfl, by kernel_rfl⟩
def an_slices_ContainsFunc_l_api_Span_api_Span : Nat → List Nat := fun n => match n with  | _ => []
theorem te_slices_ContainsFunc_l_api_Span_api_Span : Tryz.prog.funcs[66]? = some Tryz.f66 ∧ fnEvOK Tryz.prog Tryz.f66 = true := ⟨by kernel_rfl, by kernel_rfl⟩
def an_differ_isPlan_1 : Nat → List Nat := fun n => match n with  | _ => []
theorem te_differ_isPlan_1 : Tryz.prog.funcs[67]? = some Tryz.f67 ∧ fnEvOK Tryz.prog Tryz.f67 = true := ⟨by kernel_rfl, by kernel_rfl⟩
def an_differ_isStart : Nat → List Nat := fun n => match n with  | _ => []
theorem te_differ_isStart : Tryz.prog.funcs[68]? = some Tryz.f68 ∧ fnEvOK Tryz.prog Tryz.f68 = true := ⟨by kernel_rfl, by kernel_rfl⟩
def an_slices_ContainsFunc_l_l_int_l_int : Nat → List Nat := fun n => match n with  | _ => []
theorem te_slices_ContainsFunc_l_l_int_l_int : Tryz.prog.funcs[69]? = some Tryz.f69 ∧ fnEvOK Tryz.prog Tryz.f69 = true := ⟨by kernel_rfl, by kernel_rfl⟩
def an_differ_areFirsts_1 : Nat → List Nat := fun n => match n with  | _ => []
theorem te_differ_areFirsts_1 : Tryz.prog.funcs[70]? = some Tryz.f70 ∧ fnEvOK Tryz.prog Tryz.f70 = true := ⟨by kernel_rfl, by kernel_rfl⟩
def an_differ_end : Nat → List Nat := fun n => match n with | 4 => [1, 5, 6, 11, 12, 13] | _ => []
theorem te_differ_end : Tryz.prog.funcs[71]? = some Tryz.f71 ∧ fnEvOK Tryz.prog Tryz.f71 = true := ⟨by kernel_rfl, by kernel_rfl⟩
def an_differ_figure : Nat → List Nat := fun n => match n with  | _ => []
theorem te_differ_figure : Tryz.prog.funcs[72]? = some Tryz.f72 ∧ fnEvOK Tryz.prog Tryz.f72 = true := ⟨by kernel_rfl, by kernel_rfl⟩
def an_differ_attempt_1 : Nat → List Nat := fun n => match n with  | _ => []
theorem te_differ_attempt_1 : Tryz.prog.funcs[73]? = some Tryz.f73 ∧ fnEvOK Tryz.prog Tryz.f73 = true := ⟨by kernel_rfl, by kernel_rfl⟩
def an_differ_allSure_1 : Nat → List Nat := fun n => match n with  | _ => []
theorem te_differ_allSure_1 : Tryz.prog.funcs[74]? = some Tryz.f74 ∧ fnEvOK Tryz.prog Tryz.f74 = true := ⟨by kernel_rfl, by kernel_rfl⟩
def an_slices_ContainsFunc_l_int_int : Nat → List Nat := fun n => match n with  | _ => []
theorem te_slices_ContainsFunc_l_int_int : Tryz.prog.funcs[75]? = some Tryz.f75 ∧ fnEvOK Tryz.prog Tryz.f75 = true := ⟨by kernel_rfl, by kernel_rfl⟩
def an_differ_isState_1 : Nat → List Nat := fun n => match n with  | _ => []
theorem te_differ_isState_1 : Tryz.prog.funcs[76]? = some Tryz.f76 ∧ fnEvOK Tryz.prog Tryz.f76 = true := ⟨by kernel_rfl, by kernel_rfl⟩
def an_slices_ContainsFunc_l_api_DifferSeen_api_DifferSeen : Nat → List Nat := fun n => match n with  | _ => []
theorem te_slices_ContainsFunc_l_api_DifferSeen_api_DifferSeen : Tryz.prog.funcs[77]? = some Tryz.f77 ∧ fnEvOK Tryz.prog Tryz.f77 = true := ⟨by kernel_rfl, by kernel_rfl⟩
def an_differ_areSeen_1 : Nat → List Nat := fun n => match n with  | _ => []
theorem te_differ_areSeen_1 : Tryz.prog.funcs[78]? = some Tryz.f78 ∧ fnEvOK Tryz.prog Tryz.f78 = true := ⟨by kernel_rfl, by kernel_rfl⟩
def an_differ_truths : Nat → List Nat := fun n => match n with  | _ => []
theorem te_differ_truths : Tryz.prog.funcs[79]? = some Tryz.f79 ∧ fnEvOK Tryz.prog Tryz.f79 = true := ⟨by kernel_rfl, by kernel_rfl⟩
def an_differ_agreeing_1 : Nat → List Nat := fun n => match n with  | _ => []
theorem te_differ_agreeing_1 : Tryz.prog.funcs[80]? = some Tryz.f80 ∧ fnEvOK Tryz.prog Tryz.f80 = true := ⟨by kernel_rfl, by kernel_rfl⟩
def an_differ_need : Nat → List Nat := fun n => match n with  | _ => []
theorem te_differ_need : Tryz.prog.funcs[82]? = some Tryz.f82 ∧ fnEvOK Tryz.prog Tryz.f82 = true := ⟨by kernel_rfl, by kernel_rfl⟩
def an_differ_given : Nat → List Nat := fun n => match n with | 3 => [0, 3, 7, 14, 15, 18, 19, 20, 33, 34, 35, 36] | _ => []
theorem te_differ_given : Tryz.prog.funcs[83]? = some Tryz.f83 ∧ fnEvOK Tryz.prog Tryz.f83 = true := ⟨by kernel_rfl, by kernel_rfl⟩
def an_differ_signed : Nat → List Nat := fun n => match n with  | _ => []
theorem te_differ_signed : Tryz.prog.funcs[84]? = some Tryz.f84 ∧ fnEvOK Tryz.prog Tryz.f84 = true := ⟨by kernel_rfl, by kernel_rfl⟩
def an_differ_text : Nat → List Nat := fun n => match n with | 3 => [3, 16, 17, 18] | 9 => [3, 6, 29, 30, 31] | 12 => [3, 6, 7, 8, 29, 30, 31, 37, 38] | _ => []
theorem te_differ_text : Tryz.prog.funcs[85]? = some Tryz.f85 ∧ fnEvOK Tryz.prog Tryz.f85 = true := ⟨by kernel_rfl, by kernel_rfl⟩
def an_ref01_Decimal : Nat → List Nat := fun n => match n with  | _ => []
theorem te_ref01_Decimal : Tryz.prog.funcs[86]? = some Tryz.f86 ∧ fnEvOK Tryz.prog Tryz.f86 = true := ⟨by kernel_rfl, by kernel_rfl⟩
def an_slices_IndexFunc_l_api_Span_api_Span : Nat → List Nat := fun n => match n with | 2 => [0, 1, 7, 8] | _ => []
theorem te_slices_IndexFunc_l_api_Span_api_Span : Tryz.prog.funcs[87]? = some Tryz.f87 ∧ fnEvOK Tryz.prog Tryz.f87 = true := ⟨by kernel_rfl, by kernel_rfl⟩
def an_slices_IndexFunc_l_l_int_l_int : Nat → List Nat := fun n => match n with | 2 => [0, 1, 7, 8] | _ => []
theorem te_slices_IndexFunc_l_l_int_l_int : Tryz.prog.funcs[88]? = some Tryz.f88 ∧ fnEvOK Tryz.prog Tryz.f88 = true := ⟨by kernel_rfl, by kernel_rfl⟩
def an_differ_start_least : Nat → List Nat := fun n => match n with  | _ => []
theorem te_differ_start_least : Tryz.prog.funcs[89]? = some Tryz.f89 ∧ fnEvOK Tryz.prog Tryz.f89 = true := ⟨by kernel_rfl, by kernel_rfl⟩
def an_differ_start_most : Nat → List Nat := fun n => match n with  | _ => []
theorem te_differ_start_most : Tryz.prog.funcs[90]? = some Tryz.f90 ∧ fnEvOK Tryz.prog Tryz.f90 = true := ⟨by kernel_rfl, by kernel_rfl⟩
def an_differ_unit : Nat → List Nat := fun n => match n with | 3 => [3, 5, 6] | _ => []
theorem te_differ_unit : Tryz.prog.funcs[91]? = some Tryz.f91 ∧ fnEvOK Tryz.prog Tryz.f91 = true := ⟨by kernel_rfl, by kernel_rfl⟩
def an_slices_IndexFunc_l_int_int : Nat → List Nat := fun n => match n with | 2 => [0, 1, 7, 8] | _ => []
theorem te_slices_IndexFunc_l_int_int : Tryz.prog.funcs[92]? = some Tryz.f92 ∧ fnEvOK Tryz.prog Tryz.f92 = true := ⟨by kernel_rfl, by kernel_rfl⟩
def an_slices_IndexFunc_l_api_DifferSeen_api_DifferSeen : Nat → List Nat := fun n => match n with | 2 => [0, 1, 7, 8] | _ => []
theorem te_slices_IndexFunc_l_api_DifferSeen_api_DifferSeen : Tryz.prog.funcs[93]? = some Tryz.f93 ∧ fnEvOK Tryz.prog Tryz.f93 = true := ⟨by kernel_rfl, by kernel_rfl⟩
def an_differ_truths_1 : Nat → List Nat := fun n => match n with  | _ => []
theorem te_differ_truths_1 : Tryz.prog.funcs[94]? = some Tryz.f94 ∧ fnEvOK Tryz.prog Tryz.f94 = true := ⟨by kernel_rfl, by kernel_rfl⟩
def an_differ_truths_1_1 : Nat → List Nat := fun n => match n with | 5 => [0, 3, 6, 7] | _ => []
theorem te_differ_truths_1_1 : Tryz.prog.funcs[95]? = some Tryz.f95 ∧ fnEvOK Tryz.prog Tryz.f95 = true := ⟨by kernel_rfl, by kernel_rfl⟩
def an_differ_told : Nat → List Nat := fun n => match n with | 6 => [3, 15, 16, 17] | _ => []
theorem te_differ_told : Tryz.prog.funcs[99]? = some Tryz.f99 ∧ fnEvOK Tryz.prog Tryz.f99 = true := ⟨by kernel_rfl, by kernel_rfl⟩
def an_differ_words : Nat → List Nat := fun n => match n with  | _ => []
theorem te_differ_words : Tryz.prog.funcs[106]? = some Tryz.f106 ∧ fnEvOK Tryz.prog Tryz.f106 = true := ⟨by kernel_rfl, by kernel_rfl⟩
def an_differ_start_numbers : Nat → List Nat := fun n => match n with  | _ => []
theorem te_differ_start_numbers : Tryz.prog.funcs[153]? = some Tryz.f153 ∧ fnEvOK Tryz.prog Tryz.f153 = true := ⟨by kernel_rfl, by kernel_rfl⟩
def an_differ_head_numbers : Nat → List Nat := fun n => match n with  | _ => []
theorem te_differ_head_numbers : Tryz.prog.funcs[154]? = some Tryz.f154 ∧ fnEvOK Tryz.prog Tryz.f154 = true := ⟨by kernel_rfl, by kernel_rfl⟩
def dm : FuncId → Nat := fun f => match List.contains [49, 53, 56, 60, 63] f with | true => 1 | false => 0
noncomputable def tab : Tab := [(4, Tryz.f4, an_law01_right),
  (5, Tryz.f5, an_ref01_Size),
  (6, Tryz.f6, an_law01_known),
  (7, Tryz.f7, an_differ_Cut),
  (8, Tryz.f8, an_differ_Joins),
  (9, Tryz.f9, an_ref01_Same),
  (10, Tryz.f10, an_law01_short),
  (11, Tryz.f11, an_ref01_Plan),
  (12, Tryz.f12, an_ref01_Truth),
  (13, Tryz.f13, an_ref01_in),
  (14, Tryz.f14, an_differ_Table),
  (15, Tryz.f15, an_law01_A),
  (16, Tryz.f16, an_differ_State),
  (17, Tryz.f17, an_differ_Rows),
  (18, Tryz.f18, an_differ_Printed),
  (19, Tryz.f19, an_law01_B),
  (20, Tryz.f20, an_differ_Sure),
  (21, Tryz.f21, an_differ_Doubt),
  (22, Tryz.f22, an_differ_Widest),
  (23, Tryz.f23, an_differ_Blame),
  (24, Tryz.f24, an_differ_Climb),
  (25, Tryz.f25, an_differ_Agree),
  (26, Tryz.f26, an_differ_Known),
  (27, Tryz.f27, an_differ_Next),
  (28, Tryz.f28, an_differ_Read),
  (29, Tryz.f29, an_ref01_SameSpans),
  (30, Tryz.f30, an_law01_span),
  (31, Tryz.f31, an_ref01_SameLists),
  (32, Tryz.f32, an_ref01_Print),
  (33, Tryz.f33, an_differ_isPlan),
  (34, Tryz.f34, an_differ_isTruth),
  (35, Tryz.f35, an_differ_in),
  (36, Tryz.f36, an_differ_table_state),
  (37, Tryz.f37, an_differ_areFirsts),
  (38, Tryz.f38, an_slices_Equal_l_int_int),
  (39, Tryz.f39, an_differ_after),
  (40, Tryz.f40, an_ref01_Start),
  (41, Tryz.f41, an_differ_table_values),
  (42, Tryz.f42, an_differ_hasRow),
  (43, Tryz.f43, an_differ_rows),
  (44, Tryz.f44, an_differ_printed),
  (45, Tryz.f45, an_differ_attempt),
  (46, Tryz.f46, an_differ_Doubt_1),
  (47, Tryz.f47, an_differ_mustBeSure),
  (48, Tryz.f48, an_differ_hasStart),
  (49, Tryz.f49, an_slices_Clone_l_api_Span_api_Span),
  (50, Tryz.f50, an_differ_allSure),
  (51, Tryz.f51, an_differ_shares),
  (52, Tryz.f52, an_differ_sum),
  (53, Tryz.f53, an_differ_best_differ_share),
  (54, Tryz.f54, an_differ_Blame_1),
  (55, Tryz.f55, an_differ_isState),
  (56, Tryz.f56, an_slices_Clone_l_int_int),
  (57, Tryz.f57, an_slices_Reverse_l_int_int),
  (58, Tryz.f58, an_differ_areSeen),
  (59, Tryz.f59, an_differ_agreeing),
  (60, Tryz.f60, an_differ_best_differ_asked),
  (61, Tryz.f61, an_differ_Next_1),
  (62, Tryz.f62, an_differ_Read_1),
  (63, Tryz.f63, an_differ_parsed),
  (64, Tryz.f64, an_ref01_Row),
  (65, Tryz.f65, an_ref01_Sealed),
  (66, Tryz.f66, an_slices_ContainsFunc_l_api_Span_api_Span),
  (67, Tryz.f67, an_differ_isPlan_1),
  (68, Tryz.f68, an_differ_isStart),
  (69, Tryz.f69, an_slices_ContainsFunc_l_l_int_l_int),
  (70, Tryz.f70, an_differ_areFirsts_1),
  (71, Tryz.f71, an_differ_end),
  (72, Tryz.f72, an_differ_figure),
  (73, Tryz.f73, an_differ_attempt_1),
  (74, Tryz.f74, an_differ_allSure_1),
  (75, Tryz.f75, an_slices_ContainsFunc_l_int_int),
  (76, Tryz.f76, an_differ_isState_1),
  (77, Tryz.f77, an_slices_ContainsFunc_l_api_DifferSeen_api_DifferSeen),
  (78, Tryz.f78, an_differ_areSeen_1),
  (79, Tryz.f79, an_differ_truths),
  (80, Tryz.f80, an_differ_agreeing_1),
  (82, Tryz.f82, an_differ_need),
  (83, Tryz.f83, an_differ_given),
  (84, Tryz.f84, an_differ_signed),
  (85, Tryz.f85, an_differ_text),
  (86, Tryz.f86, an_ref01_Decimal),
  (87, Tryz.f87, an_slices_IndexFunc_l_api_Span_api_Span),
  (88, Tryz.f88, an_slices_IndexFunc_l_l_int_l_int),
  (89, Tryz.f89, an_differ_start_least),
  (90, Tryz.f90, an_differ_start_most),
  (91, Tryz.f91, an_differ_unit),
  (92, Tryz.f92, an_slices_IndexFunc_l_int_int),
  (93, Tryz.f93, an_slices_IndexFunc_l_api_DifferSeen_api_DifferSeen),
  (94, Tryz.f94, an_differ_truths_1),
  (95, Tryz.f95, an_differ_truths_1_1),
  (99, Tryz.f99, an_differ_told),
  (106, Tryz.f106, an_differ_words),
  (153, Tryz.f153, an_differ_start_numbers),
  (154, Tryz.f154, an_differ_head_numbers)]
theorem tab_ok : TabOK Tryz.prog tab := ⟨te_law01_right, ⟨te_ref01_Size, ⟨te_law01_known, ⟨te_differ_Cut, ⟨te_differ_Joins, ⟨te_ref01_Same, ⟨te_law01_short, ⟨te_ref01_Plan, ⟨te_ref01_Truth, ⟨te_ref01_in, ⟨te_differ_Table, ⟨te_law01_A, ⟨te_differ_State, ⟨te_differ_Rows, ⟨te_differ_Printed, ⟨te_law01_B, ⟨te_differ_Sure, ⟨te_differ_Doubt, ⟨te_differ_Widest, ⟨te_differ_Blame, ⟨te_differ_Climb, ⟨te_differ_Agree, ⟨te_differ_Known, ⟨te_differ_Next, ⟨te_differ_Read, ⟨te_ref01_SameSpans, ⟨te_law01_span, ⟨te_ref01_SameLists, ⟨te_ref01_Print, ⟨te_differ_isPlan, ⟨te_differ_isTruth, ⟨te_differ_in, ⟨te_differ_table_state, ⟨te_differ_areFirsts, ⟨te_slices_Equal_l_int_int, ⟨te_differ_after, ⟨te_ref01_Start, ⟨te_differ_table_values, ⟨te_differ_hasRow, ⟨te_differ_rows, ⟨te_differ_printed, ⟨te_differ_attempt, ⟨te_differ_Doubt_1, ⟨te_differ_mustBeSure, ⟨te_differ_hasStart, ⟨te_slices_Clone_l_api_Span_api_Span, ⟨te_differ_allSure, ⟨te_differ_shares, ⟨te_differ_sum, ⟨te_differ_best_differ_share, ⟨te_differ_Blame_1, ⟨te_differ_isState, ⟨te_slices_Clone_l_int_int, ⟨te_slices_Reverse_l_int_int, ⟨te_differ_areSeen, ⟨te_differ_agreeing, ⟨te_differ_best_differ_asked, ⟨te_differ_Next_1, ⟨te_differ_Read_1, ⟨te_differ_parsed, ⟨te_ref01_Row, ⟨te_ref01_Sealed, ⟨te_slices_ContainsFunc_l_api_Span_api_Span, ⟨te_differ_isPlan_1, ⟨te_differ_isStart, ⟨te_slices_ContainsFunc_l_l_int_l_int, ⟨te_differ_areFirsts_1, ⟨te_differ_end, ⟨te_differ_figure, ⟨te_differ_attempt_1, ⟨te_differ_allSure_1, ⟨te_slices_ContainsFunc_l_int_int, ⟨te_differ_isState_1, ⟨te_slices_ContainsFunc_l_api_DifferSeen_api_DifferSeen, ⟨te_differ_areSeen_1, ⟨te_differ_truths, ⟨te_differ_agreeing_1, ⟨te_differ_need, ⟨te_differ_given, ⟨te_differ_signed, ⟨te_differ_text, ⟨te_ref01_Decimal, ⟨te_slices_IndexFunc_l_api_Span_api_Span, ⟨te_slices_IndexFunc_l_l_int_l_int, ⟨te_differ_start_least, ⟨te_differ_start_most, ⟨te_differ_unit, ⟨te_slices_IndexFunc_l_int_int, ⟨te_slices_IndexFunc_l_api_DifferSeen_api_DifferSeen, ⟨te_differ_truths_1, ⟨te_differ_truths_1_1, ⟨te_differ_told, ⟨te_differ_words, ⟨te_differ_start_numbers, ⟨te_differ_head_numbers, trivial⟩⟩⟩⟩⟩⟩⟩⟩⟩⟩⟩⟩⟩⟩⟩⟩⟩⟩⟩⟩⟩⟩⟩⟩⟩⟩⟩⟩⟩⟩⟩⟩⟩⟩⟩⟩⟩⟩⟩⟩⟩⟩⟩⟩⟩⟩⟩⟩⟩⟩⟩⟩⟩⟩⟩⟩⟩⟩⟩⟩⟩⟩⟩⟩⟩⟩⟩⟩⟩⟩⟩⟩⟩⟩⟩⟩⟩⟩⟩⟩⟩⟩⟩⟩⟩⟩⟩⟩⟩⟩⟩⟩⟩⟩⟩
end Go.Vc
