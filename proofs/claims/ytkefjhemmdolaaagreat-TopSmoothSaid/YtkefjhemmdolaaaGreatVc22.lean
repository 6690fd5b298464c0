/- A part of the proof: general laws of a reading of the model by abstract data, or contracts of the functions that the law calls. -/
import Derived.KernelRfl
import Derived.Test.YtkefjhemmdolaaaGreatProg
import Derived.Test.YtkefjhemmdolaaaGreatVc17
set_option maxRecDepth 100000
namespace Go.Vc
open Go Go.Proofs Go.RowKit
def an_top_known11 : Nat → List Nat := fun n => match n with  | _ => []
theorem te_top_known11 : Tryz.prog.funcs[7]? = some Tryz.f7 ∧ fnEvOK Tryz.prog Tryz.f7 = true := ⟨by kernel_rfl, by kernel_rfl⟩
def an_differ_Table : Nat → List Nat := fun n => match n with  | _ => []
theorem te_differ_Table : Tryz.prog.funcs[8]? = some Tryz.f8 ∧ fnEvOK Tryz.prog Tryz.f8 = true := ⟨by kernel_rfl, by kernel_rfl⟩
def an_top_of11 : Nat → List Nat := fun n => match n with | 3 => [0, 6, 7, 8] | _ => []
theorem te_top_of11 : Tryz.prog.funcs[9]? = some Tryz.f9 ∧ fnEvOK Tryz.prog Tryz.f9 = true := ⟨by kernel_rfl, by kernel_rfl⟩
def an_ref05_Table : Nat → List Nat := fun n => match n with | 2 => [1, 3, 23, 24, 25, 28, 29, 30] | _ => []
theorem te_ref05_Table : Tryz.prog.funcs[10]? = some Tryz.f10 ∧ fnEvOK Tryz.prog Tryz.f10 = true := ⟨by kernel_rfl, by kernel_rfl⟩
def an_step_Keep : Nat → List Nat := fun n => match n with  | _ => []
theorem te_step_Keep : Tryz.prog.funcs[11]? = some Tryz.f11 ∧ fnEvOK Tryz.prog Tryz.f11 = true := ⟨by kernel_rfl, by kernel_rfl⟩
def an_ref05_Kept : Nat → List Nat := fun n => match n with | 4 => [1, 5] | _ => []
theorem te_ref05_Kept : Tryz.prog.funcs[12]? = some Tryz.f12 ∧ fnEvOK Tryz.prog Tryz.f12 = true := ⟨by kernel_rfl, by kernel_rfl⟩
def an_step_Least : Nat → List Nat := fun n => match n with | 6 => [6, 7, 24, 25] | _ => []
theorem te_step_Least : Tryz.prog.funcs[13]? = some Tryz.f13 ∧ fnEvOK Tryz.prog Tryz.f13 = true := ⟨by kernel_rfl, by kernel_rfl⟩
def an_round_To : Nat → List Nat := fun n => match n with  | _ => []
theorem te_round_To : Tryz.prog.funcs[14]? = some Tryz.f14 ∧ fnEvOK Tryz.prog Tryz.f14 = true := ⟨by kernel_rfl, by kernel_rfl⟩
def an_ref09_Page : Nat → List Nat := fun n => match n with | 4 => [1, 3, 39, 40, 41, 42, 43, 44, 45, 46, 49, 50, 51, 52, 53, 54, 55, 56] | 9 => [1, 4] | _ => []
theorem te_ref09_Page : Tryz.prog.funcs[15]? = some Tryz.f15 ∧ fnEvOK Tryz.prog Tryz.f15 = true := ⟨by kernel_rfl, by kernel_rfl⟩
def an_proof_Differs : Nat → List Nat := fun n => match n with | 6 => [4, 5, 14, 15] | _ => []
theorem te_proof_Differs : Tryz.prog.funcs[16]? = some Tryz.f16 ∧ fnEvOK Tryz.prog Tryz.f16 = true := ⟨by kernel_rfl, by kernel_rfl⟩
def an_proof_Errors : Nat → List Nat := fun n => match n with | 5 => [1, 4, 11, 12, 13] | _ => []
theorem te_proof_Errors : Tryz.prog.funcs[17]? = some Tryz.f17 ∧ fnEvOK Tryz.prog Tryz.f17 = true := ⟨by kernel_rfl, by kernel_rfl⟩
def an_ref09_Line : Nat → List Nat := fun n => match n with  | _ => []
theorem te_ref09_Line : Tryz.prog.funcs[18]? = some Tryz.f18 ∧ fnEvOK Tryz.prog Tryz.f18 = true := ⟨by kernel_rfl, by kernel_rfl⟩
def an_ref09_With : Nat → List Nat := fun n => match n with  | _ => []
theorem te_ref09_With : Tryz.prog.funcs[19]? = some Tryz.f19 ∧ fnEvOK Tryz.prog Tryz.f19 = true := ⟨by kernel_rfl, by kernel_rfl⟩
def an_pay_Owed : Nat → List Nat := fun n => match n with  | _ => []
theorem te_pay_Owed : Tryz.prog.funcs[20]? = some Tryz.f20 ∧ fnEvOK Tryz.prog Tryz.f20 = true := ⟨by kernel_rfl, by kernel_rfl⟩
def an_ref05_Off : Nat → List Nat := fun n => match n with  | _ => []
theorem te_ref05_Off : Tryz.prog.funcs[21]? = some Tryz.f21 ∧ fnEvOK Tryz.prog Tryz.f21 = true := ⟨by kernel_rfl, by kernel_rfl⟩
def an_column_Jumps : Nat → List Nat := fun n => match n with  | _ => []
theorem te_column_Jumps : Tryz.prog.funcs[22]? = some Tryz.f22 ∧ fnEvOK Tryz.prog Tryz.f22 = true := ⟨by kernel_rfl, by kernel_rfl⟩
def an_step_Word : Nat → List Nat := fun n => match n with  | _ => []
theorem te_step_Word : Tryz.prog.funcs[23]? = some Tryz.f23 ∧ fnEvOK Tryz.prog Tryz.f23 = true := ⟨by kernel_rfl, by kernel_rfl⟩
def an_step_Doubts : Nat → List Nat := fun n => match n with  | _ => []
theorem te_step_Doubts : Tryz.prog.funcs[24]? = some Tryz.f24 ∧ fnEvOK Tryz.prog Tryz.f24 = true := ⟨by kernel_rfl, by kernel_rfl⟩
def an_ref01_Listed : Nat → List Nat := fun n => match n with | 2 => [0, 1, 5] | _ => []
theorem te_ref01_Listed : Tryz.prog.funcs[25]? = some Tryz.f25 ∧ fnEvOK Tryz.prog Tryz.f25 = true := ⟨by kernel_rfl, by kernel_rfl⟩
def an_ref01_Plan : Nat → List Nat := fun n => match n with | 4 => [1, 3] | _ => []
theorem te_ref01_Plan : Tryz.prog.funcs[26]? = some Tryz.f26 ∧ fnEvOK Tryz.prog Tryz.f26 = true := ⟨by kernel_rfl, by kernel_rfl⟩
def an_ref01_Truth : Nat → List Nat := fun n => match n with | 4 => [1, 2, 5] | _ => []
theorem te_ref01_Truth : Tryz.prog.funcs[27]? = some Tryz.f27 ∧ fnEvOK Tryz.prog Tryz.f27 = true := ⟨by kernel_rfl, by kernel_rfl⟩
def an_differ_Rows : Nat → List Nat := fun n => match n with  | _ => []
theorem te_differ_Rows : Tryz.prog.funcs[28]? = some Tryz.f28 ∧ fnEvOK Tryz.prog Tryz.f28 = true := ⟨by kernel_rfl, by kernel_rfl⟩
def an_step_Right : Nat → List Nat := fun n => match n with  | _ => []
theorem te_step_Right : Tryz.prog.funcs[29]? = some Tryz.f29 ∧ fnEvOK Tryz.prog Tryz.f29 = true := ⟨by kernel_rfl, by kernel_rfl⟩
def an_step_Figures : Nat → List Nat := fun n => match n with  | _ => []
theorem te_step_Figures : Tryz.prog.funcs[30]? = some Tryz.f30 ∧ fnEvOK Tryz.prog Tryz.f30 = true := ⟨by kernel_rfl, by kernel_rfl⟩
def an_step_Fewest : Nat → List Nat := fun n => match n with  | _ => []
theorem te_step_Fewest : Tryz.prog.funcs[31]? = some Tryz.f31 ∧ fnEvOK Tryz.prog Tryz.f31 = true := ⟨by kernel_rfl, by kernel_rfl⟩
def an_law05_A : Nat → List Nat := fun n => match n with  | _ => []
theorem te_law05_A : Tryz.prog.funcs[32]? = some Tryz.f32 ∧ fnEvOK Tryz.prog Tryz.f32 = true := ⟨by kernel_rfl, by kernel_rfl⟩
def an_copies_Fewest : Nat → List Nat := fun n => match n with | 5 => [1, 4, 10, 11] | _ => []
theorem te_copies_Fewest : Tryz.prog.funcs[33]? = some Tryz.f33 ∧ fnEvOK Tryz.prog Tryz.f33 = true := ⟨by kernel_rfl, by kernel_rfl⟩
def an_law07_A : Nat → List Nat := fun n => match n with  | _ => []
theorem te_law07_A : Tryz.prog.funcs[34]? = some Tryz.f34 ∧ fnEvOK Tryz.prog Tryz.f34 = true := ⟨by kernel_rfl, by kernel_rfl⟩
def an_proof_Pass : Nat → List Nat := fun n => match n with  | _ => []
theorem te_proof_Pass : Tryz.prog.funcs[35]? = some Tryz.f35 ∧ fnEvOK Tryz.prog Tryz.f35 = true := ⟨by kernel_rfl, by kernel_rfl⟩
def an_law09_B : Nat → List Nat := fun n => match n with  | _ => []
theorem te_law09_B : Tryz.prog.funcs[36]? = some Tryz.f36 ∧ fnEvOK Tryz.prog Tryz.f36 = true := ⟨by kernel_rfl, by kernel_rfl⟩
def an_ref01_Same : Nat → List Nat := fun n => match n with | 4 => [0, 1, 5] | _ => []
theorem te_ref01_Same : Tryz.prog.funcs[37]? = some Tryz.f37 ∧ fnEvOK Tryz.prog Tryz.f37 = true := ⟨by kernel_rfl, by kernel_rfl⟩
def an_differ_isPlan : Nat → List Nat := fun n => match n with  | _ => []
theorem te_differ_isPlan : Tryz.prog.funcs[38]? = some Tryz.f38 ∧ fnEvOK Tryz.prog Tryz.f38 = true := ⟨by kernel_rfl, by kernel_rfl⟩
def an_differ_isTruth : Nat → List Nat := fun n => match n with | 4 => [2, 13, 14, 15] | _ => []
theorem te_differ_isTruth : Tryz.prog.funcs[39]? = some Tryz.f39 ∧ fnEvOK Tryz.prog Tryz.f39 = true := ⟨by kernel_rfl, by kernel_rfl⟩
def an_differ_table_values : Nat → List Nat := fun n => match n with | 3 => [1, 3, 8, 9] | _ => []
theorem te_differ_table_values : Tryz.prog.funcs[40]? = some Tryz.f40 ∧ fnEvOK Tryz.prog Tryz.f40 = true := ⟨by kernel_rfl, by kernel_rfl⟩
def an_ref05_Value : Nat → List Nat := fun n => match n with  | _ => []
theorem te_ref05_Value : Tryz.prog.funcs[41]? = some Tryz.f41 ∧ fnEvOK Tryz.prog Tryz.f41 = true := ⟨by kernel_rfl, by kernel_rfl⟩
def an_ref05_in : Nat → List Nat := fun n => match n with  | _ => []
theorem te_ref05_in : Tryz.prog.funcs[42]? = some Tryz.f42 ∧ fnEvOK Tryz.prog Tryz.f42 = true := ⟨by kernel_rfl, by kernel_rfl⟩
def an_ref04_Rule : Nat → List Nat := fun n => match n with  | _ => []
theorem te_ref04_Rule : Tryz.prog.funcs[43]? = some Tryz.f43 ∧ fnEvOK Tryz.prog Tryz.f43 = true := ⟨by kernel_rfl, by kernel_rfl⟩
def an_step_isTable : Nat → List Nat := fun n => match n with  | _ => []
theorem te_step_isTable : Tryz.prog.funcs[44]? = some Tryz.f44 ∧ fnEvOK Tryz.prog Tryz.f44 = true := ⟨by kernel_rfl, by kernel_rfl⟩
def an_step_in : Nat → List Nat := fun n => match n with  | _ => []
theorem te_step_in : Tryz.prog.funcs[45]? = some Tryz.f45 ∧ fnEvOK Tryz.prog Tryz.f45 = true := ⟨by kernel_rfl, by kernel_rfl⟩
def an_step_keep : Nat → List Nat := fun n => match n with | 4 => [1, 5, 6, 7] | _ => []
theorem te_step_keep : Tryz.prog.funcs[46]? = some Tryz.f46 ∧ fnEvOK Tryz.prog Tryz.f46 = true := ⟨by kernel_rfl, by kernel_rfl⟩
def an_step_isKept : Nat → List Nat := fun n => match n with | 2 => [1, 2, 7, 8, 9, 22, 23, 24, 25, 26, 27, 28, 29, 30, 31, 32, 39, 40, 41, 42, 45, 46, 47, 48, 49, 50, 51, 52, 53, 54, 55] | _ => []
theorem te_step_isKept : Tryz.prog.funcs[47]? = some Tryz.f47 ∧ fnEvOK Tryz.prog Tryz.f47 = true := ⟨by kernel_rfl, by kernel_rfl⟩
def an_step_tableOf : Nat → List Nat := fun n => match n with  | _ => []
theorem te_step_tableOf : Tryz.prog.funcs[48]? = some Tryz.f48 ∧ fnEvOK Tryz.prog Tryz.f48 = true := ⟨by kernel_rfl, by kernel_rfl⟩
def an_step_table_around : Nat → List Nat := fun n => match n with  | _ => []
theorem te_step_table_around : Tryz.prog.funcs[49]? = some Tryz.f49 ∧ fnEvOK Tryz.prog Tryz.f49 = true := ⟨by kernel_rfl, by kernel_rfl⟩
def an_step_table_off : Nat → List Nat := fun n => match n with  | _ => []
theorem te_step_table_off : Tryz.prog.funcs[50]? = some Tryz.f50 ∧ fnEvOK Tryz.prog Tryz.f50 = true := ⟨by kernel_rfl, by kernel_rfl⟩
def an_round_in : Nat → List Nat := fun n => match n with  | _ => []
theorem te_round_in : Tryz.prog.funcs[51]? = some Tryz.f51 ∧ fnEvOK Tryz.prog Tryz.f51 = true := ⟨by kernel_rfl, by kernel_rfl⟩
def an_round_isRule : Nat → List Nat := fun n => match n with  | _ => []
theorem te_round_isRule : Tryz.prog.funcs[52]? = some Tryz.f52 ∧ fnEvOK Tryz.prog Tryz.f52 = true := ⟨by kernel_rfl, by kernel_rfl⟩
def an_round_ruler_rules : Nat → List Nat := fun n => match n with  | _ => []
theorem te_round_ruler_rules : Tryz.prog.funcs[53]? = some Tryz.f53 ∧ fnEvOK Tryz.prog Tryz.f53 = true := ⟨by kernel_rfl, by kernel_rfl⟩
def an_ref09_in : Nat → List Nat := fun n => match n with  | _ => []
theorem te_ref09_in : Tryz.prog.funcs[54]? = some Tryz.f54 ∧ fnEvOK Tryz.prog Tryz.f54 = true := ⟨by kernel_rfl, by kernel_rfl⟩
def an_ref09_Person : Nat → List Nat := fun n => match n with  | _ => []
theorem te_ref09_Person : Tryz.prog.funcs[55]? = some Tryz.f55 ∧ fnEvOK Tryz.prog Tryz.f55 = true := ⟨by kernel_rfl, by kernel_rfl⟩
def an_ref02_Number : Nat → List Nat := fun n => match n with  | _ => []
theorem te_ref02_Number : Tryz.prog.funcs[56]? = some Tryz.f56 ∧ fnEvOK Tryz.prog Tryz.f56 = true := ⟨by kernel_rfl, by kernel_rfl⟩
def an_ref09_Entry : Nat → List Nat := fun n => match n with  | _ => []
theorem te_ref09_Entry : Tryz.prog.funcs[57]? = some Tryz.f57 ∧ fnEvOK Tryz.prog Tryz.f57 = true := ⟨by kernel_rfl, by kernel_rfl⟩
def an_proof_isPage : Nat → List Nat := fun n => match n with  | _ => []
theorem te_proof_isPage : Tryz.prog.funcs[58]? = some Tryz.f58 ∧ fnEvOK Tryz.prog Tryz.f58 = true := ⟨by kernel_rfl, by kernel_rfl⟩
def an_proof_pageOf : Nat → List Nat := fun n => match n with | 3 => [1, 3, 14, 15, 16] | 9 => [3, 6, 54, 55, 56] | _ => []
theorem te_proof_pageOf : Tryz.prog.funcs[59]? = some Tryz.f59 ∧ fnEvOK Tryz.prog Tryz.f59 = true := ⟨by kernel_rfl, by kernel_rfl⟩
def an_p_proof_page_differs : Nat → List Nat := fun n => match n with  | _ => []
theorem te_p_proof_page_differs : Tryz.prog.funcs[60]? = some Tryz.f60 ∧ fnEvOK Tryz.prog Tryz.f60 = true := ⟨by kernel_rfl, by kernel_rfl⟩
def an_hands_Errors : Nat → List Nat := fun n => match n with  | _ => []
theorem te_hands_Errors : Tryz.prog.funcs[61]? = some Tryz.f61 ∧ fnEvOK Tryz.prog Tryz.f61 = true := ⟨by kernel_rfl, by kernel_rfl⟩
def an_pay_isBook : Nat → List Nat := fun n => match n with  | _ => []
theorem te_pay_isBook : Tryz.prog.funcs[62]? = some Tryz.f62 ∧ fnEvOK Tryz.prog Tryz.f62 = true := ⟨by kernel_rfl, by kernel_rfl⟩
def an_pay_in : Nat → List Nat := fun n => match n with  | _ => []
theorem te_pay_in : Tryz.prog.funcs[63]? = some Tryz.f63 ∧ fnEvOK Tryz.prog Tryz.f63 = true := ⟨by kernel_rfl, by kernel_rfl⟩
def an_pay_ends : Nat → List Nat := fun n => match n with | 4 => [4, 5, 8, 9] | _ => []
theorem te_pay_ends : Tryz.prog.funcs[64]? = some Tryz.f64 ∧ fnEvOK Tryz.prog Tryz.f64 = true := ⟨by kernel_rfl, by kernel_rfl⟩
def an_pay_Owed_1 : Nat → List Nat := fun n => match n with  | _ => []
theorem te_pay_Owed_1 : Tryz.prog.funcs[65]? = some Tryz.f65 ∧ fnEvOK Tryz.prog Tryz.f65 = true := ⟨by kernel_rfl, by kernel_rfl⟩
def an_pay_account_owed : Nat → List Nat := fun n => match n with | 3 => [1, 5, 14, 15] | _ => []
theorem te_pay_account_owed : Tryz.prog.funcs[66]? = some Tryz.f66 ∧ fnEvOK Tryz.prog Tryz.f66 = true := ⟨by kernel_rfl, by kernel_rfl⟩
def an_pay_always : Nat → List Nat := fun n => match n with  | _ => []
theorem te_pay_always : Tryz.prog.funcs[67]? = some Tryz.f67 ∧ fnEvOK Tryz.prog Tryz.f67 = true := ⟨by kernel_rfl, by kernel_rfl⟩
def an_column_isSheet : Nat → List Nat := fun n => match n with  | _ => []
theorem te_column_isSheet : Tryz.prog.funcs[68]? = some Tryz.f68 ∧ fnEvOK Tryz.prog Tryz.f68 = true := ⟨by kernel_rfl, by kernel_rfl⟩
def an_column_sheetOf : Nat → List Nat := fun n => match n with | 5 => [1, 2, 3, 23, 24] | 9 => [1, 2, 3, 4, 23, 24, 32, 33] | _ => []
theorem te_column_sheetOf : Tryz.prog.funcs[69]? = some Tryz.f69 ∧ fnEvOK Tryz.prog Tryz.f69 = true := ⟨by kernel_rfl, by kernel_rfl⟩
def an_column_sheet_jumping : Nat → List Nat := fun n => match n with | 3 => [1, 3, 7, 8] | _ => []
theorem te_column_sheet_jumping : Tryz.prog.funcs[70]? = some Tryz.f70 ∧ fnEvOK Tryz.prog Tryz.f70 = true := ⟨by kernel_rfl, by kernel_rfl⟩
def an_step_table_surely : Nat → List Nat := fun n => match n with  | _ => []
theorem te_step_table_surely : Tryz.prog.funcs[71]? = some Tryz.f71 ∧ fnEvOK Tryz.prog Tryz.f71 = true := ⟨by kernel_rfl, by kernel_rfl⟩
def an_step_table_may : Nat → List Nat := fun n => match n with | 3 => [1, 3, 4] | 7 => [1, 3, 29, 30] | _ => []
theorem te_step_table_may : Tryz.prog.funcs[72]? = some Tryz.f72 ∧ fnEvOK Tryz.prog Tryz.f72 = true := ⟨by kernel_rfl, by kernel_rfl⟩
def an_step_table_doubts : Nat → List Nat := fun n => match n with | 3 => [1, 3, 9, 10, 22, 23, 24, 25, 26, 27, 28, 29] | _ => []
theorem te_step_table_doubts : Tryz.prog.funcs[73]? = some Tryz.f73 ∧ fnEvOK Tryz.prog Tryz.f73 = true := ⟨by kernel_rfl, by kernel_rfl⟩
def an_ref01_in : Nat → List Nat := fun n => match n with  | _ => []
theorem te_ref01_in : Tryz.prog.funcs[74]? = some Tryz.f74 ∧ fnEvOK Tryz.prog Tryz.f74 = true := ⟨by kernel_rfl, by kernel_rfl⟩
def an_ref01_Start : Nat → List Nat := fun n => match n with  | _ => []
theorem te_ref01_Start : Tryz.prog.funcs[75]? = some Tryz.f75 ∧ fnEvOK Tryz.prog Tryz.f75 = true := ⟨by kernel_rfl, by kernel_rfl⟩
def an_differ_rows : Nat → List Nat := fun n => match n with | 4 => [3, 4, 5, 18, 19] | _ => []
theorem te_differ_rows : Tryz.prog.funcs[76]? = some Tryz.f76 ∧ fnEvOK Tryz.prog Tryz.f76 = true := ⟨by kernel_rfl, by kernel_rfl⟩
def an_step_isTruth : Nat → List Nat := fun n => match n with | 4 => [2, 13, 14, 15] | _ => []
theorem te_step_isTruth : Tryz.prog.funcs[77]? = some Tryz.f77 ∧ fnEvOK Tryz.prog Tryz.f77 = true := ⟨by kernel_rfl, by kernel_rfl⟩
def an_step_table_right : Nat → List Nat := fun n => match n with | 2 => [1, 2, 9, 10, 11] | _ => []
theorem te_step_table_right : Tryz.prog.funcs[78]? = some Tryz.f78 ∧ fnEvOK Tryz.prog Tryz.f78 = true := ⟨by kernel_rfl, by kernel_rfl⟩
def an_step_table_figures : Nat → List Nat := fun n => match n with | 3 => [1, 2, 5, 11, 12] | _ => []
theorem te_step_table_figures : Tryz.prog.funcs[79]? = some Tryz.f79 ∧ fnEvOK Tryz.prog Tryz.f79 = true := ⟨by kernel_rfl, by kernel_rfl⟩
def an_step_best_l_int : Nat → List Nat := fun n => match n with | 3 => [0, 1, 6, 9, 10, 11, 19, 20, 21, 22] | _ => []
theorem te_step_best_l_int : Tryz.prog.funcs[80]? = some Tryz.f80 ∧ fnEvOK Tryz.prog Tryz.f80 = true := ⟨by kernel_rfl, by kernel_rfl⟩
def an_slices_Collect_l_int : Nat → List Nat := fun n => match n with  | _ => []
theorem te_slices_Collect_l_int : Tryz.prog.funcs[81]? = some Tryz.f81 ∧ fnEvOK Tryz.prog Tryz.f81 = true := ⟨by kernel_rfl, by kernel_rfl⟩
def an_step_lists : Nat → List Nat := fun n => match n with  | _ => []
theorem te_step_lists : Tryz.prog.funcs[82]? = some Tryz.f82 ∧ fnEvOK Tryz.prog Tryz.f82 = true := ⟨by kernel_rfl, by kernel_rfl⟩
def an_step_shorter : Nat → List Nat := fun n => match n with  | _ => []
theorem te_step_shorter : Tryz.prog.funcs[83]? = some Tryz.f83 ∧ fnEvOK Tryz.prog Tryz.f83 = true := ⟨by kernel_rfl, by kernel_rfl⟩
def an_law05_one : Nat → List Nat := fun n => match n with  | _ => []
theorem te_law05_one : Tryz.prog.funcs[84]? = some Tryz.f84 ∧ fnEvOK Tryz.prog Tryz.f84 = true := ⟨by kernel_rfl, by kernel_rfl⟩
def an_copies_isTree : Nat → List Nat := fun n => match n with | 4 => [1, 17, 18, 19, 32, 33, 34, 35, 36, 37, 40, 41, 42] | _ => []
theorem te_copies_isTree : Tryz.prog.funcs[85]? = some Tryz.f85 ∧ fnEvOK Tryz.prog Tryz.f85 = true := ⟨by kernel_rfl, by kernel_rfl⟩
def an_copies_readingOf : Nat → List Nat := fun n => match n with  | _ => []
theorem te_copies_readingOf : Tryz.prog.funcs[86]? = some Tryz.f86 ∧ fnEvOK Tryz.prog Tryz.f86 = true := ⟨by kernel_rfl, by kernel_rfl⟩
def an_copies_reading_errors : Nat → List Nat := fun n => match n with | 3 => [1, 3, 5] | _ => []
theorem te_copies_reading_errors : Tryz.prog.funcs[87]? = some Tryz.f87 ∧ fnEvOK Tryz.prog Tryz.f87 = true := ⟨by kernel_rfl, by kernel_rfl⟩
def an_p_proof_page_passes : Nat → List Nat := fun n => match n with  | _ => []
theorem te_p_proof_page_passes : Tryz.prog.funcs[88]? = some Tryz.f88 ∧ fnEvOK Tryz.prog Tryz.f88 = true := ⟨by kernel_rfl, by kernel_rfl⟩
def an_law09_read : Nat → List Nat := fun n => match n with  | _ => []
theorem te_law09_read : Tryz.prog.funcs[89]? = some Tryz.f89 ∧ fnEvOK Tryz.prog Tryz.f89 = true := ⟨by kernel_rfl, by kernel_rfl⟩
def an_law09_mend : Nat → List Nat := fun n => match n with  | _ => []
theorem te_law09_mend : Tryz.prog.funcs[90]? = some Tryz.f90 ∧ fnEvOK Tryz.prog Tryz.f90 = true := ⟨by kernel_rfl, by kernel_rfl⟩
def an_differ_in : Nat → List Nat := fun n => match n with  | _ => []
theorem te_differ_in : Tryz.prog.funcs[91]? = some Tryz.f91 ∧ fnEvOK Tryz.prog Tryz.f91 = true := ⟨by kernel_rfl, by kernel_rfl⟩
def an_slices_ContainsFunc_l_api_Span_api_Span : Nat → List Nat := fun n => match n with  | _ => []
theorem te_slices_ContainsFunc_l_api_Span_api_Span : Tryz.prog.funcs[92]? = some Tryz.f92 ∧ fnEvOK Tryz.prog Tryz.f92 = true := ⟨by kernel_rfl, by kernel_rfl⟩
def an_differ_isPlan_1 : Nat → List Nat := fun n => match n with  | _ => []
theorem te_differ_isPlan_1 : Tryz.prog.funcs[93]? = some Tryz.f93 ∧ fnEvOK Tryz.prog Tryz.f93 = true := ⟨by kernel_rfl, by kernel_rfl⟩
def an_differ_isStart : Nat → List Nat := fun n => match n with  | _ => []
theorem te_differ_isStart : Tryz.prog.funcs[94]? = some Tryz.f94 ∧ fnEvOK Tryz.prog Tryz.f94 = true := ⟨by kernel_rfl, by kernel_rfl⟩
def an_differ_table_state : Nat → List Nat := fun n => match n with  | _ => []
theorem te_differ_table_state : Tryz.prog.funcs[95]? = some Tryz.f95 ∧ fnEvOK Tryz.prog Tryz.f95 = true := ⟨by kernel_rfl, by kernel_rfl⟩
def an_step_isRule : Nat → List Nat := fun n => match n with  | _ => []
theorem te_step_isRule : Tryz.prog.funcs[96]? = some Tryz.f96 ∧ fnEvOK Tryz.prog Tryz.f96 = true := ⟨by kernel_rfl, by kernel_rfl⟩
def an_step_isTable_1 : Nat → List Nat := fun n => match n with  | _ => []
theorem te_step_isTable_1 : Tryz.prog.funcs[97]? = some Tryz.f97 ∧ fnEvOK Tryz.prog Tryz.f97 = true := ⟨by kernel_rfl, by kernel_rfl⟩
def an_slices_BinarySearch_l_int_int : Nat → List Nat := fun n => match n with | 3 => [0, 1, 6, 7, 8, 36, 37, 38, 39, 40, 41, 42, 43, 44, 45, 46, 47, 48, 49, 50, 51, 52] | _ => []
theorem te_slices_BinarySearch_l_int_int : Tryz.prog.funcs[98]? = some Tryz.f98 ∧ fnEvOK Tryz.prog Tryz.f98 = true := ⟨by kernel_rfl, by kernel_rfl⟩
def an_step_table_figure : Nat → List Nat := fun n => match n with  | _ => []
theorem te_step_table_figure : Tryz.prog.funcs[99]? = some Tryz.f99 ∧ fnEvOK Tryz.prog Tryz.f99 = true := ⟨by kernel_rfl, by kernel_rfl⟩
def an_step_table_end : Nat → List Nat := fun n => match n with  | _ => []
theorem te_step_table_end : Tryz.prog.funcs[100]? = some Tryz.f100 ∧ fnEvOK Tryz.prog Tryz.f100 = true := ⟨by kernel_rfl, by kernel_rfl⟩
def an_round_ruler_down : Nat → List Nat := fun n => match n with  | _ => []
theorem te_round_ruler_down : Tryz.prog.funcs[101]? = some Tryz.f101 ∧ fnEvOK Tryz.prog Tryz.f101 = true := ⟨by kernel_rfl, by kernel_rfl⟩
def an_round_ruler_up : Nat → List Nat := fun n => match n with  | _ => []
theorem te_round_ruler_up : Tryz.prog.funcs[102]? = some Tryz.f102 ∧ fnEvOK Tryz.prog Tryz.f102 = true := ⟨by kernel_rfl, by kernel_rfl⟩
def an_round_ruler_near : Nat → List Nat := fun n => match n with  | _ => []
theorem te_round_ruler_near : Tryz.prog.funcs[103]? = some Tryz.f103 ∧ fnEvOK Tryz.prog Tryz.f103 = true := ⟨by kernel_rfl, by kernel_rfl⟩
def an_round_ruler_even : Nat → List Nat := fun n => match n with  | _ => []
theorem te_round_ruler_even : Tryz.prog.funcs[104]? = some Tryz.f104 ∧ fnEvOK Tryz.prog Tryz.f104 = true := ⟨by kernel_rfl, by kernel_rfl⟩
def an_ref02_in : Nat → List Nat := fun n => match n with  | _ => []
theorem te_ref02_in : Tryz.prog.funcs[105]? = some Tryz.f105 ∧ fnEvOK Tryz.prog Tryz.f105 = true := ⟨by kernel_rfl, by kernel_rfl⟩
def an_ref09_Pair : Nat → List Nat := fun n => match n with  | _ => []
theorem te_ref09_Pair : Tryz.prog.funcs[106]? = some Tryz.f106 ∧ fnEvOK Tryz.prog Tryz.f106 = true := ⟨by kernel_rfl, by kernel_rfl⟩
def an_proof_in : Nat → List Nat := fun n => match n with  | _ => []
theorem te_proof_in : Tryz.prog.funcs[107]? = some Tryz.f107 ∧ fnEvOK Tryz.prog Tryz.f107 = true := ⟨by kernel_rfl, by kernel_rfl⟩
def an_slices_ContainsFunc_l_api_ProofLine_api_ProofLine : Nat → List Nat := fun n => match n with  | _ => []
theorem te_slices_ContainsFunc_l_api_ProofLine_api_ProofLine : Tryz.prog.funcs[108]? = some Tryz.f108 ∧ fnEvOK Tryz.prog Tryz.f108 = true := ⟨by kernel_rfl, by kernel_rfl⟩
def an_proof_isPage_1 : Nat → List Nat := fun n => match n with  | _ => []
theorem te_proof_isPage_1 : Tryz.prog.funcs[109]? = some Tryz.f109 ∧ fnEvOK Tryz.prog Tryz.f109 = true := ⟨by kernel_rfl, by kernel_rfl⟩
def an_proof_hasPerson : Nat → List Nat := fun n => match n with  | _ => []
theorem te_proof_hasPerson : Tryz.prog.funcs[110]? = some Tryz.f110 ∧ fnEvOK Tryz.prog Tryz.f110 = true := ⟨by kernel_rfl, by kernel_rfl⟩
def an_proof_isNumber : Nat → List Nat := fun n => match n with  | _ => []
theorem te_proof_isNumber : Tryz.prog.funcs[111]? = some Tryz.f111 ∧ fnEvOK Tryz.prog Tryz.f111 = true := ⟨by kernel_rfl, by kernel_rfl⟩
def an_slices_ContainsFunc_l_api_ProofEntry_api_ProofEntry : Nat → List Nat := fun n => match n with  | _ => []
theorem te_slices_ContainsFunc_l_api_ProofEntry_api_ProofEntry : Tryz.prog.funcs[112]? = some Tryz.f112 ∧ fnEvOK Tryz.prog Tryz.f112 = true := ⟨by kernel_rfl, by kernel_rfl⟩
def an_proof_isPage_2 : Nat → List Nat := fun n => match n with  | _ => []
theorem te_proof_isPage_2 : Tryz.prog.funcs[113]? = some Tryz.f113 ∧ fnEvOK Tryz.prog Tryz.f113 = true := ⟨by kernel_rfl, by kernel_rfl⟩
def an_proof_isEntry : Nat → List Nat := fun n => match n with  | _ => []
theorem te_proof_isEntry : Tryz.prog.funcs[114]? = some Tryz.f114 ∧ fnEvOK Tryz.prog Tryz.f114 = true := ⟨by kernel_rfl, by kernel_rfl⟩
def an_p_proof_page_reads : Nat → List Nat := fun n => match n with | 1 => [0, 1, 2, 6] | _ => []
theorem te_p_proof_page_reads : Tryz.prog.funcs[115]? = some Tryz.f115 ∧ fnEvOK Tryz.prog Tryz.f115 = true := ⟨by kernel_rfl, by kernel_rfl⟩
def an_p_proof_page_mends : Nat → List Nat := fun n => match n with  | _ => []
theorem te_p_proof_page_mends : Tryz.prog.funcs[116]? = some Tryz.f116 ∧ fnEvOK Tryz.prog Tryz.f116 = true := ⟨by kernel_rfl, by kernel_rfl⟩
def an_p_proof_page_falls : Nat → List Nat := fun n => match n with  | _ => []
theorem te_p_proof_page_falls : Tryz.prog.funcs[117]? = some Tryz.f117 ∧ fnEvOK Tryz.prog Tryz.f117 = true := ⟨by kernel_rfl, by kernel_rfl⟩
def an_hands_isColumn : Nat → List Nat := fun n => match n with  | _ => []
theorem te_hands_isColumn : Tryz.prog.funcs[118]? = some Tryz.f118 ∧ fnEvOK Tryz.prog Tryz.f118 = true := ⟨by kernel_rfl, by kernel_rfl⟩
def an_hands_attempt : Nat → List Nat := fun n => match n with  | _ => []
theorem te_hands_attempt : Tryz.prog.funcs[119]? = some Tryz.f119 ∧ fnEvOK Tryz.prog Tryz.f119 = true := ⟨by kernel_rfl, by kernel_rfl⟩
def an_hands_Errors_1 : Nat → List Nat := fun n => match n with  | _ => []
theorem te_hands_Errors_1 : Tryz.prog.funcs[120]? = some Tryz.f120 ∧ fnEvOK Tryz.prog Tryz.f120 = true := ⟨by kernel_rfl, by kernel_rfl⟩
def an_hands_copied : Nat → List Nat := fun n => match n with | 3 => [0, 5, 9, 10, 11] | _ => []
theorem te_hands_copied : Tryz.prog.funcs[121]? = some Tryz.f121 ∧ fnEvOK Tryz.prog Tryz.f121 = true := ⟨by kernel_rfl, by kernel_rfl⟩
def an_pay_isBook_1 : Nat → List Nat := fun n => match n with  | _ => []
theorem te_pay_isBook_1 : Tryz.prog.funcs[122]? = some Tryz.f122 ∧ fnEvOK Tryz.prog Tryz.f122 = true := ⟨by kernel_rfl, by kernel_rfl⟩
def an_slices_ContainsFunc_l_int_int : Nat → List Nat := fun n => match n with  | _ => []
theorem te_slices_ContainsFunc_l_int_int : Tryz.prog.funcs[123]? = some Tryz.f123 ∧ fnEvOK Tryz.prog Tryz.f123 = true := ⟨by kernel_rfl, by kernel_rfl⟩
def an_slices_ContainsFunc_l_api_PayLine_api_PayLine : Nat → List Nat := fun n => match n with  | _ => []
theorem te_slices_ContainsFunc_l_api_PayLine_api_PayLine : Tryz.prog.funcs[124]? = some Tryz.f124 ∧ fnEvOK Tryz.prog Tryz.f124 = true := ⟨by kernel_rfl, by kernel_rfl⟩
def an_pay_isBook_2 : Nat → List Nat := fun n => match n with  | _ => []
theorem te_pay_isBook_2 : Tryz.prog.funcs[125]? = some Tryz.f125 ∧ fnEvOK Tryz.prog Tryz.f125 = true := ⟨by kernel_rfl, by kernel_rfl⟩
def an_pay_isLine : Nat → List Nat := fun n => match n with  | _ => []
theorem te_pay_isLine : Tryz.prog.funcs[126]? = some Tryz.f126 ∧ fnEvOK Tryz.prog Tryz.f126 = true := ⟨by kernel_rfl, by kernel_rfl⟩
def an_pay_truths : Nat → List Nat := fun n => match n with  | _ => []
theorem te_pay_truths : Tryz.prog.funcs[127]? = some Tryz.f127 ∧ fnEvOK Tryz.prog Tryz.f127 = true := ⟨by kernel_rfl, by kernel_rfl⟩
def an_pay_account_sheets : Nat → List Nat := fun n => match n with  | _ => []
theorem te_pay_account_sheets : Tryz.prog.funcs[128]? = some Tryz.f128 ∧ fnEvOK Tryz.prog Tryz.f128 = true := ⟨by kernel_rfl, by kernel_rfl⟩
def an_pay_account_mornings : Nat → List Nat := fun n => match n with  | _ => []
theorem te_pay_account_mornings : Tryz.prog.funcs[129]? = some Tryz.f129 ∧ fnEvOK Tryz.prog Tryz.f129 = true := ⟨by kernel_rfl, by kernel_rfl⟩
def an_pay_account_posts : Nat → List Nat := fun n => match n with  | _ => []
theorem te_pay_account_posts : Tryz.prog.funcs[130]? = some Tryz.f130 ∧ fnEvOK Tryz.prog Tryz.f130 = true := ⟨by kernel_rfl, by kernel_rfl⟩
def an_column_in : Nat → List Nat := fun n => match n with  | _ => []
theorem te_column_in : Tryz.prog.funcs[131]? = some Tryz.f131 ∧ fnEvOK Tryz.prog Tryz.f131 = true := ⟨by kernel_rfl, by kernel_rfl⟩
def an_column_isSheet_1 : Nat → List Nat := fun n => match n with  | _ => []
theorem te_column_isSheet_1 : Tryz.prog.funcs[132]? = some Tryz.f132 ∧ fnEvOK Tryz.prog Tryz.f132 = true := ⟨by kernel_rfl, by kernel_rfl⟩
def an_column_differences : Nat → List Nat := fun n => match n with | 3 => [5, 9, 10] | 5 => [5, 9, 10, 14, 15] | 100009 => [5] | _ => []
theorem te_column_differences : Tryz.prog.funcs[133]? = some Tryz.f133 ∧ fnEvOK Tryz.prog Tryz.f133 = true := ⟨by kernel_rfl, by kernel_rfl⟩
def an_column_sheet_jumps : Nat → List Nat := fun n => match n with  | _ => []
theorem te_column_sheet_jumps : Tryz.prog.funcs[134]? = some Tryz.f134 ∧ fnEvOK Tryz.prog Tryz.f134 = true := ⟨by kernel_rfl, by kernel_rfl⟩
def an_step_attempt : Nat → List Nat := fun n => match n with  | _ => []
theorem te_step_attempt : Tryz.prog.funcs[135]? = some Tryz.f135 ∧ fnEvOK Tryz.prog Tryz.f135 = true := ⟨by kernel_rfl, by kernel_rfl⟩
def an_step_table_mustBeSure : Nat → List Nat := fun n => match n with  | _ => []
theorem te_step_table_mustBeSure : Tryz.prog.funcs[136]? = some Tryz.f136 ∧ fnEvOK Tryz.prog Tryz.f136 = true := ⟨by kernel_rfl, by kernel_rfl⟩
def an_step_table_can : Nat → List Nat := fun n => match n with | 3 => [2, 3, 4, 7, 8, 57, 58, 59, 60, 61, 62, 63, 64, 65, 66, 67, 68, 69, 70, 71, 72, 73, 74, 75, 76, 77, 78, 79, 80] | 6 => [2, 3, 4, 7, 8, 34, 35, 36, 57, 58, 59, 60, 61, 62, 63, 64, 65, 66, 67, 68, 69, 70, 71, 72, 73, 74, 75, 76, 77, 78, 79, 80] | 10 => [2, 3, 4, 7, 8, 10, 11, 12, 34, 35, 36, 57, 58, 59, 60, 61, 62, 63, 64, 65, 66, 67, 68, 69, 70, 71, 72, 73, 74, 75, 76, 77, 78, 79, 80] | _ => []
theorem te_step_table_can : Tryz.prog.funcs[137]? = some Tryz.f137 ∧ fnEvOK Tryz.prog Tryz.f137 = true := ⟨by kernel_rfl, by kernel_rfl⟩
def an_differ_end : Nat → List Nat := fun n => match n with | 4 => [1, 5, 6, 11, 12, 13] | _ => []
theorem te_differ_end : Tryz.prog.funcs[138]? = some Tryz.f138 ∧ fnEvOK Tryz.prog Tryz.f138 = true := ⟨by kernel_rfl, by kernel_rfl⟩
def an_step_far : Nat → List Nat := fun n => match n with  | _ => []
theorem te_step_far : Tryz.prog.funcs[139]? = some Tryz.f139 ∧ fnEvOK Tryz.prog Tryz.f139 = true := ⟨by kernel_rfl, by kernel_rfl⟩
def an_slices_Clone_l_int_int : Nat → List Nat := fun n => match n with  | _ => []
theorem te_slices_Clone_l_int_int : Tryz.prog.funcs[140]? = some Tryz.f140 ∧ fnEvOK Tryz.prog Tryz.f140 = true := ⟨by kernel_rfl, by kernel_rfl⟩
def an_slices_AppendSeq_l_l_int_l_int : Nat → List Nat := fun n => match n with | 2 => [2] | _ => []
theorem te_slices_AppendSeq_l_l_int_l_int : Tryz.prog.funcs[141]? = some Tryz.f141 ∧ fnEvOK Tryz.prog Tryz.f141 = true := ⟨by kernel_rfl, by kernel_rfl⟩
def an_step_lists_1 : Nat → List Nat := fun n => match n with  | _ => []
theorem te_step_lists_1 : Tryz.prog.funcs[142]? = some Tryz.f142 ∧ fnEvOK Tryz.prog Tryz.f142 = true := ⟨by kernel_rfl, by kernel_rfl⟩
def an_step_lists_1_1 : Nat → List Nat := fun n => match n with | 5 => [0, 1, 3, 4, 7, 8, 39, 40, 41, 42, 43, 44, 45, 46] | _ => []
theorem te_step_lists_1_1 : Tryz.prog.funcs[143]? = some Tryz.f143 ∧ fnEvOK Tryz.prog Tryz.f143 = true := ⟨by kernel_rfl, by kernel_rfl⟩
def an_step_table_sure : Nat → List Nat := fun n => match n with | 6 => [2, 3, 7, 8] | _ => []
theorem te_step_table_sure : Tryz.prog.funcs[144]? = some Tryz.f144 ∧ fnEvOK Tryz.prog Tryz.f144 = true := ⟨by kernel_rfl, by kernel_rfl⟩
def an_copies_in : Nat → List Nat := fun n => match n with  | _ => []
theorem te_copies_in : Tryz.prog.funcs[145]? = some Tryz.f145 ∧ fnEvOK Tryz.prog Tryz.f145 = true := ⟨by kernel_rfl, by kernel_rfl⟩
def an_copies_isTree_1 : Nat → List Nat := fun n => match n with  | _ => []
theorem te_copies_isTree_1 : Tryz.prog.funcs[146]? = some Tryz.f146 ∧ fnEvOK Tryz.prog Tryz.f146 = true := ⟨by kernel_rfl, by kernel_rfl⟩
def an_copies_isFigure : Nat → List Nat := fun n => match n with  | _ => []
theorem te_copies_isFigure : Tryz.prog.funcs[147]? = some Tryz.f147 ∧ fnEvOK Tryz.prog Tryz.f147 = true := ⟨by kernel_rfl, by kernel_rfl⟩
def an_copies_treeOf : Nat → List Nat := fun n => match n with | 3 => [2, 3, 13, 14, 15] | _ => []
theorem te_copies_treeOf : Tryz.prog.funcs[148]? = some Tryz.f148 ∧ fnEvOK Tryz.prog Tryz.f148 = true := ⟨by kernel_rfl, by kernel_rfl⟩
def an_copies_reading_least : Nat → List Nat := fun n => match n with | 8 => [2, 3, 7, 40, 41, 42] | _ => []
theorem te_copies_reading_least : Tryz.prog.funcs[149]? = some Tryz.f149 ∧ fnEvOK Tryz.prog Tryz.f149 = true := ⟨by kernel_rfl, by kernel_rfl⟩
def an_proof_attempt : Nat → List Nat := fun n => match n with  | _ => []
theorem te_proof_attempt : Tryz.prog.funcs[150]? = some Tryz.f150 ∧ fnEvOK Tryz.prog Tryz.f150 = true := ⟨by kernel_rfl, by kernel_rfl⟩
def an_p_proof_page_passes_1 : Nat → List Nat := fun n => match n with | 1 => [0, 7, 8] | _ => []
theorem te_p_proof_page_passes_1 : Tryz.prog.funcs[151]? = some Tryz.f151 ∧ fnEvOK Tryz.prog Tryz.f151 = true := ⟨by kernel_rfl, by kernel_rfl⟩
def an_p_proof_page_mustPass : Nat → List Nat := fun n => match n with  | _ => []
theorem te_p_proof_page_mustPass : Tryz.prog.funcs[152]? = some Tryz.f152 ∧ fnEvOK Tryz.prog Tryz.f152 = true := ⟨by kernel_rfl, by kernel_rfl⟩
def an_slices_IndexFunc_l_api_Span_api_Span : Nat → List Nat := fun n => match n with | 2 => [0, 1, 7, 8] | _ => []
theorem te_slices_IndexFunc_l_api_Span_api_Span : Tryz.prog.funcs[153]? = some Tryz.f153 ∧ fnEvOK Tryz.prog Tryz.f153 = true := ⟨by kernel_rfl, by kernel_rfl⟩
def an_differ_after : Nat → List Nat := fun n => match n with | 3 => [5, 9, 10] | 5 => [5, 9, 10, 14, 15] | _ => []
theorem te_differ_after : Tryz.prog.funcs[154]? = some Tryz.f154 ∧ fnEvOK Tryz.prog Tryz.f154 = true := ⟨by kernel_rfl, by kernel_rfl⟩
def an_cmp_Less_int : Nat → List Nat := fun n => match n with  | _ => []
theorem te_cmp_Less_int : Tryz.prog.funcs[155]? = some Tryz.f155 ∧ fnEvOK Tryz.prog Tryz.f155 = true := ⟨by kernel_rfl, by kernel_rfl⟩
def an_slices_isNaN_int : Nat → List Nat := fun n => match n with  | _ => []
theorem te_slices_isNaN_int : Tryz.prog.funcs[156]? = some Tryz.f156 ∧ fnEvOK Tryz.prog Tryz.f156 = true := ⟨by kernel_rfl, by kernel_rfl⟩
def an_step_sum : Nat → List Nat := fun n => match n with | 3 => [3, 6, 7, 8] | _ => []
theorem te_step_sum : Tryz.prog.funcs[157]? = some Tryz.f157 ∧ fnEvOK Tryz.prog Tryz.f157 = true := ⟨by kernel_rfl, by kernel_rfl⟩
def an_step_bounds_low : Nat → List Nat := fun n => match n with  | _ => []
theorem te_step_bounds_low : Tryz.prog.funcs[158]? = some Tryz.f158 ∧ fnEvOK Tryz.prog Tryz.f158 = true := ⟨by kernel_rfl, by kernel_rfl⟩
def an_step_bounds_high : Nat → List Nat := fun n => match n with  | _ => []
theorem te_step_bounds_high : Tryz.prog.funcs[159]? = some Tryz.f159 ∧ fnEvOK Tryz.prog Tryz.f159 = true := ⟨by kernel_rfl, by kernel_rfl⟩
def an_slices_IndexFunc_l_api_ProofLine_api_ProofLine : Nat → List Nat := fun n => match n with | 2 => [0, 1, 7, 8] | _ => []
theorem te_slices_IndexFunc_l_api_ProofLine_api_ProofLine : Tryz.prog.funcs[160]? = some Tryz.f160 ∧ fnEvOK Tryz.prog Tryz.f160 = true := ⟨by kernel_rfl, by kernel_rfl⟩
def an_slices_IndexFunc_l_api_ProofEntry_api_ProofEntry : Nat → List Nat := fun n => match n with | 2 => [0, 1, 7, 8] | _ => []
theorem te_slices_IndexFunc_l_api_ProofEntry_api_ProofEntry : Tryz.prog.funcs[161]? = some Tryz.f161 ∧ fnEvOK Tryz.prog Tryz.f161 = true := ⟨by kernel_rfl, by kernel_rfl⟩
def an_proof_hasLine : Nat → List Nat := fun n => match n with  | _ => []
theorem te_proof_hasLine : Tryz.prog.funcs[162]? = some Tryz.f162 ∧ fnEvOK Tryz.prog Tryz.f162 = true := ⟨by kernel_rfl, by kernel_rfl⟩
def an_p_proof_page_change : Nat → List Nat := fun n => match n with | 1 => [0, 1, 2, 3, 13, 14] | _ => []
theorem te_p_proof_page_change : Tryz.prog.funcs[163]? = some Tryz.f163 ∧ fnEvOK Tryz.prog Tryz.f163 = true := ⟨by kernel_rfl, by kernel_rfl⟩
def an_hands_in : Nat → List Nat := fun n => match n with  | _ => []
theorem te_hands_in : Tryz.prog.funcs[164]? = some Tryz.f164 ∧ fnEvOK Tryz.prog Tryz.f164 = true := ⟨by kernel_rfl, by kernel_rfl⟩
def an_hands_isColumn_1 : Nat → List Nat := fun n => match n with  | _ => []
theorem te_hands_isColumn_1 : Tryz.prog.funcs[165]? = some Tryz.f165 ∧ fnEvOK Tryz.prog Tryz.f165 = true := ⟨by kernel_rfl, by kernel_rfl⟩
def an_hands_isNumber : Nat → List Nat := fun n => match n with  | _ => []
theorem te_hands_isNumber : Tryz.prog.funcs[166]? = some Tryz.f166 ∧ fnEvOK Tryz.prog Tryz.f166 = true := ⟨by kernel_rfl, by kernel_rfl⟩
def an_hands_attempt_1 : Nat → List Nat := fun n => match n with  | _ => []
theorem te_hands_attempt_1 : Tryz.prog.funcs[167]? = some Tryz.f167 ∧ fnEvOK Tryz.prog Tryz.f167 = true := ⟨by kernel_rfl, by kernel_rfl⟩
def an_hands_of : Nat → List Nat := fun n => match n with  | _ => []
theorem te_hands_of : Tryz.prog.funcs[168]? = some Tryz.f168 ∧ fnEvOK Tryz.prog Tryz.f168 = true := ⟨by kernel_rfl, by kernel_rfl⟩
def an_hands_right_kind : Nat → List Nat := fun n => match n with | 3 => [1, 2, 9, 10, 17, 18, 19, 20] | _ => []
theorem te_hands_right_kind : Tryz.prog.funcs[169]? = some Tryz.f169 ∧ fnEvOK Tryz.prog Tryz.f169 = true := ⟨by kernel_rfl, by kernel_rfl⟩
def an_slices_IndexFunc_l_int_int : Nat → List Nat := fun n => match n with | 2 => [0, 1, 7, 8] | _ => []
theorem te_slices_IndexFunc_l_int_int : Tryz.prog.funcs[170]? = some Tryz.f170 ∧ fnEvOK Tryz.prog Tryz.f170 = true := ⟨by kernel_rfl, by kernel_rfl⟩
def an_slices_IndexFunc_l_api_PayLine_api_PayLine : Nat → List Nat := fun n => match n with | 2 => [0, 1, 7, 8] | _ => []
theorem te_slices_IndexFunc_l_api_PayLine_api_PayLine : Tryz.prog.funcs[171]? = some Tryz.f171 ∧ fnEvOK Tryz.prog Tryz.f171 = true := ⟨by kernel_rfl, by kernel_rfl⟩
def an_pay_isMoney : Nat → List Nat := fun n => match n with  | _ => []
theorem te_pay_isMoney : Tryz.prog.funcs[172]? = some Tryz.f172 ∧ fnEvOK Tryz.prog Tryz.f172 = true := ⟨by kernel_rfl, by kernel_rfl⟩
def an_pay_truths_1 : Nat → List Nat := fun n => match n with  | _ => []
theorem te_pay_truths_1 : Tryz.prog.funcs[173]? = some Tryz.f173 ∧ fnEvOK Tryz.prog Tryz.f173 = true := ⟨by kernel_rfl, by kernel_rfl⟩
def an_pay_truths_1_1 : Nat → List Nat := fun n => match n with | 5 => [0, 3, 6, 7] | 100007 => [0] | _ => []
theorem te_pay_truths_1_1 : Tryz.prog.funcs[174]? = some Tryz.f174 ∧ fnEvOK Tryz.prog Tryz.f174 = true := ⟨by kernel_rfl, by kernel_rfl⟩
def an_step_attempt_1 : Nat → List Nat := fun n => match n with  | _ => []
theorem te_step_attempt_1 : Tryz.prog.funcs[175]? = some Tryz.f175 ∧ fnEvOK Tryz.prog Tryz.f175 = true := ⟨by kernel_rfl, by kernel_rfl⟩
def an_differ_start_least : Nat → List Nat := fun n => match n with  | _ => []
theorem te_differ_start_least : Tryz.prog.funcs[176]? = some Tryz.f176 ∧ fnEvOK Tryz.prog Tryz.f176 = true := ⟨by kernel_rfl, by kernel_rfl⟩
def an_differ_start_most : Nat → List Nat := fun n => match n with  | _ => []
theorem te_differ_start_most : Tryz.prog.funcs[177]? = some Tryz.f177 ∧ fnEvOK Tryz.prog Tryz.f177 = true := ⟨by kernel_rfl, by kernel_rfl⟩
def an_copies_fits : Nat → List Nat := fun n => match n with  | _ => []
theorem te_copies_fits : Tryz.prog.funcs[178]? = some Tryz.f178 ∧ fnEvOK Tryz.prog Tryz.f178 = true := ⟨by kernel_rfl, by kernel_rfl⟩
def an_copies_reading_fewest : Nat → List Nat := fun n => match n with | 3 => [1, 2, 3, 7, 9] | _ => []
theorem te_copies_reading_fewest : Tryz.prog.funcs[179]? = some Tryz.f179 ∧ fnEvOK Tryz.prog Tryz.f179 = true := ⟨by kernel_rfl, by kernel_rfl⟩
def an_copies_sum : Nat → List Nat := fun n => match n with | 3 => [3, 6, 7, 8] | _ => []
theorem te_copies_sum : Tryz.prog.funcs[180]? = some Tryz.f180 ∧ fnEvOK Tryz.prog Tryz.f180 = true := ⟨by kernel_rfl, by kernel_rfl⟩
def an_proof_attempt_1 : Nat → List Nat := fun n => match n with  | _ => []
theorem te_proof_attempt_1 : Tryz.prog.funcs[181]? = some Tryz.f181 ∧ fnEvOK Tryz.prog Tryz.f181 = true := ⟨by kernel_rfl, by kernel_rfl⟩
def an_p_proof_page_readers : Nat → List Nat := fun n => match n with | 3 => [0, 1, 5, 11, 12, 24, 25, 26, 27, 28, 29, 30, 31, 32] | _ => []
theorem te_p_proof_page_readers : Tryz.prog.funcs[182]? = some Tryz.f182 ∧ fnEvOK Tryz.prog Tryz.f182 = true := ⟨by kernel_rfl, by kernel_rfl⟩
def an_cmp_isNaN_int : Nat → List Nat := fun n => match n with  | _ => []
theorem te_cmp_isNaN_int : Tryz.prog.funcs[183]? = some Tryz.f183 ∧ fnEvOK Tryz.prog Tryz.f183 = true := ⟨by kernel_rfl, by kernel_rfl⟩
def an_hands_right_turned : Nat → List Nat := fun n => match n with  | _ => []
theorem te_hands_right_turned : Tryz.prog.funcs[184]? = some Tryz.f184 ∧ fnEvOK Tryz.prog Tryz.f184 = true := ⟨by kernel_rfl, by kernel_rfl⟩
def an_hands_right_carried : Nat → List Nat := fun n => match n with  | _ => []
theorem te_hands_right_carried : Tryz.prog.funcs[185]? = some Tryz.f185 ∧ fnEvOK Tryz.prog Tryz.f185 = true := ⟨by kernel_rfl, by kernel_rfl⟩
def an_hands_right_other : Nat → List Nat := fun n => match n with  | _ => []
theorem te_hands_right_other : Tryz.prog.funcs[186]? = some Tryz.f186 ∧ fnEvOK Tryz.prog Tryz.f186 = true := ⟨by kernel_rfl, by kernel_rfl⟩
def an_hands_right_line : Nat → List Nat := fun n => match n with  | _ => []
theorem te_hands_right_line : Tryz.prog.funcs[187]? = some Tryz.f187 ∧ fnEvOK Tryz.prog Tryz.f187 = true := ⟨by kernel_rfl, by kernel_rfl⟩
def an_copies_reading_step : Nat → List Nat := fun n => match n with  | _ => []
theorem te_copies_reading_step : Tryz.prog.funcs[188]? = some Tryz.f188 ∧ fnEvOK Tryz.prog Tryz.f188 = true := ⟨by kernel_rfl, by kernel_rfl⟩
def an_hands_right_figures : Nat → List Nat := fun n => match n with  | _ => []
theorem te_hands_right_figures : Tryz.prog.funcs[189]? = some Tryz.f189 ∧ fnEvOK Tryz.prog Tryz.f189 = true := ⟨by kernel_rfl, by kernel_rfl⟩
def an_hands_signed : Nat → List Nat := fun n => match n with  | _ => []
theorem te_hands_signed : Tryz.prog.funcs[190]? = some Tryz.f190 ∧ fnEvOK Tryz.prog Tryz.f190 = true := ⟨by kernel_rfl, by kernel_rfl⟩
def dm : FuncId → Nat := fun f => match List.contains [133, 140, 174] f with | true => 1 | false => 0
noncomputable def tab : Tab := [(7, Tryz.f7, an_top_known11),
  (8, Tryz.f8, an_differ_Table),
  (9, Tryz.f9, an_top_of11),
  (10, Tryz.f10, an_ref05_Table),
  (11, Tryz.f11, an_step_Keep),
  (12, Tryz.f12, an_ref05_Kept),
  (13, Tryz.f13, an_step_Least),
  (14, Tryz.f14, an_round_To),
  (15, Tryz.f15, an_ref09_Page),
  (16, Tryz.f16, an_proof_Differs),
  (17, Tryz.f17, an_proof_Errors),
  (18, Tryz.f18, an_ref09_Line),
  (19, Tryz.f19, an_ref09_With),
  (20, Tryz.f20, an_pay_Owed),
  (21, Tryz.f21, an_ref05_Off),
  (22, Tryz.f22, an_column_Jumps),
  (23, Tryz.f23, an_step_Word),
  (24, Tryz.f24, an_step_Doubts),
  (25, Tryz.f25, an_ref01_Listed),
  (26, Tryz.f26, an_ref01_Plan),
  (27, Tryz.f27, an_ref01_Truth),
  (28, Tryz.f28, an_differ_Rows),
  (29, Tryz.f29, an_step_Right),
  (30, Tryz.f30, an_step_Figures),
  (31, Tryz.f31, an_step_Fewest),
  (32, Tryz.f32, an_law05_A),
  (33, Tryz.f33, an_copies_Fewest),
  (34, Tryz.f34, an_law07_A),
  (35, Tryz.f35, an_proof_Pass),
  (36, Tryz.f36, an_law09_B),
  (37, Tryz.f37, an_ref01_Same),
  (38, Tryz.f38, an_differ_isPlan),
  (39, Tryz.f39, an_differ_isTruth),
  (40, Tryz.f40, an_differ_table_values),
  (41, Tryz.f41, an_ref05_Value),
  (42, Tryz.f42, an_ref05_in),
  (43, Tryz.f43, an_ref04_Rule),
  (44, Tryz.f44, an_step_isTable),
  (45, Tryz.f45, an_step_in),
  (46, Tryz.f46, an_step_keep),
  (47, Tryz.f47, an_step_isKept),
  (48, Tryz.f48, an_step_tableOf),
  (49, Tryz.f49, an_step_table_around),
  (50, Tryz.f50, an_step_table_off),
  (51, Tryz.f51, an_round_in),
  (52, Tryz.f52, an_round_isRule),
  (53, Tryz.f53, an_round_ruler_rules),
  (54, Tryz.f54, an_ref09_in),
  (55, Tryz.f55, an_ref09_Person),
  (56, Tryz.f56, an_ref02_Number),
  (57, Tryz.f57, an_ref09_Entry),
  (58, Tryz.f58, an_proof_isPage),
  (59, Tryz.f59, an_proof_pageOf),
  (60, Tryz.f60, an_p_proof_page_differs),
  (61, Tryz.f61, an_hands_Errors),
  (62, Tryz.f62, an_pay_isBook),
  (63, Tryz.f63, an_pay_in),
  (64, Tryz.f64, an_pay_ends),
  (65, Tryz.f65, an_pay_Owed_1),
  (66, Tryz.f66, an_pay_account_owed),
  (67, Tryz.f67, an_pay_always),
  (68, Tryz.f68, an_column_isSheet),
  (69, Tryz.f69, an_column_sheetOf),
  (70, Tryz.f70, an_column_sheet_jumping),
  (71, Tryz.f71, an_step_table_surely),
  (72, Tryz.f72, an_step_table_may),
  (73, Tryz.f73, an_step_table_doubts),
  (74, Tryz.f74, an_ref01_in),
  (75, Tryz.f75, an_ref01_Start),
  (76, Tryz.f76, an_differ_rows),
  (77, Tryz.f77, an_step_isTruth),
  (78, Tryz.f78, an_step_table_right),
  (79, Tryz.f79, an_step_table_figures),
  (80, Tryz.f80, an_step_best_l_int),
  (81, Tryz.f81, an_slices_Collect_l_int),
  (82, Tryz.f82, an_step_lists),
  (83, Tryz.f83, an_step_shorter),
  (84, Tryz.f84, an_law05_one),
  (85, Tryz.f85, an_copies_isTree),
  (86, Tryz.f86, an_copies_readingOf),
  (87, Tryz.f87, an_copies_reading_errors),
  (88, Tryz.f88, an_p_proof_page_passes),
  (89, Tryz.f89, an_law09_read),
  (90, Tryz.f90, an_law09_mend),
  (91, Tryz.f91, an_differ_in),
  (92, Tryz.f92, an_slices_ContainsFunc_l_api_Span_api_Span),
  (93, Tryz.f93, an_differ_isPlan_1),
  (94, Tryz.f94, an_differ_isStart),
  (95, Tryz.f95, an_differ_table_state),
  (96, Tryz.f96, an_step_isRule),
  (97, Tryz.f97, an_step_isTable_1),
  (98, Tryz.f98, an_slices_BinarySearch_l_int_int),
  (99, Tryz.f99, an_step_table_figure),
  (100, Tryz.f100, an_step_table_end),
  (101, Tryz.f101, an_round_ruler_down),
  (102, Tryz.f102, an_round_ruler_up),
  (103, Tryz.f103, an_round_ruler_near),
  (104, Tryz.f104, an_round_ruler_even),
  (105, Tryz.f105, an_ref02_in),
  (106, Tryz.f106, an_ref09_Pair),
  (107, Tryz.f107, an_proof_in),
  (108, Tryz.f108, an_slices_ContainsFunc_l_api_ProofLine_api_ProofLine),
  (109, Tryz.f109, an_proof_isPage_1),
  (110, Tryz.f110, an_proof_hasPerson),
  (111, Tryz.f111, an_proof_isNumber),
  (112, Tryz.f112, an_slices_ContainsFunc_l_api_ProofEntry_api_ProofEntry),
  (113, Tryz.f113, an_proof_isPage_2),
  (114, Tryz.f114, an_proof_isEntry),
  (115, Tryz.f115, an_p_proof_page_reads),
  (116, Tryz.f116, an_p_proof_page_mends),
  (117, Tryz.f117, an_p_proof_page_falls),
  (118, Tryz.f118, an_hands_isColumn),
  (119, Tryz.f119, an_hands_attempt),
  (120, Tryz.f120, an_hands_Errors_1),
  (121, Tryz.f121, an_hands_copied),
  (122, Tryz.f122, an_pay_isBook_1),
  (123, Tryz.f123, an_slices_ContainsFunc_l_int_int),
  (124, Tryz.f124, an_slices_ContainsFunc_l_api_PayLine_api_PayLine),
  (125, Tryz.f125, an_pay_isBook_2),
  (126, Tryz.f126, an_pay_isLine),
  (127, Tryz.f127, an_pay_truths),
  (128, Tryz.f128, an_pay_account_sheets),
  (129, Tryz.f129, an_pay_account_mornings),
  (130, Tryz.f130, an_pay_account_posts),
  (131, Tryz.f131, an_column_in),
  (132, Tryz.f132, an_column_isSheet_1),
  (133, Tryz.f133, an_column_differences),
  (134, Tryz.f134, an_column_sheet_jumps),
  (135, Tryz.f135, an_step_attempt),
  (136, Tryz.f136, an_step_table_mustBeSure),
  (137, Tryz.f137, an_step_table_can),
  (138, Tryz.f138, an_differ_end),
  (139, Tryz.f139, an_step_far),
  (140, Tryz.f140, an_slices_Clone_l_int_int),
  (141, Tryz.f141, an_slices_AppendSeq_l_l_int_l_int),
  (142, Tryz.f142, an_step_lists_1),
  (143, Tryz.f143, an_step_lists_1_1),
  (144, Tryz.f144, an_step_table_sure),
  (145, Tryz.f145, an_copies_in),
  (146, Tryz.f146, an_copies_isTree_1),
  (147, Tryz.f147, an_copies_isFigure),
  (148, Tryz.f148, an_copies_treeOf),
  (149, Tryz.f149, an_copies_reading_least),
  (150, Tryz.f150, an_proof_attempt),
  (151, Tryz.f151, an_p_proof_page_passes_1),
  (152, Tryz.f152, an_p_proof_page_mustPass),
  (153, Tryz.f153, an_slices_IndexFunc_l_api_Span_api_Span),
  (154, Tryz.f154, an_differ_after),
  (155, Tryz.f155, an_cmp_Less_int),
  (156, Tryz.f156, an_slices_isNaN_int),
  (157, Tryz.f157, an_step_sum),
  (158, Tryz.f158, an_step_bounds_low),
  (159, Tryz.f159, an_step_bounds_high),
  (160, Tryz.f160, an_slices_IndexFunc_l_api_ProofLine_api_ProofLine),
  (161, Tryz.f161, an_slices_IndexFunc_l_api_ProofEntry_api_ProofEntry),
  (162, Tryz.f162, an_proof_hasLine),
  (163, Tryz.f163, an_p_proof_page_change),
  (164, Tryz.f164, an_hands_in),
  (165, Tryz.f165, an_hands_isColumn_1),
  (166, Tryz.f166, an_hands_isNumber),
  (167, Tryz.f167, an_hands_attempt_1),
  (168, Tryz.f168, an_hands_of),
  (169, Tryz.f169, an_hands_right_kind),
  (170, Tryz.f170, an_slices_IndexFunc_l_int_int),
  (171, Tryz.f171, an_slices_IndexFunc_l_api_PayLine_api_PayLine),
  (172, Tryz.f172, an_pay_isMoney),
  (173, Tryz.f173, an_pay_truths_1),
  (174, Tryz.f174, an_pay_truths_1_1),
  (175, Tryz.f175, an_step_attempt_1),
  (176, Tryz.f176, an_differ_start_least),
  (177, Tryz.f177, an_differ_start_most),
  (178, Tryz.f178, an_copies_fits),
  (179, Tryz.f179, an_copies_reading_fewest),
  (180, Tryz.f180, an_copies_sum),
  (181, Tryz.f181, an_proof_attempt_1),
  (182, Tryz.f182, an_p_proof_page_readers),
  (183, Tryz.f183, an_cmp_isNaN_int),
  (184, Tryz.f184, an_hands_right_turned),
  (185, Tryz.f185, an_hands_right_carried),
  (186, Tryz.f186, an_hands_right_other),
  (187, Tryz.f187, an_hands_right_line),
  (188, Tryz.f188, an_copies_reading_step),
  (189, Tryz.f189, an_hands_right_figures),
  (190, Tryz.f190, an_hands_signed)]
theorem tab_ok : TabOK Tryz.prog tab := ⟨te_top_known11, ⟨te_differ_Table, ⟨te_top_of11, ⟨te_ref05_Table, ⟨te_step_Keep, ⟨te_ref05_Kept, ⟨te_step_Least, ⟨te_round_To, ⟨te_ref09_Page, ⟨te_proof_Differs, ⟨te_proof_Errors, ⟨te_ref09_Line, ⟨te_ref09_With, ⟨te_pay_Owed, ⟨te_ref05_Off, ⟨te_column_Jumps, ⟨te_step_Word, ⟨te_step_Doubts, ⟨te_ref01_Listed, ⟨te_ref01_Plan, ⟨te_ref01_Truth, ⟨te_differ_Rows, ⟨te_step_Right, ⟨te_step_Figures, ⟨te_step_Fewest, ⟨te_law05_A, ⟨te_copies_Fewest, ⟨te_law07_A, ⟨te_proof_Pass, ⟨te_law09_B, ⟨te_ref01_Same, ⟨te_differ_isPlan, ⟨te_differ_isTruth, ⟨te_differ_table_values, ⟨te_ref05_Value, ⟨te_ref05_in, ⟨te_ref04_Rule, ⟨te_step_isTable, ⟨te_step_in, ⟨te_step_keep, ⟨te_step_isKept, ⟨te_step_tableOf, ⟨te_step_table_around, ⟨te_step_table_off, ⟨te_round_in, ⟨te_round_isRule, ⟨te_round_ruler_rules, ⟨te_ref09_in, ⟨te_ref09_Person, ⟨te_ref02_Number, ⟨te_ref09_Entry, ⟨te_proof_isPage, ⟨te_proof_pageOf, ⟨te_p_proof_page_differs, ⟨te_hands_Errors, ⟨te_pay_isBook, ⟨te_pay_in, ⟨te_pay_ends, ⟨te_pay_Owed_1, ⟨te_pay_account_owed, ⟨te_pay_always, ⟨te_column_isSheet, ⟨te_column_sheetOf, ⟨te_column_sheet_jumping, ⟨te_step_table_surely, ⟨te_step_table_may, ⟨te_step_table_doubts, ⟨te_ref01_in, ⟨te_ref01_Start, ⟨te_differ_rows, ⟨te_step_isTruth, ⟨te_step_table_right, ⟨te_step_table_figures, ⟨te_step_best_l_int, ⟨te_slices_Collect_l_int, ⟨te_step_lists, ⟨te_step_shorter, ⟨te_law05_one, ⟨te_copies_isTree, ⟨te_copies_readingOf, ⟨te_copies_reading_errors, ⟨te_p_proof_page_passes, ⟨te_law09_read, ⟨te_law09_mend, ⟨te_differ_in, ⟨te_slices_ContainsFunc_l_api_Span_api_Span, ⟨te_differ_isPlan_1, ⟨te_differ_isStart, ⟨te_differ_table_state, ⟨te_step_isRule, ⟨te_step_isTable_1, ⟨te_slices_BinarySearch_l_int_int, ⟨te_step_table_figure, ⟨te_step_table_end, ⟨te_round_ruler_down, ⟨te_round_ruler_up, ⟨te_round_ruler_near, ⟨te_round_ruler_even, ⟨te_ref02_in, ⟨te_ref09_Pair, ⟨te_proof_in, ⟨te_slices_ContainsFunc_l_api_ProofLine_api_ProofLine, ⟨te_proof_isPage_1, ⟨te_proof_hasPerson, ⟨te_proof_isNumber, ⟨te_slices_ContainsFunc_l_api_ProofEntry_api_ProofEntry, ⟨te_proof_isPage_2, ⟨te_proof_isEntry, ⟨te_p_proof_page_reads, ⟨te_p_proof_page_mends, ⟨te_p_proof_page_falls, ⟨te_hands_isColumn, ⟨te_hands_attempt, ⟨te_hands_Errors_1, ⟨te_hands_copied, ⟨te_pay_isBook_1, ⟨te_slices_ContainsFunc_l_int_int, ⟨te_slices_ContainsFunc_l_api_PayLine_api_PayLine, ⟨te_pay_isBook_2, ⟨te_pay_isLine, ⟨te_pay_truths, ⟨te_pay_account_sheets, ⟨te_pay_account_mornings, ⟨te_pay_account_posts, ⟨te_column_in, ⟨te_column_isSheet_1, ⟨te_column_differences, ⟨te_column_sheet_jumps, ⟨te_step_attempt, ⟨te_step_table_mustBeSure, ⟨te_step_table_can, ⟨te_differ_end, ⟨te_step_far, ⟨te_slices_Clone_l_int_int, ⟨te_slices_AppendSeq_l_l_int_l_int, ⟨te_step_lists_1, ⟨te_step_lists_1_1, ⟨te_step_table_sure, ⟨te_copies_in, ⟨te_copies_isTree_1, ⟨te_copies_isFigure, ⟨te_copies_treeOf, ⟨te_copies_reading_least, ⟨te_proof_attempt, ⟨te_p_proof_page_passes_1, ⟨te_p_proof_page_mustPass, ⟨te_slices_IndexFunc_l_api_Span_api_Span, ⟨te_differ_after, ⟨te_cmp_Less_int, ⟨te_slices_isNaN_int, ⟨te_step_sum, ⟨te_step_bounds_low, ⟨te_step_bounds_high, ⟨te_slices_IndexFunc_l_api_ProofLine_api_ProofLine, ⟨te_slices_IndexFunc_l_api_ProofEntry_api_ProofEntry, ⟨te_proof_hasLine, ⟨te_p_proof_page_change, ⟨te_hands_in, ⟨te_hands_isColumn_1, ⟨te_hands_isNumber, ⟨te_hands_attempt_1, ⟨te_hands_of, ⟨te_hands_right_kind, ⟨te_slices_IndexFunc_l_int_int, ⟨te_slices_IndexFunc_l_api_PayLine_api_PayLine, ⟨te_pay_isMoney, ⟨te_pay_truths_1, ⟨te_pay_truths_1_1, ⟨te_step_attempt_1, ⟨te_differ_start_least, ⟨te_differ_start_most, ⟨te_copies_fits, ⟨te_copies_reading_fewest, ⟨te_copies_sum, ⟨te_proof_attempt_1, ⟨te_p_proof_page_readers, ⟨te_cmp_isNaN_int, ⟨te_hands_right_turned, ⟨te_hands_right_carried, ⟨te_hands_right_other, ⟨te_hands_right_line, ⟨te_copies_reading_step, ⟨te_hands_right_figures, ⟨te_hands_signed, trivial⟩⟩⟩⟩⟩⟩⟩⟩⟩⟩⟩⟩⟩⟩⟩⟩⟩⟩⟩⟩⟩⟩⟩⟩⟩⟩⟩⟩⟩⟩⟩⟩⟩⟩⟩⟩⟩⟩⟩⟩⟩⟩⟩⟩⟩⟩⟩⟩⟩⟩⟩⟩⟩⟩⟩⟩⟩⟩⟩⟩⟩⟩⟩⟩⟩⟩⟩⟩⟩⟩⟩⟩⟩⟩⟩⟩⟩⟩⟩⟩⟩⟩⟩⟩⟩⟩⟩⟩⟩⟩⟩⟩⟩⟩⟩⟩⟩⟩⟩⟩⟩⟩⟩⟩⟩⟩⟩⟩⟩⟩⟩⟩⟩⟩⟩⟩⟩⟩⟩⟩⟩⟩⟩⟩⟩⟩⟩⟩⟩⟩⟩⟩⟩⟩⟩⟩⟩⟩⟩⟩⟩⟩⟩⟩⟩⟩⟩⟩⟩⟩⟩⟩⟩⟩⟩⟩⟩⟩⟩⟩⟩⟩⟩⟩⟩⟩⟩⟩⟩⟩⟩⟩⟩⟩⟩⟩⟩⟩⟩⟩⟩⟩⟩⟩
end Go.Vc
