/- A part of the proof: general laws of a reading of the model by abstract data, or contracts of the functions that the law calls. -/
import Derived.KernelRfl
import Derived.Test.YtonajancjagefaaGreatProg
import Derived.Test.YtonajancjagefaaGreatVc21
set_option maxRecDepth 100000
namespace Go.Vc
open Go Go.Proofs Go.RowKit
def an_ref09_Page : Nat → List Nat := fun n => match n with | 4 => [1, 3, 39, 40, 41, 42, 43, 44, 45, 46, 49, 50, 51, 52, 53, 54, 55, 56] | 9 => [1, 4] | _ => []
theorem te_ref09_Page : Tryz.prog.funcs[4]? = some Tryz.f4 ∧ fnEvOK Tryz.prog Tryz.f4 = true := ⟨by kernel_rfl, by kernel_rfl⟩
def an_top_known11 : Nat → List Nat := fun n => match n with  | _ => []
theorem te_top_known11 : Tryz.prog.funcs[5]? = some Tryz.f5 ∧ fnEvOK Tryz.prog Tryz.f5 = true := ⟨by kernel_rfl, by kernel_rfl⟩
def an_proof_Differs : Nat → List Nat := fun n => match n with | 6 => [4, 5, 14, 15] | _ => []
theorem te_proof_Differs : Tryz.prog.funcs[6]? = some Tryz.f6 ∧ fnEvOK Tryz.prog Tryz.f6 = true := ⟨by kernel_rfl, by kernel_rfl⟩
def an_proof_Errors : Nat → List Nat := fun n => match n with | 5 => [1, 4, 11, 12, 13] | _ => []
theorem te_proof_Errors : Tryz.prog.funcs[7]? = some Tryz.f7 ∧ fnEvOK Tryz.prog Tryz.f7 = true := ⟨by kernel_rfl, by kernel_rfl⟩
def an_ref09_Line : Nat → List Nat := fun n => match n with  | _ => []
theorem te_ref09_Line : Tryz.prog.funcs[8]? = some Tryz.f8 ∧ fnEvOK Tryz.prog Tryz.f8 = true := ⟨by kernel_rfl, by kernel_rfl⟩
def an_ref09_With : Nat → List Nat := fun n => match n with  | _ => []
theorem te_ref09_With : Tryz.prog.funcs[9]? = some Tryz.f9 ∧ fnEvOK Tryz.prog Tryz.f9 = true := ⟨by kernel_rfl, by kernel_rfl⟩
def an_pay_Owed : Nat → List Nat := fun n => match n with  | _ => []
theorem te_pay_Owed : Tryz.prog.funcs[10]? = some Tryz.f10 ∧ fnEvOK Tryz.prog Tryz.f10 = true := ⟨by kernel_rfl, by kernel_rfl⟩
def an_ref09_in : Nat → List Nat := fun n => match n with  | _ => []
theorem te_ref09_in : Tryz.prog.funcs[11]? = some Tryz.f11 ∧ fnEvOK Tryz.prog Tryz.f11 = true := ⟨by kernel_rfl, by kernel_rfl⟩
def an_ref09_Person : Nat → List Nat := fun n => match n with  | _ => []
theorem te_ref09_Person : Tryz.prog.funcs[12]? = some Tryz.f12 ∧ fnEvOK Tryz.prog Tryz.f12 = true := ⟨by kernel_rfl, by kernel_rfl⟩
def an_ref02_Number : Nat → List Nat := fun n => match n with  | _ => []
theorem te_ref02_Number : Tryz.prog.funcs[13]? = some Tryz.f13 ∧ fnEvOK Tryz.prog Tryz.f13 = true := ⟨by kernel_rfl, by kernel_rfl⟩
def an_ref09_Entry : Nat → List Nat := fun n => match n with  | _ => []
theorem te_ref09_Entry : Tryz.prog.funcs[14]? = some Tryz.f14 ∧ fnEvOK Tryz.prog Tryz.f14 = true := ⟨by kernel_rfl, by kernel_rfl⟩
def an_step_Fewest : Nat → List Nat := fun n => match n with  | _ => []
theorem te_step_Fewest : Tryz.prog.funcs[15]? = some Tryz.f15 ∧ fnEvOK Tryz.prog Tryz.f15 = true := ⟨by kernel_rfl, by kernel_rfl⟩
def an_law05_A : Nat → List Nat := fun n => match n with  | _ => []
theorem te_law05_A : Tryz.prog.funcs[16]? = some Tryz.f16 ∧ fnEvOK Tryz.prog Tryz.f16 = true := ⟨by kernel_rfl, by kernel_rfl⟩
def an_copies_Fewest : Nat → List Nat := fun n => match n with | 5 => [1, 4, 10, 11] | _ => []
theorem te_copies_Fewest : Tryz.prog.funcs[17]? = some Tryz.f17 ∧ fnEvOK Tryz.prog Tryz.f17 = true := ⟨by kernel_rfl, by kernel_rfl⟩
def an_law07_A : Nat → List Nat := fun n => match n with  | _ => []
theorem te_law07_A : Tryz.prog.funcs[18]? = some Tryz.f18 ∧ fnEvOK Tryz.prog Tryz.f18 = true := ⟨by kernel_rfl, by kernel_rfl⟩
def an_proof_Pass : Nat → List Nat := fun n => match n with  | _ => []
theorem te_proof_Pass : Tryz.prog.funcs[19]? = some Tryz.f19 ∧ fnEvOK Tryz.prog Tryz.f19 = true := ⟨by kernel_rfl, by kernel_rfl⟩
def an_law09_B : Nat → List Nat := fun n => match n with  | _ => []
theorem te_law09_B : Tryz.prog.funcs[20]? = some Tryz.f20 ∧ fnEvOK Tryz.prog Tryz.f20 = true := ⟨by kernel_rfl, by kernel_rfl⟩
def an_ref01_Same : Nat → List Nat := fun n => match n with | 4 => [0, 1, 5] | _ => []
theorem te_ref01_Same : Tryz.prog.funcs[21]? = some Tryz.f21 ∧ fnEvOK Tryz.prog Tryz.f21 = true := ⟨by kernel_rfl, by kernel_rfl⟩
def an_proof_isPage : Nat → List Nat := fun n => match n with  | _ => []
theorem te_proof_isPage : Tryz.prog.funcs[22]? = some Tryz.f22 ∧ fnEvOK Tryz.prog Tryz.f22 = true := ⟨by kernel_rfl, by kernel_rfl⟩
def an_proof_pageOf : Nat → List Nat := fun n => match n with | 3 => [1, 3, 14, 15, 16] | 9 => [3, 6, 54, 55, 56] | _ => []
theorem te_proof_pageOf : Tryz.prog.funcs[23]? = some Tryz.f23 ∧ fnEvOK Tryz.prog Tryz.f23 = true := ⟨by kernel_rfl, by kernel_rfl⟩
def an_p_proof_page_differs : Nat → List Nat := fun n => match n with  | _ => []
theorem te_p_proof_page_differs : Tryz.prog.funcs[24]? = some Tryz.f24 ∧ fnEvOK Tryz.prog Tryz.f24 = true := ⟨by kernel_rfl, by kernel_rfl⟩
def an_hands_Errors : Nat → List Nat := fun n => match n with  | _ => []
theorem te_hands_Errors : Tryz.prog.funcs[25]? = some Tryz.f25 ∧ fnEvOK Tryz.prog Tryz.f25 = true := ⟨by kernel_rfl, by kernel_rfl⟩
def an_pay_isBook : Nat → List Nat := fun n => match n with  | _ => []
theorem te_pay_isBook : Tryz.prog.funcs[26]? = some Tryz.f26 ∧ fnEvOK Tryz.prog Tryz.f26 = true := ⟨by kernel_rfl, by kernel_rfl⟩
def an_pay_in : Nat → List Nat := fun n => match n with  | _ => []
theorem te_pay_in : Tryz.prog.funcs[27]? = some Tryz.f27 ∧ fnEvOK Tryz.prog Tryz.f27 = true := ⟨by kernel_rfl, by kernel_rfl⟩
def an_pay_ends : Nat → List Nat := fun n => match n with | 4 => [4, 5, 8, 9] | _ => []
theorem te_pay_ends : Tryz.prog.funcs[28]? = some Tryz.f28 ∧ fnEvOK Tryz.prog Tryz.f28 = true := ⟨by kernel_rfl, by kernel_rfl⟩
def an_pay_Owed_1 : Nat → List Nat := fun n => match n with  | _ => []
theorem te_pay_Owed_1 : Tryz.prog.funcs[29]? = some Tryz.f29 ∧ fnEvOK Tryz.prog Tryz.f29 = true := ⟨by kernel_rfl, by kernel_rfl⟩
def an_pay_account_owed : Nat → List Nat := fun n => match n with | 3 => [1, 5, 14, 15] | _ => []
theorem te_pay_account_owed : Tryz.prog.funcs[30]? = some Tryz.f30 ∧ fnEvOK Tryz.prog Tryz.f30 = true := ⟨by kernel_rfl, by kernel_rfl⟩
def an_pay_always : Nat → List Nat := fun n => match n with  | _ => []
theorem te_pay_always : Tryz.prog.funcs[31]? = some Tryz.f31 ∧ fnEvOK Tryz.prog Tryz.f31 = true := ⟨by kernel_rfl, by kernel_rfl⟩
def an_ref02_in : Nat → List Nat := fun n => match n with  | _ => []
theorem te_ref02_in : Tryz.prog.funcs[32]? = some Tryz.f32 ∧ fnEvOK Tryz.prog Tryz.f32 = true := ⟨by kernel_rfl, by kernel_rfl⟩
def an_ref09_Pair : Nat → List Nat := fun n => match n with  | _ => []
theorem te_ref09_Pair : Tryz.prog.funcs[33]? = some Tryz.f33 ∧ fnEvOK Tryz.prog Tryz.f33 = true := ⟨by kernel_rfl, by kernel_rfl⟩
def an_step_isTable : Nat → List Nat := fun n => match n with  | _ => []
theorem te_step_isTable : Tryz.prog.funcs[34]? = some Tryz.f34 ∧ fnEvOK Tryz.prog Tryz.f34 = true := ⟨by kernel_rfl, by kernel_rfl⟩
def an_step_best_l_int : Nat → List Nat := fun n => match n with | 3 => [0, 1, 6, 9, 10, 11, 19, 20, 21, 22] | _ => []
theorem te_step_best_l_int : Tryz.prog.funcs[35]? = some Tryz.f35 ∧ fnEvOK Tryz.prog Tryz.f35 = true := ⟨by kernel_rfl, by kernel_rfl⟩
def an_slices_Collect_l_int : Nat → List Nat := fun n => match n with  | _ => []
theorem te_slices_Collect_l_int : Tryz.prog.funcs[36]? = some Tryz.f36 ∧ fnEvOK Tryz.prog Tryz.f36 = true := ⟨by kernel_rfl, by kernel_rfl⟩
def an_step_lists : Nat → List Nat := fun n => match n with  | _ => []
theorem te_step_lists : Tryz.prog.funcs[37]? = some Tryz.f37 ∧ fnEvOK Tryz.prog Tryz.f37 = true := ⟨by kernel_rfl, by kernel_rfl⟩
def an_step_shorter : Nat → List Nat := fun n => match n with  | _ => []
theorem te_step_shorter : Tryz.prog.funcs[38]? = some Tryz.f38 ∧ fnEvOK Tryz.prog Tryz.f38 = true := ⟨by kernel_rfl, by kernel_rfl⟩
def an_law05_one : Nat → List Nat := fun n => match n with  | _ => []
theorem te_law05_one : Tryz.prog.funcs[39]? = some Tryz.f39 ∧ fnEvOK Tryz.prog Tryz.f39 = true := ⟨by kernel_rfl, by kernel_rfl⟩
def an_copies_isTree : Nat → List Nat := fun n => match n with | 4 => [1, 17, 18, 19, 32, 33, 34, 35, 36, 37, 40, 41, 42] | _ => []
theorem te_copies_isTree : Tryz.prog.funcs[40]? = some Tryz.f40 ∧ fnEvOK Tryz.prog Tryz.f40 = true := ⟨by kernel_rfl, by kernel_rfl⟩
def an_copies_readingOf : Nat → List Nat := fun n => match n with  | _ => []
theorem te_copies_readingOf : Tryz.prog.funcs[41]? = some Tryz.f41 ∧ fnEvOK Tryz.prog Tryz.f41 = true := ⟨by kernel_rfl, by kernel_rfl⟩
def an_copies_reading_errors : Nat → List Nat := fun n => match n with | 3 => [1, 3, 5] | _ => []
theorem te_copies_reading_errors : Tryz.prog.funcs[42]? = some Tryz.f42 ∧ fnEvOK Tryz.prog Tryz.f42 = true := ⟨by kernel_rfl, by kernel_rfl⟩
def an_p_proof_page_passes : Nat → List Nat := fun n => match n with  | _ => []
theorem te_p_proof_page_passes : Tryz.prog.funcs[43]? = some Tryz.f43 ∧ fnEvOK Tryz.prog Tryz.f43 = true := ⟨by kernel_rfl, by kernel_rfl⟩
def an_law09_read : Nat → List Nat := fun n => match n with  | _ => []
theorem te_law09_read : Tryz.prog.funcs[44]? = some Tryz.f44 ∧ fnEvOK Tryz.prog Tryz.f44 = true := ⟨by kernel_rfl, by kernel_rfl⟩
def an_law09_mend : Nat → List Nat := fun n => match n with  | _ => []
theorem te_law09_mend : Tryz.prog.funcs[45]? = some Tryz.f45 ∧ fnEvOK Tryz.prog Tryz.f45 = true := ⟨by kernel_rfl, by kernel_rfl⟩
def an_proof_in : Nat → List Nat := fun n => match n with  | _ => []
theorem te_proof_in : Tryz.prog.funcs[46]? = some Tryz.f46 ∧ fnEvOK Tryz.prog Tryz.f46 = true := ⟨by kernel_rfl, by kernel_rfl⟩
def an_slices_ContainsFunc_l_api_ProofLine_api_ProofLine : Nat → List Nat := fun n => match n with  | _ => []
theorem te_slices_ContainsFunc_l_api_ProofLine_api_ProofLine : Tryz.prog.funcs[47]? = some Tryz.f47 ∧ fnEvOK Tryz.prog Tryz.f47 = true := ⟨by kernel_rfl, by kernel_rfl⟩
def an_proof_isPage_1 : Nat → List Nat := fun n => match n with  | _ => []
theorem te_proof_isPage_1 : Tryz.prog.funcs[48]? = some Tryz.f48 ∧ fnEvOK Tryz.prog Tryz.f48 = true := ⟨by kernel_rfl, by kernel_rfl⟩
def an_proof_hasPerson : Nat → List Nat := fun n => match n with  | _ => []
theorem te_proof_hasPerson : Tryz.prog.funcs[49]? = some Tryz.f49 ∧ fnEvOK Tryz.prog Tryz.f49 = true := ⟨by kernel_rfl, by kernel_rfl⟩
def an_proof_isNumber : Nat → List Nat := fun n => match n with  | _ => []
theorem te_proof_isNumber : Tryz.prog.funcs[50]? = some Tryz.f50 ∧ fnEvOK Tryz.prog Tryz.f50 = true := ⟨by kernel_rfl, by kernel_rfl⟩
def an_slices_ContainsFunc_l_api_ProofEntry_api_ProofEntry : Nat → List Nat := fun n => match n with  | _ => []
theorem te_slices_ContainsFunc_l_api_ProofEntry_api_ProofEntry : Tryz.prog.funcs[51]? = some Tryz.f51 ∧ fnEvOK Tryz.prog Tryz.f51 = true := ⟨by kernel_rfl, by kernel_rfl⟩
def an_proof_isPage_2 : Nat → List Nat := fun n => match n with  | _ => []
theorem te_proof_isPage_2 : Tryz.prog.funcs[52]? = some Tryz.f52 ∧ fnEvOK Tryz.prog Tryz.f52 = true := ⟨by kernel_rfl, by kernel_rfl⟩
def an_proof_isEntry : Nat → List Nat := fun n => match n with  | _ => []
theorem te_proof_isEntry : Tryz.prog.funcs[53]? = some Tryz.f53 ∧ fnEvOK Tryz.prog Tryz.f53 = true := ⟨by kernel_rfl, by kernel_rfl⟩
def an_p_proof_page_reads : Nat → List Nat := fun n => match n with | 1 => [0, 1, 2, 6] | _ => []
theorem te_p_proof_page_reads : Tryz.prog.funcs[54]? = some Tryz.f54 ∧ fnEvOK Tryz.prog Tryz.f54 = true := ⟨by kernel_rfl, by kernel_rfl⟩
def an_p_proof_page_mends : Nat → List Nat := fun n => match n with  | _ => []
theorem te_p_proof_page_mends : Tryz.prog.funcs[55]? = some Tryz.f55 ∧ fnEvOK Tryz.prog Tryz.f55 = true := ⟨by kernel_rfl, by kernel_rfl⟩
def an_p_proof_page_falls : Nat → List Nat := fun n => match n with  | _ => []
theorem te_p_proof_page_falls : Tryz.prog.funcs[56]? = some Tryz.f56 ∧ fnEvOK Tryz.prog Tryz.f56 = true := ⟨by kernel_rfl, by kernel_rfl⟩
def an_hands_isColumn : Nat → List Nat := fun n => match n with  | _ => []
theorem te_hands_isColumn : Tryz.prog.funcs[57]? = some Tryz.f57 ∧ fnEvOK Tryz.prog Tryz.f57 = true := ⟨by kernel_rfl, by kernel_rfl⟩
def an_hands_attempt : Nat → List Nat := fun n => match n with  | _ => []
theorem te_hands_attempt : Tryz.prog.funcs[58]? = some Tryz.f58 ∧ fnEvOK Tryz.prog Tryz.f58 = true := ⟨by kernel_rfl, by kernel_rfl⟩
def an_hands_Errors_1 : Nat → List Nat := fun n => match n with  | _ => []
theorem te_hands_Errors_1 : Tryz.prog.funcs[59]? = some Tryz.f59 ∧ fnEvOK Tryz.prog Tryz.f59 = true := ⟨by kernel_rfl, by kernel_rfl⟩
def an_hands_copied : Nat → List Nat := fun n => match n with | 3 => [0, 5, 9, 10, 11] | _ => []
theorem te_hands_copied : Tryz.prog.funcs[60]? = some Tryz.f60 ∧ fnEvOK Tryz.prog Tryz.f60 = true := ⟨by kernel_rfl, by kernel_rfl⟩
def an_pay_isBook_1 : Nat → List Nat := fun n => match n with  | _ => []
theorem te_pay_isBook_1 : Tryz.prog.funcs[61]? = some Tryz.f61 ∧ fnEvOK Tryz.prog Tryz.f61 = true := ⟨by kernel_rfl, by kernel_rfl⟩
def an_slices_ContainsFunc_l_int_int : Nat → List Nat := fun n => match n with  | _ => []
theorem te_slices_ContainsFunc_l_int_int : Tryz.prog.funcs[62]? = some Tryz.f62 ∧ fnEvOK Tryz.prog Tryz.f62 = true := ⟨by kernel_rfl, by kernel_rfl⟩
def an_slices_ContainsFunc_l_api_PayLine_api_PayLine : Nat → List Nat := fun n => match n with  | _ => []
theorem te_slices_ContainsFunc_l_api_PayLine_api_PayLine : Tryz.prog.funcs[63]? = some Tryz.f63 ∧ fnEvOK Tryz.prog Tryz.f63 = true := ⟨by kernel_rfl, by kernel_rfl⟩
def an_pay_isBook_2 : Nat → List Nat := fun n => match n with  | _ => []
theorem te_pay_isBook_2 : Tryz.prog.funcs[64]? = some Tryz.f64 ∧ fnEvOK Tryz.prog Tryz.f64 = true := ⟨by kernel_rfl, by kernel_rfl⟩
def an_pay_isLine : Nat → List Nat := fun n => match n with  | _ => []
theorem te_pay_isLine : Tryz.prog.funcs[65]? = some Tryz.f65 ∧ fnEvOK Tryz.prog Tryz.f65 = true := ⟨by kernel_rfl, by kernel_rfl⟩
def an_pay_truths : Nat → List Nat := fun n => match n with  | _ => []
theorem te_pay_truths : Tryz.prog.funcs[66]? = some Tryz.f66 ∧ fnEvOK Tryz.prog Tryz.f66 = true := ⟨by kernel_rfl, by kernel_rfl⟩
def an_pay_account_sheets : Nat → List Nat := fun n => match n with  | _ => []
theorem te_pay_account_sheets : Tryz.prog.funcs[67]? = some Tryz.f67 ∧ fnEvOK Tryz.prog Tryz.f67 = true := ⟨by kernel_rfl, by kernel_rfl⟩
def an_pay_account_mornings : Nat → List Nat := fun n => match n with  | _ => []
theorem te_pay_account_mornings : Tryz.prog.funcs[68]? = some Tryz.f68 ∧ fnEvOK Tryz.prog Tryz.f68 = true := ⟨by kernel_rfl, by kernel_rfl⟩
def an_pay_account_posts : Nat → List Nat := fun n => match n with  | _ => []
theorem te_pay_account_posts : Tryz.prog.funcs[69]? = some Tryz.f69 ∧ fnEvOK Tryz.prog Tryz.f69 = true := ⟨by kernel_rfl, by kernel_rfl⟩
def an_step_in : Nat → List Nat := fun n => match n with  | _ => []
theorem te_step_in : Tryz.prog.funcs[70]? = some Tryz.f70 ∧ fnEvOK Tryz.prog Tryz.f70 = true := ⟨by kernel_rfl, by kernel_rfl⟩
def an_step_isRule : Nat → List Nat := fun n => match n with  | _ => []
theorem te_step_isRule : Tryz.prog.funcs[71]? = some Tryz.f71 ∧ fnEvOK Tryz.prog Tryz.f71 = true := ⟨by kernel_rfl, by kernel_rfl⟩
def an_slices_ContainsFunc_l_api_Span_api_Span : Nat → List Nat := fun n => match n with  | _ => []
theorem te_slices_ContainsFunc_l_api_Span_api_Span : Tryz.prog.funcs[72]? = some Tryz.f72 ∧ fnEvOK Tryz.prog Tryz.f72 = true := ⟨by kernel_rfl, by kernel_rfl⟩
def an_step_isTable_1 : Nat → List Nat := fun n => match n with  | _ => []
theorem te_step_isTable_1 : Tryz.prog.funcs[73]? = some Tryz.f73 ∧ fnEvOK Tryz.prog Tryz.f73 = true := ⟨by kernel_rfl, by kernel_rfl⟩
def an_slices_AppendSeq_l_l_int_l_int : Nat → List Nat := fun n => match n with | 2 => [2] | _ => []
theorem te_slices_AppendSeq_l_l_int_l_int : Tryz.prog.funcs[74]? = some Tryz.f74 ∧ fnEvOK Tryz.prog Tryz.f74 = true := ⟨by kernel_rfl, by kernel_rfl⟩
def an_step_lists_1 : Nat → List Nat := fun n => match n with  | _ => []
theorem te_step_lists_1 : Tryz.prog.funcs[75]? = some Tryz.f75 ∧ fnEvOK Tryz.prog Tryz.f75 = true := ⟨by kernel_rfl, by kernel_rfl⟩
def an_step_tableOf : Nat → List Nat := fun n => match n with  | _ => []
theorem te_step_tableOf : Tryz.prog.funcs[76]? = some Tryz.f76 ∧ fnEvOK Tryz.prog Tryz.f76 = true := ⟨by kernel_rfl, by kernel_rfl⟩
def an_step_lists_1_1 : Nat → List Nat := fun n => match n with | 5 => [0, 1, 3, 4, 7, 8, 39, 40, 41, 42, 43, 44, 45, 46] | _ => []
theorem te_step_lists_1_1 : Tryz.prog.funcs[77]? = some Tryz.f77 ∧ fnEvOK Tryz.prog Tryz.f77 = true := ⟨by kernel_rfl, by kernel_rfl⟩
def an_step_table_sure : Nat → List Nat := fun n => match n with | 6 => [2, 3, 7, 8] | _ => []
theorem te_step_table_sure : Tryz.prog.funcs[78]? = some Tryz.f78 ∧ fnEvOK Tryz.prog Tryz.f78 = true := ⟨by kernel_rfl, by kernel_rfl⟩
def an_slices_Clone_l_int_int : Nat → List Nat := fun n => match n with  | _ => []
theorem te_slices_Clone_l_int_int : Tryz.prog.funcs[79]? = some Tryz.f79 ∧ fnEvOK Tryz.prog Tryz.f79 = true := ⟨by kernel_rfl, by kernel_rfl⟩
def an_copies_in : Nat → List Nat := fun n => match n with  | _ => []
theorem te_copies_in : Tryz.prog.funcs[80]? = some Tryz.f80 ∧ fnEvOK Tryz.prog Tryz.f80 = true := ⟨by kernel_rfl, by kernel_rfl⟩
def an_copies_isTree_1 : Nat → List Nat := fun n => match n with  | _ => []
theorem te_copies_isTree_1 : Tryz.prog.funcs[81]? = some Tryz.f81 ∧ fnEvOK Tryz.prog Tryz.f81 = true := ⟨by kernel_rfl, by kernel_rfl⟩
def an_copies_isFigure : Nat → List Nat := fun n => match n with  | _ => []
theorem te_copies_isFigure : Tryz.prog.funcs[82]? = some Tryz.f82 ∧ fnEvOK Tryz.prog Tryz.f82 = true := ⟨by kernel_rfl, by kernel_rfl⟩
def an_copies_treeOf : Nat → List Nat := fun n => match n with | 3 => [2, 3, 13, 14, 15] | _ => []
theorem te_copies_treeOf : Tryz.prog.funcs[83]? = some Tryz.f83 ∧ fnEvOK Tryz.prog Tryz.f83 = true := ⟨by kernel_rfl, by kernel_rfl⟩
def an_copies_reading_least : Nat → List Nat := fun n => match n with | 8 => [2, 3, 7, 40, 41, 42] | _ => []
theorem te_copies_reading_least : Tryz.prog.funcs[84]? = some Tryz.f84 ∧ fnEvOK Tryz.prog Tryz.f84 = true := ⟨by kernel_rfl, by kernel_rfl⟩
def an_proof_attempt : Nat → List Nat := fun n => match n with  | _ => []
theorem te_proof_attempt : Tryz.prog.funcs[85]? = some Tryz.f85 ∧ fnEvOK Tryz.prog Tryz.f85 = true := ⟨by kernel_rfl, by kernel_rfl⟩
def an_p_proof_page_passes_1 : Nat → List Nat := fun n => match n with | 1 => [0, 7, 8] | _ => []
theorem te_p_proof_page_passes_1 : Tryz.prog.funcs[86]? = some Tryz.f86 ∧ fnEvOK Tryz.prog Tryz.f86 = true := ⟨by kernel_rfl, by kernel_rfl⟩
def an_p_proof_page_mustPass : Nat → List Nat := fun n => match n with  | _ => []
theorem te_p_proof_page_mustPass : Tryz.prog.funcs[87]? = some Tryz.f87 ∧ fnEvOK Tryz.prog Tryz.f87 = true := ⟨by kernel_rfl, by kernel_rfl⟩
def an_slices_IndexFunc_l_api_ProofLine_api_ProofLine : Nat → List Nat := fun n => match n with | 2 => [0, 1, 7, 8] | _ => []
theorem te_slices_IndexFunc_l_api_ProofLine_api_ProofLine : Tryz.prog.funcs[88]? = some Tryz.f88 ∧ fnEvOK Tryz.prog Tryz.f88 = true := ⟨by kernel_rfl, by kernel_rfl⟩
def an_slices_IndexFunc_l_api_ProofEntry_api_ProofEntry : Nat → List Nat := fun n => match n with | 2 => [0, 1, 7, 8] | _ => []
theorem te_slices_IndexFunc_l_api_ProofEntry_api_ProofEntry : Tryz.prog.funcs[89]? = some Tryz.f89 ∧ fnEvOK Tryz.prog Tryz.f89 = true := ⟨by kernel_rfl, by kernel_rfl⟩
def an_proof_hasLine : Nat → List Nat := fun n => match n with  | _ => []
theorem te_proof_hasLine : Tryz.prog.funcs[90]? = some Tryz.f90 ∧ fnEvOK Tryz.prog Tryz.f90 = true := ⟨by kernel_rfl, by kernel_rfl⟩
def an_p_proof_page_change : Nat → List Nat := fun n => match n with | 1 => [0, 1, 2, 3, 13, 14] | _ => []
theorem te_p_proof_page_change : Tryz.prog.funcs[91]? = some Tryz.f91 ∧ fnEvOK Tryz.prog Tryz.f91 = true := ⟨by kernel_rfl, by kernel_rfl⟩
def an_hands_in : Nat → List Nat := fun n => match n with  | _ => []
theorem te_hands_in : Tryz.prog.funcs[92]? = some Tryz.f92 ∧ fnEvOK Tryz.prog Tryz.f92 = true := ⟨by kernel_rfl, by kernel_rfl⟩
def an_hands_isColumn_1 : Nat → List Nat := fun n => match n with  | _ => []
theorem te_hands_isColumn_1 : Tryz.prog.funcs[93]? = some Tryz.f93 ∧ fnEvOK Tryz.prog Tryz.f93 = true := ⟨by kernel_rfl, by kernel_rfl⟩
def an_hands_isNumber : Nat → List Nat := fun n => match n with  | _ => []
theorem te_hands_isNumber : Tryz.prog.funcs[94]? = some Tryz.f94 ∧ fnEvOK Tryz.prog Tryz.f94 = true := ⟨by kernel_rfl, by kernel_rfl⟩
def an_hands_attempt_1 : Nat → List Nat := fun n => match n with  | _ => []
theorem te_hands_attempt_1 : Tryz.prog.funcs[95]? = some Tryz.f95 ∧ fnEvOK Tryz.prog Tryz.f95 = true := ⟨by kernel_rfl, by kernel_rfl⟩
def an_hands_of : Nat → List Nat := fun n => match n with  | _ => []
theorem te_hands_of : Tryz.prog.funcs[96]? = some Tryz.f96 ∧ fnEvOK Tryz.prog Tryz.f96 = true := ⟨by kernel_rfl, by kernel_rfl⟩
def an_hands_right_kind : Nat → List Nat := fun n => match n with | 3 => [1, 2, 9, 10, 17, 18, 19, 20] | _ => []
theorem te_hands_right_kind : Tryz.prog.funcs[97]? = some Tryz.f97 ∧ fnEvOK Tryz.prog Tryz.f97 = true := ⟨by kernel_rfl, by kernel_rfl⟩
def an_slices_IndexFunc_l_int_int : Nat → List Nat := fun n => match n with | 2 => [0, 1, 7, 8] | _ => []
theorem te_slices_IndexFunc_l_int_int : Tryz.prog.funcs[98]? = some Tryz.f98 ∧ fnEvOK Tryz.prog Tryz.f98 = true := ⟨by kernel_rfl, by kernel_rfl⟩
def an_slices_IndexFunc_l_api_PayLine_api_PayLine : Nat → List Nat := fun n => match n with | 2 => [0, 1, 7, 8] | _ => []
theorem te_slices_IndexFunc_l_api_PayLine_api_PayLine : Tryz.prog.funcs[99]? = some Tryz.f99 ∧ fnEvOK Tryz.prog Tryz.f99 = true := ⟨by kernel_rfl, by kernel_rfl⟩
def an_pay_isMoney : Nat → List Nat := fun n => match n with  | _ => []
theorem te_pay_isMoney : Tryz.prog.funcs[100]? = some Tryz.f100 ∧ fnEvOK Tryz.prog Tryz.f100 = true := ⟨by kernel_rfl, by kernel_rfl⟩
def an_pay_truths_1 : Nat → List Nat := fun n => match n with  | _ => []
theorem te_pay_truths_1 : Tryz.prog.funcs[101]? = some Tryz.f101 ∧ fnEvOK Tryz.prog Tryz.f101 = true := ⟨by kernel_rfl, by kernel_rfl⟩
def an_pay_truths_1_1 : Nat → List Nat := fun n => match n with | 5 => [0, 3, 6, 7] | 100007 => [0] | _ => []
theorem te_pay_truths_1_1 : Tryz.prog.funcs[102]? = some Tryz.f102 ∧ fnEvOK Tryz.prog Tryz.f102 = true := ⟨by kernel_rfl, by kernel_rfl⟩
def an_slices_IndexFunc_l_api_Span_api_Span : Nat → List Nat := fun n => match n with | 2 => [0, 1, 7, 8] | _ => []
theorem te_slices_IndexFunc_l_api_Span_api_Span : Tryz.prog.funcs[103]? = some Tryz.f103 ∧ fnEvOK Tryz.prog Tryz.f103 = true := ⟨by kernel_rfl, by kernel_rfl⟩
def an_step_table_off : Nat → List Nat := fun n => match n with  | _ => []
theorem te_step_table_off : Tryz.prog.funcs[104]? = some Tryz.f104 ∧ fnEvOK Tryz.prog Tryz.f104 = true := ⟨by kernel_rfl, by kernel_rfl⟩
def an_copies_fits : Nat → List Nat := fun n => match n with  | _ => []
theorem te_copies_fits : Tryz.prog.funcs[105]? = some Tryz.f105 ∧ fnEvOK Tryz.prog Tryz.f105 = true := ⟨by kernel_rfl, by kernel_rfl⟩
def an_copies_reading_fewest : Nat → List Nat := fun n => match n with | 3 => [1, 2, 3, 7, 9] | _ => []
theorem te_copies_reading_fewest : Tryz.prog.funcs[106]? = some Tryz.f106 ∧ fnEvOK Tryz.prog Tryz.f106 = true := ⟨by kernel_rfl, by kernel_rfl⟩
def an_copies_sum : Nat → List Nat := fun n => match n with | 3 => [3, 6, 7, 8] | _ => []
theorem te_copies_sum : Tryz.prog.funcs[107]? = some Tryz.f107 ∧ fnEvOK Tryz.prog Tryz.f107 = true := ⟨by kernel_rfl, by kernel_rfl⟩
def an_proof_attempt_1 : Nat → List Nat := fun n => match n with  | _ => []
theorem te_proof_attempt_1 : Tryz.prog.funcs[108]? = some Tryz.f108 ∧ fnEvOK Tryz.prog Tryz.f108 = true := ⟨by kernel_rfl, by kernel_rfl⟩
def an_p_proof_page_readers : Nat → List Nat := fun n => match n with | 3 => [0, 1, 5, 11, 12, 24, 25, 26, 27, 28, 29, 30, 31, 32] | _ => []
theorem te_p_proof_page_readers : Tryz.prog.funcs[109]? = some Tryz.f109 ∧ fnEvOK Tryz.prog Tryz.f109 = true := ⟨by kernel_rfl, by kernel_rfl⟩
def an_hands_right_turned : Nat → List Nat := fun n => match n with  | _ => []
theorem te_hands_right_turned : Tryz.prog.funcs[110]? = some Tryz.f110 ∧ fnEvOK Tryz.prog Tryz.f110 = true := ⟨by kernel_rfl, by kernel_rfl⟩
def an_hands_right_carried : Nat → List Nat := fun n => match n with  | _ => []
theorem te_hands_right_carried : Tryz.prog.funcs[111]? = some Tryz.f111 ∧ fnEvOK Tryz.prog Tryz.f111 = true := ⟨by kernel_rfl, by kernel_rfl⟩
def an_hands_right_other : Nat → List Nat := fun n => match n with  | _ => []
theorem te_hands_right_other : Tryz.prog.funcs[112]? = some Tryz.f112 ∧ fnEvOK Tryz.prog Tryz.f112 = true := ⟨by kernel_rfl, by kernel_rfl⟩
def an_hands_right_line : Nat → List Nat := fun n => match n with  | _ => []
theorem te_hands_right_line : Tryz.prog.funcs[113]? = some Tryz.f113 ∧ fnEvOK Tryz.prog Tryz.f113 = true := ⟨by kernel_rfl, by kernel_rfl⟩
def an_step_table_figure : Nat → List Nat := fun n => match n with  | _ => []
theorem te_step_table_figure : Tryz.prog.funcs[114]? = some Tryz.f114 ∧ fnEvOK Tryz.prog Tryz.f114 = true := ⟨by kernel_rfl, by kernel_rfl⟩
def an_step_table_end : Nat → List Nat := fun n => match n with  | _ => []
theorem te_step_table_end : Tryz.prog.funcs[115]? = some Tryz.f115 ∧ fnEvOK Tryz.prog Tryz.f115 = true := ⟨by kernel_rfl, by kernel_rfl⟩
def an_copies_reading_step : Nat → List Nat := fun n => match n with  | _ => []
theorem te_copies_reading_step : Tryz.prog.funcs[116]? = some Tryz.f116 ∧ fnEvOK Tryz.prog Tryz.f116 = true := ⟨by kernel_rfl, by kernel_rfl⟩
def an_hands_right_figures : Nat → List Nat := fun n => match n with  | _ => []
theorem te_hands_right_figures : Tryz.prog.funcs[117]? = some Tryz.f117 ∧ fnEvOK Tryz.prog Tryz.f117 = true := ⟨by kernel_rfl, by kernel_rfl⟩
def an_hands_signed : Nat → List Nat := fun n => match n with  | _ => []
theorem te_hands_signed : Tryz.prog.funcs[118]? = some Tryz.f118 ∧ fnEvOK Tryz.prog Tryz.f118 = true := ⟨by kernel_rfl, by kernel_rfl⟩
def an_round_To : Nat → List Nat := fun n => match n with  | _ => []
theorem te_round_To : Tryz.prog.funcs[119]? = some Tryz.f119 ∧ fnEvOK Tryz.prog Tryz.f119 = true := ⟨by kernel_rfl, by kernel_rfl⟩
def an_step_sum : Nat → List Nat := fun n => match n with | 3 => [3, 6, 7, 8] | _ => []
theorem te_step_sum : Tryz.prog.funcs[120]? = some Tryz.f120 ∧ fnEvOK Tryz.prog Tryz.f120 = true := ⟨by kernel_rfl, by kernel_rfl⟩
def an_step_bounds_low : Nat → List Nat := fun n => match n with  | _ => []
theorem te_step_bounds_low : Tryz.prog.funcs[121]? = some Tryz.f121 ∧ fnEvOK Tryz.prog Tryz.f121 = true := ⟨by kernel_rfl, by kernel_rfl⟩
def an_step_bounds_high : Nat → List Nat := fun n => match n with  | _ => []
theorem te_step_bounds_high : Tryz.prog.funcs[122]? = some Tryz.f122 ∧ fnEvOK Tryz.prog Tryz.f122 = true := ⟨by kernel_rfl, by kernel_rfl⟩
def an_round_in : Nat → List Nat := fun n => match n with  | _ => []
theorem te_round_in : Tryz.prog.funcs[123]? = some Tryz.f123 ∧ fnEvOK Tryz.prog Tryz.f123 = true := ⟨by kernel_rfl, by kernel_rfl⟩
def an_round_isRule : Nat → List Nat := fun n => match n with  | _ => []
theorem te_round_isRule : Tryz.prog.funcs[124]? = some Tryz.f124 ∧ fnEvOK Tryz.prog Tryz.f124 = true := ⟨by kernel_rfl, by kernel_rfl⟩
def an_round_ruler_rules : Nat → List Nat := fun n => match n with  | _ => []
theorem te_round_ruler_rules : Tryz.prog.funcs[125]? = some Tryz.f125 ∧ fnEvOK Tryz.prog Tryz.f125 = true := ⟨by kernel_rfl, by kernel_rfl⟩
def an_round_ruler_down : Nat → List Nat := fun n => match n with  | _ => []
theorem te_round_ruler_down : Tryz.prog.funcs[126]? = some Tryz.f126 ∧ fnEvOK Tryz.prog Tryz.f126 = true := ⟨by kernel_rfl, by kernel_rfl⟩
def an_round_ruler_up : Nat → List Nat := fun n => match n with  | _ => []
theorem te_round_ruler_up : Tryz.prog.funcs[127]? = some Tryz.f127 ∧ fnEvOK Tryz.prog Tryz.f127 = true := ⟨by kernel_rfl, by kernel_rfl⟩
def an_round_ruler_near : Nat → List Nat := fun n => match n with  | _ => []
theorem te_round_ruler_near : Tryz.prog.funcs[128]? = some Tryz.f128 ∧ fnEvOK Tryz.prog Tryz.f128 = true := ⟨by kernel_rfl, by kernel_rfl⟩
def an_round_ruler_even : Nat → List Nat := fun n => match n with  | _ => []
theorem te_round_ruler_even : Tryz.prog.funcs[129]? = some Tryz.f129 ∧ fnEvOK Tryz.prog Tryz.f129 = true := ⟨by kernel_rfl, by kernel_rfl⟩
def dm : FuncId → Nat := fun f => match List.contains [79, 102] f with | true => 1 | false => 0
noncomputable def tab : Tab := [(4, Tryz.f4, an_ref09_Page),
  (5, Tryz.f5, an_top_known11),
  (6, Tryz.f6, an_proof_Differs),
  (7, Tryz.f7, an_proof_Errors),
  (8, Tryz.f8, an_ref09_Line),
  (9, Tryz.f9, an_ref09_With),
  (10, Tryz.f10, an_pay_Owed),
  (11, Tryz.f11, an_ref09_in),
  (12, Tryz.f12, an_ref09_Person),
  (13, Tryz.f13, an_ref02_Number),
  (14, Tryz.f14, an_ref09_Entry),
  (15, Tryz.f15, an_step_Fewest),
  (16, Tryz.f16, an_law05_A),
  (17, Tryz.f17, an_copies_Fewest),
  (18, Tryz.f18, an_law07_A),
  (19, Tryz.f19, an_proof_Pass),
  (20, Tryz.f20, an_law09_B),
  (21, Tryz.f21, an_ref01_Same),
  (22, Tryz.f22, an_proof_isPage),
  (23, Tryz.f23, an_proof_pageOf),
  (24, Tryz.f24, an_p_proof_page_differs),
  (25, Tryz.f25, an_hands_Errors),
  (26, Tryz.f26, an_pay_isBook),
  (27, Tryz.f27, an_pay_in),
  (28, Tryz.f28, an_pay_ends),
  (29, Tryz.f29, an_pay_Owed_1),
  (30, Tryz.f30, an_pay_account_owed),
  (31, Tryz.f31, an_pay_always),
  (32, Tryz.f32, an_ref02_in),
  (33, Tryz.f33, an_ref09_Pair),
  (34, Tryz.f34, an_step_isTable),
  (35, Tryz.f35, an_step_best_l_int),
  (36, Tryz.f36, an_slices_Collect_l_int),
  (37, Tryz.f37, an_step_lists),
  (38, Tryz.f38, an_step_shorter),
  (39, Tryz.f39, an_law05_one),
  (40, Tryz.f40, an_copies_isTree),
  (41, Tryz.f41, an_copies_readingOf),
  (42, Tryz.f42, an_copies_reading_errors),
  (43, Tryz.f43, an_p_proof_page_passes),
  (44, Tryz.f44, an_law09_read),
  (45, Tryz.f45, an_law09_mend),
  (46, Tryz.f46, an_proof_in),
  (47, Tryz.f47, an_slices_ContainsFunc_l_api_ProofLine_api_ProofLine),
  (48, Tryz.f48, an_proof_isPage_1),
  (49, Tryz.f49, an_proof_hasPerson),
  (50, Tryz.f50, an_proof_isNumber),
  (51, Tryz.f51, an_slices_ContainsFunc_l_api_ProofEntry_api_ProofEntry),
  (52, Tryz.f52, an_proof_isPage_2),
  (53, Tryz.f53, an_proof_isEntry),
  (54, Tryz.f54, an_p_proof_page_reads),
  (55, Tryz.f55, an_p_proof_page_mends),
  (56, Tryz.f56, an_p_proof_page_falls),
  (57, Tryz.f57, an_hands_isColumn),
  (58, Tryz.f58, an_hands_attempt),
  (59, Tryz.f59, an_hands_Errors_1),
  (60, Tryz.f60, an_hands_copied),
  (61, Tryz.f61, an_pay_isBook_1),
  (62, Tryz.f62, an_slices_ContainsFunc_l_int_int),
  (63, Tryz.f63, an_slices_ContainsFunc_l_api_PayLine_api_PayLine),
  (64, Tryz.f64, an_pay_isBook_2),
  (65, Tryz.f65, an_pay_isLine),
  (66, Tryz.f66, an_pay_truths),
  (67, Tryz.f67, an_pay_account_sheets),
  (68, Tryz.f68, an_pay_account_mornings),
  (69, Tryz.f69, an_pay_account_posts),
  (70, Tryz.f70, an_step_in),
  (71, Tryz.f71, an_step_isRule),
  (72, Tryz.f72, an_slices_ContainsFunc_l_api_Span_api_Span),
  (73, Tryz.f73, an_step_isTable_1),
  (74, Tryz.f74, an_slices_AppendSeq_l_l_int_l_int),
  (75, Tryz.f75, an_step_lists_1),
  (76, Tryz.f76, an_step_tableOf),
  (77, Tryz.f77, an_step_lists_1_1),
  (78, Tryz.f78, an_step_table_sure),
  (79, Tryz.f79, an_slices_Clone_l_int_int),
  (80, Tryz.f80, an_copies_in),
  (81, Tryz.f81, an_copies_isTree_1),
  (82, Tryz.f82, an_copies_isFigure),
  (83, Tryz.f83, an_copies_treeOf),
  (84, Tryz.f84, an_copies_reading_least),
  (85, Tryz.f85, an_proof_attempt),
  (86, Tryz.f86, an_p_proof_page_passes_1),
  (87, Tryz.f87, an_p_proof_page_mustPass),
  (88, Tryz.f88, an_slices_IndexFunc_l_api_ProofLine_api_ProofLine),
  (89, Tryz.f89, an_slices_IndexFunc_l_api_ProofEntry_api_ProofEntry),
  (90, Tryz.f90, an_proof_hasLine),
  (91, Tryz.f91, an_p_proof_page_change),
  (92, Tryz.f92, an_hands_in),
  (93, Tryz.f93, an_hands_isColumn_1),
  (94, Tryz.f94, an_hands_isNumber),
  (95, Tryz.f95, an_hands_attempt_1),
  (96, Tryz.f96, an_hands_of),
  (97, Tryz.f97, an_hands_right_kind),
  (98, Tryz.f98, an_slices_IndexFunc_l_int_int),
  (99, Tryz.f99, an_slices_IndexFunc_l_api_PayLine_api_PayLine),
  (100, Tryz.f100, an_pay_isMoney),
  (101, Tryz.f101, an_pay_truths_1),
  (102, Tryz.f102, an_pay_truths_1_1),
  (103, Tryz.f103, an_slices_IndexFunc_l_api_Span_api_Span),
  (104, Tryz.f104, an_step_table_off),
  (105, Tryz.f105, an_copies_fits),
  (106, Tryz.f106, an_copies_reading_fewest),
  (107, Tryz.f107, an_copies_sum),
  (108, Tryz.f108, an_proof_attempt_1),
  (109, Tryz.f109, an_p_proof_page_readers),
  (110, Tryz.f110, an_hands_right_turned),
  (111, Tryz.f111, an_hands_right_carried),
  (112, Tryz.f112, an_hands_right_other),
  (113, Tryz.f113, an_hands_right_line),
  (114, Tryz.f114, an_step_table_figure),
  (115, Tryz.f115, an_step_table_end),
  (116, Tryz.f116, an_copies_reading_step),
  (117, Tryz.f117, an_hands_right_figures),
  (118, Tryz.f118, an_hands_signed),
  (119, Tryz.f119, an_round_To),
  (120, Tryz.f120, an_step_sum),
  (121, Tryz.f121, an_step_bounds_low),
  (122, Tryz.f122, an_step_bounds_high),
  (123, Tryz.f123, an_round_in),
  (124, Tryz.f124, an_round_isRule),
  (125, Tryz.f125, an_round_ruler_rules),
  (126, Tryz.f126, an_round_ruler_down),
  (127, Tryz.f127, an_round_ruler_up),
  (128, Tryz.f128, an_round_ruler_near),
  (129, Tryz.f129, an_round_ruler_even)]
theorem tab_ok : TabOK Tryz.prog tab := ⟨te_ref09_Page, ⟨te_top_known11, ⟨te_proof_Differs, ⟨te_proof_Errors, ⟨te_ref09_Line, ⟨te_ref09_With, ⟨te_pay_Owed, ⟨te_ref09_in, ⟨te_ref09_Person, ⟨te_ref02_Number, ⟨te_ref09_Entry, ⟨te_step_Fewest, ⟨te_law05_A, ⟨te_copies_Fewest, ⟨te_law07_A, ⟨te_proof_Pass, ⟨te_law09_B, ⟨te_ref01_Same, ⟨te_proof_isPage, ⟨te_proof_pageOf, ⟨te_p_proof_page_differs, ⟨te_hands_Errors, ⟨te_pay_isBook, ⟨te_pay_in, ⟨te_pay_ends, ⟨te_pay_Owed_1, ⟨te_pay_account_owed, ⟨te_pay_always, ⟨te_ref02_in, ⟨te_ref09_Pair, ⟨te_step_isTable, ⟨te_step_best_l_int, ⟨te_slices_Collect_l_int, ⟨te_step_lists, ⟨te_step_shorter, ⟨te_law05_one, ⟨te_copies_isTree, ⟨te_copies_readingOf, ⟨te_copies_reading_errors, ⟨te_p_proof_page_passes, ⟨te_law09_read, ⟨te_law09_mend, ⟨te_proof_in, ⟨te_slices_ContainsFunc_l_api_ProofLine_api_ProofLine, ⟨te_proof_isPage_1, ⟨te_proof_hasPerson, ⟨te_proof_isNumber, ⟨te_slices_ContainsFunc_l_api_ProofEntry_api_ProofEntry, ⟨te_proof_isPage_2, ⟨te_proof_isEntry, ⟨te_p_proof_page_reads, ⟨te_p_proof_page_mends, ⟨te_p_proof_page_falls, ⟨te_hands_isColumn, ⟨te_hands_attempt, ⟨te_hands_Errors_1, ⟨te_hands_copied, ⟨te_pay_isBook_1, ⟨te_slices_ContainsFunc_l_int_int, ⟨te_slices_ContainsFunc_l_api_PayLine_api_PayLine, ⟨te_pay_isBook_2, ⟨te_pay_isLine, ⟨te_pay_truths, ⟨te_pay_account_sheets, ⟨te_pay_account_mornings, ⟨te_pay_account_posts, ⟨te_step_in, ⟨te_step_isRule, ⟨te_slices_ContainsFunc_l_api_Span_api_Span, ⟨te_step_isTable_1, ⟨te_slices_AppendSeq_l_l_int_l_int, ⟨te_step_lists_1, ⟨te_step_tableOf, ⟨te_step_lists_1_1, ⟨te_step_table_sure, ⟨te_slices_Clone_l_int_int, ⟨te_copies_in, ⟨te_copies_isTree_1, ⟨te_copies_isFigure, ⟨te_copies_treeOf, ⟨te_copies_reading_least, ⟨te_proof_attempt, ⟨te_p_proof_page_passes_1, ⟨te_p_proof_page_mustPass, ⟨te_slices_IndexFunc_l_api_ProofLine_api_ProofLine, ⟨te_slices_IndexFunc_l_api_ProofEntry_api_ProofEntry, ⟨te_proof_hasLine, ⟨te_p_proof_page_change, ⟨te_hands_in, ⟨te_hands_isColumn_1, ⟨te_hands_isNumber, ⟨te_hands_attempt_1, ⟨te_hands_of, ⟨te_hands_right_kind, ⟨te_slices_IndexFunc_l_int_int, ⟨te_slices_IndexFunc_l_api_PayLine_api_PayLine, ⟨te_pay_isMoney, ⟨te_pay_truths_1, ⟨te_pay_truths_1_1, ⟨te_slices_IndexFunc_l_api_Span_api_Span, ⟨te_step_table_off, ⟨te_copies_fits, ⟨te_copies_reading_fewest, ⟨te_copies_sum, ⟨te_proof_attempt_1, ⟨te_p_proof_page_readers, ⟨te_hands_right_turned, ⟨te_hands_right_carried, ⟨te_hands_right_other, ⟨te_hands_right_line, ⟨te_step_table_figure, ⟨te_step_table_end, ⟨te_copies_reading_step, ⟨te_hands_right_figures, ⟨te_hands_signed, ⟨te_round_To, ⟨te_step_sum, ⟨te_step_bounds_low, ⟨te_step_bounds_high, ⟨te_round_in, ⟨te_round_isRule, ⟨te_round_ruler_rules, ⟨te_round_ruler_down, ⟨te_round_ruler_up, ⟨te_round_ruler_near, ⟨te_round_ruler_even, trivial⟩⟩⟩⟩⟩⟩⟩⟩⟩⟩⟩⟩⟩⟩⟩⟩⟩⟩⟩⟩⟩⟩⟩⟩⟩⟩⟩⟩⟩⟩⟩⟩⟩⟩⟩⟩⟩⟩⟩⟩⟩⟩⟩⟩⟩⟩⟩⟩⟩⟩⟩⟩⟩⟩⟩⟩⟩⟩⟩⟩⟩⟩⟩⟩⟩⟩⟩⟩⟩⟩⟩⟩⟩⟩⟩⟩⟩⟩⟩⟩⟩⟩⟩⟩⟩⟩⟩⟩⟩⟩⟩⟩⟩⟩⟩⟩⟩⟩⟩⟩⟩⟩⟩⟩⟩⟩⟩⟩⟩⟩⟩⟩⟩⟩⟩⟩⟩⟩⟩⟩⟩⟩⟩⟩⟩⟩
end Go.Vc
