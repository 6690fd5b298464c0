/- A part of the proof: general laws of a reading of the model by abstract data, or contracts of the functions that the law calls. -/
import Derived.KernelRfl
import Derived.Test.YtaacglfaheijaaaGreatDoorProg
import Derived.Test.YtaacglfaheijaaaGreatDoorVc17
set_option maxRecDepth 100000
namespace Go.Vc
open Go Go.Proofs Go.RowKit
def an_law09_right : Nat → List Nat := fun n => match n with  | _ => []
theorem te_law09_right : Tryz.prog.funcs[4]? = some Tryz.f4 ∧ fnEvOK Tryz.prog Tryz.f4 = true := ⟨by kernel_rfl, by kernel_rfl⟩
def an_law09_known : Nat → List Nat := fun n => match n with  | _ => []
theorem te_law09_known : Tryz.prog.funcs[5]? = some Tryz.f5 ∧ fnEvOK Tryz.prog Tryz.f5 = true := ⟨by kernel_rfl, by kernel_rfl⟩
def an_proof_Print : Nat → List Nat := fun n => match n with  | _ => []
theorem te_proof_Print : Tryz.prog.funcs[6]? = some Tryz.f6 ∧ fnEvOK Tryz.prog Tryz.f6 = true := ⟨by kernel_rfl, by kernel_rfl⟩
def an_proof_Read : Nat → List Nat := fun n => match n with  | _ => []
theorem te_proof_Read : Tryz.prog.funcs[7]? = some Tryz.f7 ∧ fnEvOK Tryz.prog Tryz.f7 = true := ⟨by kernel_rfl, by kernel_rfl⟩
def an_ref09_SamePages : Nat → List Nat := fun n => match n with | 4 => [2, 3, 5, 69, 70, 71, 72, 73, 74, 75, 76, 77, 78, 79, 80, 81, 82] | 9 => [2, 3, 6, 69, 70, 71, 72, 73, 74, 75, 76, 77, 78, 79, 80, 81, 82] | _ => []
theorem te_ref09_SamePages : Tryz.prog.funcs[8]? = some Tryz.f8 ∧ fnEvOK Tryz.prog Tryz.f8 = true := ⟨by kernel_rfl, by kernel_rfl⟩
def an_law09_short : Nat → List Nat := fun n => match n with | 2 => [1, 3, 10, 11, 28, 29, 30, 31] | _ => []
theorem te_law09_short : Tryz.prog.funcs[9]? = some Tryz.f9 ∧ fnEvOK Tryz.prog Tryz.f9 = true := ⟨by kernel_rfl, by kernel_rfl⟩
def an_ref09_Page : Nat → List Nat := fun n => match n with | 4 => [1, 3, 39, 40, 41, 42, 43, 44, 45, 46, 49, 50, 51, 52, 53, 54, 55, 56] | 9 => [1, 4] | _ => []
theorem te_ref09_Page : Tryz.prog.funcs[10]? = some Tryz.f10 ∧ fnEvOK Tryz.prog Tryz.f10 = true := ⟨by kernel_rfl, by kernel_rfl⟩
def an_proof_Now : Nat → List Nat := fun n => match n with  | _ => []
theorem te_proof_Now : Tryz.prog.funcs[11]? = some Tryz.f11 ∧ fnEvOK Tryz.prog Tryz.f11 = true := ⟨by kernel_rfl, by kernel_rfl⟩
def an_law09_A : Nat → List Nat := fun n => match n with  | _ => []
theorem te_law09_A : Tryz.prog.funcs[12]? = some Tryz.f12 ∧ fnEvOK Tryz.prog Tryz.f12 = true := ⟨by kernel_rfl, by kernel_rfl⟩
def an_proof_Setters : Nat → List Nat := fun n => match n with  | _ => []
theorem te_proof_Setters : Tryz.prog.funcs[13]? = some Tryz.f13 ∧ fnEvOK Tryz.prog Tryz.f13 = true := ⟨by kernel_rfl, by kernel_rfl⟩
def an_proof_Readers : Nat → List Nat := fun n => match n with  | _ => []
theorem te_proof_Readers : Tryz.prog.funcs[14]? = some Tryz.f14 ∧ fnEvOK Tryz.prog Tryz.f14 = true := ⟨by kernel_rfl, by kernel_rfl⟩
def an_proof_Short : Nat → List Nat := fun n => match n with | 6 => [4, 5, 14, 15] | _ => []
theorem te_proof_Short : Tryz.prog.funcs[15]? = some Tryz.f15 ∧ fnEvOK Tryz.prog Tryz.f15 = true := ⟨by kernel_rfl, by kernel_rfl⟩
def an_proof_Passes : Nat → List Nat := fun n => match n with  | _ => []
theorem te_proof_Passes : Tryz.prog.funcs[16]? = some Tryz.f16 ∧ fnEvOK Tryz.prog Tryz.f16 = true := ⟨by kernel_rfl, by kernel_rfl⟩
def an_proof_Pass : Nat → List Nat := fun n => match n with  | _ => []
theorem te_proof_Pass : Tryz.prog.funcs[17]? = some Tryz.f17 ∧ fnEvOK Tryz.prog Tryz.f17 = true := ⟨by kernel_rfl, by kernel_rfl⟩
def an_law09_B : Nat → List Nat := fun n => match n with  | _ => []
theorem te_law09_B : Tryz.prog.funcs[18]? = some Tryz.f18 ∧ fnEvOK Tryz.prog Tryz.f18 = true := ⟨by kernel_rfl, by kernel_rfl⟩
def an_proof_Differs : Nat → List Nat := fun n => match n with | 6 => [4, 5, 14, 15] | _ => []
theorem te_proof_Differs : Tryz.prog.funcs[19]? = some Tryz.f19 ∧ fnEvOK Tryz.prog Tryz.f19 = true := ⟨by kernel_rfl, by kernel_rfl⟩
def an_proof_Errors : Nat → List Nat := fun n => match n with | 5 => [1, 4, 11, 12, 13] | _ => []
theorem te_proof_Errors : Tryz.prog.funcs[20]? = some Tryz.f20 ∧ fnEvOK Tryz.prog Tryz.f20 = true := ⟨by kernel_rfl, by kernel_rfl⟩
def an_proof_Missed : Nat → List Nat := fun n => match n with  | _ => []
theorem te_proof_Missed : Tryz.prog.funcs[21]? = some Tryz.f21 ∧ fnEvOK Tryz.prog Tryz.f21 = true := ⟨by kernel_rfl, by kernel_rfl⟩
def an_proof_Worst : Nat → List Nat := fun n => match n with | 8 => [1, 5, 6, 24, 25] | 12 => [1, 5, 6, 7, 8, 24, 25, 28, 29, 30] | 100014 => [40] | _ => []
theorem te_proof_Worst : Tryz.prog.funcs[22]? = some Tryz.f22 ∧ fnEvOK Tryz.prog Tryz.f22 = true := ⟨by kernel_rfl, by kernel_rfl⟩
def an_proof_Useless : Nat → List Nat := fun n => match n with | 6 => [4, 5, 15, 16, 17] | 10 => [4, 5, 6, 7, 8, 15, 16, 17] | _ => []
theorem te_proof_Useless : Tryz.prog.funcs[23]? = some Tryz.f23 ∧ fnEvOK Tryz.prog Tryz.f23 = true := ⟨by kernel_rfl, by kernel_rfl⟩
def an_law09_C : Nat → List Nat := fun n => match n with  | _ => []
theorem te_law09_C : Tryz.prog.funcs[24]? = some Tryz.f24 ∧ fnEvOK Tryz.prog Tryz.f24 = true := ⟨by kernel_rfl, by kernel_rfl⟩
def an_proof_Best : Nat → List Nat := fun n => match n with | 5 => [1, 6] | _ => []
theorem te_proof_Best : Tryz.prog.funcs[25]? = some Tryz.f25 ∧ fnEvOK Tryz.prog Tryz.f25 = true := ⟨by kernel_rfl, by kernel_rfl⟩
def an_proof_Fewest : Nat → List Nat := fun n => match n with | 5 => [1, 4, 17, 18] | _ => []
theorem te_proof_Fewest : Tryz.prog.funcs[26]? = some Tryz.f26 ∧ fnEvOK Tryz.prog Tryz.f26 = true := ⟨by kernel_rfl, by kernel_rfl⟩
def an_ref01_Same : Nat → List Nat := fun n => match n with | 4 => [0, 1, 5] | _ => []
theorem te_ref01_Same : Tryz.prog.funcs[27]? = some Tryz.f27 ∧ fnEvOK Tryz.prog Tryz.f27 = true := ⟨by kernel_rfl, by kernel_rfl⟩
def an_ref02_SameErrors : Nat → List Nat := fun n => match n with | 4 => [0, 1, 5] | _ => []
theorem te_ref02_SameErrors : Tryz.prog.funcs[28]? = some Tryz.f28 ∧ fnEvOK Tryz.prog Tryz.f28 = true := ⟨by kernel_rfl, by kernel_rfl⟩
def an_ref09_SameMisses : Nat → List Nat := fun n => match n with | 4 => [0, 1, 5] | _ => []
theorem te_ref09_SameMisses : Tryz.prog.funcs[29]? = some Tryz.f29 ∧ fnEvOK Tryz.prog Tryz.f29 = true := ⟨by kernel_rfl, by kernel_rfl⟩
def an_ref09_SamePairs : Nat → List Nat := fun n => match n with | 4 => [0, 1, 5] | _ => []
theorem te_ref09_SamePairs : Tryz.prog.funcs[30]? = some Tryz.f30 ∧ fnEvOK Tryz.prog Tryz.f30 = true := ⟨by kernel_rfl, by kernel_rfl⟩
def an_ref09_Print : Nat → List Nat := fun n => match n with | 3 => [1, 3, 4] | 7 => [1, 3, 5] | _ => []
theorem te_ref09_Print : Tryz.prog.funcs[31]? = some Tryz.f31 ∧ fnEvOK Tryz.prog Tryz.f31 = true := ⟨by kernel_rfl, by kernel_rfl⟩
def an_proof_isPage : Nat → List Nat := fun n => match n with  | _ => []
theorem te_proof_isPage : Tryz.prog.funcs[32]? = some Tryz.f32 ∧ fnEvOK Tryz.prog Tryz.f32 = true := ⟨by kernel_rfl, by kernel_rfl⟩
def an_proof_text : Nat → List Nat := fun n => match n with | 3 => [1, 3, 18, 19, 20] | 8 => [3, 33, 34, 35] | 14 => [3, 8, 47, 48, 49] | 17 => [3, 8, 9, 10, 47, 48, 49, 55, 56] | _ => []
theorem te_proof_text : Tryz.prog.funcs[33]? = some Tryz.f33 ∧ fnEvOK Tryz.prog Tryz.f33 = true := ⟨by kernel_rfl, by kernel_rfl⟩
def an_proof_attempt : Nat → List Nat := fun n => match n with  | _ => []
theorem te_proof_attempt : Tryz.prog.funcs[34]? = some Tryz.f34 ∧ fnEvOK Tryz.prog Tryz.f34 = true := ⟨by kernel_rfl, by kernel_rfl⟩
def an_proof_Read_1 : Nat → List Nat := fun n => match n with  | _ => []
theorem te_proof_Read_1 : Tryz.prog.funcs[35]? = some Tryz.f35 ∧ fnEvOK Tryz.prog Tryz.f35 = true := ⟨by kernel_rfl, by kernel_rfl⟩
def an_proof_parsed : Nat → List Nat := fun n => match n with | 7 => [0, 2, 6, 37, 38, 39] | 100006 => [3] | _ => []
theorem te_proof_parsed : Tryz.prog.funcs[36]? = some Tryz.f36 ∧ fnEvOK Tryz.prog Tryz.f36 = true := ⟨by kernel_rfl, by kernel_rfl⟩
def an_ref09_in : Nat → List Nat := fun n => match n with  | _ => []
theorem te_ref09_in : Tryz.prog.funcs[37]? = some Tryz.f37 ∧ fnEvOK Tryz.prog Tryz.f37 = true := ⟨by kernel_rfl, by kernel_rfl⟩
def an_ref09_Person : Nat → List Nat := fun n => match n with  | _ => []
theorem te_ref09_Person : Tryz.prog.funcs[38]? = some Tryz.f38 ∧ fnEvOK Tryz.prog Tryz.f38 = true := ⟨by kernel_rfl, by kernel_rfl⟩
def an_ref02_Number : Nat → List Nat := fun n => match n with  | _ => []
theorem te_ref02_Number : Tryz.prog.funcs[39]? = some Tryz.f39 ∧ fnEvOK Tryz.prog Tryz.f39 = true := ⟨by kernel_rfl, by kernel_rfl⟩
def an_ref09_Entry : Nat → List Nat := fun n => match n with  | _ => []
theorem te_ref09_Entry : Tryz.prog.funcs[40]? = some Tryz.f40 ∧ fnEvOK Tryz.prog Tryz.f40 = true := ⟨by kernel_rfl, by kernel_rfl⟩
def an_proof_pageOf : Nat → List Nat := fun n => match n with | 3 => [1, 3, 14, 15, 16] | 9 => [3, 6, 54, 55, 56] | _ => []
theorem te_proof_pageOf : Tryz.prog.funcs[41]? = some Tryz.f41 ∧ fnEvOK Tryz.prog Tryz.f41 = true := ⟨by kernel_rfl, by kernel_rfl⟩
def an_law09_fall : Nat → List Nat := fun n => match n with  | _ => []
theorem te_law09_fall : Tryz.prog.funcs[42]? = some Tryz.f42 ∧ fnEvOK Tryz.prog Tryz.f42 = true := ⟨by kernel_rfl, by kernel_rfl⟩
def an_proof_hasLine : Nat → List Nat := fun n => match n with  | _ => []
theorem te_proof_hasLine : Tryz.prog.funcs[43]? = some Tryz.f43 ∧ fnEvOK Tryz.prog Tryz.f43 = true := ⟨by kernel_rfl, by kernel_rfl⟩
def an_p_proof_page_readers : Nat → List Nat := fun n => match n with | 3 => [0, 1, 5, 11, 12, 24, 25, 26, 27, 28, 29, 30, 31, 32] | _ => []
theorem te_p_proof_page_readers : Tryz.prog.funcs[44]? = some Tryz.f44 ∧ fnEvOK Tryz.prog Tryz.f44 = true := ⟨by kernel_rfl, by kernel_rfl⟩
def an_p_proof_page_passing : Nat → List Nat := fun n => match n with | 3 => [1, 3, 10, 11] | _ => []
theorem te_p_proof_page_passing : Tryz.prog.funcs[45]? = some Tryz.f45 ∧ fnEvOK Tryz.prog Tryz.f45 = true := ⟨by kernel_rfl, by kernel_rfl⟩
def an_p_proof_page_passes : Nat → List Nat := fun n => match n with  | _ => []
theorem te_p_proof_page_passes : Tryz.prog.funcs[46]? = some Tryz.f46 ∧ fnEvOK Tryz.prog Tryz.f46 = true := ⟨by kernel_rfl, by kernel_rfl⟩
def an_law09_read : Nat → List Nat := fun n => match n with  | _ => []
theorem te_law09_read : Tryz.prog.funcs[47]? = some Tryz.f47 ∧ fnEvOK Tryz.prog Tryz.f47 = true := ⟨by kernel_rfl, by kernel_rfl⟩
def an_law09_mend : Nat → List Nat := fun n => match n with  | _ => []
theorem te_law09_mend : Tryz.prog.funcs[48]? = some Tryz.f48 ∧ fnEvOK Tryz.prog Tryz.f48 = true := ⟨by kernel_rfl, by kernel_rfl⟩
def an_p_proof_page_differs : Nat → List Nat := fun n => match n with  | _ => []
theorem te_p_proof_page_differs : Tryz.prog.funcs[49]? = some Tryz.f49 ∧ fnEvOK Tryz.prog Tryz.f49 = true := ⟨by kernel_rfl, by kernel_rfl⟩
def an_hands_Errors : Nat → List Nat := fun n => match n with  | _ => []
theorem te_hands_Errors : Tryz.prog.funcs[50]? = some Tryz.f50 ∧ fnEvOK Tryz.prog Tryz.f50 = true := ⟨by kernel_rfl, by kernel_rfl⟩
def an_slices_Contains_l_int_int : Nat → List Nat := fun n => match n with  | _ => []
theorem te_slices_Contains_l_int_int : Tryz.prog.funcs[51]? = some Tryz.f51 ∧ fnEvOK Tryz.prog Tryz.f51 = true := ⟨by kernel_rfl, by kernel_rfl⟩
def an_proof_count : Nat → List Nat := fun n => match n with | 3 => [3, 6, 7, 8] | _ => []
theorem te_proof_count : Tryz.prog.funcs[52]? = some Tryz.f52 ∧ fnEvOK Tryz.prog Tryz.f52 = true := ⟨by kernel_rfl, by kernel_rfl⟩
def an_proof_best_proof_reader : Nat → List Nat := fun n => match n with | 3 => [1, 4, 5, 12, 13, 14] | 100002 => [0] | _ => []
theorem te_proof_best_proof_reader : Tryz.prog.funcs[53]? = some Tryz.f53 ∧ fnEvOK Tryz.prog Tryz.f53 = true := ⟨by kernel_rfl, by kernel_rfl⟩
def an_proof_Worst_1 : Nat → List Nat := fun n => match n with  | _ => []
theorem te_proof_Worst_1 : Tryz.prog.funcs[54]? = some Tryz.f54 ∧ fnEvOK Tryz.prog Tryz.f54 = true := ⟨by kernel_rfl, by kernel_rfl⟩
def an_proof_pairs : Nat → List Nat := fun n => match n with  | _ => []
theorem te_proof_pairs : Tryz.prog.funcs[55]? = some Tryz.f55 ∧ fnEvOK Tryz.prog Tryz.f55 = true := ⟨by kernel_rfl, by kernel_rfl⟩
def an_proof_after : Nat → List Nat := fun n => match n with | 3 => [2, 11, 12, 13] | _ => []
theorem te_proof_after : Tryz.prog.funcs[56]? = some Tryz.f56 ∧ fnEvOK Tryz.prog Tryz.f56 = true := ⟨by kernel_rfl, by kernel_rfl⟩
def an_proof_best_proof_chosen : Nat → List Nat := fun n => match n with | 3 => [1, 4, 5, 12, 13, 14] | 100002 => [0] | _ => []
theorem te_proof_best_proof_chosen : Tryz.prog.funcs[57]? = some Tryz.f57 ∧ fnEvOK Tryz.prog Tryz.f57 = true := ⟨by kernel_rfl, by kernel_rfl⟩
def an_proof_Best_1 : Nat → List Nat := fun n => match n with  | _ => []
theorem te_proof_Best_1 : Tryz.prog.funcs[58]? = some Tryz.f58 ∧ fnEvOK Tryz.prog Tryz.f58 = true := ⟨by kernel_rfl, by kernel_rfl⟩
def an_slices_Collect_api_ProofPair : Nat → List Nat := fun n => match n with  | _ => []
theorem te_slices_Collect_api_ProofPair : Tryz.prog.funcs[59]? = some Tryz.f59 ∧ fnEvOK Tryz.prog Tryz.f59 = true := ⟨by kernel_rfl, by kernel_rfl⟩
def an_proof_Fewest_1 : Nat → List Nat := fun n => match n with | 4 => [0, 6, 7, 10] | _ => []
theorem te_proof_Fewest_1 : Tryz.prog.funcs[60]? = some Tryz.f60 ∧ fnEvOK Tryz.prog Tryz.f60 = true := ⟨by kernel_rfl, by kernel_rfl⟩
def an_slices_Clone_l_api_ProofPair_api_ProofPair : Nat → List Nat := fun n => match n with  | _ => []
theorem te_slices_Clone_l_api_ProofPair_api_ProofPair : Tryz.prog.funcs[61]? = some Tryz.f61 ∧ fnEvOK Tryz.prog Tryz.f61 = true := ⟨by kernel_rfl, by kernel_rfl⟩
def an_ref01_Row : Nat → List Nat := fun n => match n with | 2 => [0, 1, 5] | _ => []
theorem te_ref01_Row : Tryz.prog.funcs[62]? = some Tryz.f62 ∧ fnEvOK Tryz.prog Tryz.f62 = true := ⟨by kernel_rfl, by kernel_rfl⟩
def an_ref01_Sealed : Nat → List Nat := fun n => match n with | 3 => [0, 1, 5, 6, 7] | 6 => [0, 1, 5, 6, 7, 8] | _ => []
theorem te_ref01_Sealed : Tryz.prog.funcs[63]? = some Tryz.f63 ∧ fnEvOK Tryz.prog Tryz.f63 = true := ⟨by kernel_rfl, by kernel_rfl⟩
def an_proof_in : Nat → List Nat := fun n => match n with  | _ => []
theorem te_proof_in : Tryz.prog.funcs[64]? = some Tryz.f64 ∧ fnEvOK Tryz.prog Tryz.f64 = true := ⟨by kernel_rfl, by kernel_rfl⟩
def an_slices_ContainsFunc_l_api_ProofLine_api_ProofLine : Nat → List Nat := fun n => match n with  | _ => []
theorem te_slices_ContainsFunc_l_api_ProofLine_api_ProofLine : Tryz.prog.funcs[65]? = some Tryz.f65 ∧ fnEvOK Tryz.prog Tryz.f65 = true := ⟨by kernel_rfl, by kernel_rfl⟩
def an_proof_isPage_1 : Nat → List Nat := fun n => match n with  | _ => []
theorem te_proof_isPage_1 : Tryz.prog.funcs[66]? = some Tryz.f66 ∧ fnEvOK Tryz.prog Tryz.f66 = true := ⟨by kernel_rfl, by kernel_rfl⟩
def an_proof_hasPerson : Nat → List Nat := fun n => match n with  | _ => []
theorem te_proof_hasPerson : Tryz.prog.funcs[67]? = some Tryz.f67 ∧ fnEvOK Tryz.prog Tryz.f67 = true := ⟨by kernel_rfl, by kernel_rfl⟩
def an_proof_isNumber : Nat → List Nat := fun n => match n with  | _ => []
theorem te_proof_isNumber : Tryz.prog.funcs[68]? = some Tryz.f68 ∧ fnEvOK Tryz.prog Tryz.f68 = true := ⟨by kernel_rfl, by kernel_rfl⟩
def an_slices_ContainsFunc_l_api_ProofEntry_api_ProofEntry : Nat → List Nat := fun n => match n with  | _ => []
theorem te_slices_ContainsFunc_l_api_ProofEntry_api_ProofEntry : Tryz.prog.funcs[69]? = some Tryz.f69 ∧ fnEvOK Tryz.prog Tryz.f69 = true := ⟨by kernel_rfl, by kernel_rfl⟩
def an_proof_isPage_2 : Nat → List Nat := fun n => match n with  | _ => []
theorem te_proof_isPage_2 : Tryz.prog.funcs[70]? = some Tryz.f70 ∧ fnEvOK Tryz.prog Tryz.f70 = true := ⟨by kernel_rfl, by kernel_rfl⟩
def an_proof_isEntry : Nat → List Nat := fun n => match n with  | _ => []
theorem te_proof_isEntry : Tryz.prog.funcs[71]? = some Tryz.f71 ∧ fnEvOK Tryz.prog Tryz.f71 = true := ⟨by kernel_rfl, by kernel_rfl⟩
def an_proof_told : Nat → List Nat := fun n => match n with | 15 => [8, 44, 45, 46] | _ => []
theorem te_proof_told : Tryz.prog.funcs[72]? = some Tryz.f72 ∧ fnEvOK Tryz.prog Tryz.f72 = true := ⟨by kernel_rfl, by kernel_rfl⟩
def an_proof_attempt_1 : Nat → List Nat := fun n => match n with  | _ => []
theorem te_proof_attempt_1 : Tryz.prog.funcs[75]? = some Tryz.f75 ∧ fnEvOK Tryz.prog Tryz.f75 = true := ⟨by kernel_rfl, by kernel_rfl⟩
def an_proof_need : Nat → List Nat := fun n => match n with  | _ => []
theorem te_proof_need : Tryz.prog.funcs[77]? = some Tryz.f77 ∧ fnEvOK Tryz.prog Tryz.f77 = true := ⟨by kernel_rfl, by kernel_rfl⟩
def an_proof_numbered : Nat → List Nat := fun n => match n with | 3 => [0, 2, 3, 4, 15, 16] | 10 => [5, 8, 9, 38, 39, 40] | 100009 => [4] | _ => []
theorem te_proof_numbered : Tryz.prog.funcs[78]? = some Tryz.f78 ∧ fnEvOK Tryz.prog Tryz.f78 = true := ⟨by kernel_rfl, by kernel_rfl⟩
def an_ref02_in : Nat → List Nat := fun n => match n with  | _ => []
theorem te_ref02_in : Tryz.prog.funcs[79]? = some Tryz.f79 ∧ fnEvOK Tryz.prog Tryz.f79 = true := ⟨by kernel_rfl, by kernel_rfl⟩
def an_ref09_Pair : Nat → List Nat := fun n => match n with  | _ => []
theorem te_ref09_Pair : Tryz.prog.funcs[80]? = some Tryz.f80 ∧ fnEvOK Tryz.prog Tryz.f80 = true := ⟨by kernel_rfl, by kernel_rfl⟩
def an_ref09_Line : Nat → List Nat := fun n => match n with  | _ => []
theorem te_ref09_Line : Tryz.prog.funcs[81]? = some Tryz.f81 ∧ fnEvOK Tryz.prog Tryz.f81 = true := ⟨by kernel_rfl, by kernel_rfl⟩
def an_p_proof_page_reads : Nat → List Nat := fun n => match n with | 1 => [0, 1, 2, 6] | _ => []
theorem te_p_proof_page_reads : Tryz.prog.funcs[82]? = some Tryz.f82 ∧ fnEvOK Tryz.prog Tryz.f82 = true := ⟨by kernel_rfl, by kernel_rfl⟩
def an_p_proof_page_mends : Nat → List Nat := fun n => match n with  | _ => []
theorem te_p_proof_page_mends : Tryz.prog.funcs[83]? = some Tryz.f83 ∧ fnEvOK Tryz.prog Tryz.f83 = true := ⟨by kernel_rfl, by kernel_rfl⟩
def an_p_proof_page_falls : Nat → List Nat := fun n => match n with  | _ => []
theorem te_p_proof_page_falls : Tryz.prog.funcs[84]? = some Tryz.f84 ∧ fnEvOK Tryz.prog Tryz.f84 = true := ⟨by kernel_rfl, by kernel_rfl⟩
def an_p_proof_page_passing_1 : Nat → List Nat := fun n => match n with  | _ => []
theorem te_p_proof_page_passing_1 : Tryz.prog.funcs[85]? = some Tryz.f85 ∧ fnEvOK Tryz.prog Tryz.f85 = true := ⟨by kernel_rfl, by kernel_rfl⟩
def an_p_proof_page_mustPass : Nat → List Nat := fun n => match n with  | _ => []
theorem te_p_proof_page_mustPass : Tryz.prog.funcs[86]? = some Tryz.f86 ∧ fnEvOK Tryz.prog Tryz.f86 = true := ⟨by kernel_rfl, by kernel_rfl⟩
def an_p_proof_page_passes_1 : Nat → List Nat := fun n => match n with | 1 => [0, 7, 8] | _ => []
theorem te_p_proof_page_passes_1 : Tryz.prog.funcs[87]? = some Tryz.f87 ∧ fnEvOK Tryz.prog Tryz.f87 = true := ⟨by kernel_rfl, by kernel_rfl⟩
def an_hands_isColumn : Nat → List Nat := fun n => match n with  | _ => []
theorem te_hands_isColumn : Tryz.prog.funcs[88]? = some Tryz.f88 ∧ fnEvOK Tryz.prog Tryz.f88 = true := ⟨by kernel_rfl, by kernel_rfl⟩
def an_hands_attempt : Nat → List Nat := fun n => match n with  | _ => []
theorem te_hands_attempt : Tryz.prog.funcs[89]? = some Tryz.f89 ∧ fnEvOK Tryz.prog Tryz.f89 = true := ⟨by kernel_rfl, by kernel_rfl⟩
def an_hands_Errors_1 : Nat → List Nat := fun n => match n with  | _ => []
theorem te_hands_Errors_1 : Tryz.prog.funcs[90]? = some Tryz.f90 ∧ fnEvOK Tryz.prog Tryz.f90 = true := ⟨by kernel_rfl, by kernel_rfl⟩
def an_hands_copied : Nat → List Nat := fun n => match n with | 3 => [0, 5, 9, 10, 11] | _ => []
theorem te_hands_copied : Tryz.prog.funcs[91]? = some Tryz.f91 ∧ fnEvOK Tryz.prog Tryz.f91 = true := ⟨by kernel_rfl, by kernel_rfl⟩
def an_slices_Index_l_int_int : Nat → List Nat := fun n => match n with | 2 => [0, 1, 7, 8] | _ => []
theorem te_slices_Index_l_int_int : Tryz.prog.funcs[92]? = some Tryz.f92 ∧ fnEvOK Tryz.prog Tryz.f92 = true := ⟨by kernel_rfl, by kernel_rfl⟩
def an_proof_pairs_1 : Nat → List Nat := fun n => match n with | 1 => [0, 1, 6, 7] | 4 => [0, 1, 3, 4, 6, 7] | _ => []
theorem te_proof_pairs_1 : Tryz.prog.funcs[93]? = some Tryz.f93 ∧ fnEvOK Tryz.prog Tryz.f93 = true := ⟨by kernel_rfl, by kernel_rfl⟩
def an_slices_Clone_l_api_ProofEntry_api_ProofEntry : Nat → List Nat := fun n => match n with  | _ => []
theorem te_slices_Clone_l_api_ProofEntry_api_ProofEntry : Tryz.prog.funcs[94]? = some Tryz.f94 ∧ fnEvOK Tryz.prog Tryz.f94 = true := ⟨by kernel_rfl, by kernel_rfl⟩
def an_slices_AppendSeq_l_api_ProofPair_api_ProofPair : Nat → List Nat := fun n => match n with | 2 => [2] | _ => []
theorem te_slices_AppendSeq_l_api_ProofPair_api_ProofPair : Tryz.prog.funcs[95]? = some Tryz.f95 ∧ fnEvOK Tryz.prog Tryz.f95 = true := ⟨by kernel_rfl, by kernel_rfl⟩
def an_ref01_Decimal : Nat → List Nat := fun n => match n with  | _ => []
theorem te_ref01_Decimal : Tryz.prog.funcs[96]? = some Tryz.f96 ∧ fnEvOK Tryz.prog Tryz.f96 = true := ⟨by kernel_rfl, by kernel_rfl⟩
def an_slices_IndexFunc_l_api_ProofLine_api_ProofLine : Nat → List Nat := fun n => match n with | 2 => [0, 1, 7, 8] | _ => []
theorem te_slices_IndexFunc_l_api_ProofLine_api_ProofLine : Tryz.prog.funcs[97]? = some Tryz.f97 ∧ fnEvOK Tryz.prog Tryz.f97 = true := ⟨by kernel_rfl, by kernel_rfl⟩
def an_slices_IndexFunc_l_api_ProofEntry_api_ProofEntry : Nat → List Nat := fun n => match n with | 2 => [0, 1, 7, 8] | _ => []
theorem te_slices_IndexFunc_l_api_ProofEntry_api_ProofEntry : Tryz.prog.funcs[98]? = some Tryz.f98 ∧ fnEvOK Tryz.prog Tryz.f98 = true := ⟨by kernel_rfl, by kernel_rfl⟩
def an_proof_words : Nat → List Nat := fun n => match n with  | _ => []
theorem te_proof_words : Tryz.prog.funcs[99]? = some Tryz.f99 ∧ fnEvOK Tryz.prog Tryz.f99 = true := ⟨by kernel_rfl, by kernel_rfl⟩
def an_proof_many : Nat → List Nat := fun n => match n with  | _ => []
theorem te_proof_many : Tryz.prog.funcs[105]? = some Tryz.f105 ∧ fnEvOK Tryz.prog Tryz.f105 = true := ⟨by kernel_rfl, by kernel_rfl⟩
def an_proof_given : Nat → List Nat := fun n => match n with | 4 => [0, 1, 5, 6, 7, 16, 23, 24, 27, 28, 29, 42, 43, 44, 45, 48, 49, 50, 51, 52, 53, 54, 55, 56] | _ => []
theorem te_proof_given : Tryz.prog.funcs[106]? = some Tryz.f106 ∧ fnEvOK Tryz.prog Tryz.f106 = true := ⟨by kernel_rfl, by kernel_rfl⟩
def an_p_proof_page_change : Nat → List Nat := fun n => match n with | 1 => [0, 1, 2, 3, 13, 14] | _ => []
theorem te_p_proof_page_change : Tryz.prog.funcs[107]? = some Tryz.f107 ∧ fnEvOK Tryz.prog Tryz.f107 = true := ⟨by kernel_rfl, by kernel_rfl⟩
def an_hands_in : Nat → List Nat := fun n => match n with  | _ => []
theorem te_hands_in : Tryz.prog.funcs[108]? = some Tryz.f108 ∧ fnEvOK Tryz.prog Tryz.f108 = true := ⟨by kernel_rfl, by kernel_rfl⟩
def an_slices_ContainsFunc_l_int_int : Nat → List Nat := fun n => match n with  | _ => []
theorem te_slices_ContainsFunc_l_int_int : Tryz.prog.funcs[109]? = some Tryz.f109 ∧ fnEvOK Tryz.prog Tryz.f109 = true := ⟨by kernel_rfl, by kernel_rfl⟩
def an_hands_isColumn_1 : Nat → List Nat := fun n => match n with  | _ => []
theorem te_hands_isColumn_1 : Tryz.prog.funcs[110]? = some Tryz.f110 ∧ fnEvOK Tryz.prog Tryz.f110 = true := ⟨by kernel_rfl, by kernel_rfl⟩
def an_hands_isNumber : Nat → List Nat := fun n => match n with  | _ => []
theorem te_hands_isNumber : Tryz.prog.funcs[111]? = some Tryz.f111 ∧ fnEvOK Tryz.prog Tryz.f111 = true := ⟨by kernel_rfl, by kernel_rfl⟩
def an_hands_attempt_1 : Nat → List Nat := fun n => match n with  | _ => []
theorem te_hands_attempt_1 : Tryz.prog.funcs[112]? = some Tryz.f112 ∧ fnEvOK Tryz.prog Tryz.f112 = true := ⟨by kernel_rfl, by kernel_rfl⟩
def an_hands_of : Nat → List Nat := fun n => match n with  | _ => []
theorem te_hands_of : Tryz.prog.funcs[113]? = some Tryz.f113 ∧ fnEvOK Tryz.prog Tryz.f113 = true := ⟨by kernel_rfl, by kernel_rfl⟩
def an_hands_right_kind : Nat → List Nat := fun n => match n with | 3 => [1, 2, 9, 10, 17, 18, 19, 20] | _ => []
theorem te_hands_right_kind : Tryz.prog.funcs[114]? = some Tryz.f114 ∧ fnEvOK Tryz.prog Tryz.f114 = true := ⟨by kernel_rfl, by kernel_rfl⟩
def an_slices_IndexFunc_l_int_int : Nat → List Nat := fun n => match n with | 2 => [0, 1, 7, 8] | _ => []
theorem te_slices_IndexFunc_l_int_int : Tryz.prog.funcs[122]? = some Tryz.f122 ∧ fnEvOK Tryz.prog Tryz.f122 = true := ⟨by kernel_rfl, by kernel_rfl⟩
def an_hands_right_turned : Nat → List Nat := fun n => match n with  | _ => []
theorem te_hands_right_turned : Tryz.prog.funcs[123]? = some Tryz.f123 ∧ fnEvOK Tryz.prog Tryz.f123 = true := ⟨by kernel_rfl, by kernel_rfl⟩
def an_hands_right_carried : Nat → List Nat := fun n => match n with  | _ => []
theorem te_hands_right_carried : Tryz.prog.funcs[124]? = some Tryz.f124 ∧ fnEvOK Tryz.prog Tryz.f124 = true := ⟨by kernel_rfl, by kernel_rfl⟩
def an_hands_right_other : Nat → List Nat := fun n => match n with  | _ => []
theorem te_hands_right_other : Tryz.prog.funcs[125]? = some Tryz.f125 ∧ fnEvOK Tryz.prog Tryz.f125 = true := ⟨by kernel_rfl, by kernel_rfl⟩
def an_hands_right_line : Nat → List Nat := fun n => match n with  | _ => []
theorem te_hands_right_line : Tryz.prog.funcs[126]? = some Tryz.f126 ∧ fnEvOK Tryz.prog Tryz.f126 = true := ⟨by kernel_rfl, by kernel_rfl⟩
def an_hands_right_figures : Nat → List Nat := fun n => match n with  | _ => []
theorem te_hands_right_figures : Tryz.prog.funcs[138]? = some Tryz.f138 ∧ fnEvOK Tryz.prog Tryz.f138 = true := ⟨by kernel_rfl, by kernel_rfl⟩
def an_hands_signed : Nat → List Nat := fun n => match n with  | _ => []
theorem te_hands_signed : Tryz.prog.funcs[139]? = some Tryz.f139 ∧ fnEvOK Tryz.prog Tryz.f139 = true := ⟨by kernel_rfl, by kernel_rfl⟩
def dm : FuncId → Nat := fun f => match List.contains [22, 36, 53, 57, 61, 78, 94] f with | true => 1 | false => 0
noncomputable def tab : Tab := [(4, Tryz.f4, an_law09_right),
  (5, Tryz.f5, an_law09_known),
  (6, Tryz.f6, an_proof_Print),
  (7, Tryz.f7, an_proof_Read),
  (8, Tryz.f8, an_ref09_SamePages),
  (9, Tryz.f9, an_law09_short),
  (10, Tryz.f10, an_ref09_Page),
  (11, Tryz.f11, an_proof_Now),
  (12, Tryz.f12, an_law09_A),
  (13, Tryz.f13, an_proof_Setters),
  (14, Tryz.f14, an_proof_Readers),
  (15, Tryz.f15, an_proof_Short),
  (16, Tryz.f16, an_proof_Passes),
  (17, Tryz.f17, an_proof_Pass),
  (18, Tryz.f18, an_law09_B),
  (19, Tryz.f19, an_proof_Differs),
  (20, Tryz.f20, an_proof_Errors),
  (21, Tryz.f21, an_proof_Missed),
  (22, Tryz.f22, an_proof_Worst),
  (23, Tryz.f23, an_proof_Useless),
  (24, Tryz.f24, an_law09_C),
  (25, Tryz.f25, an_proof_Best),
  (26, Tryz.f26, an_proof_Fewest),
  (27, Tryz.f27, an_ref01_Same),
  (28, Tryz.f28, an_ref02_SameErrors),
  (29, Tryz.f29, an_ref09_SameMisses),
  (30, Tryz.f30, an_ref09_SamePairs),
  (31, Tryz.f31, an_ref09_Print),
  (32, Tryz.f32, an_proof_isPage),
  (33, Tryz.f33, an_proof_text),
  (34, Tryz.f34, an_proof_attempt),
  (35, Tryz.f35, an_proof_Read_1),
  (36, Tryz.f36, an_proof_parsed),
  (37, Tryz.f37, an_ref09_in),
  (38, Tryz.f38, an_ref09_Person),
  (39, Tryz.f39, an_ref02_Number),
  (40, Tryz.f40, an_ref09_Entry),
  (41, Tryz.f41, an_proof_pageOf),
  (42, Tryz.f42, an_law09_fall),
  (43, Tryz.f43, an_proof_hasLine),
  (44, Tryz.f44, an_p_proof_page_readers),
  (45, Tryz.f45, an_p_proof_page_passing),
  (46, Tryz.f46, an_p_proof_page_passes),
  (47, Tryz.f47, an_law09_read),
  (48, Tryz.f48, an_law09_mend),
  (49, Tryz.f49, an_p_proof_page_differs),
  (50, Tryz.f50, an_hands_Errors),
  (51, Tryz.f51, an_slices_Contains_l_int_int),
  (52, Tryz.f52, an_proof_count),
  (53, Tryz.f53, an_proof_best_proof_reader),
  (54, Tryz.f54, an_proof_Worst_1),
  (55, Tryz.f55, an_proof_pairs),
  (56, Tryz.f56, an_proof_after),
  (57, Tryz.f57, an_proof_best_proof_chosen),
  (58, Tryz.f58, an_proof_Best_1),
  (59, Tryz.f59, an_slices_Collect_api_ProofPair),
  (60, Tryz.f60, an_proof_Fewest_1),
  (61, Tryz.f61, an_slices_Clone_l_api_ProofPair_api_ProofPair),
  (62, Tryz.f62, an_ref01_Row),
  (63, Tryz.f63, an_ref01_Sealed),
  (64, Tryz.f64, an_proof_in),
  (65, Tryz.f65, an_slices_ContainsFunc_l_api_ProofLine_api_ProofLine),
  (66, Tryz.f66, an_proof_isPage_1),
  (67, Tryz.f67, an_proof_hasPerson),
  (68, Tryz.f68, an_proof_isNumber),
  (69, Tryz.f69, an_slices_ContainsFunc_l_api_ProofEntry_api_ProofEntry),
  (70, Tryz.f70, an_proof_isPage_2),
  (71, Tryz.f71, an_proof_isEntry),
  (72, Tryz.f72, an_proof_told),
  (75, Tryz.f75, an_proof_attempt_1),
  (77, Tryz.f77, an_proof_need),
  (78, Tryz.f78, an_proof_numbered),
  (79, Tryz.f79, an_ref02_in),
  (80, Tryz.f80, an_ref09_Pair),
  (81, Tryz.f81, an_ref09_Line),
  (82, Tryz.f82, an_p_proof_page_reads),
  (83, Tryz.f83, an_p_proof_page_mends),
  (84, Tryz.f84, an_p_proof_page_falls),
  (85, Tryz.f85, an_p_proof_page_passing_1),
  (86, Tryz.f86, an_p_proof_page_mustPass),
  (87, Tryz.f87, an_p_proof_page_passes_1),
  (88, Tryz.f88, an_hands_isColumn),
  (89, Tryz.f89, an_hands_attempt),
  (90, Tryz.f90, an_hands_Errors_1),
  (91, Tryz.f91, an_hands_copied),
  (92, Tryz.f92, an_slices_Index_l_int_int),
  (93, Tryz.f93, an_proof_pairs_1),
  (94, Tryz.f94, an_slices_Clone_l_api_ProofEntry_api_ProofEntry),
  (95, Tryz.f95, an_slices_AppendSeq_l_api_ProofPair_api_ProofPair),
  (96, Tryz.f96, an_ref01_Decimal),
  (97, Tryz.f97, an_slices_IndexFunc_l_api_ProofLine_api_ProofLine),
  (98, Tryz.f98, an_slices_IndexFunc_l_api_ProofEntry_api_ProofEntry),
  (99, Tryz.f99, an_proof_words),
  (105, Tryz.f105, an_proof_many),
  (106, Tryz.f106, an_proof_given),
  (107, Tryz.f107, an_p_proof_page_change),
  (108, Tryz.f108, an_hands_in),
  (109, Tryz.f109, an_slices_ContainsFunc_l_int_int),
  (110, Tryz.f110, an_hands_isColumn_1),
  (111, Tryz.f111, an_hands_isNumber),
  (112, Tryz.f112, an_hands_attempt_1),
  (113, Tryz.f113, an_hands_of),
  (114, Tryz.f114, an_hands_right_kind),
  (122, Tryz.f122, an_slices_IndexFunc_l_int_int),
  (123, Tryz.f123, an_hands_right_turned),
  (124, Tryz.f124, an_hands_right_carried),
  (125, Tryz.f125, an_hands_right_other),
  (126, Tryz.f126, an_hands_right_line),
  (138, Tryz.f138, an_hands_right_figures),
  (139, Tryz.f139, an_hands_signed)]
theorem tab_ok : TabOK Tryz.prog tab := ⟨te_law09_right, ⟨te_law09_known, ⟨te_proof_Print, ⟨te_proof_Read, ⟨te_ref09_SamePages, ⟨te_law09_short, ⟨te_ref09_Page, ⟨te_proof_Now, ⟨te_law09_A, ⟨te_proof_Setters, ⟨te_proof_Readers, ⟨te_proof_Short, ⟨te_proof_Passes, ⟨te_proof_Pass, ⟨te_law09_B, ⟨te_proof_Differs, ⟨te_proof_Errors, ⟨te_proof_Missed, ⟨te_proof_Worst, ⟨te_proof_Useless, ⟨te_law09_C, ⟨te_proof_Best, ⟨te_proof_Fewest, ⟨te_ref01_Same, ⟨te_ref02_SameErrors, ⟨te_ref09_SameMisses, ⟨te_ref09_SamePairs, ⟨te_ref09_Print, ⟨te_proof_isPage, ⟨te_proof_text, ⟨te_proof_attempt, ⟨te_proof_Read_1, ⟨te_proof_parsed, ⟨te_ref09_in, ⟨te_ref09_Person, ⟨te_ref02_Number, ⟨te_ref09_Entry, ⟨te_proof_pageOf, ⟨te_law09_fall, ⟨te_proof_hasLine, ⟨te_p_proof_page_readers, ⟨te_p_proof_page_passing, ⟨te_p_proof_page_passes, ⟨te_law09_read, ⟨te_law09_mend, ⟨te_p_proof_page_differs, ⟨te_hands_Errors, ⟨te_slices_Contains_l_int_int, ⟨te_proof_count, ⟨te_proof_best_proof_reader, ⟨te_proof_Worst_1, ⟨te_proof_pairs, ⟨te_proof_after, ⟨te_proof_best_proof_chosen, ⟨te_proof_Best_1, ⟨te_slices_Collect_api_ProofPair, ⟨te_proof_Fewest_1, ⟨te_slices_Clone_l_api_ProofPair_api_ProofPair, ⟨te_ref01_Row, ⟨te_ref01_Sealed, ⟨te_proof_in, ⟨te_slices_ContainsFunc_l_api_ProofLine_api_ProofLine, ⟨te_proof_isPage_1, ⟨te_proof_hasPerson, ⟨te_proof_isNumber, ⟨te_slices_ContainsFunc_l_api_ProofEntry_api_ProofEntry, ⟨te_proof_isPage_2, ⟨te_proof_isEntry, ⟨te_proof_told, ⟨te_proof_attempt_1, ⟨te_proof_need, ⟨te_proof_numbered, ⟨te_ref02_in, ⟨te_ref09_Pair, ⟨te_ref09_Line, ⟨te_p_proof_page_reads, ⟨te_p_proof_page_mends, ⟨te_p_proof_page_falls, ⟨te_p_proof_page_passing_1, ⟨te_p_proof_page_mustPass, ⟨te_p_proof_page_passes_1, ⟨te_hands_isColumn, ⟨te_hands_attempt, ⟨te_hands_Errors_1, ⟨te_hands_copied, ⟨te_slices_Index_l_int_int, ⟨te_proof_pairs_1, ⟨te_slices_Clone_l_api_ProofEntry_api_ProofEntry, ⟨te_slices_AppendSeq_l_api_ProofPair_api_ProofPair, ⟨te_ref01_Decimal, ⟨te_slices_IndexFunc_l_api_ProofLine_api_ProofLine, ⟨te_slices_IndexFunc_l_api_ProofEntry_api_ProofEntry, ⟨te_proof_words, ⟨te_proof_many, ⟨te_proof_given, ⟨te_p_proof_page_change, ⟨te_hands_in, ⟨te_slices_ContainsFunc_l_int_int, ⟨te_hands_isColumn_1, ⟨te_hands_isNumber, ⟨te_hands_attempt_1, ⟨te_hands_of, ⟨te_hands_right_kind, ⟨te_slices_IndexFunc_l_int_int, ⟨te_hands_right_turned, ⟨te_hands_right_carried, ⟨te_hands_right_other, ⟨te_hands_right_line, ⟨te_hands_right_figures, ⟨te_hands_signed, trivial⟩⟩⟩⟩⟩⟩⟩⟩⟩⟩⟩⟩⟩⟩⟩⟩⟩⟩⟩⟩⟩⟩⟩⟩⟩⟩⟩⟩⟩⟩⟩⟩⟩⟩⟩⟩⟩⟩⟩⟩⟩⟩⟩⟩⟩⟩⟩⟩⟩⟩⟩⟩⟩⟩⟩⟩⟩⟩⟩⟩⟩⟩⟩⟩⟩⟩⟩⟩⟩⟩⟩⟩⟩⟩⟩⟩⟩⟩⟩⟩⟩⟩⟩⟩⟩⟩⟩⟩⟩⟩⟩⟩⟩⟩⟩⟩⟩⟩⟩⟩⟩⟩⟩⟩⟩⟩⟩⟩⟩⟩
end Go.Vc
