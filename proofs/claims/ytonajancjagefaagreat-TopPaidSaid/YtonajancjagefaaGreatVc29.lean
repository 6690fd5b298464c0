/- A part of the proof: general laws of a reading of the model by abstract data, or contracts of the functions that the law calls. -/
import Derived.KernelRfl
import Derived.Test.YtonajancjagefaaGreatProg
import Derived.Test.YtonajancjagefaaGreatVc15
set_option maxRecDepth 100000
namespace Go.Vc
open Go Go.Proofs Go.RowKit
abbrev f_top_TopPaid : FuncId := 3
abbrev f_ref09_Page : FuncId := 4
abbrev f_top_known11 : FuncId := 5
abbrev f_proof_Differs : FuncId := 6
abbrev f_proof_Errors : FuncId := 7
abbrev f_ref09_Line : FuncId := 8
abbrev f_ref09_With : FuncId := 9
abbrev f_pay_Owed : FuncId := 10
abbrev f_ref09_in : FuncId := 11
abbrev f_ref09_Person : FuncId := 12
abbrev f_ref02_Number : FuncId := 13
abbrev f_ref09_Entry : FuncId := 14
abbrev f_copies_Fewest : FuncId := 17
abbrev f_proof_isPage : FuncId := 22
abbrev f_proof_pageOf : FuncId := 23
abbrev f_p_proof_page_differs : FuncId := 24
abbrev f_hands_Errors : FuncId := 25
abbrev f_pay_isBook : FuncId := 26
abbrev f_pay_in : FuncId := 27
abbrev f_pay_ends : FuncId := 28
abbrev f_pay_Owed_1 : FuncId := 29
abbrev f_pay_account_owed : FuncId := 30
abbrev f_pay_always : FuncId := 31
abbrev f_ref02_in : FuncId := 32
abbrev f_ref09_Pair : FuncId := 33
abbrev f_copies_isTree : FuncId := 40
abbrev f_copies_readingOf : FuncId := 41
abbrev f_copies_reading_errors : FuncId := 42
abbrev f_proof_in : FuncId := 46
abbrev f_slices_ContainsFunc_l_api_ProofLine_api_ProofLine : FuncId := 47
abbrev f_proof_isPage_1 : FuncId := 48
abbrev f_proof_hasPerson : FuncId := 49
abbrev f_proof_isNumber : FuncId := 50
abbrev f_slices_ContainsFunc_l_api_ProofEntry_api_ProofEntry : FuncId := 51
abbrev f_proof_isPage_2 : FuncId := 52
abbrev f_proof_isEntry : FuncId := 53
abbrev f_p_proof_page_reads : FuncId := 54
abbrev f_p_proof_page_mends : FuncId := 55
abbrev f_p_proof_page_falls : FuncId := 56
abbrev f_hands_isColumn : FuncId := 57
abbrev f_hands_attempt : FuncId := 58
abbrev f_hands_Errors_1 : FuncId := 59
abbrev f_hands_copied : FuncId := 60
abbrev f_pay_isBook_1 : FuncId := 61
abbrev f_slices_ContainsFunc_l_int_int : FuncId := 62
abbrev f_slices_ContainsFunc_l_api_PayLine_api_PayLine : FuncId := 63
abbrev f_pay_isBook_2 : FuncId := 64
abbrev f_pay_isLine : FuncId := 65
abbrev f_pay_truths : FuncId := 66
abbrev f_pay_account_sheets : FuncId := 67
abbrev f_pay_account_mornings : FuncId := 68
abbrev f_pay_account_posts : FuncId := 69
abbrev f_slices_Clone_l_int_int : FuncId := 79
abbrev f_copies_reading_least : FuncId := 84
abbrev f_slices_IndexFunc_l_api_ProofLine_api_ProofLine : FuncId := 88
abbrev f_slices_IndexFunc_l_api_ProofEntry_api_ProofEntry : FuncId := 89
abbrev f_proof_hasLine : FuncId := 90
abbrev f_p_proof_page_change : FuncId := 91
abbrev f_hands_in : FuncId := 92
abbrev f_hands_isColumn_1 : FuncId := 93
abbrev f_hands_isNumber : FuncId := 94
abbrev f_hands_of : FuncId := 96
abbrev f_hands_right_kind : FuncId := 97
abbrev f_slices_IndexFunc_l_int_int : FuncId := 98
abbrev f_slices_IndexFunc_l_api_PayLine_api_PayLine : FuncId := 99
abbrev f_pay_isMoney : FuncId := 100
abbrev f_pay_truths_1 : FuncId := 101
abbrev f_pay_truths_1_1 : FuncId := 102
abbrev f_copies_fits : FuncId := 105
abbrev f_copies_reading_fewest : FuncId := 106
abbrev f_copies_sum : FuncId := 107
abbrev f_hands_right_turned : FuncId := 110
abbrev f_hands_right_carried : FuncId := 111
abbrev f_hands_right_other : FuncId := 112
abbrev f_hands_right_line : FuncId := 113
abbrev f_copies_reading_step : FuncId := 116
abbrev f_hands_right_figures : FuncId := 117
abbrev f_hands_signed : FuncId := 118
abbrev T_int : TypeId := 3
abbrev T_bool : TypeId := 4
abbrev T_api_ProofPage : TypeId := 25
abbrev T_l_int : TypeId := 28
abbrev T_l_api_HandsError : TypeId := 32
abbrev T_api_ProofLine : TypeId := 39
abbrev T_api_ProofEntry : TypeId := 41
abbrev T_api_Span : TypeId := 43
abbrev T_api_PayMoney : TypeId := 45
abbrev T_api_PayLine : TypeId := 47
abbrev T_api_PayBook : TypeId := 50
abbrev T_api_CopiesTree : TypeId := 67
abbrev T_proof_page : TypeId := 79
abbrev T_pay_account : TypeId := 83
abbrev T_func_pay_account_int : TypeId := 85
abbrev T_func_pay_account_bool : TypeId := 86
abbrev T_copies_reading : TypeId := 101
abbrev T_api_CopiesCopy : TypeId := 105
abbrev T_3_func_p_proof_page_int_l_int : TypeId := 114
abbrev T_func_l_int_bool : TypeId := 115
abbrev T_copies_spot : TypeId := 141
abbrev T_api_ProofMiss : TypeId := 148
abbrev T_hands_unlike : TypeId := 151
abbrev T_hands_right : TypeId := 156
abbrev T_api_HandsError : TypeId := 160
abbrev T_5_func_hands_right_int_bool : TypeId := 177
abbrev GG := {p : Nat × (World → Prop) // ∀ w w', p.2 w → Below p.1 w w' → p.2 w'}
noncomputable def Tz (g : GG) : Ctx := ⟨Tryz.prog, g.1.1, g.1.2, g.2, true⟩
end Go.Vc

namespace Go.Vc
open Go Go.Proofs Go.RowKit
def ann_slices_Clone_l_int_int : Nat → List Nat := fun n => match n with  | _ => []
def vc_slices_Clone_l_int_int (_P : Ctx) (pre : List ABlk) (a0 : AV) (r : AV) (post : List PB) : Prop :=
  let h0 : Heap := numbered 0 pre
  BIN 998 .eql a0 .zc fun v4 =>
  COND v4
  (POST .zc h0 pre r post)
  (MKS T_int 1 [] 48 h0 fun v5 h1 =>
  APP T_int 1 v5 a0 64 h1 fun v7 h2 =>
  POST v7 h2 pre r post)
theorem vc_slices_Clone_l_int_int_eq (g : GG) (pre : List ABlk) (a0 : AV) (r : AV) (post : List PB) : vcFn2 (Tz g) false ann_slices_Clone_l_int_int Tryz.f79 pre [a0] (.ret r) post = vc_slices_Clone_l_int_int (Tz g) pre a0 r post := by kernel_rfl
theorem hf_slices_Clone_l_int_int : Tryz.prog.funcs[f_slices_Clone_l_int_int]? = some Tryz.f79 := by kernel_rfl
theorem ok_slices_Clone_l_int_int : fnVcOK Tryz.prog Tryz.f79 = true := by kernel_rfl
theorem nt_slices_Clone_l_int_int : Nat.ble 1 Tryz.f79.ntmps = true := by kernel_rfl
theorem meetsH_slices_Clone_l_int_int {g : GG} {pre : List ABlk} {a0 : AV} {r : AV} {post : List PB} (hk : Nat.ble pre.length 24 = true) (h : vc_slices_Clone_l_int_int (Tz g) pre a0 r post) : MeetsH (Tz g) f_slices_Clone_l_int_int pre [a0] (.ret r) post :=
  meetsH_of_vc (C := Tz g) ann_slices_Clone_l_int_int hf_slices_Clone_l_int_int ok_slices_Clone_l_int_int nt_slices_Clone_l_int_int hk (pn := false) (Eq.mpr ((vcFn2_eq _ _ _ _ _ _ _ _).trans (vc_slices_Clone_l_int_int_eq g pre a0 r post)) h)
end Go.Vc
