/- A part of the proof: general laws of a reading of the model by abstract data, or contracts of the functions that the law calls. -/
import Derived.KernelRfl
import Derived.Test.YthdjndbnnajpoaaGreatDoorProg
import Derived.Test.YthdjndbnnajpoaaGreatDoorVc11
set_option maxRecDepth 100000
namespace Go.Vc
open Go Go.Proofs Go.RowKit
abbrev f_law09_ProofMissed : FuncId := 10
abbrev f_ref09_Line : FuncId := 14
abbrev f_law09_known : FuncId := 15
abbrev f_law09_short : FuncId := 19
abbrev f_ref09_Page : FuncId := 22
abbrev f_ref09_Person : FuncId := 27
abbrev f_proof_Missed : FuncId := 41
abbrev f_proof_Worst : FuncId := 42
abbrev f_ref09_SameMisses : FuncId := 43
abbrev f_ref09_Missed : FuncId := 44
abbrev f_ref09_Worst : FuncId := 45
abbrev f_ref09_Entry : FuncId := 48
abbrev f_ref09_in : FuncId := 49
abbrev f_proof_isPage : FuncId := 58
abbrev f_proof_pageOf : FuncId := 59
abbrev f_proof_hasLine : FuncId := 60
abbrev f_ref02_Number : FuncId := 62
abbrev f_ref09_reads : FuncId := 63
abbrev f_p_proof_page_differs : FuncId := 68
abbrev f_ref09_Number : FuncId := 69
abbrev f_slices_Contains_l_int_int : FuncId := 74
abbrev f_proof_count : FuncId := 75
abbrev f_proof_best_proof_reader : FuncId := 76
abbrev f_proof_Worst_1 : FuncId := 77
abbrev f_ref09_Misses : FuncId := 78
abbrev f_ref09_Of : FuncId := 79
abbrev f_ref09_Pair : FuncId := 80
abbrev f_slices_Clone_l_api_ProofPair_api_ProofPair : FuncId := 89
abbrev f_proof_in : FuncId := 95
abbrev f_slices_ContainsFunc_l_api_ProofLine_api_ProofLine : FuncId := 96
abbrev f_proof_isPage_1 : FuncId := 97
abbrev f_proof_hasPerson : FuncId := 98
abbrev f_proof_isNumber : FuncId := 99
abbrev f_slices_ContainsFunc_l_api_ProofEntry_api_ProofEntry : FuncId := 100
abbrev f_proof_isPage_2 : FuncId := 101
abbrev f_proof_isEntry : FuncId := 102
abbrev f_p_proof_page_reads : FuncId := 103
abbrev f_p_proof_page_mends : FuncId := 104
abbrev f_p_proof_page_falls : FuncId := 105
abbrev f_ref02_in : FuncId := 106
abbrev f_ref09_changes : FuncId := 107
abbrev f_slices_Index_l_int_int : FuncId := 118
abbrev f_slices_Clone_l_api_ProofEntry_api_ProofEntry : FuncId := 120
abbrev f_slices_IndexFunc_l_api_ProofLine_api_ProofLine : FuncId := 128
abbrev f_slices_IndexFunc_l_api_ProofEntry_api_ProofEntry : FuncId := 129
abbrev f_p_proof_page_change : FuncId := 130
abbrev T_int : TypeId := 3
abbrev T_api_ProofPage : TypeId := 25
abbrev T_api_ProofEntry : TypeId := 29
abbrev T_api_ProofLine : TypeId := 53
abbrev T_api_ProofMiss : TypeId := 68
abbrev T_api_ProofPair : TypeId := 81
abbrev T_proof_page : TypeId := 85
abbrev T_proof_reader : TypeId := 99
abbrev T_3_func_p_proof_page_int_l_int : TypeId := 127
abbrev GG := {p : Nat × (World → Prop) // ∀ w w', p.2 w → Below p.1 w w' → p.2 w'}
noncomputable def Tz (g : GG) : Ctx := ⟨Tryz.prog, g.1.1, g.1.2, g.2, true⟩
end Go.Vc

namespace Go.Vc
open Go Go.Proofs Go.RowKit
def ann_slices_Clone_l_api_ProofPair_api_ProofPair : Nat → List Nat := fun n => match n with  | _ => []
def vc_slices_Clone_l_api_ProofPair_api_ProofPair (P : Ctx) (pre : List ABlk) (a0 : AV) (r : AV) (post : List PB) : Prop :=
  let h0 : Heap := numbered 0 pre
  BIN 998 .eql a0 .zc fun v4 =>
  COND v4
  (POST .zc h0 pre r post)
  (MKS T_api_ProofPair 2 [] 48 h0 fun v5 h1 =>
  APP T_api_ProofPair 2 v5 a0 64 h1 fun v7 h2 =>
  POST v7 h2 pre r post)
theorem vc_slices_Clone_l_api_ProofPair_api_ProofPair_eq (g : GG) (pre : List ABlk) (a0 : AV) (r : AV) (post : List PB) : vcFn2 (Tz g) false ann_slices_Clone_l_api_ProofPair_api_ProofPair Tryz.f89 pre [a0] (.ret r) post = vc_slices_Clone_l_api_ProofPair_api_ProofPair (Tz g) pre a0 r post := by kernel_rfl
theorem hf_slices_Clone_l_api_ProofPair_api_ProofPair : Tryz.prog.funcs[f_slices_Clone_l_api_ProofPair_api_ProofPair]? = some Tryz.f89 := by kernel_rfl
theorem ok_slices_Clone_l_api_ProofPair_api_ProofPair : fnVcOK Tryz.prog Tryz.f89 = true := by kernel_rfl
theorem nt_slices_Clone_l_api_ProofPair_api_ProofPair : Nat.ble 1 Tryz.f89.ntmps = true := by kernel_rfl
theorem meetsH_slices_Clone_l_api_ProofPair_api_ProofPair {g : GG} {pre : List ABlk} {a0 : AV} {r : AV} {post : List PB} (hk : Nat.ble pre.length 24 = true) (h : vc_slices_Clone_l_api_ProofPair_api_ProofPair (Tz g) pre a0 r post) : MeetsH (Tz g) f_slices_Clone_l_api_ProofPair_api_ProofPair pre [a0] (.ret r) post :=
  meetsH_of_vc (C := Tz g) ann_slices_Clone_l_api_ProofPair_api_ProofPair hf_slices_Clone_l_api_ProofPair_api_ProofPair ok_slices_Clone_l_api_ProofPair_api_ProofPair nt_slices_Clone_l_api_ProofPair_api_ProofPair hk (pn := false) (Eq.mpr ((vcFn2_eq _ _ _ _ _ _ _ _).trans (vc_slices_Clone_l_api_ProofPair_api_ProofPair_eq g pre a0 r post)) h)
def ann_slices_Clone_l_api_ProofEntry_api_ProofEntry : Nat → List Nat := fun n => match n with  | _ => []
def vc_slices_Clone_l_api_ProofEntry_api_ProofEntry (P : Ctx) (pre : List ABlk) (a0 : AV) (r : AV) (post : List PB) : Prop :=
  let h0 : Heap := numbered 0 pre
  BIN 998 .eql a0 .zc fun v4 =>
  COND v4
  (POST .zc h0 pre r post)
  (MKS T_api_ProofEntry 2 [] 48 h0 fun v5 h1 =>
  APP T_api_ProofEntry 2 v5 a0 64 h1 fun v7 h2 =>
  POST v7 h2 pre r post)
theorem vc_slices_Clone_l_api_ProofEntry_api_ProofEntry_eq (g : GG) (pre : List ABlk) (a0 : AV) (r : AV) (post : List PB) : vcFn2 (Tz g) false ann_slices_Clone_l_api_ProofEntry_api_ProofEntry Tryz.f120 pre [a0] (.ret r) post = vc_slices_Clone_l_api_ProofEntry_api_ProofEntry (Tz g) pre a0 r post := by kernel_rfl
theorem hf_slices_Clone_l_api_ProofEntry_api_ProofEntry : Tryz.prog.funcs[f_slices_Clone_l_api_ProofEntry_api_ProofEntry]? = some Tryz.f120 := by kernel_rfl
theorem ok_slices_Clone_l_api_ProofEntry_api_ProofEntry : fnVcOK Tryz.prog Tryz.f120 = true := by kernel_rfl
theorem nt_slices_Clone_l_api_ProofEntry_api_ProofEntry : Nat.ble 1 Tryz.f120.ntmps = true := by kernel_rfl
theorem meetsH_slices_Clone_l_api_ProofEntry_api_ProofEntry {g : GG} {pre : List ABlk} {a0 : AV} {r : AV} {post : List PB} (hk : Nat.ble pre.length 24 = true) (h : vc_slices_Clone_l_api_ProofEntry_api_ProofEntry (Tz g) pre a0 r post) : MeetsH (Tz g) f_slices_Clone_l_api_ProofEntry_api_ProofEntry pre [a0] (.ret r) post :=
  meetsH_of_vc (C := Tz g) ann_slices_Clone_l_api_ProofEntry_api_ProofEntry hf_slices_Clone_l_api_ProofEntry_api_ProofEntry ok_slices_Clone_l_api_ProofEntry_api_ProofEntry nt_slices_Clone_l_api_ProofEntry_api_ProofEntry hk (pn := false) (Eq.mpr ((vcFn2_eq _ _ _ _ _ _ _ _).trans (vc_slices_Clone_l_api_ProofEntry_api_ProofEntry_eq g pre a0 r post)) h)
end Go.Vc
