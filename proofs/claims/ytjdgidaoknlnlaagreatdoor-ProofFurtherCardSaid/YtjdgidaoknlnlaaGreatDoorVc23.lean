/- A part of the proof: general laws of a reading of the model by abstract data, or contracts of the functions that the law calls. -/
import Derived.KernelRfl
import Derived.Test.YtjdgidaoknlnlaaGreatDoorProg
import Derived.Test.YtjdgidaoknlnlaaGreatDoorVc11
set_option maxRecDepth 100000
namespace Go.Vc
open Go Go.Proofs Go.RowKit
abbrev f_law09_ProofFurther : FuncId := 7
abbrev f_law09_short : FuncId := 14
abbrev f_law09_known : FuncId := 15
abbrev f_ref09_Page : FuncId := 18
abbrev f_ref09_Line : FuncId := 26
abbrev f_ref09_Person : FuncId := 27
abbrev f_ref09_With : FuncId := 29
abbrev f_proof_Best : FuncId := 38
abbrev f_proof_Fewest : FuncId := 39
abbrev f_ref09_Best : FuncId := 40
abbrev f_ref09_Fewest : FuncId := 41
abbrev f_ref09_SamePairs : FuncId := 42
abbrev f_ref09_Pair : FuncId := 43
abbrev f_ref09_Whole : FuncId := 46
abbrev f_proof_isPage : FuncId := 59
abbrev f_proof_pageOf : FuncId := 60
abbrev f_p_proof_page_differs : FuncId := 61
abbrev f_ref09_in : FuncId := 62
abbrev f_ref02_Number : FuncId := 63
abbrev f_ref09_Entry : FuncId := 64
abbrev f_proof_hasLine : FuncId := 74
abbrev f_p_proof_page_readers : FuncId := 75
abbrev f_proof_pairs : FuncId := 76
abbrev f_proof_after : FuncId := 77
abbrev f_p_proof_page_passing : FuncId := 78
abbrev f_proof_best_proof_chosen : FuncId := 79
abbrev f_proof_Best_1 : FuncId := 80
abbrev f_slices_Collect_api_ProofPair : FuncId := 81
abbrev f_proof_Fewest_1 : FuncId := 82
abbrev f_p_proof_page_passes : FuncId := 83
abbrev f_slices_Clone_l_api_ProofPair_api_ProofPair : FuncId := 84
abbrev f_ref09_pairs : FuncId := 85
abbrev f_ref09_Passes : FuncId := 86
abbrev f_ref09_lists : FuncId := 87
abbrev f_ref09_Enough : FuncId := 88
abbrev f_proof_attempt : FuncId := 90
abbrev f_proof_in : FuncId := 99
abbrev f_slices_ContainsFunc_l_api_ProofLine_api_ProofLine : FuncId := 100
abbrev f_proof_isPage_1 : FuncId := 101
abbrev f_proof_hasPerson : FuncId := 102
abbrev f_proof_isNumber : FuncId := 103
abbrev f_slices_ContainsFunc_l_api_ProofEntry_api_ProofEntry : FuncId := 104
abbrev f_proof_isPage_2 : FuncId := 105
abbrev f_proof_isEntry : FuncId := 106
abbrev f_p_proof_page_reads : FuncId := 107
abbrev f_p_proof_page_mends : FuncId := 108
abbrev f_p_proof_page_falls : FuncId := 109
abbrev f_ref02_in : FuncId := 110
abbrev f_ref09_changes : FuncId := 111
abbrev f_proof_pairs_1 : FuncId := 120
abbrev f_slices_Clone_l_api_ProofEntry_api_ProofEntry : FuncId := 121
abbrev f_p_proof_page_passing_1 : FuncId := 122
abbrev f_p_proof_page_mustPass : FuncId := 123
abbrev f_slices_AppendSeq_l_api_ProofPair_api_ProofPair : FuncId := 124
abbrev f_p_proof_page_passes_1 : FuncId := 125
abbrev f_ref09_Readers : FuncId := 126
abbrev f_ref09_Pass : FuncId := 127
abbrev f_slices_IndexFunc_l_api_ProofLine_api_ProofLine : FuncId := 137
abbrev f_slices_IndexFunc_l_api_ProofEntry_api_ProofEntry : FuncId := 138
abbrev f_p_proof_page_change : FuncId := 139
abbrev f_ref09_reads : FuncId := 145
abbrev f_ref09_changed : FuncId := 146
abbrev f_ref09_Setter : FuncId := 147
abbrev T_int : TypeId := 3
abbrev T_bool : TypeId := 4
abbrev T_api_ProofPage : TypeId := 25
abbrev T_api_ProofEntry : TypeId := 43
abbrev T_api_ProofLine : TypeId := 46
abbrev T_api_ProofMiss : TypeId := 58
abbrev T_l_api_ProofPair : TypeId := 64
abbrev T_api_ProofPair : TypeId := 76
abbrev T_p_proof_page : TypeId := 91
abbrev T_proof_page : TypeId := 96
abbrev T_l_proof_chosen : TypeId := 110
abbrev T_proof_chosen : TypeId := 117
abbrev T_func_l_api_ProofPair_int : TypeId := 121
abbrev T_3_func_p_proof_page_int_l_int : TypeId := 141
abbrev T_proof_short : TypeId := 169
abbrev GG := {p : Nat × (World → Prop) // ∀ w w', p.2 w → Below p.1 w w' → p.2 w'}
noncomputable def Tz (g : GG) : Ctx := ⟨Tryz.prog, g.1.1, g.1.2, g.2, true⟩
end Go.Vc

namespace Go.Vc
open Go Go.Proofs Go.RowKit
def ann_slices_Clone_l_api_ProofPair_api_ProofPair : Nat → List Nat := fun n => match n with  | _ => []
def vc_slices_Clone_l_api_ProofPair_api_ProofPair (P : Ctx) (pre : List ABlk) (a0 : AV) (r : AV) (post : List PB) : Prop :=
  let h0 : Heap := numbered 0 pre
  BIN 998 .eql a0 .zc fun v4 =>
  COND v4
  (POST .zc h0 pre r post)
  (MKS T_api_ProofPair 2 [] 48 h0 fun v5 h1 =>
  APP T_api_ProofPair 2 v5 a0 64 h1 fun v7 h2 =>
  POST v7 h2 pre r post)
theorem vc_slices_Clone_l_api_ProofPair_api_ProofPair_eq (g : GG) (pre : List ABlk) (a0 : AV) (r : AV) (post : List PB) : vcFn2 (Tz g) false ann_slices_Clone_l_api_ProofPair_api_ProofPair Tryz.f84 pre [a0] (.ret r) post = vc_slices_Clone_l_api_ProofPair_api_ProofPair (Tz g) pre a0 r post := by kernel_rfl
theorem hf_slices_Clone_l_api_ProofPair_api_ProofPair : Tryz.prog.funcs[f_slices_Clone_l_api_ProofPair_api_ProofPair]? = some Tryz.f84 := by kernel_rfl
theorem ok_slices_Clone_l_api_ProofPair_api_ProofPair : fnVcOK Tryz.prog Tryz.f84 = true := by kernel_rfl
theorem nt_slices_Clone_l_api_ProofPair_api_ProofPair : Nat.ble 1 Tryz.f84.ntmps = true := by kernel_rfl
theorem meetsH_slices_Clone_l_api_ProofPair_api_ProofPair {g : GG} {pre : List ABlk} {a0 : AV} {r : AV} {post : List PB} (hk : Nat.ble pre.length 24 = true) (h : vc_slices_Clone_l_api_ProofPair_api_ProofPair (Tz g) pre a0 r post) : MeetsH (Tz g) f_slices_Clone_l_api_ProofPair_api_ProofPair pre [a0] (.ret r) post :=
  meetsH_of_vc (C := Tz g) ann_slices_Clone_l_api_ProofPair_api_ProofPair hf_slices_Clone_l_api_ProofPair_api_ProofPair ok_slices_Clone_l_api_ProofPair_api_ProofPair nt_slices_Clone_l_api_ProofPair_api_ProofPair hk (pn := false) (Eq.mpr ((vcFn2_eq _ _ _ _ _ _ _ _).trans (vc_slices_Clone_l_api_ProofPair_api_ProofPair_eq g pre a0 r post)) h)
def ann_slices_Clone_l_api_ProofEntry_api_ProofEntry : Nat → List Nat := fun n => match n with  | _ => []
def vc_slices_Clone_l_api_ProofEntry_api_ProofEntry (P : Ctx) (pre : List ABlk) (a0 : AV) (r : AV) (post : List PB) : Prop :=
  let h0 : Heap := numbered 0 pre
  BIN 998 .eql a0 .zc fun v4 =>
  COND v4
  (POST .zc h0 pre r post)
  (MKS T_api_ProofEntry 2 [] 48 h0 fun v5 h1 =>
  APP T_api_ProofEntry 2 v5 a0 64 h1 fun v7 h2 =>
  POST v7 h2 pre r post)
theorem vc_slices_Clone_l_api_ProofEntry_api_ProofEntry_eq (g : GG) (pre : List ABlk) (a0 : AV) (r : AV) (post : List PB) : vcFn2 (Tz g) false ann_slices_Clone_l_api_ProofEntry_api_ProofEntry Tryz.f121 pre [a0] (.ret r) post = vc_slices_Clone_l_api_ProofEntry_api_ProofEntry (Tz g) pre a0 r post := by kernel_rfl
theorem hf_slices_Clone_l_api_ProofEntry_api_ProofEntry : Tryz.prog.funcs[f_slices_Clone_l_api_ProofEntry_api_ProofEntry]? = some Tryz.f121 := by kernel_rfl
theorem ok_slices_Clone_l_api_ProofEntry_api_ProofEntry : fnVcOK Tryz.prog Tryz.f121 = true := by kernel_rfl
theorem nt_slices_Clone_l_api_ProofEntry_api_ProofEntry : Nat.ble 1 Tryz.f121.ntmps = true := by kernel_rfl
theorem meetsH_slices_Clone_l_api_ProofEntry_api_ProofEntry {g : GG} {pre : List ABlk} {a0 : AV} {r : AV} {post : List PB} (hk : Nat.ble pre.length 24 = true) (h : vc_slices_Clone_l_api_ProofEntry_api_ProofEntry (Tz g) pre a0 r post) : MeetsH (Tz g) f_slices_Clone_l_api_ProofEntry_api_ProofEntry pre [a0] (.ret r) post :=
  meetsH_of_vc (C := Tz g) ann_slices_Clone_l_api_ProofEntry_api_ProofEntry hf_slices_Clone_l_api_ProofEntry_api_ProofEntry ok_slices_Clone_l_api_ProofEntry_api_ProofEntry nt_slices_Clone_l_api_ProofEntry_api_ProofEntry hk (pn := false) (Eq.mpr ((vcFn2_eq _ _ _ _ _ _ _ _).trans (vc_slices_Clone_l_api_ProofEntry_api_ProofEntry_eq g pre a0 r post)) h)
end Go.Vc
