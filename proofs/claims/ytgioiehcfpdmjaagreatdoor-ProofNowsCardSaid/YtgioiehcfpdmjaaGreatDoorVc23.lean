/- A part of the proof: general laws of a reading of the model by abstract data, or contracts of the functions that the law calls. -/
import Derived.KernelRfl
import Derived.Test.YtgioiehcfpdmjaaGreatDoorProg
import Derived.Test.YtgioiehcfpdmjaaGreatDoorVc11
set_option maxRecDepth 100000
namespace Go.Vc
open Go Go.Proofs Go.RowKit
abbrev f_law09_ProofNows : FuncId := 8
abbrev f_ref09_Line : FuncId := 13
abbrev f_law09_known : FuncId := 14
abbrev f_proof_Now : FuncId := 17
abbrev f_proof_Setters : FuncId := 18
abbrev f_ref01_Same : FuncId := 20
abbrev f_law09_short : FuncId := 22
abbrev f_ref09_Page : FuncId := 25
abbrev f_ref09_Pair : FuncId := 29
abbrev f_proof_Check : FuncId := 36
abbrev f_ref09_Now : FuncId := 37
abbrev f_ref09_Setters : FuncId := 38
abbrev f_ref09_in : FuncId := 44
abbrev f_proof_isPage : FuncId := 55
abbrev f_proof_pageOf : FuncId := 56
abbrev f_proof_hasLine : FuncId := 57
abbrev f_slices_Clone_l_api_ProofPair_api_ProofPair : FuncId := 67
abbrev f_ref09_Person : FuncId := 68
abbrev f_ref02_Number : FuncId := 69
abbrev f_ref09_Entry : FuncId := 70
abbrev f_ref09_Number : FuncId := 75
abbrev f_ref09_Setter : FuncId := 76
abbrev f_p_proof_page_differs : FuncId := 88
abbrev f_proof_in : FuncId := 94
abbrev f_slices_ContainsFunc_l_api_ProofLine_api_ProofLine : FuncId := 95
abbrev f_proof_isPage_1 : FuncId := 96
abbrev f_proof_hasPerson : FuncId := 97
abbrev f_proof_isNumber : FuncId := 98
abbrev f_slices_ContainsFunc_l_api_ProofEntry_api_ProofEntry : FuncId := 99
abbrev f_proof_isPage_2 : FuncId := 100
abbrev f_proof_isEntry : FuncId := 101
abbrev f_p_proof_page_reads : FuncId := 102
abbrev f_p_proof_page_mends : FuncId := 103
abbrev f_p_proof_page_falls : FuncId := 104
abbrev f_slices_Clone_l_api_ProofEntry_api_ProofEntry : FuncId := 106
abbrev f_ref02_in : FuncId := 111
abbrev f_ref09_changes : FuncId := 114
abbrev f_slices_IndexFunc_l_api_ProofLine_api_ProofLine : FuncId := 129
abbrev f_slices_IndexFunc_l_api_ProofEntry_api_ProofEntry : FuncId := 130
abbrev f_p_proof_page_change : FuncId := 131
abbrev T_int : TypeId := 3
abbrev T_api_ProofPage : TypeId := 25
abbrev T_api_ProofEntry : TypeId := 35
abbrev T_api_ProofPair : TypeId := 56
abbrev T_api_ProofMiss : TypeId := 87
abbrev T_proof_page : TypeId := 92
abbrev T_api_ProofLine : TypeId := 108
abbrev T_3_func_p_proof_page_int_l_int : TypeId := 139
abbrev GG := {p : Nat × (World → Prop) // ∀ w w', p.2 w → Below p.1 w w' → p.2 w'}
noncomputable def Tz (g : GG) : Ctx := ⟨Tryz.prog, g.1.1, g.1.2, g.2, true⟩
end Go.Vc

namespace Go.Vc
open Go Go.Proofs Go.RowKit
def ann_slices_Clone_l_api_ProofPair_api_ProofPair : Nat → List Nat := fun n => match n with  | _ => []
def vc_slices_Clone_l_api_ProofPair_api_ProofPair (P : Ctx) (pre : List ABlk) (a0 : AV) (r : AV) (post : List PB) : Prop :=
  let h0 : Heap := numbered 0 pre
  BIN 998 .eql a0 .zc fun v4 =>
  COND v4
  (POST .zc h0 pre r post)
  (MKS T_api_ProofPair 2 [] 48 h0 fun v5 h1 =>
  APP T_api_ProofPair 2 v5 a0 64 h1 fun v7 h2 =>
  POST v7 h2 pre r post)
theorem vc_slices_Clone_l_api_ProofPair_api_ProofPair_eq (g : GG) (pre : List ABlk) (a0 : AV) (r : AV) (post : List PB) : vcFn2 (Tz g) false ann_slices_Clone_l_api_ProofPair_api_ProofPair Tryz.f67 pre [a0] (.ret r) post = vc_slices_Clone_l_api_ProofPair_api_ProofPair (Tz g) pre a0 r post := by kernel_rfl
theorem hf_slices_Clone_l_api_ProofPair_api_ProofPair : Tryz.prog.funcs[f_slices_Clone_l_api_ProofPair_api_ProofPair]? = some Tryz.f67 := by kernel_rfl
theorem ok_slices_Clone_l_api_ProofPair_api_ProofPair : fnVcOK Tryz.prog Tryz.f67 = true := by kernel_rfl
theorem nt_slices_Clone_l_api_ProofPair_api_ProofPair : Nat.ble 1 Tryz.f67.ntmps = true := by kernel_rfl
theorem meetsH_slices_Clone_l_api_ProofPair_api_ProofPair {g : GG} {pre : List ABlk} {a0 : AV} {r : AV} {post : List PB} (hk : Nat.ble pre.length 24 = true) (h : vc_slices_Clone_l_api_ProofPair_api_ProofPair (Tz g) pre a0 r post) : MeetsH (Tz g) f_slices_Clone_l_api_ProofPair_api_ProofPair pre [a0] (.ret r) post :=
  meetsH_of_vc (C := Tz g) ann_slices_Clone_l_api_ProofPair_api_ProofPair hf_slices_Clone_l_api_ProofPair_api_ProofPair ok_slices_Clone_l_api_ProofPair_api_ProofPair nt_slices_Clone_l_api_ProofPair_api_ProofPair hk (pn := false) (Eq.mpr ((vcFn2_eq _ _ _ _ _ _ _ _).trans (vc_slices_Clone_l_api_ProofPair_api_ProofPair_eq g pre a0 r post)) h)
def ann_slices_Clone_l_api_ProofEntry_api_ProofEntry : Nat → List Nat := fun n => match n with  | _ => []
def vc_slices_Clone_l_api_ProofEntry_api_ProofEntry (P : Ctx) (pre : List ABlk) (a0 : AV) (r : AV) (post : List PB) : Prop :=
  let h0 : Heap := numbered 0 pre
  BIN 998 .eql a0 .zc fun v4 =>
  COND v4
  (POST .zc h0 pre r post)
  (MKS T_api_ProofEntry 2 [] 48 h0 fun v5 h1 =>
  APP T_api_ProofEntry 2 v5 a0 64 h1 fun v7 h2 =>
  POST v7 h2 pre r post)
theorem vc_slices_Clone_l_api_ProofEntry_api_ProofEntry_eq (g : GG) (pre : List ABlk) (a0 : AV) (r : AV) (post : List PB) : vcFn2 (Tz g) false ann_slices_Clone_l_api_ProofEntry_api_ProofEntry Tryz.f106 pre [a0] (.ret r) post = vc_slices_Clone_l_api_ProofEntry_api_ProofEntry (Tz g) pre a0 r post := by kernel_rfl
theorem hf_slices_Clone_l_api_ProofEntry_api_ProofEntry : Tryz.prog.funcs[f_slices_Clone_l_api_ProofEntry_api_ProofEntry]? = some Tryz.f106 := by kernel_rfl
theorem ok_slices_Clone_l_api_ProofEntry_api_ProofEntry : fnVcOK Tryz.prog Tryz.f106 = true := by kernel_rfl
theorem nt_slices_Clone_l_api_ProofEntry_api_ProofEntry : Nat.ble 1 Tryz.f106.ntmps = true := by kernel_rfl
theorem meetsH_slices_Clone_l_api_ProofEntry_api_ProofEntry {g : GG} {pre : List ABlk} {a0 : AV} {r : AV} {post : List PB} (hk : Nat.ble pre.length 24 = true) (h : vc_slices_Clone_l_api_ProofEntry_api_ProofEntry (Tz g) pre a0 r post) : MeetsH (Tz g) f_slices_Clone_l_api_ProofEntry_api_ProofEntry pre [a0] (.ret r) post :=
  meetsH_of_vc (C := Tz g) ann_slices_Clone_l_api_ProofEntry_api_ProofEntry hf_slices_Clone_l_api_ProofEntry_api_ProofEntry ok_slices_Clone_l_api_ProofEntry_api_ProofEntry nt_slices_Clone_l_api_ProofEntry_api_ProofEntry hk (pn := false) (Eq.mpr ((vcFn2_eq _ _ _ _ _ _ _ _).trans (vc_slices_Clone_l_api_ProofEntry_api_ProofEntry_eq g pre a0 r post)) h)
end Go.Vc
