/- A part of the proof: general laws of a reading of the model by abstract data, or contracts of the functions that the law calls. -/
import Derived.KernelRfl
import Derived.Test.YtaacglfaheijaaaGreatDoorProg
import Derived.Test.YtaacglfaheijaaaGreatDoorVc11
set_option maxRecDepth 100000
namespace Go.Vc
open Go Go.Proofs Go.RowKit
abbrev f_law09_ProofSpoilt : FuncId := 3
abbrev f_law09_right : FuncId := 4
abbrev f_law09_known : FuncId := 5
abbrev f_proof_Print : FuncId := 6
abbrev f_proof_Read : FuncId := 7
abbrev f_ref09_SamePages : FuncId := 8
abbrev f_law09_short : FuncId := 9
abbrev f_ref09_Page : FuncId := 10
abbrev f_ref01_Same : FuncId := 27
abbrev f_proof_isPage : FuncId := 32
abbrev f_proof_text : FuncId := 33
abbrev f_proof_attempt : FuncId := 34
abbrev f_proof_Read_1 : FuncId := 35
abbrev f_proof_parsed : FuncId := 36
abbrev f_ref09_in : FuncId := 37
abbrev f_ref09_Person : FuncId := 38
abbrev f_ref02_Number : FuncId := 39
abbrev f_ref09_Entry : FuncId := 40
abbrev f_proof_hasLine : FuncId := 43
abbrev f_slices_Clone_l_api_ProofPair_api_ProofPair : FuncId := 61
abbrev f_proof_in : FuncId := 64
abbrev f_slices_ContainsFunc_l_api_ProofLine_api_ProofLine : FuncId := 65
abbrev f_proof_isPage_1 : FuncId := 66
abbrev f_proof_hasPerson : FuncId := 67
abbrev f_proof_isNumber : FuncId := 68
abbrev f_slices_ContainsFunc_l_api_ProofEntry_api_ProofEntry : FuncId := 69
abbrev f_proof_isPage_2 : FuncId := 70
abbrev f_proof_isEntry : FuncId := 71
abbrev f_proof_told : FuncId := 72
abbrev f_strconv_Itoa : FuncId := 73
abbrev f_strings_Join : FuncId := 74
abbrev f_strings_Split : FuncId := 76
abbrev f_proof_need : FuncId := 77
abbrev f_proof_numbered : FuncId := 78
abbrev f_ref02_in : FuncId := 79
abbrev f_ref09_Pair : FuncId := 80
abbrev f_ref09_Line : FuncId := 81
abbrev f_slices_Clone_l_api_ProofEntry_api_ProofEntry : FuncId := 94
abbrev f_slices_IndexFunc_l_api_ProofLine_api_ProofLine : FuncId := 97
abbrev f_slices_IndexFunc_l_api_ProofEntry_api_ProofEntry : FuncId := 98
abbrev f_proof_words : FuncId := 99
abbrev f_proof_many : FuncId := 105
abbrev f_proof_given : FuncId := 106
abbrev f_strings_CutPrefix : FuncId := 121
abbrev T_int : TypeId := 3
abbrev T_uint8 : TypeId := 5
abbrev T_string : TypeId := 9
abbrev T_api_ProofPage : TypeId := 25
abbrev T_api_ProofPair : TypeId := 66
abbrev T_api_ProofLine : TypeId := 71
abbrev T_api_ProofEntry : TypeId := 74
abbrev T_proof_head : TypeId := 117
abbrev T_proof_set : TypeId := 119
abbrev T_proof_noted : TypeId := 121
abbrev T_proof_noText : TypeId := 127
abbrev T_5_string : TypeId := 148
abbrev GG := {p : Nat × (World → Prop) // ∀ w w', p.2 w → Below p.1 w w' → p.2 w'}
noncomputable def Tz (g : GG) : Ctx := ⟨Tryz.prog, g.1.1, g.1.2, g.2, true⟩
end Go.Vc

namespace Go.Vc
open Go Go.Proofs Go.RowKit
def ann_slices_Clone_l_api_ProofPair_api_ProofPair : Nat → List Nat := fun n => match n with  | _ => []
def vc_slices_Clone_l_api_ProofPair_api_ProofPair (_P : Ctx) (pre : List ABlk) (a0 : AV) (r : AV) (post : List PB) : Prop :=
  let h0 : Heap := numbered 0 pre
  BIN 998 .eql a0 .zc fun v4 =>
  COND v4
  (POST .zc h0 pre r post)
  (MKS T_api_ProofPair 2 [] 48 h0 fun v5 h1 =>
  APP T_api_ProofPair 2 v5 a0 64 h1 fun v7 h2 =>
  POST v7 h2 pre r post)
theorem vc_slices_Clone_l_api_ProofPair_api_ProofPair_eq (g : GG) (pre : List ABlk) (a0 : AV) (r : AV) (post : List PB) : vcFn2 (Tz g) false ann_slices_Clone_l_api_ProofPair_api_ProofPair Tryz.f61 pre [a0] (.ret r) post = vc_slices_Clone_l_api_ProofPair_api_ProofPair (Tz g) pre a0 r post := by kernel_rfl
theorem hf_slices_Clone_l_api_ProofPair_api_ProofPair : Tryz.prog.funcs[f_slices_Clone_l_api_ProofPair_api_ProofPair]? = some Tryz.f61 := by kernel_rfl
theorem ok_slices_Clone_l_api_ProofPair_api_ProofPair : fnVcOK Tryz.prog Tryz.f61 = true := by kernel_rfl
theorem nt_slices_Clone_l_api_ProofPair_api_ProofPair : Nat.ble 1 Tryz.f61.ntmps = true := by kernel_rfl
theorem meetsH_slices_Clone_l_api_ProofPair_api_ProofPair {g : GG} {pre : List ABlk} {a0 : AV} {r : AV} {post : List PB} (hk : Nat.ble pre.length 24 = true) (h : vc_slices_Clone_l_api_ProofPair_api_ProofPair (Tz g) pre a0 r post) : MeetsH (Tz g) f_slices_Clone_l_api_ProofPair_api_ProofPair pre [a0] (.ret r) post :=
  meetsH_of_vc (C := Tz g) ann_slices_Clone_l_api_ProofPair_api_ProofPair hf_slices_Clone_l_api_ProofPair_api_ProofPair ok_slices_Clone_l_api_ProofPair_api_ProofPair nt_slices_Clone_l_api_ProofPair_api_ProofPair hk (pn := false) (Eq.mpr ((vcFn2_eq _ _ _ _ _ _ _ _).trans (vc_slices_Clone_l_api_ProofPair_api_ProofPair_eq g pre a0 r post)) h)
def ann_slices_Clone_l_api_ProofEntry_api_ProofEntry : Nat → List Nat := fun n => match n with  | _ => []
def vc_slices_Clone_l_api_ProofEntry_api_ProofEntry (_P : Ctx) (pre : List ABlk) (a0 : AV) (r : AV) (post : List PB) : Prop :=
  let h0 : Heap := numbered 0 pre
  BIN 998 .eql a0 .zc fun v4 =>
  COND v4
  (POST .zc h0 pre r post)
  (MKS T_api_ProofEntry 2 [] 48 h0 fun v5 h1 =>
  APP T_api_ProofEntry 2 v5 a0 64 h1 fun v7 h2 =>
  POST v7 h2 pre r post)
theorem vc_slices_Clone_l_api_ProofEntry_api_ProofEntry_eq (g : GG) (pre : List ABlk) (a0 : AV) (r : AV) (post : List PB) : vcFn2 (Tz g) false ann_slices_Clone_l_api_ProofEntry_api_ProofEntry Tryz.f94 pre [a0] (.ret r) post = vc_slices_Clone_l_api_ProofEntry_api_ProofEntry (Tz g) pre a0 r post := by kernel_rfl
theorem hf_slices_Clone_l_api_ProofEntry_api_ProofEntry : Tryz.prog.funcs[f_slices_Clone_l_api_ProofEntry_api_ProofEntry]? = some Tryz.f94 := by kernel_rfl
theorem ok_slices_Clone_l_api_ProofEntry_api_ProofEntry : fnVcOK Tryz.prog Tryz.f94 = true := by kernel_rfl
theorem nt_slices_Clone_l_api_ProofEntry_api_ProofEntry : Nat.ble 1 Tryz.f94.ntmps = true := by kernel_rfl
theorem meetsH_slices_Clone_l_api_ProofEntry_api_ProofEntry {g : GG} {pre : List ABlk} {a0 : AV} {r : AV} {post : List PB} (hk : Nat.ble pre.length 24 = true) (h : vc_slices_Clone_l_api_ProofEntry_api_ProofEntry (Tz g) pre a0 r post) : MeetsH (Tz g) f_slices_Clone_l_api_ProofEntry_api_ProofEntry pre [a0] (.ret r) post :=
  meetsH_of_vc (C := Tz g) ann_slices_Clone_l_api_ProofEntry_api_ProofEntry hf_slices_Clone_l_api_ProofEntry_api_ProofEntry ok_slices_Clone_l_api_ProofEntry_api_ProofEntry nt_slices_Clone_l_api_ProofEntry_api_ProofEntry hk (pn := false) (Eq.mpr ((vcFn2_eq _ _ _ _ _ _ _ _).trans (vc_slices_Clone_l_api_ProofEntry_api_ProofEntry_eq g pre a0 r post)) h)
end Go.Vc
