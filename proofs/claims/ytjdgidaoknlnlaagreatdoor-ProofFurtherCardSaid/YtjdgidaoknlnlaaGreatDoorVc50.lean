/- A part of the proof: general laws of a reading of the model by abstract data, or contracts of the functions that the law calls. -/
import Derived.Test.YtjdgidaoknlnlaaGreatDoorVc23
import Derived.Test.YtjdgidaoknlnlaaGreatDoorVc11
import Derived.Test.YtjdgidaoknlnlaaGreatDoorVc49
import Derived.Test.YtjdgidaoknlnlaaGreatDoorVc42
set_option maxRecDepth 100000
namespace Go.Vc
open Go Go.Proofs Go.RowKit
def ann_ref09_Whole : Nat → List Nat := fun n => match n with  | _ => []
def vc_ref09_Whole (_P : Ctx) (pre : List ABlk) (a0 a1 a2 : AV) (r : AV) (post : List PB) : Prop :=
  let h0 : Heap := numbered 0 pre
  BOX T_api_ProofPage a0 24 h0 fun v3 h1 =>
  ALLOC T_api_ProofEntry [.d (.num .i64 0), .zc] 32 h1 fun v6 h2 =>
  FADDR 1 v3 h2 fun v9 =>
  LOAD false 1 v9 h2 fun v10 =>
  LEN false v10 h2 fun v11 =>
  BIN 0 .sub v11 (.d (.num .i64 1)) fun v12 =>
  MKS T_int 1 [a1, a2, (.d (.num .i64 0)), v12] 88 h2 fun v13 h3 =>
  BUILD [(0, 1), (1, 1)] [.d (.num .i64 0), .zc] [(0, (.d (.num .i64 1))), (1, v13)] fun v14 =>
  STORE 2 v6 v14 h3 fun h4 =>
  LOAD true 2 v6 h4 fun r5 =>
  POST r5 h4 pre r post
theorem vc_ref09_Whole_eq (g : GG) (pre : List ABlk) (a0 a1 a2 : AV) (r : AV) (post : List PB) : vcFn2 (Tz g) false ann_ref09_Whole Tryz.f46 pre [a0, a1, a2] (.ret r) post = vc_ref09_Whole (Tz g) pre a0 a1 a2 r post := by kernel_rfl
theorem hf_ref09_Whole : Tryz.prog.funcs[f_ref09_Whole]? = some Tryz.f46 := by kernel_rfl
theorem ok_ref09_Whole : fnVcOK Tryz.prog Tryz.f46 = true := by kernel_rfl
theorem nt_ref09_Whole : Nat.ble 3 Tryz.f46.ntmps = true := by kernel_rfl
theorem meetsH_ref09_Whole {g : GG} {pre : List ABlk} {a0 a1 a2 : AV} {r : AV} {post : List PB} (hk : Nat.ble pre.length 24 = true) (h : vc_ref09_Whole (Tz g) pre a0 a1 a2 r post) : MeetsH (Tz g) f_ref09_Whole pre [a0, a1, a2] (.ret r) post :=
  meetsH_of_vc (C := Tz g) ann_ref09_Whole hf_ref09_Whole ok_ref09_Whole nt_ref09_Whole hk (pn := false) (Eq.mpr ((vcFn2_eq _ _ _ _ _ _ _ _).trans (vc_ref09_Whole_eq g pre a0 a1 a2 r post)) h)
theorem meets_ref09_Whole {g : GG} {a0 a1 a2 : D} {r : Res} (h : vc_ref09_Whole (Tz g) [] (.d a0) (.d a1) (.d a2) r.val (r.bl.map .upd)) : Meets (Tz g) f_ref09_Whole [a0, a1, a2] r := meetsH_ref09_Whole rfl h
end Go.Vc

namespace Go.Vc
open Go Go.Proofs
variable {g : GG}
attribute [local simp] and_assoc
end Go.Vc
