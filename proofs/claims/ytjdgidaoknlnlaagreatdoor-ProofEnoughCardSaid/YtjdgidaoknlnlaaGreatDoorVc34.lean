/- A part of the proof: general laws of a reading of the model by abstract data, or contracts of the functions that the law calls. -/
import Derived.Test.YtjdgidaoknlnlaaGreatDoorVc23
import Derived.Test.YtjdgidaoknlnlaaGreatDoorVc11
set_option maxRecDepth 100000
namespace Go.Vc
open Go Go.Proofs Go.RowKit
def ann_ref09_With : Nat → List Nat := fun n => match n with  | _ => []
def vc_ref09_With (P : Ctx) (pre : List ABlk) (a0 a1 : AV) (r : AV) (post : List PB) : Prop :=
  let h0 : Heap := numbered 0 pre
  BOX T_api_ProofPage a0 24 h0 fun v2 h1 =>
  BOX T_api_ProofEntry a1 32 h1 fun v3 h2 =>
  ALLOC T_api_ProofPage [.d (.num .i64 0), .zc, .zc] 40 h2 fun v4 h3 =>
  FADDR 2 v2 h3 fun v5 =>
  LOAD false 1 v5 h3 fun v6 =>
  APP T_api_ProofEntry 2 .zc v6 64 h3 fun v7 h4 =>
  LOAD true 2 v3 h4 fun v8 =>
  MKS T_api_ProofEntry 2 [v8] 80 h4 fun v9 h5 =>
  APP T_api_ProofEntry 2 v7 v9 88 h5 fun v10 h6 =>
  FADDR 2 v2 h6 fun v11 =>
  STORE 1 v11 v10 h6 fun h7 =>
  ORDX [] [0, 1, 3, 0, 8, 31, 63, 127] [(0, wr h3 h3, (ids v2)), (1, wr h3 h3, (ids v5)), (2, wr h3 h4, (ids.idsL [.zc, v6])), (3, wr h4 h4, (ids v3)), (4, wr h4 h5, (ids.idsL [v8])), (5, wr h5 h6, (ids.idsL [v7, v9])), (6, wr h6 h6, (ids v2)), (7, wr h6 h7, (ids v11))] ∧
  LOAD true 3 v2 h7 fun v12 =>
  STORE 3 v4 v12 h7 fun h8 =>
  LOAD true 3 v4 h8 fun r9 =>
  POST r9 h8 pre r post
theorem vc_ref09_With_eq (g : GG) (pre : List ABlk) (a0 a1 : AV) (r : AV) (post : List PB) : vcFn2 (Tz g) false ann_ref09_With Tryz.f29 pre [a0, a1] (.ret r) post = vc_ref09_With (Tz g) pre a0 a1 r post := by kernel_rfl
theorem hf_ref09_With : Tryz.prog.funcs[f_ref09_With]? = some Tryz.f29 := by kernel_rfl
theorem ok_ref09_With : fnVcOK Tryz.prog Tryz.f29 = true := by kernel_rfl
theorem nt_ref09_With : Nat.ble 2 Tryz.f29.ntmps = true := by kernel_rfl
theorem meetsH_ref09_With {g : GG} {pre : List ABlk} {a0 a1 : AV} {r : AV} {post : List PB} (hk : Nat.ble pre.length 24 = true) (h : vc_ref09_With (Tz g) pre a0 a1 r post) : MeetsH (Tz g) f_ref09_With pre [a0, a1] (.ret r) post :=
  meetsH_of_vc (C := Tz g) ann_ref09_With hf_ref09_With ok_ref09_With nt_ref09_With hk (pn := false) (Eq.mpr ((vcFn2_eq _ _ _ _ _ _ _ _).trans (vc_ref09_With_eq g pre a0 a1 r post)) h)
theorem meets_ref09_With {g : GG} {a0 a1 : D} {r : Res} (h : vc_ref09_With (Tz g) [] (.d a0) (.d a1) r.val (r.bl.map .upd)) : Meets (Tz g) f_ref09_With [a0, a1] r := meetsH_ref09_With rfl h
end Go.Vc
