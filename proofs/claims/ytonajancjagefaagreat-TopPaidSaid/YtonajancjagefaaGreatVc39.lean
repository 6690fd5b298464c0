/- A part of the proof: general laws of a reading of the model by abstract data, or contracts of the functions that the law calls. -/
import Derived.Test.YtonajancjagefaaGreatVc29
import Derived.Test.YtonajancjagefaaGreatVc15
set_option maxRecDepth 100000
namespace Go.Vc
open Go Go.Proofs Go.RowKit
def ann_proof_Differs : Nat → List Nat := fun n => match n with | 6 => [4, 5, 14, 15] | _ => []
def vc_proof_Differs_k0 (_P : Ctx) (_pre : List ABlk) (_r : AV) (_post : List PB) (v0 : AV) (vs1 : List AV) (h2 : Heap) (next8 : List AV → Heap → Prop) : Prop :=
  COND v0
  (MKS T_int 1 [(nth vs1 3)] 208 h2 fun v3 h4 =>
  APP T_int 1 (nth vs1 1) v3 216 h4 fun v5 h6 =>
  BIN 0 .add (nth vs1 3) (.d (.num .i64 1)) fun v7 =>
  next8 [(nth vs1 0), v5, (nth vs1 2), v7] h6)
  (BIN 0 .add (nth vs1 3) (.d (.num .i64 1)) fun v7 =>
  next8 [(nth vs1 0), (nth vs1 1), (nth vs1 2), v7] h2)
def vc_proof_Differs_k1 (P : Ctx) (pre : List ABlk) (r : AV) (post : List PB) (vs0 : List AV) (h2 : Heap) (next6 : List AV → Heap → Prop) : Prop :=
  BIN 0 .lss (nth vs0 3) (nth vs0 2) fun v1 =>
  COND v1
  (CALL P f_p_proof_page_differs [(nth vs0 0), (nth vs0 3)] 184 h2 (fun _ v4 h5 =>
  vc_proof_Differs_k0 P pre r post v4 vs0 h5 next6)
  (fun _ _ _ => False))
  (POST (.tup [(nth vs0 1), (.d (.num .i64 0))]) h2 pre r post)
def vc_proof_Differs_k2 (P : Ctx) (pre : List ABlk) (r : AV) (post : List PB) (v0 : AV) (h2 : Heap) (v3 : AV) : Prop :=
  NOT v0 fun v1 =>
  COND v1
  (POST (.tup [.zc, (.d (.num .i64 2))]) h2 pre r post)
  (LOAD true 3 v3 h2 fun v4 =>
  CALL P f_proof_pageOf [v4] 80 h2 (fun _ v6 h7 =>
  FADDR 1 v3 h7 fun v8 =>
  LOAD false 1 v8 h7 fun v9 =>
  LEN false v9 h7 fun v10 =>
  LOOP [v6, .zc, v10, (.d (.num .i64 0))] h7 136 fun vs11 h12 next13 =>
  vc_proof_Differs_k1 P pre r post vs11 h12 next13)
  (fun _ _ _ => False))
def vc_proof_Differs (P : Ctx) (pre : List ABlk) (a0 : AV) (r : AV) (post : List PB) : Prop :=
  let h0 : Heap := numbered 0 pre
  BOX T_api_ProofPage a0 24 h0 fun v1 h1 =>
  LOAD true 3 v1 h1 fun v7 =>
  CALL P f_proof_isPage [v7] 56 h1 (fun _ v8 h2 =>
  vc_proof_Differs_k2 P pre r post v8 h2 v1)
  (fun _ _ _ => False)
theorem vc_proof_Differs_eq (g : GG) (pre : List ABlk) (a0 : AV) (r : AV) (post : List PB) : vcFn2 (Tz g) false ann_proof_Differs Tryz.f6 pre [a0] (.ret r) post = vc_proof_Differs (Tz g) pre a0 r post := by kernel_rfl
theorem hf_proof_Differs : Tryz.prog.funcs[f_proof_Differs]? = some Tryz.f6 := by kernel_rfl
theorem ok_proof_Differs : fnVcOK Tryz.prog Tryz.f6 = true := by kernel_rfl
theorem nt_proof_Differs : Nat.ble 1 Tryz.f6.ntmps = true := by kernel_rfl
theorem meetsH_proof_Differs {g : GG} {pre : List ABlk} {a0 : AV} {r : AV} {post : List PB} (hk : Nat.ble pre.length 24 = true) (h : vc_proof_Differs (Tz g) pre a0 r post) : MeetsH (Tz g) f_proof_Differs pre [a0] (.ret r) post :=
  meetsH_of_vc (C := Tz g) ann_proof_Differs hf_proof_Differs ok_proof_Differs nt_proof_Differs hk (pn := false) (Eq.mpr ((vcFn2_eq _ _ _ _ _ _ _ _).trans (vc_proof_Differs_eq g pre a0 r post)) h)
theorem meets_proof_Differs {g : GG} {a0 : D} {r : Res} (h : vc_proof_Differs (Tz g) [] (.d a0) r.val (r.bl.map .upd)) : Meets (Tz g) f_proof_Differs [a0] r := meetsH_proof_Differs rfl h
def ann_ref09_With : Nat → List Nat := fun n => match n with  | _ => []
def vc_ref09_With (_P : Ctx) (pre : List ABlk) (a0 a1 : AV) (r : AV) (post : List PB) : Prop :=
  let h0 : Heap := numbered 0 pre
  BOX T_api_ProofPage a0 24 h0 fun v2 h1 =>
  BOX T_api_ProofEntry a1 32 h1 fun v3 h2 =>
  ALLOC T_api_ProofPage [.d (.num .i64 0), .zc, .zc] 40 h2 fun v4 h3 =>
  FADDR 2 v2 h3 fun v5 =>
  LOAD false 1 v5 h3 fun v6 =>
  APP T_api_ProofEntry 2 .zc v6 64 h3 fun v7 h4 =>
  LOAD true 2 v3 h4 fun v8 =>
  MKS T_api_ProofEntry 2 [v8] 80 h4 fun v9 h5 =>
  APP T_api_ProofEntry 2 v7 v9 88 h5 fun v10 h6 =>
  FADDR 2 v2 h6 fun v11 =>
  STORE 1 v11 v10 h6 fun h7 =>
  ORDX [] [0, 1, 3, 0, 8, 31, 63, 127] [(0, wr h3 h3, (ids v2)), (1, wr h3 h3, (ids v5)), (2, wr h3 h4, (ids.idsL [.zc, v6])), (3, wr h4 h4, (ids v3)), (4, wr h4 h5, (ids.idsL [v8])), (5, wr h5 h6, (ids.idsL [v7, v9])), (6, wr h6 h6, (ids v2)), (7, wr h6 h7, (ids v11))] ∧
  LOAD true 3 v2 h7 fun v12 =>
  STORE 3 v4 v12 h7 fun h8 =>
  LOAD true 3 v4 h8 fun r9 =>
  POST r9 h8 pre r post
theorem vc_ref09_With_eq (g : GG) (pre : List ABlk) (a0 a1 : AV) (r : AV) (post : List PB) : vcFn2 (Tz g) false ann_ref09_With Tryz.f9 pre [a0, a1] (.ret r) post = vc_ref09_With (Tz g) pre a0 a1 r post := by kernel_rfl
theorem hf_ref09_With : Tryz.prog.funcs[f_ref09_With]? = some Tryz.f9 := by kernel_rfl
theorem ok_ref09_With : fnVcOK Tryz.prog Tryz.f9 = true := by kernel_rfl
theorem nt_ref09_With : Nat.ble 2 Tryz.f9.ntmps = true := by kernel_rfl
theorem meetsH_ref09_With {g : GG} {pre : List ABlk} {a0 a1 : AV} {r : AV} {post : List PB} (hk : Nat.ble pre.length 24 = true) (h : vc_ref09_With (Tz g) pre a0 a1 r post) : MeetsH (Tz g) f_ref09_With pre [a0, a1] (.ret r) post :=
  meetsH_of_vc (C := Tz g) ann_ref09_With hf_ref09_With ok_ref09_With nt_ref09_With hk (pn := false) (Eq.mpr ((vcFn2_eq _ _ _ _ _ _ _ _).trans (vc_ref09_With_eq g pre a0 a1 r post)) h)
theorem meets_ref09_With {g : GG} {a0 a1 : D} {r : Res} (h : vc_ref09_With (Tz g) [] (.d a0) (.d a1) r.val (r.bl.map .upd)) : Meets (Tz g) f_ref09_With [a0, a1] r := meetsH_ref09_With rfl h
end Go.Vc
