/- A part of the proof: general laws of a reading of the model by abstract data, or contracts of the functions that the law calls. -/
import Derived.Test.YtjdgidaoknlnlaaGreatDoorVc23
import Derived.Test.YtjdgidaoknlnlaaGreatDoorVc11
import Derived.Test.YtjdgidaoknlnlaaGreatDoorVc38
import Derived.Test.YtjdgidaoknlnlaaGreatDoorVc22
import Derived.Test.YtjdgidaoknlnlaaGreatDoorVc40
set_option maxRecDepth 100000
namespace Go.Vc
open Go Go.Proofs Go.RowKit
def ann_proof_Worst : Nat → List Nat := fun n => match n with | 8 => [1, 5, 6, 24, 25] | 12 => [1, 5, 6, 7, 8, 24, 25, 28, 29, 30] | _ => []
def vc_proof_Worst_k0 (P : Ctx) (pre : List ABlk) (r : AV) (post : List PB) (v0 : AV) (h1 : Heap) (vs4 : List AV) (next8 : List AV → Heap → Prop) : Prop :=
  COND v0
  (MKS T_int 1 [(.d (.num .i64 1))] 384 h1 fun v2 h3 =>
  APP T_int 1 (nth vs4 4) v2 392 h3 fun v5 h6 =>
  BIN 0 .add (nth vs4 9) (.d (.num .i64 1)) fun v7 =>
  next8 [(nth vs4 0), (nth vs4 1), (nth vs4 2), (nth vs4 3), v5, (nth vs4 5), (nth vs4 6), (nth vs4 7), (nth vs4 8), v7] h6)
  (BIN 0 .add (nth vs4 9) (.d (.num .i64 1)) fun v7 =>
  next8 [(nth vs4 0), (nth vs4 1), (nth vs4 2), (nth vs4 3), (nth vs4 4), (nth vs4 5), (nth vs4 6), (nth vs4 7), (nth vs4 8), v7] h1)
def vc_proof_Worst_k1 (P : Ctx) (pre : List ABlk) (r : AV) (post : List PB) (vs0 : List AV) (v1 : AV) (h3 : Heap) (next9 : List AV → Heap → Prop) : Prop :=
  BUILD [(0, 1), (1, 1)] [.d (.num .i64 0), .d (.num .i64 0)] [(0, (nth vs0 3)), (1, v1)] fun v2 =>
  MKS T_proof_reader 2 [v2] 304 h3 fun v4 h5 =>
  APP T_proof_reader 2 (nth vs0 2) v4 312 h5 fun v6 h7 =>
  BIN 0 .add (nth vs0 6) (.d (.num .i64 1)) fun v8 =>
  next9 [(nth vs0 0), (nth vs0 1), v6, (nth vs0 5), v8] h7
def vc_proof_Worst_k2 (P : Ctx) (pre : List ABlk) (r : AV) (post : List PB) (vs0 : List AV) (h2 : Heap) (next19 : List AV → Heap → Prop) (next23 : List AV → Heap → Prop) : Prop :=
  BIN 0 .lss (nth vs0 9) (nth vs0 8) fun v1 =>
  COND v1
  (IADDR 2 T_api_ProofMiss (nth vs0 7) (nth vs0 9) h2 fun v3 =>
  LOAD true 2 v3 h2 fun v4 =>
  ALLOC T_api_ProofMiss [.d (.num .i64 0), .d (.num .i64 0)] 280 h2 fun v5 h6 =>
  STORE 2 v5 v4 h6 fun h7 =>
  FADDR 2 (nth vs0 0) h7 fun v8 =>
  LOAD false 1 v8 h7 fun v9 =>
  FADDR 0 v5 h7 fun v10 =>
  LOAD false 1 v10 h7 fun v11 =>
  IADDR 2 T_api_ProofEntry v9 v11 h7 fun v12 =>
  FADDR 1 v12 h7 fun v13 =>
  LOAD false 1 v13 h7 fun v14 =>
  SLICE 2 v14 none (some (.d (.num .i64 2))) none fun v15 =>
  CALL P f_slices_Contains_l_int_int [v15, (nth vs0 3)] 368 h7 (fun _ v17 h18 =>
  vc_proof_Worst_k0 P pre r post v17 h18 vs0 next19)
  (fun _ _ _ => False))
  (CALL P f_proof_count [(nth vs0 4)] 288 h2 (fun _ v21 h22 =>
  vc_proof_Worst_k1 P pre r post vs0 v21 h22 next23)
  (fun _ _ _ => False))
def vc_proof_Worst_k3 (P : Ctx) (pre : List ABlk) (r : AV) (post : List PB) (h0 : Heap) (v3 : AV) : Prop :=
  ALLOC T_proof_reader [.d (.num .i64 0), .d (.num .i64 0)] 216 h0 fun v1 h2 =>
  STORE 2 v1 v3 h2 fun h4 =>
  FADDR 0 v1 h4 fun v5 =>
  LOAD false 1 v5 h4 fun v6 =>
  FADDR 1 v1 h4 fun v7 =>
  LOAD false 1 v7 h4 fun v8 =>
  ORDX [] [0, 1, 0, 4, 3, 31, 63] [(0, wr h4 h4, (ids v1)), (1, wr h4 h4, (ids v5)), (2, wr h4 h4, (ids v1)), (3, wr h4 h4, (ids v7))] ∧
  POST (.tup [v6, v8, (.d (.num .i64 0))]) h4 pre r post
def vc_proof_Worst_k4 (P : Ctx) (pre : List ABlk) (r : AV) (post : List PB) (vs0 : List AV) (h2 : Heap) (next7 : List AV → Heap → Prop) : Prop :=
  BIN 0 .lss (nth vs0 4) (nth vs0 3) fun v1 =>
  COND v1
  (LEN false (nth vs0 1) h2 fun v3 =>
  LOOP [(nth vs0 0), (nth vs0 1), (nth vs0 2), (nth vs0 4), .zc, (nth vs0 3), (nth vs0 4), (nth vs0 1), v3, (.d (.num .i64 0))] h2 248 fun vs4 h5 next6 =>
  vc_proof_Worst_k2 P pre r post vs4 h5 next6 next7)
  (CALL P f_proof_best_proof_reader [(nth vs0 2), (.d (.fn f_proof_Worst_1 [] []))] 208 h2 (fun _ v9 h10 =>
  vc_proof_Worst_k3 P pre r post h10 v9)
  (fun _ _ _ => False))
def vc_proof_Worst_k5 (P : Ctx) (pre : List ABlk) (r : AV) (post : List PB) (v0 : AV) (h1 : Heap) (v7 : AV) : Prop :=
  FADDR 0 v0 h1 fun v2 =>
  FADDR 7 v2 h1 fun v3 =>
  LOAD false 1 v3 h1 fun v4 =>
  LEN false v4 h1 fun v5 =>
  BIN 0 .eql v5 (.d (.num .i64 0)) fun v6 =>
  COND v6
  (POST (.tup [(.d (.num .i64 0)), (.d (.num .i64 0)), (.d (.num .i64 5))]) h1 pre r post)
  (FADDR 0 v7 h1 fun v8 =>
  LOAD false 1 v8 h1 fun v9 =>
  LOOP [v7, v4, .zc, v9, (.d (.num .i64 0))] h1 184 fun vs10 h11 next12 =>
  vc_proof_Worst_k4 P pre r post vs10 h11 next12)
def vc_proof_Worst_k6 (P : Ctx) (pre : List ABlk) (r : AV) (post : List PB) (v0 : AV) (h2 : Heap) (v3 : AV) : Prop :=
  NOT v0 fun v1 =>
  COND v1
  (POST (.tup [(.d (.num .i64 0)), (.d (.num .i64 0)), (.d (.num .i64 2))]) h2 pre r post)
  (LOAD true 3 v3 h2 fun v4 =>
  CALL P f_proof_pageOf [v4] 88 h2 (fun _ v6 h7 =>
  vc_proof_Worst_k5 P pre r post v6 h7 v3)
  (fun _ _ _ => False))
def vc_proof_Worst (P : Ctx) (pre : List ABlk) (a0 : AV) (r : AV) (post : List PB) : Prop :=
  let h0 : Heap := numbered 0 pre
  BOX T_api_ProofPage a0 24 h0 fun v1 h1 =>
  LOAD true 3 v1 h1 fun v12 =>
  CALL P f_proof_isPage [v12] 64 h1 (fun _ v13 h2 =>
  vc_proof_Worst_k6 P pre r post v13 h2 v1)
  (fun _ _ _ => False)
theorem vc_proof_Worst_eq (g : GG) (pre : List ABlk) (a0 : AV) (r : AV) (post : List PB) : vcFn2 (Tz g) false ann_proof_Worst Tryz.f33 pre [a0] (.ret r) post = vc_proof_Worst (Tz g) pre a0 r post := by kernel_rfl
theorem hf_proof_Worst : Tryz.prog.funcs[f_proof_Worst]? = some Tryz.f33 := by kernel_rfl
theorem ok_proof_Worst : fnVcOK Tryz.prog Tryz.f33 = true := by kernel_rfl
theorem nt_proof_Worst : Nat.ble 1 Tryz.f33.ntmps = true := by kernel_rfl
theorem meetsH_proof_Worst {g : GG} {pre : List ABlk} {a0 : AV} {r : AV} {post : List PB} (hk : Nat.ble pre.length 24 = true) (h : vc_proof_Worst (Tz g) pre a0 r post) : MeetsH (Tz g) f_proof_Worst pre [a0] (.ret r) post :=
  meetsH_of_vc (C := Tz g) ann_proof_Worst hf_proof_Worst ok_proof_Worst nt_proof_Worst hk (pn := false) (Eq.mpr ((vcFn2_eq _ _ _ _ _ _ _ _).trans (vc_proof_Worst_eq g pre a0 r post)) h)
theorem meets_proof_Worst {g : GG} {a0 : D} {r : Res} (h : vc_proof_Worst (Tz g) [] (.d a0) r.val (r.bl.map .upd)) : Meets (Tz g) f_proof_Worst [a0] r := meetsH_proof_Worst rfl h
def ann_proof_count : Nat → List Nat := fun n => match n with | 3 => [3, 6, 7, 8] | _ => []
def vc_proof_count_k0 (P : Ctx) (pre : List ABlk) (r : AV) (post : List PB) (vs0 : List AV) (h2 : Heap) (next7 : List AV → Heap → Prop) : Prop :=
  BIN 0 .lss (nth vs0 3) (nth vs0 2) fun v1 =>
  COND v1
  (IADDR 1 T_int (nth vs0 1) (nth vs0 3) h2 fun v3 =>
  LOAD false 1 v3 h2 fun v4 =>
  BIN 0 .add (nth vs0 0) v4 fun v5 =>
  BIN 0 .add (nth vs0 3) (.d (.num .i64 1)) fun v6 =>
  next7 [v5, (nth vs0 1), (nth vs0 2), v6] h2)
  (POST (nth vs0 0) h2 pre r post)
def vc_proof_count (P : Ctx) (pre : List ABlk) (a0 : AV) (r : AV) (post : List PB) : Prop :=
  let h0 : Heap := numbered 0 pre
  LEN false a0 h0 fun v7 =>
  LOOP [(.d (.num .i64 0)), a0, v7, (.d (.num .i64 0))] h0 64 fun vs1 h2 next1 =>
  vc_proof_count_k0 P pre r post vs1 h2 next1
theorem vc_proof_count_eq (g : GG) (pre : List ABlk) (a0 : AV) (r : AV) (post : List PB) : vcFn2 (Tz g) false ann_proof_count Tryz.f71 pre [a0] (.ret r) post = vc_proof_count (Tz g) pre a0 r post := by kernel_rfl
theorem hf_proof_count : Tryz.prog.funcs[f_proof_count]? = some Tryz.f71 := by kernel_rfl
theorem ok_proof_count : fnVcOK Tryz.prog Tryz.f71 = true := by kernel_rfl
theorem nt_proof_count : Nat.ble 1 Tryz.f71.ntmps = true := by kernel_rfl
theorem meetsH_proof_count {g : GG} {pre : List ABlk} {a0 : AV} {r : AV} {post : List PB} (hk : Nat.ble pre.length 24 = true) (h : vc_proof_count (Tz g) pre a0 r post) : MeetsH (Tz g) f_proof_count pre [a0] (.ret r) post :=
  meetsH_of_vc (C := Tz g) ann_proof_count hf_proof_count ok_proof_count nt_proof_count hk (pn := false) (Eq.mpr ((vcFn2_eq _ _ _ _ _ _ _ _).trans (vc_proof_count_eq g pre a0 r post)) h)
theorem meets_proof_count {g : GG} {a0 : D} {r : Res} (h : vc_proof_count (Tz g) [] (.d a0) r.val (r.bl.map .upd)) : Meets (Tz g) f_proof_count [a0] r := meetsH_proof_count rfl h
end Go.Vc

namespace Go.Vc
open Go Go.Proofs Go.RowKit
variable {g : GG}
attribute [local simp] and_assoc
end Go.Vc

namespace Go.Vc
open Go Go.Proofs
variable {g : GG}
attribute [local simp] and_assoc
end Go.Vc
