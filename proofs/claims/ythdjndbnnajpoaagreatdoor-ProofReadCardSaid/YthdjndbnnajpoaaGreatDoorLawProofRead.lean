/- Proves that the statement ProofReadCardSaid holds of the given program: for every input the law returns true and leaves its arguments as they were; under the row's own conditions, that the listed tables are laid as the program's text has them. -/
import Derived.Test.YthdjndbnnajpoaaGreatDoorVc23
import Derived.Test.YthdjndbnnajpoaaGreatDoorVc11
import Derived.Test.YthdjndbnnajpoaaGreatDoorVc36
import Derived.Test.YthdjndbnnajpoaaGreatDoorVc26
import Derived.Test.YthdjndbnnajpoaaGreatDoorVc30
set_option maxRecDepth 100000
namespace Go.Vc
open Go Go.Proofs Go.RowKit
def ann_law09_ProofRead : Nat → List Nat := fun n => match n with | 11 => [2, 3, 4, 7, 9, 11, 13] | 19 => [3, 9, 15] | _ => []
def vc_law09_ProofRead_k0 (P : Ctx) (pre : List ABlk) (r : AV) (post : List PB) (vs0 : List AV) (h1 : Heap) (next10 : List AV → Heap → Prop) : Prop :=
  IADDR 1 T_int (nth vs0 5) (nth vs0 0) h1 fun v2 =>
  LOAD false 1 v2 h1 fun v3 =>
  BIN 0 .neq (nth vs0 6) v3 fun v4 =>
  CALL P f_ref01_Listed [(nth vs0 4), (nth vs0 6)] 1208 h1 (fun _ v6 h7 =>
  BIN 999 .neq v6 v4 fun v8 =>
  COND v8
  (POST (.d (.bool false)) h7 pre r post)
  (BIN 0 .add (nth vs0 6) (.d (.num .i64 1)) fun v9 =>
  next10 [(nth vs0 0), (nth vs0 1), (nth vs0 2), (nth vs0 3), (nth vs0 4), (nth vs0 5), v9] h7))
  (fun _ _ _ => False)
def vc_law09_ProofRead_k1 (P : Ctx) (pre : List ABlk) (r : AV) (post : List PB) (vs0 : List AV) (h1 : Heap) (v5 : AV) (next8 : List AV → Heap → Prop) : Prop :=
  CALL P f_ref01_Listed [(nth vs0 4), (nth vs0 6)] 1152 h1 (fun _ v3 h4 =>
  BIN 999 .neq v3 v5 fun v6 =>
  COND v6
  (POST (.d (.bool false)) h4 pre r post)
  (BIN 0 .add (nth vs0 6) (.d (.num .i64 1)) fun v7 =>
  next8 [(nth vs0 0), (nth vs0 1), (nth vs0 2), (nth vs0 3), (nth vs0 4), (nth vs0 5), v7] h4))
  (fun _ _ _ => False)
def vc_law09_ProofRead_k2 (P : Ctx) (pre : List ABlk) (r : AV) (post : List PB) (vs0 : List AV) (h1 : Heap) (next7 : List AV → Heap → Prop) (v8 : AV) : Prop :=
  FADDR 1 (nth vs0 2) h1 fun v2 =>
  LOAD false 1 v2 h1 fun v3 =>
  IADDR 1 T_int v3 (.d (.num .i64 1)) h1 fun v4 =>
  LOAD false 1 v4 h1 fun v5 =>
  BIN 0 .eql v5 (nth vs0 6) fun v6 =>
  COND v6
  (vc_law09_ProofRead_k0 P pre r post vs0 h1 next7)
  (vc_law09_ProofRead_k1 P pre r post vs0 h1 v8 next7)
def vc_law09_ProofRead_k3 (P : Ctx) (pre : List ABlk) (r : AV) (post : List PB) (vs0 : List AV) (h1 : Heap) (next7 : List AV → Heap → Prop) (v8 : AV) : Prop :=
  FADDR 1 (nth vs0 2) h1 fun v2 =>
  LOAD false 1 v2 h1 fun v3 =>
  IADDR 1 T_int v3 (.d (.num .i64 0)) h1 fun v4 =>
  LOAD false 1 v4 h1 fun v5 =>
  BIN 0 .eql v5 (nth vs0 6) fun v6 =>
  CONDG v6
  (vc_law09_ProofRead_k0 P pre r post vs0 h1 next7)
  (vc_law09_ProofRead_k2 P pre r post vs0 h1 next7 v8)
def vc_law09_ProofRead_k4 (P : Ctx) (pre : List ABlk) (r : AV) (post : List PB) (vs0 : List AV) (h1 : Heap) (next7 : List AV → Heap → Prop) (v8 : AV) : Prop :=
  FADDR 1 (nth vs0 2) h1 fun v2 =>
  LOAD false 1 v2 h1 fun v3 =>
  IADDR 1 T_int v3 (.d (.num .i64 3)) h1 fun v4 =>
  LOAD false 1 v4 h1 fun v5 =>
  BIN 0 .leq (nth vs0 0) v5 fun v6 =>
  CONDG v6
  (vc_law09_ProofRead_k3 P pre r post vs0 h1 next7 v8)
  (vc_law09_ProofRead_k1 P pre r post vs0 h1 v8 next7)
def vc_law09_ProofRead_k5 (P : Ctx) (pre : List ABlk) (r : AV) (post : List PB) (vs0 : List AV) (h1 : Heap) (next7 : List AV → Heap → Prop) (v8 : AV) : Prop :=
  FADDR 1 (nth vs0 2) h1 fun v2 =>
  LOAD false 1 v2 h1 fun v3 =>
  IADDR 1 T_int v3 (.d (.num .i64 2)) h1 fun v4 =>
  LOAD false 1 v4 h1 fun v5 =>
  BIN 0 .leq v5 (nth vs0 0) fun v6 =>
  CONDG v6
  (vc_law09_ProofRead_k4 P pre r post vs0 h1 next7 v8)
  (vc_law09_ProofRead_k1 P pre r post vs0 h1 v8 next7)
def vc_law09_ProofRead_k6 (P : Ctx) (pre : List ABlk) (r : AV) (post : List PB) (vs0 : List AV) (h1 : Heap) (h8 : Heap) (v9 : AV) (rd10 : List Nat) (next12 : List AV → Heap → Prop) : Prop :=
  IADDR 1 T_int (nth vs0 1) (nth vs0 2) h1 fun v2 =>
  LOAD false 1 v2 h1 fun v3 =>
  BIN 0 .sub (nth vs0 2) (.d (.num .i64 1)) fun v4 =>
  IADDR 1 T_int (nth vs0 1) v4 h1 fun v5 =>
  LOAD false 1 v5 h1 fun v6 =>
  BIN 0 .leq v3 v6 fun v7 =>
  ORDX [] [0, 0, 0, 6, 14, 31, 63, 127, 255, 511, 1023, 2047, 2047, 8191, 16383, 2047, 2047, 67583, 231423, 493567, 1048575, 2097151, 4194303] [(0, wr h8 h8, (ids (nth vs0 0))), (3, wr h8 h8, (ids (nth vs0 1))), (4, wr h8 h8, (ids v9)), (5, wr h8 h1, rd10), (13, wr h1 h1, (ids (nth vs0 1))), (14, wr h1 h1, (ids v2)), (18, wr h1 h1, (ids (nth vs0 1))), (19, wr h1 h1, (ids v5))] ∧
  COND v7
  (POST (.d (.bool false)) h1 pre r post)
  (BIN 0 .add (nth vs0 2) (.d (.num .i64 1)) fun v11 =>
  next12 [(nth vs0 0), (nth vs0 1), v11] h1)
def vc_law09_ProofRead_k7 (P : Ctx) (pre : List ABlk) (r : AV) (post : List PB) (h0 : Heap) (vs1 : List AV) (v2 : AV) (h3 : Heap) (rd4 : List Nat) (next6 : List AV → Heap → Prop) : Prop :=
  ORDX [] [0, 0, 0, 6, 14, 31, 63, 127, 255, 511, 1023, 2047, 2047, 8191, 16383, 2047, 2047, 67583, 231423, 493567, 1048575, 2097151, 4194303] [(0, wr h0 h0, (ids (nth vs1 0))), (3, wr h0 h0, (ids (nth vs1 1))), (4, wr h0 h0, (ids v2)), (5, wr h0 h3, rd4)] ∧
  BIN 0 .add (nth vs1 2) (.d (.num .i64 1)) fun v5 =>
  next6 [(nth vs1 0), (nth vs1 1), v5] h3
def vc_law09_ProofRead_k8 (P : Ctx) (pre : List ABlk) (r : AV) (post : List PB) (v0 : AV) (h2 : Heap) (vs3 : List AV) (v4 : AV) (h5 : Heap) (rd6 : List Nat) (next8 : List AV → Heap → Prop) : Prop :=
  NOT v0 fun v1 =>
  CONDG v1
  (ORDX [] [0, 0, 0, 6, 14, 31, 63, 127, 255, 511, 1023, 2047, 2047, 8191, 16383, 2047, 2047, 67583, 231423, 493567, 1048575, 2097151, 4194303] [(0, wr h2 h2, (ids (nth vs3 0))), (3, wr h2 h2, (ids (nth vs3 1))), (4, wr h2 h2, (ids v4)), (5, wr h2 h5, rd6)] ∧
  POST (.d (.bool false)) h5 pre r post)
  (BIN 0 .gtr (nth vs3 2) (.d (.num .i64 0)) fun v7 =>
  CONDG v7
  (vc_law09_ProofRead_k6 P pre r post vs3 h5 h2 v4 rd6 next8)
  (vc_law09_ProofRead_k7 P pre r post h2 vs3 v4 h5 rd6 next8))
def vc_law09_ProofRead_k9 (P : Ctx) (pre : List ABlk) (r : AV) (post : List PB) (vs0 : List AV) (h1 : Heap) (next10 : List AV → Heap → Prop) : Prop :=
  LEN false (nth vs0 1) h1 fun v2 =>
  BIN 0 .lss (nth vs0 2) v2 fun v3 =>
  COND v3
  (LOAD true 3 (nth vs0 0) h1 fun v4 =>
  IADDR 1 T_int (nth vs0 1) (nth vs0 2) h1 fun v5 =>
  LOAD false 1 v5 h1 fun v6 =>
  CALL P f_ref09_Person [v4, v6] 912 h1 (fun rd7 v8 h9 =>
  vc_law09_ProofRead_k8 P pre r post v8 h1 vs0 v5 h9 rd7 next10)
  (fun _ _ _ => False))
  (CALL P f_law09_known [] 872 h1 (fun _ v12 h13 =>
  POST v12 h13 pre r post)
  (fun _ _ _ => False))
def vc_law09_ProofRead_k10 (P : Ctx) (pre : List ABlk) (r : AV) (post : List PB) (vs0 : List AV) (h1 : Heap) (next11 : List AV → Heap → Prop) : Prop :=
  FADDR 0 (nth vs0 1) h1 fun v2 =>
  LOAD false 1 v2 h1 fun v3 =>
  BIN 0 .lss (nth vs0 6) v3 fun v4 =>
  COND v4
  (CALL P f_ref01_Listed [(nth vs0 3), (nth vs0 6)] 840 h1 (fun _ v6 h7 =>
  FADDR 0 (nth vs0 2) h7 fun v8 =>
  LOAD false 1 v8 h7 fun v9 =>
  BIN 0 .eql v9 (.d (.num .i64 1)) fun v10 =>
  CONDG v10
  (vc_law09_ProofRead_k5 P pre r post vs0 h7 next11 v6)
  (vc_law09_ProofRead_k1 P pre r post vs0 h7 v6 next11))
  (fun _ _ _ => False))
  (LOOP [(nth vs0 1), (nth vs0 4), (.d (.num .i64 0))] h1 832 fun vs12 h13 next14 =>
  vc_law09_ProofRead_k9 P pre r post vs12 h13 next14)
def vc_law09_ProofRead_k11 (P : Ctx) (pre : List ABlk) (r : AV) (post : List PB) (v0 : AV) (h1 : Heap) (a6 : AV) (v8 : AV) (v24 : AV) (v25 : AV) (v26 : AV) : Prop :=
  FADDR 1 v0 h1 fun v2 =>
  LOAD false 1 v2 h1 fun v3 =>
  IADDR 1 T_int v3 (.d (.num .i64 1)) h1 fun v4 =>
  LOAD false 1 v4 h1 fun v5 =>
  BIN 0 .eql v5 a6 fun v7 =>
  CONDG v7
  (LEN false v8 h1 fun v9 =>
  BIN 0 .eql v9 (.d (.num .i64 0)) fun v10 =>
  CONDG v10
  (CALL P f_law09_known [] 808 h1 (fun _ v12 h13 =>
  POST v12 h13 pre r post)
  (fun _ _ _ => False))
  (POST (.d (.bool false)) h1 pre r post))
  (FADDR 0 v0 h1 fun v14 =>
  LOAD false 1 v14 h1 fun v15 =>
  BIN 0 .eql v15 (.d (.num .i64 3)) fun v16 =>
  CONDG v16
  (FADDR 1 v0 h1 fun v17 =>
  LOAD false 1 v17 h1 fun v18 =>
  IADDR 1 T_int v18 (.d (.num .i64 0)) h1 fun v19 =>
  LOAD false 1 v19 h1 fun v20 =>
  BIN 0 .eql v20 a6 fun v21 =>
  COND v21
  (LEN false v8 h1 fun v9 =>
  BIN 0 .eql v9 (.d (.num .i64 0)) fun v10 =>
  CONDG v10
  (CALL P f_law09_known [] 808 h1 (fun _ v12 h23 =>
  POST v12 h23 pre r post)
  (fun _ _ _ => False))
  (POST (.d (.bool false)) h1 pre r post))
  (LOOP [a6, v24, v0, v25, v8, v26, (.d (.num .i64 0))] h1 784 fun vs27 h28 next29 =>
  vc_law09_ProofRead_k10 P pre r post vs27 h28 next29))
  (LOOP [a6, v24, v0, v25, v8, v26, (.d (.num .i64 0))] h1 784 fun vs30 h31 next32 =>
  vc_law09_ProofRead_k10 P pre r post vs30 h31 next32))
def vc_law09_ProofRead_k12 (P : Ctx) (pre : List ABlk) (r : AV) (post : List PB) (v0 : AV) (h1 : Heap) (a9 : AV) (v11 : AV) (v17 : AV) (v18 : AV) (v19 : AV) : Prop :=
  FADDR 0 v0 h1 fun v2 =>
  LOAD false 1 v2 h1 fun v3 =>
  BIN 0 .eql v3 (.d (.num .i64 3)) fun v4 =>
  CONDG v4
  (FADDR 1 v0 h1 fun v5 =>
  LOAD false 1 v5 h1 fun v6 =>
  IADDR 1 T_int v6 (.d (.num .i64 0)) h1 fun v7 =>
  LOAD false 1 v7 h1 fun v8 =>
  BIN 0 .eql v8 a9 fun v10 =>
  COND v10
  (LEN false v11 h1 fun v12 =>
  BIN 0 .eql v12 (.d (.num .i64 0)) fun v13 =>
  CONDG v13
  (CALL P f_law09_known [] 808 h1 (fun _ v15 h16 =>
  POST v15 h16 pre r post)
  (fun _ _ _ => False))
  (POST (.d (.bool false)) h1 pre r post))
  (LOOP [a9, v17, v0, v18, v11, v19, (.d (.num .i64 0))] h1 784 fun vs20 h21 next22 =>
  vc_law09_ProofRead_k10 P pre r post vs20 h21 next22))
  (LOOP [a9, v17, v0, v18, v11, v19, (.d (.num .i64 0))] h1 784 fun vs23 h24 next25 =>
  vc_law09_ProofRead_k10 P pre r post vs23 h24 next25)
def vc_law09_ProofRead_k13 (P : Ctx) (pre : List ABlk) (r : AV) (post : List PB) (v0 : AV) (v3 : AV) (h5 : Heap) (v6 : AV) (v9 : AV) (v11 : AV) (v15 : AV) (v25 : AV) (a29 : AV) : Prop :=
  EXT v0 0 fun v1 =>
  EXT v0 1 fun v2 =>
  BIN 0 .neq v3 (.d (.num .i64 0)) fun v4 =>
  CONDG v4
  (POST (.d (.bool false)) h5 pre r post)
  (BIN 0 .neq v6 (.d (.num .i64 0)) fun v7 =>
  CONDG v7
  (POST (.d (.bool false)) h5 pre r post)
  (BIN 0 .neq v2 (.d (.num .i64 0)) fun v8 =>
  CONDG v8
  (POST (.d (.bool false)) h5 pre r post)
  (LEN false v9 h5 fun v10 =>
  FADDR 0 v11 h5 fun v12 =>
  LOAD false 1 v12 h5 fun v13 =>
  BIN 0 .gtr v10 v13 fun v14 =>
  CONDG v14
  (POST (.d (.bool false)) h5 pre r post)
  (LEN false v15 h5 fun v16 =>
  FADDR 0 v11 h5 fun v17 =>
  LOAD false 1 v17 h5 fun v18 =>
  BIN 0 .gtr v16 v18 fun v19 =>
  CONDG v19
  (POST (.d (.bool false)) h5 pre r post)
  (LEN false v1 h5 fun v20 =>
  FADDR 1 v11 h5 fun v21 =>
  LOAD false 1 v21 h5 fun v22 =>
  LEN false v22 h5 fun v23 =>
  BIN 0 .neq v20 v23 fun v24 =>
  COND v24
  (POST (.d (.bool false)) h5 pre r post)
  (FADDR 0 v25 h5 fun v26 =>
  LOAD false 1 v26 h5 fun v27 =>
  BIN 0 .eql v27 (.d (.num .i64 2)) fun v28 =>
  CONDG v28
  (vc_law09_ProofRead_k11 P pre r post v25 h5 a29 v15 v11 v9 v1)
  (vc_law09_ProofRead_k12 P pre r post v25 h5 a29 v15 v11 v9 v1)))))))
def vc_law09_ProofRead_k14 (P : Ctx) (pre : List ABlk) (r : AV) (post : List PB) (v0 : AV) (a1 : AV) (h2 : Heap) (v8 : AV) (v13 : AV) (v14 : AV) (v15 : AV) : Prop :=
  CALL P f_proof_Readers [v0, a1] 224 h2 (fun _ v4 h5 =>
  EXT v4 0 fun v6 =>
  EXT v4 1 fun v7 =>
  LOAD true 3 v8 h5 fun v9 =>
  CALL P f_proof_Setters [v9] 280 h5 (fun _ v11 h12 =>
  vc_law09_ProofRead_k13 P pre r post v11 v13 h12 v7 v14 v8 v6 v15 a1)
  (fun _ _ _ => False))
  (fun _ _ _ => False)
def vc_law09_ProofRead_k15 (P : Ctx) (pre : List ABlk) (r : AV) (post : List PB) (v0 : AV) (h2 : Heap) (v6 : AV) (a8 : AV) (v15 : AV) : Prop :=
  NOT v0 fun v1 =>
  COND v1
  (CALL P f_law09_known [] 128 h2 (fun _ v4 h5 =>
  POST v4 h5 pre r post)
  (fun _ _ _ => False))
  (LOAD true 3 v6 h2 fun v7 =>
  CALL P f_proof_Readers [v7, a8] 144 h2 (fun _ v10 h11 =>
  EXT v10 0 fun v12 =>
  EXT v10 1 fun v13 =>
  LOAD true 3 v6 h11 fun v14 =>
  LOAD true 2 v15 h11 fun v16 =>
  CALL P f_ref09_With [v14, v16] 208 h11 (fun _ v18 h19 =>
  vc_law09_ProofRead_k14 P pre r post v18 a8 h19 v6 v13 v12 v15)
  (fun _ _ _ => False))
  (fun _ _ _ => False))
def vc_law09_ProofRead_k16 (P : Ctx) (pre : List ABlk) (r : AV) (post : List PB) (v0 : AV) (h2 : Heap) (v6 : AV) (a8 : AV) (v12 : AV) : Prop :=
  NOT v0 fun v1 =>
  CONDG v1
  (CALL P f_law09_known [] 128 h2 (fun _ v4 h5 =>
  POST v4 h5 pre r post)
  (fun _ _ _ => False))
  (LOAD true 3 v6 h2 fun v7 =>
  CALL P f_ref09_Line [v7, a8] 104 h2 (fun _ v10 h11 =>
  vc_law09_ProofRead_k15 P pre r post v10 h11 v6 a8 v12)
  (fun _ _ _ => False))
def vc_law09_ProofRead (P : Ctx) (pre : List ABlk) (a0 a1 a2 : AV) (r : AV) (post : List PB) : Prop :=
  let h0 : Heap := numbered 0 pre
  BOX T_api_ProofPage a0 24 h0 fun v3 h1 =>
  BOX T_api_ProofEntry a1 32 h1 fun v4 h2 =>
  LOAD true 3 v3 h2 fun v16 =>
  LOAD true 2 v4 h2 fun v17 =>
  CALL P f_law09_room [v16, v17] 64 h2 (fun _ v18 h3 =>
  vc_law09_ProofRead_k16 P pre r post v18 h3 v3 a2 v4)
  (fun _ _ _ => False)
theorem vc_law09_ProofRead_eq (g : GG) (pre : List ABlk) (a0 a1 a2 : AV) (r : AV) (post : List PB) : vcFn2 (Tz g) false ann_law09_ProofRead Tryz.f5 pre [a0, a1, a2] (.ret r) post = vc_law09_ProofRead (Tz g) pre a0 a1 a2 r post := by kernel_rfl
theorem hf_law09_ProofRead : Tryz.prog.funcs[f_law09_ProofRead]? = some Tryz.f5 := by kernel_rfl
theorem ok_law09_ProofRead : fnVcOK Tryz.prog Tryz.f5 = true := by kernel_rfl
theorem nt_law09_ProofRead : Nat.ble 3 Tryz.f5.ntmps = true := by kernel_rfl
theorem meetsH_law09_ProofRead {g : GG} {pre : List ABlk} {a0 a1 a2 : AV} {r : AV} {post : List PB} (hk : Nat.ble pre.length 24 = true) (h : vc_law09_ProofRead (Tz g) pre a0 a1 a2 r post) : MeetsH (Tz g) f_law09_ProofRead pre [a0, a1, a2] (.ret r) post :=
  meetsH_of_vc (C := Tz g) ann_law09_ProofRead hf_law09_ProofRead ok_law09_ProofRead nt_law09_ProofRead hk (pn := false) (Eq.mpr ((vcFn2_eq _ _ _ _ _ _ _ _).trans (vc_law09_ProofRead_eq g pre a0 a1 a2 r post)) h)
theorem meets_law09_ProofRead {g : GG} {a0 a1 a2 : D} {r : Res} (h : vc_law09_ProofRead (Tz g) [] (.d a0) (.d a1) (.d a2) r.val (r.bl.map .upd)) : Meets (Tz g) f_law09_ProofRead [a0, a1, a2] r := meetsH_law09_ProofRead rfl h
end Go.Vc

namespace Go.Vc
open Go Go.Proofs
variable {g : GG}
attribute [local simp] and_assoc
theorem order_loop (hk : MeetsH (Tz g) f_law09_known [] [] (.ret (.d (.bool true))) []) (p : Pg) (M : List Int) (m : Nat) (h : Heap) (hm : p.people = m) (hm2 : m ≤ 6) (hM : M.length ≤ m) (hpers : ∀ x, x ∈ M → 0 ≤ x ∧ x < m) (hinc : M.Pairwise (fun a b => a < b)) (hp : lookH h 24 = some ⟨0, T_api_ProofPage, .box [.d (int p.people), .d (.list (p.lines.map Ln.d)), .d (.list (p.log.map Nt.d))]⟩) :
    LOOP [.ptr 24 0 0 0, .d (.list (M.map int)), .d (int 0)] h 832 (fun vs12 h13 next14 => vc_law09_ProofRead_k9 (Tz g) [] (.d (.bool true)) [] vs12 h13 next14) := by
  refine LOOP.mk Nat (fun k => [.ptr 24 0 0 0, .d (.list (M.map int)), .d (int k)]) (fun _ => [(24, some ⟨0, T_api_ProofPage, .box [.d (int p.people), .d (.list (p.lines.map Ln.d)), .d (.list (p.log.map Nt.d))]⟩)]) (fun k => k ≤ M.length) (fun k => M.length - k) [] (by simp) 0 (by omega) (by simp [WEAK, hp]) (fun _ _ => rfl) ?_
  intro k hk1
  simp [vc_law09_ProofRead_k9]
  constructor
  · intro hlt
    have hg : M[k]? = some M[k] := List.getElem?_eq_getElem hlt
    have hx := hpers _ (List.getElem_mem hlt)
    have hpb : persB p M[k] = true := by simp [persB, inB]; omega
    have hprev : ∀ j, (hj : j < k) → M[j]'(by omega) < M[k] := fun j hj => List.pairwise_iff_getElem.1 hinc j k (by omega) hlt hj
    simp [hg]
    refine CALL.val [p.d, int M[k]] _ rfl (ref09_Person_meets p _ (by omega)) (.inl rfl) ?_
    simp [vc_law09_ProofRead_k8, hpb]
    constructor
    · intro h0
      obtain ⟨j, rfl⟩ : ∃ j, k = j + 1 := ⟨k - 1, by omega⟩
      have hgj : M[j]? = some (M[j]'(by omega)) := List.getElem?_eq_getElem (by omega)
      have hlt2 := hprev j (by omega)
      have hwj : IntKind.i64.wrap (j : Int) = j := wrap_id (by omega) (by omega)
      generalize M[j]'(by omega) = y at hgj hlt2
      generalize M[j + 1] = x at hg hlt2 hx hpb
      have hle : ¬ x ≤ y := by omega
      have hj0 : (0 : Int) ≤ (j : Int) + 1 := by omega
      simp [vc_law09_ProofRead_k6, hwj, hg, hgj, hle, hj0]
      refine ⟨rfl, ?_⟩
      rw [wrap_id (n := (j : Int) + 1 + 1) (by omega) (by omega)]
      exact ⟨j + 1 + 1, by omega, by simp [WEAK], by omega⟩
    · intro h0
      simp [vc_law09_ProofRead_k7]
      refine ⟨rfl, ?_⟩
      rw [wrap_id (n := (k : Int) + 1) (by omega) (by omega)]
      exact ⟨k + 1, by omega, by simp [WEAK], by omega⟩
  · intro hge
    exact known_call hk (by simp)
def isN (x : Nt) (k : Nat) (q : Int) (L : List Int) (n : Int) : Bool := match x.nums with
  | [a, b, c, d] => match decide (c ≤ (k : Int)) && (decide ((k : Int) ≤ d) && (decide (a = n) || decide (b = n))) with
    | true => !decide (n = q)
    | false => decide (n ∈ L)
  | _ => decide (n ∈ L)
set_option maxHeartbeats 4000000 in
theorem seen_loop (hk : MeetsH (Tz g) f_law09_known [] [] (.ret (.d (.bool true))) []) (p : Pg) (x : Nt) (L M S : List Int) (k m : Nat) (q : Int) (h : Heap) (he : entB p x = true) (hm : p.people = m) (hm2 : m ≤ 6) (hL : L.length ≤ m) (hM : M.length ≤ m) (hpers : ∀ x, x ∈ M → 0 ≤ x ∧ x < m) (hinc : M.Pairwise (fun a b => a < b)) (hS : S[k]? = some q)
    (hbody : ∀ n : Nat, n < m → decide ((n : Int) ∈ M) = isN x k q L n)
    (hp : lookH h 24 = some ⟨0, T_api_ProofPage, .box [.d (int p.people), .d (.list (p.lines.map Ln.d)), .d (.list (p.log.map Nt.d))]⟩) (hx : lookH h 32 = some ⟨0, T_api_ProofEntry, .box [.d (int x.kind), .d (.list (x.nums.map int))]⟩) :
    LOOP [.d (int k), .ptr 24 0 0 0, .ptr 32 0 0 0, .d (.list (L.map int)), .d (.list (M.map int)), .d (.list (S.map int)), .d (int 0)] h 784 (fun vs h next => vc_law09_ProofRead_k10 (Tz g) [] (.d (.bool true)) [] vs h next) := by
  refine LOOP.mk Nat (fun n => [.d (int k), .ptr 24 0 0 0, .ptr 32 0 0 0, .d (.list (L.map int)), .d (.list (M.map int)), .d (.list (S.map int)), .d (int n)]) (fun _ => [(24, some ⟨0, T_api_ProofPage, .box [.d (int p.people), .d (.list (p.lines.map Ln.d)), .d (.list (p.log.map Nt.d))]⟩), (32, some ⟨0, T_api_ProofEntry, .box [.d (int x.kind), .d (.list (x.nums.map int))]⟩)]) (fun n => n ≤ m) (fun n => m - n) [] (by simp) 0 (by omega) (by simp [WEAK, hp, hx]) (fun _ _ => rfl) ?_
  intro n hn
  simp [vc_law09_ProofRead_k10, hm]
  constructor
  · intro hlt
    have hb := hbody n hlt
    have hLi : Meets (Tz g) f_ref01_Listed [ints L, int n] ⟨.d (.bool (decide ((n : Int) ∈ L))), []⟩ := ref01_Listed_meets L n (by omega)
    have hMi : Meets (Tz g) f_ref01_Listed [ints M, int n] ⟨.d (.bool (decide ((n : Int) ∈ M))), []⟩ := ref01_Listed_meets M n (by omega)
    generalize decide ((n : Int) ∈ M) = bM at hb hMi
    refine CALL.val [ints L, int n] _ rfl hLi (.inl rfl) ?_
    have hw := wrap_id (n := (n : Int) + 1) (by omega) (by omega)
    rcases entB_cases he with ⟨a, rfl, ha⟩ | ⟨a, b, c, rfl, ha, hb2, hc⟩ | ⟨a, b, c, j, rfl, ha, hb2, hab, hcn, hj⟩
    · simp only [isN] at hb
      subst hb
      simp [vc_law09_ProofRead_k1]
      refine CALL.val [ints M, int n] _ rfl hMi (.inl rfl) ?_
      simp [hw]
      exact ⟨n + 1, by omega, by simp [WEAK], by omega⟩
    · simp only [isN] at hb
      subst hb
      simp [vc_law09_ProofRead_k1]
      refine CALL.val [ints M, int n] _ rfl hMi (.inl rfl) ?_
      simp [hw]
      exact ⟨n + 1, by omega, by simp [WEAK], by omega⟩
    · simp only [isN] at hb
      generalize (c : Int) + j - 1 = d at hb ⊢
      have hk1 : (decide ((c : Int) ≤ (k : Int)) && (decide ((k : Int) ≤ d) && (decide (a = (n : Int)) || decide (b = (n : Int))))) = false → vc_law09_ProofRead_k1 (Tz g) [] (.d (.bool true)) [] [.d (int k), .ptr 24 0 0 0, .ptr 32 0 0 0, .d (.list (L.map int)), .d (.list (M.map int)), .d (.list (S.map int)), .d (int n)] [(24, some ⟨0, T_api_ProofPage, .box [.d (int m), .d (.list (p.lines.map Ln.d)), .d (.list (p.log.map Nt.d))]⟩), (32, some ⟨0, T_api_ProofEntry, .box [.d (int 1), .d (.list [int a, int b, int c, int d])]⟩)] (.d (.bool (decide ((n : Int) ∈ L)))) (fun vs' h' => ∃ s', s' ≤ m ∧ WEAK vs' h' [.d (int k), .ptr 24 0 0 0, .ptr 32 0 0 0, .d (.list (L.map int)), .d (.list (M.map int)), .d (.list (S.map int)), .d (int s')] [(24, some ⟨0, T_api_ProofPage, .box [.d (int m), .d (.list (p.lines.map Ln.d)), .d (.list (p.log.map Nt.d))]⟩), (32, some ⟨0, T_api_ProofEntry, .box [.d (int 1), .d (.list [int a, int b, int c, int d])]⟩)] ∧ m - s' < m - n) := by
        intro hf
        rw [hf] at hb
        simp only at hb
        subst hb
        unfold vc_law09_ProofRead_k1
        refine CALL.val [ints M, int n] _ rfl hMi (.inl rfl) ?_
        simp [hw]
        exact ⟨n + 1, by omega, by simp [WEAK], by omega⟩
      have hk0 : (decide ((c : Int) ≤ (k : Int)) && (decide ((k : Int) ≤ d) && (decide (a = (n : Int)) || decide (b = (n : Int))))) = true → vc_law09_ProofRead_k0 (Tz g) [] (.d (.bool true)) [] [.d (int k), .ptr 24 0 0 0, .ptr 32 0 0 0, .d (.list (L.map int)), .d (.list (M.map int)), .d (.list (S.map int)), .d (int n)] [(24, some ⟨0, T_api_ProofPage, .box [.d (int m), .d (.list (p.lines.map Ln.d)), .d (.list (p.log.map Nt.d))]⟩), (32, some ⟨0, T_api_ProofEntry, .box [.d (int 1), .d (.list [int a, int b, int c, int d])]⟩)] (fun vs' h' => ∃ s', s' ≤ m ∧ WEAK vs' h' [.d (int k), .ptr 24 0 0 0, .ptr 32 0 0 0, .d (.list (L.map int)), .d (.list (M.map int)), .d (.list (S.map int)), .d (int s')] [(24, some ⟨0, T_api_ProofPage, .box [.d (int m), .d (.list (p.lines.map Ln.d)), .d (.list (p.log.map Nt.d))]⟩), (32, some ⟨0, T_api_ProofEntry, .box [.d (int 1), .d (.list [int a, int b, int c, int d])]⟩)] ∧ m - s' < m - n) := by
        intro hf
        rw [hf] at hb
        simp only at hb
        subst hb
        unfold vc_law09_ProofRead_k0
        simp [hS]
        refine CALL.val [ints M, int n] _ rfl hMi (.inl rfl) ?_
        simp [hw]
        exact ⟨n + 1, by omega, by simp [WEAK], by omega⟩
      simp [vc_law09_ProofRead_k5]
      refine ⟨fun h1 => ?_, fun h1 => hk1 (by have : ¬ (c : Int) ≤ (k : Int) := by omega
                                              simp [this])⟩
      have g1 : (c : Int) ≤ (k : Int) := by omega
      simp [vc_law09_ProofRead_k4]
      refine ⟨fun h2 => ?_, fun h2 => hk1 (by have : ¬ (k : Int) ≤ d := by omega
                                              simp [this])⟩
      simp [vc_law09_ProofRead_k3]
      refine ⟨fun h3 => hk0 (by simp [g1, h2, h3]), fun h3 => ?_⟩
      simp [vc_law09_ProofRead_k2]
      exact ⟨fun h4 => hk0 (by simp [g1, h2, h4]), fun h4 => hk1 (by simp [h3, h4])⟩
  · intro hge
    exact order_loop hk p M m _ hm hm2 hM hpers hinc (by simp [lookH, hm])
theorem readersL_congr {s s' : Ps} {line m : Nat} (h : ∀ n : Nat, n < m → rdB s' line n = rdB s line n) : readersL s' line m = readersL s line m := by
  unfold readersL
  rw [List.filter_congr (fun n hn => h n (List.mem_range.1 hn))]
set_option maxHeartbeats 4000000 in
theorem read_meets (hg : GOK g) (p : Pg) (x : Nt) (line : Int) (_ : -9223372036854775808 ≤ line ∧ line ≤ 9223372036854775807) : Meets (Tz g) f_law09_ProofRead [p.d, x.d, int line] ⟨.d (.bool true), []⟩ := by
  have hk := known_meets hg
  refine meets_law09_ProofRead ?_
  unfold vc_law09_ProofRead
  simp [Pg.d, lns, ents, Nt.d, ints]
  refine CALL.val [p.d, x.d] _ rfl (law09_room_meets p x) (.inl rfl) ?_
  cases hr : roomB p x with
  | false =>
    simp [vc_law09_ProofRead_k16]
    exact known_call hk (by simp)
  | true =>
    simp [roomB, rightB] at hr
    obtain ⟨b1, b2, b3, b4, b5⟩ := hr
    obtain ⟨a1, a2, a3, a4, a5, a6, a7⟩ := Pg.ok_len b2
    obtain ⟨m, hm⟩ : ∃ m : Nat, p.people = m := ⟨p.people.toNat, by omega⟩
    have hpn : p.people.toNat = m := by omega
    simp [vc_law09_ProofRead_k16]
    refine CALL.val [p.d, int line] _ rfl (ref09_Line_meets p line (by omega)) (.inl rfl) ?_
    cases hl : lineB p line with
    | false =>
      simp [vc_law09_ProofRead_k15]
      exact known_call hk (by simp)
    | true =>
      obtain ⟨k, rfl, hk2⟩ := inB_nat hl
      have hkl : k < p.lines.length := by omega
      have hwok := withE_ok b2 b5 b4
      have hW := ref09_With_meets (g := g) p x (by omega)
      simp [vc_law09_ProofRead_k15]
      refine CALL.mk [p.d, int k] _ rfl (proof_Readers_data p k b2 hkl) (.inl rfl) (by simp) ?_
      simp
      refine CALL.val [p.d, x.d] _ rfl hW (.inl rfl) ?_
      unfold vc_law09_ProofRead_k14
      refine CALL.mk [(withE p x).d, int k] _ rfl (proof_Readers_data (withE p x) k hwok hkl) (.inl rfl) (by simp) ?_
      simp
      refine CALL.mk [p.d] _ rfl (proof_Setters_data p b2) (.inl rfl) (by simp) ?_
      have e1 : readersP p k = readersL (stN p p.log.length) k m := by unfold readersP; rw [hpn]
      have e2 : readersP (withE p x) k = readersL (stepS p p.log.length x (stN p p.log.length)) k m := by
        unfold readersP
        rw [stN_last]
        have : (withE p x).people.toNat = m := hpn
        rw [this]
      have e3 : settersL p = (stN p p.log.length).setters := rfl
      have hps := (stN_ok b2 _ (Nat.le_refl _)).1
      have hnd := nodup_stN b2 _ (Nat.le_refl p.log.length)
      rw [e1, e2, e3]
      generalize stN p p.log.length = s at *
      have hsl := hps.setters
      obtain ⟨q, hq⟩ : ∃ q, s.setters[k]? = some q := ⟨_, List.getElem?_eq_getElem (by omega)⟩
      have hqD : s.setters.getD k 0 = q := by rw [List.getD_eq_getElem?_getD, hq]; rfl
      obtain ⟨L, hL⟩ : ∃ L, L = readersL s k m := ⟨_, rfl⟩
      obtain ⟨M, hM⟩ : ∃ M, M = readersL (stepS p p.log.length x s) k m := ⟨_, rfl⟩
      have hLl : L.length ≤ m := by rw [hL]; exact readersL_len _ _ _
      have hMl : M.length ≤ m := by rw [hM]; exact readersL_len _ _ _
      have hpers : ∀ y, y ∈ M → 0 ≤ y ∧ y < m := fun y hy => by rw [hM] at hy; have := mem_readersL.1 hy; omega
      have hinc : M.Pairwise (fun a b => a < b) := by rw [hM]; exact readersL_pair _ _ _
      rw [← hL, ← hM]
      have f1 : ¬ (m : Int) < (L.length : Int) := by omega
      have f2 : ¬ (m : Int) < (M.length : Int) := by omega
      have hempty : ∀ s2 : Ps, s2.keys = delN k p.people.toNat s.keys → readersL s2 k m = [] := fun s2 h2 => by
        apply List.eq_nil_iff_forall_not_mem.2
        intro y hy
        obtain ⟨y1, y2, y3, _⟩ := mem_readersL.1 hy
        rw [h2, hpn, (hasK_delN k k m y s.keys hnd).2] at y3
        simp [y1, y2] at y3
      rcases entB_cases b5 with ⟨a, rfl, ha⟩ | ⟨a, b, c, rfl, ha, hb, hc⟩ | ⟨a, b, c, j, rfl, ha, hb, hab, hcn, hj⟩
      · simp [vc_law09_ProofRead_k13, ints, hm, hsl]
        refine ⟨hLl, fun _ => ⟨hMl, fun _ => ?_⟩⟩
        simp [vc_law09_ProofRead_k12]
        refine ⟨fun h1 => ?_, fun h1 => ?_⟩
        · have hak : a = k := by omega
          have hkeys : (stepS p p.log.length ⟨3, [(a : Int)]⟩ s).keys = delN k p.people.toNat s.keys := by rw [hak]; simp [stepS, changeS]
          have : M = [] := by rw [hM]; exact hempty _ hkeys
          simp [this]
          exact known_call hk (by simp)
        · refine seen_loop hk p ⟨3, [(a : Int)]⟩ L M s.setters k m q _ b5 hm (by omega) hLl hMl hpers hinc hq (fun n hn => ?_) (by simp [lookH, hm]) (by simp [lookH])
          have : M = L := by
            rw [hM, hL]
            refine readersL_congr (fun n hn => ?_)
            have hne : ¬ k = a := by omega
            simp only [rdB, stepS, changeS, Int.toNat_natCast, (hasK_delN a k p.people.toNat (n : Int) s.keys hnd).2, decide_eq_false hne, Bool.false_and, Bool.not_false, Bool.and_true]
            rfl
          rw [this]
          rfl
      · simp [vc_law09_ProofRead_k13, ints, hm, hsl]
        refine ⟨hLl, fun _ => ⟨hMl, fun _ => ?_⟩⟩
        simp [vc_law09_ProofRead_k11]
        refine ⟨fun h1 => ?_, fun h1 => ?_⟩
        · have hak : b = k := by omega
          have hkeys : (stepS p p.log.length ⟨2, [a, (b : Int), c]⟩ s).keys = delN k p.people.toNat s.keys := by rw [hak]; simp [stepS, changeS]
          have : M = [] := by rw [hM]; exact hempty _ hkeys
          simp [this]
          exact known_call hk (by simp)
        · refine seen_loop hk p ⟨2, [a, (b : Int), c]⟩ L M s.setters k m q _ b5 hm (by omega) hLl hMl hpers hinc hq (fun n hn => ?_) (by simp [lookH, hm]) (by simp [lookH])
          have : M = L := by
            rw [hM, hL]
            refine readersL_congr (fun n hn => ?_)
            have hne : ¬ k = b := by omega
            have hne2 : ¬ b = k := by omega
            have hgd : (s.setters.set b a).getD k 0 = s.setters.getD k 0 := by
              rw [List.getD_eq_getElem?_getD, List.getD_eq_getElem?_getD, List.getElem?_set, if_neg hne2]
            simp only [rdB, stepS, changeS, Int.toNat_natCast, (hasK_delN b k p.people.toNat (n : Int) s.keys hnd).2, decide_eq_false hne, Bool.false_and, Bool.not_false, Bool.and_true, hgd]
          rw [this]
          rfl
      · simp [vc_law09_ProofRead_k13, ints, hm, hsl]
        refine ⟨hLl, fun _ => ⟨hMl, fun _ => ?_⟩⟩
        simp [vc_law09_ProofRead_k12]
        refine seen_loop hk p ⟨1, [a, b, (c : Int), (c : Int) + j - 1]⟩ L M s.setters k m q _ b5 hm (by omega) hLl hMl hpers hinc hq (fun n hn => ?_) (by simp [lookH, hm]) (by simp [lookH])
        have e0 : ((c : Int) + j - 1 - c + 1).toNat = j := by omega
        have hst : stepS p p.log.length ⟨1, [a, b, (c : Int), (c : Int) + j - 1]⟩ s = readN p p.log.length a b j c s := by
          simp only [stepS, Int.toNat_natCast, e0]
        have hsets : ∀ (j c2 : Nat) (s2 : Ps), (readN p p.log.length a b j c2 s2).setters = s2.setters := by
          intro j
          induction j with
          | zero => intro c2 s2; rfl
          | succ j ih => intro c2 s2; exact ih (c2 + 1) _
        rw [hst] at hM
        have hc1 : decide ((c : Int) ≤ (k : Int)) = decide (c ≤ k) := decide_eq_decide.2 (by omega)
        have hc2 : decide ((k : Int) ≤ (c : Int) + j - 1) = decide (k < c + j) := decide_eq_decide.2 (by omega)
        have hc3 : decide (a = (n : Int)) = decide ((n : Int) = a) := decide_eq_decide.2 ⟨Eq.symm, Eq.symm⟩
        have hc4 : decide (b = (n : Int)) = decide ((n : Int) = b) := decide_eq_decide.2 ⟨Eq.symm, Eq.symm⟩
        have hmemM : decide ((n : Int) ∈ M) = ((hasK ((k : Int), (n : Int)) s.keys || (decide (c ≤ k) && (decide (k < c + j) && (decide ((n : Int) = a) || decide ((n : Int) = b))))) && !decide ((n : Int) = q)) := by
          rw [← hasK_readN p p.log.length a b k n j c s, hM]
          apply Bool.eq_iff_iff.2
          simp only [decide_eq_true_eq, mem_readersL, Bool.and_eq_true, Bool.not_eq_true', decide_eq_false_iff_not, hsets, hqD]
          constructor
          · rintro ⟨_, _, h3, h4⟩
            exact ⟨h3, h4⟩
          · rintro ⟨h3, h4⟩
            exact ⟨by omega, by omega, h3, h4⟩
        have hmemL : decide ((n : Int) ∈ L) = (hasK ((k : Int), (n : Int)) s.keys && !decide ((n : Int) = q)) := by
          rw [hL]
          apply Bool.eq_iff_iff.2
          simp only [decide_eq_true_eq, mem_readersL, Bool.and_eq_true, Bool.not_eq_true', decide_eq_false_iff_not, hqD]
          constructor
          · rintro ⟨_, _, h3, h4⟩
            exact ⟨h3, h4⟩
          · rintro ⟨h3, h4⟩
            exact ⟨by omega, by omega, h3, h4⟩
        rw [hmemM]
        simp only [isN, hc1, hc2, hc3, hc4, hmemL]
        cases (decide (c ≤ k) && (decide (k < c + j) && (decide ((n : Int) = a) || decide ((n : Int) = b)))) with
        | true => simp
        | false => simp
end Go.Vc

namespace Go.Vc
open Go Go.RowKit Go.ChangeShapes Go.WideShapes Go.ChangeAt Go.Proofs Go.Proofs.YthdjndbnnajpoaaGreatDoor
theorem read_calls {H : Type} {enc : TypeId × Value → H} (W : World) (base : Nat) (args : Array Value) (ds : List (DataW H)) (ps : List MemPlace) (hval : ∀ (j : Nat) t v, Tryz.f5.params[j]? = some t → args[j]? = some v → Value.okWide Tryz.prog W .any base t v)
    (hA : DataW.TrodAll enc Tryz.prog W 0 (fun _ => true) true Tryz.f5.params.toList args.toList ds ps) (hL : laidMetH Tryz.prog laidL W) (hsh : W.ShapedOpen Tryz.prog) : Calls Tryz.prog 5 args W fun e W' => e = .returned (.bool true) ∧ Below W.heap.size W W' := by
  rw [Tryz.params5] at hA hval
  obtain ⟨v0, v1, v2, d0, d1, d2, p0, p1, p2, rfl, rfl, rfl, h0, h1, h2⟩ := trodAll_three hA
  obtain ⟨x0, g0⟩ := open_page (hval 0 25 v0 rfl rfl) h0
  obtain ⟨x1, g1⟩ := open_entry (hval 1 29 v1 rfl rfl) h1
  obtain ⟨x2, g2, b2⟩ := open_int' (hval 2 3 v2 rfl rfl) h2
  exact law_calls (C := Tz (gW W)) (read_meets (gok hL hsh) x0 x1 x2 b2) rfl (Below.refl _ _) (us := [v0, v1, v2]) rfl (fun i d u hd hu => by
    match i, hd, hu with
    | 0, hd, hu => simp at hd hu; subst hd; subst hu; exact g0
    | 1, hd, hu => simp at hd hu; subst hd; subst hu; exact g1
    | 2, hd, hu => simp at hd hu; subst hd; subst hu; exact g2
    | i + 3, hd, hu => simp at hd)
theorem read_lifted (os : Os) (started : os.Started) (H : Type) (enc : TypeId × Value → H) :
    ReturnsInHanded {} Tryz.checked os 5 .any (fun w args => (Rows.proofReadSpec.pre enc Tryz.prog Tryz.f5 [] false w args ∧ laidMetH Tryz.prog laidL w) ∧ sizedMet enc Tryz.prog Tryz.f5 (OpenSpec.ofChange Rows.proofReadSpec) false w args)
      (Rows.proofReadSpec.post enc Tryz.prog Tryz.f5 false true false false) :=
  law_lifted (C := Tryz.checked) (tb := 4) (n := 3) started own (by kernel_rfl) Tryz.func5
    (ChangeSpec.witness_shaped (enc := enc) (C := Tryz.checked) (os := os) (X := fun w _ => laidMetH Tryz.prog laidL w) false (World.laidAll Tryz.prog os laidL) #[.agg #[.int .i64 0, .slice none 0 0, .slice none 0 0], .agg #[.int .i64 0, .slice none 0 0], .int .i64 0] 8 (World.laidAll_os _ _ _)
      (World.shaped_of_ZipB (by kernel_rfl) (by kernel_rfl)) (by kernel_rfl) (by kernel_rfl) (by kernel_rfl)
      (by rw [MakeChecks.laidMetH_plain _ _ _ (by kernel_rfl)]; exact laidMet_laidAll _ (by kernel_rfl) (by kernel_rfl)))
    laidOut (by kernel_rfl) (by kernel_rfl) Tryz.underlying4 rfl (by kernel_rfl) (fun ds hl => by
      match ds, hl with
      | [a, b, c], _ => rfl) read_calls
theorem read_holds : Rows.ProofReadSaid :=
  OpenClaim.holds_of_wide 5 Tryz.f5 rfl rfl rfl rfl rfl rfl rfl ⟨rfl, rfl, rfl, rfl, rfl⟩ rfl rfl rfl rfl rfl (by kernel_rfl) Tryz.func5 (by kernel_rfl)
    (of_decide_eq_true (by kernel_rfl)) (by unfold Func.isWrapper; first | (rw [if_pos (by decide +kernel)]; kernel_rfl) | (rw [if_neg (by decide +kernel)]; exact ⟨rfl, rfl⟩))
    (fun os started H enc _ => read_lifted os started H enc)
theorem read_card : Rows.ProofReadCardSaid :=
  Claim7.holds_tied_plain_at .later [] [.data, .data, .data, .data, .pinned] true (true, "37bfc3ba26a816bdd744f413de7fa5ad01d8f38205d20d0bea52d9922db35776") true read_holds (fun _ h => by cases h) (by kernel_rfl) (fun _ h => by cases h) proofRead_row_tie rfl ⟨rfl, rfl⟩ (by kernel_rfl) rfl
    (fun f fn hf hfn => by
      obtain rfl : f = 5 := Option.some.inj ((show Tryz.prog.funcNamed "ephemerist/ephemeristlaw09.ProofRead" = some 5 by kernel_rfl).symm.trans hf) |>.symm
      obtain rfl : fn = Tryz.f5 := (Option.some.inj (Tryz.func5.symm.trans hfn)).symm
      exact ⟨by kernel_rfl, fun j t ht => by
        rw [Tryz.params5] at ht
        have hm : t ∈ [25, 29, 3] := by simpa using Array.mem_of_getElem? ht
        have hall : ([25, 29, 3].all fun u => !Tryz.prog.wantsStandIn u) = true := by kernel_rfl
        exact (show Tryz.prog.wantsStandIn t = false by simpa using List.all_eq_true.1 hall t hm)⟩)
    (by kernel_rfl)
end Go.Vc

namespace Go.Proofs.YthdjndbnnajpoaaGreatDoor
theorem law_ProofReadCardSaid : Rows.ProofReadCardSaid := Go.Vc.read_card
end Go.Proofs.YthdjndbnnajpoaaGreatDoor
