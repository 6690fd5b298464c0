/- Proves that the statement ProofWasteCardSaid holds of the given program: for every input the law returns true and leaves its arguments as they were; under the row's own conditions, that the listed tables are laid as the program's text has them. -/
import Derived.Test.YtjdgidaoknlnlaaGreatDoorVc23
import Derived.Test.YtjdgidaoknlnlaaGreatDoorVc11
import Derived.Test.YtjdgidaoknlnlaaGreatDoorVc51
import Derived.Test.YtjdgidaoknlnlaaGreatDoorVc26
import Derived.Test.YtjdgidaoknlnlaaGreatDoorVc30
set_option maxRecDepth 100000
namespace Go.Vc
open Go Go.Proofs Go.RowKit
def ann_law09_ProofWaste : Nat → List Nat := fun n => match n with | 7 => [1, 2, 3, 7, 9] | 24 => [2, 3, 7, 25] | _ => []
def vc_law09_ProofWaste_k0 (P : Ctx) (pre : List ABlk) (r : AV) (post : List PB) (h0 : Heap) (vs1 : List AV) (v2 : AV) (v3 : AV) (v4 : AV) (v5 : AV) (v6 : AV) (v7 : AV) : Prop :=
  ORDX [] [0, 0, 3, 7, 15, 31, 63, 63, 255, 511, 63, 1087, 3135, 8191, 16383, 32767, 65535, 131071, 262143, 524287, 524287, 2097151, 4194303, 524287, 524287, 17301503, 59244543, 126353407, 268435455, 536870911, 1073741823, 2147483647, 4294967295, 8589934591, 4294967295, 4294967295, 55834574847, 124554051583, 274877906943, 549755813887, 1099511627775, 2199023255551, 4398046511103] [(2, wr h0 h0, (ids (nth vs1 3))), (3, wr h0 h0, (ids v2)), (8, wr h0 h0, (ids (nth vs1 3))), (9, wr h0 h0, (ids v3)), (10, wr h0 h0, (ids (nth vs1 2))), (11, wr h0 h0, (ids v4)), (12, wr h0 h0, (ids v5)), (21, wr h0 h0, (ids (nth vs1 3))), (22, wr h0 h0, (ids v6)), (26, wr h0 h0, (ids (nth vs1 3))), (27, wr h0 h0, (ids v7))] ∧
  POST (.d (.bool false)) h0 pre r post
def vc_law09_ProofWaste_k1 (P : Ctx) (pre : List ABlk) (r : AV) (post : List PB) (vs0 : List AV) (h1 : Heap) (v10 : AV) (v11 : AV) (v12 : AV) (v13 : AV) (v14 : AV) (v15 : AV) (next17 : List AV → Heap → Prop) : Prop :=
  FADDR 2 (nth vs0 2) h1 fun v2 =>
  LOAD false 1 v2 h1 fun v3 =>
  IADDR 1 T_int (nth vs0 3) (nth vs0 4) h1 fun v4 =>
  LOAD false 1 v4 h1 fun v5 =>
  IADDR 2 T_api_ProofEntry v3 v5 h1 fun v6 =>
  FADDR 0 v6 h1 fun v7 =>
  LOAD false 1 v7 h1 fun v8 =>
  BIN 0 .neq v8 (.d (.num .i64 1)) fun v9 =>
  ORDX [] [0, 0, 3, 7, 15, 31, 63, 63, 255, 511, 63, 1087, 3135, 8191, 16383, 32767, 65535, 131071, 262143, 524287, 524287, 2097151, 4194303, 524287, 524287, 17301503, 59244543, 126353407, 268435455, 536870911, 1073741823, 2147483647, 4294967295, 8589934591, 4294967295, 4294967295, 55834574847, 124554051583, 274877906943, 549755813887, 1099511627775, 2199023255551, 4398046511103] [(2, wr h1 h1, (ids (nth vs0 3))), (3, wr h1 h1, (ids v10)), (8, wr h1 h1, (ids (nth vs0 3))), (9, wr h1 h1, (ids v11)), (10, wr h1 h1, (ids (nth vs0 2))), (11, wr h1 h1, (ids v12)), (12, wr h1 h1, (ids v13)), (21, wr h1 h1, (ids (nth vs0 3))), (22, wr h1 h1, (ids v14)), (26, wr h1 h1, (ids (nth vs0 3))), (27, wr h1 h1, (ids v15)), (32, wr h1 h1, (ids (nth vs0 2))), (33, wr h1 h1, (ids v2)), (36, wr h1 h1, (ids (nth vs0 3))), (37, wr h1 h1, (ids v4)), (38, wr h1 h1, (ids v3)), (39, wr h1 h1, (ids v6)), (40, wr h1 h1, (ids v7))] ∧
  COND v9
  (POST (.d (.bool false)) h1 pre r post)
  (BIN 0 .add (nth vs0 4) (.d (.num .i64 1)) fun v16 =>
  next17 [(nth vs0 0), (nth vs0 1), (nth vs0 2), (nth vs0 3), v16] h1)
def vc_law09_ProofWaste_k2 (P : Ctx) (pre : List ABlk) (r : AV) (post : List PB) (vs0 : List AV) (h1 : Heap) (v8 : AV) (v9 : AV) (v10 : AV) (v11 : AV) (next12 : List AV → Heap → Prop) : Prop :=
  IADDR 1 T_int (nth vs0 3) (nth vs0 4) h1 fun v2 =>
  LOAD false 1 v2 h1 fun v3 =>
  BIN 0 .sub (nth vs0 4) (.d (.num .i64 1)) fun v4 =>
  IADDR 1 T_int (nth vs0 3) v4 h1 fun v5 =>
  LOAD false 1 v5 h1 fun v6 =>
  BIN 0 .leq v3 v6 fun v7 =>
  CONDG v7
  (vc_law09_ProofWaste_k0 P pre r post h1 vs0 v8 v9 v10 v11 v2 v5)
  (vc_law09_ProofWaste_k1 P pre r post vs0 h1 v8 v9 v10 v11 v2 v5 next12)
def vc_law09_ProofWaste_k3 (P : Ctx) (pre : List ABlk) (r : AV) (post : List PB) (vs0 : List AV) (h1 : Heap) (v10 : AV) (v11 : AV) (v12 : AV) (v13 : AV) (next15 : List AV → Heap → Prop) : Prop :=
  FADDR 2 (nth vs0 2) h1 fun v2 =>
  LOAD false 1 v2 h1 fun v3 =>
  IADDR 1 T_int (nth vs0 3) (nth vs0 4) h1 fun v4 =>
  LOAD false 1 v4 h1 fun v5 =>
  IADDR 2 T_api_ProofEntry v3 v5 h1 fun v6 =>
  FADDR 0 v6 h1 fun v7 =>
  LOAD false 1 v7 h1 fun v8 =>
  BIN 0 .neq v8 (.d (.num .i64 1)) fun v9 =>
  ORDX [] [0, 0, 3, 7, 15, 31, 63, 63, 255, 511, 63, 1087, 3135, 8191, 16383, 32767, 65535, 131071, 262143, 524287, 524287, 2097151, 4194303, 524287, 524287, 17301503, 59244543, 126353407, 268435455, 536870911, 1073741823, 2147483647, 4294967295, 8589934591, 4294967295, 4294967295, 55834574847, 124554051583, 274877906943, 549755813887, 1099511627775, 2199023255551, 4398046511103] [(2, wr h1 h1, (ids (nth vs0 3))), (3, wr h1 h1, (ids v10)), (8, wr h1 h1, (ids (nth vs0 3))), (9, wr h1 h1, (ids v11)), (10, wr h1 h1, (ids (nth vs0 2))), (11, wr h1 h1, (ids v12)), (12, wr h1 h1, (ids v13)), (32, wr h1 h1, (ids (nth vs0 2))), (33, wr h1 h1, (ids v2)), (36, wr h1 h1, (ids (nth vs0 3))), (37, wr h1 h1, (ids v4)), (38, wr h1 h1, (ids v3)), (39, wr h1 h1, (ids v6)), (40, wr h1 h1, (ids v7))] ∧
  COND v9
  (POST (.d (.bool false)) h1 pre r post)
  (BIN 0 .add (nth vs0 4) (.d (.num .i64 1)) fun v14 =>
  next15 [(nth vs0 0), (nth vs0 1), (nth vs0 2), (nth vs0 3), v14] h1)
def vc_law09_ProofWaste_k4 (P : Ctx) (pre : List ABlk) (r : AV) (post : List PB) (h0 : Heap) (vs1 : List AV) (v2 : AV) : Prop :=
  ORDX [] [0, 0, 3, 7, 15, 31, 63, 63, 255, 511, 63, 1087, 3135, 8191, 16383, 32767, 65535, 131071, 262143, 524287, 524287, 2097151, 4194303, 524287, 524287, 17301503, 59244543, 126353407, 268435455, 536870911, 1073741823, 2147483647, 4294967295, 8589934591, 4294967295, 4294967295, 55834574847, 124554051583, 274877906943, 549755813887, 1099511627775, 2199023255551, 4398046511103] [(2, wr h0 h0, (ids (nth vs1 3))), (3, wr h0 h0, (ids v2))] ∧
  POST (.d (.bool false)) h0 pre r post
def vc_law09_ProofWaste_k5 (P : Ctx) (pre : List ABlk) (r : AV) (post : List PB) (vs0 : List AV) (h1 : Heap) (v8 : AV) (next10 : List AV → Heap → Prop) : Prop :=
  IADDR 1 T_int (nth vs0 3) (nth vs0 4) h1 fun v2 =>
  LOAD false 1 v2 h1 fun v3 =>
  FADDR 2 (nth vs0 2) h1 fun v4 =>
  LOAD false 1 v4 h1 fun v5 =>
  LEN false v5 h1 fun v6 =>
  BIN 0 .geq v3 v6 fun v7 =>
  CONDG v7
  (ORDX [] [0, 0, 3, 7, 15, 31, 63, 63, 255, 511, 63, 1087, 3135, 8191, 16383, 32767, 65535, 131071, 262143, 524287, 524287, 2097151, 4194303, 524287, 524287, 17301503, 59244543, 126353407, 268435455, 536870911, 1073741823, 2147483647, 4294967295, 8589934591, 4294967295, 4294967295, 55834574847, 124554051583, 274877906943, 549755813887, 1099511627775, 2199023255551, 4398046511103] [(2, wr h1 h1, (ids (nth vs0 3))), (3, wr h1 h1, (ids v8)), (8, wr h1 h1, (ids (nth vs0 3))), (9, wr h1 h1, (ids v2)), (10, wr h1 h1, (ids (nth vs0 2))), (11, wr h1 h1, (ids v4)), (12, wr h1 h1, (ids v5))] ∧
  POST (.d (.bool false)) h1 pre r post)
  (BIN 0 .gtr (nth vs0 4) (.d (.num .i64 0)) fun v9 =>
  CONDG v9
  (vc_law09_ProofWaste_k2 P pre r post vs0 h1 v8 v2 v4 v5 next10)
  (vc_law09_ProofWaste_k3 P pre r post vs0 h1 v8 v2 v4 v5 next10))
def vc_law09_ProofWaste_k6 (P : Ctx) (pre : List ABlk) (r : AV) (post : List PB) (vs0 : List AV) (h1 : Heap) (next12 : List AV → Heap → Prop) : Prop :=
  FADDR 2 (nth vs0 1) h1 fun v2 =>
  LOAD false 1 v2 h1 fun v3 =>
  IADDR 2 T_api_ProofEntry v3 (nth vs0 3) h1 fun v4 =>
  FADDR 0 v4 h1 fun v5 =>
  LOAD false 1 v5 h1 fun v6 =>
  BIN 0 .neq v6 (.d (.num .i64 1)) fun v7 =>
  COND v7
  (CALL P f_law09_known [] 1328 h1 (fun _ v9 h10 =>
  POST v9 h10 pre r post)
  (fun _ _ _ => False))
  (BIN 0 .add (nth vs0 3) (.d (.num .i64 1)) fun v11 =>
  next12 [(nth vs0 0), (nth vs0 1), (nth vs0 2), v11] h1)
def vc_law09_ProofWaste_k7 (P : Ctx) (pre : List ABlk) (r : AV) (post : List PB) (vs0 : List AV) (h1 : Heap) : Prop :=
  CALL P f_ref01_Listed [(nth vs0 2), (nth vs0 0)] 1288 h1 (fun _ v3 h4 =>
  NOT v3 fun v5 =>
  CONDG v5
  (CALL P f_law09_known [] 1312 h4 (fun _ v7 h8 =>
  POST v7 h8 pre r post)
  (fun _ _ _ => False))
  (POST (.d (.bool false)) h4 pre r post))
  (fun _ _ _ => False)
def vc_law09_ProofWaste_k8 (P : Ctx) (pre : List ABlk) (r : AV) (post : List PB) (vs0 : List AV) (h1 : Heap) (next6 : List AV → Heap → Prop) : Prop :=
  FADDR 2 (nth vs0 1) h1 fun v2 =>
  LOAD false 1 v2 h1 fun v3 =>
  LEN false v3 h1 fun v4 =>
  BIN 0 .lss (nth vs0 3) v4 fun v5 =>
  COND v5
  (vc_law09_ProofWaste_k6 P pre r post vs0 h1 next6)
  (vc_law09_ProofWaste_k7 P pre r post vs0 h1)
def vc_law09_ProofWaste_k9 (P : Ctx) (pre : List ABlk) (r : AV) (post : List PB) (v0 : AV) (h2 : Heap) (v3 : AV) (vs6 : List AV) : Prop :=
  NOT v0 fun v1 =>
  CONDG v1
  (POST (.d (.bool false)) h2 pre r post)
  (LEN false v3 h2 fun v4 =>
  BIN 0 .neq v4 (.d (.num .i64 0)) fun v5 =>
  COND v5
  (POST (.d (.bool false)) h2 pre r post)
  (BIN 0 .lss (nth vs6 1) (.d (.num .i64 0)) fun v7 =>
  CONDG v7
  (CALL P f_law09_known [] 1208 h2 (fun _ v9 h10 =>
  POST v9 h10 pre r post)
  (fun _ _ _ => False))
  (FADDR 2 (nth vs6 2) h2 fun v11 =>
  LOAD false 1 v11 h2 fun v12 =>
  LEN false v12 h2 fun v13 =>
  BIN 0 .geq (nth vs6 1) v13 fun v14 =>
  COND v14
  (CALL P f_law09_known [] 1208 h2 (fun _ v9 h16 =>
  POST v9 h16 pre r post)
  (fun _ _ _ => False))
  (LOOP [(nth vs6 1), (nth vs6 2), (nth vs6 3), (nth vs6 1)] h2 1224 fun vs17 h18 next19 =>
  vc_law09_ProofWaste_k8 P pre r post vs17 h18 next19))))
def vc_law09_ProofWaste_k10 (P : Ctx) (pre : List ABlk) (r : AV) (post : List PB) (v0 : AV) (h2 : Heap) (v3 : AV) (v4 : AV) (v9 : AV) (v10 : AV) (v14 : AV) (vs15 : List AV) : Prop :=
  NOT v0 fun v1 =>
  CONDG v1
  (POST (.d (.bool false)) h2 pre r post)
  (CALL P f_ref01_Same [v3, v4] 1024 h2 (fun _ v6 h7 =>
  NOT v6 fun v8 =>
  CONDG v8
  (POST (.d (.bool false)) h7 pre r post)
  (CALL P f_ref01_Same [v9, v10] 1072 h7 (fun _ v12 h13 =>
  vc_law09_ProofWaste_k9 P pre r post v12 h13 v14 vs15)
  (fun _ _ _ => False)))
  (fun _ _ _ => False))
def vc_law09_ProofWaste_k11 (P : Ctx) (pre : List ABlk) (r : AV) (post : List PB) (v0 : AV) (v3 : AV) (h5 : Heap) (v6 : AV) (v8 : AV) (v10 : AV) (v12 : AV) (v14 : AV) (v17 : AV) (v18 : AV) (v22 : AV) (v23 : AV) (v24 : AV) (v25 : AV) (vs26 : List AV) : Prop :=
  EXT v0 0 fun v1 =>
  EXT v0 1 fun v2 =>
  BIN 0 .neq v3 (.d (.num .i64 0)) fun v4 =>
  CONDG v4
  (POST (.d (.bool false)) h5 pre r post)
  (BIN 0 .neq v6 (.d (.num .i64 0)) fun v7 =>
  CONDG v7
  (POST (.d (.bool false)) h5 pre r post)
  (BIN 0 .neq v8 (.d (.num .i64 0)) fun v9 =>
  CONDG v9
  (POST (.d (.bool false)) h5 pre r post)
  (BIN 0 .neq v10 (.d (.num .i64 0)) fun v11 =>
  CONDG v11
  (POST (.d (.bool false)) h5 pre r post)
  (BIN 0 .neq v12 (.d (.num .i64 0)) fun v13 =>
  CONDG v13
  (POST (.d (.bool false)) h5 pre r post)
  (BIN 0 .neq v14 (.d (.num .i64 0)) fun v15 =>
  CONDG v15
  (POST (.d (.bool false)) h5 pre r post)
  (BIN 0 .neq v2 (.d (.num .i64 0)) fun v16 =>
  CONDG v16
  (POST (.d (.bool false)) h5 pre r post)
  (CALL P f_ref01_Same [v17, v18] 976 h5 (fun _ v20 h21 =>
  vc_law09_ProofWaste_k10 P pre r post v20 h21 v22 v23 v24 v25 v1 vs26)
  (fun _ _ _ => False))))))))
def vc_law09_ProofWaste_k12 (P : Ctx) (pre : List ABlk) (r : AV) (post : List PB) (v0 : AV) (v3 : AV) (h4 : Heap) (v9 : AV) (v10 : AV) (v11 : AV) (v12 : AV) (v13 : AV) (v14 : AV) (v15 : AV) (v16 : AV) (v17 : AV) (v18 : AV) (vs19 : List AV) : Prop :=
  EXT v0 0 fun v1 =>
  EXT v0 1 fun v2 =>
  LOAD true 3 v3 h4 fun v5 =>
  CALL P f_proof_Useless [v5] 696 h4 (fun _ v7 h8 =>
  vc_law09_ProofWaste_k11 P pre r post v7 v9 h8 v10 v11 v12 v13 v2 v14 v15 v16 v17 v18 v1 vs19)
  (fun _ _ _ => False)
def vc_law09_ProofWaste_k13 (P : Ctx) (pre : List ABlk) (r : AV) (post : List PB) (v0 : AV) (v3 : AV) (h4 : Heap) (vs6 : List AV) (v10 : AV) (v11 : AV) (v12 : AV) (v13 : AV) (v14 : AV) (v15 : AV) (v16 : AV) (v17 : AV) : Prop :=
  EXT v0 0 fun v1 =>
  EXT v0 1 fun v2 =>
  LOAD true 3 v3 h4 fun v5 =>
  CALL P f_proof_Readers [v5, (nth vs6 0)] 640 h4 (fun _ v8 h9 =>
  vc_law09_ProofWaste_k12 P pre r post v8 v3 h9 v10 v11 v12 v13 v2 v14 v15 v16 v17 v1 vs6)
  (fun _ _ _ => False)
def vc_law09_ProofWaste_k14 (P : Ctx) (pre : List ABlk) (r : AV) (post : List PB) (v0 : AV) (vs3 : List AV) (h4 : Heap) (v9 : AV) (v10 : AV) (v11 : AV) (v12 : AV) (v13 : AV) (v14 : AV) (v15 : AV) : Prop :=
  EXT v0 0 fun v1 =>
  EXT v0 1 fun v2 =>
  LOAD true 3 (nth vs3 2) h4 fun v5 =>
  CALL P f_proof_Readers [v5, (nth vs3 0)] 576 h4 (fun _ v7 h8 =>
  vc_law09_ProofWaste_k13 P pre r post v7 v9 h8 vs3 v10 v11 v12 v2 v13 v14 v15 v1)
  (fun _ _ _ => False)
def vc_law09_ProofWaste_k15 (P : Ctx) (pre : List ABlk) (r : AV) (post : List PB) (v0 : AV) (vs3 : List AV) (h4 : Heap) (v11 : AV) (v16 : AV) (v17 : AV) : Prop :=
  EXT v0 0 fun v1 =>
  EXT v0 1 fun v2 =>
  LOAD true 3 (nth vs3 2) h4 fun v5 =>
  CALL P f_proof_Setters [v5] 456 h4 (fun _ v7 h8 =>
  EXT v7 0 fun v9 =>
  EXT v7 1 fun v10 =>
  LOAD true 3 v11 h8 fun v12 =>
  CALL P f_proof_Setters [v12] 512 h8 (fun _ v14 h15 =>
  vc_law09_ProofWaste_k14 P pre r post v14 vs3 h15 v11 v16 v2 v10 v17 v1 v9)
  (fun _ _ _ => False))
  (fun _ _ _ => False)
def vc_law09_ProofWaste_k16 (P : Ctx) (pre : List ABlk) (r : AV) (post : List PB) (h0 : Heap) (v3 : AV) (vs5 : List AV) : Prop :=
  ALLOC T_api_ProofPage [.d (.num .i64 0), .zc, .zc] 320 h0 fun v1 h2 =>
  STORE 3 v1 v3 h2 fun h4 =>
  LOAD true 3 (nth vs5 2) h4 fun v6 =>
  CALL P f_proof_Now [v6] 344 h4 (fun _ v8 h9 =>
  EXT v8 0 fun v10 =>
  EXT v8 1 fun v11 =>
  LOAD true 3 v1 h9 fun v12 =>
  CALL P f_proof_Now [v12] 400 h9 (fun _ v14 h15 =>
  vc_law09_ProofWaste_k15 P pre r post v14 vs5 h15 v1 v11 v10)
  (fun _ _ _ => False))
  (fun _ _ _ => False)
def vc_law09_ProofWaste_k17 (P : Ctx) (pre : List ABlk) (r : AV) (post : List PB) (vs0 : List AV) (h1 : Heap) (next7 : List AV → Heap → Prop) : Prop :=
  LEN false (nth vs0 3) h1 fun v2 =>
  BIN 0 .lss (nth vs0 4) v2 fun v3 =>
  COND v3
  (IADDR 1 T_int (nth vs0 3) (nth vs0 4) h1 fun v4 =>
  LOAD false 1 v4 h1 fun v5 =>
  BIN 0 .lss v5 (.d (.num .i64 0)) fun v6 =>
  CONDG v6
  (vc_law09_ProofWaste_k4 P pre r post h1 vs0 v4)
  (vc_law09_ProofWaste_k5 P pre r post vs0 h1 v4 next7))
  (LOAD true 3 (nth vs0 2) h1 fun v8 =>
  CALL P f_ref09_Without [v8, (nth vs0 3)] 312 h1 (fun _ v10 h11 =>
  vc_law09_ProofWaste_k16 P pre r post h11 v10 vs0)
  (fun _ _ _ => False))
def vc_law09_ProofWaste_k18 (P : Ctx) (pre : List ABlk) (r : AV) (post : List PB) (v0 : AV) (h4 : Heap) (v6 : AV) (a11 : AV) (a12 : AV) : Prop :=
  EXT v0 0 fun v1 =>
  EXT v0 1 fun v2 =>
  BIN 0 .neq v2 (.d (.num .i64 0)) fun v3 =>
  CONDG v3
  (POST (.d (.bool false)) h4 pre r post)
  (LEN false v1 h4 fun v5 =>
  FADDR 2 v6 h4 fun v7 =>
  LOAD false 1 v7 h4 fun v8 =>
  LEN false v8 h4 fun v9 =>
  BIN 0 .gtr v5 v9 fun v10 =>
  COND v10
  (POST (.d (.bool false)) h4 pre r post)
  (LOOP [a11, a12, v6, v1, (.d (.num .i64 0))] h4 256 fun vs13 h14 next15 =>
  vc_law09_ProofWaste_k17 P pre r post vs13 h14 next15))
def vc_law09_ProofWaste_k19 (P : Ctx) (pre : List ABlk) (r : AV) (post : List PB) (v0 : AV) (h2 : Heap) (v6 : AV) (a11 : AV) (a12 : AV) : Prop :=
  NOT v0 fun v1 =>
  COND v1
  (CALL P f_law09_known [] 112 h2 (fun _ v4 h5 =>
  POST v4 h5 pre r post)
  (fun _ _ _ => False))
  (LOAD true 3 v6 h2 fun v7 =>
  CALL P f_proof_Useless [v7] 120 h2 (fun _ v9 h10 =>
  vc_law09_ProofWaste_k18 P pre r post v9 h10 v6 a11 a12)
  (fun _ _ _ => False))
def vc_law09_ProofWaste_k20 (P : Ctx) (pre : List ABlk) (r : AV) (post : List PB) (v0 : AV) (h2 : Heap) (v6 : AV) (a8 : AV) (a12 : AV) : Prop :=
  NOT v0 fun v1 =>
  CONDG v1
  (CALL P f_law09_known [] 112 h2 (fun _ v4 h5 =>
  POST v4 h5 pre r post)
  (fun _ _ _ => False))
  (LOAD true 3 v6 h2 fun v7 =>
  CALL P f_ref09_Line [v7, a8] 88 h2 (fun _ v10 h11 =>
  vc_law09_ProofWaste_k19 P pre r post v10 h11 v6 a8 a12)
  (fun _ _ _ => False))
def vc_law09_ProofWaste (P : Ctx) (pre : List ABlk) (a0 a1 a2 : AV) (r : AV) (post : List PB) : Prop :=
  let h0 : Heap := numbered 0 pre
  BOX T_api_ProofPage a0 24 h0 fun v3 h1 =>
  LOAD true 3 v3 h1 fun v26 =>
  CALL P f_law09_right [v26] 48 h1 (fun _ v27 h2 =>
  vc_law09_ProofWaste_k20 P pre r post v27 h2 v3 a1 a2)
  (fun _ _ _ => False)
theorem vc_law09_ProofWaste_eq (g : GG) (pre : List ABlk) (a0 a1 a2 : AV) (r : AV) (post : List PB) : vcFn2 (Tz g) false ann_law09_ProofWaste Tryz.f6 pre [a0, a1, a2] (.ret r) post = vc_law09_ProofWaste (Tz g) pre a0 a1 a2 r post := by kernel_rfl
theorem hf_law09_ProofWaste : Tryz.prog.funcs[f_law09_ProofWaste]? = some Tryz.f6 := by kernel_rfl
theorem ok_law09_ProofWaste : fnVcOK Tryz.prog Tryz.f6 = true := by kernel_rfl
theorem nt_law09_ProofWaste : Nat.ble 3 Tryz.f6.ntmps = true := by kernel_rfl
theorem meetsH_law09_ProofWaste {g : GG} {pre : List ABlk} {a0 a1 a2 : AV} {r : AV} {post : List PB} (hk : Nat.ble pre.length 24 = true) (h : vc_law09_ProofWaste (Tz g) pre a0 a1 a2 r post) : MeetsH (Tz g) f_law09_ProofWaste pre [a0, a1, a2] (.ret r) post :=
  meetsH_of_vc (C := Tz g) ann_law09_ProofWaste hf_law09_ProofWaste ok_law09_ProofWaste nt_law09_ProofWaste hk (pn := false) (Eq.mpr ((vcFn2_eq _ _ _ _ _ _ _ _).trans (vc_law09_ProofWaste_eq g pre a0 a1 a2 r post)) h)
theorem meets_law09_ProofWaste {g : GG} {a0 a1 a2 : D} {r : Res} (h : vc_law09_ProofWaste (Tz g) [] (.d a0) (.d a1) (.d a2) r.val (r.bl.map .upd)) : Meets (Tz g) f_law09_ProofWaste [a0, a1, a2] r := meetsH_law09_ProofWaste rfl h
end Go.Vc

namespace Go.Vc
open Go Go.Proofs
variable {g : GG}
attribute [local simp] and_assoc
def pgCel (p : Pg) : Option ABlk := some ⟨0, T_api_ProofPage, .box [.d (int p.people), .d (.list (p.lines.map Ln.d)), .d (.list (p.log.map Nt.d))]⟩
theorem kind_rd {p : Pg} {e : Nt} (he : entB p e = true) : (e.kind = 1 → isRd e = true) ∧ (isRd e = true → e.kind = 1) := by
  rcases entB_cases he with ⟨a, rfl, ha⟩ | ⟨a, b, c, rfl, ha, hb, hc⟩ | ⟨a, b, c, n, rfl, ha, hb, hab, hcn, hn⟩
  · simp [isRd]
  · simp [isRd]
  · simp [isRd]
set_option maxHeartbeats 4000000 in
theorem waste_last (hk : MeetsH (Tz g) f_law09_known [] [] (.ret (.d (.bool true))) []) (p : Pg) (hok : p.ok = true) (e : Nat) (he : e < p.log.length) (h : Heap) (hp : lookH h 24 = pgCel p) :
    LOOP [.d (int e), .ptr 24 0 0 0, .d (ints (uslL p)), .d (int e)] h 1224 fun vs17 h18 next19 => vc_law09_ProofWaste_k8 (Tz g) [] (.d (.bool true)) [] vs17 h18 next19 := by
  obtain ⟨a1, a2, a3, a4, a5, a6, a7⟩ := Pg.ok_len hok
  have hul := uslL_len p
  refine LOOP.mk Nat (fun n => [.d (int e), .ptr 24 0 0 0, .d (ints (uslL p)), .d (int n)]) (fun _ => [(24, pgCel p)]) (fun n => n ≤ p.log.length ∧ ∀ k x, e ≤ k → k < n → p.log[k]? = some x → isRd x = true) (fun n => p.log.length - n) [] (by simp) e ⟨by omega, fun k x h1 h2 => by omega⟩ (by simp [WEAK, hp, ints]) (fun _ _ => rfl) ?_
  rintro n ⟨hn, hall⟩
  have hw := wrap_id (n := (n : Int) + 1) (by omega) (by omega)
  simp [vc_law09_ProofWaste_k8, lookH, pgCel]
  refine ⟨fun hlt => ?_, fun hge => ?_⟩
  · have hg : p.log[n]? = some p.log[n] := List.getElem?_eq_getElem hlt
    generalize p.log[n] = x at hg
    have hx := kind_rd (a7 x (List.mem_of_getElem? hg))
    simp [vc_law09_ProofWaste_k6, lookH, hg, Nt.d, hw]
    refine ⟨fun _ => known_call hk (by simp), fun h => ⟨n + 1, by omega, fun k y h1 h2 h3 => ?_, by simp [WEAK, lookH], by omega⟩⟩
    by_cases hkn : k = n
    · subst hkn
      rw [hg] at h3
      injection h3 with h3
      rw [← h3]
      exact hx.1 h
    · exact hall k y h1 (by omega) h3
  · simp [vc_law09_ProofWaste_k7]
    refine CALL.val [ints (uslL p), int e] _ rfl (ref01_Listed_meets _ _ (by omega)) (.inl rfl) ?_
    have hnot : decide ((e : Int) ∈ uslL p) = false := decide_eq_false (fun h => by
      obtain ⟨k, x, h1, h2, h3⟩ := usl_last hok (in_fltL.1 h).2
      have hkl := (List.getElem?_eq_some_iff.1 h2).1
      have := hall k x (by omega) (by omega) h2
      rw [h3] at this
      cases this)
    rw [hnot]
    simp
    exact known_call hk (by simp)
set_option maxHeartbeats 8000000 in
theorem waste_meets (hg : GOK g) (p : Pg) (line entry : Int) (_ : -9223372036854775808 ≤ line ∧ line ≤ 9223372036854775807) (_ : -9223372036854775808 ≤ entry ∧ entry ≤ 9223372036854775807) : Meets (Tz g) f_law09_ProofWaste [p.d, int line, int entry] ⟨.d (.bool true), []⟩ := by
  have hk := known_meets hg
  refine meets_law09_ProofWaste ?_
  unfold vc_law09_ProofWaste
  simp [Pg.d, lns, ents]
  refine CALL.val [p.d] _ rfl (law09_right_meets p) (.inl rfl) ?_
  cases hr : rightB p with
  | false =>
    simp [vc_law09_ProofWaste_k20]
    exact known_call hk (by simp)
  | true =>
    have hok : p.ok = true := by
      simp only [rightB, Bool.and_eq_true] at hr
      exact hr.2
    obtain ⟨a1, a2, a3, a4, a5, a6, a7⟩ := Pg.ok_len hok
    simp [vc_law09_ProofWaste_k20]
    refine CALL.val [p.d, int line] _ rfl (ref09_Line_meets p line (by omega)) (.inl rfl) ?_
    cases hl : lineB p line with
    | false =>
      simp [vc_law09_ProofWaste_k19]
      exact known_call hk (by simp)
    | true =>
      obtain ⟨k, rfl, hk2⟩ := inB_nat hl
      have hkl : k < p.lines.length := by omega
      have hul := uslL_len p
      obtain ⟨w1, w2, w3, w4, w5⟩ := waste_law hok
      have w4 := w4 k hkl
      have hW := ref09_Without_meets (g := g) p (uslL p) (by omega) (by omega)
      have hnl := nowL_len hok
      have hsl := settersL_len hok
      have hrl := readersP_len p k
      have hlines : (logE p (dropI (uslL p) p.log 0)).lines.length = p.lines.length := rfl
      generalize logE p (dropI (uslL p) p.log 0) = q at *
      simp [vc_law09_ProofWaste_k19]
      refine CALL.mk [p.d] _ rfl (proof_Useless_data p hok) (.inl rfl) (by simp) ?_
      simp [vc_law09_ProofWaste_k18, ints]
      refine ⟨by omega, fun _ => ?_⟩
      refine LOOP.mk Nat (fun i => [.d (int k), .d (int entry), .ptr 24 0 0 0, .d (ints (uslL p)), .d (int i)]) (fun _ => [(24, pgCel p)]) (fun i => i ≤ (uslL p).length) (fun i => (uslL p).length - i) [] (by simp) 0 (by omega) (by simp [WEAK, lookH, ints, pgCel]) (fun _ _ => rfl) ?_
      intro i hi
      have hw := wrap_id (n := (i : Int) + 1) (by omega) (by omega)
      simp [vc_law09_ProofWaste_k17, ints]
      refine ⟨fun hlt => ?_, fun hge => ?_⟩
      · obtain ⟨x, hgx⟩ : ∃ x, (uslL p)[i]? = some x := ⟨_, List.getElem?_eq_getElem hlt⟩
        obtain ⟨n, rfl, hn1, hn2⟩ := fltL_get hgx
        obtain ⟨a, b, c, m, hgn⟩ := usl_rd hok hn2
        have c1 : ¬ ((n : Int) < 0) := by omega
        have c2 : ¬ ((p.log.length : Int) ≤ n) := by omega
        simp [hgx, c1, vc_law09_ProofWaste_k5, lookH, pgCel, c2]
        refine ⟨fun hi0 => ?_, fun hi0 => ?_⟩
        · obtain ⟨j, rfl⟩ : ∃ j, i = j + 1 := ⟨i - 1, by omega⟩
          obtain ⟨y, hgy⟩ : ∃ y, (uslL p)[j]? = some y := ⟨_, List.getElem?_eq_getElem (by omega)⟩
          have hlt2 := fltL_next hgy hgx
          have hwj : IntKind.i64.wrap (j : Int) = j := wrap_id (by omega) (by omega)
          have c4 : (0 : Int) ≤ (j : Int) + 1 := by omega
          have hw : IntKind.i64.wrap ((j : Int) + 1 + 1) = (j : Int) + 1 + 1 := wrap_id (by omega) (by omega)
          have c3 : ¬ ((n : Int) ≤ y) := by omega
          simp [vc_law09_ProofWaste_k2, hgx, hwj, hgy, c3, c4, vc_law09_ProofWaste_k1, lookH, hgn, Nt.d, hw]
          refine ⟨rfl, j + 1 + 1, by omega, ?_, by omega⟩
          simp [WEAK, lookH, ints]
        · simp [vc_law09_ProofWaste_k3, hgx, lookH, hgn, Nt.d, hw]
          exact ⟨rfl, i + 1, by omega, by simp [WEAK, lookH, ints], by omega⟩
      · simp [lookH, pgCel]
        refine CALL.val [p.d, ints (uslL p)] _ (by simp [Pg.d, lns, ents, ints]) hW (.inl rfl) ?_
        simp [vc_law09_ProofWaste_k16, Pg.d, lns, ents, lookH, pgCel]
        refine CALL.mk [p.d] _ rfl (proof_Now_data p hok) (.inl rfl) (by simp) ?_
        simp
        refine CALL.mk [q.d] _ rfl (proof_Now_data q w1) (.inl rfl) (by simp) ?_
        simp [vc_law09_ProofWaste_k15, lookH]
        refine CALL.mk [p.d] _ rfl (proof_Setters_data p hok) (.inl rfl) (by simp) ?_
        simp
        refine CALL.mk [q.d] _ rfl (proof_Setters_data q w1) (.inl rfl) (by simp) ?_
        simp [vc_law09_ProofWaste_k14, lookH]
        refine CALL.mk [p.d, int k] _ rfl (proof_Readers_data p k hok hkl) (.inl rfl) (by simp) ?_
        simp [vc_law09_ProofWaste_k13, lookH]
        refine CALL.mk [q.d, int k] _ rfl (proof_Readers_data q k w1 (by omega)) (.inl rfl) (by simp) ?_
        simp [vc_law09_ProofWaste_k12, lookH]
        refine CALL.mk [q.d] _ rfl (proof_Useless_data q w1) (.inl rfl) (by simp) ?_
        rw [← w2, ← w3, ← w4, w5]
        simp [vc_law09_ProofWaste_k11]
        refine CALL.val [ints (nowL p), ints (nowL p)] _ rfl (ref01_Same_meets _ _ (by omega) (by omega)) (.inl rfl) ?_
        simp [vc_law09_ProofWaste_k10]
        refine CALL.val [ints (settersL p), ints (settersL p)] _ rfl (ref01_Same_meets _ _ (by omega) (by omega)) (.inl rfl) ?_
        simp
        refine CALL.val [ints (readersP p k), ints (readersP p k)] _ rfl (ref01_Same_meets _ _ (by omega) (by omega)) (.inl rfl) ?_
        simp [vc_law09_ProofWaste_k9, ints, lookH]
        refine ⟨fun _ => known_call hk (by simp), fun h0 => ⟨fun _ => known_call hk (by simp), fun h1 => ?_⟩⟩
        obtain ⟨e, rfl⟩ : ∃ e : Nat, entry = e := ⟨entry.toNat, by omega⟩
        exact waste_last hk p hok e (by omega) _ (by simp [lookH, pgCel])
end Go.Vc

namespace Go.Vc
open Go Go.RowKit Go.ChangeShapes Go.WideShapes Go.ChangeAt Go.Proofs Go.Proofs.YtjdgidaoknlnlaaGreatDoor
theorem waste_calls {H : Type} {enc : TypeId × Value → H} (W : World) (base : Nat) (args : Array Value) (ds : List (DataW H)) (ps : List MemPlace) (hval : ∀ (j : Nat) t v, Tryz.f6.params[j]? = some t → args[j]? = some v → Value.okWide Tryz.prog W .any base t v)
    (hA : DataW.TrodAll enc Tryz.prog W 0 (fun _ => true) true Tryz.f6.params.toList args.toList ds ps) (hL : laidMetH Tryz.prog laidL W) (hsh : W.ShapedOpen Tryz.prog) : Calls Tryz.prog 6 args W fun e W' => e = .returned (.bool true) ∧ Below W.heap.size W W' := by
  rw [Tryz.params6] at hA hval
  obtain ⟨v0, v1, v2, d0, d1, d2, p0, p1, p2, rfl, rfl, rfl, h0, h1, h2⟩ := trodAll_three hA
  obtain ⟨x0, g0⟩ := open_page (hval 0 25 v0 rfl rfl) h0
  obtain ⟨x1, g1, b1⟩ := open_int' (hval 1 3 v1 rfl rfl) h1
  obtain ⟨x2, g2, b2⟩ := open_int' (hval 2 3 v2 rfl rfl) h2
  exact law_calls (C := Tz (gW W)) (waste_meets (gok hL hsh) x0 x1 x2 b1 b2) rfl (Below.refl _ _) (us := [v0, v1, v2]) rfl (fun i d u hd hu => by
    match i, hd, hu with
    | 0, hd, hu => simp at hd hu; subst hd; subst hu; exact g0
    | 1, hd, hu => simp at hd hu; subst hd; subst hu; exact g1
    | 2, hd, hu => simp at hd hu; subst hd; subst hu; exact g2
    | i + 3, hd, hu => simp at hd)
theorem waste_lifted (os : Os) (started : os.Started) (H : Type) (enc : TypeId × Value → H) :
    ReturnsInHanded {} Tryz.checked os 6 .any (fun w args => (Rows.proofWasteSpec.pre enc Tryz.prog Tryz.f6 [] false w args ∧ laidMetH Tryz.prog laidL w) ∧ sizedMet enc Tryz.prog Tryz.f6 (OpenSpec.ofChange Rows.proofWasteSpec) false w args)
      (Rows.proofWasteSpec.post enc Tryz.prog Tryz.f6 false true false false) :=
  law_lifted (C := Tryz.checked) (tb := 4) (n := 3) started own (by kernel_rfl) Tryz.func6
    (ChangeSpec.witness_shaped (enc := enc) (C := Tryz.checked) (os := os) (X := fun w _ => laidMetH Tryz.prog laidL w) false (World.laidAll Tryz.prog os laidL) #[.agg #[.int .i64 0, .slice none 0 0, .slice none 0 0], .int .i64 0, .int .i64 0] 8 (World.laidAll_os _ _ _)
      (World.shaped_of_ZipB (by kernel_rfl) (by kernel_rfl)) (by kernel_rfl) (by kernel_rfl) (by kernel_rfl)
      (by rw [MakeChecks.laidMetH_plain _ _ _ (by kernel_rfl)]; exact laidMet_laidAll _ (by kernel_rfl) (by kernel_rfl)))
    laidOut (by kernel_rfl) (by kernel_rfl) Tryz.underlying4 rfl (by kernel_rfl) (fun ds hl => by
      match ds, hl with
      | [a, b, c], _ => rfl) waste_calls
theorem waste_holds : Rows.ProofWasteSaid :=
  OpenClaim.holds_of_wide 6 Tryz.f6 rfl rfl rfl rfl rfl rfl rfl ⟨rfl, rfl, rfl, rfl, rfl⟩ rfl rfl rfl rfl rfl (by kernel_rfl) Tryz.func6 (by kernel_rfl)
    (of_decide_eq_true (by kernel_rfl)) (by unfold Func.isWrapper; first | (rw [if_pos (by decide +kernel)]; kernel_rfl) | (rw [if_neg (by decide +kernel)]; exact ⟨rfl, rfl⟩))
    (fun os started H enc _ => waste_lifted os started H enc)
theorem waste_card : Rows.ProofWasteCardSaid :=
  Claim7.holds_tied_plain_at .later [] [.data, .data, .data, .data, .pinned] true (true, "495f881b3e202b99a64ff79fc2e3da44c1da7b54a021e43e5cad857e0faeda86") true waste_holds (fun _ h => by cases h) (by kernel_rfl) (fun _ h => by cases h) proofWaste_row_tie rfl ⟨rfl, rfl⟩ (by kernel_rfl) rfl
    (fun f fn hf hfn => by
      obtain rfl : f = 6 := Option.some.inj ((show Tryz.prog.funcNamed "ephemerist/ephemeristlaw09.ProofWaste" = some 6 by kernel_rfl).symm.trans hf) |>.symm
      obtain rfl : fn = Tryz.f6 := (Option.some.inj (Tryz.func6.symm.trans hfn)).symm
      exact ⟨by kernel_rfl, fun j t ht => by
        rw [Tryz.params6] at ht
        have hm : t ∈ [25, 3, 3] := by simpa using Array.mem_of_getElem? ht
        have hall : ([25, 3, 3].all fun u => !Tryz.prog.wantsStandIn u) = true := by kernel_rfl
        exact (show Tryz.prog.wantsStandIn t = false by simpa using List.all_eq_true.1 hall t hm)⟩)
    (by kernel_rfl)
end Go.Vc

namespace Go.Proofs.YtjdgidaoknlnlaaGreatDoor
theorem law_ProofWasteCardSaid : Rows.ProofWasteCardSaid := Go.Vc.waste_card
end Go.Proofs.YtjdgidaoknlnlaaGreatDoor
