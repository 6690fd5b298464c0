/- Proves that the statement ProofKindsCardSaid holds of the given program: for every input the law returns true and leaves its arguments as they were; under the row's own conditions, that the listed tables are laid as the program's text has them. -/
import Derived.Test.YtjdgidaoknlnlaaGreatDoorVc23
import Derived.Test.YtjdgidaoknlnlaaGreatDoorVc11
import Derived.Test.YtjdgidaoknlnlaaGreatDoorVc47
import Derived.Test.YtjdgidaoknlnlaaGreatDoorVc26
import Derived.Test.YtjdgidaoknlnlaaGreatDoorVc30
set_option maxRecDepth 100000
namespace Go.Vc
open Go Go.Proofs Go.RowKit
def ann_law09_ProofKinds : Nat → List Nat := fun n => match n with | 10 => [1, 3, 7, 11, 12, 13, 15] | 19 => [7, 11, 16] | _ => []
def vc_law09_ProofKinds_k0 (P : Ctx) (pre : List ABlk) (r : AV) (post : List PB) (vs0 : List AV) (h1 : Heap) (v5 : AV) (next8 : List AV → Heap → Prop) : Prop :=
  CALL P f_ref01_Listed [(nth vs0 5), (nth vs0 6)] 1152 h1 (fun _ v3 h4 =>
  BIN 999 .neq v5 v3 fun v6 =>
  COND v6
  (POST (.d (.bool false)) h4 pre r post)
  (BIN 0 .add (nth vs0 6) (.d (.num .i64 1)) fun v7 =>
  next8 [(nth vs0 0), (nth vs0 1), (nth vs0 2), (nth vs0 3), (nth vs0 4), (nth vs0 5), v7] h4))
  (fun _ _ _ => False)
def vc_law09_ProofKinds_k1 (P : Ctx) (pre : List ABlk) (r : AV) (post : List PB) (h0 : Heap) (vs1 : List AV) (v2 : AV) (v3 : AV) (v4 : AV) (v5 : AV) (v6 : AV) : Prop :=
  ORDX [] [0, 0, 3, 7, 15, 0, 0, 96, 224, 511, 1023, 2047, 2047, 8191, 16383, 32767, 65535, 131071, 262143, 524287, 524287, 2097151, 4194303, 8388607, 16777215, 33554431] [(2, wr h0 h0, (ids (nth vs1 1))), (3, wr h0 h0, (ids v2)), (4, wr h0 h0, (ids v3)), (7, wr h0 h0, (ids (nth vs1 0))), (8, wr h0 h0, (ids v4)), (13, wr h0 h0, (ids (nth vs1 1))), (14, wr h0 h0, (ids v5)), (15, wr h0 h0, (ids v6))] ∧
  POST (.d (.bool false)) h0 pre r post
def vc_law09_ProofKinds_k2 (P : Ctx) (pre : List ABlk) (r : AV) (post : List PB) (vs0 : List AV) (h1 : Heap) (v6 : AV) (v7 : AV) (v8 : AV) (v9 : AV) (v10 : AV) (next12 : List AV → Heap → Prop) : Prop :=
  IADDR 2 T_api_HandsError (nth vs0 1) (nth vs0 2) h1 fun v2 =>
  FADDR 1 v2 h1 fun v3 =>
  LOAD false 1 v3 h1 fun v4 =>
  BIN 0 .gtr v4 (.d (.num .i64 4)) fun v5 =>
  ORDX [] [0, 0, 3, 7, 15, 0, 0, 96, 224, 511, 1023, 2047, 2047, 8191, 16383, 32767, 65535, 131071, 262143, 524287, 524287, 2097151, 4194303, 8388607, 16777215, 33554431] [(2, wr h1 h1, (ids (nth vs0 1))), (3, wr h1 h1, (ids v6)), (4, wr h1 h1, (ids v7)), (7, wr h1 h1, (ids (nth vs0 0))), (8, wr h1 h1, (ids v8)), (13, wr h1 h1, (ids (nth vs0 1))), (14, wr h1 h1, (ids v9)), (15, wr h1 h1, (ids v10)), (21, wr h1 h1, (ids (nth vs0 1))), (22, wr h1 h1, (ids v2)), (23, wr h1 h1, (ids v3))] ∧
  COND v5
  (POST (.d (.bool false)) h1 pre r post)
  (BIN 0 .add (nth vs0 2) (.d (.num .i64 1)) fun v11 =>
  next12 [(nth vs0 0), (nth vs0 1), v11] h1)
def vc_law09_ProofKinds_k3 (P : Ctx) (pre : List ABlk) (r : AV) (post : List PB) (h0 : Heap) (vs1 : List AV) (v2 : AV) (v3 : AV) (v4 : AV) : Prop :=
  ORDX [] [0, 0, 3, 7, 15, 0, 0, 96, 224, 511, 1023, 2047, 2047, 8191, 16383, 32767, 65535, 131071, 262143, 524287, 524287, 2097151, 4194303, 8388607, 16777215, 33554431] [(2, wr h0 h0, (ids (nth vs1 1))), (3, wr h0 h0, (ids v2)), (4, wr h0 h0, (ids v3)), (7, wr h0 h0, (ids (nth vs1 0))), (8, wr h0 h0, (ids v4))] ∧
  POST (.d (.bool false)) h0 pre r post
def vc_law09_ProofKinds_k4 (P : Ctx) (pre : List ABlk) (r : AV) (post : List PB) (vs0 : List AV) (h1 : Heap) (v6 : AV) (v7 : AV) (v8 : AV) (next9 : List AV → Heap → Prop) : Prop :=
  IADDR 2 T_api_HandsError (nth vs0 1) (nth vs0 2) h1 fun v2 =>
  FADDR 1 v2 h1 fun v3 =>
  LOAD false 1 v3 h1 fun v4 =>
  BIN 0 .lss v4 (.d (.num .i64 1)) fun v5 =>
  CONDG v5
  (vc_law09_ProofKinds_k1 P pre r post h1 vs0 v6 v7 v8 v2 v3)
  (vc_law09_ProofKinds_k2 P pre r post vs0 h1 v6 v7 v8 v2 v3 next9)
def vc_law09_ProofKinds_k5 (P : Ctx) (pre : List ABlk) (r : AV) (post : List PB) (vs0 : List AV) (h1 : Heap) (next10 : List AV → Heap → Prop) : Prop :=
  LEN false (nth vs0 0) h1 fun v2 =>
  BIN 0 .lss (nth vs0 2) v2 fun v3 =>
  COND v3
  (IADDR 2 T_api_HandsError (nth vs0 1) (nth vs0 2) h1 fun v4 =>
  FADDR 0 v4 h1 fun v5 =>
  LOAD false 1 v5 h1 fun v6 =>
  IADDR 1 T_int (nth vs0 0) (nth vs0 2) h1 fun v7 =>
  LOAD false 1 v7 h1 fun v8 =>
  BIN 0 .neq v6 v8 fun v9 =>
  CONDG v9
  (vc_law09_ProofKinds_k3 P pre r post h1 vs0 v4 v5 v7)
  (vc_law09_ProofKinds_k4 P pre r post vs0 h1 v4 v5 v7 next10))
  (CALL P f_law09_known [] 1184 h1 (fun _ v12 h13 =>
  POST v12 h13 pre r post)
  (fun _ _ _ => False))
def vc_law09_ProofKinds_k6 (P : Ctx) (pre : List ABlk) (r : AV) (post : List PB) (vs0 : List AV) (h2 : Heap) (next6 : List AV → Heap → Prop) : Prop :=
  BIN 0 .neq (nth vs0 6) (nth vs0 0) fun v1 =>
  CONDG v1
  (CALL P f_ref01_Listed [(nth vs0 2), (nth vs0 6)] 1128 h2 (fun _ v4 h5 =>
  vc_law09_ProofKinds_k0 P pre r post vs0 h5 v4 next6)
  (fun _ _ _ => False))
  (BIN 0 .add (nth vs0 6) (.d (.num .i64 1)) fun v7 =>
  next6 [(nth vs0 0), (nth vs0 1), (nth vs0 2), (nth vs0 3), (nth vs0 4), (nth vs0 5), v7] h2)
def vc_law09_ProofKinds_k7 (P : Ctx) (pre : List ABlk) (r : AV) (post : List PB) (vs0 : List AV) (h2 : Heap) : Prop :=
  BIN 0 .neq (nth vs0 4) (.d (.num .i64 0)) fun v1 =>
  COND v1
  (LEN false (nth vs0 2) h2 fun v3 =>
  BIN 0 .gtr v3 (.d (.num .i64 0)) fun v4 =>
  CONDG v4
  (CALL P f_law09_known [] 1128 h2 (fun _ v6 h7 =>
  POST v6 h7 pre r post)
  (fun _ _ _ => False))
  (POST (.d (.bool false)) h2 pre r post))
  (LEN false (nth vs0 3) h2 fun v8 =>
  LEN false (nth vs0 2) h2 fun v9 =>
  BIN 0 .neq v8 v9 fun v10 =>
  COND v10
  (POST (.d (.bool false)) h2 pre r post)
  (LOOP [(nth vs0 2), (nth vs0 3), (.d (.num .i64 0))] h2 1144 fun vs11 h12 next13 =>
  vc_law09_ProofKinds_k5 P pre r post vs11 h12 next13))
def vc_law09_ProofKinds_k8 (P : Ctx) (pre : List ABlk) (r : AV) (post : List PB) (vs0 : List AV) (h1 : Heap) (next6 : List AV → Heap → Prop) : Prop :=
  FADDR 1 (nth vs0 1) h1 fun v2 =>
  LOAD false 1 v2 h1 fun v3 =>
  LEN false v3 h1 fun v4 =>
  BIN 0 .lss (nth vs0 6) v4 fun v5 =>
  COND v5
  (vc_law09_ProofKinds_k6 P pre r post vs0 h1 next6)
  (vc_law09_ProofKinds_k7 P pre r post vs0 h1)
def vc_law09_ProofKinds_k9 (P : Ctx) (pre : List ABlk) (r : AV) (post : List PB) (h0 : Heap) (v1 : AV) (v2 : AV) (v3 : AV) (v4 : AV) (v5 : AV) (v6 : AV) (v7 : AV) (v8 : AV) (v9 : AV) (v10 : AV) (h11 : Heap) (rd12 : List Nat) (v13 : AV) (v14 : AV) (v15 : AV) (v16 : AV) (v17 : AV) (h18 : Heap) (rd19 : List Nat) (v20 : AV) (a21 : AV) (v22 : AV) (v23 : AV) : Prop :=
  ORDX [] [0, 1, 3, 7, 15, 31, 63, 127, 255, 511, 1023, 2047, 4095, 8191, 16383, 32767, 65535, 131071, 262143, 524287, 1048575, 524287, 2621439, 6815743, 16777215, 33554431, 67108863, 134217727, 268435455, 134217727, 671088639, 1744830463, 4294967295, 8589934591, 17179869183, 34359738367, 68719476735, 34359738367, 171798691839, 446676598783, 1099511627775, 2199023255551, 4398046511103, 8796093022207, 8796093022207, 35184372088831, 8796093022207, 8796093022207, 219902325555199, 501377302265855, 8796093022207, 1134695999864831, 8796093022207, 7890095440920575, 16897294695661567, 34911693205143551, 71996021386772479, 144115188075855871, 288230376151711743, 576460752303423487, 1152921504606846975, 1152921504606846975, 4611686018427387903, 9223372036854775807] [(20, wr h0 h0, (ids v1)), (21, wr h0 h0, (ids v2)), (22, wr h0 h0, (ids v3)), (23, wr h0 h0, (ids v4)), (28, wr h0 h0, (ids v5)), (29, wr h0 h0, (ids v2)), (30, wr h0 h0, (ids v6)), (31, wr h0 h0, (ids v7)), (36, wr h0 h0, (ids v8)), (37, wr h0 h0, (ids v2)), (38, wr h0 h0, (ids v9)), (39, wr h0 h0, (ids v10)), (45, wr h0 h11, rd12), (48, wr h11 h11, (ids v5)), (49, wr h11 h11, (ids v13)), (50, wr h11 h11, (ids v2)), (51, wr h11 h11, (ids v14)), (53, wr h11 h11, (ids v15)), (54, wr h11 h11, (ids v16)), (55, wr h11 h11, (ids v17)), (62, wr h11 h18, rd19)] ∧
  COND v20
  (POST (.d (.bool false)) h18 pre r post)
  (LOOP [a21, v2, v1, v22, v23, v8, (.d (.num .i64 0))] h18 1032 fun vs24 h25 next26 =>
  vc_law09_ProofKinds_k8 P pre r post vs24 h25 next26)
def vc_law09_ProofKinds_k10 (P : Ctx) (pre : List ABlk) (r : AV) (post : List PB) (v0 : AV) (a1 : AV) (h2 : Heap) (v5 : AV) (v12 : AV) (h14 : Heap) (v15 : AV) (v16 : AV) (v17 : AV) (v18 : AV) (v19 : AV) (v20 : AV) (v21 : AV) (v22 : AV) (rd23 : List Nat) (v27 : AV) (v28 : AV) : Prop :=
  IADDR 1 T_int v0 a1 h2 fun v3 =>
  LOAD false 1 v3 h2 fun v4 =>
  FADDR 1 v5 h2 fun v6 =>
  LOAD false 1 v6 h2 fun v7 =>
  IADDR 3 T_api_ProofLine v7 a1 h2 fun v8 =>
  FADDR 1 v8 h2 fun v9 =>
  LOAD false 1 v9 h2 fun v10 =>
  BIN 0 .neq v4 v10 fun v11 =>
  BIN 999 .neq v12 v11 fun v13 =>
  CONDG v13
  (ORDX [] [0, 1, 3, 7, 15, 31, 63, 127, 255, 511, 1023, 2047, 4095, 8191, 16383, 32767, 65535, 131071, 262143, 524287, 1048575, 524287, 2621439, 6815743, 16777215, 33554431, 67108863, 134217727, 268435455, 134217727, 671088639, 1744830463, 4294967295, 8589934591, 17179869183, 34359738367, 68719476735, 34359738367, 171798691839, 446676598783, 1099511627775, 2199023255551, 4398046511103, 8796093022207, 8796093022207, 35184372088831, 8796093022207, 8796093022207, 219902325555199, 501377302265855, 8796093022207, 1134695999864831, 8796093022207, 7890095440920575, 16897294695661567, 34911693205143551, 71996021386772479, 144115188075855871, 288230376151711743, 576460752303423487, 1152921504606846975, 1152921504606846975, 4611686018427387903, 9223372036854775807] [(20, wr h14 h14, (ids v15)), (21, wr h14 h14, (ids v5)), (22, wr h14 h14, (ids v16)), (23, wr h14 h14, (ids v17)), (28, wr h14 h14, (ids v0)), (29, wr h14 h14, (ids v5)), (30, wr h14 h14, (ids v18)), (31, wr h14 h14, (ids v19)), (36, wr h14 h14, (ids v20)), (37, wr h14 h14, (ids v5)), (38, wr h14 h14, (ids v21)), (39, wr h14 h14, (ids v22)), (45, wr h14 h2, rd23), (48, wr h2 h2, (ids v0)), (49, wr h2 h2, (ids v3)), (50, wr h2 h2, (ids v5)), (51, wr h2 h2, (ids v6)), (53, wr h2 h2, (ids v7)), (54, wr h2 h2, (ids v8)), (55, wr h2 h2, (ids v9))] ∧
  POST (.d (.bool false)) h2 pre r post)
  (CALL P f_ref01_Listed [v20, a1] 1008 h2 (fun rd24 v25 h26 =>
  vc_law09_ProofKinds_k9 P pre r post h14 v15 v5 v16 v17 v0 v18 v19 v20 v21 v22 h2 rd23 v3 v6 v7 v8 v9 h26 rd24 v25 a1 v27 v28)
  (fun _ _ _ => False))
def vc_law09_ProofKinds_k11 (P : Ctx) (pre : List ABlk) (r : AV) (post : List PB) (h0 : Heap) (v1 : AV) (v2 : AV) (v3 : AV) (v4 : AV) (v5 : AV) (v6 : AV) (v7 : AV) : Prop :=
  ORDX [] [0, 1, 3, 7, 15, 31, 63, 127, 255, 511, 1023, 2047, 4095, 8191, 16383, 32767, 65535, 131071, 262143, 524287, 1048575, 524287, 2621439, 6815743, 16777215, 33554431, 67108863, 134217727, 268435455, 134217727, 671088639, 1744830463, 4294967295, 8589934591, 17179869183, 34359738367, 68719476735, 34359738367, 171798691839, 446676598783, 1099511627775, 2199023255551, 4398046511103, 8796093022207, 8796093022207, 35184372088831, 8796093022207, 8796093022207, 219902325555199, 501377302265855, 8796093022207, 1134695999864831, 8796093022207, 7890095440920575, 16897294695661567, 34911693205143551, 71996021386772479, 144115188075855871, 288230376151711743, 576460752303423487, 1152921504606846975, 1152921504606846975, 4611686018427387903, 9223372036854775807] [(20, wr h0 h0, (ids v1)), (21, wr h0 h0, (ids v2)), (22, wr h0 h0, (ids v3)), (23, wr h0 h0, (ids v4)), (28, wr h0 h0, (ids v5)), (29, wr h0 h0, (ids v2)), (30, wr h0 h0, (ids v6)), (31, wr h0 h0, (ids v7))] ∧
  POST (.d (.bool false)) h0 pre r post
def vc_law09_ProofKinds_k12 (P : Ctx) (pre : List ABlk) (r : AV) (post : List PB) (v0 : AV) (h1 : Heap) (v3 : AV) (v8 : AV) (v9 : AV) (v10 : AV) (v11 : AV) (v12 : AV) (v13 : AV) (a14 : AV) (v18 : AV) (v19 : AV) : Prop :=
  LEN false v0 h1 fun v2 =>
  FADDR 1 v3 h1 fun v4 =>
  LOAD false 1 v4 h1 fun v5 =>
  LEN false v5 h1 fun v6 =>
  BIN 0 .gtr v2 v6 fun v7 =>
  CONDG v7
  (ORDX [] [0, 1, 3, 7, 15, 31, 63, 127, 255, 511, 1023, 2047, 4095, 8191, 16383, 32767, 65535, 131071, 262143, 524287, 1048575, 524287, 2621439, 6815743, 16777215, 33554431, 67108863, 134217727, 268435455, 134217727, 671088639, 1744830463, 4294967295, 8589934591, 17179869183, 34359738367, 68719476735, 34359738367, 171798691839, 446676598783, 1099511627775, 2199023255551, 4398046511103, 8796093022207, 8796093022207, 35184372088831, 8796093022207, 8796093022207, 219902325555199, 501377302265855, 8796093022207, 1134695999864831, 8796093022207, 7890095440920575, 16897294695661567, 34911693205143551, 71996021386772479, 144115188075855871, 288230376151711743, 576460752303423487, 1152921504606846975, 1152921504606846975, 4611686018427387903, 9223372036854775807] [(20, wr h1 h1, (ids v8)), (21, wr h1 h1, (ids v3)), (22, wr h1 h1, (ids v9)), (23, wr h1 h1, (ids v10)), (28, wr h1 h1, (ids v11)), (29, wr h1 h1, (ids v3)), (30, wr h1 h1, (ids v12)), (31, wr h1 h1, (ids v13)), (36, wr h1 h1, (ids v0)), (37, wr h1 h1, (ids v3)), (38, wr h1 h1, (ids v4)), (39, wr h1 h1, (ids v5))] ∧
  POST (.d (.bool false)) h1 pre r post)
  (CALL P f_ref01_Listed [v8, a14] 872 h1 (fun rd15 v16 h17 =>
  vc_law09_ProofKinds_k10 P pre r post v11 a14 h17 v3 v16 h1 v8 v9 v10 v12 v13 v0 v4 v5 rd15 v18 v19)
  (fun _ _ _ => False))
def vc_law09_ProofKinds_k13 (P : Ctx) (pre : List ABlk) (r : AV) (post : List PB) (h0 : Heap) (v1 : AV) (v2 : AV) (v3 : AV) (v4 : AV) : Prop :=
  ORDX [] [0, 1, 3, 7, 15, 31, 63, 127, 255, 511, 1023, 2047, 4095, 8191, 16383, 32767, 65535, 131071, 262143, 524287, 1048575, 524287, 2621439, 6815743, 16777215, 33554431, 67108863, 134217727, 268435455, 134217727, 671088639, 1744830463, 4294967295, 8589934591, 17179869183, 34359738367, 68719476735, 34359738367, 171798691839, 446676598783, 1099511627775, 2199023255551, 4398046511103, 8796093022207, 8796093022207, 35184372088831, 8796093022207, 8796093022207, 219902325555199, 501377302265855, 8796093022207, 1134695999864831, 8796093022207, 7890095440920575, 16897294695661567, 34911693205143551, 71996021386772479, 144115188075855871, 288230376151711743, 576460752303423487, 1152921504606846975, 1152921504606846975, 4611686018427387903, 9223372036854775807] [(20, wr h0 h0, (ids v1)), (21, wr h0 h0, (ids v2)), (22, wr h0 h0, (ids v3)), (23, wr h0 h0, (ids v4))] ∧
  POST (.d (.bool false)) h0 pre r post
def vc_law09_ProofKinds_k14 (P : Ctx) (pre : List ABlk) (r : AV) (post : List PB) (v0 : AV) (h1 : Heap) (v3 : AV) (v8 : AV) (v9 : AV) (v10 : AV) (v11 : AV) (a12 : AV) (v13 : AV) (v14 : AV) : Prop :=
  LEN false v0 h1 fun v2 =>
  FADDR 1 v3 h1 fun v4 =>
  LOAD false 1 v4 h1 fun v5 =>
  LEN false v5 h1 fun v6 =>
  BIN 0 .neq v2 v6 fun v7 =>
  CONDG v7
  (vc_law09_ProofKinds_k11 P pre r post h1 v8 v3 v9 v10 v0 v4 v5)
  (vc_law09_ProofKinds_k12 P pre r post v11 h1 v3 v8 v9 v10 v0 v4 v5 a12 v13 v14)
def vc_law09_ProofKinds_k15 (P : Ctx) (pre : List ABlk) (r : AV) (post : List PB) (h0 : Heap) : Prop :=
  ORDX [] [0, 1, 3, 7, 15, 31, 63, 127, 255, 511, 1023, 2047, 4095, 8191, 16383, 32767, 65535, 131071, 262143, 524287, 1048575, 524287, 2621439, 6815743, 16777215, 33554431, 67108863, 134217727, 268435455, 134217727, 671088639, 1744830463, 4294967295, 8589934591, 17179869183, 34359738367, 68719476735, 34359738367, 171798691839, 446676598783, 1099511627775, 2199023255551, 4398046511103, 8796093022207, 8796093022207, 35184372088831, 8796093022207, 8796093022207, 219902325555199, 501377302265855, 8796093022207, 1134695999864831, 8796093022207, 7890095440920575, 16897294695661567, 34911693205143551, 71996021386772479, 144115188075855871, 288230376151711743, 576460752303423487, 1152921504606846975, 1152921504606846975, 4611686018427387903, 9223372036854775807] [] ∧
  POST (.d (.bool false)) h0 pre r post
def vc_law09_ProofKinds_k16 (P : Ctx) (pre : List ABlk) (r : AV) (post : List PB) (v0 : AV) (h1 : Heap) (v3 : AV) (v8 : AV) (v9 : AV) (a10 : AV) (v11 : AV) (v12 : AV) : Prop :=
  LEN false v0 h1 fun v2 =>
  FADDR 1 v3 h1 fun v4 =>
  LOAD false 1 v4 h1 fun v5 =>
  LEN false v5 h1 fun v6 =>
  BIN 0 .gtr v2 v6 fun v7 =>
  CONDG v7
  (vc_law09_ProofKinds_k13 P pre r post h1 v0 v3 v4 v5)
  (vc_law09_ProofKinds_k14 P pre r post v8 h1 v3 v0 v4 v5 v9 a10 v11 v12)
def vc_law09_ProofKinds_k17 (P : Ctx) (pre : List ABlk) (r : AV) (post : List PB) (v0 : AV) (h3 : Heap) (v4 : AV) (v6 : AV) (v7 : AV) (v8 : AV) (v9 : AV) (a10 : AV) (v11 : AV) : Prop :=
  BIN 0 .neq v0 (.d (.num .i64 0)) fun v1 =>
  CONDG v1
  (BIN 0 .neq v0 (.d (.num .i64 5)) fun v2 =>
  CONDG v2
  (ORDX [] [0, 1, 3, 7, 15, 31, 63, 127, 255, 511, 1023, 2047, 4095, 8191, 16383, 32767, 65535, 131071, 262143, 524287, 1048575, 524287, 2621439, 6815743, 16777215, 33554431, 67108863, 134217727, 268435455, 134217727, 671088639, 1744830463, 4294967295, 8589934591, 17179869183, 34359738367, 68719476735, 34359738367, 171798691839, 446676598783, 1099511627775, 2199023255551, 4398046511103, 8796093022207, 8796093022207, 35184372088831, 8796093022207, 8796093022207, 219902325555199, 501377302265855, 8796093022207, 1134695999864831, 8796093022207, 7890095440920575, 16897294695661567, 34911693205143551, 71996021386772479, 144115188075855871, 288230376151711743, 576460752303423487, 1152921504606846975, 1152921504606846975, 4611686018427387903, 9223372036854775807] [] ∧
  POST (.d (.bool false)) h3 pre r post)
  (BIN 0 .neq v4 (.d (.num .i64 0)) fun v5 =>
  CONDG v5
  (vc_law09_ProofKinds_k15 P pre r post h3)
  (vc_law09_ProofKinds_k16 P pre r post v6 h3 v7 v8 v9 a10 v11 v0)))
  (BIN 0 .neq v4 (.d (.num .i64 0)) fun v5 =>
  CONDG v5
  (vc_law09_ProofKinds_k15 P pre r post h3)
  (vc_law09_ProofKinds_k16 P pre r post v6 h3 v7 v8 v9 a10 v11 v0))
def vc_law09_ProofKinds_k18 (P : Ctx) (pre : List ABlk) (r : AV) (post : List PB) (v0 : AV) (h3 : Heap) (v4 : AV) (v5 : AV) (v6 : AV) (v7 : AV) (v8 : AV) (h9 : Heap) (rd10 : List Nat) (h11 : Heap) (rd12 : List Nat) (h13 : Heap) (rd14 : List Nat) (v15 : AV) (v17 : AV) (v19 : AV) (v20 : AV) (v21 : AV) (a22 : AV) (v23 : AV) : Prop :=
  EXT v0 0 fun v1 =>
  EXT v0 1 fun v2 =>
  ORDX [] [0, 0, 0, 0, 8, 0, 56, 120, 248, 510, 1023, 2047, 4095, 8191, 8191, 16383, 65535] [(0, wr h3 h3, (ids v4)), (3, wr h3 h3, (ids v4)), (4, wr h3 h3, (ids v5)), (6, wr h3 h3, (ids v6)), (7, wr h3 h3, (ids v7)), (8, wr h3 h3, (ids v8)), (9, wr h3 h9, rd10), (10, wr h9 h11, rd12), (11, wr h11 h13, rd14)] ∧
  BIN 0 .neq v15 (.d (.num .i64 0)) fun v16 =>
  CONDG v16
  (ORDX [] [0, 1, 3, 7, 15, 31, 63, 127, 255, 511, 1023, 2047, 4095, 8191, 16383, 32767, 65535, 131071, 262143, 524287, 1048575, 524287, 2621439, 6815743, 16777215, 33554431, 67108863, 134217727, 268435455, 134217727, 671088639, 1744830463, 4294967295, 8589934591, 17179869183, 34359738367, 68719476735, 34359738367, 171798691839, 446676598783, 1099511627775, 2199023255551, 4398046511103, 8796093022207, 8796093022207, 35184372088831, 8796093022207, 8796093022207, 219902325555199, 501377302265855, 8796093022207, 1134695999864831, 8796093022207, 7890095440920575, 16897294695661567, 34911693205143551, 71996021386772479, 144115188075855871, 288230376151711743, 576460752303423487, 1152921504606846975, 1152921504606846975, 4611686018427387903, 9223372036854775807] [] ∧
  POST (.d (.bool false)) h13 pre r post)
  (BIN 0 .neq v17 (.d (.num .i64 0)) fun v18 =>
  CONDG v18
  (vc_law09_ProofKinds_k15 P pre r post h13)
  (vc_law09_ProofKinds_k17 P pre r post v19 h13 v2 v20 v4 v21 v1 a22 v23))
def vc_law09_ProofKinds_k19 (P : Ctx) (pre : List ABlk) (r : AV) (post : List PB) (v0 : AV) (v1 : AV) (h2 : Heap) (h9 : Heap) (v10 : AV) (v11 : AV) (v12 : AV) (v13 : AV) (v14 : AV) (rd15 : List Nat) (v16 : AV) (v17 : AV) (v18 : AV) (v19 : AV) (v20 : AV) (a21 : AV) (v22 : AV) : Prop :=
  CALL P f_ref09_With [v0, v1] 456 h2 (fun rd3 v4 h5 =>
  CALL P f_proof_Differs [v4] 464 h5 (fun rd6 v7 h8 =>
  vc_law09_ProofKinds_k18 P pre r post v7 h9 v10 v11 v12 v13 v14 h2 rd15 h5 rd3 h8 rd6 v16 v17 v18 v19 v20 a21 v22)
  (fun _ _ _ => False))
  (fun _ _ _ => False)
def vc_law09_ProofKinds_k20 (P : Ctx) (pre : List ABlk) (r : AV) (post : List PB) (v0 : AV) (v3 : AV) (h4 : Heap) (a8 : AV) (a12 : AV) (v16 : AV) (v17 : AV) (v18 : AV) (v19 : AV) : Prop :=
  EXT v0 0 fun v1 =>
  EXT v0 1 fun v2 =>
  LOAD true 3 v3 h4 fun v5 =>
  FADDR 1 v3 h4 fun v6 =>
  LOAD false 1 v6 h4 fun v7 =>
  IADDR 3 T_api_ProofLine v7 a8 h4 fun v9 =>
  FADDR 1 v9 h4 fun v10 =>
  LOAD false 1 v10 h4 fun v11 =>
  CALL P f_law09_mend [a12, a8, v11] 448 h4 (fun rd13 v14 h15 =>
  vc_law09_ProofKinds_k19 P pre r post v5 v14 h15 h4 v3 v6 v7 v9 v10 rd13 v16 v17 v2 v18 v19 a8 v1)
  (fun _ _ _ => False)
def vc_law09_ProofKinds_k21 (P : Ctx) (pre : List ABlk) (r : AV) (post : List PB) (v0 : AV) (v3 : AV) (h4 : Heap) (a15 : AV) (a16 : AV) : Prop :=
  EXT v0 0 fun v1 =>
  EXT v0 1 fun v2 =>
  LOAD true 3 v3 h4 fun v5 =>
  CALL P f_proof_Now [v5] 272 h4 (fun _ v7 h8 =>
  EXT v7 0 fun v9 =>
  EXT v7 1 fun v10 =>
  LOAD true 3 v3 h8 fun v11 =>
  CALL P f_proof_Errors [v11] 328 h8 (fun _ v13 h14 =>
  vc_law09_ProofKinds_k20 P pre r post v13 v3 h14 a15 a16 v2 v10 v1 v9)
  (fun _ _ _ => False))
  (fun _ _ _ => False)
def vc_law09_ProofKinds_k22 (P : Ctx) (pre : List ABlk) (r : AV) (post : List PB) (v0 : AV) (h2 : Heap) (v6 : AV) (a11 : AV) (a12 : AV) : Prop :=
  NOT v0 fun v1 =>
  COND v1
  (CALL P f_law09_known [] 208 h2 (fun _ v4 h5 =>
  POST v4 h5 pre r post)
  (fun _ _ _ => False))
  (LOAD true 3 v6 h2 fun v7 =>
  CALL P f_proof_Differs [v7] 216 h2 (fun _ v9 h10 =>
  vc_law09_ProofKinds_k21 P pre r post v9 v6 h10 a11 a12)
  (fun _ _ _ => False))
def vc_law09_ProofKinds_k23 (P : Ctx) (pre : List ABlk) (r : AV) (post : List PB) (v0 : AV) (h2 : Heap) (v6 : AV) (a8 : AV) (a12 : AV) : Prop :=
  NOT v0 fun v1 =>
  CONDG v1
  (CALL P f_law09_known [] 208 h2 (fun _ v4 h5 =>
  POST v4 h5 pre r post)
  (fun _ _ _ => False))
  (LOAD true 3 v6 h2 fun v7 =>
  CALL P f_ref09_Person [v7, a8] 184 h2 (fun _ v10 h11 =>
  vc_law09_ProofKinds_k22 P pre r post v10 h11 v6 a12 a8)
  (fun _ _ _ => False))
def vc_law09_ProofKinds_k24 (P : Ctx) (pre : List ABlk) (r : AV) (post : List PB) (v0 : AV) (h2 : Heap) (v6 : AV) (a14 : AV) (a18 : AV) : Prop :=
  NOT v0 fun v1 =>
  CONDG v1
  (CALL P f_law09_known [] 208 h2 (fun _ v4 h5 =>
  POST v4 h5 pre r post)
  (fun _ _ _ => False))
  (FADDR 2 v6 h2 fun v7 =>
  LOAD false 1 v7 h2 fun v8 =>
  LEN false v8 h2 fun v9 =>
  BIN 0 .geq v9 (.d (.num .i64 10)) fun v10 =>
  CONDG v10
  (CALL P f_law09_known [] 208 h2 (fun _ v4 h12 =>
  POST v4 h12 pre r post)
  (fun _ _ _ => False))
  (LOAD true 3 v6 h2 fun v13 =>
  CALL P f_ref09_Line [v13, a14] 136 h2 (fun _ v16 h17 =>
  vc_law09_ProofKinds_k23 P pre r post v16 h17 v6 a18 a14)
  (fun _ _ _ => False)))
def vc_law09_ProofKinds (P : Ctx) (pre : List ABlk) (a0 a1 a2 : AV) (r : AV) (post : List PB) : Prop :=
  let h0 : Heap := numbered 0 pre
  BOX T_api_ProofPage a0 24 h0 fun v3 h1 =>
  LOAD true 3 v3 h1 fun v17 =>
  CALL P f_law09_right [v17] 48 h1 (fun _ v18 h2 =>
  vc_law09_ProofKinds_k24 P pre r post v18 h2 v3 a1 a2)
  (fun _ _ _ => False)
theorem vc_law09_ProofKinds_eq (g : GG) (pre : List ABlk) (a0 a1 a2 : AV) (r : AV) (post : List PB) : vcFn2 (Tz g) false ann_law09_ProofKinds Tryz.f4 pre [a0, a1, a2] (.ret r) post = vc_law09_ProofKinds (Tz g) pre a0 a1 a2 r post := by kernel_rfl
theorem hf_law09_ProofKinds : Tryz.prog.funcs[f_law09_ProofKinds]? = some Tryz.f4 := by kernel_rfl
theorem ok_law09_ProofKinds : fnVcOK Tryz.prog Tryz.f4 = true := by kernel_rfl
theorem nt_law09_ProofKinds : Nat.ble 3 Tryz.f4.ntmps = true := by kernel_rfl
theorem meetsH_law09_ProofKinds {g : GG} {pre : List ABlk} {a0 a1 a2 : AV} {r : AV} {post : List PB} (hk : Nat.ble pre.length 24 = true) (h : vc_law09_ProofKinds (Tz g) pre a0 a1 a2 r post) : MeetsH (Tz g) f_law09_ProofKinds pre [a0, a1, a2] (.ret r) post :=
  meetsH_of_vc (C := Tz g) ann_law09_ProofKinds hf_law09_ProofKinds ok_law09_ProofKinds nt_law09_ProofKinds hk (pn := false) (Eq.mpr ((vcFn2_eq _ _ _ _ _ _ _ _).trans (vc_law09_ProofKinds_eq g pre a0 a1 a2 r post)) h)
theorem meets_law09_ProofKinds {g : GG} {a0 a1 a2 : D} {r : Res} (h : vc_law09_ProofKinds (Tz g) [] (.d a0) (.d a1) (.d a2) r.val (r.bl.map .upd)) : Meets (Tz g) f_law09_ProofKinds [a0, a1, a2] r := meetsH_law09_ProofKinds rfl h
end Go.Vc

namespace Go.Vc
open Go Go.Proofs
variable {g : GG}
attribute [local simp] and_assoc
theorem kinds_end (hk : MeetsH (Tz g) f_law09_known [] [] (.ret (.d (.bool true))) []) (d : List Int) (x : List (Int × Int)) (h : Heap) (hd : d.length ≤ 6) (h1 : x.map Prod.fst = d) (h2 : ∀ e, e ∈ x → 1 ≤ e.2 ∧ e.2 ≤ 4) :
    LOOP [.d (ints d), .d (.list (x.map errD)), .d (int 0)] h 1144 fun vs11 h12 next13 => vc_law09_ProofKinds_k5 (Tz g) [] (.d (.bool true)) [] vs11 h12 next13 := by
  have hlx : x.length = d.length := by rw [← h1]; simp
  refine LOOP.mk Nat (fun k => [.d (ints d), .d (.list (x.map errD)), .d (int k)]) (fun _ => []) (fun k => k ≤ d.length) (fun k => d.length - k) [] (by simp) 0 (by omega) (by simp [WEAK]) (fun _ _ => rfl) ?_
  intro k hkk
  have hw := wrap_id (n := (k : Int) + 1) (by omega) (by omega)
  simp [vc_law09_ProofKinds_k5, ints]
  constructor
  · intro hlt
    obtain ⟨e, hg⟩ : ∃ e, x[k]? = some e := ⟨_, List.getElem?_eq_getElem (show k < x.length by omega)⟩
    have hb := h2 e (List.mem_of_getElem? hg)
    have hd2 : (x.map Prod.fst)[k]? = some e.1 := by rw [List.getElem?_map, hg]; rfl
    rw [h1] at hd2
    obtain ⟨e1, e2⟩ := e
    simp only at hb hd2
    have b1 : ¬ e2 < 1 := by omega
    have b2 : ¬ 4 < e2 := by omega
    simp [hg, errD, hd2, vc_law09_ProofKinds_k4, vc_law09_ProofKinds_k2, vc_law09_ProofKinds_k3, b1, b2, hw]
    exact ⟨rfl, k + 1, by omega, by simp [WEAK], by omega⟩
  · intro hge
    exact known_call hk (by simp)
set_option maxHeartbeats 8000000 in
theorem kinds_meets (hg : GOK g) (p : Pg) (line b : Int) (_ : -9223372036854775808 ≤ line ∧ line ≤ 9223372036854775807) (_ : -9223372036854775808 ≤ b ∧ b ≤ 9223372036854775807) : Meets (Tz g) f_law09_ProofKinds [p.d, int line, int b] ⟨.d (.bool true), []⟩ := by
  have hk := known_meets hg
  refine meets_law09_ProofKinds ?_
  unfold vc_law09_ProofKinds
  simp [Pg.d, lns, ents]
  refine CALL.val [p.d] _ rfl (law09_right_meets p) (.inl rfl) ?_
  cases hr : rightB p with
  | false =>
    simp [vc_law09_ProofKinds_k24]
    exact known_call hk (by simp)
  | true =>
    have hok : p.ok = true := by
      simp only [rightB, Bool.and_eq_true] at hr
      exact hr.2
    obtain ⟨a1, a2, a3, a4, a5, a6, a7⟩ := Pg.ok_len hok
    simp [vc_law09_ProofKinds_k24]
    refine ⟨fun _ => known_call hk (by simp), fun hlog => ?_⟩
    refine CALL.val [p.d, int line] _ rfl (ref09_Line_meets p line (by omega)) (.inl rfl) ?_
    cases hl : lineB p line with
    | false =>
      simp [vc_law09_ProofKinds_k23]
      exact known_call hk (by simp)
    | true =>
      obtain ⟨k, rfl, hk2⟩ := inB_nat hl
      have hkl : k < p.lines.length := by omega
      simp [vc_law09_ProofKinds_k23]
      refine CALL.val [p.d, int b] _ rfl (ref09_Person_meets p b (by omega)) (.inl rfl) ?_
      cases hb : persB p b with
      | false =>
        simp [vc_law09_ProofKinds_k22]
        exact known_call hk (by simp)
      | true =>
        obtain ⟨ln, hln⟩ : ∃ ln, p.lines[k]? = some ln := ⟨_, List.getElem?_eq_getElem hkl⟩
        have hrk : rightL p k = ln.right := rightL_at hln
        have hlb := a6 ln (List.mem_of_getElem? hln)
        have hent : entB p ⟨2, [b, (k : Int), ln.right]⟩ = true := by
          simp [lnB] at hlb
          simp [entB, hb, hl, hlb]
        have hwok := withE_ok hok hent (by omega)
        have hmd := fun j hj => mend_dif (b := b) hok hkl (by rw [hrk]; exact hent) j hj
        rw [hrk] at hmd
        have hW := ref09_With_meets (g := g) p ⟨2, [b, (k : Int), ln.right]⟩ (by omega)
        have hD2 := proof_Differs_data (g := g) _ hwok
        have hmem2 : ∀ j : Nat, j < p.lines.length → decide ((j : Int) ∈ difL (withE p ⟨2, [b, (k : Int), ln.right]⟩)) = (!decide (j = k) && decide ((j : Int) ∈ difL p)) := fun j hj => by
          have e1 : decide ((j : Int) ∈ difL p) = difB p (stN p p.log.length) j := by
            have := in_fltL (f := difB p (stN p p.log.length)) (m := p.lines.length) (k := j)
            unfold difL
            cases hd : difB p (stN p p.log.length) j with
            | true => exact decide_eq_true (this.2 ⟨hj, hd⟩)
            | false => exact decide_eq_false (fun h => by rw [hd] at this; exact absurd (this.1 h).2 (by simp))
          have e2 : decide ((j : Int) ∈ difL (withE p ⟨2, [b, (k : Int), ln.right]⟩)) = difB (withE p ⟨2, [b, (k : Int), ln.right]⟩) (stN (withE p ⟨2, [b, (k : Int), ln.right]⟩) (withE p ⟨2, [b, (k : Int), ln.right]⟩).log.length) j := by
            have := in_fltL (f := difB (withE p ⟨2, [b, (k : Int), ln.right]⟩) (stN (withE p ⟨2, [b, (k : Int), ln.right]⟩) (withE p ⟨2, [b, (k : Int), ln.right]⟩).log.length)) (m := p.lines.length) (k := j)
            unfold difL
            cases hd : difB (withE p ⟨2, [b, (k : Int), ln.right]⟩) (stN (withE p ⟨2, [b, (k : Int), ln.right]⟩) (withE p ⟨2, [b, (k : Int), ln.right]⟩).log.length) j with
            | true => exact decide_eq_true (this.2 ⟨hj, hd⟩)
            | false => exact decide_eq_false (fun h => by rw [hd] at this; exact absurd (this.1 h).2 (by simp))
          rw [e1, e2]
          exact hmd j hj
        have hmemk : decide ((k : Int) ∈ difL p) = !decide ((nowL p).getD k 0 = ln.right) := by
          have := in_fltL (f := difB p (stN p p.log.length)) (m := p.lines.length) (k := k)
          have e : difB p (stN p p.log.length) k = !decide ((nowL p).getD k 0 = ln.right) := by
            unfold difB; rw [hrk]; rfl
          rw [← e]
          unfold difL
          cases hd : difB p (stN p p.log.length) k with
          | true => exact decide_eq_true (this.2 ⟨hkl, hd⟩)
          | false => exact decide_eq_false (fun h => by rw [hd] at this; exact absurd (this.1 h).2 (by simp))
        have hdl := difL_len p
        have hdl2 : (difL (withE p ⟨2, [b, (k : Int), ln.right]⟩)).length ≤ p.lines.length := difL_len _
        have hel := err_law hok
        have hnl := nowL_len hok
        have hnk : (nowL p)[k]? = some ((nowL p).getD k 0) := getD_some (by omega)
        generalize difL (withE p ⟨2, [b, (k : Int), ln.right]⟩) = M at *
        simp [vc_law09_ProofKinds_k22]
        refine CALL.mk [p.d] _ rfl (proof_Differs_data p hok) (.inl rfl) (by simp) ?_
        simp [vc_law09_ProofKinds_k21]
        refine CALL.mk [p.d] _ rfl (proof_Now_data p hok) (.inl rfl) (by simp) ?_
        simp
        refine CALL.mk [p.d] _ rfl (proof_Errors_data p hok) (.inl rfl) (by simp) ?_
        simp [vc_law09_ProofKinds_k20, hln, Ln.d]
        refine CALL.val [int b, int k, int ln.right] _ rfl (law09_mend_meets _ _ _) (.inl rfl) ?_
        simp [vc_law09_ProofKinds_k19]
        refine CALL.val [p.d, (⟨2, [b, (k : Int), ln.right]⟩ : Nt).d] _ (by simp [Nt.d, ints, Pg.d, lns, ents]) hW (.inl rfl) ?_
        refine CALL.mk [(withE p ⟨2, [b, (k : Int), ln.right]⟩).d] _ rfl hD2 (.inl rfl) (by simp) ?_
        simp [vc_law09_ProofKinds_k18]
        refine ⟨rfl, ?_⟩
        have hend : vc_law09_ProofKinds_k16 (Tz g) [] (.d (.bool true)) [] (.d (ints (difL p))) [(24, some ⟨0, T_api_ProofPage, .box [.d (int p.people), .d (.list (p.lines.map Ln.d)), .d (.list (p.log.map Nt.d))]⟩)] (.ptr 24 0 0 0) (.d (ints (nowL p))) (.d (ints M)) (.d (int (k : Int))) (.d (.list ((errLP p).map errD))) (.d (int (errCP p))) := by
          have h1 : ¬ (p.lines.length < (difL p).length) := by omega
          have h2 : ¬ (p.lines.length < M.length) := by omega
          simp [vc_law09_ProofKinds_k16, ints, vc_law09_ProofKinds_k14, hnl, vc_law09_ProofKinds_k12, vc_law09_ProofKinds_k13]
          refine ⟨hdl, fun _ => ⟨hdl2, fun _ => ?_⟩⟩
          refine CALL.val [ints (difL p), int k] _ rfl (ref01_Listed_meets _ _ (by omega)) (.inl rfl) ?_
          rw [hmemk]
          unfold vc_law09_ProofKinds_k10
          refine R_IADDRd (x := int ((nowL p).getD k 0)) (by rw [List.getElem?_map, hnk]; rfl) rfl ?_
          refine R_LOADc rfl ?_
          refine R_FADDR rfl ?_
          refine R_LOADb rfl rfl ?_
          refine R_IADDRd (x := ln.d) (by rw [List.getElem?_map, hln]; rfl) rfl ?_
          refine R_FADDRc ?_
          refine R_LOADc rfl ?_
          refine R_BIN rfl ?_
          refine R_BIN rfl ?_
          rw [CONDG_b]
          refine ⟨fun h => by simp at h, fun _ => ?_⟩
          refine CALL.val [ints M, int k] _ rfl (ref01_Listed_meets _ _ (by omega)) (.inl rfl) ?_
          rw [hmem2 k hkl]
          unfold vc_law09_ProofKinds_k9
          refine ⟨rfl, ?_⟩
          simp
          refine LOOP.mk Nat (fun i => [.d (int k), .ptr 24 0 0 0, .d (ints (difL p)), .d (.list ((errLP p).map errD)), .d (int (errCP p)), .d (ints M), .d (int i)]) (fun _ => [(24, some ⟨0, T_api_ProofPage, .box [.d (int p.people), .d (.list (p.lines.map Ln.d)), .d (.list (p.log.map Nt.d))]⟩)]) (fun i => i ≤ p.lines.length) (fun i => p.lines.length - i) [] (by simp) 0 (by omega) (by simp [WEAK, ints]) (fun _ _ => rfl) ?_
          intro i hi
          have hw := wrap_id (n := (i : Int) + 1) (by omega) (by omega)
          simp [vc_law09_ProofKinds_k8, lookH]
          refine ⟨fun hlt => ?_, fun hge => ?_⟩
          · simp [vc_law09_ProofKinds_k6, hw]
            refine ⟨fun hne => ?_, fun heq => ⟨i + 1, by omega, by simp [WEAK, lookH], by omega⟩⟩
            refine CALL.val [ints (difL p), int i] _ rfl (ref01_Listed_meets _ _ (by omega)) (.inl rfl) ?_
            simp only [vc_law09_ProofKinds_k0]
            refine CALL.val [ints M, int i] _ rfl (ref01_Listed_meets _ _ (by omega)) (.inl rfl) ?_
            rw [hmem2 i hlt, decide_eq_false (show ¬ i = k by omega)]
            simp [hw]
            exact ⟨i + 1, by omega, by simp [WEAK, lookH], by omega⟩
          · simp [vc_law09_ProofKinds_k7, ints]
            refine ⟨fun h => ?_, fun h => ?_⟩
            · have : errCP p = 5 ∧ difL p ≠ [] := by
                rcases hel with ⟨h1, h2, h3⟩ | ⟨h1, h2, h3⟩
                · exact absurd h1 h
                · exact ⟨h1, h3⟩
              have hne := List.length_pos_iff.2 this.2
              exact ⟨fun _ => known_call hk (by simp), fun h => this.2 h⟩
            · obtain ⟨g2, g3⟩ : (errLP p).map Prod.fst = difL p ∧ ∀ e, e ∈ errLP p → 1 ≤ e.2 ∧ e.2 ≤ 4 := by
                rcases hel with ⟨h1, h2, h3⟩ | ⟨h1, h2, h3⟩
                · exact ⟨h2, h3⟩
                · rw [h1] at h; cases h
              have g4 : (errLP p).length = (difL p).length := by rw [← g2]; simp
              have := kinds_end hk (difL p) (errLP p) [(24, some ⟨0, T_api_ProofPage, .box [.d (int p.people), .d (.list (p.lines.map Ln.d)), .d (.list (p.log.map Nt.d))]⟩)] (by omega) g2 g3
              simp [ints] at this
              exact ⟨by omega, fun _ => this⟩
        rcases hel with ⟨h1, h2, h3⟩ | ⟨h1, h2, h3⟩
        · simp [vc_law09_ProofKinds_k17, h1]
          rw [h1] at hend
          exact hend
        · simp [vc_law09_ProofKinds_k17, h1]
          rw [h1] at hend
          exact hend
end Go.Vc

namespace Go.Vc
open Go Go.RowKit Go.ChangeShapes Go.WideShapes Go.ChangeAt Go.Proofs Go.Proofs.YtjdgidaoknlnlaaGreatDoor
theorem kinds_calls {H : Type} {enc : TypeId × Value → H} (W : World) (base : Nat) (args : Array Value) (ds : List (DataW H)) (ps : List MemPlace) (hval : ∀ (j : Nat) t v, Tryz.f4.params[j]? = some t → args[j]? = some v → Value.okWide Tryz.prog W .any base t v)
    (hA : DataW.TrodAll enc Tryz.prog W 0 (fun _ => true) true Tryz.f4.params.toList args.toList ds ps) (hL : laidMetH Tryz.prog laidL W) (hsh : W.ShapedOpen Tryz.prog) : Calls Tryz.prog 4 args W fun e W' => e = .returned (.bool true) ∧ Below W.heap.size W W' := by
  rw [Tryz.params4] at hA hval
  obtain ⟨v0, v1, v2, d0, d1, d2, p0, p1, p2, rfl, rfl, rfl, h0, h1, h2⟩ := trodAll_three hA
  obtain ⟨x0, g0⟩ := open_page (hval 0 25 v0 rfl rfl) h0
  obtain ⟨x1, g1, b1⟩ := open_int' (hval 1 3 v1 rfl rfl) h1
  obtain ⟨x2, g2, b2⟩ := open_int' (hval 2 3 v2 rfl rfl) h2
  exact law_calls (C := Tz (gW W)) (kinds_meets (gok hL hsh) x0 x1 x2 b1 b2) rfl (Below.refl _ _) (us := [v0, v1, v2]) rfl (fun i d u hd hu => by
    match i, hd, hu with
    | 0, hd, hu => simp at hd hu; subst hd; subst hu; exact g0
    | 1, hd, hu => simp at hd hu; subst hd; subst hu; exact g1
    | 2, hd, hu => simp at hd hu; subst hd; subst hu; exact g2
    | i + 3, hd, hu => simp at hd)
theorem kinds_lifted (os : Os) (started : os.Started) (H : Type) (enc : TypeId × Value → H) :
    ReturnsInHanded {} Tryz.checked os 4 .any (fun w args => (Rows.proofKindsSpec.pre enc Tryz.prog Tryz.f4 [] false w args ∧ laidMetH Tryz.prog laidL w) ∧ sizedMet enc Tryz.prog Tryz.f4 (OpenSpec.ofChange Rows.proofKindsSpec) false w args)
      (Rows.proofKindsSpec.post enc Tryz.prog Tryz.f4 false true false false) :=
  law_lifted (C := Tryz.checked) (tb := 4) (n := 3) started own (by kernel_rfl) Tryz.func4
    (ChangeSpec.witness_shaped (enc := enc) (C := Tryz.checked) (os := os) (X := fun w _ => laidMetH Tryz.prog laidL w) false (World.laidAll Tryz.prog os laidL) #[.agg #[.int .i64 0, .slice none 0 0, .slice none 0 0], .int .i64 0, .int .i64 0] 8 (World.laidAll_os _ _ _)
      (World.shaped_of_ZipB (by kernel_rfl) (by kernel_rfl)) (by kernel_rfl) (by kernel_rfl) (by kernel_rfl)
      (by rw [MakeChecks.laidMetH_plain _ _ _ (by kernel_rfl)]; exact laidMet_laidAll _ (by kernel_rfl) (by kernel_rfl)))
    laidOut (by kernel_rfl) (by kernel_rfl) Tryz.underlying4 rfl (by kernel_rfl) (fun ds hl => by
      match ds, hl with
      | [a, b, c], _ => rfl) kinds_calls
theorem kinds_holds : Rows.ProofKindsSaid :=
  OpenClaim.holds_of_wide 4 Tryz.f4 rfl rfl rfl rfl rfl rfl rfl ⟨rfl, rfl, rfl, rfl, rfl⟩ rfl rfl rfl rfl rfl (by kernel_rfl) Tryz.func4 (by kernel_rfl)
    (of_decide_eq_true (by kernel_rfl)) (by unfold Func.isWrapper; first | (rw [if_pos (by decide +kernel)]; kernel_rfl) | (rw [if_neg (by decide +kernel)]; exact ⟨rfl, rfl⟩))
    (fun os started H enc _ => kinds_lifted os started H enc)
theorem kinds_card : Rows.ProofKindsCardSaid :=
  Claim7.holds_tied_plain_at .later [] [.data, .data, .data, .data, .pinned] true (true, "495f881b3e202b99a64ff79fc2e3da44c1da7b54a021e43e5cad857e0faeda86") true kinds_holds (fun _ h => by cases h) (by kernel_rfl) (fun _ h => by cases h) proofKinds_row_tie rfl ⟨rfl, rfl⟩ (by kernel_rfl) rfl
    (fun f fn hf hfn => by
      obtain rfl : f = 4 := Option.some.inj ((show Tryz.prog.funcNamed "ephemerist/ephemeristlaw09.ProofKinds" = some 4 by kernel_rfl).symm.trans hf) |>.symm
      obtain rfl : fn = Tryz.f4 := (Option.some.inj (Tryz.func4.symm.trans hfn)).symm
      exact ⟨by kernel_rfl, fun j t ht => by
        rw [Tryz.params4] at ht
        have hm : t ∈ [25, 3, 3] := by simpa using Array.mem_of_getElem? ht
        have hall : ([25, 3, 3].all fun u => !Tryz.prog.wantsStandIn u) = true := by kernel_rfl
        exact (show Tryz.prog.wantsStandIn t = false by simpa using List.all_eq_true.1 hall t hm)⟩)
    (by kernel_rfl)
end Go.Vc

namespace Go.Proofs.YtjdgidaoknlnlaaGreatDoor
theorem law_ProofKindsCardSaid : Rows.ProofKindsCardSaid := Go.Vc.kinds_card
end Go.Proofs.YtjdgidaoknlnlaaGreatDoor
