/- Proves that the statement DifferLooseCardSaid holds of the given program: for every input the law returns true and leaves its arguments as they were; under the row's own conditions, that the listed tables are laid as the program's text has them. -/
import Derived.Test.YtknbgegcnfdnkaaGreatDoorVz
import Derived.Test.YtknbgegcnfdnkaaGreatDoorDa
import Derived.Test.YtknbgegcnfdnkaaGreatDoorDg
import Derived.Test.YtknbgegcnfdnkaaGreatDoorVc27
set_option maxRecDepth 100000
namespace Go.Vc
open Go Go.Proofs Go.RowKit
def ann_law01_DifferLoose : Nat → List Nat := fun n => match n with  | _ => []
def vc_law01_DifferLoose_k0 (P : Ctx) (pre : List ABlk) (r : AV) (post : List PB) (v0 : AV) (h2 : Heap) (v4 : AV) (a6 : AV) (v7 : AV) : Prop :=
  BIN 0 .neq v0 (.d (.num .i64 5)) fun v1 =>
  COND v1
  (POST (.d (.bool false)) h2 pre r post)
  (BIN 0 .eql v0 (.d (.num .i64 5)) fun v3 =>
  BIN 0 .eql v4 (.d (.num .i64 0)) fun v5 =>
  CONDG v5
  (BIN 0 .leq a6 v7 fun v8 =>
  BIN 999 .eql v3 v8 fun v9 =>
  CONDG v9
  (CALL P f_law01_known [] 1416 h2 (fun _rd10 v11 h12 =>
  POST v11 h12 pre r post)
  (fun _ _ _ => False))
  (POST (.d (.bool false)) h2 pre r post))
  (BIN 999 .eql v3 (.d (.bool false)) fun v9 =>
  CONDG v9
  (CALL P f_law01_known [] 1416 h2 (fun _rd13 v11 h14 =>
  POST v11 h14 pre r post)
  (fun _ _ _ => False))
  (POST (.d (.bool false)) h2 pre r post)))
def vc_law01_DifferLoose_k1 (P : Ctx) (pre : List ABlk) (r : AV) (post : List PB) (v0 : AV) (v2 : AV) (a4 : AV) (v5 : AV) (h8 : Heap) : Prop :=
  BIN 0 .eql v0 (.d (.num .i64 5)) fun v1 =>
  BIN 0 .eql v2 (.d (.num .i64 0)) fun v3 =>
  CONDG v3
  (BIN 0 .leq a4 v5 fun v6 =>
  BIN 999 .eql v1 v6 fun v7 =>
  CONDG v7
  (CALL P f_law01_known [] 1416 h8 (fun _rd9 v10 h11 =>
  POST v10 h11 pre r post)
  (fun _ _ _ => False))
  (POST (.d (.bool false)) h8 pre r post))
  (BIN 999 .eql v1 (.d (.bool false)) fun v7 =>
  CONDG v7
  (CALL P f_law01_known [] 1416 h8 (fun _rd12 v10 h13 =>
  POST v10 h13 pre r post)
  (fun _ _ _ => False))
  (POST (.d (.bool false)) h8 pre r post))
def vc_law01_DifferLoose_k2 (P : Ctx) (pre : List ABlk) (r : AV) (post : List PB) (v0 : AV) (h1 : Heap) (v8 : AV) (a9 : AV) (v10 : AV) : Prop :=
  CALL P f_differ_Doubt [v0] 1232 h1 (fun _rd2 v3 h4 =>
  EXT v3 0 fun _v5 =>
  EXT v3 1 fun v6 =>
  BIN 0 .neq v6 (.d (.num .i64 0)) fun v7 =>
  CONDG v7
  (vc_law01_DifferLoose_k0 P pre r post v6 h4 v8 a9 v10)
  (vc_law01_DifferLoose_k1 P pre r post v6 v8 a9 v10 h4))
  (fun _ _ _ => False)
def vc_law01_DifferLoose_k3 (P : Ctx) (pre : List ABlk) (r : AV) (post : List PB) (v0 : AV) (h2 : Heap) (v6 : AV) (a8 : AV) (a9 : AV) (v13 : AV) (v14 : AV) : Prop :=
  NOT v0 fun v1 =>
  COND v1
  (CALL P f_law01_known [] 1200 h2 (fun _rd3 v4 h5 =>
  POST v4 h5 pre r post)
  (fun _ _ _ => False))
  (LOAD true 3 v6 h2 fun v7 =>
  CALL P f_ref01_With [v7, a8, a9] 1224 h2 (fun _rd10 v11 h12 =>
  vc_law01_DifferLoose_k2 P pre r post v11 h12 v13 a9 v14)
  (fun _ _ _ => False))
def vc_law01_DifferLoose_k4 (P : Ctx) (pre : List ABlk) (r : AV) (post : List PB) (v0 : AV) (h1 : Heap) (a4 : AV) (v8 : AV) (a16 : AV) (v31 : AV) : Prop :=
  FADDR 0 v0 h1 fun v2 =>
  LOAD false 1 v2 h1 fun v3 =>
  IADDR 2 T_api_Span v3 a4 h1 fun v5 =>
  FADDR 0 v5 h1 fun v6 =>
  LOAD false 1 v6 h1 fun v7 =>
  BIN 0 .lss v8 v7 fun v9 =>
  CONDG v9
  (POST (.d (.bool false)) h1 pre r post)
  (BIN 0 .gtr v8 (.d (.num .i64 99999)) fun v10 =>
  COND v10
  (POST (.d (.bool false)) h1 pre r post)
  (FADDR 0 v0 h1 fun v11 =>
  LOAD false 1 v11 h1 fun v12 =>
  IADDR 2 T_api_Span v12 a4 h1 fun v13 =>
  FADDR 0 v13 h1 fun v14 =>
  LOAD false 1 v14 h1 fun v15 =>
  BIN 0 .lss a16 v15 fun v17 =>
  CONDG v17
  (CALL P f_law01_known [] 1200 h1 (fun _rd18 v19 h20 =>
  POST v19 h20 pre r post)
  (fun _ _ _ => False))
  (BIN 0 .gtr a16 (.d (.num .i64 99999)) fun v21 =>
  CONDG v21
  (CALL P f_law01_known [] 1200 h1 (fun _rd22 v19 h23 =>
  POST v19 h23 pre r post)
  (fun _ _ _ => False))
  (LOAD true 3 v0 h1 fun v24 =>
  CALL P f_ref01_With [v24, a4, a16] 1168 h1 (fun _rd25 v26 h27 =>
  CALL P f_ref01_Plan [v26] 1176 h27 (fun _rd28 v29 h30 =>
  vc_law01_DifferLoose_k3 P pre r post v29 h30 v0 a4 a16 v31 v8)
  (fun _ _ _ => False))
  (fun _ _ _ => False)))))
def vc_law01_DifferLoose_k5 (P : Ctx) (pre : List ABlk) (r : AV) (post : List PB) (v0 : AV) (h1 : Heap) (a4 : AV) (a8 : AV) (v23 : AV) (v24 : AV) : Prop :=
  FADDR 0 v0 h1 fun v2 =>
  LOAD false 1 v2 h1 fun v3 =>
  IADDR 2 T_api_Span v3 a4 h1 fun v5 =>
  FADDR 0 v5 h1 fun v6 =>
  LOAD false 1 v6 h1 fun v7 =>
  BIN 0 .lss a8 v7 fun v9 =>
  CONDG v9
  (CALL P f_law01_known [] 1200 h1 (fun _rd10 v11 h12 =>
  POST v11 h12 pre r post)
  (fun _ _ _ => False))
  (BIN 0 .gtr a8 (.d (.num .i64 99999)) fun v13 =>
  CONDG v13
  (CALL P f_law01_known [] 1200 h1 (fun _rd14 v11 h15 =>
  POST v11 h15 pre r post)
  (fun _ _ _ => False))
  (LOAD true 3 v0 h1 fun v16 =>
  CALL P f_ref01_With [v16, a4, a8] 1168 h1 (fun _rd17 v18 h19 =>
  CALL P f_ref01_Plan [v18] 1176 h19 (fun _rd20 v21 h22 =>
  vc_law01_DifferLoose_k3 P pre r post v21 h22 v0 a4 a8 v23 v24)
  (fun _ _ _ => False))
  (fun _ _ _ => False)))
def vc_law01_DifferLoose_k6 (P : Ctx) (pre : List ABlk) (r : AV) (post : List PB) (v0 : AV) (h5 : Heap) (v7 : AV) (a8 : AV) (a9 : AV) : Prop :=
  EXT v0 0 fun v1 =>
  EXT v0 1 fun v2 =>
  BIN 0 .neq v2 (.d (.num .i64 0)) fun v3 =>
  CONDG v3
  (BIN 0 .neq v2 (.d (.num .i64 5)) fun v4 =>
  CONDG v4
  (POST (.d (.bool false)) h5 pre r post)
  (BIN 0 .eql v2 (.d (.num .i64 0)) fun v6 =>
  CONDG v6
  (vc_law01_DifferLoose_k4 P pre r post v7 h5 a8 v1 a9 v2)
  (vc_law01_DifferLoose_k5 P pre r post v7 h5 a8 a9 v2 v1)))
  (BIN 0 .eql v2 (.d (.num .i64 0)) fun v6 =>
  CONDG v6
  (vc_law01_DifferLoose_k4 P pre r post v7 h5 a8 v1 a9 v2)
  (vc_law01_DifferLoose_k5 P pre r post v7 h5 a8 a9 v2 v1))
def vc_law01_DifferLoose_k7 (_P : Ctx) (pre : List ABlk) (r : AV) (post : List PB) (h0 : Heap) (v1 : AV) (v2 : AV) (v3 : AV) (v4 : AV) (v5 : AV) (v6 : AV) (v7 : AV) (h8 : Heap) (rd9 : List Nat) : Prop :=
  ORDX [] [0, 1, 3, 7, 15, 31, 63, 127, 255, 511, 1023, 2047, 4095, 2047, 10239, 32767, 65535, 131071, 262143, 524287, 262143, 262143, 3407871, 7602175, 15990783, 262143, 262143, 100925439, 235143167, 503578623, 1072955391, 2147483647, 4294967295, 8589934591, 17179869183, 34359738367, 68719476735, 137438953471, 137438953471, 549755813887, 1099511627775, 2199023255551, 4398046511103, 8796093022207, 4398046511103, 35184372088831, 70368744177663, 140737488355327, 4398046511103, 285873023221759, 4398046511103, 1974722883485695, 4226522697170943, 8730122324541439, 18014398509481983, 36028797018963967, 72057594037927935, 144115188075855871] [(12, wr h0 h0, (ids v1)), (13, wr h0 h0, (ids v2)), (14, wr h0 h0, (ids v3)), (22, wr h0 h0, (ids v1)), (23, wr h0 h0, (ids v4)), (24, wr h0 h0, (ids v5)), (27, wr h0 h0, (ids v1)), (28, wr h0 h0, (ids v6)), (29, wr h0 h0, (ids v7)), (37, wr h0 h0, (ids v2)), (39, wr h0 h8, rd9)] ∧
  POST (.d (.bool false)) h8 pre r post
def vc_law01_DifferLoose_k8 (P : Ctx) (pre : List ABlk) (r : AV) (post : List PB) (v0 : AV) (h1 : Heap) (v4 : AV) (h14 : Heap) (v15 : AV) (v16 : AV) (v17 : AV) (v18 : AV) (v19 : AV) (v20 : AV) (rd21 : List Nat) (a23 : AV) (a27 : AV) : Prop :=
  FADDR 0 v0 h1 fun v2 =>
  LOAD false 1 v2 h1 fun v3 =>
  IADDR 2 T_api_Span v3 v4 h1 fun v5 =>
  FADDR 0 v5 h1 fun v6 =>
  LOAD false 1 v6 h1 fun v7 =>
  FADDR 0 v0 h1 fun v8 =>
  LOAD false 1 v8 h1 fun v9 =>
  IADDR 2 T_api_Span v9 v4 h1 fun v10 =>
  FADDR 1 v10 h1 fun v11 =>
  LOAD false 1 v11 h1 fun v12 =>
  BIN 0 .eql v7 v12 fun v13 =>
  ORDX [] [0, 1, 3, 7, 15, 31, 63, 127, 255, 511, 1023, 2047, 4095, 2047, 10239, 32767, 65535, 131071, 262143, 524287, 262143, 262143, 3407871, 7602175, 15990783, 262143, 262143, 100925439, 235143167, 503578623, 1072955391, 2147483647, 4294967295, 8589934591, 17179869183, 34359738367, 68719476735, 137438953471, 137438953471, 549755813887, 1099511627775, 2199023255551, 4398046511103, 8796093022207, 4398046511103, 35184372088831, 70368744177663, 140737488355327, 4398046511103, 285873023221759, 4398046511103, 1974722883485695, 4226522697170943, 8730122324541439, 18014398509481983, 36028797018963967, 72057594037927935, 144115188075855871] [(12, wr h14 h14, (ids v15)), (13, wr h14 h14, (ids v0)), (14, wr h14 h14, (ids v16)), (22, wr h14 h14, (ids v15)), (23, wr h14 h14, (ids v17)), (24, wr h14 h14, (ids v18)), (27, wr h14 h14, (ids v15)), (28, wr h14 h14, (ids v19)), (29, wr h14 h14, (ids v20)), (37, wr h14 h14, (ids v0)), (39, wr h14 h1, rd21), (42, wr h1 h1, (ids v0)), (43, wr h1 h1, (ids v2)), (45, wr h1 h1, (ids v3)), (46, wr h1 h1, (ids v5)), (47, wr h1 h1, (ids v6)), (48, wr h1 h1, (ids v0)), (49, wr h1 h1, (ids v8)), (51, wr h1 h1, (ids v9)), (52, wr h1 h1, (ids v10)), (53, wr h1 h1, (ids v11))] ∧
  COND v13
  (POST (.d (.bool false)) h1 pre r post)
  (LOAD true 3 v0 h1 fun v22 =>
  CALL P f_differ_Widest [v22, a23] 800 h1 (fun _rd24 v25 h26 =>
  vc_law01_DifferLoose_k6 P pre r post v25 h26 v0 a23 a27)
  (fun _ _ _ => False))
def vc_law01_DifferLoose_k9 (P : Ctx) (pre : List ABlk) (r : AV) (post : List PB) (v0 : AV) (h1 : Heap) (v3 : AV) (v8 : AV) (v9 : AV) (v10 : AV) (v11 : AV) (v12 : AV) (v13 : AV) (a14 : AV) (a15 : AV) : Prop :=
  LOAD true 3 v0 h1 fun v2 =>
  CALL P f_ref01_Begin [v2, v3] 632 h1 (fun rd4 v5 h6 =>
  NOT v5 fun v7 =>
  CONDG v7
  (vc_law01_DifferLoose_k7 P pre r post h1 v8 v0 v9 v10 v11 v12 v13 h6 rd4)
  (vc_law01_DifferLoose_k8 P pre r post v0 h6 v3 h1 v8 v9 v10 v11 v12 v13 rd4 a14 a15))
  (fun _ _ _ => False)
def vc_law01_DifferLoose_k10 (P : Ctx) (pre : List ABlk) (r : AV) (post : List PB) (h0 : Heap) (v1 : AV) (v2 : AV) (v3 : AV) (v4 : AV) (v5 : AV) (v6 : AV) (v7 : AV) (a9 : AV) (a13 : AV) : Prop :=
  ORDX [] [0, 1, 3, 7, 15, 31, 63, 127, 255, 511, 1023, 2047, 4095, 2047, 10239, 32767, 65535, 131071, 262143, 524287, 262143, 262143, 3407871, 7602175, 15990783, 262143, 262143, 100925439, 235143167, 503578623, 1072955391, 2147483647, 4294967295, 8589934591, 17179869183, 34359738367, 68719476735, 137438953471, 137438953471, 549755813887, 1099511627775, 2199023255551, 4398046511103, 8796093022207, 4398046511103, 35184372088831, 70368744177663, 140737488355327, 4398046511103, 285873023221759, 4398046511103, 1974722883485695, 4226522697170943, 8730122324541439, 18014398509481983, 36028797018963967, 72057594037927935, 144115188075855871] [(12, wr h0 h0, (ids v1)), (13, wr h0 h0, (ids v2)), (14, wr h0 h0, (ids v3)), (22, wr h0 h0, (ids v1)), (23, wr h0 h0, (ids v4)), (24, wr h0 h0, (ids v5)), (27, wr h0 h0, (ids v1)), (28, wr h0 h0, (ids v6)), (29, wr h0 h0, (ids v7))] ∧
  LOAD true 3 v2 h0 fun v8 =>
  CALL P f_differ_Widest [v8, a9] 800 h0 (fun _rd10 v11 h12 =>
  vc_law01_DifferLoose_k6 P pre r post v11 h12 v2 a9 a13)
  (fun _ _ _ => False)
def vc_law01_DifferLoose_k11 (_P : Ctx) (pre : List ABlk) (r : AV) (post : List PB) (h0 : Heap) (v1 : AV) (v2 : AV) (v3 : AV) : Prop :=
  ORDX [] [0, 1, 3, 7, 15, 31, 63, 127, 255, 511, 1023, 2047, 4095, 2047, 10239, 32767, 65535, 131071, 262143, 524287, 262143, 262143, 3407871, 7602175, 15990783, 262143, 262143, 100925439, 235143167, 503578623, 1072955391, 2147483647, 4294967295, 8589934591, 17179869183, 34359738367, 68719476735, 137438953471, 137438953471, 549755813887, 1099511627775, 2199023255551, 4398046511103, 8796093022207, 4398046511103, 35184372088831, 70368744177663, 140737488355327, 4398046511103, 285873023221759, 4398046511103, 1974722883485695, 4226522697170943, 8730122324541439, 18014398509481983, 36028797018963967, 72057594037927935, 144115188075855871] [(12, wr h0 h0, (ids v1)), (13, wr h0 h0, (ids v2)), (14, wr h0 h0, (ids v3))] ∧
  POST (.d (.bool false)) h0 pre r post
def vc_law01_DifferLoose_k12 (P : Ctx) (pre : List ABlk) (r : AV) (post : List PB) (v0 : AV) (v2 : AV) (a3 : AV) (h4 : Heap) (v13 : AV) (v14 : AV) (v16 : AV) (a17 : AV) (a18 : AV) : Prop :=
  BIN 0 .eql v0 (.d (.num .i64 5)) fun v1 =>
  IADDR 2 T_api_Span v2 a3 h4 fun v5 =>
  FADDR 0 v5 h4 fun v6 =>
  LOAD false 1 v6 h4 fun v7 =>
  IADDR 2 T_api_Span v2 a3 h4 fun v8 =>
  FADDR 1 v8 h4 fun v9 =>
  LOAD false 1 v9 h4 fun v10 =>
  BIN 0 .eql v7 v10 fun v11 =>
  BIN 999 .neq v1 v11 fun v12 =>
  CONDG v12
  (ORDX [] [0, 1, 3, 7, 15, 31, 63, 127, 255, 511, 1023, 2047, 4095, 2047, 10239, 32767, 65535, 131071, 262143, 524287, 262143, 262143, 3407871, 7602175, 15990783, 262143, 262143, 100925439, 235143167, 503578623, 1072955391, 2147483647, 4294967295, 8589934591, 17179869183, 34359738367, 68719476735, 137438953471, 137438953471, 549755813887, 1099511627775, 2199023255551, 4398046511103, 8796093022207, 4398046511103, 35184372088831, 70368744177663, 140737488355327, 4398046511103, 285873023221759, 4398046511103, 1974722883485695, 4226522697170943, 8730122324541439, 18014398509481983, 36028797018963967, 72057594037927935, 144115188075855871] [(12, wr h4 h4, (ids v2)), (13, wr h4 h4, (ids v13)), (14, wr h4 h4, (ids v14)), (22, wr h4 h4, (ids v2)), (23, wr h4 h4, (ids v5)), (24, wr h4 h4, (ids v6)), (27, wr h4 h4, (ids v2)), (28, wr h4 h4, (ids v8)), (29, wr h4 h4, (ids v9))] ∧
  POST (.d (.bool false)) h4 pre r post)
  (BIN 0 .eql v0 (.d (.num .i64 0)) fun v15 =>
  CONDG v15
  (vc_law01_DifferLoose_k9 P pre r post v13 h4 v16 v2 v14 v5 v6 v8 v9 a17 a18)
  (vc_law01_DifferLoose_k10 P pre r post h4 v2 v13 v14 v5 v6 v8 v9 a17 a18))
def vc_law01_DifferLoose_k13 (_P : Ctx) (pre : List ABlk) (r : AV) (post : List PB) (h0 : Heap) : Prop :=
  ORDX [] [0, 1, 3, 7, 15, 31, 63, 127, 255, 511, 1023, 2047, 4095, 2047, 10239, 32767, 65535, 131071, 262143, 524287, 262143, 262143, 3407871, 7602175, 15990783, 262143, 262143, 100925439, 235143167, 503578623, 1072955391, 2147483647, 4294967295, 8589934591, 17179869183, 34359738367, 68719476735, 137438953471, 137438953471, 549755813887, 1099511627775, 2199023255551, 4398046511103, 8796093022207, 4398046511103, 35184372088831, 70368744177663, 140737488355327, 4398046511103, 285873023221759, 4398046511103, 1974722883485695, 4226522697170943, 8730122324541439, 18014398509481983, 36028797018963967, 72057594037927935, 144115188075855871] [] ∧
  POST (.d (.bool false)) h0 pre r post
def vc_law01_DifferLoose_k14 (P : Ctx) (pre : List ABlk) (r : AV) (post : List PB) (v0 : AV) (h1 : Heap) (v3 : AV) (v7 : AV) (a8 : AV) (v9 : AV) (a10 : AV) (a11 : AV) : Prop :=
  LEN false v0 h1 fun v2 =>
  FADDR 1 v3 h1 fun v4 =>
  LOAD false 1 v4 h1 fun v5 =>
  BIN 0 .neq v2 v5 fun v6 =>
  CONDG v6
  (vc_law01_DifferLoose_k11 P pre r post h1 v0 v3 v4)
  (vc_law01_DifferLoose_k12 P pre r post v7 v0 a8 h1 v3 v4 v9 a10 a11)
def vc_law01_DifferLoose_k15 (P : Ctx) (pre : List ABlk) (r : AV) (post : List PB) (v0 : AV) (h3 : Heap) (v4 : AV) (v5 : AV) (a6 : AV) (v7 : AV) (a8 : AV) (a9 : AV) : Prop :=
  BIN 0 .neq v0 (.d (.num .i64 0)) fun v1 =>
  CONDG v1
  (BIN 0 .neq v0 (.d (.num .i64 5)) fun v2 =>
  CONDG v2
  (vc_law01_DifferLoose_k13 P pre r post h3)
  (vc_law01_DifferLoose_k14 P pre r post v4 h3 v5 v0 a6 v7 a8 a9))
  (LEN false v4 h3 fun v10 =>
  FADDR 1 v5 h3 fun v11 =>
  LOAD false 1 v11 h3 fun v12 =>
  BIN 0 .neq v10 v12 fun v13 =>
  CONDG v13
  (vc_law01_DifferLoose_k11 P pre r post h3 v4 v5 v11)
  (vc_law01_DifferLoose_k12 P pre r post v0 v4 a6 h3 v5 v11 v7 a8 a9))
def vc_law01_DifferLoose_k16 (P : Ctx) (pre : List ABlk) (r : AV) (post : List PB) (v0 : AV) (v3 : AV) (h4 : Heap) (a6 : AV) (a13 : AV) (a14 : AV) : Prop :=
  EXT v0 0 fun v1 =>
  EXT v0 1 fun v2 =>
  LOAD true 3 v3 h4 fun v5 =>
  CALL P f_differ_Blame [v5, a6] 272 h4 (fun _rd7 v8 h9 =>
  EXT v8 0 fun v10 =>
  EXT v8 1 fun v11 =>
  BIN 0 .neq v2 (.d (.num .i64 0)) fun v12 =>
  CONDG v12
  (vc_law01_DifferLoose_k13 P pre r post h9)
  (vc_law01_DifferLoose_k15 P pre r post v11 h9 v1 v3 a6 v10 a13 a14))
  (fun _ _ _ => False)
def vc_law01_DifferLoose_k17 (P : Ctx) (pre : List ABlk) (r : AV) (post : List PB) (v0 : AV) (h2 : Heap) (v6 : AV) (a11 : AV) (a12 : AV) (a13 : AV) : Prop :=
  NOT v0 fun v1 =>
  COND v1
  (CALL P f_law01_known [] 200 h2 (fun _rd3 v4 h5 =>
  POST v4 h5 pre r post)
  (fun _ _ _ => False))
  (LOAD true 3 v6 h2 fun v7 =>
  CALL P f_differ_Rows [v7] 208 h2 (fun _rd8 v9 h10 =>
  vc_law01_DifferLoose_k16 P pre r post v9 v6 h10 a11 a12 a13)
  (fun _ _ _ => False))
def vc_law01_DifferLoose_k18 (P : Ctx) (pre : List ABlk) (r : AV) (post : List PB) (v0 : AV) (h2 : Heap) (v6 : AV) (a8 : AV) (a12 : AV) (a13 : AV) : Prop :=
  NOT v0 fun v1 =>
  CONDG v1
  (CALL P f_law01_known [] 200 h2 (fun _rd3 v4 h5 =>
  POST v4 h5 pre r post)
  (fun _ _ _ => False))
  (LOAD true 3 v6 h2 fun v7 =>
  CALL P f_ref01_Line [v7, a8] 176 h2 (fun _rd9 v10 h11 =>
  vc_law01_DifferLoose_k17 P pre r post v10 h11 v6 a8 a12 a13)
  (fun _ _ _ => False))
def vc_law01_DifferLoose_k19 (P : Ctx) (pre : List ABlk) (r : AV) (post : List PB) (v0 : AV) (h2 : Heap) (v6 : AV) (a8 : AV) (a12 : AV) (a13 : AV) : Prop :=
  NOT v0 fun v1 =>
  CONDG v1
  (CALL P f_law01_known [] 200 h2 (fun _rd3 v4 h5 =>
  POST v4 h5 pre r post)
  (fun _ _ _ => False))
  (LOAD true 3 v6 h2 fun v7 =>
  CALL P f_ref01_Begin [v7, a8] 128 h2 (fun _rd9 v10 h11 =>
  vc_law01_DifferLoose_k18 P pre r post v10 h11 v6 a12 a8 a13)
  (fun _ _ _ => False))
def vc_law01_DifferLoose_k20 (P : Ctx) (pre : List ABlk) (r : AV) (post : List PB) (v0 : AV) (h2 : Heap) (v6 : AV) (a11 : AV) (a12 : AV) (a13 : AV) : Prop :=
  NOT v0 fun v1 =>
  CONDG v1
  (CALL P f_law01_known [] 200 h2 (fun _rd3 v4 h5 =>
  POST v4 h5 pre r post)
  (fun _ _ _ => False))
  (LOAD true 3 v6 h2 fun v7 =>
  CALL P f_ref01_Plan [v7] 80 h2 (fun _rd8 v9 h10 =>
  vc_law01_DifferLoose_k19 P pre r post v9 h10 v6 a11 a12 a13)
  (fun _ _ _ => False))
def vc_law01_DifferLoose (P : Ctx) (pre : List ABlk) (a0 a1 a2 a3 : AV) (r : AV) (post : List PB) : Prop :=
  let h0 : Heap := numbered 0 pre
  BOX T_api_DifferPlan a0 24 h0 fun v4 h1 =>
  LOAD true 3 v4 h1 fun v17 =>
  CALL P f_law01_short [v17] 48 h1 (fun _rd3 v18 h2 =>
  vc_law01_DifferLoose_k20 P pre r post v18 h2 v4 a1 a3 a2)
  (fun _ _ _ => False)
theorem vc_law01_DifferLoose_eq (g : GG) (pre : List ABlk) (a0 a1 a2 a3 : AV) (r : AV) (post : List PB) : vcFn2 (Tz g) false ann_law01_DifferLoose Tryz.f9 pre [a0, a1, a2, a3] (.ret r) post = vc_law01_DifferLoose (Tz g) pre a0 a1 a2 a3 r post := by kernel_rfl
theorem hf_law01_DifferLoose : Tryz.prog.funcs[f_law01_DifferLoose]? = some Tryz.f9 := by kernel_rfl
theorem ok_law01_DifferLoose : fnVcOK Tryz.prog Tryz.f9 = true := by kernel_rfl
theorem nt_law01_DifferLoose : Nat.ble 4 Tryz.f9.ntmps = true := by kernel_rfl
theorem meetsH_law01_DifferLoose {g : GG} {pre : List ABlk} {a0 a1 a2 a3 : AV} {r : AV} {post : List PB} (hk : Nat.ble pre.length 24 = true) (h : vc_law01_DifferLoose (Tz g) pre a0 a1 a2 a3 r post) : MeetsH (Tz g) f_law01_DifferLoose pre [a0, a1, a2, a3] (.ret r) post :=
  meetsH_of_vc (C := Tz g) ann_law01_DifferLoose hf_law01_DifferLoose ok_law01_DifferLoose nt_law01_DifferLoose hk (pn := false) (Eq.mpr ((vcFn2_eq _ _ _ _ _ _ _ _).trans (vc_law01_DifferLoose_eq g pre a0 a1 a2 a3 r post)) h)
theorem meets_law01_DifferLoose {g : GG} {a0 a1 a2 a3 : D} {r : Res} (h : vc_law01_DifferLoose (Tz g) [] (.d a0) (.d a1) (.d a2) (.d a3) r.val (r.bl.map .upd)) : Meets (Tz g) f_law01_DifferLoose [a0, a1, a2, a3] r := meetsH_law01_DifferLoose rfl h
end Go.Vc

namespace Go.Vc
open Go Go.Proofs
variable {g : GG}
attribute [local simp] and_assoc
set_option maxHeartbeats 2000000 in
theorem loose_meets (hg : GOK g) (p : Plan) (i high row : Int) (_ : -9223372036854775808 ≤ i ∧ i ≤ 9223372036854775807) (_ : -9223372036854775808 ≤ high ∧ high ≤ 9223372036854775807) (_ : -9223372036854775808 ≤ row ∧ row ≤ 9223372036854775807) : Meets (Tz g) f_law01_DifferLoose [p.d, int i, int high, int row] ⟨.d (.bool true), []⟩ := by
  refine meets_law01_DifferLoose ?_
  unfold vc_law01_DifferLoose
  simp [Plan.d, spans]
  refine CALL.val [p.d] _ rfl (law01_short_meets p) (.inl rfl) ?_
  simp [vc_law01_DifferLoose_k20]
  constructor
  · intro h
    exact known_call hg (by simp)
  · intro h
    have hl : p.starts.length ≤ 1000 := by omega
    refine CALL.val [p.d] _ rfl (ref01_Plan_meets p hl) (.inl rfl) ?_
    simp [vc_law01_DifferLoose_k19]
    constructor
    · intro h
      exact known_call hg (by simp)
    · intro hok
      obtain ⟨a1, a2, a3, a4, a5⟩ := Plan.ok_len hok
      refine CALL.val [p.d, int i] _ rfl (ref01_Begin_meets p i hl) (.inl rfl) ?_
      simp [vc_law01_DifferLoose_k18]
      constructor
      · intro h
        exact known_call hg (by simp)
      · intro hi
        obtain ⟨j, rfl, hj⟩ := inB_nat hi
        refine CALL.val [p.d, int row] _ rfl (ref01_Line_meets p row ⟨a3, a4⟩) (.inl rfl) ?_
        simp [vc_law01_DifferLoose_k17]
        constructor
        · intro h
          exact known_call hg (by simp)
        · intro hr
          obtain ⟨k, rfl, hk⟩ := inB_nat hr
          obtain ⟨n, hn⟩ : ∃ n : Nat, p.rows = n := ⟨p.rows.toNat, by omega⟩
          have hkn : k < n := by omega
          have hjl : j < p.starts.length := by omega
          have hgj : p.starts[j]? = some p.starts[j] := List.getElem?_eq_getElem hjl
          have hW : widestV p (j : Int) = match widestO p j p.starts[j].low with | some h => (h, 0) | none => (0, 5) := by
            simp only [widestV, hok, hi, Bool.and_self, if_true, Int.toNat_natCast, hgj]
            cases widestO p j p.starts[j].low <;> rfl
          have hB : blameV p (k : Int) = if (blameO p k).2 ≤ 0 then (0, 5) else ((blameO p k).1, 0) := by simp [blameV, hr, hok]
          have hrl := rowsL_len p n hn
          have g3 := rowsL_get p n k hn hkn
          have hone := blame_one p k hok (by omega)
          generalize hs : p.starts[j] = s at hgj hW
          have hlaw := widest_law p j s hok hgj n hn high
          have hwin := widest_in p j s hgj
          have tail : CALL (Tz g) f_differ_Widest [.d (.agg [.list (p.starts.map Sp.d), int n, int p.guard]), .d (int j)] 800
              [(208, some ⟨0, T_api_Span, .lst ((rowsL p).map Sp.d)⟩), (24, some ⟨0, T_api_DifferPlan, .box [.d (.list (p.starts.map Sp.d)), .d (int n), .d (int p.guard)]⟩)]
              (fun _ v h => vc_law01_DifferLoose_k6 (Tz g) [] (.d (.bool true)) [] v h (.ptr 24 0 0 0) (.d (int j)) (.d (int high))) (fun _ _ _ => False) := by
            refine CALL.mk [p.d, int j] _ (by simp [Plan.d, spans, hn]) (differ_Widest_meets p j hl) (.inl rfl) (by simp) ?_
            rw [hW]
            have last : ∀ (v8 v4 : Int), ((v8 = 0 ∧ ∃ x, widestO p j s.low = some x ∧ v4 = x) ∨ (v8 = 5 ∧ widestO p j s.low = none)) → ∀ (b : Bool), b = (withH p j high).ok →
                vc_law01_DifferLoose_k3 (Tz g) [] (.d (.bool true)) [] (.d (.bool b)) [(208, some ⟨0, T_api_Span, .lst ((rowsL p).map Sp.d)⟩), (24, some ⟨0, T_api_DifferPlan, .box [.d (.list (p.starts.map Sp.d)), .d (int n), .d (int p.guard)]⟩)] (.ptr 24 0 0 0) (.d (int j)) (.d (int high)) (.d (int v8)) (.d (int v4)) := by
              rintro v8 v4 hv b rfl
              simp [vc_law01_DifferLoose_k3]
              constructor
              · intro _
                exact known_call hg (by simp)
              · intro hq
                have hlaw := hlaw hq
                refine CALL.val [p.d, int j, int high] _ (by simp [Plan.d, spans, hn]) (ref01_With_meets p j s high hgj hl) (.inl rfl) ?_
                simp [vc_law01_DifferLoose_k2]
                refine CALL.mk [(withH p j high).d] _ rfl (differ_Doubt_meets _ hq) (.inl rfl) (by simp) ?_
                rcases hv with ⟨rfl, x, hx, rfl⟩ | ⟨rfl, hx⟩
                · by_cases hd : doubtL (withH p j high) < 0
                  · obtain ⟨y, hy, hle⟩ := hlaw.1 hd
                    rw [hx] at hy
                    have := Option.some.inj hy
                    have hle : high ≤ v4 := by omega
                    simp [hd, vc_law01_DifferLoose_k0, hle]
                    exact known_call hg (by simp)
                  · have hle : ¬ high ≤ v4 := fun h => hd (hlaw.2 ⟨v4, hx, h⟩)
                    simp [hd, vc_law01_DifferLoose_k1, hle]
                    exact known_call hg (by simp)
                · by_cases hd : doubtL (withH p j high) < 0
                  · obtain ⟨y, hy, hle⟩ := hlaw.1 hd
                    rw [hx] at hy; cases hy
                  · simp [hd, vc_law01_DifferLoose_k1]
                    exact known_call hg (by simp)
            cases hw : widestO p j s.low with
            | some x =>
              have hx := hwin x hw
              have c1 : ¬ x < s.low := by omega
              have c2 : ¬ 99999 < x := by omega
              simp [vc_law01_DifferLoose_k6, vc_law01_DifferLoose_k4, hgj, Sp.d, c1, c2]
              refine ⟨fun _ => known_call hg (by simp), fun _ => ⟨fun _ => known_call hg (by simp), fun _ => ?_⟩⟩
              refine CALL.val [p.d, int j, int high] _ (by simp [Plan.d, spans, hn]) (ref01_With_meets p j s high hgj hl) (.inl rfl) ?_
              refine CALL.val [(withH p j high).d] _ rfl (ref01_Plan_meets _ (by show (putH _ _ _).length ≤ 1000; rw [putH_len]; omega)) (.inl rfl) ?_
              exact last 0 x (.inl ⟨rfl, x, hw, rfl⟩) _ rfl
            | none =>
              simp [vc_law01_DifferLoose_k6, vc_law01_DifferLoose_k5, hgj, Sp.d]
              refine ⟨fun _ => known_call hg (by simp), fun _ => ⟨fun _ => known_call hg (by simp), fun _ => ?_⟩⟩
              refine CALL.val [p.d, int j, int high] _ (by simp [Plan.d, spans, hn]) (ref01_With_meets p j s high hgj hl) (.inl rfl) ?_
              refine CALL.val [(withH p j high).d] _ rfl (ref01_Plan_meets _ (by show (putH _ _ _).length ≤ 1000; rw [putH_len]; omega)) (.inl rfl) ?_
              exact last 5 0 (.inr ⟨rfl, hw⟩) _ rfl
          refine CALL.mk [p.d] _ rfl (differ_Rows_meets p hl) (.inl rfl) (by simp [hok]) ?_
          simp [hok, vc_law01_DifferLoose_k16]
          refine CALL.mk [p.d, int k] _ rfl (differ_Blame_meets p k hl) (.inl rfl) (by simp) ?_
          generalize (afterL k (lows p)).headD 0 = lo at g3 hone
          generalize (afterL k (highs p)).headD 0 = hi2 at g3 hone
          by_cases hm : (blameO p k).2 ≤ 0
          · have e := hone.1 hm
            simp [vc_law01_DifferLoose_k15, vc_law01_DifferLoose_k14, vc_law01_DifferLoose_k12, vc_law01_DifferLoose_k10, hB, hm, hrl, hn, g3, e, Sp.d]
            exact ⟨hkn, rfl, tail⟩
          · have e : ¬ lo = hi2 := fun h => hm (hone.2 h)
            obtain ⟨m, s', hm1, hm2, hm3⟩ := blame_start p k (by omega)
            simp [vc_law01_DifferLoose_k15, vc_law01_DifferLoose_k12, vc_law01_DifferLoose_k9, hB, hm, hrl, hn, g3, e, hm1, Sp.d]
            have hml := (List.getElem?_eq_some_iff.1 hm2).1
            have hib : inB (m : Int) 0 ((p.starts.length : Int) - 1) = true := by simp [inB]; omega
            refine ⟨hkn, ?_⟩
            refine CALL.val [p.d, int m] _ (by simp [Plan.d, spans, hn]) (ref01_Begin_meets p m hl) (.inl rfl) ?_
            simp [hib, vc_law01_DifferLoose_k8, hm2, Sp.d, hm3]
            exact ⟨rfl, tail⟩
end Go.Vc

namespace Go.Vc
open Go Go.RowKit Go.ChangeShapes Go.WideShapes Go.ChangeAt Go.Proofs Go.Proofs.YtknbgegcnfdnkaaGreatDoor
theorem loose_calls {H : Type} {enc : TypeId × Value → H} (W : World) (base : Nat) (args : Array Value) (ds : List (DataW H)) (ps : List MemPlace) (hval : ∀ (j : Nat) t v, Tryz.f9.params[j]? = some t → args[j]? = some v → Value.okWide Tryz.prog W .any base t v)
    (hA : DataW.TrodAll enc Tryz.prog W 0 (fun _ => true) true Tryz.f9.params.toList args.toList ds ps) (hL : laidMetH Tryz.prog laidL W) (hsh : W.ShapedOpen Tryz.prog) : Calls Tryz.prog 9 args W fun e W' => e = .returned (.bool true) ∧ Below W.heap.size W W' := by
  rw [Tryz.params9] at hA hval
  obtain ⟨v0, v1, v2, v3, d0, d1, d2, d3, p0, p1, p2, p3, rfl, rfl, rfl, h0, h1, h2, h3⟩ := trodAll_four hA
  obtain ⟨x0, g0⟩ := open_plan (hval 0 24 v0 rfl rfl) h0
  obtain ⟨x1, g1, b1⟩ := open_int' (hval 1 3 v1 rfl rfl) h1
  obtain ⟨x2, g2, b2⟩ := open_int' (hval 2 3 v2 rfl rfl) h2
  obtain ⟨x3, g3, b3⟩ := open_int' (hval 3 3 v3 rfl rfl) h3
  exact law_calls (C := Tz (gW W)) (loose_meets (gok hL hsh) x0 x1 x2 x3 b1 b2 b3) rfl (Below.refl _ _) (us := [v0, v1, v2, v3]) rfl (fun i d u hd hu => by
    match i, hd, hu with
    | 0, hd, hu => simp at hd hu; subst hd; subst hu; exact g0
    | 1, hd, hu => simp at hd hu; subst hd; subst hu; exact g1
    | 2, hd, hu => simp at hd hu; subst hd; subst hu; exact g2
    | 3, hd, hu => simp at hd hu; subst hd; subst hu; exact g3
    | i + 4, hd, hu => simp at hd)
theorem loose_lifted (os : Os) (started : os.Started) (H : Type) (enc : TypeId × Value → H) :
    ReturnsInHanded {} Tryz.checked os 9 .any (fun w args => (Rows.differLooseSpec.pre enc Tryz.prog Tryz.f9 [] false w args ∧ laidMetH Tryz.prog laidL w) ∧ sizedMet enc Tryz.prog Tryz.f9 (OpenSpec.ofChange Rows.differLooseSpec) false w args)
      (Rows.differLooseSpec.post enc Tryz.prog Tryz.f9 false true false false) :=
  law_lifted (C := Tryz.checked) (tb := 4) (n := 4) started own (by kernel_rfl) Tryz.func9
    (ChangeSpec.witness_shaped (enc := enc) (C := Tryz.checked) (os := os) (X := fun w _ => laidMetH Tryz.prog laidL w) false (World.laidAll Tryz.prog os laidL) #[.agg #[.slice none 0 0, .int .i64 0, .int .i64 0], .int .i64 0, .int .i64 0, .int .i64 0] 8 (World.laidAll_os _ _ _)
      (World.shaped_of_ZipB (by kernel_rfl) (by kernel_rfl)) (by kernel_rfl) (by kernel_rfl) (by kernel_rfl)
      (by rw [MakeChecks.laidMetH_plain _ _ _ (by kernel_rfl)]; exact laidMet_laidAll _ (by kernel_rfl) (by kernel_rfl)))
    laidOut (by kernel_rfl) (by kernel_rfl) Tryz.underlying4 rfl (by kernel_rfl) (fun ds hl => by
      match ds, hl with
      | [a, b, c, d], _ => rfl) loose_calls
theorem loose_holds : Rows.DifferLooseSaid :=
  OpenClaim.holds_of_wide 9 Tryz.f9 rfl rfl rfl rfl rfl rfl rfl ⟨rfl, rfl, rfl, rfl, rfl⟩ rfl rfl rfl rfl rfl (by kernel_rfl) Tryz.func9 (by kernel_rfl)
    (of_decide_eq_true (by kernel_rfl)) (by unfold Func.isWrapper; first | (rw [if_pos (by decide +kernel)]; kernel_rfl) | (rw [if_neg (by decide +kernel)]; exact ⟨rfl, rfl⟩))
    (fun os started H enc _ => loose_lifted os started H enc)
theorem loose_card : Rows.DifferLooseCardSaid :=
  Claim7.holds_tied_plain_at .later [] [.data, .data, .data, .data, .pinned] true (true, "d10b68e6a0c25b14fab4c5b71042fa3c3e8e84e3c7cd95ea514fc863592e91e4") true loose_holds (fun _ h => by cases h) (by kernel_rfl) (fun _ h => by cases h) differLoose_row_tie rfl ⟨rfl, rfl⟩ (by kernel_rfl) rfl
    (fun f fn hf hfn => by
      obtain rfl : f = 9 := Option.some.inj ((show Tryz.prog.funcNamed "ephemerist/ephemeristlaw01.DifferLoose" = some 9 by kernel_rfl).symm.trans hf) |>.symm
      obtain rfl : fn = Tryz.f9 := (Option.some.inj (Tryz.func9.symm.trans hfn)).symm
      exact ⟨by kernel_rfl, fun j t ht => by
        rw [Tryz.params9] at ht
        have hm : t ∈ [24, 3, 3, 3] := by simpa using Array.mem_of_getElem? ht
        have hall : ([24, 3, 3, 3].all fun u => !Tryz.prog.wantsStandIn u) = true := by kernel_rfl
        exact (show Tryz.prog.wantsStandIn t = false by simpa using List.all_eq_true.1 hall t hm)⟩)
    (by kernel_rfl)
end Go.Vc

namespace Go.Proofs.YtknbgegcnfdnkaaGreatDoor
theorem law_DifferLooseCardSaid : Rows.DifferLooseCardSaid := Go.Vc.loose_card
end Go.Proofs.YtknbgegcnfdnkaaGreatDoor
