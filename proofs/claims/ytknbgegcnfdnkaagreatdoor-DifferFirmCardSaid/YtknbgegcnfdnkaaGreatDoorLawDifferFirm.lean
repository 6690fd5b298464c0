/- Proves that the statement DifferFirmCardSaid holds of the given program: for every input the law returns true and leaves its arguments as they were; under the row's own conditions, that the listed tables are laid as the program's text has them. -/
import Derived.Test.YtknbgegcnfdnkaaGreatDoorVz
import Derived.Test.YtknbgegcnfdnkaaGreatDoorDa
import Derived.Test.YtknbgegcnfdnkaaGreatDoorDd
import Derived.Test.YtknbgegcnfdnkaaGreatDoorVc27
set_option maxRecDepth 100000
namespace Go.Vc
open Go Go.Proofs Go.RowKit
def ann_law01_DifferFirm : Nat → List Nat := fun n => match n with  | _ => []
def vc_law01_DifferFirm_k0 (_P : Ctx) (pre : List ABlk) (r : AV) (post : List PB) (h0 : Heap) (v1 : AV) (v2 : AV) (v3 : AV) (h4 : Heap) (rd5 : List Nat) (v6 : AV) (v7 : AV) (h8 : Heap) (rd9 : List Nat) (h10 : Heap) (rd11 : List Nat) (v12 : AV) : Prop :=
  ORDX [] [0, 0, 0, 6, 14, 31, 0, 0, 0, 384, 896, 2047, 4095, 8191, 16383, 32767, 65535] [(0, wr h0 h0, (ids v1)), (3, wr h0 h0, (ids v2)), (4, wr h0 h0, (ids v3)), (5, wr h0 h4, rd5), (6, wr h4 h4, (ids v1)), (9, wr h4 h4, (ids v6)), (10, wr h4 h4, (ids v7)), (11, wr h4 h8, rd9), (14, wr h8 h10, rd11)] ∧
  POST v12 h10 pre r post
def vc_law01_DifferFirm_k1 (P : Ctx) (pre : List ABlk) (r : AV) (post : List PB) (v0 : AV) (v1 : AV) (h3 : Heap) (h7 : Heap) (v8 : AV) (v9 : AV) (v10 : AV) (h11 : Heap) (rd12 : List Nat) (v13 : AV) (v14 : AV) (rd15 : List Nat) : Prop :=
  BIN 0 .eql v0 v1 fun v2 =>
  CONDG v2
  (CALL P f_law01_known [] 1448 h3 (fun rd4 v5 h6 =>
  vc_law01_DifferFirm_k0 P pre r post h7 v8 v9 v10 h11 rd12 v13 v14 h3 rd15 h6 rd4 v5)
  (fun _ _ _ => False))
  (ORDX [] [0, 0, 0, 6, 14, 31, 0, 0, 0, 384, 896, 2047, 4095, 8191, 16383, 32767, 65535] [(0, wr h7 h7, (ids v8)), (3, wr h7 h7, (ids v9)), (4, wr h7 h7, (ids v10)), (5, wr h7 h11, rd12), (6, wr h11 h11, (ids v8)), (9, wr h11 h11, (ids v13)), (10, wr h11 h11, (ids v14)), (11, wr h11 h3, rd15)] ∧
  POST (.d (.bool false)) h3 pre r post)
def vc_law01_DifferFirm_k2 (P : Ctx) (pre : List ABlk) (r : AV) (post : List PB) (v0 : AV) (h1 : Heap) (v3 : AV) (a4 : AV) (v10 : AV) (h11 : Heap) (v12 : AV) (v13 : AV) (rd14 : List Nat) : Prop :=
  LOAD true 3 v0 h1 fun v2 =>
  IADDR 1 T_int v3 a4 h1 fun v5 =>
  LOAD false 1 v5 h1 fun v6 =>
  CALL P f_ref01_Figure [v2, v6] 1424 h1 (fun rd7 v8 h9 =>
  vc_law01_DifferFirm_k1 P pre r post v10 v8 h9 h11 v0 v12 v13 h1 rd14 v3 v5 rd7)
  (fun _ _ _ => False)
def vc_law01_DifferFirm_k3 (P : Ctx) (pre : List ABlk) (r : AV) (post : List PB) (v0 : AV) (v1 : AV) (h3 : Heap) (h7 : Heap) (v8 : AV) (v9 : AV) (v10 : AV) (h11 : Heap) (rd12 : List Nat) (v13 : AV) (v14 : AV) (rd15 : List Nat) : Prop :=
  BIN 0 .neq v0 v1 fun v2 =>
  CONDG v2
  (CALL P f_law01_known [] 1448 h3 (fun rd4 v5 h6 =>
  vc_law01_DifferFirm_k0 P pre r post h7 v8 v9 v10 h11 rd12 v13 v14 h3 rd15 h6 rd4 v5)
  (fun _ _ _ => False))
  (ORDX [] [0, 0, 0, 6, 14, 31, 0, 0, 0, 384, 896, 2047, 4095, 8191, 16383, 32767, 65535] [(0, wr h7 h7, (ids v8)), (3, wr h7 h7, (ids v9)), (4, wr h7 h7, (ids v10)), (5, wr h7 h11, rd12), (6, wr h11 h11, (ids v8)), (9, wr h11 h11, (ids v13)), (10, wr h11 h11, (ids v14)), (11, wr h11 h3, rd15)] ∧
  POST (.d (.bool false)) h3 pre r post)
def vc_law01_DifferFirm_k4 (P : Ctx) (pre : List ABlk) (r : AV) (post : List PB) (v0 : AV) (h1 : Heap) (v3 : AV) (a4 : AV) (v10 : AV) (h11 : Heap) (v12 : AV) (v13 : AV) (rd14 : List Nat) : Prop :=
  LOAD true 3 v0 h1 fun v2 =>
  IADDR 1 T_int v3 a4 h1 fun v5 =>
  LOAD false 1 v5 h1 fun v6 =>
  CALL P f_ref01_Figure [v2, v6] 1424 h1 (fun rd7 v8 h9 =>
  vc_law01_DifferFirm_k3 P pre r post v10 v8 h9 h11 v0 v12 v13 h1 rd14 v3 v5 rd7)
  (fun _ _ _ => False)
def vc_law01_DifferFirm_k5 (P : Ctx) (pre : List ABlk) (r : AV) (post : List PB) (v0 : AV) (h1 : Heap) (v3 : AV) (a4 : AV) (v10 : AV) : Prop :=
  LOAD true 3 v0 h1 fun v2 =>
  IADDR 1 T_int v3 a4 h1 fun v5 =>
  LOAD false 1 v5 h1 fun v6 =>
  CALL P f_ref01_Figure [v2, v6] 1376 h1 (fun rd7 v8 h9 =>
  vc_law01_DifferFirm_k2 P pre r post v0 h9 v10 a4 v8 h1 v3 v5 rd7)
  (fun _ _ _ => False)
def vc_law01_DifferFirm_k6 (P : Ctx) (pre : List ABlk) (r : AV) (post : List PB) (v0 : AV) (h1 : Heap) (v3 : AV) (a4 : AV) (v10 : AV) : Prop :=
  LOAD true 3 v0 h1 fun v2 =>
  IADDR 1 T_int v3 a4 h1 fun v5 =>
  LOAD false 1 v5 h1 fun v6 =>
  CALL P f_ref01_Figure [v2, v6] 1376 h1 (fun rd7 v8 h9 =>
  vc_law01_DifferFirm_k4 P pre r post v0 h9 v10 a4 v8 h1 v3 v5 rd7)
  (fun _ _ _ => False)
def vc_law01_DifferFirm_k7 (P : Ctx) (pre : List ABlk) (r : AV) (post : List PB) (v0 : AV) (h2 : Heap) (v3 : AV) (a4 : AV) (v8 : AV) (v9 : AV) (v10 : AV) (v11 : AV) (v12 : AV) : Prop :=
  NOT v0 fun v1 =>
  COND v1
  (POST (.d (.bool false)) h2 pre r post)
  (CALL P f_ref01_Listed [v3, a4] 1328 h2 (fun _rd5 v6 h7 =>
  COND v6
  (vc_law01_DifferFirm_k5 P pre r post v8 h7 v9 a4 v10)
  (vc_law01_DifferFirm_k6 P pre r post v8 h7 v11 a4 v12))
  (fun _ _ _ => False))
def vc_law01_DifferFirm_k8 (P : Ctx) (pre : List ABlk) (r : AV) (post : List PB) (v0 : AV) (h1 : Heap) (a2 : AV) (v3 : AV) (v5 : AV) (v9 : AV) (v10 : AV) (v11 : AV) (v12 : AV) (v13 : AV) : Prop :=
  CONDG v0
  (POST (.d (.bool false)) h1 pre r post)
  (BIN 0 .lss a2 v3 fun v4 =>
  CONDG v4
  (CALL P f_ref01_Listed [v5, a2] 1264 h1 (fun _rd6 v7 h8 =>
  vc_law01_DifferFirm_k7 P pre r post v7 h8 v5 a2 v9 v10 v11 v12 v13)
  (fun _ _ _ => False))
  (CALL P f_ref01_Listed [v5, a2] 1328 h1 (fun _rd14 v15 h16 =>
  COND v15
  (vc_law01_DifferFirm_k5 P pre r post v9 h16 v10 a2 v11)
  (vc_law01_DifferFirm_k6 P pre r post v9 h16 v12 a2 v13))
  (fun _ _ _ => False)))
def vc_law01_DifferFirm_k9 (P : Ctx) (pre : List ABlk) (r : AV) (post : List PB) (v0 : AV) (h2 : Heap) (v3 : AV) (v5 : AV) (v7 : AV) (v9 : AV) (v11 : AV) (v13 : AV) (v17 : AV) (v22 : AV) (v27 : AV) (v32 : AV) (v45 : AV) (a53 : AV) : Prop :=
  BIN 0 .neq v0 (.d (.num .i64 5)) fun v1 =>
  CONDG v1
  (POST (.d (.bool false)) h2 pre r post)
  (BIN 0 .neq v3 (.d (.num .i64 0)) fun v4 =>
  CONDG v4
  (POST (.d (.bool false)) h2 pre r post)
  (BIN 0 .neq v5 (.d (.num .i64 0)) fun v6 =>
  CONDG v6
  (POST (.d (.bool false)) h2 pre r post)
  (BIN 0 .neq v7 (.d (.num .i64 0)) fun v8 =>
  CONDG v8
  (POST (.d (.bool false)) h2 pre r post)
  (BIN 0 .neq v9 (.d (.num .i64 0)) fun v10 =>
  CONDG v10
  (POST (.d (.bool false)) h2 pre r post)
  (LEN false v11 h2 fun v12 =>
  FADDR 1 v13 h2 fun v14 =>
  LOAD false 1 v14 h2 fun v15 =>
  BIN 0 .gtr v12 v15 fun v16 =>
  CONDG v16
  (POST (.d (.bool false)) h2 pre r post)
  (LEN false v17 h2 fun v18 =>
  FADDR 1 v13 h2 fun v19 =>
  LOAD false 1 v19 h2 fun v20 =>
  BIN 0 .neq v18 v20 fun v21 =>
  CONDG v21
  (POST (.d (.bool false)) h2 pre r post)
  (LEN false v22 h2 fun v23 =>
  FADDR 1 v13 h2 fun v24 =>
  LOAD false 1 v24 h2 fun v25 =>
  BIN 0 .neq v23 v25 fun v26 =>
  CONDG v26
  (POST (.d (.bool false)) h2 pre r post)
  (LEN false v27 h2 fun v28 =>
  FADDR 1 v13 h2 fun v29 =>
  LOAD false 1 v29 h2 fun v30 =>
  BIN 0 .neq v28 v30 fun v31 =>
  CONDG v31
  (POST (.d (.bool false)) h2 pre r post)
  (LEN false v32 h2 fun v33 =>
  FADDR 1 v13 h2 fun v34 =>
  LOAD false 1 v34 h2 fun v35 =>
  BIN 0 .neq v33 v35 fun v36 =>
  COND v36
  (POST (.d (.bool false)) h2 pre r post)
  (BIN 0 .eql v0 (.d (.num .i64 5)) fun v37 =>
  LEN false v11 h2 fun v38 =>
  FADDR 1 v13 h2 fun v39 =>
  LOAD false 1 v39 h2 fun v40 =>
  BIN 0 .eql v38 v40 fun v41 =>
  BIN 999 .neq v37 v41 fun v42 =>
  CONDG v42
  (POST (.d (.bool false)) h2 pre r post)
  (BIN 0 .eql v0 (.d (.num .i64 0)) fun v43 =>
  CONDG v43
  (LOAD true 3 v13 h2 fun v44 =>
  CALL P f_ref01_Line [v44, v45] 1152 h2 (fun _rd46 v47 h48 =>
  NOT v47 fun v49 =>
  CONDG v49
  (POST (.d (.bool false)) h48 pre r post)
  (CALL P f_ref01_Listed [v11, v45] 1192 h48 (fun _rd50 v51 h52 =>
  vc_law01_DifferFirm_k8 P pre r post v51 h52 a53 v45 v11 v13 v17 v22 v27 v32)
  (fun _ _ _ => False)))
  (fun _ _ _ => False))
  (CALL P f_ref01_Listed [v11, a53] 1328 h2 (fun _rd54 v55 h56 =>
  COND v55
  (vc_law01_DifferFirm_k5 P pre r post v13 h56 v17 a53 v22)
  (vc_law01_DifferFirm_k6 P pre r post v13 h56 v27 a53 v32))
  (fun _ _ _ => False)))))))))))))
def vc_law01_DifferFirm_k10 (P : Ctx) (pre : List ABlk) (r : AV) (post : List PB) (v0 : AV) (h2 : Heap) (v3 : AV) (v5 : AV) (v7 : AV) (v9 : AV) (v11 : AV) (v15 : AV) (v20 : AV) (v25 : AV) (v30 : AV) (v35 : AV) (v44 : AV) (a52 : AV) : Prop :=
  BIN 0 .neq v0 (.d (.num .i64 0)) fun v1 =>
  CONDG v1
  (POST (.d (.bool false)) h2 pre r post)
  (BIN 0 .neq v3 (.d (.num .i64 0)) fun v4 =>
  CONDG v4
  (POST (.d (.bool false)) h2 pre r post)
  (BIN 0 .neq v5 (.d (.num .i64 0)) fun v6 =>
  CONDG v6
  (POST (.d (.bool false)) h2 pre r post)
  (BIN 0 .neq v7 (.d (.num .i64 0)) fun v8 =>
  CONDG v8
  (POST (.d (.bool false)) h2 pre r post)
  (LEN false v9 h2 fun v10 =>
  FADDR 1 v11 h2 fun v12 =>
  LOAD false 1 v12 h2 fun v13 =>
  BIN 0 .gtr v10 v13 fun v14 =>
  CONDG v14
  (POST (.d (.bool false)) h2 pre r post)
  (LEN false v15 h2 fun v16 =>
  FADDR 1 v11 h2 fun v17 =>
  LOAD false 1 v17 h2 fun v18 =>
  BIN 0 .neq v16 v18 fun v19 =>
  CONDG v19
  (POST (.d (.bool false)) h2 pre r post)
  (LEN false v20 h2 fun v21 =>
  FADDR 1 v11 h2 fun v22 =>
  LOAD false 1 v22 h2 fun v23 =>
  BIN 0 .neq v21 v23 fun v24 =>
  CONDG v24
  (POST (.d (.bool false)) h2 pre r post)
  (LEN false v25 h2 fun v26 =>
  FADDR 1 v11 h2 fun v27 =>
  LOAD false 1 v27 h2 fun v28 =>
  BIN 0 .neq v26 v28 fun v29 =>
  CONDG v29
  (POST (.d (.bool false)) h2 pre r post)
  (LEN false v30 h2 fun v31 =>
  FADDR 1 v11 h2 fun v32 =>
  LOAD false 1 v32 h2 fun v33 =>
  BIN 0 .neq v31 v33 fun v34 =>
  COND v34
  (POST (.d (.bool false)) h2 pre r post)
  (BIN 0 .eql v35 (.d (.num .i64 5)) fun v36 =>
  LEN false v9 h2 fun v37 =>
  FADDR 1 v11 h2 fun v38 =>
  LOAD false 1 v38 h2 fun v39 =>
  BIN 0 .eql v37 v39 fun v40 =>
  BIN 999 .neq v36 v40 fun v41 =>
  CONDG v41
  (POST (.d (.bool false)) h2 pre r post)
  (BIN 0 .eql v35 (.d (.num .i64 0)) fun v42 =>
  CONDG v42
  (LOAD true 3 v11 h2 fun v43 =>
  CALL P f_ref01_Line [v43, v44] 1152 h2 (fun _rd45 v46 h47 =>
  NOT v46 fun v48 =>
  CONDG v48
  (POST (.d (.bool false)) h47 pre r post)
  (CALL P f_ref01_Listed [v9, v44] 1192 h47 (fun _rd49 v50 h51 =>
  vc_law01_DifferFirm_k8 P pre r post v50 h51 a52 v44 v9 v11 v15 v20 v25 v30)
  (fun _ _ _ => False)))
  (fun _ _ _ => False))
  (CALL P f_ref01_Listed [v9, a52] 1328 h2 (fun _rd53 v54 h55 =>
  COND v54
  (vc_law01_DifferFirm_k5 P pre r post v11 h55 v15 a52 v20)
  (vc_law01_DifferFirm_k6 P pre r post v11 h55 v25 a52 v30))
  (fun _ _ _ => False))))))))))))
def vc_law01_DifferFirm_k11 (P : Ctx) (pre : List ABlk) (r : AV) (post : List PB) (v0 : AV) (h3 : Heap) (v4 : AV) (h5 : Heap) (rd6 : List Nat) (h7 : Heap) (rd8 : List Nat) (v9 : AV) (v11 : AV) (v13 : AV) (v14 : AV) (v15 : AV) (v16 : AV) (v17 : AV) (v18 : AV) (v19 : AV) (v20 : AV) (a21 : AV) : Prop :=
  EXT v0 0 fun v1 =>
  EXT v0 1 fun v2 =>
  ORDX [] [0, 0, 2, 7, 15, 31, 31, 63, 255] [(0, wr h3 h3, (ids v4)), (1, wr h3 h3, (ids v4)), (2, wr h3 h5, rd6), (3, wr h5 h7, rd8)] ∧
  BIN 0 .neq v9 (.d (.num .i64 0)) fun v10 =>
  CONDG v10
  (POST (.d (.bool false)) h7 pre r post)
  (BIN 0 .neq v11 (.d (.num .i64 0)) fun v12 =>
  CONDG v12
  (vc_law01_DifferFirm_k9 P pre r post v11 h7 v13 v14 v15 v2 v16 v4 v17 v18 v19 v1 v20 a21)
  (vc_law01_DifferFirm_k10 P pre r post v13 h7 v14 v15 v2 v16 v4 v17 v18 v19 v1 v11 v20 a21))
def vc_law01_DifferFirm_k12 (P : Ctx) (pre : List ABlk) (r : AV) (post : List PB) (v0 : AV) (h3 : Heap) (v4 : AV) (h5 : Heap) (rd6 : List Nat) (h7 : Heap) (rd8 : List Nat) (v17 : AV) (v18 : AV) (v19 : AV) (v20 : AV) (v21 : AV) (v22 : AV) (v23 : AV) (v24 : AV) (a25 : AV) : Prop :=
  EXT v0 0 fun v1 =>
  EXT v0 1 fun v2 =>
  ORDX [] [0, 0, 2, 7, 15, 31, 31, 63, 255] [(0, wr h3 h3, (ids v4)), (1, wr h3 h3, (ids v4)), (2, wr h3 h5, rd6), (3, wr h5 h7, rd8)] ∧
  LOAD true 3 v4 h7 fun v9 =>
  LOAD true 3 v4 h7 fun v10 =>
  CALL P f_ref01_Highs [v10] 496 h7 (fun rd11 v12 h13 =>
  CALL P f_differ_Table [v9, v12] 504 h13 (fun rd14 v15 h16 =>
  vc_law01_DifferFirm_k11 P pre r post v15 h7 v4 h13 rd11 h16 rd14 v17 v18 v19 v20 v2 v21 v22 v23 v1 v24 a25)
  (fun _ _ _ => False))
  (fun _ _ _ => False)
def vc_law01_DifferFirm_k13 (P : Ctx) (pre : List ABlk) (r : AV) (post : List PB) (v0 : AV) (v3 : AV) (h4 : Heap) (v13 : AV) (v14 : AV) (v15 : AV) (v16 : AV) (v17 : AV) (v18 : AV) (a19 : AV) : Prop :=
  EXT v0 0 fun v1 =>
  EXT v0 1 fun v2 =>
  LOAD true 3 v3 h4 fun v5 =>
  LOAD true 3 v3 h4 fun v6 =>
  CALL P f_ref01_Lows [v6] 424 h4 (fun rd7 v8 h9 =>
  CALL P f_differ_Table [v5, v8] 432 h9 (fun rd10 v11 h12 =>
  vc_law01_DifferFirm_k12 P pre r post v11 h4 v3 h9 rd7 h12 rd10 v13 v14 v15 v2 v16 v17 v1 v18 a19)
  (fun _ _ _ => False))
  (fun _ _ _ => False)
def vc_law01_DifferFirm_k14 (P : Ctx) (pre : List ABlk) (r : AV) (post : List PB) (v0 : AV) (v3 : AV) (h4 : Heap) (a6 : AV) (a13 : AV) (v17 : AV) (v18 : AV) (a19 : AV) : Prop :=
  EXT v0 0 fun v1 =>
  EXT v0 1 fun v2 =>
  LOAD true 3 v3 h4 fun v5 =>
  CALL P f_differ_Table [v5, a6] 296 h4 (fun _rd7 v8 h9 =>
  EXT v8 0 fun v10 =>
  EXT v8 1 fun v11 =>
  LOAD true 3 v3 h9 fun v12 =>
  CALL P f_differ_Table [v12, a13] 360 h9 (fun _rd14 v15 h16 =>
  vc_law01_DifferFirm_k13 P pre r post v15 v3 h16 v17 v2 v11 v18 v10 v1 a19)
  (fun _ _ _ => False))
  (fun _ _ _ => False)
def vc_law01_DifferFirm_k15 (P : Ctx) (pre : List ABlk) (r : AV) (post : List PB) (v0 : AV) (h2 : Heap) (v6 : AV) (a17 : AV) (a18 : AV) (a19 : AV) : Prop :=
  NOT v0 fun v1 =>
  COND v1
  (CALL P f_law01_known [] 168 h2 (fun _rd3 v4 h5 =>
  POST v4 h5 pre r post)
  (fun _ _ _ => False))
  (LOAD true 3 v6 h2 fun v7 =>
  CALL P f_differ_Sure [v7] 176 h2 (fun _rd8 v9 h10 =>
  EXT v9 0 fun v11 =>
  EXT v9 1 fun v12 =>
  LOAD true 3 v6 h10 fun v13 =>
  CALL P f_differ_Doubt [v13] 232 h10 (fun _rd14 v15 h16 =>
  vc_law01_DifferFirm_k14 P pre r post v15 v6 h16 a17 a18 v12 v11 a19)
  (fun _ _ _ => False))
  (fun _ _ _ => False))
def vc_law01_DifferFirm_k16 (P : Ctx) (pre : List ABlk) (r : AV) (post : List PB) (v0 : AV) (h2 : Heap) (v6 : AV) (a8 : AV) (a12 : AV) (a13 : AV) : Prop :=
  NOT v0 fun v1 =>
  CONDG v1
  (CALL P f_law01_known [] 168 h2 (fun _rd3 v4 h5 =>
  POST v4 h5 pre r post)
  (fun _ _ _ => False))
  (LOAD true 3 v6 h2 fun v7 =>
  CALL P f_ref01_Line [v7, a8] 144 h2 (fun _rd9 v10 h11 =>
  vc_law01_DifferFirm_k15 P pre r post v10 h11 v6 a12 a13 a8)
  (fun _ _ _ => False))
def vc_law01_DifferFirm_k17 (P : Ctx) (pre : List ABlk) (r : AV) (post : List PB) (v0 : AV) (h2 : Heap) (v6 : AV) (a8 : AV) (a12 : AV) (a13 : AV) : Prop :=
  NOT v0 fun v1 =>
  CONDG v1
  (CALL P f_law01_known [] 168 h2 (fun _rd3 v4 h5 =>
  POST v4 h5 pre r post)
  (fun _ _ _ => False))
  (LOAD true 3 v6 h2 fun v7 =>
  CALL P f_law01_right [v7, a8] 96 h2 (fun _rd9 v10 h11 =>
  vc_law01_DifferFirm_k16 P pre r post v10 h11 v6 a12 a13 a8)
  (fun _ _ _ => False))
def vc_law01_DifferFirm (P : Ctx) (pre : List ABlk) (a0 a1 a2 a3 : AV) (r : AV) (post : List PB) : Prop :=
  let h0 : Heap := numbered 0 pre
  BOX T_api_DifferPlan a0 24 h0 fun v4 h1 =>
  LOAD true 3 v4 h1 fun v21 =>
  CALL P f_law01_right [v21, a1] 56 h1 (fun _rd3 v23 h2 =>
  vc_law01_DifferFirm_k17 P pre r post v23 h2 v4 a2 a3 a1)
  (fun _ _ _ => False)
theorem vc_law01_DifferFirm_eq (g : GG) (pre : List ABlk) (a0 a1 a2 a3 : AV) (r : AV) (post : List PB) : vcFn2 (Tz g) false ann_law01_DifferFirm Tryz.f7 pre [a0, a1, a2, a3] (.ret r) post = vc_law01_DifferFirm (Tz g) pre a0 a1 a2 a3 r post := by kernel_rfl
theorem hf_law01_DifferFirm : Tryz.prog.funcs[f_law01_DifferFirm]? = some Tryz.f7 := by kernel_rfl
theorem ok_law01_DifferFirm : fnVcOK Tryz.prog Tryz.f7 = true := by kernel_rfl
theorem nt_law01_DifferFirm : Nat.ble 4 Tryz.f7.ntmps = true := by kernel_rfl
theorem meetsH_law01_DifferFirm {g : GG} {pre : List ABlk} {a0 a1 a2 a3 : AV} {r : AV} {post : List PB} (hk : Nat.ble pre.length 24 = true) (h : vc_law01_DifferFirm (Tz g) pre a0 a1 a2 a3 r post) : MeetsH (Tz g) f_law01_DifferFirm pre [a0, a1, a2, a3] (.ret r) post :=
  meetsH_of_vc (C := Tz g) ann_law01_DifferFirm hf_law01_DifferFirm ok_law01_DifferFirm nt_law01_DifferFirm hk (pn := false) (Eq.mpr ((vcFn2_eq _ _ _ _ _ _ _ _).trans (vc_law01_DifferFirm_eq g pre a0 a1 a2 a3 r post)) h)
theorem meets_law01_DifferFirm {g : GG} {a0 a1 a2 a3 : D} {r : Res} (h : vc_law01_DifferFirm (Tz g) [] (.d a0) (.d a1) (.d a2) (.d a3) r.val (r.bl.map .upd)) : Meets (Tz g) f_law01_DifferFirm [a0, a1, a2, a3] r := meetsH_law01_DifferFirm rfl h
end Go.Vc

namespace Go.Vc
open Go Go.Proofs
variable {g : GG}
attribute [local simp] and_assoc
set_option maxHeartbeats 2000000 in
theorem firm_meets (hg : GOK g) (p : Plan) (t u : List Int) (row : Int) (_ : ∀ n, n ∈ t → -9223372036854775808 ≤ n ∧ n ≤ 9223372036854775807) (_ : ∀ n, n ∈ u → -9223372036854775808 ≤ n ∧ n ≤ 9223372036854775807) (_ : -9223372036854775808 ≤ row ∧ row ≤ 9223372036854775807) : Meets (Tz g) f_law01_DifferFirm [p.d, ints t, ints u, int row] ⟨.d (.bool true), []⟩ := by
  refine meets_law01_DifferFirm ?_
  unfold vc_law01_DifferFirm
  simp [Plan.d, spans, ints]
  refine CALL.val [p.d, ints t] _ rfl (law01_right_meets p t) (.inl rfl) ?_
  simp [vc_law01_DifferFirm_k17]
  constructor
  · intro h
    exact known_call hg (by simp)
  · intro h
    simp [rightB] at h
    obtain ⟨b1, b2, b3, b4⟩ := h
    obtain ⟨a1, a2, a3, a4, a5⟩ := Plan.ok_len b3
    refine CALL.val [p.d, ints u] _ rfl (law01_right_meets p u) (.inl rfl) ?_
    simp [vc_law01_DifferFirm_k16]
    constructor
    · intro h
      exact known_call hg (by simp)
    · intro h
      simp [rightB] at h
      obtain ⟨_, d2, _, d4⟩ := h
      refine CALL.val [p.d, int row] _ rfl (ref01_Line_meets p row ⟨a3, a4⟩) (.inl rfl) ?_
      simp [vc_law01_DifferFirm_k15]
      constructor
      · intro h
        exact known_call hg (by simp)
      · intro h
        simp [inB] at h
        obtain ⟨k, rfl⟩ : ∃ k : Nat, row = k := ⟨row.toNat, by omega⟩
        obtain ⟨n, hn⟩ : ∃ n : Nat, p.rows = n := ⟨p.rows.toNat, by omega⟩
        obtain ⟨m, hm⟩ : ∃ m : Nat, p.guard = m := ⟨p.guard.toNat, by have := b3; simp [Plan.ok, inB] at this; omega⟩
        have hm3 : m ≤ 3 := by have := b3; simp [Plan.ok, inB] at this; omega
        have hkn : k < n := by omega
        have hlt := within_length b4
        have hlu := within_length d4
        have hh : ∀ t : List Int, (heads t n).length = n := fun t => by simp [heads]
        have hsl := sureL_len p n hn
        have hD := differ_Doubt_meets (g := g) p b3
        have hds := doubt_sure p n hn
        refine CALL.mk [p.d] _ rfl (differ_Sure_meets p b3) (.inl rfl) (by simp) ?_
        simp
        refine CALL.mk [p.d] _ rfl hD (.inl rfl) (by simp) ?_
        simp [vc_law01_DifferFirm_k14]
        refine CALL.mk [p.d, ints t] _ rfl (differ_Table_ok p t b3 b4) (.inl rfl) (by simp) ?_
        simp
        refine CALL.mk [p.d, ints u] _ rfl (differ_Table_ok p u b3 d4) (.inl rfl) (by simp) ?_
        simp [vc_law01_DifferFirm_k13]
        refine CALL.mk [p.d] _ rfl (ref01_Lows_meets p (by omega)) (.inl rfl) (by simp) ?_
        simp
        refine CALL.mk [p.d, ints (lows p)] _ (by simp [Plan.d, spans, ints]) (differ_Table_ok p (lows p) b3 (lows_within b3)) (.inr (by simp [Res.flatP, AV.flatB, AV.flatB.flatL, blksFlat, Body.flatP, D.flatB])) (by simp) ?_
        simp [vc_law01_DifferFirm_k12]
        refine ⟨rfl, ?_⟩
        refine CALL.mk [p.d] _ rfl (ref01_Highs_meets p (by omega)) (.inl rfl) (by simp) ?_
        simp
        refine CALL.mk [p.d, ints (highs p)] _ (by simp [Plan.d, spans, ints]) (differ_Table_ok p (highs p) b3 (highs_within b3)) (.inr (by simp [Res.flatP, AV.flatB, AV.flatB.flatL, blksFlat, Body.flatP, D.flatB])) (by simp) ?_
        have h1 := after_head t k (by omega)
        have h1' := after_head u k (by omega)
        have h2 := after_head (lows p) k (by rw [lows_len]; omega)
        have h3 := after_head (highs p) k (by rw [highs_len]; omega)
        have h4 := val_low b4 k
        have h5 := val_high b4 k
        have h4' := val_low d4 k
        have h5' := val_high d4 k
        have g0 : (heads t n)[k]? = some ((afterL k t).headD 0) := by simp [heads, hkn]
        have g0' : (heads u n)[k]? = some ((afterL k u).headD 0) := by simp [heads, hkn]
        have g1 : (heads (lows p) n)[k]? = some ((afterL k (lows p)).headD 0) := by simp [heads, hkn]
        have g2 : (heads (highs p) n)[k]? = some ((afterL k (highs p)).headD 0) := by simp [heads, hkn]
        have hsf := sure_fig p n k hn hkn
        have hb := rows_bound b3 (List.mem_of_getElem? (rowsL_get p n k hn hkn))
        generalize (afterL k t).headD 0 = x at h1 g0
        generalize (afterL k u).headD 0 = y at h1' g0'
        generalize (afterL k (lows p)).headD 0 = lo at h2 g1 hsf hb
        generalize (afterL k (highs p)).headD 0 = hi at h3 g2 hsf hb
        simp at hb
        have hu : 1 ≤ unitL p := by unfold unitL; rw [hm]; exact (pow10_le m hm3).1
        have f1 := figL_mono (unitL p) lo x hu (by omega)
        have f2 := figL_mono (unitL p) x hi hu (by omega)
        have f3 := figL_mono (unitL p) lo y hu (by omega)
        have f4 := figL_mono (unitL p) y hi hu (by omega)
        have hk1 : ∀ b : Prop, (k < n ∧ b) = b := fun b => propext (and_iff_right hkn)
        have hpd : (AV.d (D.agg [D.list (List.map Sp.d p.starts), int (n : Int), int p.guard])) = AV.d p.d := by simp [Plan.d, spans, hn]
        have tail : CALL (Tz g) f_ref01_Listed [.own 176 0, .d (int k)] 1328
            [(504, some ⟨0, T_int, .lst (List.map int (heads (highs p) n))⟩), (496, some ⟨0, T_int, .lst (List.map int (highs p))⟩), (432, some ⟨0, T_int, .lst (List.map int (heads (lows p) n))⟩), (424, some ⟨0, T_int, .lst (List.map int (lows p))⟩),
             (360, some ⟨0, T_int, .lst (List.map int (heads u n))⟩), (296, some ⟨0, T_int, .lst (List.map int (heads t n))⟩), (176, some ⟨0, T_int, .lst (List.map int (sureL p))⟩), (24, some ⟨0, T_api_DifferPlan, .box [.d (.list (List.map Sp.d p.starts)), .d (int n), .d (int p.guard)]⟩)]
            (fun _ v h => COND v (vc_law01_DifferFirm_k5 (Tz g) [] (.d (.bool true)) [] (.ptr 24 0 0 0) h (.own 296 0) (.d (int k)) (.own 360 0)) (vc_law01_DifferFirm_k6 (Tz g) [] (.d (.bool true)) [] (.ptr 24 0 0 0) h (.own 432 0) (.d (int k)) (.own 504 0))) (fun _ _ _ => False) := by
          refine CALL.val [ints (sureL p), int k] _ (by simp [ints]) (ref01_Listed_meets _ _ (by omega)) (.inr rfl) ?_
          simp
          constructor
          · intro hin
            have hf := hsf.1 hin
            have e : figL (unitL p) x = figL (unitL p) y := by omega
            simp [vc_law01_DifferFirm_k5, g0, hh, hk1]
            refine CALL.val [p.d, int x] _ (by simp [Plan.d, spans, hn]) (ref01_Figure_meets p x m hm hm3 (by omega)) (.inl rfl) ?_
            simp [vc_law01_DifferFirm_k2, g0', hh, hk1]
            refine CALL.val [p.d, int y] _ (by simp [Plan.d, spans, hn]) (ref01_Figure_meets p y m hm hm3 (by omega)) (.inl rfl) ?_
            simp [vc_law01_DifferFirm_k1, e]
            refine known_call hg ?_
            simp [vc_law01_DifferFirm_k0]
            rfl
          · intro hnot
            have hf : ¬ figL (unitL p) lo = figL (unitL p) hi := fun e => hnot (hsf.2 e)
            simp [vc_law01_DifferFirm_k6, g1, hh, hk1]
            refine CALL.val [p.d, int lo] _ (by simp [Plan.d, spans, hn]) (ref01_Figure_meets p lo m hm hm3 (by omega)) (.inl rfl) ?_
            simp [vc_law01_DifferFirm_k4, g2, hh, hk1]
            refine CALL.val [p.d, int hi] _ (by simp [Plan.d, spans, hn]) (ref01_Figure_meets p hi m hm hm3 (by omega)) (.inl rfl) ?_
            simp [vc_law01_DifferFirm_k3, hf]
            refine known_call hg ?_
            simp [vc_law01_DifferFirm_k0]
            rfl
        by_cases hd : doubtL p < 0
        · have hS := hds.1 hd
          simp [vc_law01_DifferFirm_k11, vc_law01_DifferFirm_k9, hd, hn, hh, hS]
          exact ⟨rfl, tail⟩
        · obtain ⟨d, e1, e2, e3, e4⟩ := doubt_first p n hn hd
          have hS : ¬ ((sureL p).length : Int) = (n : Int) := fun h => hd (hds.2 (by omega))
          have hd0 : ¬ (d : Int) < 0 := by omega
          have hib : inB (d : Int) 0 ((n : Int) - 1) = true := by simp [inB]; omega
          simp [vc_law01_DifferFirm_k11, vc_law01_DifferFirm_k10, e1, hd0, hn, hh, hS, hsl]
          refine ⟨rfl, ?_⟩
          refine CALL.val [p.d, int d] _ (by simp [Plan.d, spans, hn]) (ref01_Line_meets p d ⟨a3, a4⟩) (.inl rfl) ?_
          simp [hn, hib]
          refine CALL.val [ints (sureL p), int d] _ (by simp [ints]) (ref01_Listed_meets _ _ (by omega)) (.inr rfl) ?_
          simp [vc_law01_DifferFirm_k8, e3]
          constructor
          · intro hkd
            refine CALL.val [ints (sureL p), int k] _ (by simp [ints]) (ref01_Listed_meets _ _ (by omega)) (.inr rfl) ?_
            simp [vc_law01_DifferFirm_k7, e4 k (by omega)]
            exact tail
          · intro hkd
            exact tail
end Go.Vc

namespace Go.Vc
open Go Go.RowKit Go.ChangeShapes Go.WideShapes Go.ChangeAt Go.Proofs Go.Proofs.YtknbgegcnfdnkaaGreatDoor
theorem firm_calls {H : Type} {enc : TypeId × Value → H} (W : World) (base : Nat) (args : Array Value) (ds : List (DataW H)) (ps : List MemPlace) (hval : ∀ (j : Nat) t v, Tryz.f7.params[j]? = some t → args[j]? = some v → Value.okWide Tryz.prog W .any base t v)
    (hA : DataW.TrodAll enc Tryz.prog W 0 (fun _ => true) true Tryz.f7.params.toList args.toList ds ps) (hL : laidMetH Tryz.prog laidL W) (hsh : W.ShapedOpen Tryz.prog) : Calls Tryz.prog 7 args W fun e W' => e = .returned (.bool true) ∧ Below W.heap.size W W' := by
  rw [Tryz.params7] at hA hval
  obtain ⟨v0, v1, v2, v3, d0, d1, d2, d3, p0, p1, p2, p3, rfl, rfl, rfl, h0, h1, h2, h3⟩ := trodAll_four hA
  obtain ⟨x0, g0⟩ := open_plan (hval 0 24 v0 rfl rfl) h0
  obtain ⟨x1, g1, b1⟩ := open_ints' (hval 1 25 v1 rfl rfl) h1
  obtain ⟨x2, g2, b2⟩ := open_ints' (hval 2 25 v2 rfl rfl) h2
  obtain ⟨x3, g3, b3⟩ := open_int' (hval 3 3 v3 rfl rfl) h3
  exact law_calls (C := Tz (gW W)) (firm_meets (gok hL hsh) x0 x1 x2 x3 b1 b2 b3) rfl (Below.refl _ _) (us := [v0, v1, v2, v3]) rfl (fun i d u hd hu => by
    match i, hd, hu with
    | 0, hd, hu => simp at hd hu; subst hd; subst hu; exact g0
    | 1, hd, hu => simp at hd hu; subst hd; subst hu; exact g1
    | 2, hd, hu => simp at hd hu; subst hd; subst hu; exact g2
    | 3, hd, hu => simp at hd hu; subst hd; subst hu; exact g3
    | i + 4, hd, hu => simp at hd)
theorem firm_lifted (os : Os) (started : os.Started) (H : Type) (enc : TypeId × Value → H) :
    ReturnsInHanded {} Tryz.checked os 7 .any (fun w args => (Rows.differFirmSpec.pre enc Tryz.prog Tryz.f7 [] false w args ∧ laidMetH Tryz.prog laidL w) ∧ sizedMet enc Tryz.prog Tryz.f7 (OpenSpec.ofChange Rows.differFirmSpec) false w args)
      (Rows.differFirmSpec.post enc Tryz.prog Tryz.f7 false true false false) :=
  law_lifted (C := Tryz.checked) (tb := 4) (n := 4) started own (by kernel_rfl) Tryz.func7
    (ChangeSpec.witness_shaped (enc := enc) (C := Tryz.checked) (os := os) (X := fun w _ => laidMetH Tryz.prog laidL w) false (World.laidAll Tryz.prog os laidL) #[.agg #[.slice none 0 0, .int .i64 0, .int .i64 0], .slice none 0 0, .slice none 0 0, .int .i64 0] 8 (World.laidAll_os _ _ _)
      (World.shaped_of_ZipB (by kernel_rfl) (by kernel_rfl)) (by kernel_rfl) (by kernel_rfl) (by kernel_rfl)
      (by rw [MakeChecks.laidMetH_plain _ _ _ (by kernel_rfl)]; exact laidMet_laidAll _ (by kernel_rfl) (by kernel_rfl)))
    laidOut (by kernel_rfl) (by kernel_rfl) Tryz.underlying4 rfl (by kernel_rfl) (fun ds hl => by
      match ds, hl with
      | [a, b, c, d], _ => rfl) firm_calls
theorem firm_holds : Rows.DifferFirmSaid :=
  OpenClaim.holds_of_wide 7 Tryz.f7 rfl rfl rfl rfl rfl rfl rfl ⟨rfl, rfl, rfl, rfl, rfl⟩ rfl rfl rfl rfl rfl (by kernel_rfl) Tryz.func7 (by kernel_rfl)
    (of_decide_eq_true (by kernel_rfl)) (by unfold Func.isWrapper; first | (rw [if_pos (by decide +kernel)]; kernel_rfl) | (rw [if_neg (by decide +kernel)]; exact ⟨rfl, rfl⟩))
    (fun os started H enc _ => firm_lifted os started H enc)
theorem firm_card : Rows.DifferFirmCardSaid :=
  Claim7.holds_tied_plain_at .later [] [.data, .data, .data, .data, .pinned] true (true, "d10b68e6a0c25b14fab4c5b71042fa3c3e8e84e3c7cd95ea514fc863592e91e4") true firm_holds (fun _ h => by cases h) (by kernel_rfl) (fun _ h => by cases h) differFirm_row_tie rfl ⟨rfl, rfl⟩ (by kernel_rfl) rfl
    (fun f fn hf hfn => by
      obtain rfl : f = 7 := Option.some.inj ((show Tryz.prog.funcNamed "ephemerist/ephemeristlaw01.DifferFirm" = some 7 by kernel_rfl).symm.trans hf) |>.symm
      obtain rfl : fn = Tryz.f7 := (Option.some.inj (Tryz.func7.symm.trans hfn)).symm
      exact ⟨by kernel_rfl, fun j t ht => by
        rw [Tryz.params7] at ht
        have hm : t ∈ [24, 25, 25, 3] := by simpa using Array.mem_of_getElem? ht
        have hall : ([24, 25, 25, 3].all fun u => !Tryz.prog.wantsStandIn u) = true := by kernel_rfl
        exact (show Tryz.prog.wantsStandIn t = false by simpa using List.all_eq_true.1 hall t hm)⟩)
    (by kernel_rfl)
end Go.Vc

namespace Go.Proofs.YtknbgegcnfdnkaaGreatDoor
theorem law_DifferFirmCardSaid : Rows.DifferFirmCardSaid := Go.Vc.firm_card
end Go.Proofs.YtknbgegcnfdnkaaGreatDoor
