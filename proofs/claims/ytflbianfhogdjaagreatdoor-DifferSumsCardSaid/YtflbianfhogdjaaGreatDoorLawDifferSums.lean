/- Proves that the statement DifferSumsCardSaid holds of the given program: for every input the law returns true and leaves its arguments as they were; under the row's own conditions, that the listed tables are laid as the program's text has them. -/
import Derived.Test.YtflbianfhogdjaaGreatDoorVc22
import Derived.Test.YtflbianfhogdjaaGreatDoorVc11
import Derived.Test.YtflbianfhogdjaaGreatDoorVc49
import Derived.Test.YtflbianfhogdjaaGreatDoorVc30
import Derived.Test.YtflbianfhogdjaaGreatDoorVc39
set_option maxRecDepth 100000
namespace Go.Vc
open Go Go.Proofs Go.RowKit
def ann_law01_DifferSums : Nat → List Nat := fun n => match n with | 6 => [1, 2, 3, 5, 6, 10, 13, 14, 15] | 20 => [3, 5, 6, 10, 13, 14, 16, 18, 20, 23, 25] | 30 => [6, 16, 18, 26, 28] | _ => []
def vc_law01_DifferSums_k0 (P : Ctx) (pre : List ABlk) (r : AV) (post : List PB) (v0 : AV) (h1 : Heap) (v4 : AV) (vs7 : List AV) (h10 : Heap) (v11 : AV) (v12 : AV) (v13 : AV) (v14 : AV) (v15 : AV) (rd16 : List Nat) (next18 : List AV → Heap → Prop) (v19 : AV) : Prop :=
  MKS T_api_Span 2 [v0] 872 h1 fun v2 h3 =>
  APP T_api_Span 2 v4 v2 880 h3 fun v5 h6 =>
  FADDR 0 (nth vs7 7) h6 fun v8 =>
  STORE 1 v8 v5 h6 fun h9 =>
  ORDX [] [0, 1, 0, 0, 12, 28, 0, 0, 192, 448, 1020, 0, 0, 6144, 14336, 0, 0, 98304, 229376, 522240, 1048572, 2097148, 4194303, 8388607, 16777215] [(0, wr h10 h10, (ids (nth vs7 7))), (1, wr h10 h10, (ids v11)), (4, wr h10 h10, (ids (nth vs7 0))), (5, wr h10 h10, (ids v12)), (8, wr h10 h10, (ids (nth vs7 1))), (9, wr h10 h10, (ids v13)), (13, wr h10 h10, (ids (nth vs7 0))), (14, wr h10 h10, (ids v14)), (17, wr h10 h10, (ids (nth vs7 1))), (18, wr h10 h10, (ids v15)), (20, wr h10 h1, rd16), (21, wr h1 h3, (ids.idsL [v0])), (22, wr h3 h6, (ids.idsL [v4, v2])), (23, wr h6 h6, (ids (nth vs7 7))), (24, wr h6 h9, (ids v8))] ∧
  BIN 0 .add (nth vs7 8) (.d (.num .i64 1)) fun v17 =>
  next18 [(nth vs7 0), (nth vs7 1), (nth vs7 2), (nth vs7 3), (nth vs7 4), (nth vs7 5), v19, (nth vs7 7), v17] h9
def vc_law01_DifferSums_k1 (P : Ctx) (pre : List ABlk) (r : AV) (post : List PB) (vs0 : List AV) (h1 : Heap) (v7 : AV) (v8 : AV) (v9 : AV) (v10 : AV) (v11 : AV) (v12 : AV) (v13 : AV) (v14 : AV) (v15 : AV) (v16 : AV) (v17 : AV) (next19 : List AV → Heap → Prop) : Prop :=
  IADDR 2 T_api_Span (nth vs0 9) (nth vs0 10) h1 fun v2 =>
  LOAD true 2 v2 h1 fun v3 =>
  IADDR 2 T_api_Span (nth vs0 8) (nth vs0 10) h1 fun v4 =>
  LOAD true 2 v4 h1 fun v5 =>
  BIN 1002 .neq v3 v5 fun v6 =>
  ORDX [] [0, 0, 3, 7, 15, 0, 0, 96, 224, 480, 1023, 2047, 4095, 4095, 16383, 32767, 65535, 4095, 4095, 397311, 921599, 1970175, 4194303, 8388607, 16777215, 33554431, 33554431, 100663295, 33554431, 503316479, 1040187391, 2147483647, 4294967295, 8589934591, 8589934591, 34359738367, 68719476735, 8589934591, 8589934591, 420906795007, 970662608895, 2199023255551, 4398046511103, 8796093022207] [(2, wr h1 h1, (ids (nth vs0 9))), (3, wr h1 h1, (ids v7)), (4, wr h1 h1, (ids v8)), (7, wr h1 h1, (ids (nth vs0 8))), (8, wr h1 h1, (ids v9)), (9, wr h1 h1, (ids v10)), (14, wr h1 h1, (ids (nth vs0 9))), (15, wr h1 h1, (ids v11)), (16, wr h1 h1, (ids v12)), (19, wr h1 h1, (ids (nth vs0 8))), (20, wr h1 h1, (ids v13)), (21, wr h1 h1, (ids v14)), (25, wr h1 h1, (ids (nth vs0 3))), (26, wr h1 h1, (ids (nth vs0 2))), (27, wr h1 h1, (ids v15)), (29, wr h1 h1, (ids v16)), (30, wr h1 h1, (ids v17)), (35, wr h1 h1, (ids (nth vs0 9))), (36, wr h1 h1, (ids v2)), (39, wr h1 h1, (ids (nth vs0 8))), (40, wr h1 h1, (ids v4))] ∧
  COND v6
  (POST (.d (.bool false)) h1 pre r post)
  (BIN 0 .add (nth vs0 10) (.d (.num .i64 1)) fun v18 =>
  next19 [(nth vs0 0), (nth vs0 1), (nth vs0 2), (nth vs0 3), (nth vs0 4), (nth vs0 5), (nth vs0 6), (nth vs0 7), (nth vs0 8), (nth vs0 9), v18] h1)
def vc_law01_DifferSums_k2 (P : Ctx) (pre : List ABlk) (r : AV) (post : List PB) (h0 : Heap) (vs1 : List AV) (v2 : AV) (v3 : AV) (v4 : AV) (v5 : AV) (v6 : AV) (v7 : AV) (v8 : AV) (v9 : AV) (v10 : AV) (v11 : AV) (v12 : AV) (next14 : List AV → Heap → Prop) : Prop :=
  ORDX [] [0, 0, 3, 7, 15, 0, 0, 96, 224, 480, 1023, 2047, 4095, 4095, 16383, 32767, 65535, 4095, 4095, 397311, 921599, 1970175, 4194303, 8388607, 16777215, 33554431, 33554431, 100663295, 33554431, 503316479, 1040187391, 2147483647, 4294967295, 8589934591, 8589934591, 34359738367, 68719476735, 8589934591, 8589934591, 420906795007, 970662608895, 2199023255551, 4398046511103, 8796093022207] [(2, wr h0 h0, (ids (nth vs1 9))), (3, wr h0 h0, (ids v2)), (4, wr h0 h0, (ids v3)), (7, wr h0 h0, (ids (nth vs1 8))), (8, wr h0 h0, (ids v4)), (9, wr h0 h0, (ids v5)), (14, wr h0 h0, (ids (nth vs1 9))), (15, wr h0 h0, (ids v6)), (16, wr h0 h0, (ids v7)), (19, wr h0 h0, (ids (nth vs1 8))), (20, wr h0 h0, (ids v8)), (21, wr h0 h0, (ids v9)), (25, wr h0 h0, (ids (nth vs1 3))), (26, wr h0 h0, (ids (nth vs1 2))), (27, wr h0 h0, (ids v10)), (29, wr h0 h0, (ids v11)), (30, wr h0 h0, (ids v12))] ∧
  BIN 0 .add (nth vs1 10) (.d (.num .i64 1)) fun v13 =>
  next14 [(nth vs1 0), (nth vs1 1), (nth vs1 2), (nth vs1 3), (nth vs1 4), (nth vs1 5), (nth vs1 6), (nth vs1 7), (nth vs1 8), (nth vs1 9), v13] h0
def vc_law01_DifferSums_k3 (P : Ctx) (pre : List ABlk) (r : AV) (post : List PB) (h0 : Heap) (vs1 : List AV) (v2 : AV) (v3 : AV) (v4 : AV) (v5 : AV) (v6 : AV) (v7 : AV) (v8 : AV) (v9 : AV) : Prop :=
  ORDX [] [0, 0, 3, 7, 15, 0, 0, 96, 224, 480, 1023, 2047, 4095, 4095, 16383, 32767, 65535, 4095, 4095, 397311, 921599, 1970175, 4194303, 8388607, 16777215, 33554431, 33554431, 100663295, 33554431, 503316479, 1040187391, 2147483647, 4294967295, 8589934591, 8589934591, 34359738367, 68719476735, 8589934591, 8589934591, 420906795007, 970662608895, 2199023255551, 4398046511103, 8796093022207] [(2, wr h0 h0, (ids (nth vs1 9))), (3, wr h0 h0, (ids v2)), (4, wr h0 h0, (ids v3)), (7, wr h0 h0, (ids (nth vs1 8))), (8, wr h0 h0, (ids v4)), (9, wr h0 h0, (ids v5)), (14, wr h0 h0, (ids (nth vs1 9))), (15, wr h0 h0, (ids v6)), (16, wr h0 h0, (ids v7)), (19, wr h0 h0, (ids (nth vs1 8))), (20, wr h0 h0, (ids v8)), (21, wr h0 h0, (ids v9))] ∧
  POST (.d (.bool false)) h0 pre r post
def vc_law01_DifferSums_k4 (P : Ctx) (pre : List ABlk) (r : AV) (post : List PB) (vs0 : List AV) (h1 : Heap) (v8 : AV) (v9 : AV) (v10 : AV) (v11 : AV) (v12 : AV) (v13 : AV) (v14 : AV) (v15 : AV) (next16 : List AV → Heap → Prop) : Prop :=
  LOAD true 2 (nth vs0 3) h1 fun v2 =>
  FADDR 0 (nth vs0 2) h1 fun v3 =>
  LOAD false 1 v3 h1 fun v4 =>
  IADDR 2 T_api_Span v4 (nth vs0 0) h1 fun v5 =>
  LOAD true 2 v5 h1 fun v6 =>
  BIN 1002 .eql v2 v6 fun v7 =>
  CONDG v7
  (vc_law01_DifferSums_k1 P pre r post vs0 h1 v8 v9 v10 v11 v12 v13 v14 v15 v3 v4 v5 next16)
  (vc_law01_DifferSums_k2 P pre r post h1 vs0 v8 v9 v10 v11 v12 v13 v14 v15 v3 v4 v5 next16)
def vc_law01_DifferSums_k5 (P : Ctx) (pre : List ABlk) (r : AV) (post : List PB) (h0 : Heap) (vs1 : List AV) (v2 : AV) (v3 : AV) (v4 : AV) (v5 : AV) : Prop :=
  ORDX [] [0, 0, 3, 7, 15, 0, 0, 96, 224, 480, 1023, 2047, 4095, 4095, 16383, 32767, 65535, 4095, 4095, 397311, 921599, 1970175, 4194303, 8388607, 16777215, 33554431, 33554431, 100663295, 33554431, 503316479, 1040187391, 2147483647, 4294967295, 8589934591, 8589934591, 34359738367, 68719476735, 8589934591, 8589934591, 420906795007, 970662608895, 2199023255551, 4398046511103, 8796093022207] [(2, wr h0 h0, (ids (nth vs1 9))), (3, wr h0 h0, (ids v2)), (4, wr h0 h0, (ids v3)), (7, wr h0 h0, (ids (nth vs1 8))), (8, wr h0 h0, (ids v4)), (9, wr h0 h0, (ids v5))] ∧
  POST (.d (.bool false)) h0 pre r post
def vc_law01_DifferSums_k6 (P : Ctx) (pre : List ABlk) (r : AV) (post : List PB) (vs0 : List AV) (h1 : Heap) (v9 : AV) (v10 : AV) (v11 : AV) (v12 : AV) (next13 : List AV → Heap → Prop) : Prop :=
  IADDR 2 T_api_Span (nth vs0 9) (nth vs0 10) h1 fun v2 =>
  FADDR 1 v2 h1 fun v3 =>
  LOAD false 1 v3 h1 fun v4 =>
  IADDR 2 T_api_Span (nth vs0 8) (nth vs0 10) h1 fun v5 =>
  FADDR 1 v5 h1 fun v6 =>
  LOAD false 1 v6 h1 fun v7 =>
  BIN 0 .gtr v4 v7 fun v8 =>
  CONDG v8
  (vc_law01_DifferSums_k3 P pre r post h1 vs0 v9 v10 v11 v12 v2 v3 v5 v6)
  (vc_law01_DifferSums_k4 P pre r post vs0 h1 v9 v10 v11 v12 v2 v3 v5 v6 next13)
def vc_law01_DifferSums_k7 (P : Ctx) (pre : List ABlk) (r : AV) (post : List PB) (vs0 : List AV) (h1 : Heap) (next14 : List AV → Heap → Prop) : Prop :=
  FADDR 1 (nth vs0 0) h1 fun v2 =>
  LOAD false 1 v2 h1 fun v3 =>
  BIN 0 .lss (nth vs0 4) v3 fun v4 =>
  COND v4
  (IADDR 1 T_int (nth vs0 3) (nth vs0 4) h1 fun v5 =>
  LOAD false 1 v5 h1 fun v6 =>
  IADDR 1 T_int (nth vs0 1) (nth vs0 4) h1 fun v7 =>
  LOAD false 1 v7 h1 fun v8 =>
  BIN 0 .sub v6 v8 fun v9 =>
  IADDR 1 T_int (nth vs0 2) (nth vs0 4) h1 fun v10 =>
  LOAD false 1 v10 h1 fun v11 =>
  BIN 0 .neq v9 v11 fun v12 =>
  ORDX [] [0, 0, 3, 7, 0, 0, 48, 112, 255, 0, 0, 1536, 3584, 8191] [(2, wr h1 h1, (ids (nth vs0 3))), (3, wr h1 h1, (ids v5)), (6, wr h1 h1, (ids (nth vs0 1))), (7, wr h1 h1, (ids v7)), (11, wr h1 h1, (ids (nth vs0 2))), (12, wr h1 h1, (ids v10))] ∧
  COND v12
  (POST (.d (.bool false)) h1 pre r post)
  (BIN 0 .add (nth vs0 4) (.d (.num .i64 1)) fun v13 =>
  next14 [(nth vs0 0), (nth vs0 1), (nth vs0 2), (nth vs0 3), v13] h1))
  (CALL P f_law01_known [] 1560 h1 (fun _ v16 h17 =>
  POST v16 h17 pre r post)
  (fun _ _ _ => False))
def vc_law01_DifferSums_k8 (P : Ctx) (pre : List ABlk) (r : AV) (post : List PB) (v0 : AV) (h4 : Heap) (vs6 : List AV) : Prop :=
  EXT v0 0 fun v1 =>
  EXT v0 1 fun v2 =>
  BIN 0 .neq v2 (.d (.num .i64 0)) fun v3 =>
  CONDG v3
  (POST (.d (.bool false)) h4 pre r post)
  (LEN false v1 h4 fun v5 =>
  FADDR 1 (nth vs6 2) h4 fun v7 =>
  LOAD false 1 v7 h4 fun v8 =>
  BIN 0 .neq v5 v8 fun v9 =>
  COND v9
  (POST (.d (.bool false)) h4 pre r post)
  (LOOP [(nth vs6 2), (nth vs6 6), (nth vs6 7), v1, (.d (.num .i64 0))] h4 1520 fun vs10 h11 next12 =>
  vc_law01_DifferSums_k7 P pre r post vs10 h11 next12))
def vc_law01_DifferSums_k9 (P : Ctx) (pre : List ABlk) (r : AV) (post : List PB) (v0 : AV) (h2 : Heap) (vs6 : List AV) : Prop :=
  NOT v0 fun v1 =>
  COND v1
  (CALL P f_law01_known [] 1376 h2 (fun _ v4 h5 =>
  POST v4 h5 pre r post)
  (fun _ _ _ => False))
  (LOAD true 3 (nth vs6 5) h2 fun v7 =>
  CALL P f_differ_Table [v7, (nth vs6 4)] 1392 h2 (fun _ v9 h10 =>
  vc_law01_DifferSums_k8 P pre r post v9 h10 vs6)
  (fun _ _ _ => False))
def vc_law01_DifferSums_k10 (P : Ctx) (pre : List ABlk) (r : AV) (post : List PB) (vs0 : List AV) (h2 : Heap) (next10 : List AV → Heap → Prop) : Prop :=
  BIN 0 .lss (nth vs0 10) (nth vs0 1) fun v1 =>
  COND v1
  (IADDR 2 T_api_Span (nth vs0 9) (nth vs0 10) h2 fun v3 =>
  FADDR 0 v3 h2 fun v4 =>
  LOAD false 1 v4 h2 fun v5 =>
  IADDR 2 T_api_Span (nth vs0 8) (nth vs0 10) h2 fun v6 =>
  FADDR 0 v6 h2 fun v7 =>
  LOAD false 1 v7 h2 fun v8 =>
  BIN 0 .lss v5 v8 fun v9 =>
  CONDG v9
  (vc_law01_DifferSums_k5 P pre r post h2 vs0 v3 v4 v6 v7)
  (vc_law01_DifferSums_k6 P pre r post vs0 h2 v3 v4 v6 v7 next10))
  (LOAD true 3 (nth vs0 5) h2 fun v11 =>
  CALL P f_ref01_Plan [v11] 1360 h2 (fun _ v13 h14 =>
  vc_law01_DifferSums_k9 P pre r post v13 h14 vs0)
  (fun _ _ _ => False))
def vc_law01_DifferSums_k11 (P : Ctx) (pre : List ABlk) (r : AV) (post : List PB) (v0 : AV) (v3 : AV) (h5 : Heap) (v6 : AV) (v8 : AV) (v11 : AV) (vs13 : List AV) (v17 : AV) (v22 : AV) : Prop :=
  EXT v0 0 fun v1 =>
  EXT v0 1 fun v2 =>
  BIN 0 .neq v3 (.d (.num .i64 0)) fun v4 =>
  CONDG v4
  (POST (.d (.bool false)) h5 pre r post)
  (BIN 0 .neq v6 (.d (.num .i64 0)) fun v7 =>
  CONDG v7
  (POST (.d (.bool false)) h5 pre r post)
  (BIN 0 .neq v8 (.d (.num .i64 0)) fun v9 =>
  CONDG v9
  (POST (.d (.bool false)) h5 pre r post)
  (BIN 0 .neq v2 (.d (.num .i64 0)) fun v10 =>
  CONDG v10
  (POST (.d (.bool false)) h5 pre r post)
  (LEN false v11 h5 fun v12 =>
  FADDR 1 (nth vs13 4) h5 fun v14 =>
  LOAD false 1 v14 h5 fun v15 =>
  BIN 0 .neq v12 v15 fun v16 =>
  CONDG v16
  (POST (.d (.bool false)) h5 pre r post)
  (LEN false v17 h5 fun v18 =>
  FADDR 1 (nth vs13 4) h5 fun v19 =>
  LOAD false 1 v19 h5 fun v20 =>
  BIN 0 .neq v18 v20 fun v21 =>
  CONDG v21
  (POST (.d (.bool false)) h5 pre r post)
  (LEN false v22 h5 fun v23 =>
  FADDR 1 (nth vs13 4) h5 fun v24 =>
  LOAD false 1 v24 h5 fun v25 =>
  BIN 0 .neq v23 v25 fun v26 =>
  CONDG v26
  (POST (.d (.bool false)) h5 pre r post)
  (LEN false v1 h5 fun v27 =>
  BIN 0 .neq v27 (nth vs13 3) fun v28 =>
  COND v28
  (POST (.d (.bool false)) h5 pre r post)
  (LOOP [(nth vs13 2), (nth vs13 3), (nth vs13 4), (nth vs13 5), (nth vs13 6), (nth vs13 7), v11, v17, v22, v1, (.d (.num .i64 0))] h5 1320 fun vs29 h30 next31 =>
  vc_law01_DifferSums_k10 P pre r post vs29 h30 next31))))))))
def vc_law01_DifferSums_k12 (P : Ctx) (pre : List ABlk) (r : AV) (post : List PB) (h0 : Heap) (v3 : AV) (vs7 : List AV) (v19 : AV) (v20 : AV) (v21 : AV) (v22 : AV) (v23 : AV) (v24 : AV) : Prop :=
  ALLOC T_api_DifferPlan [.zc, .d (.num .i64 0), .d (.num .i64 0)] 824 h0 fun v1 h2 =>
  STORE 3 v1 v3 h2 fun h4 =>
  FADDR 0 v1 h4 fun v5 =>
  LOAD false 1 v5 h4 fun v6 =>
  FADDR 0 (nth vs7 5) h4 fun v8 =>
  LOAD false 1 v8 h4 fun v9 =>
  IADDR 2 T_api_Span v6 (nth vs7 2) h4 fun v10 =>
  FADDR 0 v10 h4 fun v11 =>
  STORE 1 v11 v9 h4 fun h12 =>
  FADDR 1 v1 h12 fun v13 =>
  STORE 1 v13 (nth vs7 3) h12 fun h14 =>
  LOAD true 3 v1 h14 fun v15 =>
  CALL P f_differ_Rows [v15] 936 h14 (fun _ v17 h18 =>
  vc_law01_DifferSums_k11 P pre r post v17 v19 h18 v20 v21 v22 vs7 v23 v24)
  (fun _ _ _ => False)
def vc_law01_DifferSums_k13 (P : Ctx) (pre : List ABlk) (r : AV) (post : List PB) (v0 : AV) (vs3 : List AV) (h4 : Heap) (v11 : AV) (v12 : AV) (v13 : AV) (v14 : AV) : Prop :=
  EXT v0 0 fun v1 =>
  EXT v0 1 fun v2 =>
  LOAD true 3 (nth vs3 4) h4 fun v5 =>
  FADDR 1 (nth vs3 5) h4 fun v6 =>
  LOAD false 1 v6 h4 fun v7 =>
  CALL P f_ref01_With [v5, (nth vs3 2), v7] 816 h4 (fun _ v9 h10 =>
  vc_law01_DifferSums_k12 P pre r post h10 v9 vs3 v11 v12 v2 v13 v14 v1)
  (fun _ _ _ => False)
def vc_law01_DifferSums_k14 (P : Ctx) (pre : List ABlk) (r : AV) (post : List PB) (v0 : AV) (vs3 : List AV) (h4 : Heap) : Prop :=
  EXT v0 0 fun v1 =>
  EXT v0 1 fun v2 =>
  LOAD true 3 (nth vs3 4) h4 fun v5 =>
  CALL P f_differ_Table [v5, (nth vs3 1)] 680 h4 (fun _ v7 h8 =>
  EXT v7 0 fun v9 =>
  EXT v7 1 fun v10 =>
  LOAD true 3 (nth vs3 4) h8 fun v11 =>
  CALL P f_differ_Rows [v11] 736 h8 (fun _ v13 h14 =>
  vc_law01_DifferSums_k13 P pre r post v13 vs3 h14 v2 v10 v1 v9)
  (fun _ _ _ => False))
  (fun _ _ _ => False)
def vc_law01_DifferSums_k15 (P : Ctx) (pre : List ABlk) (r : AV) (post : List PB) (vs0 : List AV) (h1 : Heap) (next28 : List AV → Heap → Prop) : Prop :=
  LEN false (nth vs0 0) h1 fun v2 =>
  BIN 0 .lss (nth vs0 8) v2 fun v3 =>
  COND v3
  (IADDR 1 T_int (nth vs0 0) (nth vs0 8) h1 fun v4 =>
  LOAD false 1 v4 h1 fun v5 =>
  IADDR 1 T_int (nth vs0 1) (nth vs0 8) h1 fun v6 =>
  LOAD false 1 v6 h1 fun v7 =>
  BIN 0 .add v5 v7 fun v8 =>
  MKS T_int 1 [v8] 680 h1 fun v9 h10 =>
  APP T_int 1 (nth vs0 6) v9 688 h10 fun v11 h12 =>
  ORDX [] [0, 0, 0, 6, 14, 0, 0, 96, 224, 510, 1022, 2047, 4095] [(3, wr h1 h1, (ids (nth vs0 0))), (4, wr h1 h1, (ids v4)), (7, wr h1 h1, (ids (nth vs0 1))), (8, wr h1 h1, (ids v6)), (10, wr h1 h10, (ids.idsL [v8])), (11, wr h10 h12, (ids.idsL [(nth vs0 6), v9]))] ∧
  FADDR 0 (nth vs0 7) h12 fun v13 =>
  LOAD false 1 v13 h12 fun v14 =>
  IADDR 1 T_int (nth vs0 0) (nth vs0 8) h12 fun v15 =>
  LOAD false 1 v15 h12 fun v16 =>
  IADDR 1 T_int (nth vs0 1) (nth vs0 8) h12 fun v17 =>
  LOAD false 1 v17 h12 fun v18 =>
  BIN 0 .add v16 v18 fun v19 =>
  IADDR 1 T_int (nth vs0 0) (nth vs0 8) h12 fun v20 =>
  LOAD false 1 v20 h12 fun v21 =>
  IADDR 1 T_int (nth vs0 1) (nth vs0 8) h12 fun v22 =>
  LOAD false 1 v22 h12 fun v23 =>
  BIN 0 .add v21 v23 fun v24 =>
  CALL P f_law01_span [v19, v24] 864 h12 (fun rd25 v26 h27 =>
  vc_law01_DifferSums_k0 P pre r post v26 h27 v14 vs0 h12 v13 v15 v17 v20 v22 rd25 next28 v11)
  (fun _ _ _ => False))
  (LOAD true 3 (nth vs0 4) h1 fun v29 =>
  CALL P f_differ_Table [v29, (nth vs0 0)] 616 h1 (fun _ v31 h32 =>
  vc_law01_DifferSums_k14 P pre r post v31 vs0 h32)
  (fun _ _ _ => False))
def vc_law01_DifferSums_k16 (P : Ctx) (pre : List ABlk) (r : AV) (post : List PB) (h0 : Heap) (v1 : AV) (h2 : Heap) (rd3 : List Nat) (h4 : Heap) (rd5 : List Nat) (h6 : Heap) (rd7 : List Nat) (v8 : AV) (v9 : AV) (v10 : AV) (v11 : AV) (v12 : AV) (v13 : AV) (v14 : AV) (v15 : AV) (v16 : AV) (v17 : AV) (v18 : AV) (v19 : AV) (v20 : AV) : Prop :=
  ORDX [] [0, 0, 3, 7, 15, 31, 31, 127, 255, 511, 1023, 2047, 2047, 8191, 16383, 32767, 65535, 131071, 262143, 131071, 655359, 131071, 3801087, 7995391, 16383999, 33554431, 67108863, 134217727, 268435455, 536870911, 268435455, 1342177279, 268435455, 7784628223, 16374562815, 33554431999, 68719476735, 137438953471, 274877906943, 549755813887, 1099511627775, 549755813887, 2748779069439, 8796093022207, 17592186044415, 35184372088831, 70368744177663, 140737488355327, 281474976710655, 562949953421311, 1125899906842623, 1125899906842623, 3377699720527871, 9007199254740991, 18014398509481983] [(0, wr h0 h0, (ids v1)), (2, wr h0 h2, rd3), (5, wr h2 h2, (ids v1)), (7, wr h2 h4, rd5), (11, wr h4 h4, (ids v1)), (13, wr h4 h6, rd7), (17, wr h6 h6, (ids v8)), (18, wr h6 h6, (ids v9)), (19, wr h6 h6, (ids v1)), (20, wr h6 h6, (ids v10)), (22, wr h6 h6, (ids v11)), (23, wr h6 h6, (ids v12)), (24, wr h6 h6, (ids v13)), (28, wr h6 h6, (ids v8)), (29, wr h6 h6, (ids v14)), (30, wr h6 h6, (ids v1)), (31, wr h6 h6, (ids v15)), (33, wr h6 h6, (ids v16)), (34, wr h6 h6, (ids v17)), (35, wr h6 h6, (ids v18)), (39, wr h6 h6, (ids v8)), (40, wr h6 h6, (ids v19)), (41, wr h6 h6, (ids v8)), (42, wr h6 h6, (ids v20))] ∧
  CALL P f_law01_known [] 488 h6 (fun _ v22 h23 =>
  POST v22 h23 pre r post)
  (fun _ _ _ => False)
def vc_law01_DifferSums_k17 (P : Ctx) (pre : List ABlk) (r : AV) (post : List PB) (v0 : AV) (h1 : Heap) (a4 : AV) (h6 : Heap) (h7 : Heap) (rd8 : List Nat) (h9 : Heap) (rd10 : List Nat) (rd11 : List Nat) (v12 : AV) (v13 : AV) (v14 : AV) (v15 : AV) (v16 : AV) (v17 : AV) (v18 : AV) (v19 : AV) (v20 : AV) (v21 : AV) (v22 : AV) (v23 : AV) (v24 : AV) (a36 : AV) (a37 : AV) (a38 : AV) : Prop :=
  FADDR 1 v0 h1 fun v2 =>
  LOAD false 1 v2 h1 fun v3 =>
  BIN 0 .gtr a4 v3 fun v5 =>
  ORDX [] [0, 0, 3, 7, 15, 31, 31, 127, 255, 511, 1023, 2047, 2047, 8191, 16383, 32767, 65535, 131071, 262143, 131071, 655359, 131071, 3801087, 7995391, 16383999, 33554431, 67108863, 134217727, 268435455, 536870911, 268435455, 1342177279, 268435455, 7784628223, 16374562815, 33554431999, 68719476735, 137438953471, 274877906943, 549755813887, 1099511627775, 549755813887, 2748779069439, 8796093022207, 17592186044415, 35184372088831, 70368744177663, 140737488355327, 281474976710655, 562949953421311, 1125899906842623, 1125899906842623, 3377699720527871, 9007199254740991, 18014398509481983] [(0, wr h6 h6, (ids v0)), (2, wr h6 h7, rd8), (5, wr h7 h7, (ids v0)), (7, wr h7 h9, rd10), (11, wr h9 h9, (ids v0)), (13, wr h9 h1, rd11), (17, wr h1 h1, (ids v12)), (18, wr h1 h1, (ids v13)), (19, wr h1 h1, (ids v0)), (20, wr h1 h1, (ids v14)), (22, wr h1 h1, (ids v15)), (23, wr h1 h1, (ids v16)), (24, wr h1 h1, (ids v17)), (28, wr h1 h1, (ids v12)), (29, wr h1 h1, (ids v18)), (30, wr h1 h1, (ids v0)), (31, wr h1 h1, (ids v19)), (33, wr h1 h1, (ids v20)), (34, wr h1 h1, (ids v21)), (35, wr h1 h1, (ids v22)), (39, wr h1 h1, (ids v12)), (40, wr h1 h1, (ids v23)), (41, wr h1 h1, (ids v12)), (42, wr h1 h1, (ids v24)), (51, wr h1 h1, (ids v0)), (52, wr h1 h1, (ids v2))] ∧
  COND v5
  (CALL P f_law01_known [] 488 h1 (fun _ v26 h27 =>
  POST v26 h27 pre r post)
  (fun _ _ _ => False))
  (FADDR 1 v0 h1 fun v28 =>
  LOAD false 1 v28 h1 fun v29 =>
  FADDR 2 v0 h1 fun v30 =>
  LOAD false 1 v30 h1 fun v31 =>
  BUILD [(0, 1), (1, 1), (2, 1)] [.zc, .d (.num .i64 0), .d (.num .i64 0)] [(1, v29), (2, v31)] fun v32 =>
  ALLOC T_api_DifferPlan [.zc, .d (.num .i64 0), .d (.num .i64 0)] 536 h1 fun v33 h34 =>
  STORE 3 v33 v32 h34 fun h35 =>
  LOOP [a36, a37, a38, a4, v0, v12, .zc, v33, (.d (.num .i64 0))] h35 560 fun vs39 h40 next41 =>
  vc_law01_DifferSums_k15 P pre r post vs39 h40 next41)
def vc_law01_DifferSums_k18 (P : Ctx) (pre : List ABlk) (r : AV) (post : List PB) (a0 : AV) (h2 : Heap) (v3 : AV) (h4 : Heap) (rd5 : List Nat) (h6 : Heap) (rd7 : List Nat) (h8 : Heap) (rd9 : List Nat) (v10 : AV) (v11 : AV) (v12 : AV) (v13 : AV) (v14 : AV) (v15 : AV) (v16 : AV) (v17 : AV) (v18 : AV) (v19 : AV) (v20 : AV) (v21 : AV) (v22 : AV) (a23 : AV) (a24 : AV) (a25 : AV) : Prop :=
  BIN 0 .lss a0 (.d (.num .i64 1)) fun v1 =>
  CONDG v1
  (vc_law01_DifferSums_k16 P pre r post h2 v3 h4 rd5 h6 rd7 h8 rd9 v10 v11 v12 v13 v14 v15 v16 v17 v18 v19 v20 v21 v22)
  (vc_law01_DifferSums_k17 P pre r post v3 h8 a0 h2 h4 rd5 h6 rd7 rd9 v10 v11 v12 v13 v14 v15 v16 v17 v18 v19 v20 v21 v22 a23 a24 a25)
def vc_law01_DifferSums_k19 (P : Ctx) (pre : List ABlk) (r : AV) (post : List PB) (h0 : Heap) (v1 : AV) (h2 : Heap) (rd3 : List Nat) (h4 : Heap) (rd5 : List Nat) (h6 : Heap) (rd7 : List Nat) (v8 : AV) (v9 : AV) (v10 : AV) (v11 : AV) (v12 : AV) (v13 : AV) (v14 : AV) (v15 : AV) (v16 : AV) (v17 : AV) (v18 : AV) : Prop :=
  ORDX [] [0, 0, 3, 7, 15, 31, 31, 127, 255, 511, 1023, 2047, 2047, 8191, 16383, 32767, 65535, 131071, 262143, 131071, 655359, 131071, 3801087, 7995391, 16383999, 33554431, 67108863, 134217727, 268435455, 536870911, 268435455, 1342177279, 268435455, 7784628223, 16374562815, 33554431999, 68719476735, 137438953471, 274877906943, 549755813887, 1099511627775, 549755813887, 2748779069439, 8796093022207, 17592186044415, 35184372088831, 70368744177663, 140737488355327, 281474976710655, 562949953421311, 1125899906842623, 1125899906842623, 3377699720527871, 9007199254740991, 18014398509481983] [(0, wr h0 h0, (ids v1)), (2, wr h0 h2, rd3), (5, wr h2 h2, (ids v1)), (7, wr h2 h4, rd5), (11, wr h4 h4, (ids v1)), (13, wr h4 h6, rd7), (17, wr h6 h6, (ids v8)), (18, wr h6 h6, (ids v9)), (19, wr h6 h6, (ids v1)), (20, wr h6 h6, (ids v10)), (22, wr h6 h6, (ids v11)), (23, wr h6 h6, (ids v12)), (24, wr h6 h6, (ids v13)), (28, wr h6 h6, (ids v8)), (29, wr h6 h6, (ids v14)), (30, wr h6 h6, (ids v1)), (31, wr h6 h6, (ids v15)), (33, wr h6 h6, (ids v16)), (34, wr h6 h6, (ids v17)), (35, wr h6 h6, (ids v18))] ∧
  CALL P f_law01_known [] 488 h6 (fun _ v20 h21 =>
  POST v20 h21 pre r post)
  (fun _ _ _ => False)
def vc_law01_DifferSums_k20 (P : Ctx) (pre : List ABlk) (r : AV) (post : List PB) (v0 : AV) (h1 : Heap) (h7 : Heap) (v8 : AV) (h9 : Heap) (rd10 : List Nat) (h11 : Heap) (rd12 : List Nat) (rd13 : List Nat) (v14 : AV) (v15 : AV) (v16 : AV) (v17 : AV) (v18 : AV) (v19 : AV) (v20 : AV) (v21 : AV) (v22 : AV) (v23 : AV) (a24 : AV) (a25 : AV) (a26 : AV) (a27 : AV) : Prop :=
  FADDR 0 v0 h1 fun v2 =>
  LOAD false 1 v2 h1 fun v3 =>
  FADDR 1 v0 h1 fun v4 =>
  LOAD false 1 v4 h1 fun v5 =>
  BIN 0 .gtr v3 v5 fun v6 =>
  CONDG v6
  (vc_law01_DifferSums_k16 P pre r post h7 v8 h9 rd10 h11 rd12 h1 rd13 v0 v14 v15 v16 v17 v18 v19 v20 v21 v22 v23 v2 v4)
  (vc_law01_DifferSums_k18 P pre r post a24 h7 v8 h9 rd10 h11 rd12 h1 rd13 v0 v14 v15 v16 v17 v18 v19 v20 v21 v22 v23 v2 v4 a25 a26 a27)
def vc_law01_DifferSums_k21 (P : Ctx) (pre : List ABlk) (r : AV) (post : List PB) (h0 : Heap) (v1 : AV) (h2 : Heap) (rd3 : List Nat) (h4 : Heap) (rd5 : List Nat) (h6 : Heap) (rd7 : List Nat) (v8 : AV) (v9 : AV) (v10 : AV) (v11 : AV) (v12 : AV) (v13 : AV) : Prop :=
  ORDX [] [0, 0, 3, 7, 15, 31, 31, 127, 255, 511, 1023, 2047, 2047, 8191, 16383, 32767, 65535, 131071, 262143, 131071, 655359, 131071, 3801087, 7995391, 16383999, 33554431, 67108863, 134217727, 268435455, 536870911, 268435455, 1342177279, 268435455, 7784628223, 16374562815, 33554431999, 68719476735, 137438953471, 274877906943, 549755813887, 1099511627775, 549755813887, 2748779069439, 8796093022207, 17592186044415, 35184372088831, 70368744177663, 140737488355327, 281474976710655, 562949953421311, 1125899906842623, 1125899906842623, 3377699720527871, 9007199254740991, 18014398509481983] [(0, wr h0 h0, (ids v1)), (2, wr h0 h2, rd3), (5, wr h2 h2, (ids v1)), (7, wr h2 h4, rd5), (11, wr h4 h4, (ids v1)), (13, wr h4 h6, rd7), (17, wr h6 h6, (ids v8)), (18, wr h6 h6, (ids v9)), (19, wr h6 h6, (ids v1)), (20, wr h6 h6, (ids v10)), (22, wr h6 h6, (ids v11)), (23, wr h6 h6, (ids v12)), (24, wr h6 h6, (ids v13))] ∧
  CALL P f_law01_known [] 488 h6 (fun _ v15 h16 =>
  POST v15 h16 pre r post)
  (fun _ _ _ => False)
def vc_law01_DifferSums_k22 (P : Ctx) (pre : List ABlk) (r : AV) (post : List PB) (v0 : AV) (h1 : Heap) (v4 : AV) (a7 : AV) (h12 : Heap) (h13 : Heap) (rd14 : List Nat) (h15 : Heap) (rd16 : List Nat) (rd17 : List Nat) (v18 : AV) (v19 : AV) (v20 : AV) (v21 : AV) (v22 : AV) (a23 : AV) (a24 : AV) (a25 : AV) : Prop :=
  FADDR 1 v0 h1 fun v2 =>
  LOAD false 1 v2 h1 fun v3 =>
  FADDR 0 v4 h1 fun v5 =>
  LOAD false 1 v5 h1 fun v6 =>
  IADDR 2 T_api_Span v6 a7 h1 fun v8 =>
  FADDR 1 v8 h1 fun v9 =>
  LOAD false 1 v9 h1 fun v10 =>
  BIN 0 .gtr v3 v10 fun v11 =>
  CONDG v11
  (vc_law01_DifferSums_k19 P pre r post h12 v4 h13 rd14 h15 rd16 h1 rd17 v0 v18 v19 v20 v21 v22 v2 v5 v6 v8 v9)
  (vc_law01_DifferSums_k20 P pre r post v0 h1 h12 v4 h13 rd14 h15 rd16 rd17 v18 v19 v20 v21 v22 v2 v5 v6 v8 v9 a23 a24 a25 a7)
def vc_law01_DifferSums_k23 (P : Ctx) (pre : List ABlk) (r : AV) (post : List PB) (h0 : Heap) (v1 : AV) (h2 : Heap) (rd3 : List Nat) (h4 : Heap) (rd5 : List Nat) (h6 : Heap) (rd7 : List Nat) : Prop :=
  ORDX [] [0, 0, 3, 7, 15, 31, 31, 127, 255, 511, 1023, 2047, 2047, 8191, 16383, 32767, 65535, 131071, 262143, 131071, 655359, 131071, 3801087, 7995391, 16383999, 33554431, 67108863, 134217727, 268435455, 536870911, 268435455, 1342177279, 268435455, 7784628223, 16374562815, 33554431999, 68719476735, 137438953471, 274877906943, 549755813887, 1099511627775, 549755813887, 2748779069439, 8796093022207, 17592186044415, 35184372088831, 70368744177663, 140737488355327, 281474976710655, 562949953421311, 1125899906842623, 1125899906842623, 3377699720527871, 9007199254740991, 18014398509481983] [(0, wr h0 h0, (ids v1)), (2, wr h0 h2, rd3), (5, wr h2 h2, (ids v1)), (7, wr h2 h4, rd5), (11, wr h4 h4, (ids v1)), (13, wr h4 h6, rd7)] ∧
  CALL P f_law01_known [] 488 h6 (fun _ v9 h10 =>
  POST v9 h10 pre r post)
  (fun _ _ _ => False)
def vc_law01_DifferSums_k24 (P : Ctx) (pre : List ABlk) (r : AV) (post : List PB) (v0 : AV) (h1 : Heap) (v4 : AV) (a7 : AV) (h12 : Heap) (h13 : Heap) (rd14 : List Nat) (h15 : Heap) (rd16 : List Nat) (rd17 : List Nat) (a18 : AV) (a19 : AV) (a20 : AV) : Prop :=
  FADDR 0 v0 h1 fun v2 =>
  LOAD false 1 v2 h1 fun v3 =>
  FADDR 0 v4 h1 fun v5 =>
  LOAD false 1 v5 h1 fun v6 =>
  IADDR 2 T_api_Span v6 a7 h1 fun v8 =>
  FADDR 0 v8 h1 fun v9 =>
  LOAD false 1 v9 h1 fun v10 =>
  BIN 0 .lss v3 v10 fun v11 =>
  CONDG v11
  (vc_law01_DifferSums_k21 P pre r post h12 v4 h13 rd14 h15 rd16 h1 rd17 v0 v2 v5 v6 v8 v9)
  (vc_law01_DifferSums_k22 P pre r post v0 h1 v4 a7 h12 h13 rd14 h15 rd16 rd17 v2 v5 v6 v8 v9 a18 a19 a20)
def vc_law01_DifferSums_k25 (P : Ctx) (pre : List ABlk) (r : AV) (post : List PB) (h0 : Heap) (v1 : AV) (h2 : Heap) (rd3 : List Nat) (h4 : Heap) (rd5 : List Nat) : Prop :=
  ORDX [] [0, 0, 3, 7, 15, 31, 31, 127, 255, 511, 1023, 2047, 2047, 8191, 16383, 32767, 65535, 131071, 262143, 131071, 655359, 131071, 3801087, 7995391, 16383999, 33554431, 67108863, 134217727, 268435455, 536870911, 268435455, 1342177279, 268435455, 7784628223, 16374562815, 33554431999, 68719476735, 137438953471, 274877906943, 549755813887, 1099511627775, 549755813887, 2748779069439, 8796093022207, 17592186044415, 35184372088831, 70368744177663, 140737488355327, 281474976710655, 562949953421311, 1125899906842623, 1125899906842623, 3377699720527871, 9007199254740991, 18014398509481983] [(0, wr h0 h0, (ids v1)), (2, wr h0 h2, rd3), (5, wr h2 h2, (ids v1)), (7, wr h2 h4, rd5)] ∧
  CALL P f_law01_known [] 488 h4 (fun _ v7 h8 =>
  POST v7 h8 pre r post)
  (fun _ _ _ => False)
def vc_law01_DifferSums_k26 (P : Ctx) (pre : List ABlk) (r : AV) (post : List PB) (v0 : AV) (h1 : Heap) (a3 : AV) (h8 : Heap) (h9 : Heap) (rd10 : List Nat) (rd11 : List Nat) (v12 : AV) (a13 : AV) (a14 : AV) (a15 : AV) : Prop :=
  LOAD true 3 v0 h1 fun v2 =>
  CALL P f_ref01_Begin [v2, a3] 152 h1 (fun rd4 v5 h6 =>
  NOT v5 fun v7 =>
  CONDG v7
  (vc_law01_DifferSums_k23 P pre r post h8 v0 h9 rd10 h1 rd11 h6 rd4)
  (vc_law01_DifferSums_k24 P pre r post v12 h6 v0 a3 h8 h9 rd10 h1 rd11 rd4 a13 a14 a15))
  (fun _ _ _ => False)
def vc_law01_DifferSums_k27 (P : Ctx) (pre : List ABlk) (r : AV) (post : List PB) (h0 : Heap) (v1 : AV) (h2 : Heap) (rd3 : List Nat) : Prop :=
  ORDX [] [0, 0, 3, 7, 15, 31, 31, 127, 255, 511, 1023, 2047, 2047, 8191, 16383, 32767, 65535, 131071, 262143, 131071, 655359, 131071, 3801087, 7995391, 16383999, 33554431, 67108863, 134217727, 268435455, 536870911, 268435455, 1342177279, 268435455, 7784628223, 16374562815, 33554431999, 68719476735, 137438953471, 274877906943, 549755813887, 1099511627775, 549755813887, 2748779069439, 8796093022207, 17592186044415, 35184372088831, 70368744177663, 140737488355327, 281474976710655, 562949953421311, 1125899906842623, 1125899906842623, 3377699720527871, 9007199254740991, 18014398509481983] [(0, wr h0 h0, (ids v1)), (2, wr h0 h2, rd3)] ∧
  CALL P f_law01_known [] 488 h2 (fun _ v5 h6 =>
  POST v5 h6 pre r post)
  (fun _ _ _ => False)
def vc_law01_DifferSums_k28 (P : Ctx) (pre : List ABlk) (r : AV) (post : List PB) (v0 : AV) (h1 : Heap) (a3 : AV) (h8 : Heap) (rd9 : List Nat) (a10 : AV) (v11 : AV) (a12 : AV) (a13 : AV) : Prop :=
  LOAD true 3 v0 h1 fun v2 =>
  CALL P f_law01_right [v2, a3] 104 h1 (fun rd4 v5 h6 =>
  NOT v5 fun v7 =>
  CONDG v7
  (vc_law01_DifferSums_k25 P pre r post h8 v0 h1 rd9 h6 rd4)
  (vc_law01_DifferSums_k26 P pre r post v0 h6 a10 h8 h1 rd9 rd4 v11 a12 a13 a3))
  (fun _ _ _ => False)
def vc_law01_DifferSums (P : Ctx) (pre : List ABlk) (a0 a1 a2 a3 a4 a5 : AV) (r : AV) (post : List PB) : Prop :=
  let h0 : Heap := numbered 0 pre
  BOX T_api_DifferPlan a0 24 h0 fun v6 h1 =>
  BOX T_api_Span a4 32 h1 fun v10 h2 =>
  LOAD true 3 v6 h2 fun v29 =>
  CALL P f_law01_right [v29, a1] 64 h2 (fun rd4 v31 h3 =>
  NOT v31 fun v32 =>
  CONDG v32
  (vc_law01_DifferSums_k27 P pre r post h2 v6 h3 rd4)
  (vc_law01_DifferSums_k28 P pre r post v6 h3 a2 h2 rd4 a3 v10 a5 a1))
  (fun _ _ _ => False)
theorem vc_law01_DifferSums_eq (g : GG) (pre : List ABlk) (a0 a1 a2 a3 a4 a5 : AV) (r : AV) (post : List PB) : vcFn2 (Tz g) false ann_law01_DifferSums Tryz.f8 pre [a0, a1, a2, a3, a4, a5] (.ret r) post = vc_law01_DifferSums (Tz g) pre a0 a1 a2 a3 a4 a5 r post := by kernel_rfl
theorem hf_law01_DifferSums : Tryz.prog.funcs[f_law01_DifferSums]? = some Tryz.f8 := by kernel_rfl
theorem ok_law01_DifferSums : fnVcOK Tryz.prog Tryz.f8 = true := by kernel_rfl
theorem nt_law01_DifferSums : Nat.ble 6 Tryz.f8.ntmps = true := by kernel_rfl
theorem meetsH_law01_DifferSums {g : GG} {pre : List ABlk} {a0 a1 a2 a3 a4 a5 : AV} {r : AV} {post : List PB} (hk : Nat.ble pre.length 24 = true) (h : vc_law01_DifferSums (Tz g) pre a0 a1 a2 a3 a4 a5 r post) : MeetsH (Tz g) f_law01_DifferSums pre [a0, a1, a2, a3, a4, a5] (.ret r) post :=
  meetsH_of_vc (C := Tz g) ann_law01_DifferSums hf_law01_DifferSums ok_law01_DifferSums nt_law01_DifferSums hk (pn := false) (Eq.mpr ((vcFn2_eq _ _ _ _ _ _ _ _).trans (vc_law01_DifferSums_eq g pre a0 a1 a2 a3 a4 a5 r post)) h)
theorem meets_law01_DifferSums {g : GG} {a0 a1 a2 a3 a4 a5 : D} {r : Res} (h : vc_law01_DifferSums (Tz g) [] (.d a0) (.d a1) (.d a2) (.d a3) (.d a4) (.d a5) r.val (r.bl.map .upd)) : Meets (Tz g) f_law01_DifferSums [a0, a1, a2, a3, a4, a5] r := meetsH_law01_DifferSums rfl h
def ann_law01_span : Nat → List Nat := fun n => match n with  | _ => []
def vc_law01_span (P : Ctx) (pre : List ABlk) (a0 a1 : AV) (r : AV) (post : List PB) : Prop :=
  let h0 : Heap := numbered 0 pre
  ALLOC T_api_Span [.d (.num .i64 0), .d (.num .i64 0)] 24 h0 fun v4 h1 =>
  BUILD [(0, 1), (1, 1)] [.d (.num .i64 0), .d (.num .i64 0)] [(0, a0), (1, a1)] fun v7 =>
  STORE 2 v4 v7 h1 fun h2 =>
  LOAD true 2 v4 h2 fun r3 =>
  POST r3 h2 pre r post
theorem vc_law01_span_eq (g : GG) (pre : List ABlk) (a0 a1 : AV) (r : AV) (post : List PB) : vcFn2 (Tz g) false ann_law01_span Tryz.f34 pre [a0, a1] (.ret r) post = vc_law01_span (Tz g) pre a0 a1 r post := by kernel_rfl
theorem hf_law01_span : Tryz.prog.funcs[f_law01_span]? = some Tryz.f34 := by kernel_rfl
theorem ok_law01_span : fnVcOK Tryz.prog Tryz.f34 = true := by kernel_rfl
theorem nt_law01_span : Nat.ble 2 Tryz.f34.ntmps = true := by kernel_rfl
theorem meetsH_law01_span {g : GG} {pre : List ABlk} {a0 a1 : AV} {r : AV} {post : List PB} (hk : Nat.ble pre.length 24 = true) (h : vc_law01_span (Tz g) pre a0 a1 r post) : MeetsH (Tz g) f_law01_span pre [a0, a1] (.ret r) post :=
  meetsH_of_vc (C := Tz g) ann_law01_span hf_law01_span ok_law01_span nt_law01_span hk (pn := false) (Eq.mpr ((vcFn2_eq _ _ _ _ _ _ _ _).trans (vc_law01_span_eq g pre a0 a1 r post)) h)
theorem meets_law01_span {g : GG} {a0 a1 : D} {r : Res} (h : vc_law01_span (Tz g) [] (.d a0) (.d a1) r.val (r.bl.map .upd)) : Meets (Tz g) f_law01_span [a0, a1] r := meetsH_law01_span rfl h
end Go.Vc

namespace Go.Vc
open Go Go.Proofs
variable {g : GG}
attribute [local simp] and_assoc
attribute [local simp] ints_cells
theorem law01_span_meets (a b : Int) : Meets (Tz g) f_law01_span [int a, int b] ⟨.d (Sp.d ⟨a, b⟩), []⟩ := by
  refine meets_law01_span ?_
  unfold vc_law01_span
  simp [Sp.d]
theorem differ_Rows_ok (p : Plan) (h : p.ok = true) : Meets (Tz g) f_differ_Rows [p.d] ⟨.tup [.own 0 0, .d (int 0)], [⟨0, T_api_Span, .lst ((rowsL p).map Sp.d)⟩]⟩ := by
  have := differ_Rows_meets (g := g) p (by have := (Plan.ok_len h).2.1; omega)
  rwa [if_pos h] at this
set_option maxHeartbeats 4000000 in
theorem sums_meets (hg : GOK g) (p : Plan) (one other : List Int) (start : Int) (nw : Sp) (rows : Int) (_ : ∀ n, n ∈ one → -9223372036854775808 ≤ n ∧ n ≤ 9223372036854775807) (_ : ∀ n, n ∈ other → -9223372036854775808 ≤ n ∧ n ≤ 9223372036854775807) (_ : -9223372036854775808 ≤ start ∧ start ≤ 9223372036854775807) (_ : -9223372036854775808 ≤ rows ∧ rows ≤ 9223372036854775807) : Meets (Tz g) f_law01_DifferSums [p.d, ints one, ints other, int start, nw.d, int rows] ⟨.d (.bool true), []⟩ := by
  refine meets_law01_DifferSums ?_
  unfold vc_law01_DifferSums
  simp [Plan.d, spans, ints, Sp.d]
  refine CALL.val [p.d, ints one] _ rfl (law01_right_meets p one) (.inl rfl) ?_
  simp
  constructor
  · intro h
    simp [vc_law01_DifferSums_k27]
    refine ⟨rfl, known_call hg (by simp)⟩
  · intro h
    simp [rightB] at h
    obtain ⟨b1, b2, b3, b4⟩ := h
    obtain ⟨a1, a2, a3, a4, a5⟩ := Plan.ok_len b3
    have hlen := within_length b4
    have hbd := within_bound a5 b4
    simp [vc_law01_DifferSums_k28]
    refine CALL.val [p.d, ints other] _ rfl (law01_right_meets p other) (.inl rfl) ?_
    simp
    constructor
    · intro h
      simp [vc_law01_DifferSums_k25]
      refine ⟨rfl, known_call hg (by simp)⟩
    · intro h
      simp [rightB] at h
      obtain ⟨c1, c2, c3, c4⟩ := h
      have clen := within_length c4
      have cbd := within_bound a5 c4
      simp [vc_law01_DifferSums_k26]
      refine CALL.val [p.d, int start] _ rfl (ref01_Begin_meets p start (by omega)) (.inl rfl) ?_
      simp
      constructor
      · intro h
        simp [vc_law01_DifferSums_k23]
        refine ⟨rfl, known_call hg (by simp)⟩
      · intro h
        obtain ⟨i, rfl, hi⟩ := inB_nat h
        have hil : i < p.starts.length := by omega
        obtain ⟨s, hs⟩ : ∃ s, p.starts[i]? = some s := ⟨_, List.getElem?_eq_getElem hil⟩
        simp [vc_law01_DifferSums_k24, hs, Sp.d]
        constructor
        · intro h
          simp [vc_law01_DifferSums_k21]
          refine ⟨rfl, known_call hg (by simp)⟩
        · intro hlow
          simp [vc_law01_DifferSums_k22, hs, Sp.d]
          constructor
          · intro h
            simp [vc_law01_DifferSums_k19]
            refine ⟨rfl, known_call hg (by simp)⟩
          · intro hhigh
            simp [vc_law01_DifferSums_k20]
            constructor
            · intro h
              simp [vc_law01_DifferSums_k16]
              refine ⟨rfl, known_call hg (by simp)⟩
            · intro hlh
              simp [vc_law01_DifferSums_k18]
              constructor
              · intro h
                simp [vc_law01_DifferSums_k16]
                refine ⟨rfl, known_call hg (by simp)⟩
              · intro hr1
                simp [vc_law01_DifferSums_k17]
                refine ⟨rfl, ?_⟩
                constructor
                · intro h
                  exact known_call hg (by simp)
                · intro hr2
                  refine LOOP.mkB Nat (fun k => [.d (.list (one.map int)), .d (.list (other.map int)), .d (int i), .d (int rows), .ptr 24 0 0 0, .ptr 32 0 0 0, .own 560 k, .ptr 536 0 0 0, .d (int k)])
                    (fun k => [(560, some ⟨k, T_int, .lst (((addL one other).take k).map int)⟩), (536, some ⟨0, T_api_DifferPlan, .box [.own 561 k, .d (int p.rows), .d (int p.guard)]⟩), (561, some ⟨k, T_api_Span, .lst (((onesL (addL one other)).take k).map Sp.d)⟩), (32, some ⟨0, T_api_Span, .box [.d (int nw.low), .d (int nw.high)]⟩), (24, some ⟨0, T_api_DifferPlan, .box [.d (.list (p.starts.map Sp.d)), .d (int p.rows), .d (int p.guard)]⟩)])
                    (fun k => k ≤ one.length) (fun k => one.length - k) [(6, T_int)] [(536, 0, T_api_Span)] (by simp) 0 (by omega) (by simp [WEAK]) (fun _ _ => rfl) ?_
                  intro k hk
                  have hal : (addL one other).length = one.length := addL_len one other (by omega)
                  have hol : (onesL (addL one other)).length = one.length := by simp [onesL, hal]
                  simp [vc_law01_DifferSums_k15]
                  constructor
                  · intro hlt
                    obtain ⟨x, hx⟩ : ∃ x, one[k]? = some x := ⟨_, List.getElem?_eq_getElem (by omega)⟩
                    obtain ⟨y, hy⟩ : ∃ y, other[k]? = some y := ⟨_, List.getElem?_eq_getElem (by omega)⟩
                    have hxb := hbd x (List.mem_of_getElem? hx)
                    have hyb := cbd y (List.mem_of_getElem? hy)
                    have hxy := addL_get one other k x y hx hy
                    have hq1 : ((addL one other).map int)[k]? = some (int (x + y)) := by rw [List.getElem?_map, hxy]; rfl
                    have hq2 : ((onesL (addL one other)).map Sp.d)[k]? = some (Sp.d ⟨x + y, x + y⟩) := by rw [List.getElem?_map, onesL, List.getElem?_map, hxy]; rfl
                    simp [hx, hy]
                    rw [wrap_id (n := x + y) (by omega) (by omega)]
                    refine ⟨by omega, rfl, ?_⟩
                    refine CALL.val [int (x + y), int (x + y)] _ rfl (law01_span_meets _ _) (.inl rfl) ?_
                    simp [vc_law01_DifferSums_k0]
                    refine ⟨rfl, by omega, rfl, ?_⟩
                    rw [wrap_id (n := (k : Int) + 1) (by omega) (by omega)]
                    refine ⟨k + 1, by omega, ?_, by omega⟩
                    rw [take_next hq1, take_next hq2]
                    simp [WEAK]
                  · intro hge
                    have : k = one.length := by omega
                    subst this
                    have hta1 : ((addL one other).map int).take one.length = (addL one other).map int := take_all (by simp; omega)
                    have hta2 : ((onesL (addL one other)).map Sp.d).take one.length = (onesL (addL one other)).map Sp.d := take_all (by simp; omega)
                    rw [hta1, hta2]
                    obtain ⟨n, hn⟩ : ∃ n : Nat, p.rows = n := ⟨p.rows.toNat, by omega⟩
                    refine CALL.mk [p.d, ints one] _ rfl (differ_Table_data p one n b3 b4 hn) (.inl rfl) (by simp) ?_
                    simp [vc_law01_DifferSums_k14]
                    refine CALL.mk [p.d, ints other] _ rfl (differ_Table_data p other n b3 c4 hn) (.inl rfl) (by simp) ?_
                    simp
                    refine CALL.mk [p.d] _ rfl (differ_Rows_ok p b3) (.inl rfl) (by simp) ?_
                    simp [vc_law01_DifferSums_k13]
                    refine CALL.mk [p.d, int i, int nw.high] _ rfl (ref01_With_own p i s nw.high hs (by omega)) (.inl rfl) (by simp) ?_
                    simp [vc_law01_DifferSums_k12]
                    have hnok := narrow_ok p i s nw rows b3 hs hlow hhigh hlh hr1 hr2
                    obtain ⟨m, rfl⟩ : ∃ m : Nat, rows = m := ⟨rows.toNat, by omega⟩
                    have hnr : (narrow p i nw m).rows = m := rfl
                    refine ⟨hil, Sp.d ⟨s.low, nw.high⟩, by simp [hil], by simp [Sp.d], ?_⟩
                    simp [Sp.d]
                    refine CALL.mk [(narrow p i nw m).d] _ (by simp [Plan.d, spans, narrow, List.map_set, Sp.d]) (differ_Rows_ok (narrow p i nw m) hnok) (.inr (by simp [Res.flatP, AV.flatB, AV.flatB.flatL, blksFlat, Body.flatP, D.flatB, D.flatB.flatL, Sp.d])) (by simp) ?_
                    have hh1 : (heads one n).length = n := by simp [heads]
                    have hh2 : (heads other n).length = n := by simp [heads]
                    have hl1 := rowsL_len p n hn
                    have hl2 := rowsL_len (narrow p i nw m) m hnr
                    simp [vc_law01_DifferSums_k11, hn, ints, hh1, hh2, hl1, hl2]
                    obtain ⟨q, hq⟩ : ∃ q, q = narrow p i nw m := ⟨_, rfl⟩
                    rw [← hq] at hnok hnr hl2 ⊢
                    refine LOOP.mk Nat (fun k => [.d (int i), .d (int m), .ptr 24 0 0 0, .ptr 32 0 0 0, .own 560 one.length, .ptr 536 0 0 0, .d (.list ((heads one n).map int)), .d (.list ((heads other n).map int)), .own 736 0, .own 936 0, .d (int k)])
                      (fun k => [(936, some ⟨0, T_api_Span, .lst ((rowsL q).map Sp.d)⟩), (736, some ⟨0, T_api_Span, .lst ((rowsL p).map Sp.d)⟩), (560, some ⟨one.length, T_int, .lst ((addL one other).map int)⟩), (536, some ⟨0, T_api_DifferPlan, .box [.own 561 one.length, .d (int n), .d (int p.guard)]⟩), (561, some ⟨one.length, T_api_Span, .lst ((onesL (addL one other)).map Sp.d)⟩), (32, some ⟨0, T_api_Span, .box [.d (int nw.low), .d (int nw.high)]⟩), (24, some ⟨0, T_api_DifferPlan, .box [.d (.list (p.starts.map Sp.d)), .d (int n), .d (int p.guard)]⟩)])
                      (fun k => k ≤ m) (fun k => m - k) [] (by simp) 0 (by omega) (by simp [WEAK]) (fun _ _ => rfl) ?_
                    intro k hk
                    simp [vc_law01_DifferSums_k10]
                    constructor
                    · intro hlt
                      have hg1 := rowsL_val p n k hn (by omega) a1
                      have hg2 : (rowsL q)[k]? = some (rowAt q k) := rowsL_val q m k hnr hlt (by rw [hq]; simp [narrow]; omega)
                      have hkl := narrow_lows p i s nw m hs hlow k
                      have hkh := narrow_highs p i s nw m hs hhigh k
                      rw [← hq] at hkl hkh
                      have hself : nw = s → rowAt q k = rowAt p k := fun e => by rw [hq, e]; exact narrow_self p i s m hs k
                      have e1 : (rowAt p k).low = valL (lows p) k 0 := rfl
                      have e2 : (rowAt p k).high = valL (highs p) k 0 := rfl
                      have e3 : (rowAt q k).low = valL (lows q) k 0 := rfl
                      have e4 : (rowAt q k).high = valL (highs q) k 0 := rfl
                      rw [← e1, ← e3] at hkl
                      rw [← e2, ← e4] at hkh
                      generalize rowAt p k = r1 at *
                      generalize rowAt q k = r2 at *
                      have f1 : ¬ r2.low < r1.low := by omega
                      have f2 : ¬ r1.high < r2.high := by omega
                      have g1 : k < (rowsL q).length := (List.getElem?_eq_some_iff.1 hg2).1
                      have g2 : k < (rowsL p).length := (List.getElem?_eq_some_iff.1 hg1).1
                      have hnext : ∃ s', s' ≤ m ∧ WEAK [AV.d (int i), .d (int m), .ptr 24 0 0 0, .ptr 32 0 0 0, .own 560 one.length, .ptr 536 0 0 0, .d (.list ((heads one n).map int)), .d (.list ((heads other n).map int)), .own 736 0, .own 936 0, .d (int (k + 1))]
                          [(936, some ⟨0, T_api_Span, .lst ((rowsL q).map Sp.d)⟩), (736, some ⟨0, T_api_Span, .lst ((rowsL p).map Sp.d)⟩), (560, some ⟨one.length, T_int, .lst ((addL one other).map int)⟩), (536, some ⟨0, T_api_DifferPlan, .box [.own 561 one.length, .d (int n), .d (int p.guard)]⟩), (561, some ⟨one.length, T_api_Span, .lst ((onesL (addL one other)).map Sp.d)⟩), (32, some ⟨0, T_api_Span, .box [.d (int nw.low), .d (int nw.high)]⟩), (24, some ⟨0, T_api_DifferPlan, .box [.d (.list (p.starts.map Sp.d)), .d (int n), .d (int p.guard)]⟩)]
                          [.d (int i), .d (int m), .ptr 24 0 0 0, .ptr 32 0 0 0, .own 560 one.length, .ptr 536 0 0 0, .d (.list ((heads one n).map int)), .d (.list ((heads other n).map int)), .own 736 0, .own 936 0, .d (int s')]
                          [(936, some ⟨0, T_api_Span, .lst ((rowsL q).map Sp.d)⟩), (736, some ⟨0, T_api_Span, .lst ((rowsL p).map Sp.d)⟩), (560, some ⟨one.length, T_int, .lst ((addL one other).map int)⟩), (536, some ⟨0, T_api_DifferPlan, .box [.own 561 one.length, .d (int n), .d (int p.guard)]⟩), (561, some ⟨one.length, T_api_Span, .lst ((onesL (addL one other)).map Sp.d)⟩), (32, some ⟨0, T_api_Span, .box [.d (int nw.low), .d (int nw.high)]⟩), (24, some ⟨0, T_api_DifferPlan, .box [.d (.list (p.starts.map Sp.d)), .d (int n), .d (int p.guard)]⟩)] ∧ m - s' < m - k := ⟨k + 1, by omega, by simp [WEAK], by omega⟩
                      simp [hg1, hg2, Sp.d, f1]
                      refine ⟨g1, g2, ?_⟩
                      simp [vc_law01_DifferSums_k6, hg1, hg2, Sp.d, f2]
                      refine ⟨g1, g2, ?_⟩
                      simp [vc_law01_DifferSums_k4, hs, Sp.d]
                      constructor
                      · intro he
                        have he2 := hself he
                        subst he2
                        simp [vc_law01_DifferSums_k1, hg1, hg2, Sp.d]
                        rw [wrap_id (n := (k : Int) + 1) (by omega) (by omega)]
                        exact ⟨g1, g2, rfl, hnext⟩
                      · intro he
                        simp [vc_law01_DifferSums_k2]
                        rw [wrap_id (n := (k : Int) + 1) (by omega) (by omega)]
                        exact ⟨rfl, hnext⟩
                    · intro hge
                      obtain ⟨sp, hsp⟩ : ∃ sp : Plan, sp = ⟨onesL (addL one other), p.rows, p.guard⟩ := ⟨_, rfl⟩
                      refine CALL.val [sp.d] _ (by rw [hsp]; simp [Plan.d, spans, hn]) (ref01_Plan_meets sp (by rw [hsp]; simp; omega)) (.inr rfl) ?_
                      simp [vc_law01_DifferSums_k9]
                      constructor
                      · intro h
                        exact known_call hg (by simp)
                      · intro hspok
                        have hsw : within sp.starts (addL one other) = true := by rw [hsp]; exact onesL_within _
                        refine CALL.mk [sp.d, ints (addL one other)] _ (by rw [hsp]; simp [Plan.d, spans, hn, ints]) (differ_Table_own sp (addL one other) n hspok hsw (by rw [hsp]; exact hn)) (.inr (by simp [Res.flatP, AV.flatB, AV.flatB.flatL, blksFlat, Body.flatP, D.flatB])) (by simp) ?_
                        simp [vc_law01_DifferSums_k8]
                        have hh3 : (heads (addL one other) n).length = n := by simp [heads]
                        refine ⟨by omega, fun _ => ?_⟩
                        refine LOOP.mk Nat (fun k => [.ptr 24 0 0 0, .d (.list ((heads one n).map int)), .d (.list ((heads other n).map int)), .own 1392 0, .d (int k)])
                          (fun k => [(1392, some ⟨0, T_int, .lst ((heads (addL one other) n).map int)⟩), (24, some ⟨0, T_api_DifferPlan, .box [.d (.list (p.starts.map Sp.d)), .d (int n), .d (int p.guard)]⟩)])
                          (fun k => k ≤ n) (fun k => n - k) [] (by simp) 0 (by omega) (by simp [WEAK]) (fun _ _ => rfl) ?_
                        intro k hk
                        simp [vc_law01_DifferSums_k7]
                        constructor
                        · intro hlt
                          have v1 := heads_at one n k (by omega) hlt
                          have v2 := heads_at other n k (by omega) hlt
                          have v3 := heads_at (addL one other) n k (by omega) hlt
                          rw [valL_add k one other 0 (by omega)] at v3
                          have w1 := val_232 one k (by omega) (by omega) hbd
                          have w2 := val_232 other k (by omega) (by omega) cbd
                          generalize valL one k 0 = x at *
                          generalize valL other k 0 = y at *
                          have hwy : IntKind.i64.wrap y = y := wrap_id (by omega) (by omega)
                          have hkl : k < (heads (addL one other) n).length := by omega
                          simp [v1, v2, hkl]
                          rw [wrap_id (n := (k : Int) + 1) (by omega) (by omega)]
                          have v4 : (heads (addL one other) n)[k] = x + y := by
                            rw [List.getElem?_eq_getElem hkl] at v3
                            exact Option.some.inj v3
                          have hxy : x + y - x = y := by omega
                          rw [v4, hxy, hwy]
                          exact ⟨rfl, rfl, fun _ => ⟨k + 1, by omega, by simp [WEAK], by omega⟩⟩
                        · intro hge2
                          exact known_call hg (by simp)
end Go.Vc

namespace Go.Vc
open Go Go.RowKit Go.ChangeShapes Go.WideShapes Go.ChangeAt Go.Proofs Go.Proofs.YtflbianfhogdjaaGreatDoor
theorem sums_calls {H : Type} {enc : TypeId × Value → H} (W : World) (base : Nat) (args : Array Value) (ds : List (DataW H)) (ps : List MemPlace) (hval : ∀ (j : Nat) t v, Tryz.f8.params[j]? = some t → args[j]? = some v → Value.okWide Tryz.prog W .any base t v)
    (hA : DataW.TrodAll enc Tryz.prog W 0 (fun _ => true) true Tryz.f8.params.toList args.toList ds ps) (hL : laidMetH Tryz.prog laidL W) (hsh : W.ShapedOpen Tryz.prog) : Calls Tryz.prog 8 args W fun e W' => e = .returned (.bool true) ∧ Below W.heap.size W W' := by
  rw [Tryz.params8] at hA hval
  obtain ⟨v0, v1, v2, v3, v4, v5, d0, d1, d2, d3, d4, d5, p0, p1, p2, p3, p4, p5, rfl, rfl, rfl, h0, h1, h2, h3, h4, h5⟩ := trodAll_n6 hA
  obtain ⟨x0, g0⟩ := open_plan (hval 0 24 v0 rfl rfl) h0
  obtain ⟨x1, g1, b1⟩ := open_ints' (hval 1 25 v1 rfl rfl) h1
  obtain ⟨x2, g2, b2⟩ := open_ints' (hval 2 25 v2 rfl rfl) h2
  obtain ⟨x3, g3, b3⟩ := open_int' (hval 3 3 v3 rfl rfl) h3
  obtain ⟨x4, g4⟩ := open_span (hval 4 49 v4 rfl rfl) h4
  obtain ⟨x5, g5, b5⟩ := open_int' (hval 5 3 v5 rfl rfl) h5
  exact law_calls (C := Tz (gW W)) (sums_meets (gok hL hsh) x0 x1 x2 x3 x4 x5 b1 b2 b3 b5) rfl (Below.refl _ _) (us := [v0, v1, v2, v3, v4, v5]) rfl (fun i d u hd hu => by
    match i, hd, hu with
    | 0, hd, hu => simp at hd hu; subst hd; subst hu; exact g0
    | 1, hd, hu => simp at hd hu; subst hd; subst hu; exact g1
    | 2, hd, hu => simp at hd hu; subst hd; subst hu; exact g2
    | 3, hd, hu => simp at hd hu; subst hd; subst hu; exact g3
    | 4, hd, hu => simp at hd hu; subst hd; subst hu; exact g4
    | 5, hd, hu => simp at hd hu; subst hd; subst hu; exact g5
    | i + 6, hd, hu => simp at hd)
theorem sums_lifted (os : Os) (started : os.Started) (H : Type) (enc : TypeId × Value → H) :
    ReturnsInHanded {} Tryz.checked os 8 .any (fun w args => (Rows.differSumsSpec.pre enc Tryz.prog Tryz.f8 [] false w args ∧ laidMetH Tryz.prog laidL w) ∧ sizedMet enc Tryz.prog Tryz.f8 (OpenSpec.ofChange Rows.differSumsSpec) false w args)
      (Rows.differSumsSpec.post enc Tryz.prog Tryz.f8 false true false false) :=
  law_lifted (C := Tryz.checked) (tb := 4) (n := 6) started own (by kernel_rfl) Tryz.func8
    (ChangeSpec.witness_shaped (enc := enc) (C := Tryz.checked) (os := os) (X := fun w _ => laidMetH Tryz.prog laidL w) false (World.laidAll Tryz.prog os laidL) #[.agg #[.slice none 0 0, .int .i64 0, .int .i64 0], .slice none 0 0, .slice none 0 0, .int .i64 0, .agg #[.int .i64 0, .int .i64 0], .int .i64 0] 8 (World.laidAll_os _ _ _)
      (World.shaped_of_ZipB (by kernel_rfl) (by kernel_rfl)) (by kernel_rfl) (by kernel_rfl) (by kernel_rfl)
      (by rw [MakeChecks.laidMetH_plain _ _ _ (by kernel_rfl)]; exact laidMet_laidAll _ (by kernel_rfl) (by kernel_rfl)))
    laidOut (by kernel_rfl) (by kernel_rfl) Tryz.underlying4 rfl (by kernel_rfl) (fun ds hl => by
      match ds, hl with
      | [a, b, c, d, e, f], _ => rfl) sums_calls
theorem sums_holds : Rows.DifferSumsSaid :=
  OpenClaim.holds_of_wide 8 Tryz.f8 rfl rfl rfl rfl rfl rfl rfl ⟨rfl, rfl, rfl, rfl, rfl⟩ rfl rfl rfl rfl rfl (by kernel_rfl) Tryz.func8 (by kernel_rfl)
    (of_decide_eq_true (by kernel_rfl)) (by unfold Func.isWrapper; first | (rw [if_pos (by decide +kernel)]; kernel_rfl) | (rw [if_neg (by decide +kernel)]; exact ⟨rfl, rfl⟩))
    (fun os started H enc _ => sums_lifted os started H enc)
theorem sums_card : Rows.DifferSumsCardSaid :=
  Claim7.holds_tied_plain_at .later [] [.data, .data, .data, .data, .pinned] true (true, "9a542ac743afd7edcb6f3cbd989ac5534e57cf4118a8820287a37bb09b5416c8") true sums_holds (fun _ h => by cases h) (by kernel_rfl) (fun _ h => by cases h) differSums_row_tie rfl ⟨rfl, rfl⟩ (by kernel_rfl) rfl
    (fun f fn hf hfn => by
      obtain rfl : f = 8 := Option.some.inj ((show Tryz.prog.funcNamed "ephemerist/ephemeristlaw01.DifferSums" = some 8 by kernel_rfl).symm.trans hf) |>.symm
      obtain rfl : fn = Tryz.f8 := (Option.some.inj (Tryz.func8.symm.trans hfn)).symm
      exact ⟨by kernel_rfl, fun j t ht => by
        rw [Tryz.params8] at ht
        have hm : t ∈ [24, 25, 25, 3, 49, 3] := by simpa using Array.mem_of_getElem? ht
        have hall : ([24, 25, 25, 3, 49, 3].all fun u => !Tryz.prog.wantsStandIn u) = true := by kernel_rfl
        exact (show Tryz.prog.wantsStandIn t = false by simpa using List.all_eq_true.1 hall t hm)⟩)
    (by kernel_rfl)
end Go.Vc

namespace Go.Proofs.YtflbianfhogdjaaGreatDoor
theorem law_DifferSumsCardSaid : Rows.DifferSumsCardSaid := Go.Vc.sums_card
end Go.Proofs.YtflbianfhogdjaaGreatDoor
