/- A part of the proof: general laws of a reading of the model by abstract data, or contracts of the functions that the law calls. -/
import Derived.Test.YtkefjhemmdolaaaGreatVc23
import Derived.Test.YtkefjhemmdolaaaGreatVc11
set_option maxRecDepth 100000
namespace Go.Vc
open Go Go.Proofs Go.RowKit
def vc_differ_end_k0 (_P : Ctx) (_pre : List ABlk) (_r : AV) (_post : List PB) (v0 : AV) (h1 : Heap) (vs4 : List AV) (h7 : Heap) (v8 : AV) (v9 : AV) (rd10 : List Nat) (next12 : List AV → Heap → Prop) : Prop :=
  MKS T_int 1 [v0] 200 h1 fun v2 h3 =>
  APP T_int 1 (nth vs4 2) v2 208 h3 fun v5 h6 =>
  ORDX [] [0, 0, 2, 6, 0, 30, 62, 127, 255] [(2, wr h7 h7, (ids (nth vs4 1))), (3, wr h7 h7, (ids v8)), (4, wr h7 h7, (ids v9)), (5, wr h7 h1, rd10), (6, wr h1 h3, (ids.idsL [v0])), (7, wr h3 h6, (ids.idsL [(nth vs4 2), v2]))] ∧
  BIN 0 .add (nth vs4 5) (.d (.num .i64 1)) fun v11 =>
  next12 [(nth vs4 0), (nth vs4 1), v5, (nth vs4 3), (nth vs4 4), v11] h6
def vc_differ_end_k1 (P : Ctx) (pre : List ABlk) (r : AV) (post : List PB) (vs0 : List AV) (h2 : Heap) (next14 : List AV → Heap → Prop) : Prop :=
  BIN 0 .lss (nth vs0 5) (nth vs0 4) fun v1 =>
  COND v1
  (IADDR 2 T_api_Span (nth vs0 3) (nth vs0 5) h2 fun v3 =>
  LOAD true 2 v3 h2 fun v4 =>
  ALLOC T_api_Span [.d (.num .i64 0), .d (.num .i64 0)] 136 h2 fun v5 h6 =>
  STORE 2 v5 v4 h6 fun h7 =>
  AADDR 1 2 (nth vs0 1) (nth vs0 0) h7 fun v8 =>
  LOAD false 1 v8 h7 fun v9 =>
  LOAD true 2 v5 h7 fun v10 =>
  CALLV P v9 [v10] 192 h7 (fun rd11 v12 h13 =>
  vc_differ_end_k0 P pre r post v12 h13 vs0 h7 v8 v5 rd11 next14)
  (fun _ _ _ => False))
  (POST (nth vs0 2) h2 pre r post)
def vc_differ_rows_k0 (_P : Ctx) (pre : List ABlk) (r : AV) (post : List PB) (vs0 : List AV) (h2 : Heap) (next13 : List AV → Heap → Prop) : Prop :=
  BIN 0 .lss (nth vs0 4) (nth vs0 3) fun v1 =>
  COND v1
  (IADDR 1 T_int (nth vs0 0) (nth vs0 4) h2 fun v3 =>
  LOAD false 1 v3 h2 fun v4 =>
  IADDR 1 T_int (nth vs0 1) (nth vs0 4) h2 fun v5 =>
  LOAD false 1 v5 h2 fun v6 =>
  BUILD [(0, 1), (1, 1)] [.d (.num .i64 0), .d (.num .i64 0)] [(0, v4), (1, v6)] fun v7 =>
  MKS T_api_Span 2 [v7] 280 h2 fun v8 h9 =>
  APP T_api_Span 2 (nth vs0 2) v8 288 h9 fun v10 h11 =>
  ORDX [] [0, 0, 0, 6, 14, 0, 0, 96, 224, 510, 1022, 2047, 4095] [(3, wr h2 h2, (ids (nth vs0 0))), (4, wr h2 h2, (ids v3)), (7, wr h2 h2, (ids (nth vs0 1))), (8, wr h2 h2, (ids v5)), (10, wr h2 h9, (ids.idsL [v7])), (11, wr h9 h11, (ids.idsL [(nth vs0 2), v8]))] ∧
  BIN 0 .add (nth vs0 4) (.d (.num .i64 1)) fun v12 =>
  next13 [(nth vs0 0), (nth vs0 1), v10, (nth vs0 3), v12] h11)
  (POST (nth vs0 2) h2 pre r post)
def vc_differ_rows_k1 (P : Ctx) (pre : List ABlk) (r : AV) (post : List PB) (h0 : Heap) (v1 : AV) (h2 : Heap) (rd3 : List Nat) (h4 : Heap) (rd5 : List Nat) (h6 : Heap) (rd7 : List Nat) (h8 : Heap) (rd9 : List Nat) (v10 : AV) (v12 : AV) : Prop :=
  ORDX [] [0, 0, 2, 7, 15, 0, 0, 95, 255, 511, 1023, 2047] [(0, wr h0 h0, (ids v1)), (1, wr h0 h0, (ids v1)), (2, wr h0 h2, rd3), (4, wr h2 h4, rd5), (5, wr h4 h4, (ids v1)), (6, wr h4 h4, (ids v1)), (7, wr h4 h6, rd7), (9, wr h6 h8, rd9)] ∧
  LEN false v10 h8 fun v11 =>
  LOOP [v10, v12, .zc, v11, (.d (.num .i64 0))] h8 168 fun vs13 h14 next15 =>
  vc_differ_rows_k0 P pre r post vs13 h14 next15
def vc_differ_rows_k2 (P : Ctx) (pre : List ABlk) (r : AV) (post : List PB) (v0 : AV) (v1 : AV) (h3 : Heap) (h7 : Heap) (v8 : AV) (h9 : Heap) (rd10 : List Nat) (h11 : Heap) (rd12 : List Nat) (rd13 : List Nat) (v14 : AV) : Prop :=
  BUILD [(0, 3), (3, 1)] [.zc, .d (.num .i64 0), .d (.num .i64 0), .zc] [(0, v0), (1, v1)] fun v2 =>
  CALL P f_differ_table_values [v2] 112 h3 (fun rd4 v5 h6 =>
  vc_differ_rows_k1 P pre r post h7 v8 h9 rd10 h11 rd12 h3 rd13 h6 rd4 v14 v5)
  (fun _ _ _ => False)
def vc_differ_rows_k3 (P : Ctx) (pre : List ABlk) (r : AV) (post : List PB) (v0 : AV) (v1 : AV) (h3 : Heap) (v7 : AV) (h13 : Heap) (rd14 : List Nat) : Prop :=
  BUILD [(0, 3), (3, 1)] [.zc, .d (.num .i64 0), .d (.num .i64 0), .zc] [(0, v0), (1, v1)] fun v2 =>
  CALL P f_differ_table_values [v2] 72 h3 (fun rd4 v5 h6 =>
  LOAD true 3 v7 h6 fun v8 =>
  LOAD true 3 v7 h6 fun v9 =>
  CALL P f_differ_end [v9, (.d (.num .i64 1))] 96 h6 (fun rd10 v11 h12 =>
  vc_differ_rows_k2 P pre r post v8 v11 h12 h13 v7 h3 rd14 h6 rd4 rd10 v5)
  (fun _ _ _ => False))
  (fun _ _ _ => False)
end Go.Vc
