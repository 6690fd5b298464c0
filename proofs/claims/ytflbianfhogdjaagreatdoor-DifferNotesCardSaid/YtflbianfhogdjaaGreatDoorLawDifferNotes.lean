/- Proves that the statement DifferNotesCardSaid holds of the given program: for every input the law returns true and leaves its arguments as they were; under the row's own conditions, that the listed tables are laid as the program's text has them. -/
import Derived.Test.YtflbianfhogdjaaGreatDoorVc22
import Derived.Test.YtflbianfhogdjaaGreatDoorVc11
import Derived.Test.YtflbianfhogdjaaGreatDoorVc44
import Derived.Test.YtflbianfhogdjaaGreatDoorVc30
import Derived.Test.YtflbianfhogdjaaGreatDoorVc43
set_option maxRecDepth 100000
namespace Go.Vc
open Go Go.Proofs Go.RowKit
def ann_law01_DifferNotes : Nat → List Nat := fun n => match n with | 11 => [1, 2, 3, 4, 9, 11, 13, 14, 15, 17, 18] | 18 => [1, 2, 3, 4, 9, 11, 13, 14, 19, 20] | 30 => [2, 13, 23, 25] | _ => []
def vc_law01_DifferNotes_k0 (_P : Ctx) (_pre : List ABlk) (_r : AV) (_post : List PB) (vs0 : List AV) (h1 : Heap) (next12 : List AV → Heap → Prop) : Prop :=
  IADDR 2 T_api_DifferSeen (nth vs0 0) (nth vs0 9) h1 fun v2 =>
  FADDR 0 v2 h1 fun v3 =>
  LOAD false 1 v3 h1 fun v4 =>
  IADDR 1 T_int (nth vs0 4) v4 h1 fun v5 =>
  LOAD false 1 v5 h1 fun v6 =>
  IADDR 2 T_api_DifferSeen (nth vs0 0) (nth vs0 9) h1 fun v7 =>
  FADDR 1 v7 h1 fun v8 =>
  LOAD false 1 v8 h1 fun v9 =>
  BIN 0 .eql v6 v9 fun v10 =>
  ORDX [] [0, 1, 3, 3, 3, 27, 59, 123, 255, 511, 3, 3, 3075, 7171, 15363, 32767, 65535, 131071] [(5, wr h1 h1, (ids (nth vs0 0))), (6, wr h1 h1, (ids v2)), (7, wr h1 h1, (ids v3)), (8, wr h1 h1, (ids (nth vs0 4))), (9, wr h1 h1, (ids v5)), (12, wr h1 h1, (ids (nth vs0 0))), (13, wr h1 h1, (ids v7)), (14, wr h1 h1, (ids v8))] ∧
  BIN 0 .add (nth vs0 9) (.d (.num .i64 1)) fun v11 =>
  next12 [(nth vs0 0), (nth vs0 1), (nth vs0 2), (nth vs0 3), (nth vs0 4), (nth vs0 5), (nth vs0 6), (nth vs0 7), v10, v11] h1
def vc_law01_DifferNotes_k1 (_P : Ctx) (_pre : List ABlk) (_r : AV) (_post : List PB) (vs0 : List AV) (next2 : List AV → Heap → Prop) (h3 : Heap) : Prop :=
  ORDX [] [0, 1, 3, 3, 3, 27, 59, 123, 255, 511, 3, 3, 3075, 7171, 15363, 32767, 65535, 131071] [] ∧
  BIN 0 .add (nth vs0 9) (.d (.num .i64 1)) fun v1 =>
  next2 [(nth vs0 0), (nth vs0 1), (nth vs0 2), (nth vs0 3), (nth vs0 4), (nth vs0 5), (nth vs0 6), (nth vs0 7), (.d (.bool false)), v1] h3
def vc_law01_DifferNotes_k2 (_P : Ctx) (pre : List ABlk) (r : AV) (post : List PB) (h0 : Heap) (vs1 : List AV) (v2 : AV) (v3 : AV) (v4 : AV) (v5 : AV) (v6 : AV) (v7 : AV) (v8 : AV) (v9 : AV) (v10 : AV) (v11 : AV) (v12 : AV) (v13 : AV) (v14 : AV) (v15 : AV) (v16 : AV) (v17 : AV) (v18 : AV) : Prop :=
  ORDX [] [0, 0, 3, 7, 0, 0, 48, 112, 240, 511, 1023, 2047, 2047, 8191, 16383, 2047, 2047, 100351, 231423, 493567, 1048575, 2097151, 4194303, 8388607, 8388607, 33554431, 67108863, 134217727, 8388607, 8388607, 813694975, 1887436799, 4034920447, 8589934591, 17179869183, 34359738367, 68719476735, 68719476735, 274877906943, 549755813887, 1099511627775, 68719476735, 68719476735, 6665789243391, 15461882265599, 33054068310015, 70368744177663, 140737488355327, 281474976710655, 562949953421311, 562949953421311, 2251799813685247, 4503599627370495, 562949953421311, 562949953421311, 27584547717644287, 63613344736608255, 135670938774536191, 288230376151711743, 576460752303423487, 1152921504606846975, 2305843009213693951, 2305843009213693951, 9223372036854775807, 18446744073709551615, 2305843009213693951, 2305843009213693951, 112986307451471003647, 260560260041147416575, 555708165220500242431, 1180591620717411303423, 2361183241434822606847] [(2, wr h0 h0, (ids (nth vs1 0))), (3, wr h0 h0, (ids v2)), (6, wr h0 h0, (ids (nth vs1 1))), (7, wr h0 h0, (ids v3)), (8, wr h0 h0, (ids v4)), (13, wr h0 h0, (ids (nth vs1 0))), (14, wr h0 h0, (ids v5)), (17, wr h0 h0, (ids (nth vs1 1))), (18, wr h0 h0, (ids v6)), (19, wr h0 h0, (ids v7)), (25, wr h0 h0, (ids (nth vs1 2))), (26, wr h0 h0, (ids v8)), (27, wr h0 h0, (ids v9)), (30, wr h0 h0, (ids (nth vs1 1))), (31, wr h0 h0, (ids v10)), (32, wr h0 h0, (ids v11)), (38, wr h0 h0, (ids (nth vs1 2))), (39, wr h0 h0, (ids v12)), (40, wr h0 h0, (ids v13)), (43, wr h0 h0, (ids (nth vs1 1))), (44, wr h0 h0, (ids v14)), (45, wr h0 h0, (ids v15)), (51, wr h0 h0, (ids (nth vs1 0))), (52, wr h0 h0, (ids v16)), (55, wr h0 h0, (ids (nth vs1 2))), (56, wr h0 h0, (ids v17)), (57, wr h0 h0, (ids v18))] ∧
  POST (.d (.bool false)) h0 pre r post
def vc_law01_DifferNotes_k3 (_P : Ctx) (pre : List ABlk) (r : AV) (post : List PB) (vs0 : List AV) (h1 : Heap) (v8 : AV) (v9 : AV) (v10 : AV) (v11 : AV) (v12 : AV) (v13 : AV) (v14 : AV) (v15 : AV) (v16 : AV) (v17 : AV) (v18 : AV) (v19 : AV) (v20 : AV) (v21 : AV) (v22 : AV) (v23 : AV) (v24 : AV) (next26 : List AV → Heap → Prop) : Prop :=
  IADDR 1 T_int (nth vs0 0) (nth vs0 3) h1 fun v2 =>
  LOAD false 1 v2 h1 fun v3 =>
  IADDR 2 T_api_Span (nth vs0 2) (nth vs0 3) h1 fun v4 =>
  FADDR 1 v4 h1 fun v5 =>
  LOAD false 1 v5 h1 fun v6 =>
  BIN 0 .gtr v3 v6 fun v7 =>
  ORDX [] [0, 0, 3, 7, 0, 0, 48, 112, 240, 511, 1023, 2047, 2047, 8191, 16383, 2047, 2047, 100351, 231423, 493567, 1048575, 2097151, 4194303, 8388607, 8388607, 33554431, 67108863, 134217727, 8388607, 8388607, 813694975, 1887436799, 4034920447, 8589934591, 17179869183, 34359738367, 68719476735, 68719476735, 274877906943, 549755813887, 1099511627775, 68719476735, 68719476735, 6665789243391, 15461882265599, 33054068310015, 70368744177663, 140737488355327, 281474976710655, 562949953421311, 562949953421311, 2251799813685247, 4503599627370495, 562949953421311, 562949953421311, 27584547717644287, 63613344736608255, 135670938774536191, 288230376151711743, 576460752303423487, 1152921504606846975, 2305843009213693951, 2305843009213693951, 9223372036854775807, 18446744073709551615, 2305843009213693951, 2305843009213693951, 112986307451471003647, 260560260041147416575, 555708165220500242431, 1180591620717411303423, 2361183241434822606847] [(2, wr h1 h1, (ids (nth vs0 0))), (3, wr h1 h1, (ids v8)), (6, wr h1 h1, (ids (nth vs0 1))), (7, wr h1 h1, (ids v9)), (8, wr h1 h1, (ids v10)), (13, wr h1 h1, (ids (nth vs0 0))), (14, wr h1 h1, (ids v11)), (17, wr h1 h1, (ids (nth vs0 1))), (18, wr h1 h1, (ids v12)), (19, wr h1 h1, (ids v13)), (25, wr h1 h1, (ids (nth vs0 2))), (26, wr h1 h1, (ids v14)), (27, wr h1 h1, (ids v15)), (30, wr h1 h1, (ids (nth vs0 1))), (31, wr h1 h1, (ids v16)), (32, wr h1 h1, (ids v17)), (38, wr h1 h1, (ids (nth vs0 2))), (39, wr h1 h1, (ids v18)), (40, wr h1 h1, (ids v19)), (43, wr h1 h1, (ids (nth vs0 1))), (44, wr h1 h1, (ids v20)), (45, wr h1 h1, (ids v21)), (51, wr h1 h1, (ids (nth vs0 0))), (52, wr h1 h1, (ids v22)), (55, wr h1 h1, (ids (nth vs0 2))), (56, wr h1 h1, (ids v23)), (57, wr h1 h1, (ids v24)), (63, wr h1 h1, (ids (nth vs0 0))), (64, wr h1 h1, (ids v2)), (67, wr h1 h1, (ids (nth vs0 2))), (68, wr h1 h1, (ids v4)), (69, wr h1 h1, (ids v5))] ∧
  COND v7
  (POST (.d (.bool false)) h1 pre r post)
  (BIN 0 .add (nth vs0 3) (.d (.num .i64 1)) fun v25 =>
  next26 [(nth vs0 0), (nth vs0 1), (nth vs0 2), v25] h1)
def vc_law01_DifferNotes_k4 (_P : Ctx) (pre : List ABlk) (r : AV) (post : List PB) (h0 : Heap) (vs1 : List AV) (v2 : AV) (v3 : AV) (v4 : AV) (v5 : AV) (v6 : AV) (v7 : AV) (v8 : AV) (v9 : AV) (v10 : AV) (v11 : AV) (v12 : AV) (v13 : AV) (v14 : AV) (v15 : AV) : Prop :=
  ORDX [] [0, 0, 3, 7, 0, 0, 48, 112, 240, 511, 1023, 2047, 2047, 8191, 16383, 2047, 2047, 100351, 231423, 493567, 1048575, 2097151, 4194303, 8388607, 8388607, 33554431, 67108863, 134217727, 8388607, 8388607, 813694975, 1887436799, 4034920447, 8589934591, 17179869183, 34359738367, 68719476735, 68719476735, 274877906943, 549755813887, 1099511627775, 68719476735, 68719476735, 6665789243391, 15461882265599, 33054068310015, 70368744177663, 140737488355327, 281474976710655, 562949953421311, 562949953421311, 2251799813685247, 4503599627370495, 562949953421311, 562949953421311, 27584547717644287, 63613344736608255, 135670938774536191, 288230376151711743, 576460752303423487, 1152921504606846975, 2305843009213693951, 2305843009213693951, 9223372036854775807, 18446744073709551615, 2305843009213693951, 2305843009213693951, 112986307451471003647, 260560260041147416575, 555708165220500242431, 1180591620717411303423, 2361183241434822606847] [(2, wr h0 h0, (ids (nth vs1 0))), (3, wr h0 h0, (ids v2)), (6, wr h0 h0, (ids (nth vs1 1))), (7, wr h0 h0, (ids v3)), (8, wr h0 h0, (ids v4)), (13, wr h0 h0, (ids (nth vs1 0))), (14, wr h0 h0, (ids v5)), (17, wr h0 h0, (ids (nth vs1 1))), (18, wr h0 h0, (ids v6)), (19, wr h0 h0, (ids v7)), (25, wr h0 h0, (ids (nth vs1 2))), (26, wr h0 h0, (ids v8)), (27, wr h0 h0, (ids v9)), (30, wr h0 h0, (ids (nth vs1 1))), (31, wr h0 h0, (ids v10)), (32, wr h0 h0, (ids v11)), (38, wr h0 h0, (ids (nth vs1 2))), (39, wr h0 h0, (ids v12)), (40, wr h0 h0, (ids v13)), (43, wr h0 h0, (ids (nth vs1 1))), (44, wr h0 h0, (ids v14)), (45, wr h0 h0, (ids v15))] ∧
  POST (.d (.bool false)) h0 pre r post
def vc_law01_DifferNotes_k5 (P : Ctx) (pre : List ABlk) (r : AV) (post : List PB) (vs0 : List AV) (h1 : Heap) (v8 : AV) (v9 : AV) (v10 : AV) (v11 : AV) (v12 : AV) (v13 : AV) (v14 : AV) (v15 : AV) (v16 : AV) (v17 : AV) (v18 : AV) (v19 : AV) (v20 : AV) (v21 : AV) (next22 : List AV → Heap → Prop) : Prop :=
  IADDR 1 T_int (nth vs0 0) (nth vs0 3) h1 fun v2 =>
  LOAD false 1 v2 h1 fun v3 =>
  IADDR 2 T_api_Span (nth vs0 2) (nth vs0 3) h1 fun v4 =>
  FADDR 0 v4 h1 fun v5 =>
  LOAD false 1 v5 h1 fun v6 =>
  BIN 0 .lss v3 v6 fun v7 =>
  CONDG v7
  (vc_law01_DifferNotes_k2 P pre r post h1 vs0 v8 v9 v10 v11 v12 v13 v14 v15 v16 v17 v18 v19 v20 v21 v2 v4 v5)
  (vc_law01_DifferNotes_k3 P pre r post vs0 h1 v8 v9 v10 v11 v12 v13 v14 v15 v16 v17 v18 v19 v20 v21 v2 v4 v5 next22)
def vc_law01_DifferNotes_k6 (_P : Ctx) (pre : List ABlk) (r : AV) (post : List PB) (h0 : Heap) (vs1 : List AV) (v2 : AV) (v3 : AV) (v4 : AV) (v5 : AV) (v6 : AV) (v7 : AV) (v8 : AV) (v9 : AV) (v10 : AV) (v11 : AV) : Prop :=
  ORDX [] [0, 0, 3, 7, 0, 0, 48, 112, 240, 511, 1023, 2047, 2047, 8191, 16383, 2047, 2047, 100351, 231423, 493567, 1048575, 2097151, 4194303, 8388607, 8388607, 33554431, 67108863, 134217727, 8388607, 8388607, 813694975, 1887436799, 4034920447, 8589934591, 17179869183, 34359738367, 68719476735, 68719476735, 274877906943, 549755813887, 1099511627775, 68719476735, 68719476735, 6665789243391, 15461882265599, 33054068310015, 70368744177663, 140737488355327, 281474976710655, 562949953421311, 562949953421311, 2251799813685247, 4503599627370495, 562949953421311, 562949953421311, 27584547717644287, 63613344736608255, 135670938774536191, 288230376151711743, 576460752303423487, 1152921504606846975, 2305843009213693951, 2305843009213693951, 9223372036854775807, 18446744073709551615, 2305843009213693951, 2305843009213693951, 112986307451471003647, 260560260041147416575, 555708165220500242431, 1180591620717411303423, 2361183241434822606847] [(2, wr h0 h0, (ids (nth vs1 0))), (3, wr h0 h0, (ids v2)), (6, wr h0 h0, (ids (nth vs1 1))), (7, wr h0 h0, (ids v3)), (8, wr h0 h0, (ids v4)), (13, wr h0 h0, (ids (nth vs1 0))), (14, wr h0 h0, (ids v5)), (17, wr h0 h0, (ids (nth vs1 1))), (18, wr h0 h0, (ids v6)), (19, wr h0 h0, (ids v7)), (25, wr h0 h0, (ids (nth vs1 2))), (26, wr h0 h0, (ids v8)), (27, wr h0 h0, (ids v9)), (30, wr h0 h0, (ids (nth vs1 1))), (31, wr h0 h0, (ids v10)), (32, wr h0 h0, (ids v11))] ∧
  POST (.d (.bool false)) h0 pre r post
def vc_law01_DifferNotes_k7 (P : Ctx) (pre : List ABlk) (r : AV) (post : List PB) (vs0 : List AV) (h1 : Heap) (v9 : AV) (v10 : AV) (v11 : AV) (v12 : AV) (v13 : AV) (v14 : AV) (v15 : AV) (v16 : AV) (v17 : AV) (v18 : AV) (next19 : List AV → Heap → Prop) : Prop :=
  IADDR 2 T_api_Span (nth vs0 2) (nth vs0 3) h1 fun v2 =>
  FADDR 1 v2 h1 fun v3 =>
  LOAD false 1 v3 h1 fun v4 =>
  IADDR 2 T_api_Span (nth vs0 1) (nth vs0 3) h1 fun v5 =>
  FADDR 1 v5 h1 fun v6 =>
  LOAD false 1 v6 h1 fun v7 =>
  BIN 0 .gtr v4 v7 fun v8 =>
  CONDG v8
  (vc_law01_DifferNotes_k4 P pre r post h1 vs0 v9 v10 v11 v12 v13 v14 v15 v16 v17 v18 v2 v3 v5 v6)
  (vc_law01_DifferNotes_k5 P pre r post vs0 h1 v9 v10 v11 v12 v13 v14 v15 v16 v17 v18 v2 v3 v5 v6 next19)
def vc_law01_DifferNotes_k8 (_P : Ctx) (pre : List ABlk) (r : AV) (post : List PB) (h0 : Heap) (vs1 : List AV) (v2 : AV) (v3 : AV) (v4 : AV) (v5 : AV) (v6 : AV) (v7 : AV) : Prop :=
  ORDX [] [0, 0, 3, 7, 0, 0, 48, 112, 240, 511, 1023, 2047, 2047, 8191, 16383, 2047, 2047, 100351, 231423, 493567, 1048575, 2097151, 4194303, 8388607, 8388607, 33554431, 67108863, 134217727, 8388607, 8388607, 813694975, 1887436799, 4034920447, 8589934591, 17179869183, 34359738367, 68719476735, 68719476735, 274877906943, 549755813887, 1099511627775, 68719476735, 68719476735, 6665789243391, 15461882265599, 33054068310015, 70368744177663, 140737488355327, 281474976710655, 562949953421311, 562949953421311, 2251799813685247, 4503599627370495, 562949953421311, 562949953421311, 27584547717644287, 63613344736608255, 135670938774536191, 288230376151711743, 576460752303423487, 1152921504606846975, 2305843009213693951, 2305843009213693951, 9223372036854775807, 18446744073709551615, 2305843009213693951, 2305843009213693951, 112986307451471003647, 260560260041147416575, 555708165220500242431, 1180591620717411303423, 2361183241434822606847] [(2, wr h0 h0, (ids (nth vs1 0))), (3, wr h0 h0, (ids v2)), (6, wr h0 h0, (ids (nth vs1 1))), (7, wr h0 h0, (ids v3)), (8, wr h0 h0, (ids v4)), (13, wr h0 h0, (ids (nth vs1 0))), (14, wr h0 h0, (ids v5)), (17, wr h0 h0, (ids (nth vs1 1))), (18, wr h0 h0, (ids v6)), (19, wr h0 h0, (ids v7))] ∧
  POST (.d (.bool false)) h0 pre r post
def vc_law01_DifferNotes_k9 (P : Ctx) (pre : List ABlk) (r : AV) (post : List PB) (vs0 : List AV) (h1 : Heap) (v9 : AV) (v10 : AV) (v11 : AV) (v12 : AV) (v13 : AV) (v14 : AV) (next15 : List AV → Heap → Prop) : Prop :=
  IADDR 2 T_api_Span (nth vs0 2) (nth vs0 3) h1 fun v2 =>
  FADDR 0 v2 h1 fun v3 =>
  LOAD false 1 v3 h1 fun v4 =>
  IADDR 2 T_api_Span (nth vs0 1) (nth vs0 3) h1 fun v5 =>
  FADDR 0 v5 h1 fun v6 =>
  LOAD false 1 v6 h1 fun v7 =>
  BIN 0 .lss v4 v7 fun v8 =>
  CONDG v8
  (vc_law01_DifferNotes_k6 P pre r post h1 vs0 v9 v10 v11 v12 v13 v14 v2 v3 v5 v6)
  (vc_law01_DifferNotes_k7 P pre r post vs0 h1 v9 v10 v11 v12 v13 v14 v2 v3 v5 v6 next15)
def vc_law01_DifferNotes_k10 (_P : Ctx) (pre : List ABlk) (r : AV) (post : List PB) (h0 : Heap) (vs1 : List AV) (v2 : AV) (v3 : AV) (v4 : AV) : Prop :=
  ORDX [] [0, 0, 3, 7, 0, 0, 48, 112, 240, 511, 1023, 2047, 2047, 8191, 16383, 2047, 2047, 100351, 231423, 493567, 1048575, 2097151, 4194303, 8388607, 8388607, 33554431, 67108863, 134217727, 8388607, 8388607, 813694975, 1887436799, 4034920447, 8589934591, 17179869183, 34359738367, 68719476735, 68719476735, 274877906943, 549755813887, 1099511627775, 68719476735, 68719476735, 6665789243391, 15461882265599, 33054068310015, 70368744177663, 140737488355327, 281474976710655, 562949953421311, 562949953421311, 2251799813685247, 4503599627370495, 562949953421311, 562949953421311, 27584547717644287, 63613344736608255, 135670938774536191, 288230376151711743, 576460752303423487, 1152921504606846975, 2305843009213693951, 2305843009213693951, 9223372036854775807, 18446744073709551615, 2305843009213693951, 2305843009213693951, 112986307451471003647, 260560260041147416575, 555708165220500242431, 1180591620717411303423, 2361183241434822606847] [(2, wr h0 h0, (ids (nth vs1 0))), (3, wr h0 h0, (ids v2)), (6, wr h0 h0, (ids (nth vs1 1))), (7, wr h0 h0, (ids v3)), (8, wr h0 h0, (ids v4))] ∧
  POST (.d (.bool false)) h0 pre r post
def vc_law01_DifferNotes_k11 (P : Ctx) (pre : List ABlk) (r : AV) (post : List PB) (vs0 : List AV) (h1 : Heap) (v8 : AV) (v9 : AV) (v10 : AV) (next11 : List AV → Heap → Prop) : Prop :=
  IADDR 1 T_int (nth vs0 0) (nth vs0 3) h1 fun v2 =>
  LOAD false 1 v2 h1 fun v3 =>
  IADDR 2 T_api_Span (nth vs0 1) (nth vs0 3) h1 fun v4 =>
  FADDR 1 v4 h1 fun v5 =>
  LOAD false 1 v5 h1 fun v6 =>
  BIN 0 .gtr v3 v6 fun v7 =>
  CONDG v7
  (vc_law01_DifferNotes_k8 P pre r post h1 vs0 v8 v9 v10 v2 v4 v5)
  (vc_law01_DifferNotes_k9 P pre r post vs0 h1 v8 v9 v10 v2 v4 v5 next11)
def vc_law01_DifferNotes_k12 (P : Ctx) (pre : List ABlk) (r : AV) (post : List PB) (vs0 : List AV) (h1 : Heap) (next10 : List AV → Heap → Prop) : Prop :=
  LEN false (nth vs0 0) h1 fun v2 =>
  BIN 0 .lss (nth vs0 3) v2 fun v3 =>
  COND v3
  (IADDR 1 T_int (nth vs0 0) (nth vs0 3) h1 fun v4 =>
  LOAD false 1 v4 h1 fun v5 =>
  IADDR 2 T_api_Span (nth vs0 1) (nth vs0 3) h1 fun v6 =>
  FADDR 0 v6 h1 fun v7 =>
  LOAD false 1 v7 h1 fun v8 =>
  BIN 0 .lss v5 v8 fun v9 =>
  CONDG v9
  (vc_law01_DifferNotes_k10 P pre r post h1 vs0 v4 v6 v7)
  (vc_law01_DifferNotes_k11 P pre r post vs0 h1 v4 v6 v7 next10))
  (CALL P f_law01_known [] 1512 h1 (fun _rd11 v12 h13 =>
  POST v12 h13 pre r post)
  (fun _ _ _ => False))
def vc_law01_DifferNotes_k13 (P : Ctx) (pre : List ABlk) (r : AV) (post : List PB) (v0 : AV) (h3 : Heap) (vs4 : List AV) (h5 : Heap) (v6 : AV) (h7 : Heap) (v8 : AV) (h9 : Heap) (v10 : AV) (v11 : AV) (h12 : Heap) (rd13 : List Nat) (v14 : AV) (v17 : AV) : Prop :=
  EXT v0 0 fun v1 =>
  EXT v0 1 fun v2 =>
  ORDX [] [0, 0, 2, 0, 0, 0, 48, 112, 248, 504, 1022, 2047, 4095, 8191, 8191, 16383, 65535] [(0, wr h3 h3, (ids (nth vs4 3))), (2, wr h3 h5, (ids.idsL [.zc, (nth vs4 0)])), (6, wr h5 h5, (ids (nth vs4 4))), (7, wr h5 h5, (ids v6)), (9, wr h5 h7, (ids.idsL [v8])), (10, wr h7 h9, (ids.idsL [v10, v11])), (11, wr h9 h12, rd13)] ∧
  BIN 0 .neq v14 (.d (.num .i64 0)) fun v15 =>
  CONDG v15
  (POST (.d (.bool false)) h12 pre r post)
  (BIN 0 .neq v2 (.d (.num .i64 0)) fun v16 =>
  CONDG v16
  (POST (.d (.bool false)) h12 pre r post)
  (BIN 0 .lss v17 (.d (.num .i64 1)) fun v18 =>
  CONDG v18
  (POST (.d (.bool false)) h12 pre r post)
  (BIN 0 .gtr v17 (nth vs4 5) fun v19 =>
  CONDG v19
  (POST (.d (.bool false)) h12 pre r post)
  (LEN false v1 h12 fun v20 =>
  LEN false (nth vs4 6) h12 fun v21 =>
  BIN 0 .neq v20 v21 fun v22 =>
  COND v22
  (POST (.d (.bool false)) h12 pre r post)
  (LOOP [(nth vs4 1), (nth vs4 6), v1, (.d (.num .i64 0))] h12 1472 fun vs23 h24 next25 =>
  vc_law01_DifferNotes_k12 P pre r post vs23 h24 next25)))))
def vc_law01_DifferNotes_k14 (P : Ctx) (pre : List ABlk) (r : AV) (post : List PB) (v0 : AV) (h3 : Heap) (vs4 : List AV) (h5 : Heap) (v6 : AV) (h7 : Heap) (v8 : AV) (h9 : Heap) (v10 : AV) (v11 : AV) (h12 : Heap) (rd13 : List Nat) : Prop :=
  EXT v0 0 fun v1 =>
  EXT v0 1 fun v2 =>
  ORDX [] [0, 0, 2, 0, 0, 0, 48, 112, 248, 504, 1022, 2047, 4095, 8191, 8191, 16383, 65535] [(0, wr h3 h3, (ids (nth vs4 3))), (2, wr h3 h5, (ids.idsL [.zc, (nth vs4 0)])), (6, wr h5 h5, (ids (nth vs4 4))), (7, wr h5 h5, (ids v6)), (9, wr h5 h7, (ids.idsL [v8])), (10, wr h7 h9, (ids.idsL [v10, v11])), (11, wr h9 h12, rd13)] ∧
  LOAD true 3 (nth vs4 3) h12 fun v14 =>
  APP T_api_DifferSeen 2 .zc (nth vs4 0) 1168 h12 fun v15 h16 =>
  IADDR 1 T_int (nth vs4 4) (nth vs4 2) h16 fun v17 =>
  LOAD false 1 v17 h16 fun v18 =>
  BUILD [(0, 1), (1, 1)] [.d (.num .i64 0), .d (.num .i64 0)] [(0, (nth vs4 2)), (1, v18)] fun v19 =>
  MKS T_api_DifferSeen 2 [v19] 1224 h16 fun v20 h21 =>
  APP T_api_DifferSeen 2 v15 v20 1232 h21 fun v22 h23 =>
  CALL P f_differ_Known [v14, v22] 1240 h23 (fun rd24 v25 h26 =>
  vc_law01_DifferNotes_k13 P pre r post v25 h12 vs4 h16 v17 h21 v19 h23 v15 v20 h26 rd24 v2 v1)
  (fun _ _ _ => False)
def vc_law01_DifferNotes_k15 (P : Ctx) (pre : List ABlk) (r : AV) (post : List PB) (vs0 : List AV) (h1 : Heap) (next4 : List AV → Heap → Prop) : Prop :=
  LEN false (nth vs0 0) h1 fun v2 =>
  BIN 0 .lss (nth vs0 9) v2 fun v3 =>
  COND v3
  (CONDG (nth vs0 8)
  (vc_law01_DifferNotes_k0 P pre r post vs0 h1 next4)
  (vc_law01_DifferNotes_k1 P pre r post vs0 next4 h1))
  (NOT (nth vs0 8) fun v5 =>
  COND v5
  (CALL P f_law01_known [] 944 h1 (fun _rd6 v7 h8 =>
  POST v7 h8 pre r post)
  (fun _ _ _ => False))
  (BIN 0 .neq (nth vs0 7) (.d (.num .i64 0)) fun v9 =>
  CONDG v9
  (POST (.d (.bool false)) h1 pre r post)
  (LEN false (nth vs0 6) h1 fun v10 =>
  LEN false (nth vs0 1) h1 fun v11 =>
  BIN 0 .neq v10 v11 fun v12 =>
  COND v12
  (POST (.d (.bool false)) h1 pre r post)
  (LOAD true 3 (nth vs0 3) h1 fun v13 =>
  APP T_api_DifferSeen 2 .zc (nth vs0 0) 1032 h1 fun v14 h15 =>
  IADDR 1 T_int (nth vs0 4) (nth vs0 2) h15 fun v16 =>
  LOAD false 1 v16 h15 fun v17 =>
  BUILD [(0, 1), (1, 1)] [.d (.num .i64 0), .d (.num .i64 0)] [(0, (nth vs0 2)), (1, v17)] fun v18 =>
  MKS T_api_DifferSeen 2 [v18] 1088 h15 fun v19 h20 =>
  APP T_api_DifferSeen 2 v14 v19 1096 h20 fun v21 h22 =>
  CALL P f_differ_Agree [v13, v21] 1104 h22 (fun rd23 v24 h25 =>
  vc_law01_DifferNotes_k14 P pre r post v24 h1 vs0 h15 v16 h20 v18 h22 v14 v19 h25 rd23)
  (fun _ _ _ => False)))))
def vc_law01_DifferNotes_k16 (_P : Ctx) (_pre : List ABlk) (_r : AV) (_post : List PB) (vs0 : List AV) (h1 : Heap) (next16 : List AV → Heap → Prop) : Prop :=
  FADDR 0 (nth vs0 3) h1 fun v2 =>
  LOAD false 1 v2 h1 fun v3 =>
  IADDR 2 T_api_Span v3 (nth vs0 10) h1 fun v4 =>
  FADDR 1 v4 h1 fun v5 =>
  LOAD false 1 v5 h1 fun v6 =>
  FADDR 0 (nth vs0 3) h1 fun v7 =>
  LOAD false 1 v7 h1 fun v8 =>
  IADDR 2 T_api_Span v8 (nth vs0 10) h1 fun v9 =>
  FADDR 0 v9 h1 fun v10 =>
  LOAD false 1 v10 h1 fun v11 =>
  BIN 0 .sub v6 v11 fun v12 =>
  BIN 0 .add v12 (.d (.num .i64 1)) fun v13 =>
  BIN 0 .mul (nth vs0 9) v13 fun v14 =>
  ORDX [] [0, 0, 2, 0, 14, 30, 62, 0, 128, 0, 896, 1920, 3968, 8190, 16382, 32767, 65535] [(1, wr h1 h1, (ids (nth vs0 3))), (2, wr h1 h1, (ids v2)), (4, wr h1 h1, (ids v3)), (5, wr h1 h1, (ids v4)), (6, wr h1 h1, (ids v5)), (7, wr h1 h1, (ids (nth vs0 3))), (8, wr h1 h1, (ids v7)), (10, wr h1 h1, (ids v8)), (11, wr h1 h1, (ids v9)), (12, wr h1 h1, (ids v10))] ∧
  BIN 0 .add (nth vs0 10) (.d (.num .i64 1)) fun v15 =>
  next16 [(nth vs0 0), (nth vs0 1), (nth vs0 2), (nth vs0 3), (nth vs0 4), (nth vs0 5), (nth vs0 6), (nth vs0 7), (nth vs0 8), v14, v15] h1
def vc_law01_DifferNotes_k17 (P : Ctx) (pre : List ABlk) (r : AV) (post : List PB) (vs0 : List AV) (h2 : Heap) : Prop :=
  BIN 0 .neq (nth vs0 8) (nth vs0 9) fun v1 =>
  COND v1
  (POST (.d (.bool false)) h2 pre r post)
  (LOOP [(nth vs0 0), (nth vs0 1), (nth vs0 2), (nth vs0 3), (nth vs0 4), (nth vs0 5), (nth vs0 6), (nth vs0 7), (.d (.bool true)), (.d (.num .i64 0))] h2 888 fun vs3 h4 next5 =>
  vc_law01_DifferNotes_k15 P pre r post vs3 h4 next5)
def vc_law01_DifferNotes_k18 (P : Ctx) (pre : List ABlk) (r : AV) (post : List PB) (vs0 : List AV) (h1 : Heap) (next6 : List AV → Heap → Prop) : Prop :=
  FADDR 0 (nth vs0 3) h1 fun v2 =>
  LOAD false 1 v2 h1 fun v3 =>
  LEN false v3 h1 fun v4 =>
  BIN 0 .lss (nth vs0 10) v4 fun v5 =>
  COND v5
  (vc_law01_DifferNotes_k16 P pre r post vs0 h1 next6)
  (vc_law01_DifferNotes_k17 P pre r post vs0 h1)
def vc_law01_DifferNotes_k19 (P : Ctx) (pre : List ABlk) (r : AV) (post : List PB) (v0 : AV) (h2 : Heap) (v3 : AV) (v5 : AV) (v7 : AV) (v11 : AV) (v13 : AV) (a18 : AV) (a19 : AV) (a20 : AV) (v21 : AV) : Prop :=
  BIN 0 .neq v0 (.d (.num .i64 7)) fun v1 =>
  CONDG v1
  (POST (.d (.bool false)) h2 pre r post)
  (BIN 0 .neq v3 (.d (.num .i64 0)) fun v4 =>
  CONDG v4
  (POST (.d (.bool false)) h2 pre r post)
  (LEN false v5 h2 fun v6 =>
  FADDR 1 v7 h2 fun v8 =>
  LOAD false 1 v8 h2 fun v9 =>
  BIN 0 .neq v6 v9 fun v10 =>
  CONDG v10
  (POST (.d (.bool false)) h2 pre r post)
  (BIN 0 .lss v11 (.d (.num .i64 0)) fun v12 =>
  CONDG v12
  (POST (.d (.bool false)) h2 pre r post)
  (BIN 0 .gtr v11 v13 fun v14 =>
  CONDG v14
  (POST (.d (.bool false)) h2 pre r post)
  (BIN 0 .eql v0 (.d (.num .i64 0)) fun v15 =>
  BIN 0 .gtr v11 (.d (.num .i64 0)) fun v16 =>
  BIN 999 .neq v15 v16 fun v17 =>
  COND v17
  (POST (.d (.bool false)) h2 pre r post)
  (LOOP [a18, a19, a20, v7, v5, v11, v21, v0, v13, (.d (.num .i64 1)), (.d (.num .i64 0))] h2 800 fun vs22 h23 next24 =>
  vc_law01_DifferNotes_k18 P pre r post vs22 h23 next24))))))
def vc_law01_DifferNotes_k20 (P : Ctx) (pre : List ABlk) (r : AV) (post : List PB) (v0 : AV) (h2 : Heap) (v3 : AV) (v5 : AV) (v9 : AV) (v11 : AV) (v13 : AV) (a17 : AV) (a18 : AV) (a19 : AV) (v20 : AV) : Prop :=
  BIN 0 .neq v0 (.d (.num .i64 0)) fun v1 =>
  CONDG v1
  (POST (.d (.bool false)) h2 pre r post)
  (LEN false v3 h2 fun v4 =>
  FADDR 1 v5 h2 fun v6 =>
  LOAD false 1 v6 h2 fun v7 =>
  BIN 0 .neq v4 v7 fun v8 =>
  CONDG v8
  (POST (.d (.bool false)) h2 pre r post)
  (BIN 0 .lss v9 (.d (.num .i64 0)) fun v10 =>
  CONDG v10
  (POST (.d (.bool false)) h2 pre r post)
  (BIN 0 .gtr v9 v11 fun v12 =>
  CONDG v12
  (POST (.d (.bool false)) h2 pre r post)
  (BIN 0 .eql v13 (.d (.num .i64 0)) fun v14 =>
  BIN 0 .gtr v9 (.d (.num .i64 0)) fun v15 =>
  BIN 999 .neq v14 v15 fun v16 =>
  COND v16
  (POST (.d (.bool false)) h2 pre r post)
  (LOOP [a17, a18, a19, v5, v3, v9, v20, v13, v11, (.d (.num .i64 1)), (.d (.num .i64 0))] h2 800 fun vs21 h22 next23 =>
  vc_law01_DifferNotes_k18 P pre r post vs21 h22 next23)))))
def vc_law01_DifferNotes_k21 (P : Ctx) (pre : List ABlk) (r : AV) (post : List PB) (v0 : AV) (v3 : AV) (h5 : Heap) (v6 : AV) (v8 : AV) (v10 : AV) (v11 : AV) (v12 : AV) (a13 : AV) (a14 : AV) (a15 : AV) (v16 : AV) : Prop :=
  EXT v0 0 fun v1 =>
  EXT v0 1 fun v2 =>
  BIN 0 .neq v3 (.d (.num .i64 0)) fun v4 =>
  CONDG v4
  (POST (.d (.bool false)) h5 pre r post)
  (BIN 0 .neq v6 (.d (.num .i64 0)) fun v7 =>
  CONDG v7
  (POST (.d (.bool false)) h5 pre r post)
  (BIN 0 .neq v8 (.d (.num .i64 0)) fun v9 =>
  CONDG v9
  (vc_law01_DifferNotes_k19 P pre r post v8 h5 v2 v10 v11 v12 v1 a13 a14 a15 v16)
  (vc_law01_DifferNotes_k20 P pre r post v2 h5 v10 v11 v12 v1 v8 a13 a14 a15 v16)))
def vc_law01_DifferNotes_k22 (P : Ctx) (pre : List ABlk) (r : AV) (post : List PB) (v0 : AV) (v3 : AV) (h4 : Heap) (a6 : AV) (v16 : AV) (v17 : AV) (a18 : AV) (a19 : AV) : Prop :=
  EXT v0 0 fun v1 =>
  EXT v0 1 fun v2 =>
  LOAD true 3 v3 h4 fun v5 =>
  CALL P f_differ_Known [v5, a6] 352 h4 (fun _rd7 v8 h9 =>
  EXT v8 0 fun v10 =>
  EXT v8 1 fun v11 =>
  LOAD true 3 v3 h9 fun v12 =>
  CALL P f_differ_Agree [v12, .zc] 408 h9 (fun _rd13 v14 h15 =>
  vc_law01_DifferNotes_k21 P pre r post v14 v16 h15 v2 v11 v17 v3 v1 a6 a18 a19 v10)
  (fun _ _ _ => False))
  (fun _ _ _ => False)
def vc_law01_DifferNotes_k23 (P : Ctx) (pre : List ABlk) (r : AV) (post : List PB) (v0 : AV) (h2 : Heap) (v6 : AV) (a8 : AV) (a15 : AV) (a19 : AV) : Prop :=
  NOT v0 fun v1 =>
  COND v1
  (CALL P f_law01_known [] 208 h2 (fun _rd3 v4 h5 =>
  POST v4 h5 pre r post)
  (fun _ _ _ => False))
  (LOAD true 3 v6 h2 fun v7 =>
  CALL P f_differ_Table [v7, a8] 224 h2 (fun _rd9 v10 h11 =>
  EXT v10 0 fun v12 =>
  EXT v10 1 fun v13 =>
  LOAD true 3 v6 h11 fun v14 =>
  CALL P f_differ_Agree [v14, a15] 288 h11 (fun _rd16 v17 h18 =>
  vc_law01_DifferNotes_k22 P pre r post v17 v6 h18 a15 v13 v12 a8 a19)
  (fun _ _ _ => False))
  (fun _ _ _ => False))
def vc_law01_DifferNotes_k24 (P : Ctx) (pre : List ABlk) (r : AV) (post : List PB) (v0 : AV) (h2 : Heap) (v6 : AV) (a8 : AV) (a12 : AV) (a13 : AV) : Prop :=
  NOT v0 fun v1 =>
  CONDG v1
  (CALL P f_law01_known [] 208 h2 (fun _rd3 v4 h5 =>
  POST v4 h5 pre r post)
  (fun _ _ _ => False))
  (LOAD true 3 v6 h2 fun v7 =>
  CALL P f_ref01_Line [v7, a8] 184 h2 (fun _rd9 v10 h11 =>
  vc_law01_DifferNotes_k23 P pre r post v10 h11 v6 a12 a13 a8)
  (fun _ _ _ => False))
def vc_law01_DifferNotes_k25 (P : Ctx) (pre : List ABlk) (r : AV) (post : List PB) (v0 : AV) (h2 : Heap) (a6 : AV) (v11 : AV) (a16 : AV) (a17 : AV) : Prop :=
  NOT v0 fun v1 =>
  CONDG v1
  (CALL P f_law01_known [] 208 h2 (fun _rd3 v4 h5 =>
  POST v4 h5 pre r post)
  (fun _ _ _ => False))
  (LEN false a6 h2 fun v7 =>
  BIN 0 .geq v7 (.d (.num .i64 6)) fun v8 =>
  CONDG v8
  (CALL P f_law01_known [] 208 h2 (fun _rd9 v4 h10 =>
  POST v4 h10 pre r post)
  (fun _ _ _ => False))
  (LOAD true 3 v11 h2 fun v12 =>
  CALL P f_ref01_Seen [v12, a6] 136 h2 (fun _rd13 v14 h15 =>
  vc_law01_DifferNotes_k24 P pre r post v14 h15 v11 a16 a17 a6)
  (fun _ _ _ => False)))
def vc_law01_DifferNotes (P : Ctx) (pre : List ABlk) (a0 a1 a2 a3 : AV) (r : AV) (post : List PB) : Prop :=
  let h0 : Heap := numbered 0 pre
  BOX T_api_DifferPlan a0 24 h0 fun v4 h1 =>
  LOAD true 3 v4 h1 fun v26 =>
  CALL P f_law01_right [v26, a2] 56 h1 (fun _rd3 v28 h2 =>
  vc_law01_DifferNotes_k25 P pre r post v28 h2 a1 v4 a3 a2)
  (fun _ _ _ => False)
theorem vc_law01_DifferNotes_eq (g : GG) (pre : List ABlk) (a0 a1 a2 a3 : AV) (r : AV) (post : List PB) : vcFn2 (Tz g) false ann_law01_DifferNotes Tryz.f5 pre [a0, a1, a2, a3] (.ret r) post = vc_law01_DifferNotes (Tz g) pre a0 a1 a2 a3 r post := by kernel_rfl
theorem hf_law01_DifferNotes : Tryz.prog.funcs[f_law01_DifferNotes]? = some Tryz.f5 := by kernel_rfl
theorem ok_law01_DifferNotes : fnVcOK Tryz.prog Tryz.f5 = true := by kernel_rfl
theorem nt_law01_DifferNotes : Nat.ble 4 Tryz.f5.ntmps = true := by kernel_rfl
theorem meetsH_law01_DifferNotes {g : GG} {pre : List ABlk} {a0 a1 a2 a3 : AV} {r : AV} {post : List PB} (hk : Nat.ble pre.length 24 = true) (h : vc_law01_DifferNotes (Tz g) pre a0 a1 a2 a3 r post) : MeetsH (Tz g) f_law01_DifferNotes pre [a0, a1, a2, a3] (.ret r) post :=
  meetsH_of_vc (C := Tz g) ann_law01_DifferNotes hf_law01_DifferNotes ok_law01_DifferNotes nt_law01_DifferNotes hk (pn := false) (Eq.mpr ((vcFn2_eq _ _ _ _ _ _ _ _).trans (vc_law01_DifferNotes_eq g pre a0 a1 a2 a3 r post)) h)
theorem meets_law01_DifferNotes {g : GG} {a0 a1 a2 a3 : D} {r : Res} (h : vc_law01_DifferNotes (Tz g) [] (.d a0) (.d a1) (.d a2) (.d a3) r.val (r.bl.map .upd)) : Meets (Tz g) f_law01_DifferNotes [a0, a1, a2, a3] r := meetsH_law01_DifferNotes rfl h
end Go.Vc

namespace Go.Vc
open Go Go.Proofs
variable {g : GG}
attribute [local simp] and_assoc
attribute [local simp] ints_cells
theorem prodW_take (l : List Sp) (k : Nat) (s : Sp) (h : l[k]? = some s) : prodW (l.take (k + 1)) = prodW (l.take k) * widthN s := by
  induction l generalizing k with
  | nil => simp at h
  | cons a r ih =>
    cases k with
    | zero => simp at h; subst h; simp [prodW]
    | succ k => simp at h; simp [prodW, ih k h, Nat.mul_assoc]
theorem prodW_le (l : List Sp) (h : ∀ s, s ∈ l → startB s = true) : prodW l ≤ 7 ^ l.length := by
  have := truthsL_cnt l [] h
  rw [truthsL_count] at this
  exact this
theorem knownE_spec (p : Plan) (sn : List Sn) : (fitL p sn = [] ∧ knownE p sn = 7 ∧ knownD p sn = []) ∨ (0 < (fitL p sn).length ∧ knownE p sn = 0 ∧ knownD p sn = knownL (fitL p sn) p.starts.length) := by
  unfold knownE knownD
  cases fitL p sn with
  | nil => exact .inl ⟨rfl, rfl, rfl⟩
  | cons a r => exact .inr ⟨by simp, rfl, rfl⟩
def agB (t : List Int) (n : Nat) (x : Sn) : Bool := decide ((heads t n).getD x.row.toNat 0 = x.value)
set_option maxHeartbeats 4000000 in
theorem notes_meets (hg : GOK g) (p : Plan) (sn : List Sn) (t : List Int) (row : Int) (_ : ∀ n, n ∈ t → -9223372036854775808 ≤ n ∧ n ≤ 9223372036854775807) (_ : -9223372036854775808 ≤ row ∧ row ≤ 9223372036854775807) : Meets (Tz g) f_law01_DifferNotes [p.d, seens sn, ints t, int row] ⟨.d (.bool true), []⟩ := by
  refine meets_law01_DifferNotes ?_
  unfold vc_law01_DifferNotes
  simp [Plan.d, spans, ints]
  refine CALL.val [p.d, ints t] _ rfl (law01_right_meets p t) (.inl rfl) ?_
  simp [vc_law01_DifferNotes_k25]
  constructor
  · intro h
    exact known_call hg (by simp)
  · intro h
    simp [rightB] at h
    obtain ⟨b1, b2, b3, b4⟩ := h
    obtain ⟨a1, a2, a3, a4, a5⟩ := Plan.ok_len b3
    have hlen := within_length b4
    have hbd := within_bound a5 b4
    constructor
    · intro h
      exact known_call hg (by simp)
    · intro h6
      have hl2 : sn.length ≤ 1000 := by omega
      refine CALL.val [p.d, seens sn] _ rfl (ref01_Seen_meets p sn b3 hl2) (.inl rfl) ?_
      simp [vc_law01_DifferNotes_k24]
      constructor
      · intro h
        exact known_call hg (by simp)
      · intro hs
        refine CALL.val [p.d, int row] _ rfl (ref01_Line_meets p row ⟨a3, a4⟩) (.inl rfl) ?_
        simp [vc_law01_DifferNotes_k23]
        constructor
        · intro h
          exact known_call hg (by simp)
        · intro hr
          obtain ⟨k, rfl, hk⟩ := inB_nat hr
          obtain ⟨n, hn⟩ : ∃ n : Nat, p.rows = n := ⟨p.rows.toNat, by omega⟩
          have hkn : k < n := by omega
          have hhl : (heads t n).length = n := by simp [heads]
          have hcnt : (fitL p sn).length ≤ 2401 := fitL_cnt b3
          have hcnt0 : (fitL p []).length = prodW p.starts := by rw [fitL_nil, truthsL_count]
          have hle0 : (fitL p sn).length ≤ prodW p.starts := by
            rw [← hcnt0, fitL_nil]
            exact List.length_filter_le _ _
          have hpw : prodW p.starts ≤ 2401 := by rw [← hcnt0]; exact fitL_cnt b3
          refine CALL.mk [p.d, ints t] _ rfl (differ_Table_data p t n b3 b4 hn) (.inl rfl) (by simp) ?_
          simp
          refine CALL.mk [p.d, seens sn] _ rfl (differ_Agree_ok p sn n b3 hn hs) (.inl rfl) (by simp) ?_
          simp [vc_law01_DifferNotes_k22]
          refine CALL.mk [p.d, seens sn] _ rfl (differ_Known_all p sn n b3 hn hs) (.inl rfl) (by simp) ?_
          simp
          refine CALL.mk [p.d, seens []] _ (by simp [Plan.d, spans]) (differ_Agree_ok p [] n b3 hn (by simp [seensB])) (.inl rfl) (by simp) ?_
          simp [vc_law01_DifferNotes_k21, hcnt0]
          have hloop : LOOP [.d (seens sn), .d (.list (t.map int)), .d (int k), .ptr 24 0 0 0, .d (ints (heads t n)), .d (int (fitL p sn).length), .d (spans (knownD p sn)), .d (int (knownE p sn)), .d (int (prodW p.starts)), .d (int 1), .d (int 0)]
              [(24, some ⟨0, T_api_DifferPlan, .box [.d (.list (p.starts.map Sp.d)), .d (int p.rows), .d (int p.guard)]⟩)] 800 (fun vs h next => vc_law01_DifferNotes_k18 (Tz g) [] (.d (.bool true)) [] vs h next) := by
            refine LOOP.mk Nat (fun i => [.d (seens sn), .d (.list (t.map int)), .d (int k), .ptr 24 0 0 0, .d (ints (heads t n)), .d (int (fitL p sn).length), .d (spans (knownD p sn)), .d (int (knownE p sn)), .d (int (prodW p.starts)), .d (int (prodW (p.starts.take i))), .d (int i)])
              (fun _ => [(24, some ⟨0, T_api_DifferPlan, .box [.d (.list (p.starts.map Sp.d)), .d (int p.rows), .d (int p.guard)]⟩)]) (fun i => i ≤ p.starts.length) (fun i => p.starts.length - i) [] (by simp) 0 (by omega) (by simp [WEAK, prodW]) (fun _ _ => rfl) ?_
            intro i hi
            simp [vc_law01_DifferNotes_k18]
            constructor
            · intro hlt
              have hg1 : p.starts[i]? = some p.starts[i] := List.getElem?_eq_getElem hlt
              have hm := List.getElem_mem hlt
              generalize p.starts[i] = s at hg1 hm
              have hsb := a5 s hm
              simp [startB, inB] at hsb
              have hw : ((widthN s : Nat) : Int) = s.high - s.low + 1 := by unfold widthN; omega
              have hpt := prodW_take p.starts i s hg1
              have hpl : prodW (p.starts.take (i + 1)) ≤ 2401 := by
                have e1 := prodW_le (p.starts.take (i + 1)) (fun x hx => a5 x (List.mem_of_mem_take hx))
                have e2 : 7 ^ (p.starts.take (i + 1)).length ≤ 7 ^ 4 := Nat.pow_le_pow_right (by omega) (by simp; omega)
                omega
              simp [vc_law01_DifferNotes_k16, hg1, Sp.d]
              rw [wrap_id (n := s.high - s.low) (by omega) (by omega), wrap_id (n := s.high - s.low + 1) (by omega) (by omega), ← hw]
              have hmul : (prodW (p.starts.take i) : Int) * (widthN s : Int) = (prodW (p.starts.take (i + 1)) : Int) := by rw [hpt]; simp
              rw [hmul, wrap_id (n := (prodW (p.starts.take (i + 1)) : Int)) (by omega) (by omega), wrap_id (n := (i : Int) + 1) (by omega) (by omega)]
              exact ⟨rfl, i + 1, by omega, by simp [WEAK], by omega⟩
            · intro hge
              have : i = p.starts.length := by omega
              subst this
              rw [List.take_length]
              simp [vc_law01_DifferNotes_k17]
              refine LOOP.mk Nat (fun j => [.d (seens sn), .d (.list (t.map int)), .d (int k), .ptr 24 0 0 0, .d (ints (heads t n)), .d (int (fitL p sn).length), .d (spans (knownD p sn)), .d (int (knownE p sn)), .d (.bool ((sn.take j).all (agB t n))), .d (int j)])
                (fun _ => [(24, some ⟨0, T_api_DifferPlan, .box [.d (.list (p.starts.map Sp.d)), .d (int p.rows), .d (int p.guard)]⟩)]) (fun j => j ≤ sn.length) (fun j => sn.length - j) [] (by simp) 0 (by omega) (by simp [WEAK]) (fun _ _ => rfl) ?_
              intro j hj
              obtain ⟨bj, hbj⟩ : ∃ bj, bj = (sn.take j).all (agB t n) := ⟨_, rfl⟩
              rw [← hbj]
              simp [vc_law01_DifferNotes_k15, -List.all_eq_true]
              constructor
              · intro hlt
                have hg1 : sn[j]? = some sn[j] := List.getElem?_eq_getElem hlt
                have hm := List.getElem_mem hlt
                generalize sn[j] = x at hg1 hm
                obtain ⟨hx1, hx2⟩ := (seensB_rows hn hs).1 x hm
                have hbj2 : (sn.take (j + 1)).all (agB t n) = (bj && agB t n x) := by
                  rw [List.take_add_one, hg1, List.all_append, ← hbj]
                  simp
                obtain ⟨v, hgh⟩ : ∃ v, (heads t n)[x.row.toNat]? = some v := ⟨_, List.getElem?_eq_getElem (by omega)⟩
                have hav : agB t n x = decide (v = x.value) := by simp [agB, hgh]
                cases hb : bj with
                | false =>
                  simp [vc_law01_DifferNotes_k1]
                  rw [wrap_id (n := (j : Int) + 1) (by omega) (by omega)]
                  refine ⟨rfl, j + 1, by omega, ?_, by omega⟩
                  rw [hbj2, hb]
                  simp [WEAK]
                | true =>
                  simp [vc_law01_DifferNotes_k0, hg1, Sn.d, ints, hgh]
                  rw [wrap_id (n := (j : Int) + 1) (by omega) (by omega)]
                  refine ⟨hx1, rfl, j + 1, by omega, ?_, by omega⟩
                  rw [hbj2, hb, hav]
                  simp [WEAK]
              · intro hge
                have hjs : j = sn.length := by omega
                subst hjs
                rw [List.take_length] at hbj
                constructor
                · intro hb
                  exact known_call hg (by simp)
                · intro hb
                  have hpn : p.rows.toNat = n := by omega
                  have hfit : fitsB p sn t = true := by
                    rw [hb] at hbj
                    have e : fitsB p sn t = sn.all (agB t n) := by
                      unfold fitsB
                      rw [hpn]
                      exact all_not_any (agB t n) sn
                    rw [e, ← hbj]
                  have hmem : t ∈ fitL p sn := by
                    have := truthsL_mem p.starts [] t b4
                    simp only [fitL, List.mem_filter]
                    exact ⟨by simpa using this, hfit⟩
                  obtain ⟨c1, c2, c3⟩ : 0 < (fitL p sn).length ∧ knownE p sn = 0 ∧ knownD p sn = knownL (fitL p sn) p.starts.length := by
                    rcases knownE_spec p sn with ⟨c1, _, _⟩ | h
                    · rw [c1] at hmem; simp at hmem
                    · exact h
                  obtain ⟨v, hv⟩ : ∃ v, (heads t n)[k]? = some v := ⟨_, List.getElem?_eq_getElem (by omega)⟩
                  have hvb : -23199768 ≤ v ∧ v ≤ 23199768 := by
                    have e : v = valL t k 0 := by
                      rw [heads_val t n (by omega)] at hv
                      simp [hkn] at hv
                      exact hv.symm
                    rw [e]
                    exact val_232 t k (by omega) (by omega) hbd
                  have hkl : (knownD p sn).length = t.length := by rw [c3]; simp [knownL, hlen]
                  have hs2 : seensB p (sn ++ [⟨k, v⟩]) = true := by
                    simp [seensB] at hs ⊢
                    exact ⟨by omega, hs.2, by simp [seenB, inB]; omega⟩
                  refine ⟨c2, fun _ => ⟨t.length, by simp [spans, hkl], rfl, fun _ => ⟨by omega, ?_⟩⟩⟩
                  have hmem2 : t ∈ fitL p (sn ++ [⟨k, v⟩]) := by
                    simp only [fitL, List.mem_filter, fitsB_append] at hmem ⊢
                    refine ⟨hmem.1, ?_⟩
                    rw [hmem.2, hpn]
                    simp [hv]
                  have hne2 : fitL p (sn ++ [⟨k, v⟩]) ≠ [] := by
                    intro h0
                    rw [h0] at hmem2
                    simp at hmem2
                  have hcnt2 : (fitL p (sn ++ [⟨k, v⟩])).length ≤ (fitL p sn).length := fitL_append_len p sn _
                  simp [ints, hv]
                  refine ⟨by omega, ?_⟩
                  refine CALL.mk [p.d, seens (sn ++ [⟨k, v⟩])] _ (by simp [Plan.d, spans, Sn.d]) (differ_Agree_ok p (sn ++ [⟨k, v⟩]) n b3 hn hs2) (.inr (by simp [Res.flatP, AV.flatB, AV.flatB.flatL, blksFlat, D.flatB])) (by simp) ?_
                  simp [vc_law01_DifferNotes_k14, hv]
                  refine ⟨rfl, by omega, by omega, ?_⟩
                  refine CALL.mk [p.d, seens (sn ++ [⟨k, v⟩])] _ (by simp [Plan.d, spans, Sn.d]) (differ_Known_ok p (sn ++ [⟨k, v⟩]) n b3 hn hs2 hne2) (.inr (by simp [Res.flatP, AV.flatB, AV.flatB.flatL, blksFlat, Body.flatP, D.flatB, D.flatB.flatL, Sp.d])) (by simp) ?_
                  have hp2 : 0 < (fitL p (sn ++ [⟨k, v⟩])).length := List.length_pos_iff.2 hne2
                  have hkl2 : (knownL (fitL p (sn ++ [⟨k, v⟩])) p.starts.length).length = t.length := by simp [knownL, hlen]
                  simp [vc_law01_DifferNotes_k13]
                  refine ⟨rfl, by omega, fun _ => ⟨hcnt2, fun _ => ⟨t.length, by simp [spans, hkl], by simp [knownL, hlen], fun _ => ?_⟩⟩⟩
                  generalize hus : fitL p (sn ++ [⟨k, v⟩]) = us at *
                  refine LOOP.mk Nat (fun j => [.d (.list (t.map int)), .d (spans (knownD p sn)), .own 1240 0, .d (int j)]) (fun _ => [(1240, some ⟨0, T_api_Span, .lst ((knownL us p.starts.length).map Sp.d)⟩)]) (fun j => j ≤ t.length) (fun j => t.length - j) [] (by simp) 0 (by omega) (by simp [WEAK]) (fun _ _ => rfl) ?_
                  intro j hj
                  simp [vc_law01_DifferNotes_k12]
                  constructor
                  · intro hlt
                    obtain ⟨tj, htj⟩ : ∃ tj, t[j]? = some tj := ⟨_, List.getElem?_eq_getElem hlt⟩
                    have hjp : j < p.starts.length := by omega
                    have hq1 : (knownD p sn)[j]? = some (bndN (fitL p sn) j (fitL p sn).length) := by rw [c3]; simp [knownL, hjp]
                    have hq2 : (knownL us p.starts.length)[j]? = some (bndN us j us.length) := by simp [knownL, hjp]
                    have hgd : t.getD j 0 = tj := by simp [htj]
                    have e1 := (bndN_spec (fitL p sn) j (List.length_pos_iff.1 c1)).1 t hmem
                    have e2 := (bndN_spec us j hne2).1 t hmem2
                    have e3 := bndN_mono (fitL p sn) us j (fun x hx => fitL_append_sub p sn ⟨k, v⟩ x (by rw [hus]; exact hx)) hne2
                    rw [hgd] at e1 e2
                    generalize bndN (fitL p sn) j (fitL p sn).length = q1 at *
                    generalize bndN us j us.length = q2 at *
                    have f1 : ¬ tj < q1.low := by omega
                    have f2 : ¬ q1.high < tj := by omega
                    have f3 : ¬ q2.low < q1.low := by omega
                    have f4 : ¬ q1.high < q2.high := by omega
                    have f5 : ¬ tj < q2.low := by omega
                    have f6 : ¬ q2.high < tj := by omega
                    simp [htj, hq1, hq2, Sp.d, spans, vc_law01_DifferNotes_k11, vc_law01_DifferNotes_k9, vc_law01_DifferNotes_k7, vc_law01_DifferNotes_k5, vc_law01_DifferNotes_k3, f1, f2, f3, f4, f5, f6]
                    have hkl3 : j < (knownL us p.starts.length).length := by simp [knownL, hjp]
                    rw [wrap_id (n := (j : Int) + 1) (by omega) (by omega)]
                    exact ⟨hkl3, rfl, j + 1, by omega, by simp [WEAK], by omega⟩
                  · intro hge2
                    exact known_call hg (by simp)
          have hh2 : (↑(heads t n).length : Int) = n := by omega
          rcases knownE_spec p sn with ⟨c1, c2, c3⟩ | ⟨c1, c2, c3⟩
          · simp [c2, vc_law01_DifferNotes_k19]
            rw [c2] at hloop
            exact ⟨n, by simp [ints, hhl], by omega, fun _ => ⟨hle0, fun _ => ⟨c1, fun _ => hloop⟩⟩⟩
          · simp [c2, vc_law01_DifferNotes_k20]
            rw [c2] at hloop
            exact ⟨n, by simp [ints, hhl], by omega, fun _ => ⟨hle0, fun _ => ⟨by intro h0; rw [h0] at c1; simp at c1, fun _ => hloop⟩⟩⟩
end Go.Vc

namespace Go.Vc
open Go Go.RowKit Go.ChangeShapes Go.WideShapes Go.ChangeAt Go.Proofs Go.Proofs.YtflbianfhogdjaaGreatDoor
theorem notes_calls {H : Type} {enc : TypeId × Value → H} (W : World) (base : Nat) (args : Array Value) (ds : List (DataW H)) (ps : List MemPlace) (hval : ∀ (j : Nat) t v, Tryz.f5.params[j]? = some t → args[j]? = some v → Value.okWide Tryz.prog W .any base t v)
    (hA : DataW.TrodAll enc Tryz.prog W 0 (fun _ => true) true Tryz.f5.params.toList args.toList ds ps) (hL : laidMetH Tryz.prog laidL W) (hsh : W.ShapedOpen Tryz.prog) : Calls Tryz.prog 5 args W fun e W' => e = .returned (.bool true) ∧ Below W.heap.size W W' := by
  rw [Tryz.params5] at hA hval
  obtain ⟨v0, v1, v2, v3, d0, d1, d2, d3, p0, p1, p2, p3, rfl, rfl, rfl, h0, h1, h2, h3⟩ := trodAll_four hA
  obtain ⟨x0, g0⟩ := open_plan (hval 0 24 v0 rfl rfl) h0
  obtain ⟨x1, g1⟩ := open_seens (hval 1 37 v1 rfl rfl) h1
  obtain ⟨x2, g2, b2⟩ := open_ints' (hval 2 25 v2 rfl rfl) h2
  obtain ⟨x3, g3, b3⟩ := open_int' (hval 3 3 v3 rfl rfl) h3
  exact law_calls (C := Tz (gW W)) (notes_meets (gok hL hsh) x0 x1 x2 x3 b2 b3) rfl (Below.refl _ _) (us := [v0, v1, v2, v3]) rfl (fun i d u hd hu => by
    match i, hd, hu with
    | 0, hd, hu => simp at hd hu; subst hd; subst hu; exact g0
    | 1, hd, hu => simp at hd hu; subst hd; subst hu; exact g1
    | 2, hd, hu => simp at hd hu; subst hd; subst hu; exact g2
    | 3, hd, hu => simp at hd hu; subst hd; subst hu; exact g3
    | i + 4, hd, hu => simp at hd)
theorem notes_lifted (os : Os) (started : os.Started) (H : Type) (enc : TypeId × Value → H) :
    ReturnsInHanded {} Tryz.checked os 5 .any (fun w args => (Rows.differNotesSpec.pre enc Tryz.prog Tryz.f5 [] false w args ∧ laidMetH Tryz.prog laidL w) ∧ sizedMet enc Tryz.prog Tryz.f5 (OpenSpec.ofChange Rows.differNotesSpec) false w args)
      (Rows.differNotesSpec.post enc Tryz.prog Tryz.f5 false true false false) :=
  law_lifted (C := Tryz.checked) (tb := 4) (n := 4) started own (by kernel_rfl) Tryz.func5
    (ChangeSpec.witness_shaped (enc := enc) (C := Tryz.checked) (os := os) (X := fun w _ => laidMetH Tryz.prog laidL w) false (World.laidAll Tryz.prog os laidL) #[.agg #[.slice none 0 0, .int .i64 0, .int .i64 0], .slice none 0 0, .slice none 0 0, .int .i64 0] 8 (World.laidAll_os _ _ _)
      (World.shaped_of_ZipB (by kernel_rfl) (by kernel_rfl)) (by kernel_rfl) (by kernel_rfl) (by kernel_rfl)
      (by rw [MakeChecks.laidMetH_plain _ _ _ (by kernel_rfl)]; exact laidMet_laidAll _ (by kernel_rfl) (by kernel_rfl)))
    laidOut (by kernel_rfl) (by kernel_rfl) Tryz.underlying4 rfl (by kernel_rfl) (fun ds hl => by
      match ds, hl with
      | [a, b, c, d], _ => rfl) notes_calls
theorem notes_holds : Rows.DifferNotesSaid :=
  OpenClaim.holds_of_wide 5 Tryz.f5 rfl rfl rfl rfl rfl rfl rfl ⟨rfl, rfl, rfl, rfl, rfl⟩ rfl rfl rfl rfl rfl (by kernel_rfl) Tryz.func5 (by kernel_rfl)
    (of_decide_eq_true (by kernel_rfl)) (by unfold Func.isWrapper; first | (rw [if_pos (by decide +kernel)]; kernel_rfl) | (rw [if_neg (by decide +kernel)]; exact ⟨rfl, rfl⟩))
    (fun os started H enc _ => notes_lifted os started H enc)
theorem notes_card : Rows.DifferNotesCardSaid :=
  Claim7.holds_tied_plain_at .later [] [.data, .data, .data, .data, .pinned] true (true, "9a542ac743afd7edcb6f3cbd989ac5534e57cf4118a8820287a37bb09b5416c8") true notes_holds (fun _ h => by cases h) (by kernel_rfl) (fun _ h => by cases h) differNotes_row_tie rfl ⟨rfl, rfl⟩ (by kernel_rfl) rfl
    (fun f fn hf hfn => by
      obtain rfl : f = 5 := Option.some.inj ((show Tryz.prog.funcNamed "ephemerist/ephemeristlaw01.DifferNotes" = some 5 by kernel_rfl).symm.trans hf) |>.symm
      obtain rfl : fn = Tryz.f5 := (Option.some.inj (Tryz.func5.symm.trans hfn)).symm
      exact ⟨by kernel_rfl, fun j t ht => by
        rw [Tryz.params5] at ht
        have hm : t ∈ [24, 37, 25, 3] := by simpa using Array.mem_of_getElem? ht
        have hall : ([24, 37, 25, 3].all fun u => !Tryz.prog.wantsStandIn u) = true := by kernel_rfl
        exact (show Tryz.prog.wantsStandIn t = false by simpa using List.all_eq_true.1 hall t hm)⟩)
    (by kernel_rfl)
end Go.Vc

namespace Go.Proofs.YtflbianfhogdjaaGreatDoor
theorem law_DifferNotesCardSaid : Rows.DifferNotesCardSaid := Go.Vc.notes_card
end Go.Proofs.YtflbianfhogdjaaGreatDoor
