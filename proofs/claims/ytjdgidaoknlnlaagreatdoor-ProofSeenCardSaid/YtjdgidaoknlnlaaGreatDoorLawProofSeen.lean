/- Proves that the statement ProofSeenCardSaid holds of the given program: for every input the law returns true and leaves its arguments as they were; under the row's own conditions, that the listed tables are laid as the program's text has them. -/
import Derived.Test.YtjdgidaoknlnlaaGreatDoorVc23
import Derived.Test.YtjdgidaoknlnlaaGreatDoorVc11
import Derived.Test.YtjdgidaoknlnlaaGreatDoorVc49
import Derived.Test.YtjdgidaoknlnlaaGreatDoorVc26
import Derived.Test.YtjdgidaoknlnlaaGreatDoorVc30
set_option maxRecDepth 100000
namespace Go.Vc
open Go Go.Proofs Go.RowKit
def ann_law09_ProofSeen : Nat → List Nat := fun n => match n with | 13 => [1, 2, 3, 4, 10, 12, 14, 15, 16, 17, 18, 19, 20] | _ => []
def vc_law09_ProofSeen_k0 (P : Ctx) (pre : List ABlk) (r : AV) (post : List PB) (vs0 : List AV) (next3 : List AV → Heap → Prop) (v4 : AV) (h5 : Heap) : Prop :=
  BIN 0 .add (nth vs0 11) (.d (.num .i64 1)) fun v1 =>
  BIN 0 .add (nth vs0 12) (.d (.num .i64 1)) fun v2 =>
  next3 [(nth vs0 0), (nth vs0 1), (nth vs0 2), (nth vs0 3), (nth vs0 4), (nth vs0 5), (nth vs0 6), (nth vs0 7), (nth vs0 8), (.d (.bool true)), v4, v1, v2] h5
def vc_law09_ProofSeen_k1 (P : Ctx) (pre : List ABlk) (r : AV) (post : List PB) (v0 : AV) (h1 : Heap) (vs4 : List AV) (next8 : List AV → Heap → Prop) (v9 : AV) : Prop :=
  IADDR 1 T_int v0 (.d (.num .i64 1)) h1 fun v2 =>
  LOAD false 1 v2 h1 fun v3 =>
  BIN 0 .eql v3 (nth vs4 6) fun v5 =>
  COND v5
  (BIN 0 .add (nth vs4 11) (.d (.num .i64 1)) fun v6 =>
  BIN 0 .add (nth vs4 12) (.d (.num .i64 1)) fun v7 =>
  next8 [(nth vs4 0), (nth vs4 1), (nth vs4 2), (nth vs4 3), (nth vs4 4), (nth vs4 5), (nth vs4 6), (nth vs4 7), (nth vs4 8), (.d (.bool true)), v9, v6, v7] h1)
  (BIN 0 .add (nth vs4 12) (.d (.num .i64 1)) fun v7 =>
  next8 [(nth vs4 0), (nth vs4 1), (nth vs4 2), (nth vs4 3), (nth vs4 4), (nth vs4 5), (nth vs4 6), (nth vs4 7), (nth vs4 8), (.d (.bool true)), v9, (nth vs4 11), v7] h1)
def vc_law09_ProofSeen_k2 (P : Ctx) (pre : List ABlk) (r : AV) (post : List PB) (vs0 : List AV) (next3 : List AV → Heap → Prop) (h4 : Heap) : Prop :=
  BIN 0 .add (nth vs0 11) (.d (.num .i64 1)) fun v1 =>
  BIN 0 .add (nth vs0 12) (.d (.num .i64 1)) fun v2 =>
  next3 [(nth vs0 0), (nth vs0 1), (nth vs0 2), (nth vs0 3), (nth vs0 4), (nth vs0 5), (nth vs0 6), (nth vs0 7), (nth vs0 8), (.d (.bool true)), (nth vs0 10), v1, v2] h4
def vc_law09_ProofSeen_k3 (P : Ctx) (pre : List ABlk) (r : AV) (post : List PB) (v0 : AV) (h1 : Heap) (vs4 : List AV) (next8 : List AV → Heap → Prop) : Prop :=
  IADDR 1 T_int v0 (.d (.num .i64 1)) h1 fun v2 =>
  LOAD false 1 v2 h1 fun v3 =>
  BIN 0 .eql v3 (nth vs4 6) fun v5 =>
  COND v5
  (BIN 0 .add (nth vs4 11) (.d (.num .i64 1)) fun v6 =>
  BIN 0 .add (nth vs4 12) (.d (.num .i64 1)) fun v7 =>
  next8 [(nth vs4 0), (nth vs4 1), (nth vs4 2), (nth vs4 3), (nth vs4 4), (nth vs4 5), (nth vs4 6), (nth vs4 7), (nth vs4 8), (.d (.bool true)), (nth vs4 10), v6, v7] h1)
  (BIN 0 .add (nth vs4 12) (.d (.num .i64 1)) fun v7 =>
  next8 [(nth vs4 0), (nth vs4 1), (nth vs4 2), (nth vs4 3), (nth vs4 4), (nth vs4 5), (nth vs4 6), (nth vs4 7), (nth vs4 8), (.d (.bool true)), (nth vs4 10), (nth vs4 11), v7] h1)
def vc_law09_ProofSeen_k4 (P : Ctx) (pre : List ABlk) (r : AV) (post : List PB) (vs0 : List AV) (v2 : AV) (h3 : Heap) (next7 : List AV → Heap → Prop) : Prop :=
  BIN 0 .add (nth vs0 10) (.d (.num .i64 1)) fun v1 =>
  IADDR 1 T_int v2 (.d (.num .i64 0)) h3 fun v4 =>
  LOAD false 1 v4 h3 fun v5 =>
  BIN 0 .eql v5 (nth vs0 6) fun v6 =>
  CONDG v6
  (vc_law09_ProofSeen_k0 P pre r post vs0 next7 v1 h3)
  (vc_law09_ProofSeen_k1 P pre r post v2 h3 vs0 next7 v1)
def vc_law09_ProofSeen_k5 (P : Ctx) (pre : List ABlk) (r : AV) (post : List PB) (v0 : AV) (h1 : Heap) (vs4 : List AV) (next6 : List AV → Heap → Prop) : Prop :=
  IADDR 1 T_int v0 (.d (.num .i64 0)) h1 fun v2 =>
  LOAD false 1 v2 h1 fun v3 =>
  BIN 0 .eql v3 (nth vs4 6) fun v5 =>
  CONDG v5
  (vc_law09_ProofSeen_k2 P pre r post vs4 next6 h1)
  (vc_law09_ProofSeen_k3 P pre r post v0 h1 vs4 next6)
def vc_law09_ProofSeen_k6 (P : Ctx) (pre : List ABlk) (r : AV) (post : List PB) (v0 : AV) (h1 : Heap) (vs4 : List AV) (next6 : List AV → Heap → Prop) : Prop :=
  IADDR 1 T_int v0 (.d (.num .i64 1)) h1 fun v2 =>
  LOAD false 1 v2 h1 fun v3 =>
  BIN 0 .eql v3 (nth vs4 2) fun v5 =>
  COND v5
  (vc_law09_ProofSeen_k4 P pre r post vs4 v0 h1 next6)
  (vc_law09_ProofSeen_k5 P pre r post v0 h1 vs4 next6)
def vc_law09_ProofSeen_k7 (P : Ctx) (pre : List ABlk) (r : AV) (post : List PB) (vs0 : List AV) (next3 : List AV → Heap → Prop) (v4 : AV) (v5 : AV) (h6 : Heap) : Prop :=
  BIN 0 .add (nth vs0 11) (.d (.num .i64 1)) fun v1 =>
  BIN 0 .add (nth vs0 12) (.d (.num .i64 1)) fun v2 =>
  next3 [(nth vs0 0), (nth vs0 1), (nth vs0 2), (nth vs0 3), (nth vs0 4), (nth vs0 5), (nth vs0 6), (nth vs0 7), (nth vs0 8), v4, v5, v1, v2] h6
def vc_law09_ProofSeen_k8 (P : Ctx) (pre : List ABlk) (r : AV) (post : List PB) (v0 : AV) (h1 : Heap) (vs4 : List AV) (next8 : List AV → Heap → Prop) (v9 : AV) (v10 : AV) : Prop :=
  IADDR 1 T_int v0 (.d (.num .i64 1)) h1 fun v2 =>
  LOAD false 1 v2 h1 fun v3 =>
  BIN 0 .eql v3 (nth vs4 6) fun v5 =>
  COND v5
  (BIN 0 .add (nth vs4 11) (.d (.num .i64 1)) fun v6 =>
  BIN 0 .add (nth vs4 12) (.d (.num .i64 1)) fun v7 =>
  next8 [(nth vs4 0), (nth vs4 1), (nth vs4 2), (nth vs4 3), (nth vs4 4), (nth vs4 5), (nth vs4 6), (nth vs4 7), (nth vs4 8), v9, v10, v6, v7] h1)
  (BIN 0 .add (nth vs4 12) (.d (.num .i64 1)) fun v7 =>
  next8 [(nth vs4 0), (nth vs4 1), (nth vs4 2), (nth vs4 3), (nth vs4 4), (nth vs4 5), (nth vs4 6), (nth vs4 7), (nth vs4 8), v9, v10, (nth vs4 11), v7] h1)
def vc_law09_ProofSeen_k9 (P : Ctx) (pre : List ABlk) (r : AV) (post : List PB) (vs0 : List AV) (next3 : List AV → Heap → Prop) (v4 : AV) (h5 : Heap) : Prop :=
  BIN 0 .add (nth vs0 11) (.d (.num .i64 1)) fun v1 =>
  BIN 0 .add (nth vs0 12) (.d (.num .i64 1)) fun v2 =>
  next3 [(nth vs0 0), (nth vs0 1), (nth vs0 2), (nth vs0 3), (nth vs0 4), (nth vs0 5), (nth vs0 6), (nth vs0 7), (nth vs0 8), v4, (nth vs0 10), v1, v2] h5
def vc_law09_ProofSeen_k10 (P : Ctx) (pre : List ABlk) (r : AV) (post : List PB) (v0 : AV) (h1 : Heap) (vs4 : List AV) (next8 : List AV → Heap → Prop) (v9 : AV) : Prop :=
  IADDR 1 T_int v0 (.d (.num .i64 1)) h1 fun v2 =>
  LOAD false 1 v2 h1 fun v3 =>
  BIN 0 .eql v3 (nth vs4 6) fun v5 =>
  COND v5
  (BIN 0 .add (nth vs4 11) (.d (.num .i64 1)) fun v6 =>
  BIN 0 .add (nth vs4 12) (.d (.num .i64 1)) fun v7 =>
  next8 [(nth vs4 0), (nth vs4 1), (nth vs4 2), (nth vs4 3), (nth vs4 4), (nth vs4 5), (nth vs4 6), (nth vs4 7), (nth vs4 8), v9, (nth vs4 10), v6, v7] h1)
  (BIN 0 .add (nth vs4 12) (.d (.num .i64 1)) fun v7 =>
  next8 [(nth vs4 0), (nth vs4 1), (nth vs4 2), (nth vs4 3), (nth vs4 4), (nth vs4 5), (nth vs4 6), (nth vs4 7), (nth vs4 8), v9, (nth vs4 10), (nth vs4 11), v7] h1)
def vc_law09_ProofSeen_k11 (P : Ctx) (pre : List ABlk) (r : AV) (post : List PB) (vs0 : List AV) (v2 : AV) (h3 : Heap) (next7 : List AV → Heap → Prop) (v8 : AV) : Prop :=
  BIN 0 .add (nth vs0 10) (.d (.num .i64 1)) fun v1 =>
  IADDR 1 T_int v2 (.d (.num .i64 0)) h3 fun v4 =>
  LOAD false 1 v4 h3 fun v5 =>
  BIN 0 .eql v5 (nth vs0 6) fun v6 =>
  CONDG v6
  (vc_law09_ProofSeen_k7 P pre r post vs0 next7 v8 v1 h3)
  (vc_law09_ProofSeen_k8 P pre r post v2 h3 vs0 next7 v8 v1)
def vc_law09_ProofSeen_k12 (P : Ctx) (pre : List ABlk) (r : AV) (post : List PB) (v0 : AV) (h1 : Heap) (vs4 : List AV) (next6 : List AV → Heap → Prop) (v7 : AV) : Prop :=
  IADDR 1 T_int v0 (.d (.num .i64 0)) h1 fun v2 =>
  LOAD false 1 v2 h1 fun v3 =>
  BIN 0 .eql v3 (nth vs4 6) fun v5 =>
  CONDG v5
  (vc_law09_ProofSeen_k9 P pre r post vs4 next6 v7 h1)
  (vc_law09_ProofSeen_k10 P pre r post v0 h1 vs4 next6 v7)
def vc_law09_ProofSeen_k13 (P : Ctx) (pre : List ABlk) (r : AV) (post : List PB) (v0 : AV) (h1 : Heap) (vs4 : List AV) (next6 : List AV → Heap → Prop) (v7 : AV) : Prop :=
  IADDR 1 T_int v0 (.d (.num .i64 1)) h1 fun v2 =>
  LOAD false 1 v2 h1 fun v3 =>
  BIN 0 .eql v3 (nth vs4 2) fun v5 =>
  COND v5
  (vc_law09_ProofSeen_k11 P pre r post vs4 v0 h1 next6 v7)
  (vc_law09_ProofSeen_k12 P pre r post v0 h1 vs4 next6 v7)
def vc_law09_ProofSeen_k14 (P : Ctx) (pre : List ABlk) (r : AV) (post : List PB) (vs0 : List AV) (next3 : List AV → Heap → Prop) (v4 : AV) (h5 : Heap) : Prop :=
  BIN 0 .add (nth vs0 11) (.d (.num .i64 1)) fun v1 =>
  BIN 0 .add (nth vs0 12) (.d (.num .i64 1)) fun v2 =>
  next3 [(nth vs0 0), (nth vs0 1), (nth vs0 2), (nth vs0 3), (nth vs0 4), (nth vs0 5), (nth vs0 6), (nth vs0 7), (nth vs0 8), (.d (.bool false)), v4, v1, v2] h5
def vc_law09_ProofSeen_k15 (P : Ctx) (pre : List ABlk) (r : AV) (post : List PB) (v0 : AV) (h1 : Heap) (vs4 : List AV) (next8 : List AV → Heap → Prop) (v9 : AV) : Prop :=
  IADDR 1 T_int v0 (.d (.num .i64 1)) h1 fun v2 =>
  LOAD false 1 v2 h1 fun v3 =>
  BIN 0 .eql v3 (nth vs4 6) fun v5 =>
  COND v5
  (BIN 0 .add (nth vs4 11) (.d (.num .i64 1)) fun v6 =>
  BIN 0 .add (nth vs4 12) (.d (.num .i64 1)) fun v7 =>
  next8 [(nth vs4 0), (nth vs4 1), (nth vs4 2), (nth vs4 3), (nth vs4 4), (nth vs4 5), (nth vs4 6), (nth vs4 7), (nth vs4 8), (.d (.bool false)), v9, v6, v7] h1)
  (BIN 0 .add (nth vs4 12) (.d (.num .i64 1)) fun v7 =>
  next8 [(nth vs4 0), (nth vs4 1), (nth vs4 2), (nth vs4 3), (nth vs4 4), (nth vs4 5), (nth vs4 6), (nth vs4 7), (nth vs4 8), (.d (.bool false)), v9, (nth vs4 11), v7] h1)
def vc_law09_ProofSeen_k16 (P : Ctx) (pre : List ABlk) (r : AV) (post : List PB) (vs0 : List AV) (next3 : List AV → Heap → Prop) (h4 : Heap) : Prop :=
  BIN 0 .add (nth vs0 11) (.d (.num .i64 1)) fun v1 =>
  BIN 0 .add (nth vs0 12) (.d (.num .i64 1)) fun v2 =>
  next3 [(nth vs0 0), (nth vs0 1), (nth vs0 2), (nth vs0 3), (nth vs0 4), (nth vs0 5), (nth vs0 6), (nth vs0 7), (nth vs0 8), (.d (.bool false)), (nth vs0 10), v1, v2] h4
def vc_law09_ProofSeen_k17 (P : Ctx) (pre : List ABlk) (r : AV) (post : List PB) (v0 : AV) (h1 : Heap) (vs4 : List AV) (next8 : List AV → Heap → Prop) : Prop :=
  IADDR 1 T_int v0 (.d (.num .i64 1)) h1 fun v2 =>
  LOAD false 1 v2 h1 fun v3 =>
  BIN 0 .eql v3 (nth vs4 6) fun v5 =>
  COND v5
  (BIN 0 .add (nth vs4 11) (.d (.num .i64 1)) fun v6 =>
  BIN 0 .add (nth vs4 12) (.d (.num .i64 1)) fun v7 =>
  next8 [(nth vs4 0), (nth vs4 1), (nth vs4 2), (nth vs4 3), (nth vs4 4), (nth vs4 5), (nth vs4 6), (nth vs4 7), (nth vs4 8), (.d (.bool false)), (nth vs4 10), v6, v7] h1)
  (BIN 0 .add (nth vs4 12) (.d (.num .i64 1)) fun v7 =>
  next8 [(nth vs4 0), (nth vs4 1), (nth vs4 2), (nth vs4 3), (nth vs4 4), (nth vs4 5), (nth vs4 6), (nth vs4 7), (nth vs4 8), (.d (.bool false)), (nth vs4 10), (nth vs4 11), v7] h1)
def vc_law09_ProofSeen_k18 (P : Ctx) (pre : List ABlk) (r : AV) (post : List PB) (vs0 : List AV) (v2 : AV) (h3 : Heap) (next7 : List AV → Heap → Prop) : Prop :=
  BIN 0 .add (nth vs0 10) (.d (.num .i64 1)) fun v1 =>
  IADDR 1 T_int v2 (.d (.num .i64 0)) h3 fun v4 =>
  LOAD false 1 v4 h3 fun v5 =>
  BIN 0 .eql v5 (nth vs0 6) fun v6 =>
  CONDG v6
  (vc_law09_ProofSeen_k14 P pre r post vs0 next7 v1 h3)
  (vc_law09_ProofSeen_k15 P pre r post v2 h3 vs0 next7 v1)
def vc_law09_ProofSeen_k19 (P : Ctx) (pre : List ABlk) (r : AV) (post : List PB) (v0 : AV) (h1 : Heap) (vs4 : List AV) (next6 : List AV → Heap → Prop) : Prop :=
  IADDR 1 T_int v0 (.d (.num .i64 0)) h1 fun v2 =>
  LOAD false 1 v2 h1 fun v3 =>
  BIN 0 .eql v3 (nth vs4 6) fun v5 =>
  CONDG v5
  (vc_law09_ProofSeen_k16 P pre r post vs4 next6 h1)
  (vc_law09_ProofSeen_k17 P pre r post v0 h1 vs4 next6)
def vc_law09_ProofSeen_k20 (P : Ctx) (pre : List ABlk) (r : AV) (post : List PB) (v0 : AV) (h1 : Heap) (vs4 : List AV) (next6 : List AV → Heap → Prop) : Prop :=
  IADDR 1 T_int v0 (.d (.num .i64 1)) h1 fun v2 =>
  LOAD false 1 v2 h1 fun v3 =>
  BIN 0 .eql v3 (nth vs4 2) fun v5 =>
  COND v5
  (vc_law09_ProofSeen_k18 P pre r post vs4 v0 h1 next6)
  (vc_law09_ProofSeen_k19 P pre r post v0 h1 vs4 next6)
def vc_law09_ProofSeen_k21 (P : Ctx) (pre : List ABlk) (r : AV) (post : List PB) (vs0 : List AV) (h1 : Heap) (v6 : AV) (next10 : List AV → Heap → Prop) : Prop :=
  IADDR 2 T_api_ProofMiss (nth vs0 4) (nth vs0 12) h1 fun v2 =>
  FADDR 1 v2 h1 fun v3 =>
  LOAD false 1 v3 h1 fun v4 =>
  BIN 0 .eql v4 (nth vs0 1) fun v5 =>
  IADDR 1 T_int v6 (.d (.num .i64 0)) h1 fun v7 =>
  LOAD false 1 v7 h1 fun v8 =>
  BIN 0 .eql v8 (nth vs0 2) fun v9 =>
  CONDG v9
  (vc_law09_ProofSeen_k11 P pre r post vs0 v6 h1 next10 v5)
  (vc_law09_ProofSeen_k13 P pre r post v6 h1 vs0 next10 v5)
def vc_law09_ProofSeen_k22 (P : Ctx) (pre : List ABlk) (r : AV) (post : List PB) (v0 : AV) (h1 : Heap) (vs4 : List AV) (next6 : List AV → Heap → Prop) : Prop :=
  IADDR 1 T_int v0 (.d (.num .i64 0)) h1 fun v2 =>
  LOAD false 1 v2 h1 fun v3 =>
  BIN 0 .eql v3 (nth vs4 2) fun v5 =>
  CONDG v5
  (vc_law09_ProofSeen_k18 P pre r post vs4 v0 h1 next6)
  (vc_law09_ProofSeen_k20 P pre r post v0 h1 vs4 next6)
def vc_law09_ProofSeen_k23 (P : Ctx) (pre : List ABlk) (r : AV) (post : List PB) (v0 : AV) (h1 : Heap) (vs4 : List AV) (next6 : List AV → Heap → Prop) : Prop :=
  IADDR 1 T_int v0 (.d (.num .i64 0)) h1 fun v2 =>
  LOAD false 1 v2 h1 fun v3 =>
  BIN 0 .eql v3 (nth vs4 2) fun v5 =>
  CONDG v5
  (vc_law09_ProofSeen_k4 P pre r post vs4 v0 h1 next6)
  (vc_law09_ProofSeen_k6 P pre r post v0 h1 vs4 next6)
def vc_law09_ProofSeen_k24 (P : Ctx) (pre : List ABlk) (r : AV) (post : List PB) (vs0 : List AV) (h1 : Heap) (v6 : AV) (next7 : List AV → Heap → Prop) : Prop :=
  IADDR 2 T_api_ProofMiss (nth vs0 4) (nth vs0 12) h1 fun v2 =>
  FADDR 0 v2 h1 fun v3 =>
  LOAD false 1 v3 h1 fun v4 =>
  BIN 0 .eql v4 (nth vs0 0) fun v5 =>
  CONDG v5
  (vc_law09_ProofSeen_k21 P pre r post vs0 h1 v6 next7)
  (vc_law09_ProofSeen_k22 P pre r post v6 h1 vs0 next7)
def vc_law09_ProofSeen_k25 (P : Ctx) (pre : List ABlk) (r : AV) (post : List PB) (h0 : Heap) (vs1 : List AV) (v2 : AV) (v3 : AV) (v4 : AV) (v5 : AV) (v6 : AV) (v7 : AV) : Prop :=
  ORDX [] [0, 0, 3, 7, 15, 31, 63, 127, 127, 511, 1023, 2047, 127, 4223, 12415, 32767, 65535, 131071, 262143, 524287, 262143, 262143, 3407871, 7602175, 15990783, 33554431, 67108863, 134217727, 268435455, 536870911] [(2, wr h0 h0, (ids (nth vs1 4))), (3, wr h0 h0, (ids v2)), (4, wr h0 h0, (ids v3)), (9, wr h0 h0, (ids (nth vs1 4))), (10, wr h0 h0, (ids v4)), (11, wr h0 h0, (ids v5)), (12, wr h0 h0, (ids (nth vs1 3))), (13, wr h0 h0, (ids v6)), (14, wr h0 h0, (ids v7))] ∧
  POST (.d (.bool false)) h0 pre r post
def vc_law09_ProofSeen_k26 (P : Ctx) (pre : List ABlk) (r : AV) (post : List PB) (vs0 : List AV) (h1 : Heap) (v11 : AV) (v12 : AV) (v13 : AV) (v14 : AV) (v15 : AV) (v16 : AV) (next25 : List AV → Heap → Prop) : Prop :=
  FADDR 2 (nth vs0 3) h1 fun v2 =>
  LOAD false 1 v2 h1 fun v3 =>
  IADDR 2 T_api_ProofMiss (nth vs0 4) (nth vs0 12) h1 fun v4 =>
  FADDR 0 v4 h1 fun v5 =>
  LOAD false 1 v5 h1 fun v6 =>
  IADDR 2 T_api_ProofEntry v3 v6 h1 fun v7 =>
  FADDR 0 v7 h1 fun v8 =>
  LOAD false 1 v8 h1 fun v9 =>
  BIN 0 .neq v9 (.d (.num .i64 1)) fun v10 =>
  ORDX [] [0, 0, 3, 7, 15, 31, 63, 127, 127, 511, 1023, 2047, 127, 4223, 12415, 32767, 65535, 131071, 262143, 524287, 262143, 262143, 3407871, 7602175, 15990783, 33554431, 67108863, 134217727, 268435455, 536870911] [(2, wr h1 h1, (ids (nth vs0 4))), (3, wr h1 h1, (ids v11)), (4, wr h1 h1, (ids v12)), (9, wr h1 h1, (ids (nth vs0 4))), (10, wr h1 h1, (ids v13)), (11, wr h1 h1, (ids v14)), (12, wr h1 h1, (ids (nth vs0 3))), (13, wr h1 h1, (ids v15)), (14, wr h1 h1, (ids v16)), (18, wr h1 h1, (ids (nth vs0 3))), (19, wr h1 h1, (ids v2)), (22, wr h1 h1, (ids (nth vs0 4))), (23, wr h1 h1, (ids v4)), (24, wr h1 h1, (ids v5)), (25, wr h1 h1, (ids v3)), (26, wr h1 h1, (ids v7)), (27, wr h1 h1, (ids v8))] ∧
  COND v10
  (POST (.d (.bool false)) h1 pre r post)
  (FADDR 2 (nth vs0 3) h1 fun v17 =>
  LOAD false 1 v17 h1 fun v18 =>
  IADDR 2 T_api_ProofMiss (nth vs0 4) (nth vs0 12) h1 fun v19 =>
  FADDR 0 v19 h1 fun v20 =>
  LOAD false 1 v20 h1 fun v21 =>
  IADDR 2 T_api_ProofEntry v18 v21 h1 fun v22 =>
  FADDR 1 v22 h1 fun v23 =>
  LOAD false 1 v23 h1 fun v24 =>
  ORDX [] [0, 1, 0, 0, 12, 28, 60, 127, 255, 511, 1023] [(0, wr h1 h1, (ids (nth vs0 3))), (1, wr h1 h1, (ids v17)), (4, wr h1 h1, (ids (nth vs0 4))), (5, wr h1 h1, (ids v19)), (6, wr h1 h1, (ids v20)), (7, wr h1 h1, (ids v18)), (8, wr h1 h1, (ids v22)), (9, wr h1 h1, (ids v23))] ∧
  CONDG (nth vs0 9)
  (vc_law09_ProofSeen_k23 P pre r post v24 h1 vs0 next25)
  (vc_law09_ProofSeen_k24 P pre r post vs0 h1 v24 next25))
def vc_law09_ProofSeen_k27 (P : Ctx) (pre : List ABlk) (r : AV) (post : List PB) (h0 : Heap) (vs1 : List AV) (v2 : AV) (v3 : AV) : Prop :=
  ORDX [] [0, 0, 3, 7, 15, 31, 63, 127, 127, 511, 1023, 2047, 127, 4223, 12415, 32767, 65535, 131071, 262143, 524287, 262143, 262143, 3407871, 7602175, 15990783, 33554431, 67108863, 134217727, 268435455, 536870911] [(2, wr h0 h0, (ids (nth vs1 4))), (3, wr h0 h0, (ids v2)), (4, wr h0 h0, (ids v3))] ∧
  POST (.d (.bool false)) h0 pre r post
def vc_law09_ProofSeen_k28 (P : Ctx) (pre : List ABlk) (r : AV) (post : List PB) (vs0 : List AV) (h1 : Heap) (v9 : AV) (v10 : AV) (next11 : List AV → Heap → Prop) : Prop :=
  IADDR 2 T_api_ProofMiss (nth vs0 4) (nth vs0 12) h1 fun v2 =>
  FADDR 0 v2 h1 fun v3 =>
  LOAD false 1 v3 h1 fun v4 =>
  FADDR 2 (nth vs0 3) h1 fun v5 =>
  LOAD false 1 v5 h1 fun v6 =>
  LEN false v6 h1 fun v7 =>
  BIN 0 .geq v4 v7 fun v8 =>
  CONDG v8
  (vc_law09_ProofSeen_k25 P pre r post h1 vs0 v9 v10 v2 v3 v5 v6)
  (vc_law09_ProofSeen_k26 P pre r post vs0 h1 v9 v10 v2 v3 v5 v6 next11)
def vc_law09_ProofSeen_k29 (P : Ctx) (pre : List ABlk) (r : AV) (post : List PB) (v0 : AV) (vs1 : List AV) (h4 : Heap) : Prop :=
  CONDG v0
  (BIN 0 .eql (nth vs1 11) (nth vs1 7) fun v2 =>
  CONDG v2
  (BIN 0 .lss (nth vs1 10) (nth vs1 7) fun v3 =>
  CONDG v3
  (CALL P f_law09_known [] 1392 h4 (fun _ v6 h7 =>
  POST v6 h7 pre r post)
  (fun _ _ _ => False))
  (BIN 0 .eql (nth vs1 10) (nth vs1 7) fun v8 =>
  CONDG v8
  (BIN 0 .geq (nth vs1 2) (nth vs1 6) fun v9 =>
  CONDG v9
  (CALL P f_law09_known [] 1392 h4 (fun _ v6 h11 =>
  POST v6 h11 pre r post)
  (fun _ _ _ => False))
  (POST (.d (.bool false)) h4 pre r post))
  (POST (.d (.bool false)) h4 pre r post)))
  (POST (.d (.bool false)) h4 pre r post))
  (POST (.d (.bool false)) h4 pre r post)
def vc_law09_ProofSeen_k30 (P : Ctx) (pre : List ABlk) (r : AV) (post : List PB) (vs0 : List AV) (v1 : AV) (h3 : Heap) : Prop :=
  BIN 999 .neq (nth vs0 9) v1 fun v2 =>
  COND v2
  (POST (.d (.bool false)) h3 pre r post)
  (BIN 0 .neq (nth vs0 8) (.d (.num .i64 0)) fun v4 =>
  COND v4
  (CALL P f_law09_known [] 1200 h3 (fun _ v6 h7 =>
  POST v6 h7 pre r post)
  (fun _ _ _ => False))
  (LOAD true 3 (nth vs0 3) h3 fun v8 =>
  CALL P f_ref09_Person [v8, (nth vs0 6)] 1216 h3 (fun _ v10 h11 =>
  vc_law09_ProofSeen_k29 P pre r post v10 vs0 h11)
  (fun _ _ _ => False)))
def vc_law09_ProofSeen_k31 (P : Ctx) (pre : List ABlk) (r : AV) (post : List PB) (v0 : AV) (h1 : Heap) (vs6 : List AV) : Prop :=
  FADDR 1 v0 h1 fun v2 =>
  LOAD false 1 v2 h1 fun v3 =>
  IADDR 1 T_int v3 (.d (.num .i64 3)) h1 fun v4 =>
  LOAD false 1 v4 h1 fun v5 =>
  BIN 0 .leq (nth vs6 1) v5 fun v7 =>
  CONDG v7
  (CALL P f_ref01_Listed [(nth vs6 5), (nth vs6 1)] 1160 h1 (fun _ v9 h10 =>
  vc_law09_ProofSeen_k30 P pre r post vs6 v9 h10)
  (fun _ _ _ => False))
  (BIN 999 .neq (nth vs6 9) (.d (.bool false)) fun v11 =>
  COND v11
  (POST (.d (.bool false)) h1 pre r post)
  (BIN 0 .neq (nth vs6 8) (.d (.num .i64 0)) fun v12 =>
  COND v12
  (CALL P f_law09_known [] 1200 h1 (fun _ v14 h15 =>
  POST v14 h15 pre r post)
  (fun _ _ _ => False))
  (LOAD true 3 (nth vs6 3) h1 fun v16 =>
  CALL P f_ref09_Person [v16, (nth vs6 6)] 1216 h1 (fun _ v18 h19 =>
  vc_law09_ProofSeen_k29 P pre r post v18 vs6 h19)
  (fun _ _ _ => False))))
def vc_law09_ProofSeen_k32 (P : Ctx) (pre : List ABlk) (r : AV) (post : List PB) (vs0 : List AV) (h2 : Heap) : Prop :=
  BIN 999 .neq (nth vs0 9) (.d (.bool false)) fun v1 =>
  COND v1
  (POST (.d (.bool false)) h2 pre r post)
  (BIN 0 .neq (nth vs0 8) (.d (.num .i64 0)) fun v3 =>
  COND v3
  (CALL P f_law09_known [] 1200 h2 (fun _ v5 h6 =>
  POST v5 h6 pre r post)
  (fun _ _ _ => False))
  (LOAD true 3 (nth vs0 3) h2 fun v7 =>
  CALL P f_ref09_Person [v7, (nth vs0 6)] 1216 h2 (fun _ v9 h10 =>
  vc_law09_ProofSeen_k29 P pre r post v9 vs0 h10)
  (fun _ _ _ => False)))
def vc_law09_ProofSeen_k33 (P : Ctx) (pre : List ABlk) (r : AV) (post : List PB) (v0 : AV) (h1 : Heap) (vs6 : List AV) : Prop :=
  FADDR 1 v0 h1 fun v2 =>
  LOAD false 1 v2 h1 fun v3 =>
  IADDR 1 T_int v3 (.d (.num .i64 2)) h1 fun v4 =>
  LOAD false 1 v4 h1 fun v5 =>
  BIN 0 .leq v5 (nth vs6 1) fun v7 =>
  CONDG v7
  (vc_law09_ProofSeen_k31 P pre r post v0 h1 vs6)
  (vc_law09_ProofSeen_k32 P pre r post vs6 h1)
def vc_law09_ProofSeen_k34 (P : Ctx) (pre : List ABlk) (r : AV) (post : List PB) (vs0 : List AV) (h1 : Heap) (next6 : List AV → Heap → Prop) : Prop :=
  IADDR 2 T_api_ProofMiss (nth vs0 4) (nth vs0 12) h1 fun v2 =>
  FADDR 0 v2 h1 fun v3 =>
  LOAD false 1 v3 h1 fun v4 =>
  BIN 0 .lss v4 (.d (.num .i64 0)) fun v5 =>
  CONDG v5
  (vc_law09_ProofSeen_k27 P pre r post h1 vs0 v2 v3)
  (vc_law09_ProofSeen_k28 P pre r post vs0 h1 v2 v3 next6)
def vc_law09_ProofSeen_k35 (P : Ctx) (pre : List ABlk) (r : AV) (post : List PB) (vs0 : List AV) (h1 : Heap) : Prop :=
  FADDR 2 (nth vs0 3) h1 fun v2 =>
  LOAD false 1 v2 h1 fun v3 =>
  IADDR 2 T_api_ProofEntry v3 (nth vs0 0) h1 fun v4 =>
  LOAD true 2 v4 h1 fun v5 =>
  ALLOC T_api_ProofEntry [.d (.num .i64 0), .zc] 960 h1 fun v6 h7 =>
  STORE 2 v6 v5 h7 fun h8 =>
  FADDR 0 v6 h8 fun v9 =>
  LOAD false 1 v9 h8 fun v10 =>
  BIN 0 .eql v10 (.d (.num .i64 1)) fun v11 =>
  CONDG v11
  (vc_law09_ProofSeen_k33 P pre r post v6 h8 vs0)
  (vc_law09_ProofSeen_k32 P pre r post vs0 h8)
def vc_law09_ProofSeen_k36 (P : Ctx) (pre : List ABlk) (r : AV) (post : List PB) (v0 : AV) (h2 : Heap) (v3 : AV) (v5 : AV) (v14 : AV) (a24 : AV) (a25 : AV) (a26 : AV) (v27 : AV) (v28 : AV) : Prop :=
  BIN 0 .neq v0 (.d (.num .i64 5)) fun v1 =>
  CONDG v1
  (POST (.d (.bool false)) h2 pre r post)
  (LEN false v3 h2 fun v4 =>
  FADDR 2 v5 h2 fun v6 =>
  LOAD false 1 v6 h2 fun v7 =>
  LEN false v7 h2 fun v8 =>
  FADDR 1 v5 h2 fun v9 =>
  LOAD false 1 v9 h2 fun v10 =>
  LEN false v10 h2 fun v11 =>
  BIN 0 .mul v8 v11 fun v12 =>
  BIN 0 .gtr v4 v12 fun v13 =>
  CONDG v13
  (POST (.d (.bool false)) h2 pre r post)
  (LEN false v14 h2 fun v15 =>
  FADDR 1 v5 h2 fun v16 =>
  LOAD false 1 v16 h2 fun v17 =>
  LEN false v17 h2 fun v18 =>
  BIN 0 .gtr v15 v18 fun v19 =>
  CONDG v19
  (POST (.d (.bool false)) h2 pre r post)
  (BIN 0 .eql v0 (.d (.num .i64 5)) fun v20 =>
  LEN false v3 h2 fun v21 =>
  BIN 0 .eql v21 (.d (.num .i64 0)) fun v22 =>
  BIN 999 .neq v20 v22 fun v23 =>
  COND v23
  (POST (.d (.bool false)) h2 pre r post)
  (LOOP [a24, a25, a26, v5, v3, v14, v27, v28, v0, (.d (.bool false)), (.d (.num .i64 0)), (.d (.num .i64 0)), (.d (.num .i64 0))] h2 880 fun vs29 h30 next31 =>
  LEN false (nth vs29 4) h30 fun v32 =>
  BIN 0 .lss (nth vs29 12) v32 fun v33 =>
  COND v33
  (vc_law09_ProofSeen_k34 P pre r post vs29 h30 next31)
  (vc_law09_ProofSeen_k35 P pre r post vs29 h30)))))
def vc_law09_ProofSeen_k37 (P : Ctx) (pre : List ABlk) (r : AV) (post : List PB) (v0 : AV) (h1 : Heap) (v3 : AV) (v12 : AV) (v18 : AV) (a23 : AV) (a24 : AV) (a25 : AV) (v26 : AV) (v27 : AV) : Prop :=
  LEN false v0 h1 fun v2 =>
  FADDR 2 v3 h1 fun v4 =>
  LOAD false 1 v4 h1 fun v5 =>
  LEN false v5 h1 fun v6 =>
  FADDR 1 v3 h1 fun v7 =>
  LOAD false 1 v7 h1 fun v8 =>
  LEN false v8 h1 fun v9 =>
  BIN 0 .mul v6 v9 fun v10 =>
  BIN 0 .gtr v2 v10 fun v11 =>
  CONDG v11
  (POST (.d (.bool false)) h1 pre r post)
  (LEN false v12 h1 fun v13 =>
  FADDR 1 v3 h1 fun v14 =>
  LOAD false 1 v14 h1 fun v15 =>
  LEN false v15 h1 fun v16 =>
  BIN 0 .gtr v13 v16 fun v17 =>
  CONDG v17
  (POST (.d (.bool false)) h1 pre r post)
  (BIN 0 .eql v18 (.d (.num .i64 5)) fun v19 =>
  LEN false v0 h1 fun v20 =>
  BIN 0 .eql v20 (.d (.num .i64 0)) fun v21 =>
  BIN 999 .neq v19 v21 fun v22 =>
  COND v22
  (POST (.d (.bool false)) h1 pre r post)
  (LOOP [a23, a24, a25, v3, v0, v12, v26, v27, v18, (.d (.bool false)), (.d (.num .i64 0)), (.d (.num .i64 0)), (.d (.num .i64 0))] h1 880 fun vs28 h29 next30 =>
  LEN false (nth vs28 4) h29 fun v31 =>
  BIN 0 .lss (nth vs28 12) v31 fun v32 =>
  COND v32
  (vc_law09_ProofSeen_k34 P pre r post vs28 h29 next30)
  (vc_law09_ProofSeen_k35 P pre r post vs28 h29))))
def vc_law09_ProofSeen_k38 (P : Ctx) (pre : List ABlk) (r : AV) (post : List PB) (v0 : AV) (v4 : AV) (h6 : Heap) (v7 : AV) (v10 : AV) (v11 : AV) (v12 : AV) (a13 : AV) (a14 : AV) (a15 : AV) : Prop :=
  EXT v0 0 fun v1 =>
  EXT v0 1 fun v2 =>
  EXT v0 2 fun v3 =>
  BIN 0 .neq v4 (.d (.num .i64 0)) fun v5 =>
  CONDG v5
  (POST (.d (.bool false)) h6 pre r post)
  (BIN 0 .neq v7 (.d (.num .i64 0)) fun v8 =>
  CONDG v8
  (POST (.d (.bool false)) h6 pre r post)
  (BIN 0 .neq v3 (.d (.num .i64 0)) fun v9 =>
  CONDG v9
  (vc_law09_ProofSeen_k36 P pre r post v3 h6 v10 v11 v12 a13 a14 a15 v1 v2)
  (vc_law09_ProofSeen_k37 P pre r post v10 h6 v11 v12 v3 a13 a14 a15 v1 v2)))
def vc_law09_ProofSeen_k39 (P : Ctx) (pre : List ABlk) (r : AV) (post : List PB) (v0 : AV) (v3 : AV) (h4 : Heap) (v11 : AV) (a16 : AV) (a17 : AV) (a18 : AV) : Prop :=
  EXT v0 0 fun v1 =>
  EXT v0 1 fun v2 =>
  LOAD true 3 v3 h4 fun v5 =>
  CALL P f_proof_Differs [v5] 392 h4 (fun _ v7 h8 =>
  EXT v7 0 fun v9 =>
  EXT v7 1 fun v10 =>
  LOAD true 3 v11 h8 fun v12 =>
  CALL P f_proof_Worst [v12] 448 h8 (fun _ v14 h15 =>
  vc_law09_ProofSeen_k38 P pre r post v14 v2 h15 v10 v1 v11 v9 a16 a17 a18)
  (fun _ _ _ => False))
  (fun _ _ _ => False)
def vc_law09_ProofSeen_k40 (P : Ctx) (pre : List ABlk) (r : AV) (post : List PB) (v0 : AV) (h2 : Heap) (v6 : AV) (a13 : AV) (a23 : AV) (a24 : AV) : Prop :=
  NOT v0 fun v1 =>
  COND v1
  (CALL P f_law09_known [] 248 h2 (fun _ v4 h5 =>
  POST v4 h5 pre r post)
  (fun _ _ _ => False))
  (LOAD true 3 v6 h2 fun v7 =>
  ALLOC T_api_ProofPage [.d (.num .i64 0), .zc, .zc] 256 h2 fun v8 h9 =>
  STORE 3 v8 v7 h9 fun h10 =>
  FADDR 2 v6 h10 fun v11 =>
  LOAD false 1 v11 h10 fun v12 =>
  SLICE 3 v12 none (some a13) none fun v14 =>
  APP T_api_ProofEntry 2 .zc v14 304 h10 fun v15 h16 =>
  FADDR 2 v8 h16 fun v17 =>
  STORE 1 v17 v15 h16 fun h18 =>
  LOAD true 3 v6 h18 fun v19 =>
  CALL P f_proof_Missed [v19] 336 h18 (fun _ v21 h22 =>
  vc_law09_ProofSeen_k39 P pre r post v21 v8 h22 v6 a13 a23 a24)
  (fun _ _ _ => False))
def vc_law09_ProofSeen_k41 (P : Ctx) (pre : List ABlk) (r : AV) (post : List PB) (v0 : AV) (h2 : Heap) (v6 : AV) (a8 : AV) (a12 : AV) (a13 : AV) : Prop :=
  NOT v0 fun v1 =>
  CONDG v1
  (CALL P f_law09_known [] 248 h2 (fun _ v4 h5 =>
  POST v4 h5 pre r post)
  (fun _ _ _ => False))
  (LOAD true 3 v6 h2 fun v7 =>
  CALL P f_ref09_Person [v7, a8] 224 h2 (fun _ v10 h11 =>
  vc_law09_ProofSeen_k40 P pre r post v10 h11 v6 a12 a13 a8)
  (fun _ _ _ => False))
def vc_law09_ProofSeen_k42 (P : Ctx) (pre : List ABlk) (r : AV) (post : List PB) (v0 : AV) (h2 : Heap) (a6 : AV) (v10 : AV) (a18 : AV) (a22 : AV) : Prop :=
  NOT v0 fun v1 =>
  CONDG v1
  (CALL P f_law09_known [] 248 h2 (fun _ v4 h5 =>
  POST v4 h5 pre r post)
  (fun _ _ _ => False))
  (BIN 0 .lss a6 (.d (.num .i64 0)) fun v7 =>
  CONDG v7
  (CALL P f_law09_known [] 248 h2 (fun _ v4 h9 =>
  POST v4 h9 pre r post)
  (fun _ _ _ => False))
  (FADDR 2 v10 h2 fun v11 =>
  LOAD false 1 v11 h2 fun v12 =>
  LEN false v12 h2 fun v13 =>
  BIN 0 .geq a6 v13 fun v14 =>
  CONDG v14
  (CALL P f_law09_known [] 248 h2 (fun _ v4 h16 =>
  POST v4 h16 pre r post)
  (fun _ _ _ => False))
  (LOAD true 3 v10 h2 fun v17 =>
  CALL P f_ref09_Line [v17, a18] 176 h2 (fun _ v20 h21 =>
  vc_law09_ProofSeen_k41 P pre r post v20 h21 v10 a22 a6 a18)
  (fun _ _ _ => False))))
def vc_law09_ProofSeen (P : Ctx) (pre : List ABlk) (a0 a1 a2 a3 : AV) (r : AV) (post : List PB) : Prop :=
  let h0 : Heap := numbered 0 pre
  BOX T_api_ProofPage a0 24 h0 fun v4 h1 =>
  LOAD true 3 v4 h1 fun v23 =>
  CALL P f_law09_right [v23] 48 h1 (fun _ v24 h2 =>
  vc_law09_ProofSeen_k42 P pre r post v24 h2 a1 v4 a2 a3)
  (fun _ _ _ => False)
theorem vc_law09_ProofSeen_eq (g : GG) (pre : List ABlk) (a0 a1 a2 a3 : AV) (r : AV) (post : List PB) : vcFn2 (Tz g) false ann_law09_ProofSeen Tryz.f5 pre [a0, a1, a2, a3] (.ret r) post = vc_law09_ProofSeen (Tz g) pre a0 a1 a2 a3 r post := by kernel_rfl
theorem hf_law09_ProofSeen : Tryz.prog.funcs[f_law09_ProofSeen]? = some Tryz.f5 := by kernel_rfl
theorem ok_law09_ProofSeen : fnVcOK Tryz.prog Tryz.f5 = true := by kernel_rfl
theorem nt_law09_ProofSeen : Nat.ble 4 Tryz.f5.ntmps = true := by kernel_rfl
theorem meetsH_law09_ProofSeen {g : GG} {pre : List ABlk} {a0 a1 a2 a3 : AV} {r : AV} {post : List PB} (hk : Nat.ble pre.length 24 = true) (h : vc_law09_ProofSeen (Tz g) pre a0 a1 a2 a3 r post) : MeetsH (Tz g) f_law09_ProofSeen pre [a0, a1, a2, a3] (.ret r) post :=
  meetsH_of_vc (C := Tz g) ann_law09_ProofSeen hf_law09_ProofSeen ok_law09_ProofSeen nt_law09_ProofSeen hk (pn := false) (Eq.mpr ((vcFn2_eq _ _ _ _ _ _ _ _).trans (vc_law09_ProofSeen_eq g pre a0 a1 a2 a3 r post)) h)
theorem meets_law09_ProofSeen {g : GG} {a0 a1 a2 a3 : D} {r : Res} (h : vc_law09_ProofSeen (Tz g) [] (.d a0) (.d a1) (.d a2) (.d a3) r.val (r.bl.map .upd)) : Meets (Tz g) f_law09_ProofSeen [a0, a1, a2, a3] r := meetsH_law09_ProofSeen rfl h
end Go.Vc

namespace Go.Vc
open Go Go.Proofs
variable {g : GG}
attribute [local simp] and_assoc
def pgCell (p : Pg) : Option ABlk := some ⟨0, T_api_ProofPage, .box [.d (int p.people), .d (.list (p.lines.map Ln.d)), .d (.list (p.log.map Nt.d))]⟩
def seenF (p : Pg) (entry line who W gc : Int) (d : List Int) (N : Int) (i : Nat) : List AV := [.d (int entry), .d (int line), .d (int who), .ptr 24 0 0 0, .d (.list ((missL p p.log.length).map missD)), .d (ints d), .d (int W), .d (int N), .d (int gc), .d (.bool (decide ((entry, line) ∈ (missL p p.log.length).take i))), .d (int (cntL (ofB p who) (missL p p.log.length) i)), .d (int (cntL (ofB p W) (missL p p.log.length) i)), .d (int i)]
set_option maxHeartbeats 16000000 in
theorem seen_loop (hk : MeetsH (Tz g) f_law09_known [] [] (.ret (.d (.bool true))) []) (p : Pg) (hok : p.ok = true) (entry line who W gc : Int) (d : List Int) (N : Int) (h : Heap)
    (hp : lookH h 24 = pgCell p)
    (hend : vc_law09_ProofSeen_k35 (Tz g) [] (.d (.bool true)) [] (seenF p entry line who W gc d N (missL p p.log.length).length) [(24, pgCell p)]) :
    LOOP (seenF p entry line who W gc d N 0) h 880 fun vs29 h30 next31 =>
      LEN false (nth vs29 4) h30 fun v32 =>
      BIN 0 .lss (nth vs29 12) v32 fun v33 =>
      COND v33
      (vc_law09_ProofSeen_k34 (Tz g) [] (.d (.bool true)) [] vs29 h30 next31)
      (vc_law09_ProofSeen_k35 (Tz g) [] (.d (.bool true)) [] vs29 h30) := by
  obtain ⟨a1, a2, a3, a4, a5, a6, a7⟩ := Pg.ok_len hok
  have hle := missL_le hok (Nat.le_refl p.log.length)
  have hrd := fun x (h : x ∈ missL p p.log.length) => miss_read hok h (Nat.le_refl _)
  refine LOOP.mk Nat (seenF p entry line who W gc d N) (fun _ => [(24, pgCell p)]) (fun i => i ≤ (missL p p.log.length).length) (fun i => (missL p p.log.length).length - i) [] (by simp) 0 (by omega) (by simp [seenF, WEAK, hp]) (fun _ _ => rfl) ?_
  intro i hi
  have hcw := cntL_le (ofB p who) (missL p p.log.length) i
  have hcW := cntL_le (ofB p W) (missL p p.log.length) i
  refine R_LENd (R_BIN rfl (R_COND (fun hlt => ?_) (fun hge => ?_)))
  · have hlt : i < (missL p p.log.length).length := by simpa using hlt
    obtain ⟨x, hg⟩ : ∃ x, (missL p p.log.length)[i]? = some x := ⟨_, List.getElem?_eq_getElem hlt⟩
    obtain ⟨j, k, a, b, c, q, h1, h2, h3, h4, h5⟩ := hrd x (List.mem_of_getElem? hg)
    subst h2
    have hsw := cntL_succ (ofB p who) _ i _ hg
    have hsW := cntL_succ (ofB p W) _ i _ hg
    have hmt := mem_take_succ hg (entry, line)
    have ow : ofB p who ((j : Int), (k : Int)) = (decide (a = who) || decide (b = who)) := by simp only [ofB, Int.toNat_natCast, h3]
    have oW : ofB p W ((j : Int), (k : Int)) = (decide (a = W) || decide (b = W)) := by simp only [ofB, Int.toNat_natCast, h3]
    rw [ow] at hsw
    rw [oW] at hsW
    have w1 := wrap_id (n := (i : Int) + 1) (by omega) (by omega)
    have w2 := wrap_id (n := (cntL (ofB p who) (missL p p.log.length) i : Int) + 1) (by omega) (by omega)
    have w3 := wrap_id (n := (cntL (ofB p W) (missL p p.log.length) i : Int) + 1) (by omega) (by omega)
    have hj0 : ¬ ((j : Int) < 0) := by omega
    have hj1 : ¬ ((p.log.length : Int) ≤ j) := by omega
    have hnext : ∀ m' c1 c2, m' = decide ((entry, line) ∈ (missL p p.log.length).take (i + 1)) → c1 = (cntL (ofB p who) (missL p p.log.length) (i + 1) : Int) → c2 = (cntL (ofB p W) (missL p p.log.length) (i + 1) : Int) →
        ∃ s', s' ≤ (missL p p.log.length).length ∧ WEAK [.d (int entry), .d (int line), .d (int who), .ptr 24 0 0 0, .d (.list ((missL p p.log.length).map missD)), .d (ints d), .d (int W), .d (int N), .d (int gc), .d (.bool m'), .d (int c1), .d (int c2), .d (int ((i : Int) + 1))] [(24, pgCell p)] (seenF p entry line who W gc d N s') [(24, pgCell p)] ∧ (missL p p.log.length).length - s' < (missL p p.log.length).length - i := by
      rintro m' c1 c2 rfl rfl rfl
      exact ⟨i + 1, by omega, by simp [WEAK, seenF], by omega⟩
    rw [hmt, hsw, hsW] at hnext
    simp only [seenF] at hnext ⊢
    generalize cntL (ofB p who) (missL p p.log.length) i = cw at *
    generalize cntL (ofB p W) (missL p p.log.length) i = cW at *
    generalize decide ((entry, line) ∈ (missL p p.log.length).take i) = mt at *
    generalize missL p p.log.length = l at *
    simp [vc_law09_ProofSeen_k34, hg, missD, hj0, vc_law09_ProofSeen_k28, hj1, pgCell, lookH]
    have h3D : (p.log.map Nt.d)[j]? = some (⟨1, [a, b, (c : Int), (c : Int) + q - 1]⟩ : Nt).d := by rw [List.getElem?_map, h3]; rfl
    have hgD : (l.map missD)[i]? = some (missD ((j : Int), (k : Int))) := by rw [List.getElem?_map, hg]; rfl
    refine R_FADDR rfl (R_LOADb rfl rfl (R_IADDRd hgD rfl (R_FADDRc (R_LOADc rfl (R_IADDRd h3D rfl (R_FADDRc (R_LOADc rfl (R_BIN rfl ?_))))))))
    refine ⟨rfl, R_COND (fun h => by simp at h) (fun _ => ?_)⟩
    refine R_FADDR rfl (R_LOADb rfl rfl (R_IADDRd hgD rfl (R_FADDRc (R_LOADc rfl (R_IADDRd h3D rfl (R_FADDRc (R_LOADc rfl ?_)))))))
    refine ⟨rfl, ?_⟩
    show CONDG (.d (.bool mt)) _ _
    rw [CONDG_b]
    refine ⟨fun hm => ?_, fun hm => ?_⟩
    · simp [vc_law09_ProofSeen_k23, vc_law09_ProofSeen_k4, vc_law09_ProofSeen_k6, vc_law09_ProofSeen_k0, vc_law09_ProofSeen_k1, vc_law09_ProofSeen_k5, vc_law09_ProofSeen_k2, vc_law09_ProofSeen_k3, ints, w1, w2, w3]
      clear hsw hsW hmt ow oW hrd hcw hcW hk hend
      repeat' (first | apply And.intro | intro _)
      all_goals (refine hnext _ _ _ ?_ ?_ ?_)
      all_goals (clear hnext; first | (simp [*]; done) | (simp_all; done) | (simp_all; omega))
    · simp [vc_law09_ProofSeen_k24, hg, missD, vc_law09_ProofSeen_k21, vc_law09_ProofSeen_k22, vc_law09_ProofSeen_k20, vc_law09_ProofSeen_k19, vc_law09_ProofSeen_k18, vc_law09_ProofSeen_k17, vc_law09_ProofSeen_k16, vc_law09_ProofSeen_k15, vc_law09_ProofSeen_k14, vc_law09_ProofSeen_k13, vc_law09_ProofSeen_k12, vc_law09_ProofSeen_k11, vc_law09_ProofSeen_k10, vc_law09_ProofSeen_k9, vc_law09_ProofSeen_k8, vc_law09_ProofSeen_k7, ints, w1, w2, w3]
      clear hsw hsW hmt ow oW hrd hcw hcW hk hend
      repeat' (first | apply And.intro | intro _)
      all_goals (refine hnext _ _ _ ?_ ?_ ?_)
      all_goals (clear hnext; first | (simp [*]; done) | (simp_all; done) | (simp_all; omega))
  · have : i = (missL p p.log.length).length := by
      have : ¬ i < (missL p p.log.length).length := by simpa using hge
      omega
    subst this
    exact hend
theorem seen_29 (hk : MeetsH (Tz g) f_law09_known [] [] (.ret (.d (.bool true))) []) (p : Pg) (entry line who W gc : Int) (d : List Int) (N : Int) (h : Heap) (hN : N = ofN p W) (hw : (ofN p who : Int) < N ∨ (ofN p who : Int) = N ∧ W ≤ who) :
    vc_law09_ProofSeen_k29 (Tz g) [] (.d (.bool true)) [] (.d (.bool true)) (seenF p entry line who W gc d N (missL p p.log.length).length) h := by
  have e1 : cntL (ofB p W) (missL p p.log.length) (missL p p.log.length).length = ofN p W := rfl
  have e2 : cntL (ofB p who) (missL p p.log.length) (missL p p.log.length).length = ofN p who := rfl
  simp [vc_law09_ProofSeen_k29, seenF, e1, e2, hN]
  subst hN
  refine ⟨fun _ => known_call hk (by simp), fun h => ?_⟩
  rcases hw with hw | ⟨h1, h2⟩
  · omega
  · have h1 : ofN p who = ofN p W := by omega
    simp [h1, h2]
    exact known_call hk (by simp)
theorem seen_32 (hk : MeetsH (Tz g) f_law09_known [] [] (.ret (.d (.bool true))) []) (p : Pg) (hok : p.ok = true) (entry line who W gc : Int) (d : List Int) (N : Int) (h : Heap) (hm : decide ((entry, line) ∈ missL p p.log.length) = false) (hp : lookH h 24 = pgCell p)
    (hw : ¬ gc = 0 ∨ gc = 0 ∧ persB p W = true ∧ N = ofN p W ∧ ((ofN p who : Int) < N ∨ (ofN p who : Int) = N ∧ W ≤ who)) :
    vc_law09_ProofSeen_k32 (Tz g) [] (.d (.bool true)) [] (seenF p entry line who W gc d N (missL p p.log.length).length) h := by
  obtain ⟨a1, a2, a3, a4, a5, a6, a7⟩ := Pg.ok_len hok
  have ht : (missL p p.log.length).take (missL p p.log.length).length = missL p p.log.length := take_all (Nat.le_refl _)
  have hN : ∀ gc, nth (seenF p entry line who W gc d N (missL p p.log.length).length) 9 = .d (.bool false) := fun gc => by
    simp only [seenF, nth, ht, hm]; rfl
  unfold vc_law09_ProofSeen_k32
  rw [hN]
  simp only [binD_bool_neq, BIN_d]
  refine ⟨_, rfl, R_COND (fun h => by simp at h) (fun _ => ?_)⟩
  show BIN 0 .neq (.d (int gc)) _ _
  rcases hw with hw | ⟨rfl, h1, h2, h3⟩
  · simp [hw]
    exact known_call hk (by simp)
  · simp
    show LOAD true 3 (.ptr 24 0 0 0) h _
    refine R_LOADt hp (by simp) ?_
    refine CALL.val [p.d, int W] _ rfl (ref09_Person_meets p W (by omega)) (.inl rfl) ?_
    rw [h1]
    exact seen_29 hk p entry line who W 0 d N h h2 h3
theorem seen_30 (hk : MeetsH (Tz g) f_law09_known [] [] (.ret (.d (.bool true))) []) (p : Pg) (hok : p.ok = true) (entry line who W gc : Int) (d : List Int) (N : Int) (h : Heap) (mt : Bool) (hm : decide ((entry, line) ∈ missL p p.log.length) = mt) (hp : lookH h 24 = pgCell p)
    (hw : ¬ gc = 0 ∨ gc = 0 ∧ persB p W = true ∧ N = ofN p W ∧ ((ofN p who : Int) < N ∨ (ofN p who : Int) = N ∧ W ≤ who)) :
    vc_law09_ProofSeen_k30 (Tz g) [] (.d (.bool true)) [] (seenF p entry line who W gc d N (missL p p.log.length).length) (.d (.bool mt)) h := by
  obtain ⟨a1, a2, a3, a4, a5, a6, a7⟩ := Pg.ok_len hok
  have ht : (missL p p.log.length).take (missL p p.log.length).length = missL p p.log.length := take_all (Nat.le_refl _)
  have hN : nth (seenF p entry line who W gc d N (missL p p.log.length).length) 9 = .d (.bool mt) := by
    simp only [seenF, nth, ht, hm]; rfl
  unfold vc_law09_ProofSeen_k30
  rw [hN]
  simp only [binD_bool_neq, BIN_d]
  refine ⟨_, rfl, R_COND (fun h => by simp at h) (fun _ => ?_)⟩
  show BIN 0 .neq (.d (int gc)) _ _
  rcases hw with hw | ⟨rfl, h1, h2, h3⟩
  · simp [hw]
    exact known_call hk (by simp)
  · simp
    show LOAD true 3 (.ptr 24 0 0 0) h _
    refine R_LOADt hp (by simp) ?_
    refine CALL.val [p.d, int W] _ rfl (ref09_Person_meets p W (by omega)) (.inl rfl) ?_
    rw [h1]
    exact seen_29 hk p entry line who W 0 d N h h2 h3
set_option maxHeartbeats 4000000 in
theorem seen_end (hk : MeetsH (Tz g) f_law09_known [] [] (.ret (.d (.bool true))) []) (p : Pg) (hok : p.ok = true) (e k : Nat) (he : e < p.log.length) (hkl : k < p.lines.length) (who W gc : Int) (d : List Int) (N : Int) (hdl : d.length ≤ 1000) (hd : decide ((k : Int) ∈ d) = difB p (stN p e) k)
    (hw : ¬ gc = 0 ∨ gc = 0 ∧ persB p W = true ∧ N = ofN p W ∧ ((ofN p who : Int) < N ∨ (ofN p who : Int) = N ∧ W ≤ who)) :
    vc_law09_ProofSeen_k35 (Tz g) [] (.d (.bool true)) [] (seenF p e k who W gc d N (missL p p.log.length).length) [(24, pgCell p)] := by
  obtain ⟨a1, a2, a3, a4, a5, a6, a7⟩ := Pg.ok_len hok
  obtain ⟨x, hg⟩ : ∃ x, p.log[e]? = some x := ⟨_, List.getElem?_eq_getElem he⟩
  have hx := a7 x (List.mem_of_getElem? hg)
  have hgD : (p.log.map Nt.d)[e]? = some x.d := by rw [List.getElem?_map, hg]; rfl
  have hmis : decide (((e : Int), (k : Int)) ∈ missL p p.log.length) = (rdsB x k && difB p (stN p e) k) := by
    have h1 := in_missL (p := p) (i := e) (k := k) p.log.length
    have h2 : misB p e k = (rdsB x k && difB p (stN p e) k) := by simp only [misB, hg]
    rw [← h2]
    cases h3 : misB p e k with
    | true => exact decide_eq_true (h1.2 ⟨he, hkl, h3⟩)
    | false => exact decide_eq_false (fun h => by rw [h3] at h1; exact absurd (h1.1 h).2.2 (by simp))
  unfold vc_law09_ProofSeen_k35
  refine R_FADDR rfl (R_LOADb rfl rfl (R_IADDRd hgD rfl (R_LOADct (Nat.le_refl 2) (R_ALLOC (R_STOREall rfl rfl rfl ?_)))))
  refine R_FADDR rfl (R_LOADb rfl rfl (R_BIN rfl ?_))
  rcases entB_cases hx with ⟨a, rfl, ha⟩ | ⟨a, b, c, rfl, ha, hb, hc⟩ | ⟨a, b, c, n, rfl, ha, hb, hab, hcn, hn⟩
  · simp
    exact seen_32 hk p hok e k who W gc d N _ (by rw [hmis]; rfl) rfl hw
  · simp
    exact seen_32 hk p hok e k who W gc d N _ (by rw [hmis]; rfl) rfl hw
  · have hr : rdsB ⟨1, [a, b, (c : Int), (c : Int) + n - 1]⟩ k = (decide ((c : Int) ≤ k) && decide ((k : Int) ≤ (c : Int) + n - 1)) := rfl
    rw [hr] at hmis
    simp [vc_law09_ProofSeen_k33, Nt.d, ints, lookH]
    show BIN 0 .leq _ (.d (int (k : Int))) _
    simp
    refine ⟨fun h1 => ?_, fun h1 => ?_⟩
    · have h4 : decide ((c : Int) ≤ (k : Int)) = true := decide_eq_true (by omega)
      rw [h4] at hmis
      unfold vc_law09_ProofSeen_k31
      refine R_FADDR rfl (R_LOADb rfl rfl (R_IADDRd (n := 3) rfl rfl (R_LOADc rfl (R_BIN (r := .bool (decide ((k : Int) ≤ (c : Int) + n - 1))) rfl ?_))))
      rw [CONDG_b]
      refine ⟨fun h2 => ?_, fun h3 => ?_⟩
      · rw [h2] at hmis
        refine CALL.val [ints d, int k] _ rfl (ref01_Listed_meets d k (by omega)) (.inl rfl) ?_
        rw [hd]
        exact seen_30 hk p hok e k who W gc d N _ _ (by rw [hmis]; simp) rfl hw
      · rw [h3] at hmis
        exact seen_32 hk p hok e k who W gc d N _ (by rw [hmis]; rfl) rfl hw
    · have h3 : decide ((c : Int) ≤ (k : Int)) = false := decide_eq_false (by omega)
      rw [h3] at hmis
      exact seen_32 hk p hok e k who W gc d N _ (by rw [hmis]; rfl) rfl hw
set_option maxHeartbeats 8000000 in
theorem seen_meets (hg : GOK g) (p : Pg) (entry line who : Int) (_ : -9223372036854775808 ≤ entry ∧ entry ≤ 9223372036854775807) (_ : -9223372036854775808 ≤ line ∧ line ≤ 9223372036854775807) (_ : -9223372036854775808 ≤ who ∧ who ≤ 9223372036854775807) : Meets (Tz g) f_law09_ProofSeen [p.d, int entry, int line, int who] ⟨.d (.bool true), []⟩ := by
  have hk := known_meets hg
  refine meets_law09_ProofSeen ?_
  unfold vc_law09_ProofSeen
  simp [Pg.d, lns, ents]
  refine CALL.val [p.d] _ rfl (law09_right_meets p) (.inl rfl) ?_
  cases hr : rightB p with
  | false =>
    simp [vc_law09_ProofSeen_k42]
    exact known_call hk (by simp)
  | true =>
    have hok : p.ok = true := by
      simp only [rightB, Bool.and_eq_true] at hr
      exact hr.2
    obtain ⟨a1, a2, a3, a4, a5, a6, a7⟩ := Pg.ok_len hok
    simp [vc_law09_ProofSeen_k42]
    refine ⟨fun _ => known_call hk (by simp), fun he0 => ⟨fun _ => known_call hk (by simp), fun hel => ?_⟩⟩
    obtain ⟨e, rfl⟩ : ∃ e : Nat, entry = e := ⟨entry.toNat, by omega⟩
    have he : e < p.log.length := by omega
    refine CALL.val [p.d, int line] _ rfl (ref09_Line_meets p line (by omega)) (.inl rfl) ?_
    cases hl : lineB p line with
    | false =>
      simp [vc_law09_ProofSeen_k41]
      exact known_call hk (by simp)
    | true =>
      obtain ⟨k, rfl, hk2⟩ := inB_nat hl
      have hkl : k < p.lines.length := by omega
      simp [vc_law09_ProofSeen_k41]
      refine CALL.val [p.d, int who] _ rfl (ref09_Person_meets p who (by omega)) (.inl rfl) ?_
      cases hb : persB p who with
      | false =>
        simp [vc_law09_ProofSeen_k40]
        exact known_call hk (by simp)
      | true =>
        obtain ⟨w, rfl, hw2⟩ := inB_nat hb
        have hqok := take_ok hok e
        have hD := proof_Differs_data (g := g) _ hqok
        have hdl : (difL (logE p (p.log.take e))).length ≤ p.lines.length := difL_len _
        have hd : decide ((k : Int) ∈ difL (logE p (p.log.take e))) = difB p (stN p e) k := by
          have h1 := in_difL_take (p := p) (m := e) (k := k) (by omega)
          cases h3 : difB p (stN p e) k with
          | true => exact decide_eq_true (h1.2 ⟨hkl, h3⟩)
          | false => exact decide_eq_false (fun h => by rw [h3] at h1; exact absurd (h1.1 h).2 (by simp))
        have hml := missL_len p p.log.length
        have hm6 := missL_le hok (Nat.le_refl p.log.length)
        have hq : p.log.length * p.lines.length ≤ 10 * 6 := Nat.mul_le_mul a5 a4
        have hmw : IntKind.i64.wrap ((p.log.length : Int) * (p.lines.length : Int)) = ((p.log.length * p.lines.length : Nat) : Int) := by
          rw [← Int.natCast_mul]
          generalize p.log.length * p.lines.length = z at hq
          exact wrap_id (by omega) (by omega)
        generalize hdL : difL (logE p (p.log.take e)) = d at *
        simp [vc_law09_ProofSeen_k40]
        refine ⟨by omega, ?_⟩
        refine ⟨fun y hy => ?_, by omega, ?_⟩
        · obtain ⟨x, _, rfl⟩ := List.mem_map.1 (List.mem_of_mem_take hy)
          rfl
        refine CALL.mk [p.d] _ rfl (proof_Missed_data p hok) (.inl rfl) (by simp) ?_
        simp [vc_law09_ProofSeen_k39, lookH]
        refine CALL.dataV [(logE p (p.log.take e)).d] _ (by simp [Pg.d, logE, lns, ents, lookH]) hD ?_
        simp [lentL, kills, lookH]
        have hpc : ∀ x y z u v : Heap, True := fun _ _ _ _ _ => trivial
        by_cases hm : missL p p.log.length = []
        · refine CALL.mk [p.d] _ (by simp [lookH, Pg.d, lns, ents]) (proof_Worst_none p hok hm) (.inl rfl) (by simp) ?_
          have hend := seen_end hk p hok e k he hkl (w : Int) 0 5 d 0 (by omega) hd (.inl (by simp))
          have hL := fun h hp => seen_loop hk p hok e k w 0 5 d 0 h hp hend
          have c0 : ∀ f : Int × Int → Bool, cntL f [] 0 = 0 := fun f => rfl
          simp [seenF, hm, ints, c0] at hL
          simp [vc_law09_ProofSeen_k38, vc_law09_ProofSeen_k36, lookH, hmw, hm, ints, hdl]
          refine ⟨by rw [← Int.natCast_mul]; omega, fun _ => hL _ (by simp [pgCell, lookH])⟩
        · have hwb := bestI_le (fun n => (ofN p n : Int)) (p.people.toNat - 1)
          have hwI : bestI (fun n => (ofN p n : Int)) (p.people.toNat - 1) = worstI p := rfl
          rw [hwI] at hwb
          have hpw : persB p (worstI p : Int) = true := by simp [persB, inB]; omega
          have hmax := bestI_max (fun n => (ofN p n : Int)) (p.people.toNat - 1) w (by omega)
          have hfst := bestI_first (fun n => (ofN p n : Int)) (p.people.toNat - 1) w
          rw [hwI] at hmax hfst
          have hend := seen_end hk p hok e k he hkl (w : Int) (worstI p : Int) 0 d (ofN p (worstI p) : Int) (by omega) hd (.inr ⟨rfl, hpw, rfl, by
            rcases Nat.lt_or_ge w (worstI p) with h | h
            · exact .inl (hfst h)
            · rcases Int.lt_or_eq_of_le hmax with h2 | h2
              · exact .inl h2
              · exact .inr ⟨h2, by omega⟩⟩)
          have hL := fun h hp => seen_loop hk p hok e k w (worstI p) 0 d (ofN p (worstI p)) h hp hend
          have c0 : ∀ (f : Int × Int → Bool) l, cntL f l 0 = 0 := fun f l => rfl
          simp [seenF, hm, ints, c0] at hL
          refine CALL.mk [p.d] _ (by simp [lookH, Pg.d, lns, ents]) (proof_Worst_data p hok hm) (.inl rfl) (by simp) ?_
          simp [vc_law09_ProofSeen_k38, vc_law09_ProofSeen_k37, lookH, hmw, hm, ints, hdl]
          exact ⟨by rw [← Int.natCast_mul]; omega, fun _ => hL _ (by simp [pgCell, lookH])⟩
end Go.Vc

namespace Go.Vc
open Go Go.RowKit Go.ChangeShapes Go.WideShapes Go.ChangeAt Go.Proofs Go.Proofs.YtjdgidaoknlnlaaGreatDoor
theorem seen_calls {H : Type} {enc : TypeId × Value → H} (W : World) (base : Nat) (args : Array Value) (ds : List (DataW H)) (ps : List MemPlace) (hval : ∀ (j : Nat) t v, Tryz.f5.params[j]? = some t → args[j]? = some v → Value.okWide Tryz.prog W .any base t v)
    (hA : DataW.TrodAll enc Tryz.prog W 0 (fun _ => true) true Tryz.f5.params.toList args.toList ds ps) (hL : laidMetH Tryz.prog laidL W) (hsh : W.ShapedOpen Tryz.prog) : Calls Tryz.prog 5 args W fun e W' => e = .returned (.bool true) ∧ Below W.heap.size W W' := by
  rw [Tryz.params5] at hA hval
  obtain ⟨v0, v1, v2, v3, d0, d1, d2, d3, p0, p1, p2, p3, rfl, rfl, rfl, h0, h1, h2, h3⟩ := trodAll_four hA
  obtain ⟨x0, g0⟩ := open_page (hval 0 25 v0 rfl rfl) h0
  obtain ⟨x1, g1, b1⟩ := open_int' (hval 1 3 v1 rfl rfl) h1
  obtain ⟨x2, g2, b2⟩ := open_int' (hval 2 3 v2 rfl rfl) h2
  obtain ⟨x3, g3, b3⟩ := open_int' (hval 3 3 v3 rfl rfl) h3
  exact law_calls (C := Tz (gW W)) (seen_meets (gok hL hsh) x0 x1 x2 x3 b1 b2 b3) rfl (Below.refl _ _) (us := [v0, v1, v2, v3]) rfl (fun i d u hd hu => by
    match i, hd, hu with
    | 0, hd, hu => simp at hd hu; subst hd; subst hu; exact g0
    | 1, hd, hu => simp at hd hu; subst hd; subst hu; exact g1
    | 2, hd, hu => simp at hd hu; subst hd; subst hu; exact g2
    | 3, hd, hu => simp at hd hu; subst hd; subst hu; exact g3
    | i + 4, hd, hu => simp at hd)
theorem seen_lifted (os : Os) (started : os.Started) (H : Type) (enc : TypeId × Value → H) :
    ReturnsInHanded {} Tryz.checked os 5 .any (fun w args => (Rows.proofSeenSpec.pre enc Tryz.prog Tryz.f5 [] false w args ∧ laidMetH Tryz.prog laidL w) ∧ sizedMet enc Tryz.prog Tryz.f5 (OpenSpec.ofChange Rows.proofSeenSpec) false w args)
      (Rows.proofSeenSpec.post enc Tryz.prog Tryz.f5 false true false false) :=
  law_lifted (C := Tryz.checked) (tb := 4) (n := 4) started own (by kernel_rfl) Tryz.func5
    (ChangeSpec.witness_shaped (enc := enc) (C := Tryz.checked) (os := os) (X := fun w _ => laidMetH Tryz.prog laidL w) false (World.laidAll Tryz.prog os laidL) #[.agg #[.int .i64 0, .slice none 0 0, .slice none 0 0], .int .i64 0, .int .i64 0, .int .i64 0] 8 (World.laidAll_os _ _ _)
      (World.shaped_of_ZipB (by kernel_rfl) (by kernel_rfl)) (by kernel_rfl) (by kernel_rfl) (by kernel_rfl)
      (by rw [MakeChecks.laidMetH_plain _ _ _ (by kernel_rfl)]; exact laidMet_laidAll _ (by kernel_rfl) (by kernel_rfl)))
    laidOut (by kernel_rfl) (by kernel_rfl) Tryz.underlying4 rfl (by kernel_rfl) (fun ds hl => by
      match ds, hl with
      | [a, b, c, d], _ => rfl) seen_calls
theorem seen_holds : Rows.ProofSeenSaid :=
  OpenClaim.holds_of_wide 5 Tryz.f5 rfl rfl rfl rfl rfl rfl rfl ⟨rfl, rfl, rfl, rfl, rfl⟩ rfl rfl rfl rfl rfl (by kernel_rfl) Tryz.func5 (by kernel_rfl)
    (of_decide_eq_true (by kernel_rfl)) (by unfold Func.isWrapper; first | (rw [if_pos (by decide +kernel)]; kernel_rfl) | (rw [if_neg (by decide +kernel)]; exact ⟨rfl, rfl⟩))
    (fun os started H enc _ => seen_lifted os started H enc)
theorem seen_card : Rows.ProofSeenCardSaid :=
  Claim7.holds_tied_plain_at .later [] [.data, .data, .data, .data, .pinned] true (true, "495f881b3e202b99a64ff79fc2e3da44c1da7b54a021e43e5cad857e0faeda86") true seen_holds (fun _ h => by cases h) (by kernel_rfl) (fun _ h => by cases h) proofSeen_row_tie rfl ⟨rfl, rfl⟩ (by kernel_rfl) rfl
    (fun f fn hf hfn => by
      obtain rfl : f = 5 := Option.some.inj ((show Tryz.prog.funcNamed "ephemerist/ephemeristlaw09.ProofSeen" = some 5 by kernel_rfl).symm.trans hf) |>.symm
      obtain rfl : fn = Tryz.f5 := (Option.some.inj (Tryz.func5.symm.trans hfn)).symm
      exact ⟨by kernel_rfl, fun j t ht => by
        rw [Tryz.params5] at ht
        have hm : t ∈ [25, 3, 3, 3] := by simpa using Array.mem_of_getElem? ht
        have hall : ([25, 3, 3, 3].all fun u => !Tryz.prog.wantsStandIn u) = true := by kernel_rfl
        exact (show Tryz.prog.wantsStandIn t = false by simpa using List.all_eq_true.1 hall t hm)⟩)
    (by kernel_rfl)
end Go.Vc

namespace Go.Proofs.YtjdgidaoknlnlaaGreatDoor
theorem law_ProofSeenCardSaid : Rows.ProofSeenCardSaid := Go.Vc.seen_card
end Go.Proofs.YtjdgidaoknlnlaaGreatDoor
