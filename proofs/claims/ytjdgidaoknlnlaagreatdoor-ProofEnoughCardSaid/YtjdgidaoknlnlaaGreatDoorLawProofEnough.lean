/- Proves that the statement ProofEnoughCardSaid holds of the given program: for every input the law returns true and leaves its arguments as they were; under the row's own conditions, that the listed tables are laid as the program's text has them. -/
import Derived.Test.YtjdgidaoknlnlaaGreatDoorVc30
import Derived.Test.YtjdgidaoknlnlaaGreatDoorVc32
import Derived.Test.YtjdgidaoknlnlaaGreatDoorVc23
import Derived.Test.YtjdgidaoknlnlaaGreatDoorVc11
import Derived.Test.YtjdgidaoknlnlaaGreatDoorVc53
import Derived.Test.YtjdgidaoknlnlaaGreatDoorVc26
set_option maxRecDepth 100000
namespace Go.Vc
open Go Go.RowKit Go.ChangeShapes Go.WideShapes Go.ChangeAt Go.Proofs
theorem sh_pair {k : Nat} {ds : List D} (h : Sh Tryz.prog (k + 2) 76 ds) : ∃ s : Int × Int, .agg ds = missD s := by
  unfold Sh at h
  rw [Tryz.underlying76] at h
  obtain ⟨d1, _, rfl, h1, d2, _, rfl, h2, rfl⟩ := h
  obtain ⟨a, rfl, _⟩ := sh_int h1
  obtain ⟨b, rfl, _⟩ := sh_int h2
  exact ⟨(a, b), rfl⟩
theorem open_pair {W : World} {H : Type} {enc : TypeId × Value → H} {base : Nat} {v : Value} {d : DataW H} {ps : List MemPlace} (hval : Value.okWide Tryz.prog W .any base 76 v) (h : DataW.Trod enc Tryz.prog W 0 (fun _ => true) true 76 v d ps) : ∃ s : Int × Int, DRel W (fun b => b < W.heap.size) (missD s) v := by
  obtain ⟨ds, h1, h2⟩ := rd_value (k := 6) (by kernel_rfl) hval h
  obtain ⟨s, hs⟩ := sh_pair (k := 4) h1
  have ha : isAg Tryz.prog 76 = true := by kernel_rfl
  rw [ha] at h2
  exact ⟨s, by rw [← hs]; exact h2⟩
theorem open_text {W : World} {H : Type} {enc : TypeId × Value → H} {base : Nat} {v : Value} {d : DataW H} {ps : List MemPlace} (hval : Value.okWide Tryz.prog W .any base 9 v) (h : DataW.Trod enc Tryz.prog W 0 (fun _ => true) true 9 v d ps) : ∃ s : List UInt8, DRel W (fun b => b < W.heap.size) (.str s) v ∧ s.length ≤ maxLen := by
  obtain ⟨ds, h1, h2⟩ := rd_value (k := 6) (by kernel_rfl) hval h
  have ha : isAg Tryz.prog 9 = false := by kernel_rfl
  rw [ha] at h2
  unfold Sh at h1
  have hu : Tryz.prog.underlying 9 = some .string := by kernel_rfl
  rw [hu] at h1
  obtain ⟨s, rfl, hl⟩ := h1
  exact ⟨s, h2, hl⟩
end Go.Vc

namespace Go.Vc
open Go Go.Proofs Go.RowKit
def ann_law09_ProofEnough : Nat → List Nat := fun n => match n with | 11 => [3, 7, 8, 9, 10, 11] | 19 => [3, 7, 9, 12, 14, 15] | _ => []
def vc_law09_ProofEnough_k0 (P : Ctx) (pre : List ABlk) (r : AV) (post : List PB) (vs0 : List AV) (v1 : AV) (h2 : Heap) (h4 : Heap) (v5 : AV) (v6 : AV) (v7 : AV) (v8 : AV) (h9 : Heap) (rd10 : List Nat) (rd11 : List Nat) (next13 : List AV → Heap → Prop) : Prop :=
  STORE 3 (nth vs0 4) v1 h2 fun h3 =>
  ORDX [] [0, 0, 0, 0, 12, 28, 60, 0, 0, 384, 896, 1920, 4094, 8191, 16383] [(0, wr h4 h4, (ids (nth vs0 4))), (1, wr h4 h4, (ids (nth vs0 0))), (4, wr h4 h4, (ids (nth vs0 3))), (5, wr h4 h4, (ids v5)), (6, wr h4 h4, (ids v6)), (9, wr h4 h4, (ids (nth vs0 3))), (10, wr h4 h4, (ids v7)), (11, wr h4 h4, (ids v8)), (12, wr h4 h9, rd10), (13, wr h9 h2, rd11), (14, wr h2 h3, (ids (nth vs0 4)))] ∧
  BIN 0 .add (nth vs0 5) (.d (.num .i64 1)) fun v12 =>
  next13 [(nth vs0 0), (nth vs0 1), (nth vs0 2), (nth vs0 3), (nth vs0 4), v12] h3
def vc_law09_ProofEnough_k1 (P : Ctx) (pre : List ABlk) (r : AV) (post : List PB) (vs0 : List AV) (v1 : AV) (h2 : Heap) (h4 : Heap) (v5 : AV) (v6 : AV) (v7 : AV) (v8 : AV) (h9 : Heap) (rd10 : List Nat) (rd11 : List Nat) (next13 : List AV → Heap → Prop) : Prop :=
  STORE 3 (nth vs0 4) v1 h2 fun h3 =>
  ORDX [] [0, 0, 0, 0, 12, 28, 60, 0, 0, 384, 896, 1920, 4094, 8191, 16383] [(0, wr h4 h4, (ids (nth vs0 4))), (1, wr h4 h4, (ids (nth vs0 0))), (4, wr h4 h4, (ids (nth vs0 1))), (5, wr h4 h4, (ids v5)), (6, wr h4 h4, (ids v6)), (9, wr h4 h4, (ids (nth vs0 1))), (10, wr h4 h4, (ids v7)), (11, wr h4 h4, (ids v8)), (12, wr h4 h9, rd10), (13, wr h9 h2, rd11), (14, wr h2 h3, (ids (nth vs0 4)))] ∧
  BIN 0 .add (nth vs0 5) (.d (.num .i64 1)) fun v12 =>
  next13 [(nth vs0 0), (nth vs0 1), (nth vs0 2), (nth vs0 3), (nth vs0 4), v12] h3
def vc_law09_ProofEnough_k2 (P : Ctx) (pre : List ABlk) (r : AV) (post : List PB) (v0 : AV) (h2 : Heap) (vs3 : List AV) (v4 : AV) (v5 : AV) (v6 : AV) (v7 : AV) (h8 : Heap) (rd9 : List Nat) (next24 : List AV → Heap → Prop) : Prop :=
  NOT v0 fun v1 =>
  ORDX [] [0, 0, 0, 6, 14, 30, 0, 0, 192, 448, 960, 2047, 4095] [(0, wr h2 h2, (ids (nth vs3 0))), (3, wr h2 h2, (ids (nth vs3 1))), (4, wr h2 h2, (ids v4)), (5, wr h2 h2, (ids v5)), (8, wr h2 h2, (ids (nth vs3 1))), (9, wr h2 h2, (ids v6)), (10, wr h2 h2, (ids v7)), (11, wr h2 h8, rd9)] ∧
  COND v1
  (POST (.d (.bool false)) h8 pre r post)
  (LOAD true 3 (nth vs3 4) h8 fun v10 =>
  LOAD true 3 (nth vs3 0) h8 fun v11 =>
  IADDR 2 T_api_ProofPair (nth vs3 1) (nth vs3 5) h8 fun v12 =>
  FADDR 0 v12 h8 fun v13 =>
  LOAD false 1 v13 h8 fun v14 =>
  IADDR 2 T_api_ProofPair (nth vs3 1) (nth vs3 5) h8 fun v15 =>
  FADDR 1 v15 h8 fun v16 =>
  LOAD false 1 v16 h8 fun v17 =>
  CALL P f_ref09_Whole [v11, v14, v17] 1120 h8 (fun rd18 v19 h20 =>
  CALL P f_ref09_With [v10, v19] 1128 h20 (fun rd21 v22 h23 =>
  vc_law09_ProofEnough_k1 P pre r post vs3 v22 h23 h8 v12 v13 v15 v16 h20 rd18 rd21 next24)
  (fun _ _ _ => False))
  (fun _ _ _ => False))
def vc_law09_ProofEnough_k3 (P : Ctx) (pre : List ABlk) (r : AV) (post : List PB) (v0 : AV) (vs4 : List AV) (h6 : Heap) : Prop :=
  EXT v0 0 fun v1 =>
  EXT v0 1 fun v2 =>
  BIN 0 .eql v2 (.d (.num .i64 0)) fun v3 =>
  CONDG v3
  (CONDG v1
  (NOT (nth vs4 3) fun v5 =>
  CONDG v5
  (CALL P f_law09_known [] 1216 h6 (fun _ v8 h9 =>
  POST v8 h9 pre r post)
  (fun _ _ _ => False))
  (LEN false (nth vs4 2) h6 fun v10 =>
  LEN false (nth vs4 1) h6 fun v11 =>
  BIN 0 .gtr v10 v11 fun v12 =>
  CONDG v12
  (CALL P f_law09_known [] 1216 h6 (fun _ v8 h14 =>
  POST v8 h14 pre r post)
  (fun _ _ _ => False))
  (LEN false (nth vs4 2) h6 fun v15 =>
  LEN false (nth vs4 1) h6 fun v16 =>
  BIN 0 .eql v15 v16 fun v17 =>
  CONDG v17
  (CALL P f_ref09_Before [(nth vs4 2), (nth vs4 1)] 1168 h6 (fun _ v19 h20 =>
  NOT v19 fun v21 =>
  CONDG v21
  (CALL P f_law09_known [] 1216 h20 (fun _ v8 h23 =>
  POST v8 h23 pre r post)
  (fun _ _ _ => False))
  (POST (.d (.bool false)) h20 pre r post))
  (fun _ _ _ => False))
  (POST (.d (.bool false)) h6 pre r post))))
  (POST (.d (.bool false)) h6 pre r post))
  (POST (.d (.bool false)) h6 pre r post)
def vc_law09_ProofEnough_k4 (P : Ctx) (pre : List ABlk) (r : AV) (post : List PB) (vs0 : List AV) (h1 : Heap) (next14 : List AV → Heap → Prop) : Prop :=
  LEN false (nth vs0 1) h1 fun v2 =>
  BIN 0 .lss (nth vs0 5) v2 fun v3 =>
  COND v3
  (LOAD true 3 (nth vs0 0) h1 fun v4 =>
  IADDR 2 T_api_ProofPair (nth vs0 1) (nth vs0 5) h1 fun v5 =>
  FADDR 0 v5 h1 fun v6 =>
  LOAD false 1 v6 h1 fun v7 =>
  IADDR 2 T_api_ProofPair (nth vs0 1) (nth vs0 5) h1 fun v8 =>
  FADDR 1 v8 h1 fun v9 =>
  LOAD false 1 v9 h1 fun v10 =>
  CALL P f_ref09_Pair [v4, v7, v10] 1008 h1 (fun rd11 v12 h13 =>
  vc_law09_ProofEnough_k2 P pre r post v12 h1 vs0 v5 v6 v8 v9 h13 rd11 next14)
  (fun _ _ _ => False))
  (LOAD true 3 (nth vs0 4) h1 fun v15 =>
  CALL P f_proof_Pass [v15] 928 h1 (fun _ v17 h18 =>
  vc_law09_ProofEnough_k3 P pre r post v17 vs0 h18)
  (fun _ _ _ => False))
def vc_law09_ProofEnough_k5 (P : Ctx) (pre : List ABlk) (r : AV) (post : List PB) (v0 : AV) (v2 : AV) (h4 : Heap) : Prop :=
  BIN 0 .eql v0 (.d (.num .i64 0)) fun v1 =>
  CONDG v1
  (NOT v2 fun v3 =>
  CONDG v3
  (CALL P f_law09_known [] 904 h4 (fun _ v6 h7 =>
  POST v6 h7 pre r post)
  (fun _ _ _ => False))
  (POST (.d (.bool false)) h4 pre r post))
  (POST (.d (.bool false)) h4 pre r post)
def vc_law09_ProofEnough_k6 (P : Ctx) (pre : List ABlk) (r : AV) (post : List PB) (vs0 : List AV) (h1 : Heap) (v6 : AV) : Prop :=
  LOAD true 3 (nth vs0 0) h1 fun v2 =>
  ALLOC T_api_ProofPage [.d (.num .i64 0), .zc, .zc] 856 h1 fun v3 h4 =>
  STORE 3 v3 v2 h4 fun h5 =>
  LOOP [(nth vs0 0), (nth vs0 1), (nth vs0 3), v6, v3, (.d (.num .i64 0))] h5 880 fun vs7 h8 next9 =>
  vc_law09_ProofEnough_k4 P pre r post vs7 h8 next9
def vc_law09_ProofEnough_k7 (P : Ctx) (pre : List ABlk) (r : AV) (post : List PB) (v0 : AV) (h6 : Heap) (vs10 : List AV) : Prop :=
  EXT v0 0 fun v1 =>
  EXT v0 1 fun v2 =>
  BIN 0 .neq v2 (.d (.num .i64 0)) fun v3 =>
  CONDG v3
  (BIN 0 .eql v2 (.d (.num .i64 0)) fun v4 =>
  CONDG v4
  (NOT v1 fun v5 =>
  CONDG v5
  (CALL P f_law09_known [] 904 h6 (fun _ v8 h9 =>
  POST v8 h9 pre r post)
  (fun _ _ _ => False))
  (POST (.d (.bool false)) h6 pre r post))
  (POST (.d (.bool false)) h6 pre r post))
  (BIN 0 .neq (nth vs10 2) (.d (.num .i64 0)) fun v11 =>
  COND v11
  (vc_law09_ProofEnough_k5 P pre r post v2 v1 h6)
  (vc_law09_ProofEnough_k6 P pre r post vs10 h6 v1))
def vc_law09_ProofEnough_k8 (P : Ctx) (pre : List ABlk) (r : AV) (post : List PB) (vs0 : List AV) (h1 : Heap) (next18 : List AV → Heap → Prop) : Prop :=
  LEN false (nth vs0 3) h1 fun v2 =>
  BIN 0 .lss (nth vs0 5) v2 fun v3 =>
  COND v3
  (LOAD true 3 (nth vs0 4) h1 fun v4 =>
  LOAD true 3 (nth vs0 0) h1 fun v5 =>
  IADDR 2 T_api_ProofPair (nth vs0 3) (nth vs0 5) h1 fun v6 =>
  FADDR 0 v6 h1 fun v7 =>
  LOAD false 1 v7 h1 fun v8 =>
  IADDR 2 T_api_ProofPair (nth vs0 3) (nth vs0 5) h1 fun v9 =>
  FADDR 1 v9 h1 fun v10 =>
  LOAD false 1 v10 h1 fun v11 =>
  CALL P f_ref09_Whole [v5, v8, v11] 840 h1 (fun rd12 v13 h14 =>
  CALL P f_ref09_With [v4, v13] 848 h14 (fun rd15 v16 h17 =>
  vc_law09_ProofEnough_k0 P pre r post vs0 v16 h17 h1 v6 v7 v9 v10 h14 rd12 rd15 next18)
  (fun _ _ _ => False))
  (fun _ _ _ => False))
  (LOAD true 3 (nth vs0 4) h1 fun v19 =>
  CALL P f_proof_Pass [v19] 752 h1 (fun _ v21 h22 =>
  vc_law09_ProofEnough_k7 P pre r post v21 h22 vs0)
  (fun _ _ _ => False))
def vc_law09_ProofEnough_k9 (P : Ctx) (pre : List ABlk) (r : AV) (post : List PB) (v0 : AV) (h2 : Heap) (vs3 : List AV) (v4 : AV) (v5 : AV) (v6 : AV) (v7 : AV) (h8 : Heap) (rd9 : List Nat) (next24 : List AV → Heap → Prop) : Prop :=
  NOT v0 fun v1 =>
  ORDX [] [0, 0, 0, 6, 14, 30, 0, 0, 192, 448, 960, 2047, 4095] [(0, wr h2 h2, (ids (nth vs3 0))), (3, wr h2 h2, (ids (nth vs3 1))), (4, wr h2 h2, (ids v4)), (5, wr h2 h2, (ids v5)), (8, wr h2 h2, (ids (nth vs3 1))), (9, wr h2 h2, (ids v6)), (10, wr h2 h2, (ids v7)), (11, wr h2 h8, rd9)] ∧
  COND v1
  (POST (.d (.bool false)) h8 pre r post)
  (LOAD true 3 (nth vs3 4) h8 fun v10 =>
  LOAD true 3 (nth vs3 0) h8 fun v11 =>
  IADDR 2 T_api_ProofPair (nth vs3 1) (nth vs3 5) h8 fun v12 =>
  FADDR 0 v12 h8 fun v13 =>
  LOAD false 1 v13 h8 fun v14 =>
  IADDR 2 T_api_ProofPair (nth vs3 1) (nth vs3 5) h8 fun v15 =>
  FADDR 1 v15 h8 fun v16 =>
  LOAD false 1 v16 h8 fun v17 =>
  CALL P f_ref09_Whole [v11, v14, v17] 1096 h8 (fun rd18 v19 h20 =>
  CALL P f_ref09_With [v10, v19] 1104 h20 (fun rd21 v22 h23 =>
  vc_law09_ProofEnough_k1 P pre r post vs3 v22 h23 h8 v12 v13 v15 v16 h20 rd18 rd21 next24)
  (fun _ _ _ => False))
  (fun _ _ _ => False))
def vc_law09_ProofEnough_k10 (P : Ctx) (pre : List ABlk) (r : AV) (post : List PB) (v0 : AV) (vs4 : List AV) (h6 : Heap) : Prop :=
  EXT v0 0 fun v1 =>
  EXT v0 1 fun v2 =>
  BIN 0 .eql v2 (.d (.num .i64 0)) fun v3 =>
  CONDG v3
  (CONDG v1
  (NOT (nth vs4 3) fun v5 =>
  CONDG v5
  (CALL P f_law09_known [] 1192 h6 (fun _ v8 h9 =>
  POST v8 h9 pre r post)
  (fun _ _ _ => False))
  (LEN false (nth vs4 2) h6 fun v10 =>
  LEN false (nth vs4 1) h6 fun v11 =>
  BIN 0 .gtr v10 v11 fun v12 =>
  CONDG v12
  (CALL P f_law09_known [] 1192 h6 (fun _ v8 h14 =>
  POST v8 h14 pre r post)
  (fun _ _ _ => False))
  (LEN false (nth vs4 2) h6 fun v15 =>
  LEN false (nth vs4 1) h6 fun v16 =>
  BIN 0 .eql v15 v16 fun v17 =>
  CONDG v17
  (CALL P f_ref09_Before [(nth vs4 2), (nth vs4 1)] 1144 h6 (fun _ v19 h20 =>
  NOT v19 fun v21 =>
  CONDG v21
  (CALL P f_law09_known [] 1192 h20 (fun _ v8 h23 =>
  POST v8 h23 pre r post)
  (fun _ _ _ => False))
  (POST (.d (.bool false)) h20 pre r post))
  (fun _ _ _ => False))
  (POST (.d (.bool false)) h6 pre r post))))
  (POST (.d (.bool false)) h6 pre r post))
  (POST (.d (.bool false)) h6 pre r post)
def vc_law09_ProofEnough_k11 (P : Ctx) (pre : List ABlk) (r : AV) (post : List PB) (vs0 : List AV) (h1 : Heap) (next14 : List AV → Heap → Prop) : Prop :=
  LEN false (nth vs0 1) h1 fun v2 =>
  BIN 0 .lss (nth vs0 5) v2 fun v3 =>
  COND v3
  (LOAD true 3 (nth vs0 0) h1 fun v4 =>
  IADDR 2 T_api_ProofPair (nth vs0 1) (nth vs0 5) h1 fun v5 =>
  FADDR 0 v5 h1 fun v6 =>
  LOAD false 1 v6 h1 fun v7 =>
  IADDR 2 T_api_ProofPair (nth vs0 1) (nth vs0 5) h1 fun v8 =>
  FADDR 1 v8 h1 fun v9 =>
  LOAD false 1 v9 h1 fun v10 =>
  CALL P f_ref09_Pair [v4, v7, v10] 984 h1 (fun rd11 v12 h13 =>
  vc_law09_ProofEnough_k9 P pre r post v12 h1 vs0 v5 v6 v8 v9 h13 rd11 next14)
  (fun _ _ _ => False))
  (LOAD true 3 (nth vs0 4) h1 fun v15 =>
  CALL P f_proof_Pass [v15] 904 h1 (fun _ v17 h18 =>
  vc_law09_ProofEnough_k10 P pre r post v17 vs0 h18)
  (fun _ _ _ => False))
def vc_law09_ProofEnough_k12 (P : Ctx) (pre : List ABlk) (r : AV) (post : List PB) (v0 : AV) (v2 : AV) (h4 : Heap) : Prop :=
  BIN 0 .eql v0 (.d (.num .i64 0)) fun v1 =>
  CONDG v1
  (NOT v2 fun v3 =>
  CONDG v3
  (CALL P f_law09_known [] 880 h4 (fun _ v6 h7 =>
  POST v6 h7 pre r post)
  (fun _ _ _ => False))
  (POST (.d (.bool false)) h4 pre r post))
  (POST (.d (.bool false)) h4 pre r post)
def vc_law09_ProofEnough_k13 (P : Ctx) (pre : List ABlk) (r : AV) (post : List PB) (vs0 : List AV) (h1 : Heap) (v6 : AV) : Prop :=
  LOAD true 3 (nth vs0 0) h1 fun v2 =>
  ALLOC T_api_ProofPage [.d (.num .i64 0), .zc, .zc] 832 h1 fun v3 h4 =>
  STORE 3 v3 v2 h4 fun h5 =>
  LOOP [(nth vs0 0), (nth vs0 1), (nth vs0 3), v6, v3, (.d (.num .i64 0))] h5 856 fun vs7 h8 next9 =>
  vc_law09_ProofEnough_k11 P pre r post vs7 h8 next9
def vc_law09_ProofEnough_k14 (P : Ctx) (pre : List ABlk) (r : AV) (post : List PB) (v0 : AV) (h6 : Heap) (vs10 : List AV) : Prop :=
  EXT v0 0 fun v1 =>
  EXT v0 1 fun v2 =>
  BIN 0 .neq v2 (.d (.num .i64 0)) fun v3 =>
  CONDG v3
  (BIN 0 .eql v2 (.d (.num .i64 0)) fun v4 =>
  CONDG v4
  (NOT v1 fun v5 =>
  CONDG v5
  (CALL P f_law09_known [] 880 h6 (fun _ v8 h9 =>
  POST v8 h9 pre r post)
  (fun _ _ _ => False))
  (POST (.d (.bool false)) h6 pre r post))
  (POST (.d (.bool false)) h6 pre r post))
  (BIN 0 .neq (nth vs10 2) (.d (.num .i64 0)) fun v11 =>
  COND v11
  (vc_law09_ProofEnough_k12 P pre r post v2 v1 h6)
  (vc_law09_ProofEnough_k13 P pre r post vs10 h6 v1))
def vc_law09_ProofEnough_k15 (P : Ctx) (pre : List ABlk) (r : AV) (post : List PB) (vs0 : List AV) (h1 : Heap) (next18 : List AV → Heap → Prop) : Prop :=
  LEN false (nth vs0 3) h1 fun v2 =>
  BIN 0 .lss (nth vs0 5) v2 fun v3 =>
  COND v3
  (LOAD true 3 (nth vs0 4) h1 fun v4 =>
  LOAD true 3 (nth vs0 0) h1 fun v5 =>
  IADDR 2 T_api_ProofPair (nth vs0 3) (nth vs0 5) h1 fun v6 =>
  FADDR 0 v6 h1 fun v7 =>
  LOAD false 1 v7 h1 fun v8 =>
  IADDR 2 T_api_ProofPair (nth vs0 3) (nth vs0 5) h1 fun v9 =>
  FADDR 1 v9 h1 fun v10 =>
  LOAD false 1 v10 h1 fun v11 =>
  CALL P f_ref09_Whole [v5, v8, v11] 816 h1 (fun rd12 v13 h14 =>
  CALL P f_ref09_With [v4, v13] 824 h14 (fun rd15 v16 h17 =>
  vc_law09_ProofEnough_k0 P pre r post vs0 v16 h17 h1 v6 v7 v9 v10 h14 rd12 rd15 next18)
  (fun _ _ _ => False))
  (fun _ _ _ => False))
  (LOAD true 3 (nth vs0 4) h1 fun v19 =>
  CALL P f_proof_Pass [v19] 728 h1 (fun _ v21 h22 =>
  vc_law09_ProofEnough_k14 P pre r post v21 h22 vs0)
  (fun _ _ _ => False))
def vc_law09_ProofEnough_k16 (P : Ctx) (pre : List ABlk) (r : AV) (post : List PB) (v0 : AV) (h1 : Heap) (v5 : AV) (v10 : AV) (v11 : AV) : Prop :=
  LOAD true 2 v0 h1 fun v2 =>
  MKS T_api_ProofPair 2 [v2] 656 h1 fun v3 h4 =>
  LOAD true 3 v5 h4 fun v6 =>
  ALLOC T_api_ProofPage [.d (.num .i64 0), .zc, .zc] 680 h4 fun v7 h8 =>
  STORE 3 v7 v6 h8 fun h9 =>
  LOOP [v5, v10, v11, v3, v7, (.d (.num .i64 0))] h9 704 fun vs12 h13 next14 =>
  vc_law09_ProofEnough_k8 P pre r post vs12 h13 next14
def vc_law09_ProofEnough_k17 (P : Ctx) (pre : List ABlk) (r : AV) (post : List PB) (v0 : AV) (h1 : Heap) (v6 : AV) (v7 : AV) (v8 : AV) : Prop :=
  LOAD true 3 v0 h1 fun v2 =>
  ALLOC T_api_ProofPage [.d (.num .i64 0), .zc, .zc] 656 h1 fun v3 h4 =>
  STORE 3 v3 v2 h4 fun h5 =>
  LOOP [v0, v6, v7, v8, v3, (.d (.num .i64 0))] h5 680 fun vs9 h10 next11 =>
  vc_law09_ProofEnough_k15 P pre r post vs9 h10 next11
def vc_law09_ProofEnough_k18 (P : Ctx) (pre : List ABlk) (r : AV) (post : List PB) (v0 : AV) (h1 : Heap) (v5 : AV) (v8 : AV) (v10 : AV) (v17 : AV) : Prop :=
  FADDR 0 v0 h1 fun v2 =>
  LOAD false 1 v2 h1 fun v3 =>
  BIN 0 .gtr v3 (.d (.num .i64 2)) fun v4 =>
  CONDG v4
  (POST (.d (.bool false)) h1 pre r post)
  (LEN false v5 h1 fun v6 =>
  BIN 0 .gtr v6 (.d (.num .i64 2)) fun v7 =>
  COND v7
  (POST (.d (.bool false)) h1 pre r post)
  (LOAD true 2 v8 h1 fun v9 =>
  LOAD true 2 v10 h1 fun v11 =>
  MKS T_api_ProofPair 2 [v9, v11] 608 h1 fun v12 h13 =>
  LOAD true 2 v8 h13 fun v14 =>
  LOAD true 2 v10 h13 fun v15 =>
  BIN 1002 .eql v14 v15 fun v16 =>
  COND v16
  (vc_law09_ProofEnough_k16 P pre r post v8 h13 v0 v5 v17)
  (vc_law09_ProofEnough_k17 P pre r post v0 h13 v5 v17 v12)))
def vc_law09_ProofEnough_k19 (P : Ctx) (pre : List ABlk) (r : AV) (post : List PB) (v0 : AV) (h1 : Heap) (v4 : AV) (v6 : AV) (v13 : AV) (v14 : AV) : Prop :=
  LEN false v0 h1 fun v2 =>
  BIN 0 .gtr v2 (.d (.num .i64 2)) fun v3 =>
  COND v3
  (POST (.d (.bool false)) h1 pre r post)
  (LOAD true 2 v4 h1 fun v5 =>
  LOAD true 2 v6 h1 fun v7 =>
  MKS T_api_ProofPair 2 [v5, v7] 608 h1 fun v8 h9 =>
  LOAD true 2 v4 h9 fun v10 =>
  LOAD true 2 v6 h9 fun v11 =>
  BIN 1002 .eql v10 v11 fun v12 =>
  COND v12
  (vc_law09_ProofEnough_k16 P pre r post v4 h9 v13 v0 v14)
  (vc_law09_ProofEnough_k17 P pre r post v13 h9 v0 v14 v8))
def vc_law09_ProofEnough_k20 (P : Ctx) (pre : List ABlk) (r : AV) (post : List PB) (v0 : AV) (h5 : Heap) (v7 : AV) (v8 : AV) (v9 : AV) : Prop :=
  EXT v0 0 fun v1 =>
  EXT v0 1 fun v2 =>
  BIN 0 .neq v2 (.d (.num .i64 0)) fun v3 =>
  CONDG v3
  (BIN 0 .neq v2 (.d (.num .i64 5)) fun v4 =>
  CONDG v4
  (POST (.d (.bool false)) h5 pre r post)
  (BIN 0 .eql v2 (.d (.num .i64 5)) fun v6 =>
  CONDG v6
  (vc_law09_ProofEnough_k18 P pre r post v7 h5 v1 v8 v9 v2)
  (vc_law09_ProofEnough_k19 P pre r post v1 h5 v8 v9 v7 v2)))
  (BIN 0 .eql v2 (.d (.num .i64 5)) fun v6 =>
  CONDG v6
  (vc_law09_ProofEnough_k18 P pre r post v7 h5 v1 v8 v9 v2)
  (vc_law09_ProofEnough_k19 P pre r post v1 h5 v8 v9 v7 v2))
def vc_law09_ProofEnough_k21 (P : Ctx) (pre : List ABlk) (r : AV) (post : List PB) (v0 : AV) (v2 : AV) (h3 : Heap) (v5 : AV) (v11 : AV) : Prop :=
  NOT v0 fun v1 =>
  CONDG v1
  (LOAD true 2 v2 h3 fun v4 =>
  LOAD true 2 v5 h3 fun v6 =>
  BIN 1002 .neq v4 v6 fun v7 =>
  COND v7
  (CALL P f_law09_known [] 376 h3 (fun _ v9 h10 =>
  POST v9 h10 pre r post)
  (fun _ _ _ => False))
  (LOAD true 3 v11 h3 fun v12 =>
  CALL P f_proof_Fewest [v12] 384 h3 (fun _ v14 h15 =>
  vc_law09_ProofEnough_k20 P pre r post v14 h15 v11 v2 v5)
  (fun _ _ _ => False)))
  (LOAD true 3 v11 h3 fun v12 =>
  CALL P f_proof_Fewest [v12] 384 h3 (fun _ v14 h17 =>
  vc_law09_ProofEnough_k20 P pre r post v14 h17 v11 v2 v5)
  (fun _ _ _ => False))
def vc_law09_ProofEnough_k22 (P : Ctx) (pre : List ABlk) (r : AV) (post : List PB) (v0 : AV) (h2 : Heap) (v6 : AV) (v10 : AV) (v17 : AV) : Prop :=
  NOT v0 fun v1 =>
  CONDG v1
  (CALL P f_law09_known [] 376 h2 (fun _ v4 h5 =>
  POST v4 h5 pre r post)
  (fun _ _ _ => False))
  (LOAD true 2 v6 h2 fun v7 =>
  MKS T_api_ProofPair 2 [v7] 288 h2 fun v8 h9 =>
  LOAD true 2 v10 h9 fun v11 =>
  MKS T_api_ProofPair 2 [v11] 304 h9 fun v12 h13 =>
  CALL P f_ref09_Before [v8, v12] 312 h13 (fun _ v15 h16 =>
  vc_law09_ProofEnough_k21 P pre r post v15 v6 h16 v10 v17)
  (fun _ _ _ => False))
def vc_law09_ProofEnough_k23 (P : Ctx) (pre : List ABlk) (r : AV) (post : List PB) (v0 : AV) (h2 : Heap) (v6 : AV) (v8 : AV) (v16 : AV) : Prop :=
  NOT v0 fun v1 =>
  CONDG v1
  (CALL P f_law09_known [] 376 h2 (fun _ v4 h5 =>
  POST v4 h5 pre r post)
  (fun _ _ _ => False))
  (LOAD true 3 v6 h2 fun v7 =>
  FADDR 0 v8 h2 fun v9 =>
  LOAD false 1 v9 h2 fun v10 =>
  FADDR 1 v8 h2 fun v11 =>
  LOAD false 1 v11 h2 fun v12 =>
  CALL P f_ref09_Pair [v7, v10, v12] 248 h2 (fun _ v14 h15 =>
  vc_law09_ProofEnough_k22 P pre r post v14 h15 v16 v8 v6)
  (fun _ _ _ => False))
def vc_law09_ProofEnough_k24 (P : Ctx) (pre : List ABlk) (r : AV) (post : List PB) (v0 : AV) (h2 : Heap) (v6 : AV) (v14 : AV) (v22 : AV) : Prop :=
  NOT v0 fun v1 =>
  CONDG v1
  (CALL P f_law09_known [] 376 h2 (fun _ v4 h5 =>
  POST v4 h5 pre r post)
  (fun _ _ _ => False))
  (FADDR 2 v6 h2 fun v7 =>
  LOAD false 1 v7 h2 fun v8 =>
  LEN false v8 h2 fun v9 =>
  BIN 0 .gtr v9 (.d (.num .i64 8)) fun v10 =>
  CONDG v10
  (CALL P f_law09_known [] 376 h2 (fun _ v4 h12 =>
  POST v4 h12 pre r post)
  (fun _ _ _ => False))
  (LOAD true 3 v6 h2 fun v13 =>
  FADDR 0 v14 h2 fun v15 =>
  LOAD false 1 v15 h2 fun v16 =>
  FADDR 1 v14 h2 fun v17 =>
  LOAD false 1 v17 h2 fun v18 =>
  CALL P f_ref09_Pair [v13, v16, v18] 176 h2 (fun _ v20 h21 =>
  vc_law09_ProofEnough_k23 P pre r post v20 h21 v6 v22 v14)
  (fun _ _ _ => False)))
def vc_law09_ProofEnough (P : Ctx) (pre : List ABlk) (a0 a1 a2 : AV) (r : AV) (post : List PB) : Prop :=
  let h0 : Heap := numbered 0 pre
  BOX T_api_ProofPage a0 24 h0 fun v3 h1 =>
  BOX T_api_ProofPair a1 32 h1 fun v4 h2 =>
  BOX T_api_ProofPair a2 40 h2 fun v5 h3 =>
  LOAD true 3 v3 h3 fun v18 =>
  CALL P f_law09_right [v18] 64 h3 (fun _ v19 h4 =>
  vc_law09_ProofEnough_k24 P pre r post v19 h4 v3 v4 v5)
  (fun _ _ _ => False)
theorem vc_law09_ProofEnough_eq (g : GG) (pre : List ABlk) (a0 a1 a2 : AV) (r : AV) (post : List PB) : vcFn2 (Tz g) false ann_law09_ProofEnough Tryz.f9 pre [a0, a1, a2] (.ret r) post = vc_law09_ProofEnough (Tz g) pre a0 a1 a2 r post := by kernel_rfl
theorem hf_law09_ProofEnough : Tryz.prog.funcs[f_law09_ProofEnough]? = some Tryz.f9 := by kernel_rfl
theorem ok_law09_ProofEnough : fnVcOK Tryz.prog Tryz.f9 = true := by kernel_rfl
theorem nt_law09_ProofEnough : Nat.ble 3 Tryz.f9.ntmps = true := by kernel_rfl
theorem meetsH_law09_ProofEnough {g : GG} {pre : List ABlk} {a0 a1 a2 : AV} {r : AV} {post : List PB} (hk : Nat.ble pre.length 24 = true) (h : vc_law09_ProofEnough (Tz g) pre a0 a1 a2 r post) : MeetsH (Tz g) f_law09_ProofEnough pre [a0, a1, a2] (.ret r) post :=
  meetsH_of_vc (C := Tz g) ann_law09_ProofEnough hf_law09_ProofEnough ok_law09_ProofEnough nt_law09_ProofEnough hk (pn := false) (Eq.mpr ((vcFn2_eq _ _ _ _ _ _ _ _).trans (vc_law09_ProofEnough_eq g pre a0 a1 a2 r post)) h)
theorem meets_law09_ProofEnough {g : GG} {a0 a1 a2 : D} {r : Res} (h : vc_law09_ProofEnough (Tz g) [] (.d a0) (.d a1) (.d a2) r.val (r.bl.map .upd)) : Meets (Tz g) f_law09_ProofEnough [a0, a1, a2] r := meetsH_law09_ProofEnough rfl h
end Go.Vc

namespace Go.Vc
open Go Go.Proofs
variable {g : GG}
attribute [local simp] and_assoc
abbrev pgE (p : Pg) (L : List D) : Option ABlk := some ⟨0, T_api_ProofPage, .box [.d (int p.people), .d (.list (p.lines.map Ln.d)), .d (.list L)]⟩
theorem afterP_ok {p : Pg} (hok : p.ok = true) {l : Prs} (hl : p.log.length + l.length ≤ 10) (hx : ∀ x, x ∈ l → pairB p x.1 x.2 = true) : (afterP p l).ok = true :=
  logE_ok hok (by simp; omega) (afterP_mem hok hx)
def fewC (o : Option Prs) : Int := match o with | some _ => 0 | none => 5
theorem after_more {p : Pg} {l : Prs} {k : Nat} {x : Int × Int} (_hlen : p.lines.length ≤ 1000) (hlog : p.log.length ≤ 50) (hl : l.length ≤ 10) (hg : l[k]? = some x) : Meets (Tz g) f_ref09_With [.agg [int p.people, .list (p.lines.map Ln.d), .list ((afterP p (l.take k)).log.map Nt.d)], (readE p x).d] ⟨.d (.agg [int p.people, .list (p.lines.map Ln.d), .list ((afterP p (l.take (k + 1))).log.map Nt.d)]), []⟩ := by
  have htl := List.length_take_le k l
  have htl2 := List.length_take_le' k l
  have h : (afterP p (l.take k)).log.length ≤ 100 := by simp [afterP, logE]; omega
  have hWi := ref09_With_meets (g := g) (afterP p (l.take k)) (readE (afterP p (l.take k)) x) h
  rw [afterP_next hg] at hWi
  exact hWi
set_option maxHeartbeats 8000000 in
theorem enough_own_A (hk : MeetsH (Tz g) f_law09_known [] [] (.ret (.d (.bool true))) []) (p : Pg) (hok : p.ok = true) (l two : Prs) (h : Heap) (hl : l.length ≤ 2) (hx : ∀ x, x ∈ l → pairB p x.1 x.2 = true) (hlog : p.log.length ≤ 8) (is : Bool) (hown : enoughB p l = true) (hmin : is = true → l.length < two.length ∨ (l.length = two.length ∧ befB two l = false)) (htwo : two.length ≤ 2)
    (h1 : lookH h 24 = pgE p (p.log.map Nt.d)) (h2 : lookH h 656 = some ⟨0, T_api_ProofPair, .lst (two.map missD)⟩) (h3 : lookH h 856 = pgE p (p.log.map Nt.d)) :
    LOOP [.ptr 24 0 0 0, .d (prsD l), .own 656 0, .d (.bool is), .ptr 856 0 0 0, .d (int 0)] h 880 fun vs7 h8 next9 => vc_law09_ProofEnough_k4 (Tz g) [] (.d (.bool true)) [] vs7 h8 next9 := by
  obtain ⟨a1, a2, a3, a4, a5, a6, a7⟩ := Pg.ok_len hok
  have hyok := afterP_ok hok (l := l) (by omega) hx
  have hP := proof_Pass_data (g := g) _ hyok
  have hb : allP (afterP p l) = true := hown
  rw [hb] at hP
  refine LOOP.mk Nat (fun i => [.ptr 24 0 0 0, .d (prsD l), .own 656 0, .d (.bool is), .ptr 856 0 0 0, .d (int i)]) (fun i => [(24, pgE p (p.log.map Nt.d)), (656, some ⟨0, T_api_ProofPair, .lst (two.map missD)⟩), (856, pgE p ((afterP p (l.take i)).log.map Nt.d))])
    (fun i => i ≤ l.length) (fun i => l.length - i) [] (by simp) 0 (by omega) (by simp [WEAK, h1, h2, h3, prsD, afterP_nil]) (fun _ _ => rfl) ?_
  intro i hi
  have hw := wrap_id (n := (i : Int) + 1) (by omega) (by omega)
  simp [vc_law09_ProofEnough_k4, prsD]
  refine ⟨fun hlt => ?_, fun hge => ?_⟩
  · obtain ⟨x, hg⟩ : ∃ x, l[i]? = some x := ⟨_, List.getElem?_eq_getElem hlt⟩
    have hxo := hx x (List.mem_of_getElem? hg)
    have hWh := ref09_Whole_meets (g := g) p x (by omega)
    have hWi := after_more (g := g) (p := p) (by omega) (by omega) (by omega) hg
    generalize hL2 : (afterP p (l.take (i + 1))).log.map Nt.d = L2 at hWi
    generalize (afterP p (l.take i)).log.map Nt.d = L1 at hWi ⊢
    obtain ⟨x1, x2⟩ := x
    simp [hg, missD]
    refine CALL.val [p.d, int x1, int x2] _ (by simp [Pg.d, lns, ents]) (ref09_Pair_meets p x1 x2 (by omega)) (.inl rfl) ?_
    rw [hxo]
    simp [vc_law09_ProofEnough_k2, hg, missD]
    refine ⟨rfl, ?_⟩
    refine CALL.val [p.d, int x1, int x2] _ (by simp [Pg.d, lns, ents]) hWh (.inl rfl) ?_
    refine CALL.val [.agg [int p.people, .list (p.lines.map Ln.d), .list L1], (readE p (x1, x2)).d] _ (by simp) hWi (.inl rfl) ?_
    simp [vc_law09_ProofEnough_k1, hw]
    refine ⟨rfl, i + 1, by omega, ?_, by omega⟩
    rw [hL2]
    simp [WEAK, lookH]
  · have : i = l.length := by omega
    subst this
    rw [take_all (Nat.le_refl _)]
    refine CALL.mk [(afterP p l).d] _ (by simp [Pg.d, lns, ents, afterP, logE]) hP (.inl rfl) (by simp) ?_
    cases is with
    | false =>
      simp [vc_law09_ProofEnough_k3]
      exact known_call hk (by first | rfl | simp)
    | true =>
      rcases hmin rfl with h1 | ⟨h1, h2⟩
      · have c1 : (l.length : Int) < (two.length : Int) := by omega
        simp [vc_law09_ProofEnough_k3, lookH, h1]
        exact ⟨known_call hk (by first | rfl | simp), fun h => absurd h (by omega)⟩
      · simp [vc_law09_ProofEnough_k3, lookH, h1]
        refine CALL.val [prsD two, prsD l] _ (by simp [argsD, argD, toD, lookH, prsD]) (ref09_Before_meets two l (by omega) (by omega)) (.inr rfl) ?_
        rw [h2]
        simp
        exact known_call hk (by first | rfl | simp)
set_option maxHeartbeats 8000000 in
theorem enough_two_A (hk : MeetsH (Tz g) f_law09_known [] [] (.ret (.d (.bool true))) []) (p : Pg) (hok : p.ok = true) (two : Prs) (h : Heap) (hx : ∀ x, x ∈ two → pairB p x.1 x.2 = true) (hlog : p.log.length ≤ 8) (htl : two.length = 1 ∨ two.length = 2) (htm : two ∈ listsF two.length [] (pairsL p.people.toNat))
    (h1 : lookH h 24 = pgE p (p.log.map Nt.d)) (h2 : lookH h 656 = some ⟨0, T_api_ProofPair, .lst (two.map missD)⟩) (h3 : lookH h 680 = pgE p (p.log.map Nt.d)) :
    LOOP [.ptr 24 0 0 0, .d (prsD ((fewP p).getD [])), .d (int (fewC (fewP p))), .own 656 0, .ptr 680 0 0 0, .d (int 0)] h 704 fun vs7 h8 next9 => vc_law09_ProofEnough_k8 (Tz g) [] (.d (.bool true)) [] vs7 h8 next9 := by
  obtain ⟨a1, a2, a3, a4, a5, a6, a7⟩ := Pg.ok_len hok
  obtain ⟨e1, e2⟩ := enough_law hok htl htm
  have hfo := fun x (hf : fewP p = some x) => fewP_ok hok hf
  have hyok := afterP_ok hok (l := two) (by omega) hx
  have hP := proof_Pass_data (g := g) _ hyok
  have hb : allP (afterP p two) = enoughB p two := rfl
  rw [hb] at hP
  refine LOOP.mk Nat (fun i => [.ptr 24 0 0 0, .d (prsD ((fewP p).getD [])), .d (int (fewC (fewP p))), .own 656 0, .ptr 680 0 0 0, .d (int i)]) (fun i => [(24, pgE p (p.log.map Nt.d)), (656, some ⟨0, T_api_ProofPair, .lst (two.map missD)⟩), (680, pgE p ((afterP p (two.take i)).log.map Nt.d))])
    (fun i => i ≤ two.length) (fun i => two.length - i) [] (by simp) 0 (by omega) (by simp [WEAK, h1, h2, h3, prsD, afterP_nil]) (fun _ _ => rfl) ?_
  intro i hi
  have hw := wrap_id (n := (i : Int) + 1) (by omega) (by omega)
  simp [vc_law09_ProofEnough_k8, lookH]
  refine ⟨fun hlt => ?_, fun hge => ?_⟩
  · obtain ⟨x, hg⟩ : ∃ x, two[i]? = some x := ⟨_, List.getElem?_eq_getElem hlt⟩
    have hxo := hx x (List.mem_of_getElem? hg)
    have hWh := ref09_Whole_meets (g := g) p x (by omega)
    have hWi := after_more (g := g) (p := p) (by omega) (by omega) (by omega) hg
    generalize hL2 : (afterP p (two.take (i + 1))).log.map Nt.d = L2 at hWi
    generalize (afterP p (two.take i)).log.map Nt.d = L1 at hWi ⊢
    obtain ⟨x1, x2⟩ := x
    simp [hg, missD]
    refine ⟨hlt, ?_⟩
    refine CALL.val [p.d, int x1, int x2] _ (by simp [Pg.d, lns, ents]) hWh (.inl rfl) ?_
    refine CALL.val [.agg [int p.people, .list (p.lines.map Ln.d), .list L1], (readE p (x1, x2)).d] _ (by simp) hWi (.inl rfl) ?_
    simp [vc_law09_ProofEnough_k0, hw]
    refine ⟨rfl, i + 1, by omega, ?_, by omega⟩
    rw [hL2]
    simp [WEAK, lookH]
  · have : i = two.length := by omega
    subst this
    rw [take_all (Nat.le_refl _)]
    refine CALL.mk [(afterP p two).d] _ (by simp [Pg.d, lns, ents, afterP, logE]) hP (.inl rfl) (by simp) ?_
    cases hf : fewP p with
    | none =>
      rw [e1 hf]
      simp [vc_law09_ProofEnough_k7, fewC, vc_law09_ProofEnough_k5]
      exact known_call hk (by first | rfl | simp)
    | some x =>
      obtain ⟨g1, g2⟩ := e2 x hf
      obtain ⟨f1, f2⟩ := hfo x hf
      simp [vc_law09_ProofEnough_k7, fewC, vc_law09_ProofEnough_k6, lookH]
      exact enough_own_A hk p hok x two _ f1 f2 hlog (enoughB p two) g1 g2 (by omega) (by simp) (by simp) (by simp)
set_option maxHeartbeats 8000000 in
theorem enough_own_B (hk : MeetsH (Tz g) f_law09_known [] [] (.ret (.d (.bool true))) []) (p : Pg) (hok : p.ok = true) (l two : Prs) (h : Heap) (hl : l.length ≤ 2) (hx : ∀ x, x ∈ l → pairB p x.1 x.2 = true) (hlog : p.log.length ≤ 8) (is : Bool) (hown : enoughB p l = true) (hmin : is = true → l.length < two.length ∨ (l.length = two.length ∧ befB two l = false)) (htwo : two.length ≤ 2)
    (h1 : lookH h 24 = pgE p (p.log.map Nt.d)) (h2 : lookH h 608 = some ⟨0, T_api_ProofPair, .lst (two.map missD)⟩) (h3 : lookH h 832 = pgE p (p.log.map Nt.d)) :
    LOOP [.ptr 24 0 0 0, .d (prsD l), .own 608 0, .d (.bool is), .ptr 832 0 0 0, .d (int 0)] h 856 fun vs7 h8 next9 => vc_law09_ProofEnough_k11 (Tz g) [] (.d (.bool true)) [] vs7 h8 next9 := by
  obtain ⟨a1, a2, a3, a4, a5, a6, a7⟩ := Pg.ok_len hok
  have hyok := afterP_ok hok (l := l) (by omega) hx
  have hP := proof_Pass_data (g := g) _ hyok
  have hb : allP (afterP p l) = true := hown
  rw [hb] at hP
  refine LOOP.mk Nat (fun i => [.ptr 24 0 0 0, .d (prsD l), .own 608 0, .d (.bool is), .ptr 832 0 0 0, .d (int i)]) (fun i => [(24, pgE p (p.log.map Nt.d)), (608, some ⟨0, T_api_ProofPair, .lst (two.map missD)⟩), (832, pgE p ((afterP p (l.take i)).log.map Nt.d))])
    (fun i => i ≤ l.length) (fun i => l.length - i) [] (by simp) 0 (by omega) (by simp [WEAK, h1, h2, h3, prsD, afterP_nil]) (fun _ _ => rfl) ?_
  intro i hi
  have hw := wrap_id (n := (i : Int) + 1) (by omega) (by omega)
  simp [vc_law09_ProofEnough_k11, prsD]
  refine ⟨fun hlt => ?_, fun hge => ?_⟩
  · obtain ⟨x, hg⟩ : ∃ x, l[i]? = some x := ⟨_, List.getElem?_eq_getElem hlt⟩
    have hxo := hx x (List.mem_of_getElem? hg)
    have hWh := ref09_Whole_meets (g := g) p x (by omega)
    have hWi := after_more (g := g) (p := p) (by omega) (by omega) (by omega) hg
    generalize hL2 : (afterP p (l.take (i + 1))).log.map Nt.d = L2 at hWi
    generalize (afterP p (l.take i)).log.map Nt.d = L1 at hWi ⊢
    obtain ⟨x1, x2⟩ := x
    simp [hg, missD]
    refine CALL.val [p.d, int x1, int x2] _ (by simp [Pg.d, lns, ents]) (ref09_Pair_meets p x1 x2 (by omega)) (.inl rfl) ?_
    rw [hxo]
    simp [vc_law09_ProofEnough_k9, hg, missD]
    refine ⟨rfl, ?_⟩
    refine CALL.val [p.d, int x1, int x2] _ (by simp [Pg.d, lns, ents]) hWh (.inl rfl) ?_
    refine CALL.val [.agg [int p.people, .list (p.lines.map Ln.d), .list L1], (readE p (x1, x2)).d] _ (by simp) hWi (.inl rfl) ?_
    simp [vc_law09_ProofEnough_k1, hw]
    refine ⟨rfl, i + 1, by omega, ?_, by omega⟩
    rw [hL2]
    simp [WEAK, lookH]
  · have : i = l.length := by omega
    subst this
    rw [take_all (Nat.le_refl _)]
    refine CALL.mk [(afterP p l).d] _ (by simp [Pg.d, lns, ents, afterP, logE]) hP (.inl rfl) (by simp) ?_
    cases is with
    | false =>
      simp [vc_law09_ProofEnough_k10]
      exact known_call hk (by first | rfl | simp)
    | true =>
      rcases hmin rfl with h1 | ⟨h1, h2⟩
      · have c1 : (l.length : Int) < (two.length : Int) := by omega
        simp [vc_law09_ProofEnough_k10, lookH, h1]
        exact ⟨known_call hk (by first | rfl | simp), fun h => absurd h (by omega)⟩
      · simp [vc_law09_ProofEnough_k10, lookH, h1]
        refine CALL.val [prsD two, prsD l] _ (by simp [argsD, argD, toD, lookH, prsD]) (ref09_Before_meets two l (by omega) (by omega)) (.inr rfl) ?_
        rw [h2]
        simp
        exact known_call hk (by first | rfl | simp)
set_option maxHeartbeats 8000000 in
theorem enough_two_B (hk : MeetsH (Tz g) f_law09_known [] [] (.ret (.d (.bool true))) []) (p : Pg) (hok : p.ok = true) (two : Prs) (h : Heap) (hx : ∀ x, x ∈ two → pairB p x.1 x.2 = true) (hlog : p.log.length ≤ 8) (htl : two.length = 1 ∨ two.length = 2) (htm : two ∈ listsF two.length [] (pairsL p.people.toNat))
    (h1 : lookH h 24 = pgE p (p.log.map Nt.d)) (h2 : lookH h 608 = some ⟨0, T_api_ProofPair, .lst (two.map missD)⟩) (h3 : lookH h 656 = pgE p (p.log.map Nt.d)) :
    LOOP [.ptr 24 0 0 0, .d (prsD ((fewP p).getD [])), .d (int (fewC (fewP p))), .own 608 0, .ptr 656 0 0 0, .d (int 0)] h 680 fun vs7 h8 next9 => vc_law09_ProofEnough_k15 (Tz g) [] (.d (.bool true)) [] vs7 h8 next9 := by
  obtain ⟨a1, a2, a3, a4, a5, a6, a7⟩ := Pg.ok_len hok
  obtain ⟨e1, e2⟩ := enough_law hok htl htm
  have hfo := fun x (hf : fewP p = some x) => fewP_ok hok hf
  have hyok := afterP_ok hok (l := two) (by omega) hx
  have hP := proof_Pass_data (g := g) _ hyok
  have hb : allP (afterP p two) = enoughB p two := rfl
  rw [hb] at hP
  refine LOOP.mk Nat (fun i => [.ptr 24 0 0 0, .d (prsD ((fewP p).getD [])), .d (int (fewC (fewP p))), .own 608 0, .ptr 656 0 0 0, .d (int i)]) (fun i => [(24, pgE p (p.log.map Nt.d)), (608, some ⟨0, T_api_ProofPair, .lst (two.map missD)⟩), (656, pgE p ((afterP p (two.take i)).log.map Nt.d))])
    (fun i => i ≤ two.length) (fun i => two.length - i) [] (by simp) 0 (by omega) (by simp [WEAK, h1, h2, h3, prsD, afterP_nil]) (fun _ _ => rfl) ?_
  intro i hi
  have hw := wrap_id (n := (i : Int) + 1) (by omega) (by omega)
  simp [vc_law09_ProofEnough_k15, lookH]
  refine ⟨fun hlt => ?_, fun hge => ?_⟩
  · obtain ⟨x, hg⟩ : ∃ x, two[i]? = some x := ⟨_, List.getElem?_eq_getElem hlt⟩
    have hxo := hx x (List.mem_of_getElem? hg)
    have hWh := ref09_Whole_meets (g := g) p x (by omega)
    have hWi := after_more (g := g) (p := p) (by omega) (by omega) (by omega) hg
    generalize hL2 : (afterP p (two.take (i + 1))).log.map Nt.d = L2 at hWi
    generalize (afterP p (two.take i)).log.map Nt.d = L1 at hWi ⊢
    obtain ⟨x1, x2⟩ := x
    simp [hg, missD]
    refine ⟨hlt, ?_⟩
    refine CALL.val [p.d, int x1, int x2] _ (by simp [Pg.d, lns, ents]) hWh (.inl rfl) ?_
    refine CALL.val [.agg [int p.people, .list (p.lines.map Ln.d), .list L1], (readE p (x1, x2)).d] _ (by simp) hWi (.inl rfl) ?_
    simp [vc_law09_ProofEnough_k0, hw]
    refine ⟨rfl, i + 1, by omega, ?_, by omega⟩
    rw [hL2]
    simp [WEAK, lookH]
  · have : i = two.length := by omega
    subst this
    rw [take_all (Nat.le_refl _)]
    refine CALL.mk [(afterP p two).d] _ (by simp [Pg.d, lns, ents, afterP, logE]) hP (.inl rfl) (by simp) ?_
    cases hf : fewP p with
    | none =>
      rw [e1 hf]
      simp [vc_law09_ProofEnough_k14, fewC, vc_law09_ProofEnough_k12]
      exact known_call hk (by first | rfl | simp)
    | some x =>
      obtain ⟨g1, g2⟩ := e2 x hf
      obtain ⟨f1, f2⟩ := hfo x hf
      simp [vc_law09_ProofEnough_k14, fewC, vc_law09_ProofEnough_k13, lookH]
      exact enough_own_B hk p hok x two _ f1 f2 hlog (enoughB p two) g1 g2 (by omega) (by simp) (by simp) (by simp)
set_option maxHeartbeats 16000000 in
theorem enough_meets (hg : GOK g) (p : Pg) (a b : Int × Int) : Meets (Tz g) f_law09_ProofEnough [p.d, missD a, missD b] ⟨.d (.bool true), []⟩ := by
  have hk := known_meets hg
  obtain ⟨b1, b2⟩ := b
  obtain ⟨x1, x2⟩ := a
  refine meets_law09_ProofEnough ?_
  unfold vc_law09_ProofEnough
  simp [Pg.d, lns, ents, missD]
  refine CALL.val [p.d] _ rfl (law09_right_meets p) (.inl rfl) ?_
  cases hr : rightB p with
  | false =>
    simp [vc_law09_ProofEnough_k24]
    exact known_call hk (by simp)
  | true =>
    have hok : p.ok = true := by
      simp only [rightB, Bool.and_eq_true] at hr
      exact hr.2
    obtain ⟨a1, a2, a3, a4, a5, a6, a7⟩ := Pg.ok_len hok
    simp [vc_law09_ProofEnough_k24]
    refine ⟨fun _ => known_call hk (by simp), fun hlog => ?_⟩
    refine CALL.val [p.d, int x1, int x2] _ (by simp [Pg.d, lns, ents]) (ref09_Pair_meets p x1 x2 (by omega)) (.inl rfl) ?_
    cases hpa : pairB p x1 x2 with
    | false =>
      simp [vc_law09_ProofEnough_k23]
      exact known_call hk (by simp)
    | true =>
      simp [vc_law09_ProofEnough_k23]
      refine CALL.val [p.d, int b1, int b2] _ (by simp [Pg.d, lns, ents]) (ref09_Pair_meets p b1 b2 (by omega)) (.inl rfl) ?_
      cases hpb : pairB p b1 b2 with
      | false =>
        simp [vc_law09_ProofEnough_k22]
        exact known_call hk (by simp)
      | true =>
        have hF : Meets (Tz g) f_proof_Fewest [p.d] ⟨.tup [.d (prsD ((fewP p).getD [])), .d (int (fewC (fewP p)))], []⟩ := by
          have h := proof_Fewest_data (g := g) p hok
          cases hf : fewP p <;> (rw [hf] at h; exact h)
        have hBe := ref09_Before_meets (g := g) [(x1, x2)] [(b1, b2)] (by simp) (by simp)
        rw [befB_one] at hBe
        have hma := mem_pairsL hpa
        have hmb := mem_pairsL hpb
        simp [vc_law09_ProofEnough_k22]
        refine CALL.val [prsD [(x1, x2)], prsD [(b1, b2)]] _ (by simp [argsD, argD, toD, lookH, prsD, missD]) hBe (.inr rfl) ?_
        have hgo : (x1 = b1 ∧ x2 = b2) ∨ ltB (x1, x2) (b1, b2) = true → ∀ h, lookH h 24 = pgE p (p.log.map Nt.d) → lookH h 32 = some ⟨0, T_api_ProofPair, .box [.d (int x1), .d (int x2)]⟩ → lookH h 40 = some ⟨0, T_api_ProofPair, .box [.d (int b1), .d (int b2)]⟩ →
            vc_law09_ProofEnough_k20 (Tz g) [] (.d (.bool true)) [] (.tup [.d (prsD ((fewP p).getD [])), .d (int (fewC (fewP p)))]) h (.ptr 24 0 0 0) (.ptr 32 0 0 0) (.ptr 40 0 0 0) := fun hc h h1 h2 h3 => by
          have hfv : fewC (fewP p) = 0 ∨ fewC (fewP p) = 5 := by cases fewP p <;> simp [fewC]
          have hlen : ((fewP p).getD []).length ≤ 2 := by
            cases hf : fewP p with
            | none => simp
            | some x => exact (fewP_ok hok hf).1
          have hlen' : ¬ (2 < ((fewP p).getD []).length) := by omega
          have h5 : fewC (fewP p) = 5 → p.people ≤ 2 := fun h => by
            rcases Int.lt_or_le 2 p.people with h2 | h2
            · exfalso
              cases hf : fewP p with
              | none => exact fewP_three hok (by omega) hf
              | some x => rw [hf] at h; simp [fewC] at h
            · exact h2
          have hrest : ∀ h', lookH h' 24 = pgE p (p.log.map Nt.d) → lookH h' 32 = some ⟨0, T_api_ProofPair, .box [.d (int x1), .d (int x2)]⟩ → lookH h' 608 = some ⟨0, T_api_ProofPair, .lst ([(x1, x2), (b1, b2)].map missD)⟩ → (x1 = b1 → ¬ x2 = b2) → vc_law09_ProofEnough_k17 (Tz g) [] (.d (.bool true)) [] (.ptr 24 0 0 0) h' (.d (prsD ((fewP p).getD []))) (.d (int (fewC (fewP p)))) (.own 608 0) := fun h' g1 g2 g3 hne => by
            have hlt : ltB (x1, x2) (b1, b2) = true := hc.resolve_left (fun h => hne h.1 h.2)
            simp [vc_law09_ProofEnough_k17, g1]
            refine enough_two_B hk p hok [(x1, x2), (b1, b2)] _ (fun y hy => ?_) (by omega) (.inr rfl) (two_mem (by omega) hma hmb hlt) (by simp [g1]) (by simp [g3]) (by simp)
            simp at hy
            rcases hy with rfl | rfl
            · exact hpa
            · exact hpb
          have hone : ∀ h', lookH h' 24 = pgE p (p.log.map Nt.d) → lookH h' 32 = some ⟨0, T_api_ProofPair, .box [.d (int x1), .d (int x2)]⟩ → vc_law09_ProofEnough_k16 (Tz g) [] (.d (.bool true)) [] (.ptr 32 0 0 0) h' (.ptr 24 0 0 0) (.d (prsD ((fewP p).getD []))) (.d (int (fewC (fewP p)))) := fun h' g1 g2 => by
            simp [vc_law09_ProofEnough_k16, g1, g2]
            refine enough_two_A hk p hok [(x1, x2)] _ (fun y hy => ?_) (by omega) (.inl rfl) ?_ (by simp [g1]) (by simp [missD]) (by simp)
            · simp at hy
              rw [hy]; exact hpa
            · rw [show [(x1, x2)].length = 1 from rfl, listsF_one]
              exact List.mem_map.2 ⟨_, hma, rfl⟩
          simp [vc_law09_ProofEnough_k20]
          have h19 : vc_law09_ProofEnough_k19 (Tz g) [] (.d (.bool true)) [] (.d (prsD ((fewP p).getD []))) h (.ptr 32 0 0 0) (.ptr 40 0 0 0) (.ptr 24 0 0 0) (.d (int (fewC (fewP p)))) := by
            simp [vc_law09_ProofEnough_k19, h2, h3]
            exact ⟨_, rfl, by simp; omega, fun _ => ⟨fun _ _ => hone _ (by simp [h1]) (by simp [h2]), fun hne => hrest _ (by simp [h1]) (by simp [h2]) (by simp [missD]) hne⟩⟩
          have h18 : fewC (fewP p) = 5 → vc_law09_ProofEnough_k18 (Tz g) [] (.d (.bool true)) [] (.ptr 24 0 0 0) h (.d (prsD ((fewP p).getD []))) (.ptr 32 0 0 0) (.ptr 40 0 0 0) (.d (int (fewC (fewP p)))) := fun hf5 => by
            simp [vc_law09_ProofEnough_k18, h1, h2, h3]
            exact ⟨h5 hf5, fun _ => ⟨_, rfl, by simp; omega, fun _ => ⟨fun _ _ => hone _ (by simp [h1]) (by simp [h2]), fun hne => hrest _ (by simp [h1]) (by simp [h2]) (by simp [missD]) hne⟩⟩⟩
          refine ⟨fun h0 => ⟨hfv.resolve_left h0, fun _ => ⟨h18, fun _ => h19⟩⟩, fun _ => ⟨h18, fun _ => h19⟩⟩
        simp [vc_law09_ProofEnough_k21]
        refine ⟨fun hlt => ⟨fun _ => known_call hk (by simp), fun e1 e2 => ?_⟩, fun hlt => ?_⟩
        · refine CALL.mk [p.d] _ (by simp [Pg.d, lns, ents]) hF (.inl rfl) (by simp) ?_
          exact hgo (.inl ⟨e1, e2⟩) _ (by simp) (by simp) (by simp)
        · refine CALL.mk [p.d] _ (by simp [Pg.d, lns, ents]) hF (.inl rfl) (by simp) ?_
          exact hgo (.inr hlt) _ (by simp) (by simp) (by simp)
end Go.Vc

namespace Go.Vc
open Go Go.RowKit Go.ChangeShapes Go.WideShapes Go.ChangeAt Go.Proofs Go.Proofs.YtjdgidaoknlnlaaGreatDoor
theorem enough_calls {H : Type} {enc : TypeId × Value → H} (W : World) (base : Nat) (args : Array Value) (ds : List (DataW H)) (ps : List MemPlace) (hval : ∀ (j : Nat) t v, Tryz.f9.params[j]? = some t → args[j]? = some v → Value.okWide Tryz.prog W .any base t v)
    (hA : DataW.TrodAll enc Tryz.prog W 0 (fun _ => true) true Tryz.f9.params.toList args.toList ds ps) (hL : laidMetH Tryz.prog laidL W) (hsh : W.ShapedOpen Tryz.prog) : Calls Tryz.prog 9 args W fun e W' => e = .returned (.bool true) ∧ Below W.heap.size W W' := by
  rw [Tryz.params9] at hA hval
  obtain ⟨v0, v1, v2, d0, d1, d2, p0, p1, p2, rfl, rfl, rfl, h0, h1, h2⟩ := trodAll_three hA
  obtain ⟨x0, g0⟩ := open_page (hval 0 25 v0 rfl rfl) h0
  obtain ⟨x1, g1⟩ := open_pair (hval 1 76 v1 rfl rfl) h1
  obtain ⟨x2, g2⟩ := open_pair (hval 2 76 v2 rfl rfl) h2
  exact law_calls (C := Tz (gW W)) (enough_meets (gok hL hsh) x0 x1 x2) rfl (Below.refl _ _) (us := [v0, v1, v2]) rfl (fun i d u hd hu => by
    match i, hd, hu with
    | 0, hd, hu => simp at hd hu; subst hd; subst hu; exact g0
    | 1, hd, hu => simp at hd hu; subst hd; subst hu; exact g1
    | 2, hd, hu => simp at hd hu; subst hd; subst hu; exact g2
    | i + 3, hd, hu => simp at hd)
theorem enough_lifted (os : Os) (started : os.Started) (H : Type) (enc : TypeId × Value → H) :
    ReturnsInHanded {} Tryz.checked os 9 .any (fun w args => (Rows.proofEnoughSpec.pre enc Tryz.prog Tryz.f9 [] false w args ∧ laidMetH Tryz.prog laidL w) ∧ sizedMet enc Tryz.prog Tryz.f9 (OpenSpec.ofChange Rows.proofEnoughSpec) false w args)
      (Rows.proofEnoughSpec.post enc Tryz.prog Tryz.f9 false true false false) :=
  law_lifted (C := Tryz.checked) (tb := 4) (n := 3) started own (by kernel_rfl) Tryz.func9
    (ChangeSpec.witness_shaped (enc := enc) (C := Tryz.checked) (os := os) (X := fun w _ => laidMetH Tryz.prog laidL w) false (World.laidAll Tryz.prog os laidL) #[.agg #[.int .i64 0, .slice none 0 0, .slice none 0 0], .agg #[.int .i64 0, .int .i64 0], .agg #[.int .i64 0, .int .i64 0]] 8 (World.laidAll_os _ _ _)
      (World.shaped_of_ZipB (by kernel_rfl) (by kernel_rfl)) (by kernel_rfl) (by kernel_rfl) (by kernel_rfl)
      (by rw [MakeChecks.laidMetH_plain _ _ _ (by kernel_rfl)]; exact laidMet_laidAll _ (by kernel_rfl) (by kernel_rfl)))
    laidOut (by kernel_rfl) (by kernel_rfl) Tryz.underlying4 rfl (by kernel_rfl) (fun ds hl => by
      match ds, hl with
      | [a, b, c], _ => rfl) enough_calls
theorem enough_holds : Rows.ProofEnoughSaid :=
  OpenClaim.holds_of_wide 9 Tryz.f9 rfl rfl rfl rfl rfl rfl rfl ⟨rfl, rfl, rfl, rfl, rfl⟩ rfl rfl rfl rfl rfl (by kernel_rfl) Tryz.func9 (by kernel_rfl)
    (of_decide_eq_true (by kernel_rfl)) (by unfold Func.isWrapper; first | (rw [if_pos (by decide +kernel)]; kernel_rfl) | (rw [if_neg (by decide +kernel)]; exact ⟨rfl, rfl⟩))
    (fun os started H enc _ => enough_lifted os started H enc)
theorem enough_card : Rows.ProofEnoughCardSaid :=
  Claim7.holds_tied_plain_at .later [] [.data, .data, .data, .data, .pinned] true (true, "495f881b3e202b99a64ff79fc2e3da44c1da7b54a021e43e5cad857e0faeda86") true enough_holds (fun _ h => by cases h) (by kernel_rfl) (fun _ h => by cases h) proofEnough_row_tie rfl ⟨rfl, rfl⟩ (by kernel_rfl) rfl
    (fun f fn hf hfn => by
      obtain rfl : f = 9 := Option.some.inj ((show Tryz.prog.funcNamed "ephemerist/ephemeristlaw09.ProofEnough" = some 9 by kernel_rfl).symm.trans hf) |>.symm
      obtain rfl : fn = Tryz.f9 := (Option.some.inj (Tryz.func9.symm.trans hfn)).symm
      exact ⟨by kernel_rfl, fun j t ht => by
        rw [Tryz.params9] at ht
        have hm : t ∈ [25, 76, 76] := by simpa using Array.mem_of_getElem? ht
        have hall : ([25, 76, 76].all fun u => !Tryz.prog.wantsStandIn u) = true := by kernel_rfl
        exact (show Tryz.prog.wantsStandIn t = false by simpa using List.all_eq_true.1 hall t hm)⟩)
    (by kernel_rfl)
end Go.Vc

namespace Go.Proofs.YtjdgidaoknlnlaaGreatDoor
theorem law_ProofEnoughCardSaid : Rows.ProofEnoughCardSaid := Go.Vc.enough_card
end Go.Proofs.YtjdgidaoknlnlaaGreatDoor
