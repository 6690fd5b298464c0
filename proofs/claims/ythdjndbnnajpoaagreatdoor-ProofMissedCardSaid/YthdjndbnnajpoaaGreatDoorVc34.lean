/- A part of the proof: general laws of a reading of the model by abstract data, or contracts of the functions that the law calls. -/
import Derived.Test.YthdjndbnnajpoaaGreatDoorVc23
import Derived.Test.YthdjndbnnajpoaaGreatDoorVc11
set_option maxRecDepth 100000
namespace Go.Vc
open Go Go.Proofs Go.RowKit
def ann_proof_Missed : Nat → List Nat := fun n => match n with  | _ => []
def vc_proof_Missed_k0 (P : Ctx) (pre : List ABlk) (r : AV) (post : List PB) (v0 : AV) (h2 : Heap) (v3 : AV) : Prop :=
  NOT v0 fun v1 =>
  COND v1
  (POST (.tup [.zc, (.d (.num .i64 2))]) h2 pre r post)
  (LOAD true 3 v3 h2 fun v4 =>
  CALL P f_proof_pageOf [v4] 80 h2 (fun _ v6 h7 =>
  FADDR 0 v6 h7 fun v8 =>
  FADDR 7 v8 h7 fun v9 =>
  LOAD false 1 v9 h7 fun v10 =>
  POST (.tup [v10, (.d (.num .i64 0))]) h7 pre r post)
  (fun _ _ _ => False))
def vc_proof_Missed (P : Ctx) (pre : List ABlk) (a0 : AV) (r : AV) (post : List PB) : Prop :=
  let h0 : Heap := numbered 0 pre
  BOX T_api_ProofPage a0 24 h0 fun v1 h1 =>
  LOAD true 3 v1 h1 fun v4 =>
  CALL P f_proof_isPage [v4] 56 h1 (fun _ v5 h2 =>
  vc_proof_Missed_k0 P pre r post v5 h2 v1)
  (fun _ _ _ => False)
theorem vc_proof_Missed_eq (g : GG) (pre : List ABlk) (a0 : AV) (r : AV) (post : List PB) : vcFn2 (Tz g) false ann_proof_Missed Tryz.f41 pre [a0] (.ret r) post = vc_proof_Missed (Tz g) pre a0 r post := by kernel_rfl
theorem hf_proof_Missed : Tryz.prog.funcs[f_proof_Missed]? = some Tryz.f41 := by kernel_rfl
theorem ok_proof_Missed : fnVcOK Tryz.prog Tryz.f41 = true := by kernel_rfl
theorem nt_proof_Missed : Nat.ble 1 Tryz.f41.ntmps = true := by kernel_rfl
theorem meetsH_proof_Missed {g : GG} {pre : List ABlk} {a0 : AV} {r : AV} {post : List PB} (hk : Nat.ble pre.length 24 = true) (h : vc_proof_Missed (Tz g) pre a0 r post) : MeetsH (Tz g) f_proof_Missed pre [a0] (.ret r) post :=
  meetsH_of_vc (C := Tz g) ann_proof_Missed hf_proof_Missed ok_proof_Missed nt_proof_Missed hk (pn := false) (Eq.mpr ((vcFn2_eq _ _ _ _ _ _ _ _).trans (vc_proof_Missed_eq g pre a0 r post)) h)
theorem meets_proof_Missed {g : GG} {a0 : D} {r : Res} (h : vc_proof_Missed (Tz g) [] (.d a0) r.val (r.bl.map .upd)) : Meets (Tz g) f_proof_Missed [a0] r := meetsH_proof_Missed rfl h
def ann_ref09_changes : Nat → List Nat := fun n => match n with  | _ => []
def vc_ref09_changes_k0 (P : Ctx) (pre : List ABlk) (r : AV) (post : List PB) (v0 : AV) (h1 : Heap) (a6 : AV) : Prop :=
  FADDR 1 v0 h1 fun v2 =>
  LOAD false 1 v2 h1 fun v3 =>
  IADDR 1 T_int v3 (.d (.num .i64 1)) h1 fun v4 =>
  LOAD false 1 v4 h1 fun v5 =>
  BIN 0 .eql v5 a6 fun v7 =>
  CONDG v7
  (POST (.d (.bool true)) h1 pre r post)
  (FADDR 0 v0 h1 fun v8 =>
  LOAD false 1 v8 h1 fun v9 =>
  BIN 0 .eql v9 (.d (.num .i64 3)) fun v10 =>
  CONDG v10
  (FADDR 1 v0 h1 fun v11 =>
  LOAD false 1 v11 h1 fun v12 =>
  IADDR 1 T_int v12 (.d (.num .i64 0)) h1 fun v13 =>
  LOAD false 1 v13 h1 fun v14 =>
  BIN 0 .eql v14 a6 fun v15 =>
  POST v15 h1 pre r post)
  (POST (.d (.bool false)) h1 pre r post))
def vc_ref09_changes_k1 (P : Ctx) (pre : List ABlk) (r : AV) (post : List PB) (v0 : AV) (h1 : Heap) (a9 : AV) : Prop :=
  FADDR 0 v0 h1 fun v2 =>
  LOAD false 1 v2 h1 fun v3 =>
  BIN 0 .eql v3 (.d (.num .i64 3)) fun v4 =>
  CONDG v4
  (FADDR 1 v0 h1 fun v5 =>
  LOAD false 1 v5 h1 fun v6 =>
  IADDR 1 T_int v6 (.d (.num .i64 0)) h1 fun v7 =>
  LOAD false 1 v7 h1 fun v8 =>
  BIN 0 .eql v8 a9 fun v10 =>
  POST v10 h1 pre r post)
  (POST (.d (.bool false)) h1 pre r post)
def vc_ref09_changes (P : Ctx) (pre : List ABlk) (a0 a1 : AV) (r : AV) (post : List PB) : Prop :=
  let h0 : Heap := numbered 0 pre
  BOX T_api_ProofEntry a0 24 h0 fun v2 h1 =>
  FADDR 0 v2 h1 fun v5 =>
  LOAD false 1 v5 h1 fun v6 =>
  BIN 0 .eql v6 (.d (.num .i64 2)) fun v7 =>
  CONDG v7
  (vc_ref09_changes_k0 P pre r post v2 h1 a1)
  (vc_ref09_changes_k1 P pre r post v2 h1 a1)
theorem vc_ref09_changes_eq (g : GG) (pre : List ABlk) (a0 a1 : AV) (r : AV) (post : List PB) : vcFn2 (Tz g) false ann_ref09_changes Tryz.f107 pre [a0, a1] (.ret r) post = vc_ref09_changes (Tz g) pre a0 a1 r post := by kernel_rfl
theorem hf_ref09_changes : Tryz.prog.funcs[f_ref09_changes]? = some Tryz.f107 := by kernel_rfl
theorem ok_ref09_changes : fnVcOK Tryz.prog Tryz.f107 = true := by kernel_rfl
theorem nt_ref09_changes : Nat.ble 2 Tryz.f107.ntmps = true := by kernel_rfl
theorem meetsH_ref09_changes {g : GG} {pre : List ABlk} {a0 a1 : AV} {r : AV} {post : List PB} (hk : Nat.ble pre.length 24 = true) (h : vc_ref09_changes (Tz g) pre a0 a1 r post) : MeetsH (Tz g) f_ref09_changes pre [a0, a1] (.ret r) post :=
  meetsH_of_vc (C := Tz g) ann_ref09_changes hf_ref09_changes ok_ref09_changes nt_ref09_changes hk (pn := false) (Eq.mpr ((vcFn2_eq _ _ _ _ _ _ _ _).trans (vc_ref09_changes_eq g pre a0 a1 r post)) h)
theorem meets_ref09_changes {g : GG} {a0 a1 : D} {r : Res} (h : vc_ref09_changes (Tz g) [] (.d a0) (.d a1) r.val (r.bl.map .upd)) : Meets (Tz g) f_ref09_changes [a0, a1] r := meetsH_ref09_changes rfl h
def ann_ref09_reads : Nat → List Nat := fun n => match n with  | _ => []
def vc_ref09_reads_k0 (P : Ctx) (pre : List ABlk) (r : AV) (post : List PB) (h0 : Heap) (v1 : AV) (v2 : AV) (v3 : AV) (v4 : AV) (v5 : AV) (v6 : AV) (v7 : AV) (v8 : AV) (h9 : Heap) (rd10 : List Nat) (v11 : AV) : Prop :=
  ORDX [] [0, 1, 3, 7, 15, 15, 47, 111, 239, 15, 527, 1551, 3599, 8191, 16383, 32767] [(0, wr h0 h0, (ids v1)), (1, wr h0 h0, (ids v2)), (5, wr h0 h0, (ids v1)), (6, wr h0 h0, (ids v3)), (7, wr h0 h0, (ids v4)), (8, wr h0 h0, (ids v5)), (9, wr h0 h0, (ids v1)), (10, wr h0 h0, (ids v6)), (11, wr h0 h0, (ids v7)), (12, wr h0 h0, (ids v8)), (13, wr h0 h9, rd10)] ∧
  POST v11 h9 pre r post
def vc_ref09_reads (P : Ctx) (pre : List ABlk) (a0 a1 : AV) (r : AV) (post : List PB) : Prop :=
  let h0 : Heap := numbered 0 pre
  BOX T_api_ProofEntry a0 24 h0 fun v2 h1 =>
  FADDR 0 v2 h1 fun v5 =>
  LOAD false 1 v5 h1 fun v6 =>
  BIN 0 .eql v6 (.d (.num .i64 1)) fun v7 =>
  CONDG v7
  (FADDR 1 v2 h1 fun v10 =>
  LOAD false 1 v10 h1 fun v11 =>
  IADDR 1 T_int v11 (.d (.num .i64 2)) h1 fun v12 =>
  LOAD false 1 v12 h1 fun v13 =>
  FADDR 1 v2 h1 fun v14 =>
  LOAD false 1 v14 h1 fun v15 =>
  IADDR 1 T_int v15 (.d (.num .i64 3)) h1 fun v16 =>
  LOAD false 1 v16 h1 fun v17 =>
  CALL P f_ref09_in [a1, v13, v17] 144 h1 (fun rd3 v18 h2 =>
  vc_ref09_reads_k0 P pre r post h1 v2 v5 v10 v11 v12 v14 v15 v16 h2 rd3 v18)
  (fun _ _ _ => False))
  (ORDX [] [0, 1, 3, 7, 15, 15, 47, 111, 239, 15, 527, 1551, 3599, 8191, 16383, 32767] [(0, wr h1 h1, (ids v2)), (1, wr h1 h1, (ids v5))] ∧
  POST (.d (.bool false)) h1 pre r post)
theorem vc_ref09_reads_eq (g : GG) (pre : List ABlk) (a0 a1 : AV) (r : AV) (post : List PB) : vcFn2 (Tz g) false ann_ref09_reads Tryz.f63 pre [a0, a1] (.ret r) post = vc_ref09_reads (Tz g) pre a0 a1 r post := by kernel_rfl
theorem hf_ref09_reads : Tryz.prog.funcs[f_ref09_reads]? = some Tryz.f63 := by kernel_rfl
theorem ok_ref09_reads : fnVcOK Tryz.prog Tryz.f63 = true := by kernel_rfl
theorem nt_ref09_reads : Nat.ble 2 Tryz.f63.ntmps = true := by kernel_rfl
theorem meetsH_ref09_reads {g : GG} {pre : List ABlk} {a0 a1 : AV} {r : AV} {post : List PB} (hk : Nat.ble pre.length 24 = true) (h : vc_ref09_reads (Tz g) pre a0 a1 r post) : MeetsH (Tz g) f_ref09_reads pre [a0, a1] (.ret r) post :=
  meetsH_of_vc (C := Tz g) ann_ref09_reads hf_ref09_reads ok_ref09_reads nt_ref09_reads hk (pn := false) (Eq.mpr ((vcFn2_eq _ _ _ _ _ _ _ _).trans (vc_ref09_reads_eq g pre a0 a1 r post)) h)
theorem meets_ref09_reads {g : GG} {a0 a1 : D} {r : Res} (h : vc_ref09_reads (Tz g) [] (.d a0) (.d a1) r.val (r.bl.map .upd)) : Meets (Tz g) f_ref09_reads [a0, a1] r := meetsH_ref09_reads rfl h
def ann_ref09_Number : Nat → List Nat := fun n => match n with  | _ => []
def vc_ref09_Number_k0 (P : Ctx) (pre : List ABlk) (r : AV) (post : List PB) (v0 : AV) (v2 : AV) (h3 : Heap) (a5 : AV) (a7 : AV) (v11 : AV) : Prop :=
  NOT v0 fun v1 =>
  COND v1
  (LOAD true 3 v2 h3 fun v4 =>
  BIN 0 .sub a5 (.d (.num .i64 1)) fun v6 =>
  CALL P f_ref09_Number [v4, a7, v6] 184 h3 (fun _ v9 h10 =>
  POST v9 h10 pre r post)
  (fun _ _ _ => False))
  (FADDR 0 v11 h3 fun v12 =>
  LOAD false 1 v12 h3 fun v13 =>
  BIN 0 .eql v13 (.d (.num .i64 2)) fun v14 =>
  COND v14
  (FADDR 1 v11 h3 fun v15 =>
  LOAD false 1 v15 h3 fun v16 =>
  IADDR 1 T_int v16 (.d (.num .i64 2)) h3 fun v17 =>
  LOAD false 1 v17 h3 fun v18 =>
  POST v18 h3 pre r post)
  (LOAD true 3 v2 h3 fun v19 =>
  BIN 0 .sub a5 (.d (.num .i64 1)) fun v20 =>
  CALL P f_ref09_Number [v19, a7, v20] 208 h3 (fun _ v22 h23 =>
  BIN 0 .quo v22 (.d (.num .i64 10)) fun v24 =>
  POST v24 h23 pre r post)
  (fun _ _ _ => False)))
def vc_ref09_Number (P : Ctx) (pre : List ABlk) (a0 a1 a2 : AV) (r : AV) (post : List PB) : Prop :=
  let h0 : Heap := numbered 0 pre
  BOX T_api_ProofPage a0 24 h0 fun v3 h1 =>
  BIN 0 .eql a2 (.d (.num .i64 0)) fun v9 =>
  COND v9
  (FADDR 1 v3 h1 fun v10 =>
  LOAD false 1 v10 h1 fun v11 =>
  IADDR 3 T_api_ProofLine v11 a1 h1 fun v13 =>
  FADDR 2 v13 h1 fun v14 =>
  LOAD false 1 v14 h1 fun v15 =>
  POST v15 h1 pre r post)
  (FADDR 2 v3 h1 fun v16 =>
  LOAD false 1 v16 h1 fun v17 =>
  BIN 0 .sub a2 (.d (.num .i64 1)) fun v19 =>
  IADDR 2 T_api_ProofEntry v17 v19 h1 fun v20 =>
  LOAD true 2 v20 h1 fun v21 =>
  ALLOC T_api_ProofEntry [.d (.num .i64 0), .zc] 104 h1 fun v7 h2 =>
  STORE 2 v7 v21 h2 fun h3 =>
  LOAD true 2 v7 h3 fun v22 =>
  CALL P f_ref09_changes [v22, a1] 136 h3 (fun _ v24 h4 =>
  vc_ref09_Number_k0 P pre r post v24 v3 h4 a2 a1 v7)
  (fun _ _ _ => False))
theorem vc_ref09_Number_eq (g : GG) (pre : List ABlk) (a0 a1 a2 : AV) (r : AV) (post : List PB) : vcFn2 (Tz g) false ann_ref09_Number Tryz.f69 pre [a0, a1, a2] (.ret r) post = vc_ref09_Number (Tz g) pre a0 a1 a2 r post := by kernel_rfl
theorem hf_ref09_Number : Tryz.prog.funcs[f_ref09_Number]? = some Tryz.f69 := by kernel_rfl
theorem ok_ref09_Number : fnVcOK Tryz.prog Tryz.f69 = true := by kernel_rfl
theorem nt_ref09_Number : Nat.ble 3 Tryz.f69.ntmps = true := by kernel_rfl
theorem meetsH_ref09_Number {g : GG} {pre : List ABlk} {a0 a1 a2 : AV} {r : AV} {post : List PB} (hk : Nat.ble pre.length 24 = true) (h : vc_ref09_Number (Tz g) pre a0 a1 a2 r post) : MeetsH (Tz g) f_ref09_Number pre [a0, a1, a2] (.ret r) post :=
  meetsH_of_vc (C := Tz g) ann_ref09_Number hf_ref09_Number ok_ref09_Number nt_ref09_Number hk (pn := false) (Eq.mpr ((vcFn2_eq _ _ _ _ _ _ _ _).trans (vc_ref09_Number_eq g pre a0 a1 a2 r post)) h)
theorem meets_ref09_Number {g : GG} {a0 a1 a2 : D} {r : Res} (h : vc_ref09_Number (Tz g) [] (.d a0) (.d a1) (.d a2) r.val (r.bl.map .upd)) : Meets (Tz g) f_ref09_Number [a0, a1, a2] r := meetsH_ref09_Number rfl h
def ann_ref09_Misses : Nat → List Nat := fun n => match n with  | _ => []
def vc_ref09_Misses_k0 (P : Ctx) (pre : List ABlk) (r : AV) (post : List PB) (v0 : AV) (h1 : Heap) (a4 : AV) (v8 : AV) (h10 : Heap) (v11 : AV) (v12 : AV) (v13 : AV) (h14 : Heap) (rd15 : List Nat) (rd16 : List Nat) : Prop :=
  FADDR 1 v0 h1 fun v2 =>
  LOAD false 1 v2 h1 fun v3 =>
  IADDR 3 T_api_ProofLine v3 a4 h1 fun v5 =>
  FADDR 1 v5 h1 fun v6 =>
  LOAD false 1 v6 h1 fun v7 =>
  BIN 0 .neq v8 v7 fun v9 =>
  ORDX [] [0, 1, 0, 7, 15, 0, 63, 127, 255, 255, 255, 2047, 255, 4351, 255, 28927, 61695, 127231, 262143, 524287, 1048575] [(0, wr h10 h10, (ids v0)), (1, wr h10 h10, (ids v11)), (3, wr h10 h10, (ids v12)), (4, wr h10 h10, (ids v13)), (6, wr h10 h14, rd15), (8, wr h14 h14, (ids v0)), (11, wr h14 h1, rd16), (12, wr h1 h1, (ids v0)), (13, wr h1 h1, (ids v2)), (15, wr h1 h1, (ids v3)), (16, wr h1 h1, (ids v5)), (17, wr h1 h1, (ids v6))] ∧
  POST v9 h1 pre r post
def vc_ref09_Misses_k1 (P : Ctx) (pre : List ABlk) (r : AV) (post : List PB) (v0 : AV) (v1 : AV) (h2 : Heap) (a4 : AV) (a5 : AV) (h9 : Heap) (v10 : AV) (v11 : AV) (v12 : AV) (rd13 : List Nat) : Prop :=
  CONDG v0
  (LOAD true 3 v1 h2 fun v3 =>
  CALL P f_ref09_Number [v3, a4, a5] 128 h2 (fun rd6 v7 h8 =>
  vc_ref09_Misses_k0 P pre r post v1 h8 a4 v7 h9 v10 v11 v12 h2 rd13 rd6)
  (fun _ _ _ => False))
  (ORDX [] [0, 1, 0, 7, 15, 0, 63, 127, 255, 255, 255, 2047, 255, 4351, 255, 28927, 61695, 127231, 262143, 524287, 1048575] [(0, wr h9 h9, (ids v1)), (1, wr h9 h9, (ids v10)), (3, wr h9 h9, (ids v11)), (4, wr h9 h9, (ids v12)), (6, wr h9 h2, rd13)] ∧
  POST (.d (.bool false)) h2 pre r post)
def vc_ref09_Misses (P : Ctx) (pre : List ABlk) (a0 a1 a2 : AV) (r : AV) (post : List PB) : Prop :=
  let h0 : Heap := numbered 0 pre
  BOX T_api_ProofPage a0 24 h0 fun v3 h1 =>
  FADDR 2 v3 h1 fun v7 =>
  LOAD false 1 v7 h1 fun v8 =>
  IADDR 2 T_api_ProofEntry v8 a1 h1 fun v10 =>
  LOAD true 2 v10 h1 fun v11 =>
  CALL P f_ref09_reads [v11, a2] 88 h1 (fun rd3 v13 h2 =>
  vc_ref09_Misses_k1 P pre r post v13 v3 h2 a2 a1 h1 v7 v8 v10 rd3)
  (fun _ _ _ => False)
theorem vc_ref09_Misses_eq (g : GG) (pre : List ABlk) (a0 a1 a2 : AV) (r : AV) (post : List PB) : vcFn2 (Tz g) false ann_ref09_Misses Tryz.f78 pre [a0, a1, a2] (.ret r) post = vc_ref09_Misses (Tz g) pre a0 a1 a2 r post := by kernel_rfl
theorem hf_ref09_Misses : Tryz.prog.funcs[f_ref09_Misses]? = some Tryz.f78 := by kernel_rfl
theorem ok_ref09_Misses : fnVcOK Tryz.prog Tryz.f78 = true := by kernel_rfl
theorem nt_ref09_Misses : Nat.ble 3 Tryz.f78.ntmps = true := by kernel_rfl
theorem meetsH_ref09_Misses {g : GG} {pre : List ABlk} {a0 a1 a2 : AV} {r : AV} {post : List PB} (hk : Nat.ble pre.length 24 = true) (h : vc_ref09_Misses (Tz g) pre a0 a1 a2 r post) : MeetsH (Tz g) f_ref09_Misses pre [a0, a1, a2] (.ret r) post :=
  meetsH_of_vc (C := Tz g) ann_ref09_Misses hf_ref09_Misses ok_ref09_Misses nt_ref09_Misses hk (pn := false) (Eq.mpr ((vcFn2_eq _ _ _ _ _ _ _ _).trans (vc_ref09_Misses_eq g pre a0 a1 a2 r post)) h)
theorem meets_ref09_Misses {g : GG} {a0 a1 a2 : D} {r : Res} (h : vc_ref09_Misses (Tz g) [] (.d a0) (.d a1) (.d a2) r.val (r.bl.map .upd)) : Meets (Tz g) f_ref09_Misses [a0, a1, a2] r := meetsH_ref09_Misses rfl h
def ann_ref09_Missed : Nat → List Nat := fun n => match n with | 3 => [1, 3, 4] | 6 => [1, 3, 4, 5] | _ => []
def vc_ref09_Missed_k0 (P : Ctx) (pre : List ABlk) (r : AV) (post : List PB) (v0 : AV) (vs1 : List AV) (h3 : Heap) (next9 : List AV → Heap → Prop) : Prop :=
  COND v0
  (BUILD [(0, 1), (1, 1)] [.d (.num .i64 0), .d (.num .i64 0)] [(0, (nth vs1 2)), (1, (nth vs1 3))] fun v2 =>
  MKS T_api_ProofMiss 2 [v2] 224 h3 fun v4 h5 =>
  APP T_api_ProofMiss 2 (nth vs1 1) v4 232 h5 fun v6 h7 =>
  BIN 0 .add (nth vs1 3) (.d (.num .i64 1)) fun v8 =>
  next9 [(nth vs1 0), v6, (nth vs1 2), v8] h7)
  (BIN 0 .add (nth vs1 3) (.d (.num .i64 1)) fun v8 =>
  next9 [(nth vs1 0), (nth vs1 1), (nth vs1 2), v8] h3)
def vc_ref09_Missed_k1 (P : Ctx) (pre : List ABlk) (r : AV) (post : List PB) (vs0 : List AV) (h1 : Heap) (next10 : List AV → Heap → Prop) (next12 : List AV → Heap → Prop) : Prop :=
  FADDR 1 (nth vs0 0) h1 fun v2 =>
  LOAD false 1 v2 h1 fun v3 =>
  LEN false v3 h1 fun v4 =>
  BIN 0 .lss (nth vs0 3) v4 fun v5 =>
  COND v5
  (LOAD true 3 (nth vs0 0) h1 fun v6 =>
  CALL P f_ref09_Misses [v6, (nth vs0 2), (nth vs0 3)] 184 h1 (fun _ v8 h9 =>
  vc_ref09_Missed_k0 P pre r post v8 vs0 h9 next10)
  (fun _ _ _ => False))
  (BIN 0 .add (nth vs0 2) (.d (.num .i64 1)) fun v11 =>
  next12 [(nth vs0 0), (nth vs0 1), v11] h1)
def vc_ref09_Missed_k2 (P : Ctx) (pre : List ABlk) (r : AV) (post : List PB) (vs0 : List AV) (h1 : Heap) (next9 : List AV → Heap → Prop) : Prop :=
  FADDR 2 (nth vs0 0) h1 fun v2 =>
  LOAD false 1 v2 h1 fun v3 =>
  LEN false v3 h1 fun v4 =>
  BIN 0 .lss (nth vs0 2) v4 fun v5 =>
  COND v5
  (LOOP [(nth vs0 0), (nth vs0 1), (nth vs0 2), (.d (.num .i64 0))] h1 112 fun vs6 h7 next8 =>
  vc_ref09_Missed_k1 P pre r post vs6 h7 next8 next9)
  (POST (nth vs0 1) h1 pre r post)
def vc_ref09_Missed (P : Ctx) (pre : List ABlk) (a0 : AV) (r : AV) (post : List PB) : Prop :=
  let h0 : Heap := numbered 0 pre
  BOX T_api_ProofPage a0 24 h0 fun v1 h1 =>
  LOOP [v1, .zc, (.d (.num .i64 0))] h1 56 fun vs2 h3 next2 =>
  vc_ref09_Missed_k2 P pre r post vs2 h3 next2
theorem vc_ref09_Missed_eq (g : GG) (pre : List ABlk) (a0 : AV) (r : AV) (post : List PB) : vcFn2 (Tz g) false ann_ref09_Missed Tryz.f44 pre [a0] (.ret r) post = vc_ref09_Missed (Tz g) pre a0 r post := by kernel_rfl
theorem hf_ref09_Missed : Tryz.prog.funcs[f_ref09_Missed]? = some Tryz.f44 := by kernel_rfl
theorem ok_ref09_Missed : fnVcOK Tryz.prog Tryz.f44 = true := by kernel_rfl
theorem nt_ref09_Missed : Nat.ble 1 Tryz.f44.ntmps = true := by kernel_rfl
theorem meetsH_ref09_Missed {g : GG} {pre : List ABlk} {a0 : AV} {r : AV} {post : List PB} (hk : Nat.ble pre.length 24 = true) (h : vc_ref09_Missed (Tz g) pre a0 r post) : MeetsH (Tz g) f_ref09_Missed pre [a0] (.ret r) post :=
  meetsH_of_vc (C := Tz g) ann_ref09_Missed hf_ref09_Missed ok_ref09_Missed nt_ref09_Missed hk (pn := false) (Eq.mpr ((vcFn2_eq _ _ _ _ _ _ _ _).trans (vc_ref09_Missed_eq g pre a0 r post)) h)
theorem meets_ref09_Missed {g : GG} {a0 : D} {r : Res} (h : vc_ref09_Missed (Tz g) [] (.d a0) r.val (r.bl.map .upd)) : Meets (Tz g) f_ref09_Missed [a0] r := meetsH_ref09_Missed rfl h
def ann_ref09_SameMisses : Nat → List Nat := fun n => match n with | 4 => [0, 1, 5] | _ => []
def vc_ref09_SameMisses_k0 (P : Ctx) (pre : List ABlk) (r : AV) (post : List PB) (vs0 : List AV) (h1 : Heap) (next10 : List AV → Heap → Prop) : Prop :=
  LEN false (nth vs0 0) h1 fun v2 =>
  BIN 0 .lss (nth vs0 2) v2 fun v3 =>
  COND v3
  (IADDR 2 T_api_ProofMiss (nth vs0 0) (nth vs0 2) h1 fun v4 =>
  LOAD true 2 v4 h1 fun v5 =>
  IADDR 2 T_api_ProofMiss (nth vs0 1) (nth vs0 2) h1 fun v6 =>
  LOAD true 2 v6 h1 fun v7 =>
  BIN 1002 .neq v5 v7 fun v8 =>
  ORDX [] [0, 0, 3, 7, 0, 0, 48, 112, 255] [(2, wr h1 h1, (ids (nth vs0 0))), (3, wr h1 h1, (ids v4)), (6, wr h1 h1, (ids (nth vs0 1))), (7, wr h1 h1, (ids v6))] ∧
  COND v8
  (POST (.d (.bool false)) h1 pre r post)
  (BIN 0 .add (nth vs0 2) (.d (.num .i64 1)) fun v9 =>
  next10 [(nth vs0 0), (nth vs0 1), v9] h1))
  (POST (.d (.bool true)) h1 pre r post)
def vc_ref09_SameMisses (P : Ctx) (pre : List ABlk) (a0 a1 : AV) (r : AV) (post : List PB) : Prop :=
  let h0 : Heap := numbered 0 pre
  LEN false a0 h0 fun v7 =>
  LEN false a1 h0 fun v9 =>
  BIN 0 .neq v7 v9 fun v10 =>
  COND v10
  (POST (.d (.bool false)) h0 pre r post)
  (LOOP [a0, a1, (.d (.num .i64 0))] h0 80 fun vs1 h2 next1 =>
  vc_ref09_SameMisses_k0 P pre r post vs1 h2 next1)
theorem vc_ref09_SameMisses_eq (g : GG) (pre : List ABlk) (a0 a1 : AV) (r : AV) (post : List PB) : vcFn2 (Tz g) false ann_ref09_SameMisses Tryz.f43 pre [a0, a1] (.ret r) post = vc_ref09_SameMisses (Tz g) pre a0 a1 r post := by kernel_rfl
theorem hf_ref09_SameMisses : Tryz.prog.funcs[f_ref09_SameMisses]? = some Tryz.f43 := by kernel_rfl
theorem ok_ref09_SameMisses : fnVcOK Tryz.prog Tryz.f43 = true := by kernel_rfl
theorem nt_ref09_SameMisses : Nat.ble 2 Tryz.f43.ntmps = true := by kernel_rfl
theorem meetsH_ref09_SameMisses {g : GG} {pre : List ABlk} {a0 a1 : AV} {r : AV} {post : List PB} (hk : Nat.ble pre.length 24 = true) (h : vc_ref09_SameMisses (Tz g) pre a0 a1 r post) : MeetsH (Tz g) f_ref09_SameMisses pre [a0, a1] (.ret r) post :=
  meetsH_of_vc (C := Tz g) ann_ref09_SameMisses hf_ref09_SameMisses ok_ref09_SameMisses nt_ref09_SameMisses hk (pn := false) (Eq.mpr ((vcFn2_eq _ _ _ _ _ _ _ _).trans (vc_ref09_SameMisses_eq g pre a0 a1 r post)) h)
theorem meets_ref09_SameMisses {g : GG} {a0 a1 : D} {r : Res} (h : vc_ref09_SameMisses (Tz g) [] (.d a0) (.d a1) r.val (r.bl.map .upd)) : Meets (Tz g) f_ref09_SameMisses [a0, a1] r := meetsH_ref09_SameMisses rfl h
end Go.Vc
