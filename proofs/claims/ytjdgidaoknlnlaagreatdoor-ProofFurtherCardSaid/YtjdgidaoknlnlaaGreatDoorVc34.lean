/- A part of the proof: general laws of a reading of the model by abstract data, or contracts of the functions that the law calls. -/
import Derived.Test.YtjdgidaoknlnlaaGreatDoorVc23
import Derived.Test.YtjdgidaoknlnlaaGreatDoorVc11
set_option maxRecDepth 100000
namespace Go.Vc
open Go Go.Proofs Go.RowKit
def ann_ref09_changes : Nat → List Nat := fun n => match n with  | _ => []
def vc_ref09_changes_k0 (P : Ctx) (pre : List ABlk) (r : AV) (post : List PB) (v0 : AV) (h1 : Heap) (a6 : AV) : Prop :=
  FADDR 1 v0 h1 fun v2 =>
  LOAD false 1 v2 h1 fun v3 =>
  IADDR 1 T_int v3 (.d (.num .i64 1)) h1 fun v4 =>
  LOAD false 1 v4 h1 fun v5 =>
  BIN 0 .eql v5 a6 fun v7 =>
  CONDG v7
  (POST (.d (.bool true)) h1 pre r post)
  (FADDR 0 v0 h1 fun v8 =>
  LOAD false 1 v8 h1 fun v9 =>
  BIN 0 .eql v9 (.d (.num .i64 3)) fun v10 =>
  CONDG v10
  (FADDR 1 v0 h1 fun v11 =>
  LOAD false 1 v11 h1 fun v12 =>
  IADDR 1 T_int v12 (.d (.num .i64 0)) h1 fun v13 =>
  LOAD false 1 v13 h1 fun v14 =>
  BIN 0 .eql v14 a6 fun v15 =>
  POST v15 h1 pre r post)
  (POST (.d (.bool false)) h1 pre r post))
def vc_ref09_changes_k1 (P : Ctx) (pre : List ABlk) (r : AV) (post : List PB) (v0 : AV) (h1 : Heap) (a9 : AV) : Prop :=
  FADDR 0 v0 h1 fun v2 =>
  LOAD false 1 v2 h1 fun v3 =>
  BIN 0 .eql v3 (.d (.num .i64 3)) fun v4 =>
  CONDG v4
  (FADDR 1 v0 h1 fun v5 =>
  LOAD false 1 v5 h1 fun v6 =>
  IADDR 1 T_int v6 (.d (.num .i64 0)) h1 fun v7 =>
  LOAD false 1 v7 h1 fun v8 =>
  BIN 0 .eql v8 a9 fun v10 =>
  POST v10 h1 pre r post)
  (POST (.d (.bool false)) h1 pre r post)
def vc_ref09_changes (P : Ctx) (pre : List ABlk) (a0 a1 : AV) (r : AV) (post : List PB) : Prop :=
  let h0 : Heap := numbered 0 pre
  BOX T_api_ProofEntry a0 24 h0 fun v2 h1 =>
  FADDR 0 v2 h1 fun v5 =>
  LOAD false 1 v5 h1 fun v6 =>
  BIN 0 .eql v6 (.d (.num .i64 2)) fun v7 =>
  CONDG v7
  (vc_ref09_changes_k0 P pre r post v2 h1 a1)
  (vc_ref09_changes_k1 P pre r post v2 h1 a1)
theorem vc_ref09_changes_eq (g : GG) (pre : List ABlk) (a0 a1 : AV) (r : AV) (post : List PB) : vcFn2 (Tz g) false ann_ref09_changes Tryz.f111 pre [a0, a1] (.ret r) post = vc_ref09_changes (Tz g) pre a0 a1 r post := by kernel_rfl
theorem hf_ref09_changes : Tryz.prog.funcs[f_ref09_changes]? = some Tryz.f111 := by kernel_rfl
theorem ok_ref09_changes : fnVcOK Tryz.prog Tryz.f111 = true := by kernel_rfl
theorem nt_ref09_changes : Nat.ble 2 Tryz.f111.ntmps = true := by kernel_rfl
theorem meetsH_ref09_changes {g : GG} {pre : List ABlk} {a0 a1 : AV} {r : AV} {post : List PB} (hk : Nat.ble pre.length 24 = true) (h : vc_ref09_changes (Tz g) pre a0 a1 r post) : MeetsH (Tz g) f_ref09_changes pre [a0, a1] (.ret r) post :=
  meetsH_of_vc (C := Tz g) ann_ref09_changes hf_ref09_changes ok_ref09_changes nt_ref09_changes hk (pn := false) (Eq.mpr ((vcFn2_eq _ _ _ _ _ _ _ _).trans (vc_ref09_changes_eq g pre a0 a1 r post)) h)
theorem meets_ref09_changes {g : GG} {a0 a1 : D} {r : Res} (h : vc_ref09_changes (Tz g) [] (.d a0) (.d a1) r.val (r.bl.map .upd)) : Meets (Tz g) f_ref09_changes [a0, a1] r := meetsH_ref09_changes rfl h
def ann_ref09_reads : Nat → List Nat := fun n => match n with  | _ => []
def vc_ref09_reads_k0 (P : Ctx) (pre : List ABlk) (r : AV) (post : List PB) (h0 : Heap) (v1 : AV) (v2 : AV) (v3 : AV) (v4 : AV) (v5 : AV) (v6 : AV) (v7 : AV) (v8 : AV) (h9 : Heap) (rd10 : List Nat) (v11 : AV) : Prop :=
  ORDX [] [0, 1, 3, 7, 15, 15, 47, 111, 239, 15, 527, 1551, 3599, 8191, 16383, 32767] [(0, wr h0 h0, (ids v1)), (1, wr h0 h0, (ids v2)), (5, wr h0 h0, (ids v1)), (6, wr h0 h0, (ids v3)), (7, wr h0 h0, (ids v4)), (8, wr h0 h0, (ids v5)), (9, wr h0 h0, (ids v1)), (10, wr h0 h0, (ids v6)), (11, wr h0 h0, (ids v7)), (12, wr h0 h0, (ids v8)), (13, wr h0 h9, rd10)] ∧
  POST v11 h9 pre r post
def vc_ref09_reads (P : Ctx) (pre : List ABlk) (a0 a1 : AV) (r : AV) (post : List PB) : Prop :=
  let h0 : Heap := numbered 0 pre
  BOX T_api_ProofEntry a0 24 h0 fun v2 h1 =>
  FADDR 0 v2 h1 fun v5 =>
  LOAD false 1 v5 h1 fun v6 =>
  BIN 0 .eql v6 (.d (.num .i64 1)) fun v7 =>
  CONDG v7
  (FADDR 1 v2 h1 fun v10 =>
  LOAD false 1 v10 h1 fun v11 =>
  IADDR 1 T_int v11 (.d (.num .i64 2)) h1 fun v12 =>
  LOAD false 1 v12 h1 fun v13 =>
  FADDR 1 v2 h1 fun v14 =>
  LOAD false 1 v14 h1 fun v15 =>
  IADDR 1 T_int v15 (.d (.num .i64 3)) h1 fun v16 =>
  LOAD false 1 v16 h1 fun v17 =>
  CALL P f_ref09_in [a1, v13, v17] 144 h1 (fun rd3 v18 h2 =>
  vc_ref09_reads_k0 P pre r post h1 v2 v5 v10 v11 v12 v14 v15 v16 h2 rd3 v18)
  (fun _ _ _ => False))
  (ORDX [] [0, 1, 3, 7, 15, 15, 47, 111, 239, 15, 527, 1551, 3599, 8191, 16383, 32767] [(0, wr h1 h1, (ids v2)), (1, wr h1 h1, (ids v5))] ∧
  POST (.d (.bool false)) h1 pre r post)
theorem vc_ref09_reads_eq (g : GG) (pre : List ABlk) (a0 a1 : AV) (r : AV) (post : List PB) : vcFn2 (Tz g) false ann_ref09_reads Tryz.f145 pre [a0, a1] (.ret r) post = vc_ref09_reads (Tz g) pre a0 a1 r post := by kernel_rfl
theorem hf_ref09_reads : Tryz.prog.funcs[f_ref09_reads]? = some Tryz.f145 := by kernel_rfl
theorem ok_ref09_reads : fnVcOK Tryz.prog Tryz.f145 = true := by kernel_rfl
theorem nt_ref09_reads : Nat.ble 2 Tryz.f145.ntmps = true := by kernel_rfl
theorem meetsH_ref09_reads {g : GG} {pre : List ABlk} {a0 a1 : AV} {r : AV} {post : List PB} (hk : Nat.ble pre.length 24 = true) (h : vc_ref09_reads (Tz g) pre a0 a1 r post) : MeetsH (Tz g) f_ref09_reads pre [a0, a1] (.ret r) post :=
  meetsH_of_vc (C := Tz g) ann_ref09_reads hf_ref09_reads ok_ref09_reads nt_ref09_reads hk (pn := false) (Eq.mpr ((vcFn2_eq _ _ _ _ _ _ _ _).trans (vc_ref09_reads_eq g pre a0 a1 r post)) h)
theorem meets_ref09_reads {g : GG} {a0 a1 : D} {r : Res} (h : vc_ref09_reads (Tz g) [] (.d a0) (.d a1) r.val (r.bl.map .upd)) : Meets (Tz g) f_ref09_reads [a0, a1] r := meetsH_ref09_reads rfl h
def ann_ref09_Setter : Nat → List Nat := fun n => match n with  | _ => []
def vc_ref09_Setter (P : Ctx) (pre : List ABlk) (a0 a1 a2 : AV) (r : AV) (post : List PB) : Prop :=
  let h0 : Heap := numbered 0 pre
  BOX T_api_ProofPage a0 24 h0 fun v3 h1 =>
  BIN 0 .eql a2 (.d (.num .i64 0)) fun v9 =>
  COND v9
  (FADDR 1 v3 h1 fun v10 =>
  LOAD false 1 v10 h1 fun v11 =>
  IADDR 3 T_api_ProofLine v11 a1 h1 fun v13 =>
  FADDR 0 v13 h1 fun v14 =>
  LOAD false 1 v14 h1 fun v15 =>
  POST v15 h1 pre r post)
  (FADDR 2 v3 h1 fun v16 =>
  LOAD false 1 v16 h1 fun v17 =>
  BIN 0 .sub a2 (.d (.num .i64 1)) fun v19 =>
  IADDR 2 T_api_ProofEntry v17 v19 h1 fun v20 =>
  LOAD true 2 v20 h1 fun v21 =>
  ALLOC T_api_ProofEntry [.d (.num .i64 0), .zc] 104 h1 fun v7 h2 =>
  STORE 2 v7 v21 h2 fun h3 =>
  FADDR 0 v7 h3 fun v22 =>
  LOAD false 1 v22 h3 fun v23 =>
  BIN 0 .eql v23 (.d (.num .i64 2)) fun v24 =>
  CONDG v24
  (FADDR 1 v7 h3 fun v26 =>
  LOAD false 1 v26 h3 fun v27 =>
  IADDR 1 T_int v27 (.d (.num .i64 1)) h3 fun v28 =>
  LOAD false 1 v28 h3 fun v29 =>
  BIN 0 .eql v29 a1 fun v31 =>
  COND v31
  (FADDR 1 v7 h3 fun v33 =>
  LOAD false 1 v33 h3 fun v34 =>
  IADDR 1 T_int v34 (.d (.num .i64 0)) h3 fun v35 =>
  LOAD false 1 v35 h3 fun v36 =>
  POST v36 h3 pre r post)
  (LOAD true 3 v3 h3 fun v37 =>
  BIN 0 .sub a2 (.d (.num .i64 1)) fun v40 =>
  CALL P f_ref09_Setter [v37, a1, v40] 240 h3 (fun _ v41 h4 =>
  POST v41 h4 pre r post)
  (fun _ _ _ => False)))
  (LOAD true 3 v3 h3 fun v37 =>
  BIN 0 .sub a2 (.d (.num .i64 1)) fun v40 =>
  CALL P f_ref09_Setter [v37, a1, v40] 240 h3 (fun _ v41 h6 =>
  POST v41 h6 pre r post)
  (fun _ _ _ => False)))
theorem vc_ref09_Setter_eq (g : GG) (pre : List ABlk) (a0 a1 a2 : AV) (r : AV) (post : List PB) : vcFn2 (Tz g) false ann_ref09_Setter Tryz.f147 pre [a0, a1, a2] (.ret r) post = vc_ref09_Setter (Tz g) pre a0 a1 a2 r post := by kernel_rfl
theorem hf_ref09_Setter : Tryz.prog.funcs[f_ref09_Setter]? = some Tryz.f147 := by kernel_rfl
theorem ok_ref09_Setter : fnVcOK Tryz.prog Tryz.f147 = true := by kernel_rfl
theorem nt_ref09_Setter : Nat.ble 3 Tryz.f147.ntmps = true := by kernel_rfl
theorem meetsH_ref09_Setter {g : GG} {pre : List ABlk} {a0 a1 a2 : AV} {r : AV} {post : List PB} (hk : Nat.ble pre.length 24 = true) (h : vc_ref09_Setter (Tz g) pre a0 a1 a2 r post) : MeetsH (Tz g) f_ref09_Setter pre [a0, a1, a2] (.ret r) post :=
  meetsH_of_vc (C := Tz g) ann_ref09_Setter hf_ref09_Setter ok_ref09_Setter nt_ref09_Setter hk (pn := false) (Eq.mpr ((vcFn2_eq _ _ _ _ _ _ _ _).trans (vc_ref09_Setter_eq g pre a0 a1 a2 r post)) h)
theorem meets_ref09_Setter {g : GG} {a0 a1 a2 : D} {r : Res} (h : vc_ref09_Setter (Tz g) [] (.d a0) (.d a1) (.d a2) r.val (r.bl.map .upd)) : Meets (Tz g) f_ref09_Setter [a0, a1, a2] r := meetsH_ref09_Setter rfl h
def ann_ref09_changed : Nat → List Nat := fun n => match n with | 2 => [1, 3, 7] | _ => []
def vc_ref09_changed_k0 (P : Ctx) (pre : List ABlk) (r : AV) (post : List PB) (vs0 : List AV) (h1 : Heap) (next14 : List AV → Heap → Prop) : Prop :=
  FADDR 2 (nth vs0 1) h1 fun v2 =>
  LOAD false 1 v2 h1 fun v3 =>
  LEN false v3 h1 fun v4 =>
  BIN 0 .lss (nth vs0 2) v4 fun v5 =>
  COND v5
  (FADDR 2 (nth vs0 1) h1 fun v6 =>
  LOAD false 1 v6 h1 fun v7 =>
  IADDR 2 T_api_ProofEntry v7 (nth vs0 2) h1 fun v8 =>
  LOAD true 2 v8 h1 fun v9 =>
  CALL P f_ref09_changes [v9, (nth vs0 0)] 152 h1 (fun _ v11 h12 =>
  COND v11
  (POST (.d (.bool true)) h12 pre r post)
  (BIN 0 .add (nth vs0 2) (.d (.num .i64 1)) fun v13 =>
  next14 [(nth vs0 0), (nth vs0 1), v13] h12))
  (fun _ _ _ => False))
  (POST (.d (.bool false)) h1 pre r post)
def vc_ref09_changed (P : Ctx) (pre : List ABlk) (a0 a1 a2 : AV) (r : AV) (post : List PB) : Prop :=
  let h0 : Heap := numbered 0 pre
  BOX T_api_ProofPage a0 24 h0 fun v3 h1 =>
  LOOP [a1, v3, a2] h1 56 fun vs2 h3 next2 =>
  vc_ref09_changed_k0 P pre r post vs2 h3 next2
theorem vc_ref09_changed_eq (g : GG) (pre : List ABlk) (a0 a1 a2 : AV) (r : AV) (post : List PB) : vcFn2 (Tz g) false ann_ref09_changed Tryz.f146 pre [a0, a1, a2] (.ret r) post = vc_ref09_changed (Tz g) pre a0 a1 a2 r post := by kernel_rfl
theorem hf_ref09_changed : Tryz.prog.funcs[f_ref09_changed]? = some Tryz.f146 := by kernel_rfl
theorem ok_ref09_changed : fnVcOK Tryz.prog Tryz.f146 = true := by kernel_rfl
theorem nt_ref09_changed : Nat.ble 3 Tryz.f146.ntmps = true := by kernel_rfl
theorem meetsH_ref09_changed {g : GG} {pre : List ABlk} {a0 a1 a2 : AV} {r : AV} {post : List PB} (hk : Nat.ble pre.length 24 = true) (h : vc_ref09_changed (Tz g) pre a0 a1 a2 r post) : MeetsH (Tz g) f_ref09_changed pre [a0, a1, a2] (.ret r) post :=
  meetsH_of_vc (C := Tz g) ann_ref09_changed hf_ref09_changed ok_ref09_changed nt_ref09_changed hk (pn := false) (Eq.mpr ((vcFn2_eq _ _ _ _ _ _ _ _).trans (vc_ref09_changed_eq g pre a0 a1 a2 r post)) h)
theorem meets_ref09_changed {g : GG} {a0 a1 a2 : D} {r : Res} (h : vc_ref09_changed (Tz g) [] (.d a0) (.d a1) (.d a2) r.val (r.bl.map .upd)) : Meets (Tz g) f_ref09_changed [a0, a1, a2] r := meetsH_ref09_changed rfl h
def ann_ref09_Readers : Nat → List Nat := fun n => match n with | 3 => [1, 2, 5, 6] | 7 => [1, 2, 5, 6, 7, 8] | _ => []
def vc_ref09_Readers_k0 (P : Ctx) (pre : List ABlk) (r : AV) (post : List PB) (vs0 : List AV) (h1 : Heap) (next8 : List AV → Heap → Prop) : Prop :=
  LOAD true 3 (nth vs0 1) h1 fun v2 =>
  CALL P f_ref09_changed [v2, (nth vs0 0), (nth vs0 5)] 416 h1 (fun _ v4 h5 =>
  NOT v4 fun v6 =>
  BIN 0 .add (nth vs0 5) (.d (.num .i64 1)) fun v7 =>
  next8 [(nth vs0 0), (nth vs0 1), (nth vs0 2), (nth vs0 3), v6, v7] h5)
  (fun _ _ _ => False)
def vc_ref09_Readers_k1 (P : Ctx) (pre : List ABlk) (r : AV) (post : List PB) (v0 : AV) (h1 : Heap) (vs6 : List AV) (next14 : List AV → Heap → Prop) : Prop :=
  FADDR 1 v0 h1 fun v2 =>
  LOAD false 1 v2 h1 fun v3 =>
  IADDR 1 T_int v3 (.d (.num .i64 1)) h1 fun v4 =>
  LOAD false 1 v4 h1 fun v5 =>
  BIN 0 .eql v5 (nth vs6 3) fun v7 =>
  CONDG v7
  (LOAD true 3 (nth vs6 1) h1 fun v8 =>
  CALL P f_ref09_changed [v8, (nth vs6 0), (nth vs6 5)] 416 h1 (fun _ v10 h11 =>
  NOT v10 fun v12 =>
  BIN 0 .add (nth vs6 5) (.d (.num .i64 1)) fun v13 =>
  next14 [(nth vs6 0), (nth vs6 1), (nth vs6 2), (nth vs6 3), v12, v13] h11)
  (fun _ _ _ => False))
  (BIN 0 .add (nth vs6 5) (.d (.num .i64 1)) fun v13 =>
  next14 [(nth vs6 0), (nth vs6 1), (nth vs6 2), (nth vs6 3), (.d (.bool false)), v13] h1)
def vc_ref09_Readers_k2 (P : Ctx) (pre : List ABlk) (r : AV) (post : List PB) (v0 : AV) (v1 : AV) (h2 : Heap) (vs7 : List AV) (next9 : List AV → Heap → Prop) : Prop :=
  CONDG v0
  (FADDR 1 v1 h2 fun v3 =>
  LOAD false 1 v3 h2 fun v4 =>
  IADDR 1 T_int v4 (.d (.num .i64 0)) h2 fun v5 =>
  LOAD false 1 v5 h2 fun v6 =>
  BIN 0 .eql v6 (nth vs7 3) fun v8 =>
  CONDG v8
  (vc_ref09_Readers_k0 P pre r post vs7 h2 next9)
  (vc_ref09_Readers_k1 P pre r post v1 h2 vs7 next9))
  (BIN 0 .add (nth vs7 5) (.d (.num .i64 1)) fun v10 =>
  next9 [(nth vs7 0), (nth vs7 1), (nth vs7 2), (nth vs7 3), (.d (.bool false)), v10] h2)
def vc_ref09_Readers_k3 (P : Ctx) (pre : List ABlk) (r : AV) (post : List PB) (vs0 : List AV) (v1 : AV) (h3 : Heap) (next9 : List AV → Heap → Prop) : Prop :=
  BIN 0 .neq (nth vs0 3) v1 fun v2 =>
  COND v2
  (MKS T_int 1 [(nth vs0 3)] 264 h3 fun v4 h5 =>
  APP T_int 1 (nth vs0 2) v4 272 h5 fun v6 h7 =>
  BIN 0 .add (nth vs0 3) (.d (.num .i64 1)) fun v8 =>
  next9 [(nth vs0 0), (nth vs0 1), v6, v8] h7)
  (BIN 0 .add (nth vs0 3) (.d (.num .i64 1)) fun v8 =>
  next9 [(nth vs0 0), (nth vs0 1), (nth vs0 2), v8] h3)
def vc_ref09_Readers_k4 (P : Ctx) (pre : List ABlk) (r : AV) (post : List PB) (vs0 : List AV) (h1 : Heap) (next10 : List AV → Heap → Prop) : Prop :=
  FADDR 2 (nth vs0 1) h1 fun v2 =>
  LOAD false 1 v2 h1 fun v3 =>
  IADDR 2 T_api_ProofEntry v3 (nth vs0 5) h1 fun v4 =>
  LOAD true 2 v4 h1 fun v5 =>
  ALLOC T_api_ProofEntry [.d (.num .i64 0), .zc] 200 h1 fun v6 h7 =>
  STORE 2 v6 v5 h7 fun h8 =>
  CONDG (nth vs0 4)
  (BIN 0 .add (nth vs0 5) (.d (.num .i64 1)) fun v9 =>
  next10 [(nth vs0 0), (nth vs0 1), (nth vs0 2), (nth vs0 3), (.d (.bool true)), v9] h8)
  (LOAD true 2 v6 h8 fun v11 =>
  CALL P f_ref09_reads [v11, (nth vs0 0)] 248 h8 (fun _ v13 h14 =>
  vc_ref09_Readers_k2 P pre r post v13 v6 h14 vs0 next10)
  (fun _ _ _ => False))
def vc_ref09_Readers_k5 (P : Ctx) (pre : List ABlk) (r : AV) (post : List PB) (vs0 : List AV) (h1 : Heap) (next9 : List AV → Heap → Prop) : Prop :=
  CONDG (nth vs0 4)
  (LOAD true 3 (nth vs0 1) h1 fun v2 =>
  FADDR 2 (nth vs0 1) h1 fun v3 =>
  LOAD false 1 v3 h1 fun v4 =>
  LEN false v4 h1 fun v5 =>
  CALL P f_ref09_Setter [v2, (nth vs0 0), v5] 224 h1 (fun _ v7 h8 =>
  vc_ref09_Readers_k3 P pre r post vs0 v7 h8 next9)
  (fun _ _ _ => False))
  (BIN 0 .add (nth vs0 3) (.d (.num .i64 1)) fun v10 =>
  next9 [(nth vs0 0), (nth vs0 1), (nth vs0 2), v10] h1)
def vc_ref09_Readers_k6 (P : Ctx) (pre : List ABlk) (r : AV) (post : List PB) (vs0 : List AV) (h1 : Heap) (next12 : List AV → Heap → Prop) : Prop :=
  FADDR 0 (nth vs0 1) h1 fun v2 =>
  LOAD false 1 v2 h1 fun v3 =>
  BIN 0 .lss (nth vs0 3) v3 fun v4 =>
  COND v4
  (LOOP [(nth vs0 0), (nth vs0 1), (nth vs0 2), (nth vs0 3), (.d (.bool false)), (.d (.num .i64 0))] h1 112 fun vs5 h6 next7 =>
  FADDR 2 (nth vs5 1) h6 fun v8 =>
  LOAD false 1 v8 h6 fun v9 =>
  LEN false v9 h6 fun v10 =>
  BIN 0 .lss (nth vs5 5) v10 fun v11 =>
  COND v11
  (vc_ref09_Readers_k4 P pre r post vs5 h6 next7)
  (vc_ref09_Readers_k5 P pre r post vs5 h6 next12))
  (POST (nth vs0 2) h1 pre r post)
def vc_ref09_Readers (P : Ctx) (pre : List ABlk) (a0 a1 : AV) (r : AV) (post : List PB) : Prop :=
  let h0 : Heap := numbered 0 pre
  BOX T_api_ProofPage a0 24 h0 fun v2 h1 =>
  LOOP [a1, v2, .zc, (.d (.num .i64 0))] h1 56 fun vs2 h3 next2 =>
  vc_ref09_Readers_k6 P pre r post vs2 h3 next2
theorem vc_ref09_Readers_eq (g : GG) (pre : List ABlk) (a0 a1 : AV) (r : AV) (post : List PB) : vcFn2 (Tz g) false ann_ref09_Readers Tryz.f126 pre [a0, a1] (.ret r) post = vc_ref09_Readers (Tz g) pre a0 a1 r post := by kernel_rfl
theorem hf_ref09_Readers : Tryz.prog.funcs[f_ref09_Readers]? = some Tryz.f126 := by kernel_rfl
theorem ok_ref09_Readers : fnVcOK Tryz.prog Tryz.f126 = true := by kernel_rfl
theorem nt_ref09_Readers : Nat.ble 2 Tryz.f126.ntmps = true := by kernel_rfl
theorem meetsH_ref09_Readers {g : GG} {pre : List ABlk} {a0 a1 : AV} {r : AV} {post : List PB} (hk : Nat.ble pre.length 24 = true) (h : vc_ref09_Readers (Tz g) pre a0 a1 r post) : MeetsH (Tz g) f_ref09_Readers pre [a0, a1] (.ret r) post :=
  meetsH_of_vc (C := Tz g) ann_ref09_Readers hf_ref09_Readers ok_ref09_Readers nt_ref09_Readers hk (pn := false) (Eq.mpr ((vcFn2_eq _ _ _ _ _ _ _ _).trans (vc_ref09_Readers_eq g pre a0 a1 r post)) h)
theorem meets_ref09_Readers {g : GG} {a0 a1 : D} {r : Res} (h : vc_ref09_Readers (Tz g) [] (.d a0) (.d a1) r.val (r.bl.map .upd)) : Meets (Tz g) f_ref09_Readers [a0, a1] r := meetsH_ref09_Readers rfl h
def ann_ref09_With : Nat → List Nat := fun n => match n with  | _ => []
def vc_ref09_With (P : Ctx) (pre : List ABlk) (a0 a1 : AV) (r : AV) (post : List PB) : Prop :=
  let h0 : Heap := numbered 0 pre
  BOX T_api_ProofPage a0 24 h0 fun v2 h1 =>
  BOX T_api_ProofEntry a1 32 h1 fun v3 h2 =>
  ALLOC T_api_ProofPage [.d (.num .i64 0), .zc, .zc] 40 h2 fun v4 h3 =>
  FADDR 2 v2 h3 fun v5 =>
  LOAD false 1 v5 h3 fun v6 =>
  APP T_api_ProofEntry 2 .zc v6 64 h3 fun v7 h4 =>
  LOAD true 2 v3 h4 fun v8 =>
  MKS T_api_ProofEntry 2 [v8] 80 h4 fun v9 h5 =>
  APP T_api_ProofEntry 2 v7 v9 88 h5 fun v10 h6 =>
  FADDR 2 v2 h6 fun v11 =>
  STORE 1 v11 v10 h6 fun h7 =>
  ORDX [] [0, 1, 3, 0, 8, 31, 63, 127] [(0, wr h3 h3, (ids v2)), (1, wr h3 h3, (ids v5)), (2, wr h3 h4, (ids.idsL [.zc, v6])), (3, wr h4 h4, (ids v3)), (4, wr h4 h5, (ids.idsL [v8])), (5, wr h5 h6, (ids.idsL [v7, v9])), (6, wr h6 h6, (ids v2)), (7, wr h6 h7, (ids v11))] ∧
  LOAD true 3 v2 h7 fun v12 =>
  STORE 3 v4 v12 h7 fun h8 =>
  LOAD true 3 v4 h8 fun r9 =>
  POST r9 h8 pre r post
theorem vc_ref09_With_eq (g : GG) (pre : List ABlk) (a0 a1 : AV) (r : AV) (post : List PB) : vcFn2 (Tz g) false ann_ref09_With Tryz.f29 pre [a0, a1] (.ret r) post = vc_ref09_With (Tz g) pre a0 a1 r post := by kernel_rfl
theorem hf_ref09_With : Tryz.prog.funcs[f_ref09_With]? = some Tryz.f29 := by kernel_rfl
theorem ok_ref09_With : fnVcOK Tryz.prog Tryz.f29 = true := by kernel_rfl
theorem nt_ref09_With : Nat.ble 2 Tryz.f29.ntmps = true := by kernel_rfl
theorem meetsH_ref09_With {g : GG} {pre : List ABlk} {a0 a1 : AV} {r : AV} {post : List PB} (hk : Nat.ble pre.length 24 = true) (h : vc_ref09_With (Tz g) pre a0 a1 r post) : MeetsH (Tz g) f_ref09_With pre [a0, a1] (.ret r) post :=
  meetsH_of_vc (C := Tz g) ann_ref09_With hf_ref09_With ok_ref09_With nt_ref09_With hk (pn := false) (Eq.mpr ((vcFn2_eq _ _ _ _ _ _ _ _).trans (vc_ref09_With_eq g pre a0 a1 r post)) h)
theorem meets_ref09_With {g : GG} {a0 a1 : D} {r : Res} (h : vc_ref09_With (Tz g) [] (.d a0) (.d a1) r.val (r.bl.map .upd)) : Meets (Tz g) f_ref09_With [a0, a1] r := meetsH_ref09_With rfl h
end Go.Vc
