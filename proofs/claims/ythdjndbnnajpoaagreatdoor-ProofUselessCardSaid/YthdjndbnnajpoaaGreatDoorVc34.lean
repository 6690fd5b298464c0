/- A part of the proof: general laws of a reading of the model by abstract data, or contracts of the functions that the law calls. -/
import Derived.Test.YthdjndbnnajpoaaGreatDoorVc23
import Derived.Test.YthdjndbnnajpoaaGreatDoorVc11
set_option maxRecDepth 100000
namespace Go.Vc
open Go Go.Proofs Go.RowKit
def ann_proof_Useless : Nat → List Nat := fun n => match n with | 6 => [4, 5, 15, 16, 17] | 10 => [4, 5, 6, 7, 8, 15, 16, 17] | _ => []
def vc_proof_Useless_k0 (P : Ctx) (pre : List ABlk) (r : AV) (post : List PB) (vs0 : List AV) (h1 : Heap) (next14 : List AV → Heap → Prop) (next16 : List AV → Heap → Prop) : Prop :=
  FADDR 1 (nth vs0 3) h1 fun v2 =>
  LOAD false 1 v2 h1 fun v3 =>
  IADDR 1 T_int v3 (.d (.num .i64 3)) h1 fun v4 =>
  LOAD false 1 v4 h1 fun v5 =>
  BIN 0 .leq (nth vs0 4) v5 fun v6 =>
  COND v6
  (FADDR 0 (nth vs0 0) h1 fun v7 =>
  FADDR 6 v7 h1 fun v8 =>
  LOAD false 1 v8 h1 fun v9 =>
  IADDR 1 T_int v9 (nth vs0 4) h1 fun v10 =>
  LOAD false 1 v10 h1 fun v11 =>
  BIN 0 .lss v11 (nth vs0 2) fun v12 =>
  COND v12
  (BIN 0 .add (nth vs0 7) (.d (.num .i64 1)) fun v13 =>
  next14 [(nth vs0 0), (nth vs0 1), (nth vs0 5), (nth vs0 6), v13] h1)
  (BIN 0 .add (nth vs0 4) (.d (.num .i64 1)) fun v15 =>
  next16 [(nth vs0 0), (nth vs0 1), (nth vs0 2), (nth vs0 3), v15, (nth vs0 5), (nth vs0 6), (nth vs0 7)] h1))
  (MKS T_int 1 [(nth vs0 2)] 336 h1 fun v17 h18 =>
  APP T_int 1 (nth vs0 1) v17 344 h18 fun v19 h20 =>
  BIN 0 .add (nth vs0 7) (.d (.num .i64 1)) fun v13 =>
  next14 [(nth vs0 0), v19, (nth vs0 5), (nth vs0 6), v13] h20)
def vc_proof_Useless_k1 (P : Ctx) (pre : List ABlk) (r : AV) (post : List PB) (vs0 : List AV) (h2 : Heap) (next12 : List AV → Heap → Prop) : Prop :=
  BIN 0 .lss (nth vs0 4) (nth vs0 3) fun v1 =>
  COND v1
  (IADDR 2 T_api_ProofEntry (nth vs0 2) (nth vs0 4) h2 fun v3 =>
  LOAD true 2 v3 h2 fun v4 =>
  ALLOC T_api_ProofEntry [.d (.num .i64 0), .zc] 176 h2 fun v5 h6 =>
  STORE 2 v5 v4 h6 fun h7 =>
  FADDR 0 v5 h7 fun v8 =>
  LOAD false 1 v8 h7 fun v9 =>
  BIN 0 .neq v9 (.d (.num .i64 1)) fun v10 =>
  COND v10
  (BIN 0 .add (nth vs0 4) (.d (.num .i64 1)) fun v11 =>
  next12 [(nth vs0 0), (nth vs0 1), (nth vs0 2), (nth vs0 3), v11] h7)
  (FADDR 1 v5 h7 fun v13 =>
  LOAD false 1 v13 h7 fun v14 =>
  IADDR 1 T_int v14 (.d (.num .i64 2)) h7 fun v15 =>
  LOAD false 1 v15 h7 fun v16 =>
  LOOP [(nth vs0 0), (nth vs0 1), (nth vs0 4), v5, v16, (nth vs0 2), (nth vs0 3), (nth vs0 4)] h7 264 fun vs17 h18 next19 =>
  vc_proof_Useless_k0 P pre r post vs17 h18 next12 next19))
  (POST (.tup [(nth vs0 1), (.d (.num .i64 0))]) h2 pre r post)
def vc_proof_Useless_k2 (P : Ctx) (pre : List ABlk) (r : AV) (post : List PB) (v0 : AV) (h2 : Heap) (v3 : AV) : Prop :=
  NOT v0 fun v1 =>
  COND v1
  (POST (.tup [.zc, (.d (.num .i64 2))]) h2 pre r post)
  (LOAD true 3 v3 h2 fun v4 =>
  CALL P f_proof_pageOf [v4] 80 h2 (fun _ v6 h7 =>
  FADDR 2 v3 h7 fun v8 =>
  LOAD false 1 v8 h7 fun v9 =>
  LEN false v9 h7 fun v10 =>
  LOOP [v6, .zc, v9, v10, (.d (.num .i64 0))] h7 136 fun vs11 h12 next13 =>
  vc_proof_Useless_k1 P pre r post vs11 h12 next13)
  (fun _ _ _ => False))
def vc_proof_Useless (P : Ctx) (pre : List ABlk) (a0 : AV) (r : AV) (post : List PB) : Prop :=
  let h0 : Heap := numbered 0 pre
  BOX T_api_ProofPage a0 24 h0 fun v1 h1 =>
  LOAD true 3 v1 h1 fun v9 =>
  CALL P f_proof_isPage [v9] 56 h1 (fun _ v10 h2 =>
  vc_proof_Useless_k2 P pre r post v10 h2 v1)
  (fun _ _ _ => False)
theorem vc_proof_Useless_eq (g : GG) (pre : List ABlk) (a0 : AV) (r : AV) (post : List PB) : vcFn2 (Tz g) false ann_proof_Useless Tryz.f46 pre [a0] (.ret r) post = vc_proof_Useless (Tz g) pre a0 r post := by kernel_rfl
theorem hf_proof_Useless : Tryz.prog.funcs[f_proof_Useless]? = some Tryz.f46 := by kernel_rfl
theorem ok_proof_Useless : fnVcOK Tryz.prog Tryz.f46 = true := by kernel_rfl
theorem nt_proof_Useless : Nat.ble 1 Tryz.f46.ntmps = true := by kernel_rfl
theorem meetsH_proof_Useless {g : GG} {pre : List ABlk} {a0 : AV} {r : AV} {post : List PB} (hk : Nat.ble pre.length 24 = true) (h : vc_proof_Useless (Tz g) pre a0 r post) : MeetsH (Tz g) f_proof_Useless pre [a0] (.ret r) post :=
  meetsH_of_vc (C := Tz g) ann_proof_Useless hf_proof_Useless ok_proof_Useless nt_proof_Useless hk (pn := false) (Eq.mpr ((vcFn2_eq _ _ _ _ _ _ _ _).trans (vc_proof_Useless_eq g pre a0 r post)) h)
theorem meets_proof_Useless {g : GG} {a0 : D} {r : Res} (h : vc_proof_Useless (Tz g) [] (.d a0) r.val (r.bl.map .upd)) : Meets (Tz g) f_proof_Useless [a0] r := meetsH_proof_Useless rfl h
def ann_ref09_changes : Nat → List Nat := fun n => match n with  | _ => []
def vc_ref09_changes_k0 (P : Ctx) (pre : List ABlk) (r : AV) (post : List PB) (v0 : AV) (h1 : Heap) (a6 : AV) : Prop :=
  FADDR 1 v0 h1 fun v2 =>
  LOAD false 1 v2 h1 fun v3 =>
  IADDR 1 T_int v3 (.d (.num .i64 1)) h1 fun v4 =>
  LOAD false 1 v4 h1 fun v5 =>
  BIN 0 .eql v5 a6 fun v7 =>
  CONDG v7
  (POST (.d (.bool true)) h1 pre r post)
  (FADDR 0 v0 h1 fun v8 =>
  LOAD false 1 v8 h1 fun v9 =>
  BIN 0 .eql v9 (.d (.num .i64 3)) fun v10 =>
  CONDG v10
  (FADDR 1 v0 h1 fun v11 =>
  LOAD false 1 v11 h1 fun v12 =>
  IADDR 1 T_int v12 (.d (.num .i64 0)) h1 fun v13 =>
  LOAD false 1 v13 h1 fun v14 =>
  BIN 0 .eql v14 a6 fun v15 =>
  POST v15 h1 pre r post)
  (POST (.d (.bool false)) h1 pre r post))
def vc_ref09_changes_k1 (P : Ctx) (pre : List ABlk) (r : AV) (post : List PB) (v0 : AV) (h1 : Heap) (a9 : AV) : Prop :=
  FADDR 0 v0 h1 fun v2 =>
  LOAD false 1 v2 h1 fun v3 =>
  BIN 0 .eql v3 (.d (.num .i64 3)) fun v4 =>
  CONDG v4
  (FADDR 1 v0 h1 fun v5 =>
  LOAD false 1 v5 h1 fun v6 =>
  IADDR 1 T_int v6 (.d (.num .i64 0)) h1 fun v7 =>
  LOAD false 1 v7 h1 fun v8 =>
  BIN 0 .eql v8 a9 fun v10 =>
  POST v10 h1 pre r post)
  (POST (.d (.bool false)) h1 pre r post)
def vc_ref09_changes (P : Ctx) (pre : List ABlk) (a0 a1 : AV) (r : AV) (post : List PB) : Prop :=
  let h0 : Heap := numbered 0 pre
  BOX T_api_ProofEntry a0 24 h0 fun v2 h1 =>
  FADDR 0 v2 h1 fun v5 =>
  LOAD false 1 v5 h1 fun v6 =>
  BIN 0 .eql v6 (.d (.num .i64 2)) fun v7 =>
  CONDG v7
  (vc_ref09_changes_k0 P pre r post v2 h1 a1)
  (vc_ref09_changes_k1 P pre r post v2 h1 a1)
theorem vc_ref09_changes_eq (g : GG) (pre : List ABlk) (a0 a1 : AV) (r : AV) (post : List PB) : vcFn2 (Tz g) false ann_ref09_changes Tryz.f107 pre [a0, a1] (.ret r) post = vc_ref09_changes (Tz g) pre a0 a1 r post := by kernel_rfl
theorem hf_ref09_changes : Tryz.prog.funcs[f_ref09_changes]? = some Tryz.f107 := by kernel_rfl
theorem ok_ref09_changes : fnVcOK Tryz.prog Tryz.f107 = true := by kernel_rfl
theorem nt_ref09_changes : Nat.ble 2 Tryz.f107.ntmps = true := by kernel_rfl
theorem meetsH_ref09_changes {g : GG} {pre : List ABlk} {a0 a1 : AV} {r : AV} {post : List PB} (hk : Nat.ble pre.length 24 = true) (h : vc_ref09_changes (Tz g) pre a0 a1 r post) : MeetsH (Tz g) f_ref09_changes pre [a0, a1] (.ret r) post :=
  meetsH_of_vc (C := Tz g) ann_ref09_changes hf_ref09_changes ok_ref09_changes nt_ref09_changes hk (pn := false) (Eq.mpr ((vcFn2_eq _ _ _ _ _ _ _ _).trans (vc_ref09_changes_eq g pre a0 a1 r post)) h)
theorem meets_ref09_changes {g : GG} {a0 a1 : D} {r : Res} (h : vc_ref09_changes (Tz g) [] (.d a0) (.d a1) r.val (r.bl.map .upd)) : Meets (Tz g) f_ref09_changes [a0, a1] r := meetsH_ref09_changes rfl h
def ann_ref09_reads : Nat → List Nat := fun n => match n with  | _ => []
def vc_ref09_reads_k0 (P : Ctx) (pre : List ABlk) (r : AV) (post : List PB) (h0 : Heap) (v1 : AV) (v2 : AV) (v3 : AV) (v4 : AV) (v5 : AV) (v6 : AV) (v7 : AV) (v8 : AV) (h9 : Heap) (rd10 : List Nat) (v11 : AV) : Prop :=
  ORDX [] [0, 1, 3, 7, 15, 15, 47, 111, 239, 15, 527, 1551, 3599, 8191, 16383, 32767] [(0, wr h0 h0, (ids v1)), (1, wr h0 h0, (ids v2)), (5, wr h0 h0, (ids v1)), (6, wr h0 h0, (ids v3)), (7, wr h0 h0, (ids v4)), (8, wr h0 h0, (ids v5)), (9, wr h0 h0, (ids v1)), (10, wr h0 h0, (ids v6)), (11, wr h0 h0, (ids v7)), (12, wr h0 h0, (ids v8)), (13, wr h0 h9, rd10)] ∧
  POST v11 h9 pre r post
def vc_ref09_reads (P : Ctx) (pre : List ABlk) (a0 a1 : AV) (r : AV) (post : List PB) : Prop :=
  let h0 : Heap := numbered 0 pre
  BOX T_api_ProofEntry a0 24 h0 fun v2 h1 =>
  FADDR 0 v2 h1 fun v5 =>
  LOAD false 1 v5 h1 fun v6 =>
  BIN 0 .eql v6 (.d (.num .i64 1)) fun v7 =>
  CONDG v7
  (FADDR 1 v2 h1 fun v10 =>
  LOAD false 1 v10 h1 fun v11 =>
  IADDR 1 T_int v11 (.d (.num .i64 2)) h1 fun v12 =>
  LOAD false 1 v12 h1 fun v13 =>
  FADDR 1 v2 h1 fun v14 =>
  LOAD false 1 v14 h1 fun v15 =>
  IADDR 1 T_int v15 (.d (.num .i64 3)) h1 fun v16 =>
  LOAD false 1 v16 h1 fun v17 =>
  CALL P f_ref09_in [a1, v13, v17] 144 h1 (fun rd3 v18 h2 =>
  vc_ref09_reads_k0 P pre r post h1 v2 v5 v10 v11 v12 v14 v15 v16 h2 rd3 v18)
  (fun _ _ _ => False))
  (ORDX [] [0, 1, 3, 7, 15, 15, 47, 111, 239, 15, 527, 1551, 3599, 8191, 16383, 32767] [(0, wr h1 h1, (ids v2)), (1, wr h1 h1, (ids v5))] ∧
  POST (.d (.bool false)) h1 pre r post)
theorem vc_ref09_reads_eq (g : GG) (pre : List ABlk) (a0 a1 : AV) (r : AV) (post : List PB) : vcFn2 (Tz g) false ann_ref09_reads Tryz.f63 pre [a0, a1] (.ret r) post = vc_ref09_reads (Tz g) pre a0 a1 r post := by kernel_rfl
theorem hf_ref09_reads : Tryz.prog.funcs[f_ref09_reads]? = some Tryz.f63 := by kernel_rfl
theorem ok_ref09_reads : fnVcOK Tryz.prog Tryz.f63 = true := by kernel_rfl
theorem nt_ref09_reads : Nat.ble 2 Tryz.f63.ntmps = true := by kernel_rfl
theorem meetsH_ref09_reads {g : GG} {pre : List ABlk} {a0 a1 : AV} {r : AV} {post : List PB} (hk : Nat.ble pre.length 24 = true) (h : vc_ref09_reads (Tz g) pre a0 a1 r post) : MeetsH (Tz g) f_ref09_reads pre [a0, a1] (.ret r) post :=
  meetsH_of_vc (C := Tz g) ann_ref09_reads hf_ref09_reads ok_ref09_reads nt_ref09_reads hk (pn := false) (Eq.mpr ((vcFn2_eq _ _ _ _ _ _ _ _).trans (vc_ref09_reads_eq g pre a0 a1 r post)) h)
theorem meets_ref09_reads {g : GG} {a0 a1 : D} {r : Res} (h : vc_ref09_reads (Tz g) [] (.d a0) (.d a1) r.val (r.bl.map .upd)) : Meets (Tz g) f_ref09_reads [a0, a1] r := meetsH_ref09_reads rfl h
def ann_ref09_changed : Nat → List Nat := fun n => match n with | 2 => [1, 3, 7] | _ => []
def vc_ref09_changed_k0 (P : Ctx) (pre : List ABlk) (r : AV) (post : List PB) (vs0 : List AV) (h1 : Heap) (next14 : List AV → Heap → Prop) : Prop :=
  FADDR 2 (nth vs0 1) h1 fun v2 =>
  LOAD false 1 v2 h1 fun v3 =>
  LEN false v3 h1 fun v4 =>
  BIN 0 .lss (nth vs0 2) v4 fun v5 =>
  COND v5
  (FADDR 2 (nth vs0 1) h1 fun v6 =>
  LOAD false 1 v6 h1 fun v7 =>
  IADDR 2 T_api_ProofEntry v7 (nth vs0 2) h1 fun v8 =>
  LOAD true 2 v8 h1 fun v9 =>
  CALL P f_ref09_changes [v9, (nth vs0 0)] 152 h1 (fun _ v11 h12 =>
  COND v11
  (POST (.d (.bool true)) h12 pre r post)
  (BIN 0 .add (nth vs0 2) (.d (.num .i64 1)) fun v13 =>
  next14 [(nth vs0 0), (nth vs0 1), v13] h12))
  (fun _ _ _ => False))
  (POST (.d (.bool false)) h1 pre r post)
def vc_ref09_changed (P : Ctx) (pre : List ABlk) (a0 a1 a2 : AV) (r : AV) (post : List PB) : Prop :=
  let h0 : Heap := numbered 0 pre
  BOX T_api_ProofPage a0 24 h0 fun v3 h1 =>
  LOOP [a1, v3, a2] h1 56 fun vs2 h3 next2 =>
  vc_ref09_changed_k0 P pre r post vs2 h3 next2
theorem vc_ref09_changed_eq (g : GG) (pre : List ABlk) (a0 a1 a2 : AV) (r : AV) (post : List PB) : vcFn2 (Tz g) false ann_ref09_changed Tryz.f64 pre [a0, a1, a2] (.ret r) post = vc_ref09_changed (Tz g) pre a0 a1 a2 r post := by kernel_rfl
theorem hf_ref09_changed : Tryz.prog.funcs[f_ref09_changed]? = some Tryz.f64 := by kernel_rfl
theorem ok_ref09_changed : fnVcOK Tryz.prog Tryz.f64 = true := by kernel_rfl
theorem nt_ref09_changed : Nat.ble 3 Tryz.f64.ntmps = true := by kernel_rfl
theorem meetsH_ref09_changed {g : GG} {pre : List ABlk} {a0 a1 a2 : AV} {r : AV} {post : List PB} (hk : Nat.ble pre.length 24 = true) (h : vc_ref09_changed (Tz g) pre a0 a1 a2 r post) : MeetsH (Tz g) f_ref09_changed pre [a0, a1, a2] (.ret r) post :=
  meetsH_of_vc (C := Tz g) ann_ref09_changed hf_ref09_changed ok_ref09_changed nt_ref09_changed hk (pn := false) (Eq.mpr ((vcFn2_eq _ _ _ _ _ _ _ _).trans (vc_ref09_changed_eq g pre a0 a1 a2 r post)) h)
theorem meets_ref09_changed {g : GG} {a0 a1 a2 : D} {r : Res} (h : vc_ref09_changed (Tz g) [] (.d a0) (.d a1) (.d a2) r.val (r.bl.map .upd)) : Meets (Tz g) f_ref09_changed [a0, a1, a2] r := meetsH_ref09_changed rfl h
def ann_ref09_Useless : Nat → List Nat := fun n => match n with | 3 => [1, 3, 4] | 7 => [1, 3, 4, 5, 6] | _ => []
def vc_ref09_Useless_k0 (P : Ctx) (pre : List ABlk) (r : AV) (post : List PB) (v0 : AV) (vs1 : List AV) (h2 : Heap) (next9 : List AV → Heap → Prop) : Prop :=
  CONDG v0
  (LOAD true 3 (nth vs1 0) h2 fun v3 =>
  CALL P f_ref09_changed [v3, (nth vs1 4), (nth vs1 2)] 328 h2 (fun _ v5 h6 =>
  NOT v5 fun v7 =>
  BIN 0 .add (nth vs1 4) (.d (.num .i64 1)) fun v8 =>
  next9 [(nth vs1 0), (nth vs1 1), (nth vs1 2), v7, v8] h6)
  (fun _ _ _ => False))
  (BIN 0 .add (nth vs1 4) (.d (.num .i64 1)) fun v8 =>
  next9 [(nth vs1 0), (nth vs1 1), (nth vs1 2), (.d (.bool false)), v8] h2)
def vc_ref09_Useless_k1 (P : Ctx) (pre : List ABlk) (r : AV) (post : List PB) (vs0 : List AV) (next2 : List AV → Heap → Prop) (h3 : Heap) : Prop :=
  CONDG (nth vs0 3)
  (BIN 0 .add (nth vs0 4) (.d (.num .i64 1)) fun v1 =>
  next2 [(nth vs0 0), (nth vs0 1), (nth vs0 2), (.d (.bool true)), v1] h3)
  (FADDR 2 (nth vs0 0) h3 fun v4 =>
  LOAD false 1 v4 h3 fun v5 =>
  IADDR 2 T_api_ProofEntry v5 (nth vs0 2) h3 fun v6 =>
  LOAD true 2 v6 h3 fun v7 =>
  CALL P f_ref09_reads [v7, (nth vs0 4)] 288 h3 (fun _ v9 h10 =>
  vc_ref09_Useless_k0 P pre r post v9 vs0 h10 next2)
  (fun _ _ _ => False))
def vc_ref09_Useless_k2 (P : Ctx) (pre : List ABlk) (r : AV) (post : List PB) (vs0 : List AV) (h2 : Heap) (next8 : List AV → Heap → Prop) : Prop :=
  NOT (nth vs0 3) fun v1 =>
  COND v1
  (MKS T_int 1 [(nth vs0 2)] 256 h2 fun v3 h4 =>
  APP T_int 1 (nth vs0 1) v3 264 h4 fun v5 h6 =>
  BIN 0 .add (nth vs0 2) (.d (.num .i64 1)) fun v7 =>
  next8 [(nth vs0 0), v5, v7] h6)
  (BIN 0 .add (nth vs0 2) (.d (.num .i64 1)) fun v7 =>
  next8 [(nth vs0 0), (nth vs0 1), v7] h2)
def vc_ref09_Useless_k3 (P : Ctx) (pre : List ABlk) (r : AV) (post : List PB) (vs0 : List AV) (h1 : Heap) (next19 : List AV → Heap → Prop) : Prop :=
  FADDR 2 (nth vs0 0) h1 fun v2 =>
  LOAD false 1 v2 h1 fun v3 =>
  LEN false v3 h1 fun v4 =>
  BIN 0 .lss (nth vs0 2) v4 fun v5 =>
  COND v5
  (FADDR 2 (nth vs0 0) h1 fun v6 =>
  LOAD false 1 v6 h1 fun v7 =>
  IADDR 2 T_api_ProofEntry v7 (nth vs0 2) h1 fun v8 =>
  FADDR 0 v8 h1 fun v9 =>
  LOAD false 1 v9 h1 fun v10 =>
  BIN 0 .neq v10 (.d (.num .i64 1)) fun v11 =>
  LOOP [(nth vs0 0), (nth vs0 1), (nth vs0 2), v11, (.d (.num .i64 0))] h1 176 fun vs12 h13 next14 =>
  FADDR 1 (nth vs12 0) h13 fun v15 =>
  LOAD false 1 v15 h13 fun v16 =>
  LEN false v16 h13 fun v17 =>
  BIN 0 .lss (nth vs12 4) v17 fun v18 =>
  COND v18
  (vc_ref09_Useless_k1 P pre r post vs12 next14 h13)
  (vc_ref09_Useless_k2 P pre r post vs12 h13 next19))
  (POST (nth vs0 1) h1 pre r post)
def vc_ref09_Useless (P : Ctx) (pre : List ABlk) (a0 : AV) (r : AV) (post : List PB) : Prop :=
  let h0 : Heap := numbered 0 pre
  BOX T_api_ProofPage a0 24 h0 fun v1 h1 =>
  LOOP [v1, .zc, (.d (.num .i64 0))] h1 56 fun vs2 h3 next2 =>
  vc_ref09_Useless_k3 P pre r post vs2 h3 next2
theorem vc_ref09_Useless_eq (g : GG) (pre : List ABlk) (a0 : AV) (r : AV) (post : List PB) : vcFn2 (Tz g) false ann_ref09_Useless Tryz.f47 pre [a0] (.ret r) post = vc_ref09_Useless (Tz g) pre a0 r post := by kernel_rfl
theorem hf_ref09_Useless : Tryz.prog.funcs[f_ref09_Useless]? = some Tryz.f47 := by kernel_rfl
theorem ok_ref09_Useless : fnVcOK Tryz.prog Tryz.f47 = true := by kernel_rfl
theorem nt_ref09_Useless : Nat.ble 1 Tryz.f47.ntmps = true := by kernel_rfl
theorem meetsH_ref09_Useless {g : GG} {pre : List ABlk} {a0 : AV} {r : AV} {post : List PB} (hk : Nat.ble pre.length 24 = true) (h : vc_ref09_Useless (Tz g) pre a0 r post) : MeetsH (Tz g) f_ref09_Useless pre [a0] (.ret r) post :=
  meetsH_of_vc (C := Tz g) ann_ref09_Useless hf_ref09_Useless ok_ref09_Useless nt_ref09_Useless hk (pn := false) (Eq.mpr ((vcFn2_eq _ _ _ _ _ _ _ _).trans (vc_ref09_Useless_eq g pre a0 r post)) h)
theorem meets_ref09_Useless {g : GG} {a0 : D} {r : Res} (h : vc_ref09_Useless (Tz g) [] (.d a0) r.val (r.bl.map .upd)) : Meets (Tz g) f_ref09_Useless [a0] r := meetsH_ref09_Useless rfl h
end Go.Vc
