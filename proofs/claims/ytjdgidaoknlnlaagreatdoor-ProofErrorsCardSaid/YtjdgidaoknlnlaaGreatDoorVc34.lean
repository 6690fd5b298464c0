/- A part of the proof: general laws of a reading of the model by abstract data, or contracts of the functions that the law calls. -/
import Derived.Test.YtjdgidaoknlnlaaGreatDoorVc23
import Derived.Test.YtjdgidaoknlnlaaGreatDoorVc11
set_option maxRecDepth 100000
namespace Go.Vc
open Go Go.Proofs Go.RowKit
def ann_proof_Differs : Nat → List Nat := fun n => match n with | 6 => [4, 5, 14, 15] | _ => []
def vc_proof_Differs_k0 (P : Ctx) (pre : List ABlk) (r : AV) (post : List PB) (v0 : AV) (vs1 : List AV) (h2 : Heap) (next8 : List AV → Heap → Prop) : Prop :=
  COND v0
  (MKS T_int 1 [(nth vs1 3)] 208 h2 fun v3 h4 =>
  APP T_int 1 (nth vs1 1) v3 216 h4 fun v5 h6 =>
  BIN 0 .add (nth vs1 3) (.d (.num .i64 1)) fun v7 =>
  next8 [(nth vs1 0), v5, (nth vs1 2), v7] h6)
  (BIN 0 .add (nth vs1 3) (.d (.num .i64 1)) fun v7 =>
  next8 [(nth vs1 0), (nth vs1 1), (nth vs1 2), v7] h2)
def vc_proof_Differs_k1 (P : Ctx) (pre : List ABlk) (r : AV) (post : List PB) (vs0 : List AV) (h2 : Heap) (next6 : List AV → Heap → Prop) : Prop :=
  BIN 0 .lss (nth vs0 3) (nth vs0 2) fun v1 =>
  COND v1
  (CALL P f_p_proof_page_differs [(nth vs0 0), (nth vs0 3)] 184 h2 (fun _ v4 h5 =>
  vc_proof_Differs_k0 P pre r post v4 vs0 h5 next6)
  (fun _ _ _ => False))
  (POST (.tup [(nth vs0 1), (.d (.num .i64 0))]) h2 pre r post)
def vc_proof_Differs_k2 (P : Ctx) (pre : List ABlk) (r : AV) (post : List PB) (v0 : AV) (h2 : Heap) (v3 : AV) : Prop :=
  NOT v0 fun v1 =>
  COND v1
  (POST (.tup [.zc, (.d (.num .i64 2))]) h2 pre r post)
  (LOAD true 3 v3 h2 fun v4 =>
  CALL P f_proof_pageOf [v4] 80 h2 (fun _ v6 h7 =>
  FADDR 1 v3 h7 fun v8 =>
  LOAD false 1 v8 h7 fun v9 =>
  LEN false v9 h7 fun v10 =>
  LOOP [v6, .zc, v10, (.d (.num .i64 0))] h7 136 fun vs11 h12 next13 =>
  vc_proof_Differs_k1 P pre r post vs11 h12 next13)
  (fun _ _ _ => False))
def vc_proof_Differs (P : Ctx) (pre : List ABlk) (a0 : AV) (r : AV) (post : List PB) : Prop :=
  let h0 : Heap := numbered 0 pre
  BOX T_api_ProofPage a0 24 h0 fun v1 h1 =>
  LOAD true 3 v1 h1 fun v7 =>
  CALL P f_proof_isPage [v7] 56 h1 (fun _ v8 h2 =>
  vc_proof_Differs_k2 P pre r post v8 h2 v1)
  (fun _ _ _ => False)
theorem vc_proof_Differs_eq (g : GG) (pre : List ABlk) (a0 : AV) (r : AV) (post : List PB) : vcFn2 (Tz g) false ann_proof_Differs Tryz.f16 pre [a0] (.ret r) post = vc_proof_Differs (Tz g) pre a0 r post := by kernel_rfl
theorem hf_proof_Differs : Tryz.prog.funcs[f_proof_Differs]? = some Tryz.f16 := by kernel_rfl
theorem ok_proof_Differs : fnVcOK Tryz.prog Tryz.f16 = true := by kernel_rfl
theorem nt_proof_Differs : Nat.ble 1 Tryz.f16.ntmps = true := by kernel_rfl
theorem meetsH_proof_Differs {g : GG} {pre : List ABlk} {a0 : AV} {r : AV} {post : List PB} (hk : Nat.ble pre.length 24 = true) (h : vc_proof_Differs (Tz g) pre a0 r post) : MeetsH (Tz g) f_proof_Differs pre [a0] (.ret r) post :=
  meetsH_of_vc (C := Tz g) ann_proof_Differs hf_proof_Differs ok_proof_Differs nt_proof_Differs hk (pn := false) (Eq.mpr ((vcFn2_eq _ _ _ _ _ _ _ _).trans (vc_proof_Differs_eq g pre a0 r post)) h)
theorem meets_proof_Differs {g : GG} {a0 : D} {r : Res} (h : vc_proof_Differs (Tz g) [] (.d a0) r.val (r.bl.map .upd)) : Meets (Tz g) f_proof_Differs [a0] r := meetsH_proof_Differs rfl h
def ann_ref09_changes : Nat → List Nat := fun n => match n with  | _ => []
def vc_ref09_changes_k0 (P : Ctx) (pre : List ABlk) (r : AV) (post : List PB) (v0 : AV) (h1 : Heap) (a6 : AV) : Prop :=
  FADDR 1 v0 h1 fun v2 =>
  LOAD false 1 v2 h1 fun v3 =>
  IADDR 1 T_int v3 (.d (.num .i64 1)) h1 fun v4 =>
  LOAD false 1 v4 h1 fun v5 =>
  BIN 0 .eql v5 a6 fun v7 =>
  CONDG v7
  (POST (.d (.bool true)) h1 pre r post)
  (FADDR 0 v0 h1 fun v8 =>
  LOAD false 1 v8 h1 fun v9 =>
  BIN 0 .eql v9 (.d (.num .i64 3)) fun v10 =>
  CONDG v10
  (FADDR 1 v0 h1 fun v11 =>
  LOAD false 1 v11 h1 fun v12 =>
  IADDR 1 T_int v12 (.d (.num .i64 0)) h1 fun v13 =>
  LOAD false 1 v13 h1 fun v14 =>
  BIN 0 .eql v14 a6 fun v15 =>
  POST v15 h1 pre r post)
  (POST (.d (.bool false)) h1 pre r post))
def vc_ref09_changes_k1 (P : Ctx) (pre : List ABlk) (r : AV) (post : List PB) (v0 : AV) (h1 : Heap) (a9 : AV) : Prop :=
  FADDR 0 v0 h1 fun v2 =>
  LOAD false 1 v2 h1 fun v3 =>
  BIN 0 .eql v3 (.d (.num .i64 3)) fun v4 =>
  CONDG v4
  (FADDR 1 v0 h1 fun v5 =>
  LOAD false 1 v5 h1 fun v6 =>
  IADDR 1 T_int v6 (.d (.num .i64 0)) h1 fun v7 =>
  LOAD false 1 v7 h1 fun v8 =>
  BIN 0 .eql v8 a9 fun v10 =>
  POST v10 h1 pre r post)
  (POST (.d (.bool false)) h1 pre r post)
def vc_ref09_changes (P : Ctx) (pre : List ABlk) (a0 a1 : AV) (r : AV) (post : List PB) : Prop :=
  let h0 : Heap := numbered 0 pre
  BOX T_api_ProofEntry a0 24 h0 fun v2 h1 =>
  FADDR 0 v2 h1 fun v5 =>
  LOAD false 1 v5 h1 fun v6 =>
  BIN 0 .eql v6 (.d (.num .i64 2)) fun v7 =>
  CONDG v7
  (vc_ref09_changes_k0 P pre r post v2 h1 a1)
  (vc_ref09_changes_k1 P pre r post v2 h1 a1)
theorem vc_ref09_changes_eq (g : GG) (pre : List ABlk) (a0 a1 : AV) (r : AV) (post : List PB) : vcFn2 (Tz g) false ann_ref09_changes Tryz.f111 pre [a0, a1] (.ret r) post = vc_ref09_changes (Tz g) pre a0 a1 r post := by kernel_rfl
theorem hf_ref09_changes : Tryz.prog.funcs[f_ref09_changes]? = some Tryz.f111 := by kernel_rfl
theorem ok_ref09_changes : fnVcOK Tryz.prog Tryz.f111 = true := by kernel_rfl
theorem nt_ref09_changes : Nat.ble 2 Tryz.f111.ntmps = true := by kernel_rfl
theorem meetsH_ref09_changes {g : GG} {pre : List ABlk} {a0 a1 : AV} {r : AV} {post : List PB} (hk : Nat.ble pre.length 24 = true) (h : vc_ref09_changes (Tz g) pre a0 a1 r post) : MeetsH (Tz g) f_ref09_changes pre [a0, a1] (.ret r) post :=
  meetsH_of_vc (C := Tz g) ann_ref09_changes hf_ref09_changes ok_ref09_changes nt_ref09_changes hk (pn := false) (Eq.mpr ((vcFn2_eq _ _ _ _ _ _ _ _).trans (vc_ref09_changes_eq g pre a0 a1 r post)) h)
theorem meets_ref09_changes {g : GG} {a0 a1 : D} {r : Res} (h : vc_ref09_changes (Tz g) [] (.d a0) (.d a1) r.val (r.bl.map .upd)) : Meets (Tz g) f_ref09_changes [a0, a1] r := meetsH_ref09_changes rfl h
def ann_ref09_Number : Nat → List Nat := fun n => match n with  | _ => []
def vc_ref09_Number_k0 (P : Ctx) (pre : List ABlk) (r : AV) (post : List PB) (v0 : AV) (v2 : AV) (h3 : Heap) (a5 : AV) (a7 : AV) (v11 : AV) : Prop :=
  NOT v0 fun v1 =>
  COND v1
  (LOAD true 3 v2 h3 fun v4 =>
  BIN 0 .sub a5 (.d (.num .i64 1)) fun v6 =>
  CALL P f_ref09_Number [v4, a7, v6] 184 h3 (fun _ v9 h10 =>
  POST v9 h10 pre r post)
  (fun _ _ _ => False))
  (FADDR 0 v11 h3 fun v12 =>
  LOAD false 1 v12 h3 fun v13 =>
  BIN 0 .eql v13 (.d (.num .i64 2)) fun v14 =>
  COND v14
  (FADDR 1 v11 h3 fun v15 =>
  LOAD false 1 v15 h3 fun v16 =>
  IADDR 1 T_int v16 (.d (.num .i64 2)) h3 fun v17 =>
  LOAD false 1 v17 h3 fun v18 =>
  POST v18 h3 pre r post)
  (LOAD true 3 v2 h3 fun v19 =>
  BIN 0 .sub a5 (.d (.num .i64 1)) fun v20 =>
  CALL P f_ref09_Number [v19, a7, v20] 208 h3 (fun _ v22 h23 =>
  BIN 0 .quo v22 (.d (.num .i64 10)) fun v24 =>
  POST v24 h23 pre r post)
  (fun _ _ _ => False)))
def vc_ref09_Number (P : Ctx) (pre : List ABlk) (a0 a1 a2 : AV) (r : AV) (post : List PB) : Prop :=
  let h0 : Heap := numbered 0 pre
  BOX T_api_ProofPage a0 24 h0 fun v3 h1 =>
  BIN 0 .eql a2 (.d (.num .i64 0)) fun v9 =>
  COND v9
  (FADDR 1 v3 h1 fun v10 =>
  LOAD false 1 v10 h1 fun v11 =>
  IADDR 3 T_api_ProofLine v11 a1 h1 fun v13 =>
  FADDR 2 v13 h1 fun v14 =>
  LOAD false 1 v14 h1 fun v15 =>
  POST v15 h1 pre r post)
  (FADDR 2 v3 h1 fun v16 =>
  LOAD false 1 v16 h1 fun v17 =>
  BIN 0 .sub a2 (.d (.num .i64 1)) fun v19 =>
  IADDR 2 T_api_ProofEntry v17 v19 h1 fun v20 =>
  LOAD true 2 v20 h1 fun v21 =>
  ALLOC T_api_ProofEntry [.d (.num .i64 0), .zc] 104 h1 fun v7 h2 =>
  STORE 2 v7 v21 h2 fun h3 =>
  LOAD true 2 v7 h3 fun v22 =>
  CALL P f_ref09_changes [v22, a1] 136 h3 (fun _ v24 h4 =>
  vc_ref09_Number_k0 P pre r post v24 v3 h4 a2 a1 v7)
  (fun _ _ _ => False))
theorem vc_ref09_Number_eq (g : GG) (pre : List ABlk) (a0 a1 a2 : AV) (r : AV) (post : List PB) : vcFn2 (Tz g) false ann_ref09_Number Tryz.f65 pre [a0, a1, a2] (.ret r) post = vc_ref09_Number (Tz g) pre a0 a1 a2 r post := by kernel_rfl
theorem hf_ref09_Number : Tryz.prog.funcs[f_ref09_Number]? = some Tryz.f65 := by kernel_rfl
theorem ok_ref09_Number : fnVcOK Tryz.prog Tryz.f65 = true := by kernel_rfl
theorem nt_ref09_Number : Nat.ble 3 Tryz.f65.ntmps = true := by kernel_rfl
theorem meetsH_ref09_Number {g : GG} {pre : List ABlk} {a0 a1 a2 : AV} {r : AV} {post : List PB} (hk : Nat.ble pre.length 24 = true) (h : vc_ref09_Number (Tz g) pre a0 a1 a2 r post) : MeetsH (Tz g) f_ref09_Number pre [a0, a1, a2] (.ret r) post :=
  meetsH_of_vc (C := Tz g) ann_ref09_Number hf_ref09_Number ok_ref09_Number nt_ref09_Number hk (pn := false) (Eq.mpr ((vcFn2_eq _ _ _ _ _ _ _ _).trans (vc_ref09_Number_eq g pre a0 a1 a2 r post)) h)
theorem meets_ref09_Number {g : GG} {a0 a1 a2 : D} {r : Res} (h : vc_ref09_Number (Tz g) [] (.d a0) (.d a1) (.d a2) r.val (r.bl.map .upd)) : Meets (Tz g) f_ref09_Number [a0, a1, a2] r := meetsH_ref09_Number rfl h
def ann_ref09_Now : Nat → List Nat := fun n => match n with | 3 => [1, 3, 4] | _ => []
def vc_ref09_Now_k0 (P : Ctx) (pre : List ABlk) (r : AV) (post : List PB) (vs0 : List AV) (h1 : Heap) (next18 : List AV → Heap → Prop) : Prop :=
  FADDR 1 (nth vs0 0) h1 fun v2 =>
  LOAD false 1 v2 h1 fun v3 =>
  LEN false v3 h1 fun v4 =>
  BIN 0 .lss (nth vs0 2) v4 fun v5 =>
  COND v5
  (LOAD true 3 (nth vs0 0) h1 fun v6 =>
  FADDR 2 (nth vs0 0) h1 fun v7 =>
  LOAD false 1 v7 h1 fun v8 =>
  LEN false v8 h1 fun v9 =>
  CALL P f_ref09_Number [v6, (nth vs0 2), v9] 152 h1 (fun _ v11 h12 =>
  MKS T_int 1 [v11] 160 h12 fun v13 h14 =>
  APP T_int 1 (nth vs0 1) v13 168 h14 fun v15 h16 =>
  BIN 0 .add (nth vs0 2) (.d (.num .i64 1)) fun v17 =>
  next18 [(nth vs0 0), v15, v17] h16)
  (fun _ _ _ => False))
  (POST (nth vs0 1) h1 pre r post)
def vc_ref09_Now (P : Ctx) (pre : List ABlk) (a0 : AV) (r : AV) (post : List PB) : Prop :=
  let h0 : Heap := numbered 0 pre
  BOX T_api_ProofPage a0 24 h0 fun v1 h1 =>
  LOOP [v1, .zc, (.d (.num .i64 0))] h1 56 fun vs2 h3 next2 =>
  vc_ref09_Now_k0 P pre r post vs2 h3 next2
theorem vc_ref09_Now_eq (g : GG) (pre : List ABlk) (a0 : AV) (r : AV) (post : List PB) : vcFn2 (Tz g) false ann_ref09_Now Tryz.f23 pre [a0] (.ret r) post = vc_ref09_Now (Tz g) pre a0 r post := by kernel_rfl
theorem hf_ref09_Now : Tryz.prog.funcs[f_ref09_Now]? = some Tryz.f23 := by kernel_rfl
theorem ok_ref09_Now : fnVcOK Tryz.prog Tryz.f23 = true := by kernel_rfl
theorem nt_ref09_Now : Nat.ble 1 Tryz.f23.ntmps = true := by kernel_rfl
theorem meetsH_ref09_Now {g : GG} {pre : List ABlk} {a0 : AV} {r : AV} {post : List PB} (hk : Nat.ble pre.length 24 = true) (h : vc_ref09_Now (Tz g) pre a0 r post) : MeetsH (Tz g) f_ref09_Now pre [a0] (.ret r) post :=
  meetsH_of_vc (C := Tz g) ann_ref09_Now hf_ref09_Now ok_ref09_Now nt_ref09_Now hk (pn := false) (Eq.mpr ((vcFn2_eq _ _ _ _ _ _ _ _).trans (vc_ref09_Now_eq g pre a0 r post)) h)
theorem meets_ref09_Now {g : GG} {a0 : D} {r : Res} (h : vc_ref09_Now (Tz g) [] (.d a0) r.val (r.bl.map .upd)) : Meets (Tz g) f_ref09_Now [a0] r := meetsH_ref09_Now rfl h
def ann_ref09_Differs : Nat → List Nat := fun n => match n with | 3 => [1, 3, 4] | _ => []
def vc_ref09_Differs_k0 (P : Ctx) (pre : List ABlk) (r : AV) (post : List PB) (vs0 : List AV) (h1 : Heap) (v7 : AV) (h9 : Heap) (v10 : AV) (v11 : AV) (rd12 : List Nat) (next18 : List AV → Heap → Prop) : Prop :=
  FADDR 1 (nth vs0 0) h1 fun v2 =>
  LOAD false 1 v2 h1 fun v3 =>
  IADDR 3 T_api_ProofLine v3 (nth vs0 2) h1 fun v4 =>
  FADDR 1 v4 h1 fun v5 =>
  LOAD false 1 v5 h1 fun v6 =>
  BIN 0 .neq v7 v6 fun v8 =>
  ORDX [] [0, 0, 0, 4, 12, 31, 0, 64, 0, 448, 960, 1984, 4095] [(0, wr h9 h9, (ids (nth vs0 0))), (2, wr h9 h9, (ids (nth vs0 0))), (3, wr h9 h9, (ids v10)), (4, wr h9 h9, (ids v11)), (5, wr h9 h1, rd12), (6, wr h1 h1, (ids (nth vs0 0))), (7, wr h1 h1, (ids v2)), (9, wr h1 h1, (ids v3)), (10, wr h1 h1, (ids v4)), (11, wr h1 h1, (ids v5))] ∧
  COND v8
  (MKS T_int 1 [(nth vs0 2)] 224 h1 fun v13 h14 =>
  APP T_int 1 (nth vs0 1) v13 232 h14 fun v15 h16 =>
  BIN 0 .add (nth vs0 2) (.d (.num .i64 1)) fun v17 =>
  next18 [(nth vs0 0), v15, v17] h16)
  (BIN 0 .add (nth vs0 2) (.d (.num .i64 1)) fun v17 =>
  next18 [(nth vs0 0), (nth vs0 1), v17] h1)
def vc_ref09_Differs_k1 (P : Ctx) (pre : List ABlk) (r : AV) (post : List PB) (vs0 : List AV) (h1 : Heap) (next13 : List AV → Heap → Prop) : Prop :=
  FADDR 1 (nth vs0 0) h1 fun v2 =>
  LOAD false 1 v2 h1 fun v3 =>
  LEN false v3 h1 fun v4 =>
  BIN 0 .lss (nth vs0 2) v4 fun v5 =>
  COND v5
  (LOAD true 3 (nth vs0 0) h1 fun v6 =>
  FADDR 2 (nth vs0 0) h1 fun v7 =>
  LOAD false 1 v7 h1 fun v8 =>
  LEN false v8 h1 fun v9 =>
  CALL P f_ref09_Number [v6, (nth vs0 2), v9] 144 h1 (fun rd10 v11 h12 =>
  vc_ref09_Differs_k0 P pre r post vs0 h12 v11 h1 v7 v8 rd10 next13)
  (fun _ _ _ => False))
  (POST (nth vs0 1) h1 pre r post)
def vc_ref09_Differs (P : Ctx) (pre : List ABlk) (a0 : AV) (r : AV) (post : List PB) : Prop :=
  let h0 : Heap := numbered 0 pre
  BOX T_api_ProofPage a0 24 h0 fun v1 h1 =>
  LOOP [v1, .zc, (.d (.num .i64 0))] h1 56 fun vs2 h3 next2 =>
  vc_ref09_Differs_k1 P pre r post vs2 h3 next2
theorem vc_ref09_Differs_eq (g : GG) (pre : List ABlk) (a0 : AV) (r : AV) (post : List PB) : vcFn2 (Tz g) false ann_ref09_Differs Tryz.f20 pre [a0] (.ret r) post = vc_ref09_Differs (Tz g) pre a0 r post := by kernel_rfl
theorem hf_ref09_Differs : Tryz.prog.funcs[f_ref09_Differs]? = some Tryz.f20 := by kernel_rfl
theorem ok_ref09_Differs : fnVcOK Tryz.prog Tryz.f20 = true := by kernel_rfl
theorem nt_ref09_Differs : Nat.ble 1 Tryz.f20.ntmps = true := by kernel_rfl
theorem meetsH_ref09_Differs {g : GG} {pre : List ABlk} {a0 : AV} {r : AV} {post : List PB} (hk : Nat.ble pre.length 24 = true) (h : vc_ref09_Differs (Tz g) pre a0 r post) : MeetsH (Tz g) f_ref09_Differs pre [a0] (.ret r) post :=
  meetsH_of_vc (C := Tz g) ann_ref09_Differs hf_ref09_Differs ok_ref09_Differs nt_ref09_Differs hk (pn := false) (Eq.mpr ((vcFn2_eq _ _ _ _ _ _ _ _).trans (vc_ref09_Differs_eq g pre a0 r post)) h)
theorem meets_ref09_Differs {g : GG} {a0 : D} {r : Res} (h : vc_ref09_Differs (Tz g) [] (.d a0) r.val (r.bl.map .upd)) : Meets (Tz g) f_ref09_Differs [a0] r := meetsH_ref09_Differs rfl h
end Go.Vc
