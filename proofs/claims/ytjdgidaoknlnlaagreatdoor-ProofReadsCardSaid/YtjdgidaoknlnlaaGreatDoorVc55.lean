/- A part of the proof: general laws of a reading of the model by abstract data, or contracts of the functions that the law calls. -/
import Derived.Test.YtjdgidaoknlnlaaGreatDoorVc23
import Derived.Test.YtjdgidaoknlnlaaGreatDoorVc11
set_option maxRecDepth 100000
namespace Go.Vc
open Go Go.Proofs Go.RowKit
def ann_proof_need : Nat → List Nat := fun n => match n with  | _ => []
def vc_proof_need (_P : Ctx) (pre : List ABlk) (a0 a1 : AV) (r : AV) (post : List PB) : Prop :=
  let h0 : Heap := numbered 0 pre
  NOT a0 fun v5 =>
  COND v5
  (BUILD [(0, 1)] [.d (.str [])] [(0, a1)] fun v7 =>
  PANIC (.iface T_proof_noText v7) fun _ => False)
  (POST (.tup []) h0 pre r post)
theorem vc_proof_need_eq (g : GG) (pre : List ABlk) (a0 a1 : AV) (r : AV) (post : List PB) : vcFn2 (Tz g) false ann_proof_need Tryz.f133 pre [a0, a1] (.ret r) post = vc_proof_need (Tz g) pre a0 a1 r post := by kernel_rfl
theorem hf_proof_need : Tryz.prog.funcs[f_proof_need]? = some Tryz.f133 := by kernel_rfl
theorem ok_proof_need : fnVcOK Tryz.prog Tryz.f133 = true := by kernel_rfl
theorem nt_proof_need : Nat.ble 2 Tryz.f133.ntmps = true := by kernel_rfl
theorem meetsH_proof_need {g : GG} {pre : List ABlk} {a0 a1 : AV} {r : AV} {post : List PB} (hk : Nat.ble pre.length 24 = true) (h : vc_proof_need (Tz g) pre a0 a1 r post) : MeetsH (Tz g) f_proof_need pre [a0, a1] (.ret r) post :=
  meetsH_of_vc (C := Tz g) ann_proof_need hf_proof_need ok_proof_need nt_proof_need hk (pn := false) (Eq.mpr ((vcFn2_eq _ _ _ _ _ _ _ _).trans (vc_proof_need_eq g pre a0 a1 r post)) h)
theorem meets_proof_need {g : GG} {a0 a1 : D} {r : Res} (h : vc_proof_need (Tz g) [] (.d a0) (.d a1) r.val (r.bl.map .upd)) : Meets (Tz g) f_proof_need [a0, a1] r := meetsH_proof_need rfl h
def annp_proof_need : Nat → List Nat := fun n => match n with  | _ => []
def vcp_proof_need (_P : Ctx) (pre : List ABlk) (a0 a1 : AV) (r : AV) (post : List PB) : Prop :=
  let h0 : Heap := numbered 0 pre
  NOT a0 fun v5 =>
  COND v5
  (BUILD [(0, 1)] [.d (.str [])] [(0, a1)] fun v7 =>
  PANIC (.iface T_proof_noText v7) fun pv1 =>
  POST pv1 h0 pre r post)
  (False)
theorem vcp_proof_need_eq (g : GG) (pre : List ABlk) (a0 a1 : AV) (r : AV) (post : List PB) : vcFn2 (Tz g) true annp_proof_need Tryz.f133 pre [a0, a1] (.pan r) post = vcp_proof_need (Tz g) pre a0 a1 r post := by kernel_rfl
theorem hfp_proof_need : Tryz.prog.funcs[f_proof_need]? = some Tryz.f133 := by kernel_rfl
theorem okp_proof_need : fnVcOK Tryz.prog Tryz.f133 = true := by kernel_rfl
theorem ntp_proof_need : Nat.ble 2 Tryz.f133.ntmps = true := by kernel_rfl
theorem meetsHp_proof_need {g : GG} {pre : List ABlk} {a0 a1 : AV} {r : AV} {post : List PB} (hk : Nat.ble pre.length 24 = true) (h : vcp_proof_need (Tz g) pre a0 a1 r post) : MeetsH (Tz g) f_proof_need pre [a0, a1] (.pan r) post :=
  meetsH_of_vc (C := Tz g) annp_proof_need hfp_proof_need okp_proof_need ntp_proof_need hk (pn := true) (Eq.mpr ((vcFn2_eq _ _ _ _ _ _ _ _).trans (vcp_proof_need_eq g pre a0 a1 r post)) h)
theorem meetsP_proof_need {g : GG} {a0 a1 : D} {x : D} (h : vcp_proof_need (Tz g) [] (.d a0) (.d a1) (.d x) []) : MeetsP (Tz g) f_proof_need [a0, a1] x := meetsHp_proof_need rfl h
def ann_proof_given : Nat → List Nat := fun n => match n with | 4 => [0, 1, 5, 6, 7, 16] | _ => []
def vc_proof_given_k0 (P : Ctx) (_pre : List ABlk) (_r : AV) (_post : List PB) (vs0 : List AV) (h1 : Heap) (v8 : AV) (next12 : List AV → Heap → Prop) : Prop :=
  LEN true (nth vs0 2) h1 fun v2 =>
  BIN 0 .leq v2 (.d (.num .i64 3)) fun v3 =>
  CALL P f_proof_need [v3, (nth vs0 0)] 248 h1 (fun _ _ h6 =>
  BIN 0 .mul (.d (.num .i64 10)) (nth vs0 4) fun v7 =>
  BIN 0 .sub v8 (.d (.num .i32 48)) fun v9 =>
  CONVI .i64 v9 fun v10 =>
  BIN 0 .add v7 v10 fun v11 =>
  next12 [(nth vs0 0), (nth vs0 1), (nth vs0 2), (nth vs0 3), v11, (nth vs0 5)] h6)
  (fun _ _ _ => False)
def vc_proof_given_k1 (P : Ctx) (_pre : List ABlk) (_r : AV) (_post : List PB) (vs0 : List AV) (h1 : Heap) (v6 : AV) (next10 : List AV → Heap → Prop) : Prop :=
  CALL P f_proof_need [(.d (.bool false)), (nth vs0 0)] 248 h1 (fun _ _ h4 =>
  BIN 0 .mul (.d (.num .i64 10)) (nth vs0 4) fun v5 =>
  BIN 0 .sub v6 (.d (.num .i32 48)) fun v7 =>
  CONVI .i64 v7 fun v8 =>
  BIN 0 .add v5 v8 fun v9 =>
  next10 [(nth vs0 0), (nth vs0 1), (nth vs0 2), (nth vs0 3), v9, (nth vs0 5)] h4)
  (fun _ _ _ => False)
def vc_proof_given_k2 (P : Ctx) (pre : List ABlk) (r : AV) (post : List PB) (v0 : AV) (vs1 : List AV) (h4 : Heap) : Prop :=
  BIN 0 .eql v0 (nth vs1 2) fun v2 =>
  CONDG v2
  (NOT (nth vs1 3) fun v3 =>
  CONDG v3
  (CALL P f_proof_need [(.d (.bool true)), (nth vs1 0)] 296 h4 (fun _ v6 h7 =>
  COND (nth vs1 3)
  (NEG (nth vs1 4) fun v8 =>
  POST v8 h7 pre r post)
  (POST (nth vs1 4) h7 pre r post))
  (fun _ _ _ => False))
  (CONDG (nth vs1 1)
  (BIN 0 .gtr (nth vs1 4) (.d (.num .i64 0)) fun v9 =>
  CALL P f_proof_need [v9, (nth vs1 0)] 296 h4 (fun _ v6 h11 =>
  COND (nth vs1 3)
  (NEG (nth vs1 4) fun v8 =>
  POST v8 h11 pre r post)
  (POST (nth vs1 4) h11 pre r post))
  (fun _ _ _ => False))
  (CALL P f_proof_need [(.d (.bool false)), (nth vs1 0)] 296 h4 (fun _ v6 h13 =>
  COND (nth vs1 3)
  (NEG (nth vs1 4) fun v8 =>
  POST v8 h13 pre r post)
  (POST (nth vs1 4) h13 pre r post))
  (fun _ _ _ => False))))
  (CALL P f_proof_need [(.d (.bool false)), (nth vs1 0)] 296 h4 (fun _ v6 h15 =>
  COND (nth vs1 3)
  (NEG (nth vs1 4) fun v8 =>
  POST v8 h15 pre r post)
  (POST (nth vs1 4) h15 pre r post))
  (fun _ _ _ => False))
def vc_proof_given_k3 (P : Ctx) (pre : List ABlk) (r : AV) (post : List PB) (v0 : AV) (vs4 : List AV) (h5 : Heap) (next6 : List AV → Heap → Prop) : Prop :=
  EXT v0 2 fun v1 =>
  BIN 0 .geq v1 (.d (.num .i32 48)) fun v2 =>
  CONDG v2
  (BIN 0 .leq v1 (.d (.num .i32 57)) fun v3 =>
  CONDG v3
  (vc_proof_given_k0 P pre r post vs4 h5 v1 next6)
  (vc_proof_given_k1 P pre r post vs4 h5 v1 next6))
  (CALL P f_proof_need [(.d (.bool false)), (nth vs4 0)] 248 h5 (fun _ _ h9 =>
  BIN 0 .mul (.d (.num .i64 10)) (nth vs4 4) fun v10 =>
  BIN 0 .sub v1 (.d (.num .i32 48)) fun v11 =>
  CONVI .i64 v11 fun v12 =>
  BIN 0 .add v10 v12 fun v13 =>
  next6 [(nth vs4 0), (nth vs4 1), (nth vs4 2), (nth vs4 3), v13, (nth vs4 5)] h9)
  (fun _ _ _ => False))
def vc_proof_given_k4 (P : Ctx) (pre : List ABlk) (r : AV) (post : List PB) (vs0 : List AV) (h2 : Heap) : Prop :=
  BIN 0 .neq (nth vs0 2) (.d (.str [])) fun v1 =>
  CONDG v1
  (CALL P f_strconv_Itoa [(nth vs0 4)] 168 h2 (fun _ v4 h5 =>
  vc_proof_given_k2 P pre r post v4 vs0 h5)
  (fun _ _ _ => False))
  (CALL P f_proof_need [(.d (.bool false)), (nth vs0 0)] 296 h2 (fun _ _ h8 =>
  COND (nth vs0 3)
  (NEG (nth vs0 4) fun v9 =>
  POST v9 h8 pre r post)
  (POST (nth vs0 4) h8 pre r post))
  (fun _ _ _ => False))
def vc_proof_given_k5 (P : Ctx) (pre : List ABlk) (r : AV) (post : List PB) (v0 : AV) (h3 : Heap) (a6 : AV) (a7 : AV) : Prop :=
  EXT v0 0 fun v1 =>
  EXT v0 1 fun v2 =>
  RANGE v1 104 h3 fun v4 h5 =>
  LOOP [a6, a7, v1, v2, (.d (.num .i64 0)), v4] h5 112 fun vs8 h9 next10 =>
  NEXT (nth vs8 5) h9 fun v11 h12 =>
  EXT v11 0 fun v13 =>
  COND v13
  (vc_proof_given_k3 P pre r post v11 vs8 h12 next10)
  (vc_proof_given_k4 P pre r post vs8 h12)
def vc_proof_given (P : Ctx) (pre : List ABlk) (a0 a1 : AV) (r : AV) (post : List PB) : Prop :=
  let h0 : Heap := numbered 0 pre
  CALL P f_strings_CutPrefix [a0, (.d (.str [45]))] 40 h0 (fun _ v12 h1 =>
  vc_proof_given_k5 P pre r post v12 h1 a0 a1)
  (fun _ _ _ => False)
theorem vc_proof_given_eq (g : GG) (pre : List ABlk) (a0 a1 : AV) (r : AV) (post : List PB) : vcFn2 (Tz g) false ann_proof_given Tryz.f155 pre [a0, a1] (.ret r) post = vc_proof_given (Tz g) pre a0 a1 r post := by kernel_rfl
theorem hf_proof_given : Tryz.prog.funcs[f_proof_given]? = some Tryz.f155 := by kernel_rfl
theorem ok_proof_given : fnVcOK Tryz.prog Tryz.f155 = true := by kernel_rfl
theorem nt_proof_given : Nat.ble 2 Tryz.f155.ntmps = true := by kernel_rfl
theorem meetsH_proof_given {g : GG} {pre : List ABlk} {a0 a1 : AV} {r : AV} {post : List PB} (hk : Nat.ble pre.length 24 = true) (h : vc_proof_given (Tz g) pre a0 a1 r post) : MeetsH (Tz g) f_proof_given pre [a0, a1] (.ret r) post :=
  meetsH_of_vc (C := Tz g) ann_proof_given hf_proof_given ok_proof_given nt_proof_given hk (pn := false) (Eq.mpr ((vcFn2_eq _ _ _ _ _ _ _ _).trans (vc_proof_given_eq g pre a0 a1 r post)) h)
theorem meets_proof_given {g : GG} {a0 a1 : D} {r : Res} (h : vc_proof_given (Tz g) [] (.d a0) (.d a1) r.val (r.bl.map .upd)) : Meets (Tz g) f_proof_given [a0, a1] r := meetsH_proof_given rfl h
def annp_proof_given : Nat → List Nat := fun n => match n with | 4 => [0, 1, 5, 6, 7, 16] | _ => []
def vcp_proof_given_k0 (P : Ctx) (pre : List ABlk) (r : AV) (post : List PB) (vs0 : List AV) (h1 : Heap) (v8 : AV) (next12 : List AV → Heap → Prop) : Prop :=
  LEN true (nth vs0 2) h1 fun v2 =>
  BIN 0 .leq v2 (.d (.num .i64 3)) fun v3 =>
  CALL P f_proof_need [v3, (nth vs0 0)] 248 h1 (fun _ _ h6 =>
  BIN 0 .mul (.d (.num .i64 10)) (nth vs0 4) fun v7 =>
  BIN 0 .sub v8 (.d (.num .i32 48)) fun v9 =>
  CONVI .i64 v9 fun v10 =>
  BIN 0 .add v7 v10 fun v11 =>
  next12 [(nth vs0 0), (nth vs0 1), (nth vs0 2), (nth vs0 3), v11, (nth vs0 5)] h6)
  (fun _ pv13 ph14 =>
  POST pv13 ph14 pre r post)
def vcp_proof_given_k1 (P : Ctx) (pre : List ABlk) (r : AV) (post : List PB) (vs0 : List AV) (h1 : Heap) (v6 : AV) (next10 : List AV → Heap → Prop) : Prop :=
  CALL P f_proof_need [(.d (.bool false)), (nth vs0 0)] 248 h1 (fun _ _ h4 =>
  BIN 0 .mul (.d (.num .i64 10)) (nth vs0 4) fun v5 =>
  BIN 0 .sub v6 (.d (.num .i32 48)) fun v7 =>
  CONVI .i64 v7 fun v8 =>
  BIN 0 .add v5 v8 fun v9 =>
  next10 [(nth vs0 0), (nth vs0 1), (nth vs0 2), (nth vs0 3), v9, (nth vs0 5)] h4)
  (fun _ pv11 ph12 =>
  POST pv11 ph12 pre r post)
def vcp_proof_given_k2 (P : Ctx) (pre : List ABlk) (r : AV) (post : List PB) (v0 : AV) (vs1 : List AV) (h4 : Heap) : Prop :=
  BIN 0 .eql v0 (nth vs1 2) fun v2 =>
  CONDG v2
  (NOT (nth vs1 3) fun v3 =>
  CONDG v3
  (CALL P f_proof_need [(.d (.bool true)), (nth vs1 0)] 296 h4 (fun _ v6 _ =>
  COND (nth vs1 3)
  (NEG (nth vs1 4) fun v8 =>
  False)
  (False))
  (fun _ pv9 ph10 =>
  POST pv9 ph10 pre r post))
  (CONDG (nth vs1 1)
  (BIN 0 .gtr (nth vs1 4) (.d (.num .i64 0)) fun v11 =>
  CALL P f_proof_need [v11, (nth vs1 0)] 296 h4 (fun _ v6 _ =>
  COND (nth vs1 3)
  (NEG (nth vs1 4) fun v8 =>
  False)
  (False))
  (fun _ pv14 ph15 =>
  POST pv14 ph15 pre r post))
  (CALL P f_proof_need [(.d (.bool false)), (nth vs1 0)] 296 h4 (fun _ v6 _ =>
  COND (nth vs1 3)
  (NEG (nth vs1 4) fun v8 =>
  False)
  (False))
  (fun _ pv18 ph19 =>
  POST pv18 ph19 pre r post))))
  (CALL P f_proof_need [(.d (.bool false)), (nth vs1 0)] 296 h4 (fun _ v6 _ =>
  COND (nth vs1 3)
  (NEG (nth vs1 4) fun v8 =>
  False)
  (False))
  (fun _ pv22 ph23 =>
  POST pv22 ph23 pre r post))
def vcp_proof_given_k3 (P : Ctx) (pre : List ABlk) (r : AV) (post : List PB) (v0 : AV) (vs4 : List AV) (h5 : Heap) (next6 : List AV → Heap → Prop) : Prop :=
  EXT v0 2 fun v1 =>
  BIN 0 .geq v1 (.d (.num .i32 48)) fun v2 =>
  CONDG v2
  (BIN 0 .leq v1 (.d (.num .i32 57)) fun v3 =>
  CONDG v3
  (vcp_proof_given_k0 P pre r post vs4 h5 v1 next6)
  (vcp_proof_given_k1 P pre r post vs4 h5 v1 next6))
  (CALL P f_proof_need [(.d (.bool false)), (nth vs4 0)] 248 h5 (fun _ _ h9 =>
  BIN 0 .mul (.d (.num .i64 10)) (nth vs4 4) fun v10 =>
  BIN 0 .sub v1 (.d (.num .i32 48)) fun v11 =>
  CONVI .i64 v11 fun v12 =>
  BIN 0 .add v10 v12 fun v13 =>
  next6 [(nth vs4 0), (nth vs4 1), (nth vs4 2), (nth vs4 3), v13, (nth vs4 5)] h9)
  (fun _ pv14 ph15 =>
  POST pv14 ph15 pre r post))
def vcp_proof_given_k4 (P : Ctx) (pre : List ABlk) (r : AV) (post : List PB) (vs0 : List AV) (h2 : Heap) : Prop :=
  BIN 0 .neq (nth vs0 2) (.d (.str [])) fun v1 =>
  CONDG v1
  (CALL P f_strconv_Itoa [(nth vs0 4)] 168 h2 (fun _ v4 h5 =>
  vcp_proof_given_k2 P pre r post v4 vs0 h5)
  (fun _ pv6 ph7 =>
  POST pv6 ph7 pre r post))
  (CALL P f_proof_need [(.d (.bool false)), (nth vs0 0)] 296 h2 (fun _ _ _ =>
  COND (nth vs0 3)
  (NEG (nth vs0 4) fun _ =>
  False)
  (False))
  (fun _ pv12 ph13 =>
  POST pv12 ph13 pre r post))
def vcp_proof_given_k5 (P : Ctx) (pre : List ABlk) (r : AV) (post : List PB) (v0 : AV) (h3 : Heap) (a6 : AV) (a7 : AV) : Prop :=
  EXT v0 0 fun v1 =>
  EXT v0 1 fun v2 =>
  RANGE v1 104 h3 fun v4 h5 =>
  LOOP [a6, a7, v1, v2, (.d (.num .i64 0)), v4] h5 112 fun vs8 h9 next10 =>
  NEXT (nth vs8 5) h9 fun v11 h12 =>
  EXT v11 0 fun v13 =>
  COND v13
  (vcp_proof_given_k3 P pre r post v11 vs8 h12 next10)
  (vcp_proof_given_k4 P pre r post vs8 h12)
def vcp_proof_given (P : Ctx) (pre : List ABlk) (a0 a1 : AV) (r : AV) (post : List PB) : Prop :=
  let h0 : Heap := numbered 0 pre
  CALL P f_strings_CutPrefix [a0, (.d (.str [45]))] 40 h0 (fun _ v12 h1 =>
  vcp_proof_given_k5 P pre r post v12 h1 a0 a1)
  (fun _ pv3 ph4 =>
  POST pv3 ph4 pre r post)
theorem vcp_proof_given_eq (g : GG) (pre : List ABlk) (a0 a1 : AV) (r : AV) (post : List PB) : vcFn2 (Tz g) true annp_proof_given Tryz.f155 pre [a0, a1] (.pan r) post = vcp_proof_given (Tz g) pre a0 a1 r post := by kernel_rfl
theorem hfp_proof_given : Tryz.prog.funcs[f_proof_given]? = some Tryz.f155 := by kernel_rfl
theorem okp_proof_given : fnVcOK Tryz.prog Tryz.f155 = true := by kernel_rfl
theorem ntp_proof_given : Nat.ble 2 Tryz.f155.ntmps = true := by kernel_rfl
theorem meetsHp_proof_given {g : GG} {pre : List ABlk} {a0 a1 : AV} {r : AV} {post : List PB} (hk : Nat.ble pre.length 24 = true) (h : vcp_proof_given (Tz g) pre a0 a1 r post) : MeetsH (Tz g) f_proof_given pre [a0, a1] (.pan r) post :=
  meetsH_of_vc (C := Tz g) annp_proof_given hfp_proof_given okp_proof_given ntp_proof_given hk (pn := true) (Eq.mpr ((vcFn2_eq _ _ _ _ _ _ _ _).trans (vcp_proof_given_eq g pre a0 a1 r post)) h)
theorem meetsP_proof_given {g : GG} {a0 a1 : D} {x : D} (h : vcp_proof_given (Tz g) [] (.d a0) (.d a1) (.d x) []) : MeetsP (Tz g) f_proof_given [a0, a1] x := meetsHp_proof_given rfl h
def ann_proof_numbered : Nat → List Nat := fun n => match n with | 3 => [0, 2, 3, 4, 15, 16] | 10 => [5, 8, 9, 38, 39, 40] | _ => []
def vc_proof_numbered_k0 (P : Ctx) (pre : List ABlk) (r : AV) (post : List PB) (vs0 : List AV) (h2 : Heap) (next14 : List AV → Heap → Prop) : Prop :=
  BIN 0 .lss (nth vs0 5) (nth vs0 4) fun v1 =>
  COND v1
  (IADDR 1 T_string (nth vs0 3) (nth vs0 5) h2 fun v3 =>
  LOAD false 1 v3 h2 fun v4 =>
  BIN 0 .geq (nth vs0 5) (nth vs0 1) fun v5 =>
  CALL P f_proof_given [v4, v5] 408 h2 (fun _ v7 h8 =>
  MKS T_int 1 [v7] 440 h8 fun v9 h10 =>
  APP T_int 1 (nth vs0 2) v9 448 h10 fun v11 h12 =>
  BIN 0 .add (nth vs0 5) (.d (.num .i64 1)) fun v13 =>
  next14 [(nth vs0 0), (nth vs0 1), v11, (nth vs0 3), (nth vs0 4), v13] h12)
  (fun _ _ _ => False))
  (POST (.tup [(nth vs0 0), (nth vs0 2)]) h2 pre r post)
def vc_proof_numbered_k1 (P : Ctx) (pre : List ABlk) (r : AV) (post : List PB) (v0 : AV) (vs3 : List AV) (h4 : Heap) : Prop :=
  EXT v0 0 fun v1 =>
  EXT v0 1 fun v2 =>
  LEN false (nth vs3 3) h4 fun v5 =>
  BIN 0 .add v1 (.d (.num .i64 1)) fun v6 =>
  BIN 0 .eql v5 v6 fun v7 =>
  CALL P f_proof_need [v7, (nth vs3 0)] 272 h4 (fun _ _ h10 =>
  SLICE 2 (nth vs3 3) (some (.d (.num .i64 1))) none none fun v11 =>
  LEN false v11 h10 fun v12 =>
  LOOP [(nth vs3 5), v2, .zc, v11, v12, (.d (.num .i64 0))] h10 320 fun vs13 h14 next15 =>
  vc_proof_numbered_k0 P pre r post vs13 h14 next15)
  (fun _ _ _ => False)
def vc_proof_numbered_k2 (P : Ctx) (pre : List ABlk) (r : AV) (post : List PB) (vs0 : List AV) (h3 : Heap) (next8 : List AV → Heap → Prop) : Prop :=
  BIN 0 .lss (nth vs0 5) (.d (.num .i64 5)) fun v1 =>
  COND v1
  (AIDX false 1 5 (nth vs0 4) (nth vs0 5) fun v2 =>
  IADDR 1 T_string (nth vs0 3) (.d (.num .i64 0)) h3 fun v4 =>
  LOAD false 1 v4 h3 fun v5 =>
  BIN 0 .neq v2 v5 fun v6 =>
  COND v6
  (BIN 0 .add (nth vs0 5) (.d (.num .i64 1)) fun v7 =>
  next8 [(nth vs0 0), (nth vs0 1), (nth vs0 2), (nth vs0 3), (nth vs0 4), v7] h3)
  (CALL P f_proof_many [(nth vs0 5)] 176 h3 (fun _ v10 h11 =>
  vc_proof_numbered_k1 P pre r post v10 vs0 h11)
  (fun _ _ _ => False)))
  (BUILD [(0, 1)] [.d (.str [])] [(0, (nth vs0 0))] fun v12 =>
  PANIC (.iface T_proof_noText v12) fun _ => False)
def vc_proof_numbered (P : Ctx) (pre : List ABlk) (a0 : AV) (r : AV) (post : List PB) : Prop :=
  let h0 : Heap := numbered 0 pre
  CALL P f_strings_Split [a0, (.d (.str [32]))] 48 h0 (fun _ v14 h1 =>
  CALL P f_proof_words [] 64 h1 (fun _ v15 h3 =>
  LOOP [a0, (.d (.num .i64 0)), .zc, v14, v15, (.d (.num .i64 0))] h3 80 fun vs5 h6 next5 =>
  vc_proof_numbered_k2 P pre r post vs5 h6 next5)
  (fun _ _ _ => False))
  (fun _ _ _ => False)
theorem vc_proof_numbered_eq (g : GG) (pre : List ABlk) (a0 : AV) (r : AV) (post : List PB) : vcFn2 (Tz g) false ann_proof_numbered Tryz.f134 pre [a0] (.ret r) post = vc_proof_numbered (Tz g) pre a0 r post := by kernel_rfl
theorem hf_proof_numbered : Tryz.prog.funcs[f_proof_numbered]? = some Tryz.f134 := by kernel_rfl
theorem ok_proof_numbered : fnVcOK Tryz.prog Tryz.f134 = true := by kernel_rfl
theorem nt_proof_numbered : Nat.ble 1 Tryz.f134.ntmps = true := by kernel_rfl
theorem meetsH_proof_numbered {g : GG} {pre : List ABlk} {a0 : AV} {r : AV} {post : List PB} (hk : Nat.ble pre.length 24 = true) (h : vc_proof_numbered (Tz g) pre a0 r post) : MeetsH (Tz g) f_proof_numbered pre [a0] (.ret r) post :=
  meetsH_of_vc (C := Tz g) ann_proof_numbered hf_proof_numbered ok_proof_numbered nt_proof_numbered hk (pn := false) (Eq.mpr ((vcFn2_eq _ _ _ _ _ _ _ _).trans (vc_proof_numbered_eq g pre a0 r post)) h)
theorem meets_proof_numbered {g : GG} {a0 : D} {r : Res} (h : vc_proof_numbered (Tz g) [] (.d a0) r.val (r.bl.map .upd)) : Meets (Tz g) f_proof_numbered [a0] r := meetsH_proof_numbered rfl h
def annp_proof_numbered : Nat → List Nat := fun n => match n with | 3 => [0, 2, 3, 4, 15, 16] | 10 => [5, 8, 9, 38, 39, 40] | _ => []
def vcp_proof_numbered_k0 (P : Ctx) (pre : List ABlk) (r : AV) (post : List PB) (vs0 : List AV) (h2 : Heap) (next14 : List AV → Heap → Prop) : Prop :=
  BIN 0 .lss (nth vs0 5) (nth vs0 4) fun v1 =>
  COND v1
  (IADDR 1 T_string (nth vs0 3) (nth vs0 5) h2 fun v3 =>
  LOAD false 1 v3 h2 fun v4 =>
  BIN 0 .geq (nth vs0 5) (nth vs0 1) fun v5 =>
  CALL P f_proof_given [v4, v5] 408 h2 (fun _ v7 h8 =>
  MKS T_int 1 [v7] 440 h8 fun v9 h10 =>
  APP T_int 1 (nth vs0 2) v9 448 h10 fun v11 h12 =>
  BIN 0 .add (nth vs0 5) (.d (.num .i64 1)) fun v13 =>
  next14 [(nth vs0 0), (nth vs0 1), v11, (nth vs0 3), (nth vs0 4), v13] h12)
  (fun _ pv15 ph16 =>
  POST pv15 ph16 pre r post))
  (False)
def vcp_proof_numbered_k1 (P : Ctx) (pre : List ABlk) (r : AV) (post : List PB) (v0 : AV) (vs3 : List AV) (h4 : Heap) : Prop :=
  EXT v0 0 fun v1 =>
  EXT v0 1 fun v2 =>
  LEN false (nth vs3 3) h4 fun v5 =>
  BIN 0 .add v1 (.d (.num .i64 1)) fun v6 =>
  BIN 0 .eql v5 v6 fun v7 =>
  CALL P f_proof_need [v7, (nth vs3 0)] 272 h4 (fun _ _ h10 =>
  SLICE 2 (nth vs3 3) (some (.d (.num .i64 1))) none none fun v11 =>
  LEN false v11 h10 fun v12 =>
  LOOP [(nth vs3 5), v2, .zc, v11, v12, (.d (.num .i64 0))] h10 320 fun vs13 h14 next15 =>
  vcp_proof_numbered_k0 P pre r post vs13 h14 next15)
  (fun _ pv16 ph17 =>
  POST pv16 ph17 pre r post)
def vcp_proof_numbered_k2 (P : Ctx) (pre : List ABlk) (r : AV) (post : List PB) (vs0 : List AV) (h3 : Heap) (next8 : List AV → Heap → Prop) : Prop :=
  BIN 0 .lss (nth vs0 5) (.d (.num .i64 5)) fun v1 =>
  COND v1
  (AIDX false 1 5 (nth vs0 4) (nth vs0 5) fun v2 =>
  IADDR 1 T_string (nth vs0 3) (.d (.num .i64 0)) h3 fun v4 =>
  LOAD false 1 v4 h3 fun v5 =>
  BIN 0 .neq v2 v5 fun v6 =>
  COND v6
  (BIN 0 .add (nth vs0 5) (.d (.num .i64 1)) fun v7 =>
  next8 [(nth vs0 0), (nth vs0 1), (nth vs0 2), (nth vs0 3), (nth vs0 4), v7] h3)
  (CALL P f_proof_many [(nth vs0 5)] 176 h3 (fun _ v10 h11 =>
  vcp_proof_numbered_k1 P pre r post v10 vs0 h11)
  (fun _ pv12 ph13 =>
  POST pv12 ph13 pre r post)))
  (BUILD [(0, 1)] [.d (.str [])] [(0, (nth vs0 0))] fun v14 =>
  PANIC (.iface T_proof_noText v14) fun pv15 =>
  POST pv15 h3 pre r post)
def vcp_proof_numbered (P : Ctx) (pre : List ABlk) (a0 : AV) (r : AV) (post : List PB) : Prop :=
  let h0 : Heap := numbered 0 pre
  CALL P f_strings_Split [a0, (.d (.str [32]))] 48 h0 (fun _ v14 h1 =>
  CALL P f_proof_words [] 64 h1 (fun _ v15 h5 =>
  LOOP [a0, (.d (.num .i64 0)), .zc, v14, v15, (.d (.num .i64 0))] h5 80 fun vs9 h10 next9 =>
  vcp_proof_numbered_k2 P pre r post vs9 h10 next9)
  (fun _ pv7 ph8 =>
  POST pv7 ph8 pre r post))
  (fun _ pv3 ph4 =>
  POST pv3 ph4 pre r post)
theorem vcp_proof_numbered_eq (g : GG) (pre : List ABlk) (a0 : AV) (r : AV) (post : List PB) : vcFn2 (Tz g) true annp_proof_numbered Tryz.f134 pre [a0] (.pan r) post = vcp_proof_numbered (Tz g) pre a0 r post := by kernel_rfl
theorem hfp_proof_numbered : Tryz.prog.funcs[f_proof_numbered]? = some Tryz.f134 := by kernel_rfl
theorem okp_proof_numbered : fnVcOK Tryz.prog Tryz.f134 = true := by kernel_rfl
theorem ntp_proof_numbered : Nat.ble 1 Tryz.f134.ntmps = true := by kernel_rfl
theorem meetsHp_proof_numbered {g : GG} {pre : List ABlk} {a0 : AV} {r : AV} {post : List PB} (hk : Nat.ble pre.length 24 = true) (h : vcp_proof_numbered (Tz g) pre a0 r post) : MeetsH (Tz g) f_proof_numbered pre [a0] (.pan r) post :=
  meetsH_of_vc (C := Tz g) annp_proof_numbered hfp_proof_numbered okp_proof_numbered ntp_proof_numbered hk (pn := true) (Eq.mpr ((vcFn2_eq _ _ _ _ _ _ _ _).trans (vcp_proof_numbered_eq g pre a0 r post)) h)
theorem meetsP_proof_numbered {g : GG} {a0 : D} {x : D} (h : vcp_proof_numbered (Tz g) [] (.d a0) (.d x) []) : MeetsP (Tz g) f_proof_numbered [a0] x := meetsHp_proof_numbered rfl h
def ann_proof_parsed : Nat → List Nat := fun n => match n with | 7 => [0, 2, 6, 37, 38, 39] | _ => []
def vc_proof_parsed_k0 (_P : Ctx) (_pre : List ABlk) (_r : AV) (_post : List PB) (vs0 : List AV) (h1 : Heap) (v4 : AV) (next19 : List AV → Heap → Prop) : Prop :=
  FADDR 1 (nth vs0 2) h1 fun v2 =>
  LOAD false 1 v2 h1 fun v3 =>
  IADDR 1 T_int v4 (.d (.num .i64 0)) h1 fun v5 =>
  LOAD false 1 v5 h1 fun v6 =>
  IADDR 1 T_int v4 (.d (.num .i64 1)) h1 fun v7 =>
  LOAD false 1 v7 h1 fun v8 =>
  IADDR 1 T_int v4 (.d (.num .i64 2)) h1 fun v9 =>
  LOAD false 1 v9 h1 fun v10 =>
  BUILD [(0, 1), (1, 1), (2, 1)] [.d (.num .i64 0), .d (.num .i64 0), .d (.num .i64 0)] [(0, v6), (1, v8), (2, v10)] fun v11 =>
  MKS T_api_ProofLine 3 [v11] 544 h1 fun v12 h13 =>
  APP T_api_ProofLine 3 v3 v12 552 h13 fun v14 h15 =>
  FADDR 1 (nth vs0 2) h15 fun v16 =>
  STORE 1 v16 v14 h15 fun h17 =>
  ORDX [] [0, 1, 0, 4, 12, 0, 32, 96, 0, 256, 768, 2044, 4092, 8191, 16383, 32767] [(0, wr h1 h1, (ids (nth vs0 2))), (1, wr h1 h1, (ids v2)), (3, wr h1 h1, (ids v4)), (4, wr h1 h1, (ids v5)), (6, wr h1 h1, (ids v4)), (7, wr h1 h1, (ids v7)), (9, wr h1 h1, (ids v4)), (10, wr h1 h1, (ids v9)), (12, wr h1 h13, (ids.idsL [v11])), (13, wr h13 h15, (ids.idsL [v3, v12])), (14, wr h15 h15, (ids (nth vs0 2))), (15, wr h15 h17, (ids v16))] ∧
  BIN 0 .add (nth vs0 5) (.d (.num .i64 1)) fun v18 =>
  next19 [(nth vs0 0), (nth vs0 1), (nth vs0 2), (nth vs0 3), (nth vs0 4), v18] h17
def vc_proof_parsed_k1 (_P : Ctx) (_pre : List ABlk) (_r : AV) (_post : List PB) (vs0 : List AV) (h1 : Heap) (v4 : AV) (v7 : AV) (next16 : List AV → Heap → Prop) : Prop :=
  FADDR 2 (nth vs0 2) h1 fun v2 =>
  LOAD false 1 v2 h1 fun v3 =>
  BIN 0 .sub v4 (.d (.num .i64 2)) fun v5 =>
  BIN 0 .add (.d (.num .i64 1)) v5 fun v6 =>
  BUILD [(0, 1), (1, 1)] [.d (.num .i64 0), .zc] [(0, v6), (1, v7)] fun v8 =>
  MKS T_api_ProofEntry 2 [v8] 504 h1 fun v9 h10 =>
  APP T_api_ProofEntry 2 v3 v9 512 h10 fun v11 h12 =>
  FADDR 2 (nth vs0 2) h12 fun v13 =>
  STORE 1 v13 v11 h12 fun h14 =>
  BIN 0 .add (nth vs0 5) (.d (.num .i64 1)) fun v15 =>
  next16 [(nth vs0 0), (nth vs0 1), (nth vs0 2), (nth vs0 3), (nth vs0 4), v15] h14
def vc_proof_parsed_k2 (P : Ctx) (pre : List ABlk) (r : AV) (post : List PB) (v0 : AV) (v4 : AV) (h5 : Heap) (vs10 : List AV) (next11 : List AV → Heap → Prop) : Prop :=
  EXT v0 0 fun v1 =>
  EXT v0 1 fun v2 =>
  BIN 0 .neq v1 (.d (.num .i64 0)) fun v3 =>
  CALL P f_proof_need [v3, v4] 424 h5 (fun _ _ h8 =>
  BIN 0 .eql v1 (.d (.num .i64 1)) fun v9 =>
  COND v9
  (vc_proof_parsed_k0 P pre r post vs10 h8 v2 next11)
  (vc_proof_parsed_k1 P pre r post vs10 h8 v1 v2 next11))
  (fun _ _ _ => False)
def vc_proof_parsed_k3 (P : Ctx) (pre : List ABlk) (r : AV) (post : List PB) (v0 : AV) (vs1 : List AV) (h3 : Heap) : Prop :=
  BIN 0 .eql v0 (nth vs1 0) fun v2 =>
  CALL P f_proof_need [v2, (nth vs1 0)] 360 h3 (fun _ _ h6 =>
  LOAD true 3 (nth vs1 2) h6 fun v7 =>
  STORE 3 (nth vs1 1) v7 h6 fun h8 =>
  LOAD true 3 (nth vs1 1) h8 fun r29 =>
  POST r29 h8 pre r post)
  (fun _ _ _ => False)
def vc_proof_parsed_k4 (P : Ctx) (pre : List ABlk) (r : AV) (post : List PB) (vs0 : List AV) (h2 : Heap) (next8 : List AV → Heap → Prop) : Prop :=
  BIN 0 .lss (nth vs0 5) (nth vs0 4) fun v1 =>
  COND v1
  (IADDR 1 T_string (nth vs0 3) (nth vs0 5) h2 fun v3 =>
  LOAD false 1 v3 h2 fun v4 =>
  CALL P f_proof_numbered [v4] 352 h2 (fun _ v6 h7 =>
  vc_proof_parsed_k2 P pre r post v6 v4 h7 vs0 next8)
  (fun _ _ _ => False))
  (LOAD true 3 (nth vs0 2) h2 fun v9 =>
  CALL P f_proof_text [v9] 328 h2 (fun _ v11 h12 =>
  vc_proof_parsed_k3 P pre r post v11 vs0 h12)
  (fun _ _ _ => False))
def vc_proof_parsed_k5 (P : Ctx) (pre : List ABlk) (r : AV) (post : List PB) (v0 : AV) (h1 : Heap) (v8 : AV) (a13 : AV) (v14 : AV) : Prop :=
  IADDR 1 T_int v0 (.d (.num .i64 0)) h1 fun v2 =>
  LOAD false 1 v2 h1 fun v3 =>
  BUILD [(0, 1), (1, 1), (2, 1)] [.d (.num .i64 0), .zc, .zc] [(0, v3)] fun v4 =>
  ALLOC T_api_ProofPage [.d (.num .i64 0), .zc, .zc] 232 h1 fun v5 h6 =>
  STORE 3 v5 v4 h6 fun h7 =>
  LEN false v8 h7 fun v9 =>
  BIN 0 .sub v9 (.d (.num .i64 2)) fun v10 =>
  SLICE 2 v8 (some (.d (.num .i64 1))) (some v10) none fun v11 =>
  LEN false v11 h7 fun v12 =>
  LOOP [a13, v14, v5, v11, v12, (.d (.num .i64 0))] h7 304 fun vs15 h16 next17 =>
  vc_proof_parsed_k4 P pre r post vs15 h16 next17
def vc_proof_parsed_k6 (P : Ctx) (pre : List ABlk) (r : AV) (post : List PB) (v0 : AV) (h1 : Heap) (a10 : AV) (v14 : AV) : Prop :=
  IADDR 1 T_string v0 (.d (.num .i64 0)) h1 fun v2 =>
  LOAD false 1 v2 h1 fun v3 =>
  CALL P f_proof_numbered [v3] 120 h1 (fun _ v5 h6 =>
  EXT v5 0 fun v7 =>
  EXT v5 1 fun v8 =>
  BIN 0 .eql v7 (.d (.num .i64 0)) fun v9 =>
  CALL P f_proof_need [v9, a10] 192 h6 (fun _ _ h13 =>
  vc_proof_parsed_k5 P pre r post v8 h13 v0 a10 v14)
  (fun _ _ _ => False))
  (fun _ _ _ => False)
def vc_proof_parsed (P : Ctx) (pre : List ABlk) (a0 : AV) (r : AV) (post : List PB) : Prop :=
  let h0 : Heap := numbered 0 pre
  ALLOC T_api_ProofPage [.d (.num .i64 0), .zc, .zc] 24 h0 fun v2 h1 =>
  CALL P f_strings_Split [a0, (.d (.str [10]))] 40 h1 (fun _ v12 h2 =>
  LEN false v12 h2 fun v14 =>
  BIN 0 .geq v14 (.d (.num .i64 3)) fun v15 =>
  CALL P f_proof_need [v15, a0] 88 h2 (fun _ _ h4 =>
  vc_proof_parsed_k6 P pre r post v12 h4 a0 v2)
  (fun _ _ _ => False))
  (fun _ _ _ => False)
theorem vc_proof_parsed_eq (g : GG) (pre : List ABlk) (a0 : AV) (r : AV) (post : List PB) : vcFn2 (Tz g) false ann_proof_parsed Tryz.f92 pre [a0] (.ret r) post = vc_proof_parsed (Tz g) pre a0 r post := by kernel_rfl
theorem hf_proof_parsed : Tryz.prog.funcs[f_proof_parsed]? = some Tryz.f92 := by kernel_rfl
theorem ok_proof_parsed : fnVcOK Tryz.prog Tryz.f92 = true := by kernel_rfl
theorem nt_proof_parsed : Nat.ble 1 Tryz.f92.ntmps = true := by kernel_rfl
theorem meetsH_proof_parsed {g : GG} {pre : List ABlk} {a0 : AV} {r : AV} {post : List PB} (hk : Nat.ble pre.length 24 = true) (h : vc_proof_parsed (Tz g) pre a0 r post) : MeetsH (Tz g) f_proof_parsed pre [a0] (.ret r) post :=
  meetsH_of_vc (C := Tz g) ann_proof_parsed hf_proof_parsed ok_proof_parsed nt_proof_parsed hk (pn := false) (Eq.mpr ((vcFn2_eq _ _ _ _ _ _ _ _).trans (vc_proof_parsed_eq g pre a0 r post)) h)
theorem meets_proof_parsed {g : GG} {a0 : D} {r : Res} (h : vc_proof_parsed (Tz g) [] (.d a0) r.val (r.bl.map .upd)) : Meets (Tz g) f_proof_parsed [a0] r := meetsH_proof_parsed rfl h
def annp_proof_parsed : Nat → List Nat := fun n => match n with | 7 => [0, 2, 6, 37, 38, 39] | _ => []
def vcp_proof_parsed_k0 (_P : Ctx) (_pre : List ABlk) (_r : AV) (_post : List PB) (vs0 : List AV) (h1 : Heap) (v4 : AV) (next19 : List AV → Heap → Prop) : Prop :=
  FADDR 1 (nth vs0 2) h1 fun v2 =>
  LOAD false 1 v2 h1 fun v3 =>
  IADDR 1 T_int v4 (.d (.num .i64 0)) h1 fun v5 =>
  LOAD false 1 v5 h1 fun v6 =>
  IADDR 1 T_int v4 (.d (.num .i64 1)) h1 fun v7 =>
  LOAD false 1 v7 h1 fun v8 =>
  IADDR 1 T_int v4 (.d (.num .i64 2)) h1 fun v9 =>
  LOAD false 1 v9 h1 fun v10 =>
  BUILD [(0, 1), (1, 1), (2, 1)] [.d (.num .i64 0), .d (.num .i64 0), .d (.num .i64 0)] [(0, v6), (1, v8), (2, v10)] fun v11 =>
  MKS T_api_ProofLine 3 [v11] 544 h1 fun v12 h13 =>
  APP T_api_ProofLine 3 v3 v12 552 h13 fun v14 h15 =>
  FADDR 1 (nth vs0 2) h15 fun v16 =>
  STORE 1 v16 v14 h15 fun h17 =>
  ORDX [] [0, 1, 0, 4, 12, 0, 32, 96, 0, 256, 768, 2044, 4092, 8191, 16383, 32767] [(0, wr h1 h1, (ids (nth vs0 2))), (1, wr h1 h1, (ids v2)), (3, wr h1 h1, (ids v4)), (4, wr h1 h1, (ids v5)), (6, wr h1 h1, (ids v4)), (7, wr h1 h1, (ids v7)), (9, wr h1 h1, (ids v4)), (10, wr h1 h1, (ids v9)), (12, wr h1 h13, (ids.idsL [v11])), (13, wr h13 h15, (ids.idsL [v3, v12])), (14, wr h15 h15, (ids (nth vs0 2))), (15, wr h15 h17, (ids v16))] ∧
  BIN 0 .add (nth vs0 5) (.d (.num .i64 1)) fun v18 =>
  next19 [(nth vs0 0), (nth vs0 1), (nth vs0 2), (nth vs0 3), (nth vs0 4), v18] h17
def vcp_proof_parsed_k1 (_P : Ctx) (_pre : List ABlk) (_r : AV) (_post : List PB) (vs0 : List AV) (h1 : Heap) (v4 : AV) (v7 : AV) (next16 : List AV → Heap → Prop) : Prop :=
  FADDR 2 (nth vs0 2) h1 fun v2 =>
  LOAD false 1 v2 h1 fun v3 =>
  BIN 0 .sub v4 (.d (.num .i64 2)) fun v5 =>
  BIN 0 .add (.d (.num .i64 1)) v5 fun v6 =>
  BUILD [(0, 1), (1, 1)] [.d (.num .i64 0), .zc] [(0, v6), (1, v7)] fun v8 =>
  MKS T_api_ProofEntry 2 [v8] 504 h1 fun v9 h10 =>
  APP T_api_ProofEntry 2 v3 v9 512 h10 fun v11 h12 =>
  FADDR 2 (nth vs0 2) h12 fun v13 =>
  STORE 1 v13 v11 h12 fun h14 =>
  BIN 0 .add (nth vs0 5) (.d (.num .i64 1)) fun v15 =>
  next16 [(nth vs0 0), (nth vs0 1), (nth vs0 2), (nth vs0 3), (nth vs0 4), v15] h14
def vcp_proof_parsed_k2 (P : Ctx) (pre : List ABlk) (r : AV) (post : List PB) (v0 : AV) (v4 : AV) (h5 : Heap) (vs10 : List AV) (next11 : List AV → Heap → Prop) : Prop :=
  EXT v0 0 fun v1 =>
  EXT v0 1 fun v2 =>
  BIN 0 .neq v1 (.d (.num .i64 0)) fun v3 =>
  CALL P f_proof_need [v3, v4] 424 h5 (fun _ _ h8 =>
  BIN 0 .eql v1 (.d (.num .i64 1)) fun v9 =>
  COND v9
  (vcp_proof_parsed_k0 P pre r post vs10 h8 v2 next11)
  (vcp_proof_parsed_k1 P pre r post vs10 h8 v1 v2 next11))
  (fun _ pv12 ph13 =>
  POST pv12 ph13 pre r post)
def vcp_proof_parsed_k3 (P : Ctx) (pre : List ABlk) (r : AV) (post : List PB) (v0 : AV) (vs1 : List AV) (h3 : Heap) : Prop :=
  BIN 0 .eql v0 (nth vs1 0) fun v2 =>
  CALL P f_proof_need [v2, (nth vs1 0)] 360 h3 (fun _ _ h6 =>
  LOAD true 3 (nth vs1 2) h6 fun v7 =>
  STORE 3 (nth vs1 1) v7 h6 fun h8 =>
  LOAD true 3 (nth vs1 1) h8 fun _ =>
  False)
  (fun _ pv9 ph10 =>
  POST pv9 ph10 pre r post)
def vcp_proof_parsed_k4 (P : Ctx) (pre : List ABlk) (r : AV) (post : List PB) (vs0 : List AV) (h2 : Heap) (next8 : List AV → Heap → Prop) : Prop :=
  BIN 0 .lss (nth vs0 5) (nth vs0 4) fun v1 =>
  COND v1
  (IADDR 1 T_string (nth vs0 3) (nth vs0 5) h2 fun v3 =>
  LOAD false 1 v3 h2 fun v4 =>
  CALL P f_proof_numbered [v4] 352 h2 (fun _ v6 h7 =>
  vcp_proof_parsed_k2 P pre r post v6 v4 h7 vs0 next8)
  (fun _ pv9 ph10 =>
  POST pv9 ph10 pre r post))
  (LOAD true 3 (nth vs0 2) h2 fun v11 =>
  CALL P f_proof_text [v11] 328 h2 (fun _ v13 h14 =>
  vcp_proof_parsed_k3 P pre r post v13 vs0 h14)
  (fun _ pv15 ph16 =>
  POST pv15 ph16 pre r post))
def vcp_proof_parsed_k5 (P : Ctx) (pre : List ABlk) (r : AV) (post : List PB) (v0 : AV) (h1 : Heap) (v8 : AV) (a13 : AV) (v14 : AV) : Prop :=
  IADDR 1 T_int v0 (.d (.num .i64 0)) h1 fun v2 =>
  LOAD false 1 v2 h1 fun v3 =>
  BUILD [(0, 1), (1, 1), (2, 1)] [.d (.num .i64 0), .zc, .zc] [(0, v3)] fun v4 =>
  ALLOC T_api_ProofPage [.d (.num .i64 0), .zc, .zc] 232 h1 fun v5 h6 =>
  STORE 3 v5 v4 h6 fun h7 =>
  LEN false v8 h7 fun v9 =>
  BIN 0 .sub v9 (.d (.num .i64 2)) fun v10 =>
  SLICE 2 v8 (some (.d (.num .i64 1))) (some v10) none fun v11 =>
  LEN false v11 h7 fun v12 =>
  LOOP [a13, v14, v5, v11, v12, (.d (.num .i64 0))] h7 304 fun vs15 h16 next17 =>
  vcp_proof_parsed_k4 P pre r post vs15 h16 next17
def vcp_proof_parsed_k6 (P : Ctx) (pre : List ABlk) (r : AV) (post : List PB) (v0 : AV) (h1 : Heap) (a10 : AV) (v14 : AV) : Prop :=
  IADDR 1 T_string v0 (.d (.num .i64 0)) h1 fun v2 =>
  LOAD false 1 v2 h1 fun v3 =>
  CALL P f_proof_numbered [v3] 120 h1 (fun _ v5 h6 =>
  EXT v5 0 fun v7 =>
  EXT v5 1 fun v8 =>
  BIN 0 .eql v7 (.d (.num .i64 0)) fun v9 =>
  CALL P f_proof_need [v9, a10] 192 h6 (fun _ _ h13 =>
  vcp_proof_parsed_k5 P pre r post v8 h13 v0 a10 v14)
  (fun _ pv15 ph16 =>
  POST pv15 ph16 pre r post))
  (fun _ pv17 ph18 =>
  POST pv17 ph18 pre r post)
def vcp_proof_parsed (P : Ctx) (pre : List ABlk) (a0 : AV) (r : AV) (post : List PB) : Prop :=
  let h0 : Heap := numbered 0 pre
  ALLOC T_api_ProofPage [.d (.num .i64 0), .zc, .zc] 24 h0 fun v2 h1 =>
  CALL P f_strings_Split [a0, (.d (.str [10]))] 40 h1 (fun _ v12 h2 =>
  LEN false v12 h2 fun v14 =>
  BIN 0 .geq v14 (.d (.num .i64 3)) fun v15 =>
  CALL P f_proof_need [v15, a0] 88 h2 (fun _ _ h6 =>
  vcp_proof_parsed_k6 P pre r post v12 h6 a0 v2)
  (fun _ pv8 ph9 =>
  POST pv8 ph9 pre r post))
  (fun _ pv4 ph5 =>
  POST pv4 ph5 pre r post)
theorem vcp_proof_parsed_eq (g : GG) (pre : List ABlk) (a0 : AV) (r : AV) (post : List PB) : vcFn2 (Tz g) true annp_proof_parsed Tryz.f92 pre [a0] (.pan r) post = vcp_proof_parsed (Tz g) pre a0 r post := by kernel_rfl
theorem hfp_proof_parsed : Tryz.prog.funcs[f_proof_parsed]? = some Tryz.f92 := by kernel_rfl
theorem okp_proof_parsed : fnVcOK Tryz.prog Tryz.f92 = true := by kernel_rfl
theorem ntp_proof_parsed : Nat.ble 1 Tryz.f92.ntmps = true := by kernel_rfl
theorem meetsHp_proof_parsed {g : GG} {pre : List ABlk} {a0 : AV} {r : AV} {post : List PB} (hk : Nat.ble pre.length 24 = true) (h : vcp_proof_parsed (Tz g) pre a0 r post) : MeetsH (Tz g) f_proof_parsed pre [a0] (.pan r) post :=
  meetsH_of_vc (C := Tz g) annp_proof_parsed hfp_proof_parsed okp_proof_parsed ntp_proof_parsed hk (pn := true) (Eq.mpr ((vcFn2_eq _ _ _ _ _ _ _ _).trans (vcp_proof_parsed_eq g pre a0 r post)) h)
theorem meetsP_proof_parsed {g : GG} {a0 : D} {x : D} (h : vcp_proof_parsed (Tz g) [] (.d a0) (.d x) []) : MeetsP (Tz g) f_proof_parsed [a0] x := meetsHp_proof_parsed rfl h
def ann_proof_Read : Nat → List Nat := fun n => match n with  | _ => []
def vc_proof_Read_k0 (_P : Ctx) (pre : List ABlk) (r : AV) (post : List PB) (v0 : AV) (v3 : AV) (h4 : Heap) (v6 : AV) : Prop :=
  NOT v0 fun v1 =>
  COND v1
  (BUILD [(0, 1), (1, 1), (2, 1)] [.d (.num .i64 0), .zc, .zc] [] fun v2 =>
  STORE 3 v3 v2 h4 fun h5 =>
  LOAD true 3 v3 h5 fun r13 =>
  POST (.tup [r13, (.d (.num .i64 2))]) h5 pre r post)
  (LOAD true 3 v6 h4 fun v7 =>
  STORE 3 v3 v7 h4 fun h8 =>
  LOAD true 3 v3 h8 fun r15 =>
  POST (.tup [r15, (.d (.num .i64 0))]) h8 pre r post)
def vc_proof_Read_k1 (P : Ctx) (pre : List ABlk) (r : AV) (post : List PB) (v0 : AV) (v3 : AV) (h4 : Heap) (v6 : AV) : Prop :=
  BIN 0 .neq v0 (.d (.num .i64 0)) fun v1 =>
  COND v1
  (BUILD [(0, 1), (1, 1), (2, 1)] [.d (.num .i64 0), .zc, .zc] [] fun v2 =>
  STORE 3 v3 v2 h4 fun h5 =>
  LOAD true 3 v3 h5 fun r9 =>
  POST (.tup [r9, v0]) h5 pre r post)
  (LOAD true 3 v6 h4 fun v7 =>
  CALL P f_proof_isPage [v7] 128 h4 (fun _ v9 h10 =>
  vc_proof_Read_k0 P pre r post v9 v3 h10 v6)
  (fun _ _ _ => False))
def vc_proof_Read (P : Ctx) (pre : List ABlk) (a0 : AV) (r : AV) (post : List PB) : Prop :=
  let h0 : Heap := numbered 0 pre
  BOX T_string a0 24 h0 fun v1 h1 =>
  ALLOC T_api_ProofPage [.d (.num .i64 0), .zc, .zc] 32 h1 fun v2 h2 =>
  LOAD false 1 v1 h2 fun v6 =>
  LEN true v6 h2 fun v7 =>
  BIN 0 .gtr v7 (.d (.num .i64 270)) fun v8 =>
  COND v8
  (BUILD [(0, 1), (1, 1), (2, 1)] [.d (.num .i64 0), .zc, .zc] [] fun v9 =>
  STORE 3 v2 v9 h2 fun h3 =>
  LOAD true 3 v2 h3 fun r4 =>
  POST (.tup [r4, (.d (.num .i64 3))]) h3 pre r post)
  (ALLOC T_api_ProofPage [.d (.num .i64 0), .zc, .zc] 72 h2 fun v4 h5 =>
  CALL P f_proof_attempt [(.fn f_proof_Read_1 [] [v1, v4])] 88 h5 (fun _ v11 h6 =>
  vc_proof_Read_k1 P pre r post v11 v2 h6 v4)
  (fun _ _ _ => False))
theorem vc_proof_Read_eq (g : GG) (pre : List ABlk) (a0 : AV) (r : AV) (post : List PB) : vcFn2 (Tz g) false ann_proof_Read Tryz.f50 pre [a0] (.ret r) post = vc_proof_Read (Tz g) pre a0 r post := by kernel_rfl
theorem hf_proof_Read : Tryz.prog.funcs[f_proof_Read]? = some Tryz.f50 := by kernel_rfl
theorem ok_proof_Read : fnVcOK Tryz.prog Tryz.f50 = true := by kernel_rfl
theorem nt_proof_Read : Nat.ble 1 Tryz.f50.ntmps = true := by kernel_rfl
theorem meetsH_proof_Read {g : GG} {pre : List ABlk} {a0 : AV} {r : AV} {post : List PB} (hk : Nat.ble pre.length 24 = true) (h : vc_proof_Read (Tz g) pre a0 r post) : MeetsH (Tz g) f_proof_Read pre [a0] (.ret r) post :=
  meetsH_of_vc (C := Tz g) ann_proof_Read hf_proof_Read ok_proof_Read nt_proof_Read hk (pn := false) (Eq.mpr ((vcFn2_eq _ _ _ _ _ _ _ _).trans (vc_proof_Read_eq g pre a0 r post)) h)
theorem meets_proof_Read {g : GG} {a0 : D} {r : Res} (h : vc_proof_Read (Tz g) [] (.d a0) r.val (r.bl.map .upd)) : Meets (Tz g) f_proof_Read [a0] r := meetsH_proof_Read rfl h
def ann_proof_Read_1 : Nat → List Nat := fun n => match n with  | _ => []
def vc_proof_Read_1 (P : Ctx) (pre : List ABlk) (a0 a1 : AV) (r : AV) (post : List PB) : Prop :=
  let h0 : Heap := numbered 0 pre
  LOAD false 1 a0 h0 fun v2 =>
  CALL P f_proof_parsed [v2] 32 h0 (fun _ v3 h1 =>
  STORE 3 a1 v3 h1 fun h3 =>
  POST (.tup []) h3 pre r post)
  (fun _ _ _ => False)
theorem vc_proof_Read_1_eq (g : GG) (pre : List ABlk) (a0 a1 : AV) (r : AV) (post : List PB) : vcFn2 (Tz g) false ann_proof_Read_1 Tryz.f91 pre [a0, a1] (.ret r) post = vc_proof_Read_1 (Tz g) pre a0 a1 r post := by kernel_rfl
theorem hf_proof_Read_1 : Tryz.prog.funcs[f_proof_Read_1]? = some Tryz.f91 := by kernel_rfl
theorem ok_proof_Read_1 : fnVcOK Tryz.prog Tryz.f91 = true := by kernel_rfl
theorem nt_proof_Read_1 : Nat.ble 2 Tryz.f91.ntmps = true := by kernel_rfl
theorem meetsH_proof_Read_1 {g : GG} {pre : List ABlk} {a0 a1 : AV} {r : AV} {post : List PB} (hk : Nat.ble pre.length 24 = true) (h : vc_proof_Read_1 (Tz g) pre a0 a1 r post) : MeetsH (Tz g) f_proof_Read_1 pre [a0, a1] (.ret r) post :=
  meetsH_of_vc (C := Tz g) ann_proof_Read_1 hf_proof_Read_1 ok_proof_Read_1 nt_proof_Read_1 hk (pn := false) (Eq.mpr ((vcFn2_eq _ _ _ _ _ _ _ _).trans (vc_proof_Read_1_eq g pre a0 a1 r post)) h)
def annp_proof_Read_1 : Nat → List Nat := fun n => match n with  | _ => []
def vcp_proof_Read_1 (P : Ctx) (pre : List ABlk) (a0 a1 : AV) (r : AV) (post : List PB) : Prop :=
  let h0 : Heap := numbered 0 pre
  LOAD false 1 a0 h0 fun v2 =>
  CALL P f_proof_parsed [v2] 32 h0 (fun _ v3 h1 =>
  STORE 3 a1 v3 h1 fun _ =>
  False)
  (fun _ pv3 ph4 =>
  POST pv3 ph4 pre r post)
theorem vcp_proof_Read_1_eq (g : GG) (pre : List ABlk) (a0 a1 : AV) (r : AV) (post : List PB) : vcFn2 (Tz g) true annp_proof_Read_1 Tryz.f91 pre [a0, a1] (.pan r) post = vcp_proof_Read_1 (Tz g) pre a0 a1 r post := by kernel_rfl
theorem hfp_proof_Read_1 : Tryz.prog.funcs[f_proof_Read_1]? = some Tryz.f91 := by kernel_rfl
theorem okp_proof_Read_1 : fnVcOK Tryz.prog Tryz.f91 = true := by kernel_rfl
theorem ntp_proof_Read_1 : Nat.ble 2 Tryz.f91.ntmps = true := by kernel_rfl
theorem meetsHp_proof_Read_1 {g : GG} {pre : List ABlk} {a0 a1 : AV} {r : AV} {post : List PB} (hk : Nat.ble pre.length 24 = true) (h : vcp_proof_Read_1 (Tz g) pre a0 a1 r post) : MeetsH (Tz g) f_proof_Read_1 pre [a0, a1] (.pan r) post :=
  meetsH_of_vc (C := Tz g) annp_proof_Read_1 hfp_proof_Read_1 okp_proof_Read_1 ntp_proof_Read_1 hk (pn := true) (Eq.mpr ((vcFn2_eq _ _ _ _ _ _ _ _).trans (vcp_proof_Read_1_eq g pre a0 a1 r post)) h)
def ann_ref09_Read : Nat → List Nat := fun n => match n with | 4 => [0, 2, 4, 5, 6] | _ => []
def vc_ref09_Read_k0 (_P : Ctx) (pre : List ABlk) (r : AV) (post : List PB) (v0 : AV) (vs1 : List AV) (h2 : Heap) (v5 : AV) (next14 : List AV → Heap → Prop) : Prop :=
  COND v0
  (FADDR 2 (nth vs1 2) h2 fun v3 =>
  LOAD false 1 v3 h2 fun v4 =>
  BUILD [(0, 1), (1, 1)] [.d (.num .i64 0), .zc] [(0, (.d (.num .i64 3))), (1, v5)] fun v6 =>
  MKS T_api_ProofEntry 2 [v6] 720 h2 fun v7 h8 =>
  APP T_api_ProofEntry 2 v4 v7 728 h8 fun v9 h10 =>
  FADDR 2 (nth vs1 2) h10 fun v11 =>
  STORE 1 v11 v9 h10 fun h12 =>
  BIN 0 .add (nth vs1 4) (.d (.num .i64 1)) fun v13 =>
  next14 [(nth vs1 0), (nth vs1 1), (nth vs1 2), (nth vs1 3), v13] h12)
  (BUILD [(0, 1), (1, 1), (2, 1)] [.d (.num .i64 0), .zc, .zc] [] fun v15 =>
  STORE 3 (nth vs1 1) v15 h2 fun h16 =>
  LOAD true 3 (nth vs1 1) h16 fun r39 =>
  POST (.tup [r39, (.d (.bool false))]) h16 pre r post)
def vc_ref09_Read_k1 (_P : Ctx) (_pre : List ABlk) (_r : AV) (_post : List PB) (vs0 : List AV) (h1 : Heap) (v4 : AV) (next13 : List AV → Heap → Prop) : Prop :=
  FADDR 2 (nth vs0 2) h1 fun v2 =>
  LOAD false 1 v2 h1 fun v3 =>
  BUILD [(0, 1), (1, 1)] [.d (.num .i64 0), .zc] [(0, (.d (.num .i64 2))), (1, v4)] fun v5 =>
  MKS T_api_ProofEntry 2 [v5] 616 h1 fun v6 h7 =>
  APP T_api_ProofEntry 2 v3 v6 624 h7 fun v8 h9 =>
  FADDR 2 (nth vs0 2) h9 fun v10 =>
  STORE 1 v10 v8 h9 fun h11 =>
  BIN 0 .add (nth vs0 4) (.d (.num .i64 1)) fun v12 =>
  next13 [(nth vs0 0), (nth vs0 1), (nth vs0 2), (nth vs0 3), v12] h11
def vc_ref09_Read_k2 (P : Ctx) (pre : List ABlk) (r : AV) (post : List PB) (v0 : AV) (h1 : Heap) (v5 : AV) (vs11 : List AV) (next12 : List AV → Heap → Prop) : Prop :=
  IADDR 1 T_string v0 (.d (.num .i64 0)) h1 fun v2 =>
  LOAD false 1 v2 h1 fun v3 =>
  BIN 0 .eql v3 (.d (.str [102, 97, 108, 108])) fun v4 =>
  CONDG v4
  (LEN false v5 h1 fun v6 =>
  BIN 0 .eql v6 (.d (.num .i64 1)) fun v7 =>
  CONDG v7
  (CALL P f_ref09_plain [v5, (.d (.num .i64 1))] 672 h1 (fun _ v9 h10 =>
  vc_ref09_Read_k0 P pre r post v9 vs11 h10 v5 next12)
  (fun _ _ _ => False))
  (BUILD [(0, 1), (1, 1), (2, 1)] [.d (.num .i64 0), .zc, .zc] [] fun v13 =>
  STORE 3 (nth vs11 1) v13 h1 fun h14 =>
  LOAD true 3 (nth vs11 1) h14 fun r41 =>
  POST (.tup [r41, (.d (.bool false))]) h14 pre r post))
  (BUILD [(0, 1), (1, 1), (2, 1)] [.d (.num .i64 0), .zc, .zc] [] fun v13 =>
  STORE 3 (nth vs11 1) v13 h1 fun h15 =>
  LOAD true 3 (nth vs11 1) h15 fun r43 =>
  POST (.tup [r43, (.d (.bool false))]) h15 pre r post)
def vc_ref09_Read_k3 (_P : Ctx) (pre : List ABlk) (r : AV) (post : List PB) (v0 : AV) (vs1 : List AV) (h2 : Heap) (v5 : AV) (next14 : List AV → Heap → Prop) : Prop :=
  COND v0
  (FADDR 2 (nth vs1 2) h2 fun v3 =>
  LOAD false 1 v3 h2 fun v4 =>
  BUILD [(0, 1), (1, 1)] [.d (.num .i64 0), .zc] [(0, (.d (.num .i64 3))), (1, v5)] fun v6 =>
  MKS T_api_ProofEntry 2 [v6] 720 h2 fun v7 h8 =>
  APP T_api_ProofEntry 2 v4 v7 728 h8 fun v9 h10 =>
  FADDR 2 (nth vs1 2) h10 fun v11 =>
  STORE 1 v11 v9 h10 fun h12 =>
  BIN 0 .add (nth vs1 4) (.d (.num .i64 1)) fun v13 =>
  next14 [(nth vs1 0), (nth vs1 1), (nth vs1 2), (nth vs1 3), v13] h12)
  (BUILD [(0, 1), (1, 1), (2, 1)] [.d (.num .i64 0), .zc, .zc] [] fun v15 =>
  STORE 3 (nth vs1 1) v15 h2 fun h16 =>
  LOAD true 3 (nth vs1 1) h16 fun r50 =>
  POST (.tup [r50, (.d (.bool false))]) h16 pre r post)
def vc_ref09_Read_k4 (_P : Ctx) (pre : List ABlk) (r : AV) (post : List PB) (v0 : AV) (vs1 : List AV) (h2 : Heap) (v5 : AV) (next14 : List AV → Heap → Prop) : Prop :=
  COND v0
  (FADDR 2 (nth vs1 2) h2 fun v3 =>
  LOAD false 1 v3 h2 fun v4 =>
  BUILD [(0, 1), (1, 1)] [.d (.num .i64 0), .zc] [(0, (.d (.num .i64 3))), (1, v5)] fun v6 =>
  MKS T_api_ProofEntry 2 [v6] 720 h2 fun v7 h8 =>
  APP T_api_ProofEntry 2 v4 v7 728 h8 fun v9 h10 =>
  FADDR 2 (nth vs1 2) h10 fun v11 =>
  STORE 1 v11 v9 h10 fun h12 =>
  BIN 0 .add (nth vs1 4) (.d (.num .i64 1)) fun v13 =>
  next14 [(nth vs1 0), (nth vs1 1), (nth vs1 2), (nth vs1 3), v13] h12)
  (BUILD [(0, 1), (1, 1), (2, 1)] [.d (.num .i64 0), .zc, .zc] [] fun v15 =>
  STORE 3 (nth vs1 1) v15 h2 fun h16 =>
  LOAD true 3 (nth vs1 1) h16 fun r61 =>
  POST (.tup [r61, (.d (.bool false))]) h16 pre r post)
def vc_ref09_Read_k5 (P : Ctx) (pre : List ABlk) (r : AV) (post : List PB) (v0 : AV) (h1 : Heap) (vs7 : List AV) (next8 : List AV → Heap → Prop) (v9 : AV) : Prop :=
  LEN false v0 h1 fun v2 =>
  BIN 0 .eql v2 (.d (.num .i64 3)) fun v3 =>
  CONDG v3
  (CALL P f_ref09_plain [v0, (.d (.num .i64 2))] 568 h1 (fun _ v5 h6 =>
  COND v5
  (vc_ref09_Read_k1 P pre r post vs7 h6 v0 next8)
  (vc_ref09_Read_k2 P pre r post v9 h6 v0 vs7 next8))
  (fun _ _ _ => False))
  (IADDR 1 T_string v9 (.d (.num .i64 0)) h1 fun v10 =>
  LOAD false 1 v10 h1 fun v11 =>
  BIN 0 .eql v11 (.d (.str [102, 97, 108, 108])) fun v12 =>
  CONDG v12
  (LEN false v0 h1 fun v13 =>
  BIN 0 .eql v13 (.d (.num .i64 1)) fun v14 =>
  CONDG v14
  (CALL P f_ref09_plain [v0, (.d (.num .i64 1))] 672 h1 (fun _ v16 h17 =>
  vc_ref09_Read_k3 P pre r post v16 vs7 h17 v0 next8)
  (fun _ _ _ => False))
  (BUILD [(0, 1), (1, 1), (2, 1)] [.d (.num .i64 0), .zc, .zc] [] fun v18 =>
  STORE 3 (nth vs7 1) v18 h1 fun h19 =>
  LOAD true 3 (nth vs7 1) h19 fun r52 =>
  POST (.tup [r52, (.d (.bool false))]) h19 pre r post))
  (BUILD [(0, 1), (1, 1), (2, 1)] [.d (.num .i64 0), .zc, .zc] [] fun v18 =>
  STORE 3 (nth vs7 1) v18 h1 fun h20 =>
  LOAD true 3 (nth vs7 1) h20 fun r54 =>
  POST (.tup [r54, (.d (.bool false))]) h20 pre r post))
def vc_ref09_Read_k6 (P : Ctx) (pre : List ABlk) (r : AV) (post : List PB) (v0 : AV) (h1 : Heap) (v5 : AV) (vs11 : List AV) (next12 : List AV → Heap → Prop) : Prop :=
  IADDR 1 T_string v0 (.d (.num .i64 0)) h1 fun v2 =>
  LOAD false 1 v2 h1 fun v3 =>
  BIN 0 .eql v3 (.d (.str [102, 97, 108, 108])) fun v4 =>
  CONDG v4
  (LEN false v5 h1 fun v6 =>
  BIN 0 .eql v6 (.d (.num .i64 1)) fun v7 =>
  CONDG v7
  (CALL P f_ref09_plain [v5, (.d (.num .i64 1))] 672 h1 (fun _ v9 h10 =>
  vc_ref09_Read_k4 P pre r post v9 vs11 h10 v5 next12)
  (fun _ _ _ => False))
  (BUILD [(0, 1), (1, 1), (2, 1)] [.d (.num .i64 0), .zc, .zc] [] fun v13 =>
  STORE 3 (nth vs11 1) v13 h1 fun h14 =>
  LOAD true 3 (nth vs11 1) h14 fun r63 =>
  POST (.tup [r63, (.d (.bool false))]) h14 pre r post))
  (BUILD [(0, 1), (1, 1), (2, 1)] [.d (.num .i64 0), .zc, .zc] [] fun v13 =>
  STORE 3 (nth vs11 1) v13 h1 fun h15 =>
  LOAD true 3 (nth vs11 1) h15 fun r65 =>
  POST (.tup [r65, (.d (.bool false))]) h15 pre r post)
def vc_ref09_Read_k7 (_P : Ctx) (_pre : List ABlk) (_r : AV) (_post : List PB) (vs0 : List AV) (h1 : Heap) (v4 : AV) (next13 : List AV → Heap → Prop) : Prop :=
  FADDR 2 (nth vs0 2) h1 fun v2 =>
  LOAD false 1 v2 h1 fun v3 =>
  BUILD [(0, 1), (1, 1)] [.d (.num .i64 0), .zc] [(0, (.d (.num .i64 1))), (1, v4)] fun v5 =>
  MKS T_api_ProofEntry 2 [v5] 512 h1 fun v6 h7 =>
  APP T_api_ProofEntry 2 v3 v6 520 h7 fun v8 h9 =>
  FADDR 2 (nth vs0 2) h9 fun v10 =>
  STORE 1 v10 v8 h9 fun h11 =>
  BIN 0 .add (nth vs0 4) (.d (.num .i64 1)) fun v12 =>
  next13 [(nth vs0 0), (nth vs0 1), (nth vs0 2), (nth vs0 3), v12] h11
def vc_ref09_Read_k8 (P : Ctx) (pre : List ABlk) (r : AV) (post : List PB) (v0 : AV) (h1 : Heap) (v5 : AV) (vs6 : List AV) (next7 : List AV → Heap → Prop) : Prop :=
  IADDR 1 T_string v0 (.d (.num .i64 0)) h1 fun v2 =>
  LOAD false 1 v2 h1 fun v3 =>
  BIN 0 .eql v3 (.d (.str [109, 101, 110, 100])) fun v4 =>
  CONDG v4
  (vc_ref09_Read_k5 P pre r post v5 h1 vs6 next7 v0)
  (vc_ref09_Read_k6 P pre r post v0 h1 v5 vs6 next7)
def vc_ref09_Read_k9 (_P : Ctx) (pre : List ABlk) (r : AV) (post : List PB) (v0 : AV) (vs1 : List AV) (h2 : Heap) (v5 : AV) (next14 : List AV → Heap → Prop) : Prop :=
  COND v0
  (FADDR 2 (nth vs1 2) h2 fun v3 =>
  LOAD false 1 v3 h2 fun v4 =>
  BUILD [(0, 1), (1, 1)] [.d (.num .i64 0), .zc] [(0, (.d (.num .i64 3))), (1, v5)] fun v6 =>
  MKS T_api_ProofEntry 2 [v6] 720 h2 fun v7 h8 =>
  APP T_api_ProofEntry 2 v4 v7 728 h8 fun v9 h10 =>
  FADDR 2 (nth vs1 2) h10 fun v11 =>
  STORE 1 v11 v9 h10 fun h12 =>
  BIN 0 .add (nth vs1 4) (.d (.num .i64 1)) fun v13 =>
  next14 [(nth vs1 0), (nth vs1 1), (nth vs1 2), (nth vs1 3), v13] h12)
  (BUILD [(0, 1), (1, 1), (2, 1)] [.d (.num .i64 0), .zc, .zc] [] fun v15 =>
  STORE 3 (nth vs1 1) v15 h2 fun h16 =>
  LOAD true 3 (nth vs1 1) h16 fun r77 =>
  POST (.tup [r77, (.d (.bool false))]) h16 pre r post)
def vc_ref09_Read_k10 (P : Ctx) (pre : List ABlk) (r : AV) (post : List PB) (v0 : AV) (h1 : Heap) (v5 : AV) (vs11 : List AV) (next12 : List AV → Heap → Prop) : Prop :=
  IADDR 1 T_string v0 (.d (.num .i64 0)) h1 fun v2 =>
  LOAD false 1 v2 h1 fun v3 =>
  BIN 0 .eql v3 (.d (.str [102, 97, 108, 108])) fun v4 =>
  CONDG v4
  (LEN false v5 h1 fun v6 =>
  BIN 0 .eql v6 (.d (.num .i64 1)) fun v7 =>
  CONDG v7
  (CALL P f_ref09_plain [v5, (.d (.num .i64 1))] 672 h1 (fun _ v9 h10 =>
  vc_ref09_Read_k9 P pre r post v9 vs11 h10 v5 next12)
  (fun _ _ _ => False))
  (BUILD [(0, 1), (1, 1), (2, 1)] [.d (.num .i64 0), .zc, .zc] [] fun v13 =>
  STORE 3 (nth vs11 1) v13 h1 fun h14 =>
  LOAD true 3 (nth vs11 1) h14 fun r79 =>
  POST (.tup [r79, (.d (.bool false))]) h14 pre r post))
  (BUILD [(0, 1), (1, 1), (2, 1)] [.d (.num .i64 0), .zc, .zc] [] fun v13 =>
  STORE 3 (nth vs11 1) v13 h1 fun h15 =>
  LOAD true 3 (nth vs11 1) h15 fun r81 =>
  POST (.tup [r81, (.d (.bool false))]) h15 pre r post)
def vc_ref09_Read_k11 (_P : Ctx) (pre : List ABlk) (r : AV) (post : List PB) (v0 : AV) (vs1 : List AV) (h2 : Heap) (v5 : AV) (next14 : List AV → Heap → Prop) : Prop :=
  COND v0
  (FADDR 2 (nth vs1 2) h2 fun v3 =>
  LOAD false 1 v3 h2 fun v4 =>
  BUILD [(0, 1), (1, 1)] [.d (.num .i64 0), .zc] [(0, (.d (.num .i64 3))), (1, v5)] fun v6 =>
  MKS T_api_ProofEntry 2 [v6] 720 h2 fun v7 h8 =>
  APP T_api_ProofEntry 2 v4 v7 728 h8 fun v9 h10 =>
  FADDR 2 (nth vs1 2) h10 fun v11 =>
  STORE 1 v11 v9 h10 fun h12 =>
  BIN 0 .add (nth vs1 4) (.d (.num .i64 1)) fun v13 =>
  next14 [(nth vs1 0), (nth vs1 1), (nth vs1 2), (nth vs1 3), v13] h12)
  (BUILD [(0, 1), (1, 1), (2, 1)] [.d (.num .i64 0), .zc, .zc] [] fun v15 =>
  STORE 3 (nth vs1 1) v15 h2 fun h16 =>
  LOAD true 3 (nth vs1 1) h16 fun r88 =>
  POST (.tup [r88, (.d (.bool false))]) h16 pre r post)
def vc_ref09_Read_k12 (_P : Ctx) (pre : List ABlk) (r : AV) (post : List PB) (v0 : AV) (vs1 : List AV) (h2 : Heap) (v5 : AV) (next14 : List AV → Heap → Prop) : Prop :=
  COND v0
  (FADDR 2 (nth vs1 2) h2 fun v3 =>
  LOAD false 1 v3 h2 fun v4 =>
  BUILD [(0, 1), (1, 1)] [.d (.num .i64 0), .zc] [(0, (.d (.num .i64 3))), (1, v5)] fun v6 =>
  MKS T_api_ProofEntry 2 [v6] 720 h2 fun v7 h8 =>
  APP T_api_ProofEntry 2 v4 v7 728 h8 fun v9 h10 =>
  FADDR 2 (nth vs1 2) h10 fun v11 =>
  STORE 1 v11 v9 h10 fun h12 =>
  BIN 0 .add (nth vs1 4) (.d (.num .i64 1)) fun v13 =>
  next14 [(nth vs1 0), (nth vs1 1), (nth vs1 2), (nth vs1 3), v13] h12)
  (BUILD [(0, 1), (1, 1), (2, 1)] [.d (.num .i64 0), .zc, .zc] [] fun v15 =>
  STORE 3 (nth vs1 1) v15 h2 fun h16 =>
  LOAD true 3 (nth vs1 1) h16 fun r99 =>
  POST (.tup [r99, (.d (.bool false))]) h16 pre r post)
def vc_ref09_Read_k13 (P : Ctx) (pre : List ABlk) (r : AV) (post : List PB) (v0 : AV) (h1 : Heap) (vs7 : List AV) (next8 : List AV → Heap → Prop) (v9 : AV) : Prop :=
  LEN false v0 h1 fun v2 =>
  BIN 0 .eql v2 (.d (.num .i64 3)) fun v3 =>
  CONDG v3
  (CALL P f_ref09_plain [v0, (.d (.num .i64 2))] 568 h1 (fun _ v5 h6 =>
  COND v5
  (vc_ref09_Read_k1 P pre r post vs7 h6 v0 next8)
  (vc_ref09_Read_k10 P pre r post v9 h6 v0 vs7 next8))
  (fun _ _ _ => False))
  (IADDR 1 T_string v9 (.d (.num .i64 0)) h1 fun v10 =>
  LOAD false 1 v10 h1 fun v11 =>
  BIN 0 .eql v11 (.d (.str [102, 97, 108, 108])) fun v12 =>
  CONDG v12
  (LEN false v0 h1 fun v13 =>
  BIN 0 .eql v13 (.d (.num .i64 1)) fun v14 =>
  CONDG v14
  (CALL P f_ref09_plain [v0, (.d (.num .i64 1))] 672 h1 (fun _ v16 h17 =>
  vc_ref09_Read_k11 P pre r post v16 vs7 h17 v0 next8)
  (fun _ _ _ => False))
  (BUILD [(0, 1), (1, 1), (2, 1)] [.d (.num .i64 0), .zc, .zc] [] fun v18 =>
  STORE 3 (nth vs7 1) v18 h1 fun h19 =>
  LOAD true 3 (nth vs7 1) h19 fun r90 =>
  POST (.tup [r90, (.d (.bool false))]) h19 pre r post))
  (BUILD [(0, 1), (1, 1), (2, 1)] [.d (.num .i64 0), .zc, .zc] [] fun v18 =>
  STORE 3 (nth vs7 1) v18 h1 fun h20 =>
  LOAD true 3 (nth vs7 1) h20 fun r92 =>
  POST (.tup [r92, (.d (.bool false))]) h20 pre r post))
def vc_ref09_Read_k14 (P : Ctx) (pre : List ABlk) (r : AV) (post : List PB) (v0 : AV) (h1 : Heap) (v5 : AV) (vs11 : List AV) (next12 : List AV → Heap → Prop) : Prop :=
  IADDR 1 T_string v0 (.d (.num .i64 0)) h1 fun v2 =>
  LOAD false 1 v2 h1 fun v3 =>
  BIN 0 .eql v3 (.d (.str [102, 97, 108, 108])) fun v4 =>
  CONDG v4
  (LEN false v5 h1 fun v6 =>
  BIN 0 .eql v6 (.d (.num .i64 1)) fun v7 =>
  CONDG v7
  (CALL P f_ref09_plain [v5, (.d (.num .i64 1))] 672 h1 (fun _ v9 h10 =>
  vc_ref09_Read_k12 P pre r post v9 vs11 h10 v5 next12)
  (fun _ _ _ => False))
  (BUILD [(0, 1), (1, 1), (2, 1)] [.d (.num .i64 0), .zc, .zc] [] fun v13 =>
  STORE 3 (nth vs11 1) v13 h1 fun h14 =>
  LOAD true 3 (nth vs11 1) h14 fun r101 =>
  POST (.tup [r101, (.d (.bool false))]) h14 pre r post))
  (BUILD [(0, 1), (1, 1), (2, 1)] [.d (.num .i64 0), .zc, .zc] [] fun v13 =>
  STORE 3 (nth vs11 1) v13 h1 fun h15 =>
  LOAD true 3 (nth vs11 1) h15 fun r103 =>
  POST (.tup [r103, (.d (.bool false))]) h15 pre r post)
def vc_ref09_Read_k15 (_P : Ctx) (pre : List ABlk) (r : AV) (post : List PB) (v0 : AV) (vs1 : List AV) (h2 : Heap) (v5 : AV) (next14 : List AV → Heap → Prop) : Prop :=
  COND v0
  (FADDR 2 (nth vs1 2) h2 fun v3 =>
  LOAD false 1 v3 h2 fun v4 =>
  BUILD [(0, 1), (1, 1)] [.d (.num .i64 0), .zc] [(0, (.d (.num .i64 3))), (1, v5)] fun v6 =>
  MKS T_api_ProofEntry 2 [v6] 720 h2 fun v7 h8 =>
  APP T_api_ProofEntry 2 v4 v7 728 h8 fun v9 h10 =>
  FADDR 2 (nth vs1 2) h10 fun v11 =>
  STORE 1 v11 v9 h10 fun h12 =>
  BIN 0 .add (nth vs1 4) (.d (.num .i64 1)) fun v13 =>
  next14 [(nth vs1 0), (nth vs1 1), (nth vs1 2), (nth vs1 3), v13] h12)
  (BUILD [(0, 1), (1, 1), (2, 1)] [.d (.num .i64 0), .zc, .zc] [] fun v15 =>
  STORE 3 (nth vs1 1) v15 h2 fun h16 =>
  LOAD true 3 (nth vs1 1) h16 fun r115 =>
  POST (.tup [r115, (.d (.bool false))]) h16 pre r post)
def vc_ref09_Read_k16 (P : Ctx) (pre : List ABlk) (r : AV) (post : List PB) (v0 : AV) (h1 : Heap) (v5 : AV) (vs11 : List AV) (next12 : List AV → Heap → Prop) : Prop :=
  IADDR 1 T_string v0 (.d (.num .i64 0)) h1 fun v2 =>
  LOAD false 1 v2 h1 fun v3 =>
  BIN 0 .eql v3 (.d (.str [102, 97, 108, 108])) fun v4 =>
  CONDG v4
  (LEN false v5 h1 fun v6 =>
  BIN 0 .eql v6 (.d (.num .i64 1)) fun v7 =>
  CONDG v7
  (CALL P f_ref09_plain [v5, (.d (.num .i64 1))] 672 h1 (fun _ v9 h10 =>
  vc_ref09_Read_k15 P pre r post v9 vs11 h10 v5 next12)
  (fun _ _ _ => False))
  (BUILD [(0, 1), (1, 1), (2, 1)] [.d (.num .i64 0), .zc, .zc] [] fun v13 =>
  STORE 3 (nth vs11 1) v13 h1 fun h14 =>
  LOAD true 3 (nth vs11 1) h14 fun r117 =>
  POST (.tup [r117, (.d (.bool false))]) h14 pre r post))
  (BUILD [(0, 1), (1, 1), (2, 1)] [.d (.num .i64 0), .zc, .zc] [] fun v13 =>
  STORE 3 (nth vs11 1) v13 h1 fun h15 =>
  LOAD true 3 (nth vs11 1) h15 fun r119 =>
  POST (.tup [r119, (.d (.bool false))]) h15 pre r post)
def vc_ref09_Read_k17 (_P : Ctx) (pre : List ABlk) (r : AV) (post : List PB) (v0 : AV) (vs1 : List AV) (h2 : Heap) (v5 : AV) (next14 : List AV → Heap → Prop) : Prop :=
  COND v0
  (FADDR 2 (nth vs1 2) h2 fun v3 =>
  LOAD false 1 v3 h2 fun v4 =>
  BUILD [(0, 1), (1, 1)] [.d (.num .i64 0), .zc] [(0, (.d (.num .i64 3))), (1, v5)] fun v6 =>
  MKS T_api_ProofEntry 2 [v6] 720 h2 fun v7 h8 =>
  APP T_api_ProofEntry 2 v4 v7 728 h8 fun v9 h10 =>
  FADDR 2 (nth vs1 2) h10 fun v11 =>
  STORE 1 v11 v9 h10 fun h12 =>
  BIN 0 .add (nth vs1 4) (.d (.num .i64 1)) fun v13 =>
  next14 [(nth vs1 0), (nth vs1 1), (nth vs1 2), (nth vs1 3), v13] h12)
  (BUILD [(0, 1), (1, 1), (2, 1)] [.d (.num .i64 0), .zc, .zc] [] fun v15 =>
  STORE 3 (nth vs1 1) v15 h2 fun h16 =>
  LOAD true 3 (nth vs1 1) h16 fun r126 =>
  POST (.tup [r126, (.d (.bool false))]) h16 pre r post)
def vc_ref09_Read_k18 (_P : Ctx) (pre : List ABlk) (r : AV) (post : List PB) (v0 : AV) (vs1 : List AV) (h2 : Heap) (v5 : AV) (next14 : List AV → Heap → Prop) : Prop :=
  COND v0
  (FADDR 2 (nth vs1 2) h2 fun v3 =>
  LOAD false 1 v3 h2 fun v4 =>
  BUILD [(0, 1), (1, 1)] [.d (.num .i64 0), .zc] [(0, (.d (.num .i64 3))), (1, v5)] fun v6 =>
  MKS T_api_ProofEntry 2 [v6] 720 h2 fun v7 h8 =>
  APP T_api_ProofEntry 2 v4 v7 728 h8 fun v9 h10 =>
  FADDR 2 (nth vs1 2) h10 fun v11 =>
  STORE 1 v11 v9 h10 fun h12 =>
  BIN 0 .add (nth vs1 4) (.d (.num .i64 1)) fun v13 =>
  next14 [(nth vs1 0), (nth vs1 1), (nth vs1 2), (nth vs1 3), v13] h12)
  (BUILD [(0, 1), (1, 1), (2, 1)] [.d (.num .i64 0), .zc, .zc] [] fun v15 =>
  STORE 3 (nth vs1 1) v15 h2 fun h16 =>
  LOAD true 3 (nth vs1 1) h16 fun r137 =>
  POST (.tup [r137, (.d (.bool false))]) h16 pre r post)
def vc_ref09_Read_k19 (P : Ctx) (pre : List ABlk) (r : AV) (post : List PB) (v0 : AV) (h1 : Heap) (vs7 : List AV) (next8 : List AV → Heap → Prop) (v9 : AV) : Prop :=
  LEN false v0 h1 fun v2 =>
  BIN 0 .eql v2 (.d (.num .i64 3)) fun v3 =>
  CONDG v3
  (CALL P f_ref09_plain [v0, (.d (.num .i64 2))] 568 h1 (fun _ v5 h6 =>
  COND v5
  (vc_ref09_Read_k1 P pre r post vs7 h6 v0 next8)
  (vc_ref09_Read_k16 P pre r post v9 h6 v0 vs7 next8))
  (fun _ _ _ => False))
  (IADDR 1 T_string v9 (.d (.num .i64 0)) h1 fun v10 =>
  LOAD false 1 v10 h1 fun v11 =>
  BIN 0 .eql v11 (.d (.str [102, 97, 108, 108])) fun v12 =>
  CONDG v12
  (LEN false v0 h1 fun v13 =>
  BIN 0 .eql v13 (.d (.num .i64 1)) fun v14 =>
  CONDG v14
  (CALL P f_ref09_plain [v0, (.d (.num .i64 1))] 672 h1 (fun _ v16 h17 =>
  vc_ref09_Read_k17 P pre r post v16 vs7 h17 v0 next8)
  (fun _ _ _ => False))
  (BUILD [(0, 1), (1, 1), (2, 1)] [.d (.num .i64 0), .zc, .zc] [] fun v18 =>
  STORE 3 (nth vs7 1) v18 h1 fun h19 =>
  LOAD true 3 (nth vs7 1) h19 fun r128 =>
  POST (.tup [r128, (.d (.bool false))]) h19 pre r post))
  (BUILD [(0, 1), (1, 1), (2, 1)] [.d (.num .i64 0), .zc, .zc] [] fun v18 =>
  STORE 3 (nth vs7 1) v18 h1 fun h20 =>
  LOAD true 3 (nth vs7 1) h20 fun r130 =>
  POST (.tup [r130, (.d (.bool false))]) h20 pre r post))
def vc_ref09_Read_k20 (P : Ctx) (pre : List ABlk) (r : AV) (post : List PB) (v0 : AV) (h1 : Heap) (v5 : AV) (vs11 : List AV) (next12 : List AV → Heap → Prop) : Prop :=
  IADDR 1 T_string v0 (.d (.num .i64 0)) h1 fun v2 =>
  LOAD false 1 v2 h1 fun v3 =>
  BIN 0 .eql v3 (.d (.str [102, 97, 108, 108])) fun v4 =>
  CONDG v4
  (LEN false v5 h1 fun v6 =>
  BIN 0 .eql v6 (.d (.num .i64 1)) fun v7 =>
  CONDG v7
  (CALL P f_ref09_plain [v5, (.d (.num .i64 1))] 672 h1 (fun _ v9 h10 =>
  vc_ref09_Read_k18 P pre r post v9 vs11 h10 v5 next12)
  (fun _ _ _ => False))
  (BUILD [(0, 1), (1, 1), (2, 1)] [.d (.num .i64 0), .zc, .zc] [] fun v13 =>
  STORE 3 (nth vs11 1) v13 h1 fun h14 =>
  LOAD true 3 (nth vs11 1) h14 fun r139 =>
  POST (.tup [r139, (.d (.bool false))]) h14 pre r post))
  (BUILD [(0, 1), (1, 1), (2, 1)] [.d (.num .i64 0), .zc, .zc] [] fun v13 =>
  STORE 3 (nth vs11 1) v13 h1 fun h15 =>
  LOAD true 3 (nth vs11 1) h15 fun r141 =>
  POST (.tup [r141, (.d (.bool false))]) h15 pre r post)
def vc_ref09_Read_k21 (P : Ctx) (pre : List ABlk) (r : AV) (post : List PB) (v0 : AV) (h1 : Heap) (vs7 : List AV) (next8 : List AV → Heap → Prop) (v9 : AV) : Prop :=
  LEN false v0 h1 fun v2 =>
  BIN 0 .eql v2 (.d (.num .i64 4)) fun v3 =>
  CONDG v3
  (CALL P f_ref09_plain [v0, (.d (.num .i64 4))] 464 h1 (fun _ v5 h6 =>
  COND v5
  (vc_ref09_Read_k7 P pre r post vs7 h6 v0 next8)
  (vc_ref09_Read_k8 P pre r post v9 h6 v0 vs7 next8))
  (fun _ _ _ => False))
  (IADDR 1 T_string v9 (.d (.num .i64 0)) h1 fun v10 =>
  LOAD false 1 v10 h1 fun v11 =>
  BIN 0 .eql v11 (.d (.str [109, 101, 110, 100])) fun v12 =>
  CONDG v12
  (vc_ref09_Read_k13 P pre r post v0 h1 vs7 next8 v9)
  (vc_ref09_Read_k14 P pre r post v9 h1 v0 vs7 next8))
def vc_ref09_Read_k22 (P : Ctx) (pre : List ABlk) (r : AV) (post : List PB) (v0 : AV) (h1 : Heap) (v5 : AV) (vs6 : List AV) (next7 : List AV → Heap → Prop) : Prop :=
  IADDR 1 T_string v0 (.d (.num .i64 0)) h1 fun v2 =>
  LOAD false 1 v2 h1 fun v3 =>
  BIN 0 .eql v3 (.d (.str [109, 101, 110, 100])) fun v4 =>
  CONDG v4
  (vc_ref09_Read_k19 P pre r post v5 h1 vs6 next7 v0)
  (vc_ref09_Read_k20 P pre r post v0 h1 v5 vs6 next7)
def vc_ref09_Read_k23 (_P : Ctx) (_pre : List ABlk) (_r : AV) (_post : List PB) (vs0 : List AV) (h1 : Heap) (v4 : AV) (next19 : List AV → Heap → Prop) : Prop :=
  FADDR 1 (nth vs0 2) h1 fun v2 =>
  LOAD false 1 v2 h1 fun v3 =>
  IADDR 1 T_int v4 (.d (.num .i64 0)) h1 fun v5 =>
  LOAD false 1 v5 h1 fun v6 =>
  IADDR 1 T_int v4 (.d (.num .i64 1)) h1 fun v7 =>
  LOAD false 1 v7 h1 fun v8 =>
  IADDR 1 T_int v4 (.d (.num .i64 2)) h1 fun v9 =>
  LOAD false 1 v9 h1 fun v10 =>
  BUILD [(0, 1), (1, 1), (2, 1)] [.d (.num .i64 0), .d (.num .i64 0), .d (.num .i64 0)] [(0, v6), (1, v8), (2, v10)] fun v11 =>
  MKS T_api_ProofLine 3 [v11] 472 h1 fun v12 h13 =>
  APP T_api_ProofLine 3 v3 v12 480 h13 fun v14 h15 =>
  FADDR 1 (nth vs0 2) h15 fun v16 =>
  STORE 1 v16 v14 h15 fun h17 =>
  ORDX [] [0, 1, 0, 4, 12, 0, 32, 96, 0, 256, 768, 2044, 4092, 8191, 16383, 32767] [(0, wr h1 h1, (ids (nth vs0 2))), (1, wr h1 h1, (ids v2)), (3, wr h1 h1, (ids v4)), (4, wr h1 h1, (ids v5)), (6, wr h1 h1, (ids v4)), (7, wr h1 h1, (ids v7)), (9, wr h1 h1, (ids v4)), (10, wr h1 h1, (ids v9)), (12, wr h1 h13, (ids.idsL [v11])), (13, wr h13 h15, (ids.idsL [v3, v12])), (14, wr h15 h15, (ids (nth vs0 2))), (15, wr h15 h17, (ids v16))] ∧
  BIN 0 .add (nth vs0 4) (.d (.num .i64 1)) fun v18 =>
  next19 [(nth vs0 0), (nth vs0 1), (nth vs0 2), (nth vs0 3), v18] h17
def vc_ref09_Read_k24 (P : Ctx) (pre : List ABlk) (r : AV) (post : List PB) (v0 : AV) (h1 : Heap) (v5 : AV) (vs6 : List AV) (next7 : List AV → Heap → Prop) : Prop :=
  IADDR 1 T_string v0 (.d (.num .i64 0)) h1 fun v2 =>
  LOAD false 1 v2 h1 fun v3 =>
  BIN 0 .eql v3 (.d (.str [114, 101, 97, 100])) fun v4 =>
  CONDG v4
  (vc_ref09_Read_k21 P pre r post v5 h1 vs6 next7 v0)
  (vc_ref09_Read_k22 P pre r post v0 h1 v5 vs6 next7)
def vc_ref09_Read_k25 (_P : Ctx) (pre : List ABlk) (r : AV) (post : List PB) (v0 : AV) (vs1 : List AV) (h2 : Heap) (v5 : AV) (next14 : List AV → Heap → Prop) : Prop :=
  COND v0
  (FADDR 2 (nth vs1 2) h2 fun v3 =>
  LOAD false 1 v3 h2 fun v4 =>
  BUILD [(0, 1), (1, 1)] [.d (.num .i64 0), .zc] [(0, (.d (.num .i64 3))), (1, v5)] fun v6 =>
  MKS T_api_ProofEntry 2 [v6] 720 h2 fun v7 h8 =>
  APP T_api_ProofEntry 2 v4 v7 728 h8 fun v9 h10 =>
  FADDR 2 (nth vs1 2) h10 fun v11 =>
  STORE 1 v11 v9 h10 fun h12 =>
  BIN 0 .add (nth vs1 4) (.d (.num .i64 1)) fun v13 =>
  next14 [(nth vs1 0), (nth vs1 1), (nth vs1 2), (nth vs1 3), v13] h12)
  (BUILD [(0, 1), (1, 1), (2, 1)] [.d (.num .i64 0), .zc, .zc] [] fun v15 =>
  STORE 3 (nth vs1 1) v15 h2 fun h16 =>
  LOAD true 3 (nth vs1 1) h16 fun r158 =>
  POST (.tup [r158, (.d (.bool false))]) h16 pre r post)
def vc_ref09_Read_k26 (P : Ctx) (pre : List ABlk) (r : AV) (post : List PB) (v0 : AV) (h1 : Heap) (v5 : AV) (vs11 : List AV) (next12 : List AV → Heap → Prop) : Prop :=
  IADDR 1 T_string v0 (.d (.num .i64 0)) h1 fun v2 =>
  LOAD false 1 v2 h1 fun v3 =>
  BIN 0 .eql v3 (.d (.str [102, 97, 108, 108])) fun v4 =>
  CONDG v4
  (LEN false v5 h1 fun v6 =>
  BIN 0 .eql v6 (.d (.num .i64 1)) fun v7 =>
  CONDG v7
  (CALL P f_ref09_plain [v5, (.d (.num .i64 1))] 672 h1 (fun _ v9 h10 =>
  vc_ref09_Read_k25 P pre r post v9 vs11 h10 v5 next12)
  (fun _ _ _ => False))
  (BUILD [(0, 1), (1, 1), (2, 1)] [.d (.num .i64 0), .zc, .zc] [] fun v13 =>
  STORE 3 (nth vs11 1) v13 h1 fun h14 =>
  LOAD true 3 (nth vs11 1) h14 fun r160 =>
  POST (.tup [r160, (.d (.bool false))]) h14 pre r post))
  (BUILD [(0, 1), (1, 1), (2, 1)] [.d (.num .i64 0), .zc, .zc] [] fun v13 =>
  STORE 3 (nth vs11 1) v13 h1 fun h15 =>
  LOAD true 3 (nth vs11 1) h15 fun r162 =>
  POST (.tup [r162, (.d (.bool false))]) h15 pre r post)
def vc_ref09_Read_k27 (_P : Ctx) (pre : List ABlk) (r : AV) (post : List PB) (v0 : AV) (vs1 : List AV) (h2 : Heap) (v5 : AV) (next14 : List AV → Heap → Prop) : Prop :=
  COND v0
  (FADDR 2 (nth vs1 2) h2 fun v3 =>
  LOAD false 1 v3 h2 fun v4 =>
  BUILD [(0, 1), (1, 1)] [.d (.num .i64 0), .zc] [(0, (.d (.num .i64 3))), (1, v5)] fun v6 =>
  MKS T_api_ProofEntry 2 [v6] 720 h2 fun v7 h8 =>
  APP T_api_ProofEntry 2 v4 v7 728 h8 fun v9 h10 =>
  FADDR 2 (nth vs1 2) h10 fun v11 =>
  STORE 1 v11 v9 h10 fun h12 =>
  BIN 0 .add (nth vs1 4) (.d (.num .i64 1)) fun v13 =>
  next14 [(nth vs1 0), (nth vs1 1), (nth vs1 2), (nth vs1 3), v13] h12)
  (BUILD [(0, 1), (1, 1), (2, 1)] [.d (.num .i64 0), .zc, .zc] [] fun v15 =>
  STORE 3 (nth vs1 1) v15 h2 fun h16 =>
  LOAD true 3 (nth vs1 1) h16 fun r169 =>
  POST (.tup [r169, (.d (.bool false))]) h16 pre r post)
def vc_ref09_Read_k28 (_P : Ctx) (pre : List ABlk) (r : AV) (post : List PB) (v0 : AV) (vs1 : List AV) (h2 : Heap) (v5 : AV) (next14 : List AV → Heap → Prop) : Prop :=
  COND v0
  (FADDR 2 (nth vs1 2) h2 fun v3 =>
  LOAD false 1 v3 h2 fun v4 =>
  BUILD [(0, 1), (1, 1)] [.d (.num .i64 0), .zc] [(0, (.d (.num .i64 3))), (1, v5)] fun v6 =>
  MKS T_api_ProofEntry 2 [v6] 720 h2 fun v7 h8 =>
  APP T_api_ProofEntry 2 v4 v7 728 h8 fun v9 h10 =>
  FADDR 2 (nth vs1 2) h10 fun v11 =>
  STORE 1 v11 v9 h10 fun h12 =>
  BIN 0 .add (nth vs1 4) (.d (.num .i64 1)) fun v13 =>
  next14 [(nth vs1 0), (nth vs1 1), (nth vs1 2), (nth vs1 3), v13] h12)
  (BUILD [(0, 1), (1, 1), (2, 1)] [.d (.num .i64 0), .zc, .zc] [] fun v15 =>
  STORE 3 (nth vs1 1) v15 h2 fun h16 =>
  LOAD true 3 (nth vs1 1) h16 fun r180 =>
  POST (.tup [r180, (.d (.bool false))]) h16 pre r post)
def vc_ref09_Read_k29 (P : Ctx) (pre : List ABlk) (r : AV) (post : List PB) (v0 : AV) (h1 : Heap) (vs7 : List AV) (next8 : List AV → Heap → Prop) (v9 : AV) : Prop :=
  LEN false v0 h1 fun v2 =>
  BIN 0 .eql v2 (.d (.num .i64 3)) fun v3 =>
  CONDG v3
  (CALL P f_ref09_plain [v0, (.d (.num .i64 2))] 568 h1 (fun _ v5 h6 =>
  COND v5
  (vc_ref09_Read_k1 P pre r post vs7 h6 v0 next8)
  (vc_ref09_Read_k26 P pre r post v9 h6 v0 vs7 next8))
  (fun _ _ _ => False))
  (IADDR 1 T_string v9 (.d (.num .i64 0)) h1 fun v10 =>
  LOAD false 1 v10 h1 fun v11 =>
  BIN 0 .eql v11 (.d (.str [102, 97, 108, 108])) fun v12 =>
  CONDG v12
  (LEN false v0 h1 fun v13 =>
  BIN 0 .eql v13 (.d (.num .i64 1)) fun v14 =>
  CONDG v14
  (CALL P f_ref09_plain [v0, (.d (.num .i64 1))] 672 h1 (fun _ v16 h17 =>
  vc_ref09_Read_k27 P pre r post v16 vs7 h17 v0 next8)
  (fun _ _ _ => False))
  (BUILD [(0, 1), (1, 1), (2, 1)] [.d (.num .i64 0), .zc, .zc] [] fun v18 =>
  STORE 3 (nth vs7 1) v18 h1 fun h19 =>
  LOAD true 3 (nth vs7 1) h19 fun r171 =>
  POST (.tup [r171, (.d (.bool false))]) h19 pre r post))
  (BUILD [(0, 1), (1, 1), (2, 1)] [.d (.num .i64 0), .zc, .zc] [] fun v18 =>
  STORE 3 (nth vs7 1) v18 h1 fun h20 =>
  LOAD true 3 (nth vs7 1) h20 fun r173 =>
  POST (.tup [r173, (.d (.bool false))]) h20 pre r post))
def vc_ref09_Read_k30 (P : Ctx) (pre : List ABlk) (r : AV) (post : List PB) (v0 : AV) (h1 : Heap) (v5 : AV) (vs11 : List AV) (next12 : List AV → Heap → Prop) : Prop :=
  IADDR 1 T_string v0 (.d (.num .i64 0)) h1 fun v2 =>
  LOAD false 1 v2 h1 fun v3 =>
  BIN 0 .eql v3 (.d (.str [102, 97, 108, 108])) fun v4 =>
  CONDG v4
  (LEN false v5 h1 fun v6 =>
  BIN 0 .eql v6 (.d (.num .i64 1)) fun v7 =>
  CONDG v7
  (CALL P f_ref09_plain [v5, (.d (.num .i64 1))] 672 h1 (fun _ v9 h10 =>
  vc_ref09_Read_k28 P pre r post v9 vs11 h10 v5 next12)
  (fun _ _ _ => False))
  (BUILD [(0, 1), (1, 1), (2, 1)] [.d (.num .i64 0), .zc, .zc] [] fun v13 =>
  STORE 3 (nth vs11 1) v13 h1 fun h14 =>
  LOAD true 3 (nth vs11 1) h14 fun r182 =>
  POST (.tup [r182, (.d (.bool false))]) h14 pre r post))
  (BUILD [(0, 1), (1, 1), (2, 1)] [.d (.num .i64 0), .zc, .zc] [] fun v13 =>
  STORE 3 (nth vs11 1) v13 h1 fun h15 =>
  LOAD true 3 (nth vs11 1) h15 fun r184 =>
  POST (.tup [r184, (.d (.bool false))]) h15 pre r post)
def vc_ref09_Read_k31 (P : Ctx) (pre : List ABlk) (r : AV) (post : List PB) (v0 : AV) (h1 : Heap) (v5 : AV) (vs6 : List AV) (next7 : List AV → Heap → Prop) : Prop :=
  IADDR 1 T_string v0 (.d (.num .i64 0)) h1 fun v2 =>
  LOAD false 1 v2 h1 fun v3 =>
  BIN 0 .eql v3 (.d (.str [109, 101, 110, 100])) fun v4 =>
  CONDG v4
  (vc_ref09_Read_k29 P pre r post v5 h1 vs6 next7 v0)
  (vc_ref09_Read_k30 P pre r post v0 h1 v5 vs6 next7)
def vc_ref09_Read_k32 (_P : Ctx) (pre : List ABlk) (r : AV) (post : List PB) (v0 : AV) (vs1 : List AV) (h2 : Heap) (v5 : AV) (next14 : List AV → Heap → Prop) : Prop :=
  COND v0
  (FADDR 2 (nth vs1 2) h2 fun v3 =>
  LOAD false 1 v3 h2 fun v4 =>
  BUILD [(0, 1), (1, 1)] [.d (.num .i64 0), .zc] [(0, (.d (.num .i64 3))), (1, v5)] fun v6 =>
  MKS T_api_ProofEntry 2 [v6] 720 h2 fun v7 h8 =>
  APP T_api_ProofEntry 2 v4 v7 728 h8 fun v9 h10 =>
  FADDR 2 (nth vs1 2) h10 fun v11 =>
  STORE 1 v11 v9 h10 fun h12 =>
  BIN 0 .add (nth vs1 4) (.d (.num .i64 1)) fun v13 =>
  next14 [(nth vs1 0), (nth vs1 1), (nth vs1 2), (nth vs1 3), v13] h12)
  (BUILD [(0, 1), (1, 1), (2, 1)] [.d (.num .i64 0), .zc, .zc] [] fun v15 =>
  STORE 3 (nth vs1 1) v15 h2 fun h16 =>
  LOAD true 3 (nth vs1 1) h16 fun r196 =>
  POST (.tup [r196, (.d (.bool false))]) h16 pre r post)
def vc_ref09_Read_k33 (P : Ctx) (pre : List ABlk) (r : AV) (post : List PB) (v0 : AV) (h1 : Heap) (v5 : AV) (vs11 : List AV) (next12 : List AV → Heap → Prop) : Prop :=
  IADDR 1 T_string v0 (.d (.num .i64 0)) h1 fun v2 =>
  LOAD false 1 v2 h1 fun v3 =>
  BIN 0 .eql v3 (.d (.str [102, 97, 108, 108])) fun v4 =>
  CONDG v4
  (LEN false v5 h1 fun v6 =>
  BIN 0 .eql v6 (.d (.num .i64 1)) fun v7 =>
  CONDG v7
  (CALL P f_ref09_plain [v5, (.d (.num .i64 1))] 672 h1 (fun _ v9 h10 =>
  vc_ref09_Read_k32 P pre r post v9 vs11 h10 v5 next12)
  (fun _ _ _ => False))
  (BUILD [(0, 1), (1, 1), (2, 1)] [.d (.num .i64 0), .zc, .zc] [] fun v13 =>
  STORE 3 (nth vs11 1) v13 h1 fun h14 =>
  LOAD true 3 (nth vs11 1) h14 fun r198 =>
  POST (.tup [r198, (.d (.bool false))]) h14 pre r post))
  (BUILD [(0, 1), (1, 1), (2, 1)] [.d (.num .i64 0), .zc, .zc] [] fun v13 =>
  STORE 3 (nth vs11 1) v13 h1 fun h15 =>
  LOAD true 3 (nth vs11 1) h15 fun r200 =>
  POST (.tup [r200, (.d (.bool false))]) h15 pre r post)
def vc_ref09_Read_k34 (_P : Ctx) (pre : List ABlk) (r : AV) (post : List PB) (v0 : AV) (vs1 : List AV) (h2 : Heap) (v5 : AV) (next14 : List AV → Heap → Prop) : Prop :=
  COND v0
  (FADDR 2 (nth vs1 2) h2 fun v3 =>
  LOAD false 1 v3 h2 fun v4 =>
  BUILD [(0, 1), (1, 1)] [.d (.num .i64 0), .zc] [(0, (.d (.num .i64 3))), (1, v5)] fun v6 =>
  MKS T_api_ProofEntry 2 [v6] 720 h2 fun v7 h8 =>
  APP T_api_ProofEntry 2 v4 v7 728 h8 fun v9 h10 =>
  FADDR 2 (nth vs1 2) h10 fun v11 =>
  STORE 1 v11 v9 h10 fun h12 =>
  BIN 0 .add (nth vs1 4) (.d (.num .i64 1)) fun v13 =>
  next14 [(nth vs1 0), (nth vs1 1), (nth vs1 2), (nth vs1 3), v13] h12)
  (BUILD [(0, 1), (1, 1), (2, 1)] [.d (.num .i64 0), .zc, .zc] [] fun v15 =>
  STORE 3 (nth vs1 1) v15 h2 fun h16 =>
  LOAD true 3 (nth vs1 1) h16 fun r207 =>
  POST (.tup [r207, (.d (.bool false))]) h16 pre r post)
def vc_ref09_Read_k35 (_P : Ctx) (pre : List ABlk) (r : AV) (post : List PB) (v0 : AV) (vs1 : List AV) (h2 : Heap) (v5 : AV) (next14 : List AV → Heap → Prop) : Prop :=
  COND v0
  (FADDR 2 (nth vs1 2) h2 fun v3 =>
  LOAD false 1 v3 h2 fun v4 =>
  BUILD [(0, 1), (1, 1)] [.d (.num .i64 0), .zc] [(0, (.d (.num .i64 3))), (1, v5)] fun v6 =>
  MKS T_api_ProofEntry 2 [v6] 720 h2 fun v7 h8 =>
  APP T_api_ProofEntry 2 v4 v7 728 h8 fun v9 h10 =>
  FADDR 2 (nth vs1 2) h10 fun v11 =>
  STORE 1 v11 v9 h10 fun h12 =>
  BIN 0 .add (nth vs1 4) (.d (.num .i64 1)) fun v13 =>
  next14 [(nth vs1 0), (nth vs1 1), (nth vs1 2), (nth vs1 3), v13] h12)
  (BUILD [(0, 1), (1, 1), (2, 1)] [.d (.num .i64 0), .zc, .zc] [] fun v15 =>
  STORE 3 (nth vs1 1) v15 h2 fun h16 =>
  LOAD true 3 (nth vs1 1) h16 fun r218 =>
  POST (.tup [r218, (.d (.bool false))]) h16 pre r post)
def vc_ref09_Read_k36 (P : Ctx) (pre : List ABlk) (r : AV) (post : List PB) (v0 : AV) (h1 : Heap) (vs7 : List AV) (next8 : List AV → Heap → Prop) (v9 : AV) : Prop :=
  LEN false v0 h1 fun v2 =>
  BIN 0 .eql v2 (.d (.num .i64 3)) fun v3 =>
  CONDG v3
  (CALL P f_ref09_plain [v0, (.d (.num .i64 2))] 568 h1 (fun _ v5 h6 =>
  COND v5
  (vc_ref09_Read_k1 P pre r post vs7 h6 v0 next8)
  (vc_ref09_Read_k33 P pre r post v9 h6 v0 vs7 next8))
  (fun _ _ _ => False))
  (IADDR 1 T_string v9 (.d (.num .i64 0)) h1 fun v10 =>
  LOAD false 1 v10 h1 fun v11 =>
  BIN 0 .eql v11 (.d (.str [102, 97, 108, 108])) fun v12 =>
  CONDG v12
  (LEN false v0 h1 fun v13 =>
  BIN 0 .eql v13 (.d (.num .i64 1)) fun v14 =>
  CONDG v14
  (CALL P f_ref09_plain [v0, (.d (.num .i64 1))] 672 h1 (fun _ v16 h17 =>
  vc_ref09_Read_k34 P pre r post v16 vs7 h17 v0 next8)
  (fun _ _ _ => False))
  (BUILD [(0, 1), (1, 1), (2, 1)] [.d (.num .i64 0), .zc, .zc] [] fun v18 =>
  STORE 3 (nth vs7 1) v18 h1 fun h19 =>
  LOAD true 3 (nth vs7 1) h19 fun r209 =>
  POST (.tup [r209, (.d (.bool false))]) h19 pre r post))
  (BUILD [(0, 1), (1, 1), (2, 1)] [.d (.num .i64 0), .zc, .zc] [] fun v18 =>
  STORE 3 (nth vs7 1) v18 h1 fun h20 =>
  LOAD true 3 (nth vs7 1) h20 fun r211 =>
  POST (.tup [r211, (.d (.bool false))]) h20 pre r post))
def vc_ref09_Read_k37 (P : Ctx) (pre : List ABlk) (r : AV) (post : List PB) (v0 : AV) (h1 : Heap) (v5 : AV) (vs11 : List AV) (next12 : List AV → Heap → Prop) : Prop :=
  IADDR 1 T_string v0 (.d (.num .i64 0)) h1 fun v2 =>
  LOAD false 1 v2 h1 fun v3 =>
  BIN 0 .eql v3 (.d (.str [102, 97, 108, 108])) fun v4 =>
  CONDG v4
  (LEN false v5 h1 fun v6 =>
  BIN 0 .eql v6 (.d (.num .i64 1)) fun v7 =>
  CONDG v7
  (CALL P f_ref09_plain [v5, (.d (.num .i64 1))] 672 h1 (fun _ v9 h10 =>
  vc_ref09_Read_k35 P pre r post v9 vs11 h10 v5 next12)
  (fun _ _ _ => False))
  (BUILD [(0, 1), (1, 1), (2, 1)] [.d (.num .i64 0), .zc, .zc] [] fun v13 =>
  STORE 3 (nth vs11 1) v13 h1 fun h14 =>
  LOAD true 3 (nth vs11 1) h14 fun r220 =>
  POST (.tup [r220, (.d (.bool false))]) h14 pre r post))
  (BUILD [(0, 1), (1, 1), (2, 1)] [.d (.num .i64 0), .zc, .zc] [] fun v13 =>
  STORE 3 (nth vs11 1) v13 h1 fun h15 =>
  LOAD true 3 (nth vs11 1) h15 fun r222 =>
  POST (.tup [r222, (.d (.bool false))]) h15 pre r post)
def vc_ref09_Read_k38 (_P : Ctx) (pre : List ABlk) (r : AV) (post : List PB) (v0 : AV) (vs1 : List AV) (h2 : Heap) (v5 : AV) (next14 : List AV → Heap → Prop) : Prop :=
  COND v0
  (FADDR 2 (nth vs1 2) h2 fun v3 =>
  LOAD false 1 v3 h2 fun v4 =>
  BUILD [(0, 1), (1, 1)] [.d (.num .i64 0), .zc] [(0, (.d (.num .i64 3))), (1, v5)] fun v6 =>
  MKS T_api_ProofEntry 2 [v6] 720 h2 fun v7 h8 =>
  APP T_api_ProofEntry 2 v4 v7 728 h8 fun v9 h10 =>
  FADDR 2 (nth vs1 2) h10 fun v11 =>
  STORE 1 v11 v9 h10 fun h12 =>
  BIN 0 .add (nth vs1 4) (.d (.num .i64 1)) fun v13 =>
  next14 [(nth vs1 0), (nth vs1 1), (nth vs1 2), (nth vs1 3), v13] h12)
  (BUILD [(0, 1), (1, 1), (2, 1)] [.d (.num .i64 0), .zc, .zc] [] fun v15 =>
  STORE 3 (nth vs1 1) v15 h2 fun h16 =>
  LOAD true 3 (nth vs1 1) h16 fun r234 =>
  POST (.tup [r234, (.d (.bool false))]) h16 pre r post)
def vc_ref09_Read_k39 (P : Ctx) (pre : List ABlk) (r : AV) (post : List PB) (v0 : AV) (h1 : Heap) (v5 : AV) (vs11 : List AV) (next12 : List AV → Heap → Prop) : Prop :=
  IADDR 1 T_string v0 (.d (.num .i64 0)) h1 fun v2 =>
  LOAD false 1 v2 h1 fun v3 =>
  BIN 0 .eql v3 (.d (.str [102, 97, 108, 108])) fun v4 =>
  CONDG v4
  (LEN false v5 h1 fun v6 =>
  BIN 0 .eql v6 (.d (.num .i64 1)) fun v7 =>
  CONDG v7
  (CALL P f_ref09_plain [v5, (.d (.num .i64 1))] 672 h1 (fun _ v9 h10 =>
  vc_ref09_Read_k38 P pre r post v9 vs11 h10 v5 next12)
  (fun _ _ _ => False))
  (BUILD [(0, 1), (1, 1), (2, 1)] [.d (.num .i64 0), .zc, .zc] [] fun v13 =>
  STORE 3 (nth vs11 1) v13 h1 fun h14 =>
  LOAD true 3 (nth vs11 1) h14 fun r236 =>
  POST (.tup [r236, (.d (.bool false))]) h14 pre r post))
  (BUILD [(0, 1), (1, 1), (2, 1)] [.d (.num .i64 0), .zc, .zc] [] fun v13 =>
  STORE 3 (nth vs11 1) v13 h1 fun h15 =>
  LOAD true 3 (nth vs11 1) h15 fun r238 =>
  POST (.tup [r238, (.d (.bool false))]) h15 pre r post)
def vc_ref09_Read_k40 (_P : Ctx) (pre : List ABlk) (r : AV) (post : List PB) (v0 : AV) (vs1 : List AV) (h2 : Heap) (v5 : AV) (next14 : List AV → Heap → Prop) : Prop :=
  COND v0
  (FADDR 2 (nth vs1 2) h2 fun v3 =>
  LOAD false 1 v3 h2 fun v4 =>
  BUILD [(0, 1), (1, 1)] [.d (.num .i64 0), .zc] [(0, (.d (.num .i64 3))), (1, v5)] fun v6 =>
  MKS T_api_ProofEntry 2 [v6] 720 h2 fun v7 h8 =>
  APP T_api_ProofEntry 2 v4 v7 728 h8 fun v9 h10 =>
  FADDR 2 (nth vs1 2) h10 fun v11 =>
  STORE 1 v11 v9 h10 fun h12 =>
  BIN 0 .add (nth vs1 4) (.d (.num .i64 1)) fun v13 =>
  next14 [(nth vs1 0), (nth vs1 1), (nth vs1 2), (nth vs1 3), v13] h12)
  (BUILD [(0, 1), (1, 1), (2, 1)] [.d (.num .i64 0), .zc, .zc] [] fun v15 =>
  STORE 3 (nth vs1 1) v15 h2 fun h16 =>
  LOAD true 3 (nth vs1 1) h16 fun r245 =>
  POST (.tup [r245, (.d (.bool false))]) h16 pre r post)
def vc_ref09_Read_k41 (_P : Ctx) (pre : List ABlk) (r : AV) (post : List PB) (v0 : AV) (vs1 : List AV) (h2 : Heap) (v5 : AV) (next14 : List AV → Heap → Prop) : Prop :=
  COND v0
  (FADDR 2 (nth vs1 2) h2 fun v3 =>
  LOAD false 1 v3 h2 fun v4 =>
  BUILD [(0, 1), (1, 1)] [.d (.num .i64 0), .zc] [(0, (.d (.num .i64 3))), (1, v5)] fun v6 =>
  MKS T_api_ProofEntry 2 [v6] 720 h2 fun v7 h8 =>
  APP T_api_ProofEntry 2 v4 v7 728 h8 fun v9 h10 =>
  FADDR 2 (nth vs1 2) h10 fun v11 =>
  STORE 1 v11 v9 h10 fun h12 =>
  BIN 0 .add (nth vs1 4) (.d (.num .i64 1)) fun v13 =>
  next14 [(nth vs1 0), (nth vs1 1), (nth vs1 2), (nth vs1 3), v13] h12)
  (BUILD [(0, 1), (1, 1), (2, 1)] [.d (.num .i64 0), .zc, .zc] [] fun v15 =>
  STORE 3 (nth vs1 1) v15 h2 fun h16 =>
  LOAD true 3 (nth vs1 1) h16 fun r256 =>
  POST (.tup [r256, (.d (.bool false))]) h16 pre r post)
def vc_ref09_Read_k42 (P : Ctx) (pre : List ABlk) (r : AV) (post : List PB) (v0 : AV) (h1 : Heap) (vs7 : List AV) (next8 : List AV → Heap → Prop) (v9 : AV) : Prop :=
  LEN false v0 h1 fun v2 =>
  BIN 0 .eql v2 (.d (.num .i64 3)) fun v3 =>
  CONDG v3
  (CALL P f_ref09_plain [v0, (.d (.num .i64 2))] 568 h1 (fun _ v5 h6 =>
  COND v5
  (vc_ref09_Read_k1 P pre r post vs7 h6 v0 next8)
  (vc_ref09_Read_k39 P pre r post v9 h6 v0 vs7 next8))
  (fun _ _ _ => False))
  (IADDR 1 T_string v9 (.d (.num .i64 0)) h1 fun v10 =>
  LOAD false 1 v10 h1 fun v11 =>
  BIN 0 .eql v11 (.d (.str [102, 97, 108, 108])) fun v12 =>
  CONDG v12
  (LEN false v0 h1 fun v13 =>
  BIN 0 .eql v13 (.d (.num .i64 1)) fun v14 =>
  CONDG v14
  (CALL P f_ref09_plain [v0, (.d (.num .i64 1))] 672 h1 (fun _ v16 h17 =>
  vc_ref09_Read_k40 P pre r post v16 vs7 h17 v0 next8)
  (fun _ _ _ => False))
  (BUILD [(0, 1), (1, 1), (2, 1)] [.d (.num .i64 0), .zc, .zc] [] fun v18 =>
  STORE 3 (nth vs7 1) v18 h1 fun h19 =>
  LOAD true 3 (nth vs7 1) h19 fun r247 =>
  POST (.tup [r247, (.d (.bool false))]) h19 pre r post))
  (BUILD [(0, 1), (1, 1), (2, 1)] [.d (.num .i64 0), .zc, .zc] [] fun v18 =>
  STORE 3 (nth vs7 1) v18 h1 fun h20 =>
  LOAD true 3 (nth vs7 1) h20 fun r249 =>
  POST (.tup [r249, (.d (.bool false))]) h20 pre r post))
def vc_ref09_Read_k43 (P : Ctx) (pre : List ABlk) (r : AV) (post : List PB) (v0 : AV) (h1 : Heap) (v5 : AV) (vs11 : List AV) (next12 : List AV → Heap → Prop) : Prop :=
  IADDR 1 T_string v0 (.d (.num .i64 0)) h1 fun v2 =>
  LOAD false 1 v2 h1 fun v3 =>
  BIN 0 .eql v3 (.d (.str [102, 97, 108, 108])) fun v4 =>
  CONDG v4
  (LEN false v5 h1 fun v6 =>
  BIN 0 .eql v6 (.d (.num .i64 1)) fun v7 =>
  CONDG v7
  (CALL P f_ref09_plain [v5, (.d (.num .i64 1))] 672 h1 (fun _ v9 h10 =>
  vc_ref09_Read_k41 P pre r post v9 vs11 h10 v5 next12)
  (fun _ _ _ => False))
  (BUILD [(0, 1), (1, 1), (2, 1)] [.d (.num .i64 0), .zc, .zc] [] fun v13 =>
  STORE 3 (nth vs11 1) v13 h1 fun h14 =>
  LOAD true 3 (nth vs11 1) h14 fun r258 =>
  POST (.tup [r258, (.d (.bool false))]) h14 pre r post))
  (BUILD [(0, 1), (1, 1), (2, 1)] [.d (.num .i64 0), .zc, .zc] [] fun v13 =>
  STORE 3 (nth vs11 1) v13 h1 fun h15 =>
  LOAD true 3 (nth vs11 1) h15 fun r260 =>
  POST (.tup [r260, (.d (.bool false))]) h15 pre r post)
def vc_ref09_Read_k44 (P : Ctx) (pre : List ABlk) (r : AV) (post : List PB) (v0 : AV) (h1 : Heap) (vs7 : List AV) (next8 : List AV → Heap → Prop) (v9 : AV) : Prop :=
  LEN false v0 h1 fun v2 =>
  BIN 0 .eql v2 (.d (.num .i64 4)) fun v3 =>
  CONDG v3
  (CALL P f_ref09_plain [v0, (.d (.num .i64 4))] 464 h1 (fun _ v5 h6 =>
  COND v5
  (vc_ref09_Read_k7 P pre r post vs7 h6 v0 next8)
  (vc_ref09_Read_k31 P pre r post v9 h6 v0 vs7 next8))
  (fun _ _ _ => False))
  (IADDR 1 T_string v9 (.d (.num .i64 0)) h1 fun v10 =>
  LOAD false 1 v10 h1 fun v11 =>
  BIN 0 .eql v11 (.d (.str [109, 101, 110, 100])) fun v12 =>
  CONDG v12
  (vc_ref09_Read_k36 P pre r post v0 h1 vs7 next8 v9)
  (vc_ref09_Read_k37 P pre r post v9 h1 v0 vs7 next8))
def vc_ref09_Read_k45 (P : Ctx) (pre : List ABlk) (r : AV) (post : List PB) (v0 : AV) (h1 : Heap) (v5 : AV) (vs6 : List AV) (next7 : List AV → Heap → Prop) : Prop :=
  IADDR 1 T_string v0 (.d (.num .i64 0)) h1 fun v2 =>
  LOAD false 1 v2 h1 fun v3 =>
  BIN 0 .eql v3 (.d (.str [109, 101, 110, 100])) fun v4 =>
  CONDG v4
  (vc_ref09_Read_k42 P pre r post v5 h1 vs6 next7 v0)
  (vc_ref09_Read_k43 P pre r post v0 h1 v5 vs6 next7)
def vc_ref09_Read_k46 (_P : Ctx) (pre : List ABlk) (r : AV) (post : List PB) (v0 : AV) (vs1 : List AV) (h2 : Heap) (v5 : AV) (next14 : List AV → Heap → Prop) : Prop :=
  COND v0
  (FADDR 2 (nth vs1 2) h2 fun v3 =>
  LOAD false 1 v3 h2 fun v4 =>
  BUILD [(0, 1), (1, 1)] [.d (.num .i64 0), .zc] [(0, (.d (.num .i64 3))), (1, v5)] fun v6 =>
  MKS T_api_ProofEntry 2 [v6] 720 h2 fun v7 h8 =>
  APP T_api_ProofEntry 2 v4 v7 728 h8 fun v9 h10 =>
  FADDR 2 (nth vs1 2) h10 fun v11 =>
  STORE 1 v11 v9 h10 fun h12 =>
  BIN 0 .add (nth vs1 4) (.d (.num .i64 1)) fun v13 =>
  next14 [(nth vs1 0), (nth vs1 1), (nth vs1 2), (nth vs1 3), v13] h12)
  (BUILD [(0, 1), (1, 1), (2, 1)] [.d (.num .i64 0), .zc, .zc] [] fun v15 =>
  STORE 3 (nth vs1 1) v15 h2 fun h16 =>
  LOAD true 3 (nth vs1 1) h16 fun r277 =>
  POST (.tup [r277, (.d (.bool false))]) h16 pre r post)
def vc_ref09_Read_k47 (P : Ctx) (pre : List ABlk) (r : AV) (post : List PB) (v0 : AV) (h1 : Heap) (v5 : AV) (vs11 : List AV) (next12 : List AV → Heap → Prop) : Prop :=
  IADDR 1 T_string v0 (.d (.num .i64 0)) h1 fun v2 =>
  LOAD false 1 v2 h1 fun v3 =>
  BIN 0 .eql v3 (.d (.str [102, 97, 108, 108])) fun v4 =>
  CONDG v4
  (LEN false v5 h1 fun v6 =>
  BIN 0 .eql v6 (.d (.num .i64 1)) fun v7 =>
  CONDG v7
  (CALL P f_ref09_plain [v5, (.d (.num .i64 1))] 672 h1 (fun _ v9 h10 =>
  vc_ref09_Read_k46 P pre r post v9 vs11 h10 v5 next12)
  (fun _ _ _ => False))
  (BUILD [(0, 1), (1, 1), (2, 1)] [.d (.num .i64 0), .zc, .zc] [] fun v13 =>
  STORE 3 (nth vs11 1) v13 h1 fun h14 =>
  LOAD true 3 (nth vs11 1) h14 fun r279 =>
  POST (.tup [r279, (.d (.bool false))]) h14 pre r post))
  (BUILD [(0, 1), (1, 1), (2, 1)] [.d (.num .i64 0), .zc, .zc] [] fun v13 =>
  STORE 3 (nth vs11 1) v13 h1 fun h15 =>
  LOAD true 3 (nth vs11 1) h15 fun r281 =>
  POST (.tup [r281, (.d (.bool false))]) h15 pre r post)
def vc_ref09_Read_k48 (_P : Ctx) (pre : List ABlk) (r : AV) (post : List PB) (v0 : AV) (vs1 : List AV) (h2 : Heap) (v5 : AV) (next14 : List AV → Heap → Prop) : Prop :=
  COND v0
  (FADDR 2 (nth vs1 2) h2 fun v3 =>
  LOAD false 1 v3 h2 fun v4 =>
  BUILD [(0, 1), (1, 1)] [.d (.num .i64 0), .zc] [(0, (.d (.num .i64 3))), (1, v5)] fun v6 =>
  MKS T_api_ProofEntry 2 [v6] 720 h2 fun v7 h8 =>
  APP T_api_ProofEntry 2 v4 v7 728 h8 fun v9 h10 =>
  FADDR 2 (nth vs1 2) h10 fun v11 =>
  STORE 1 v11 v9 h10 fun h12 =>
  BIN 0 .add (nth vs1 4) (.d (.num .i64 1)) fun v13 =>
  next14 [(nth vs1 0), (nth vs1 1), (nth vs1 2), (nth vs1 3), v13] h12)
  (BUILD [(0, 1), (1, 1), (2, 1)] [.d (.num .i64 0), .zc, .zc] [] fun v15 =>
  STORE 3 (nth vs1 1) v15 h2 fun h16 =>
  LOAD true 3 (nth vs1 1) h16 fun r288 =>
  POST (.tup [r288, (.d (.bool false))]) h16 pre r post)
def vc_ref09_Read_k49 (_P : Ctx) (pre : List ABlk) (r : AV) (post : List PB) (v0 : AV) (vs1 : List AV) (h2 : Heap) (v5 : AV) (next14 : List AV → Heap → Prop) : Prop :=
  COND v0
  (FADDR 2 (nth vs1 2) h2 fun v3 =>
  LOAD false 1 v3 h2 fun v4 =>
  BUILD [(0, 1), (1, 1)] [.d (.num .i64 0), .zc] [(0, (.d (.num .i64 3))), (1, v5)] fun v6 =>
  MKS T_api_ProofEntry 2 [v6] 720 h2 fun v7 h8 =>
  APP T_api_ProofEntry 2 v4 v7 728 h8 fun v9 h10 =>
  FADDR 2 (nth vs1 2) h10 fun v11 =>
  STORE 1 v11 v9 h10 fun h12 =>
  BIN 0 .add (nth vs1 4) (.d (.num .i64 1)) fun v13 =>
  next14 [(nth vs1 0), (nth vs1 1), (nth vs1 2), (nth vs1 3), v13] h12)
  (BUILD [(0, 1), (1, 1), (2, 1)] [.d (.num .i64 0), .zc, .zc] [] fun v15 =>
  STORE 3 (nth vs1 1) v15 h2 fun h16 =>
  LOAD true 3 (nth vs1 1) h16 fun r299 =>
  POST (.tup [r299, (.d (.bool false))]) h16 pre r post)
def vc_ref09_Read_k50 (P : Ctx) (pre : List ABlk) (r : AV) (post : List PB) (v0 : AV) (h1 : Heap) (vs7 : List AV) (next8 : List AV → Heap → Prop) (v9 : AV) : Prop :=
  LEN false v0 h1 fun v2 =>
  BIN 0 .eql v2 (.d (.num .i64 3)) fun v3 =>
  CONDG v3
  (CALL P f_ref09_plain [v0, (.d (.num .i64 2))] 568 h1 (fun _ v5 h6 =>
  COND v5
  (vc_ref09_Read_k1 P pre r post vs7 h6 v0 next8)
  (vc_ref09_Read_k47 P pre r post v9 h6 v0 vs7 next8))
  (fun _ _ _ => False))
  (IADDR 1 T_string v9 (.d (.num .i64 0)) h1 fun v10 =>
  LOAD false 1 v10 h1 fun v11 =>
  BIN 0 .eql v11 (.d (.str [102, 97, 108, 108])) fun v12 =>
  CONDG v12
  (LEN false v0 h1 fun v13 =>
  BIN 0 .eql v13 (.d (.num .i64 1)) fun v14 =>
  CONDG v14
  (CALL P f_ref09_plain [v0, (.d (.num .i64 1))] 672 h1 (fun _ v16 h17 =>
  vc_ref09_Read_k48 P pre r post v16 vs7 h17 v0 next8)
  (fun _ _ _ => False))
  (BUILD [(0, 1), (1, 1), (2, 1)] [.d (.num .i64 0), .zc, .zc] [] fun v18 =>
  STORE 3 (nth vs7 1) v18 h1 fun h19 =>
  LOAD true 3 (nth vs7 1) h19 fun r290 =>
  POST (.tup [r290, (.d (.bool false))]) h19 pre r post))
  (BUILD [(0, 1), (1, 1), (2, 1)] [.d (.num .i64 0), .zc, .zc] [] fun v18 =>
  STORE 3 (nth vs7 1) v18 h1 fun h20 =>
  LOAD true 3 (nth vs7 1) h20 fun r292 =>
  POST (.tup [r292, (.d (.bool false))]) h20 pre r post))
def vc_ref09_Read_k51 (P : Ctx) (pre : List ABlk) (r : AV) (post : List PB) (v0 : AV) (h1 : Heap) (v5 : AV) (vs11 : List AV) (next12 : List AV → Heap → Prop) : Prop :=
  IADDR 1 T_string v0 (.d (.num .i64 0)) h1 fun v2 =>
  LOAD false 1 v2 h1 fun v3 =>
  BIN 0 .eql v3 (.d (.str [102, 97, 108, 108])) fun v4 =>
  CONDG v4
  (LEN false v5 h1 fun v6 =>
  BIN 0 .eql v6 (.d (.num .i64 1)) fun v7 =>
  CONDG v7
  (CALL P f_ref09_plain [v5, (.d (.num .i64 1))] 672 h1 (fun _ v9 h10 =>
  vc_ref09_Read_k49 P pre r post v9 vs11 h10 v5 next12)
  (fun _ _ _ => False))
  (BUILD [(0, 1), (1, 1), (2, 1)] [.d (.num .i64 0), .zc, .zc] [] fun v13 =>
  STORE 3 (nth vs11 1) v13 h1 fun h14 =>
  LOAD true 3 (nth vs11 1) h14 fun r301 =>
  POST (.tup [r301, (.d (.bool false))]) h14 pre r post))
  (BUILD [(0, 1), (1, 1), (2, 1)] [.d (.num .i64 0), .zc, .zc] [] fun v13 =>
  STORE 3 (nth vs11 1) v13 h1 fun h15 =>
  LOAD true 3 (nth vs11 1) h15 fun r303 =>
  POST (.tup [r303, (.d (.bool false))]) h15 pre r post)
def vc_ref09_Read_k52 (P : Ctx) (pre : List ABlk) (r : AV) (post : List PB) (v0 : AV) (h1 : Heap) (v5 : AV) (vs6 : List AV) (next7 : List AV → Heap → Prop) : Prop :=
  IADDR 1 T_string v0 (.d (.num .i64 0)) h1 fun v2 =>
  LOAD false 1 v2 h1 fun v3 =>
  BIN 0 .eql v3 (.d (.str [109, 101, 110, 100])) fun v4 =>
  CONDG v4
  (vc_ref09_Read_k50 P pre r post v5 h1 vs6 next7 v0)
  (vc_ref09_Read_k51 P pre r post v0 h1 v5 vs6 next7)
def vc_ref09_Read_k53 (_P : Ctx) (pre : List ABlk) (r : AV) (post : List PB) (v0 : AV) (vs1 : List AV) (h2 : Heap) (v5 : AV) (next14 : List AV → Heap → Prop) : Prop :=
  COND v0
  (FADDR 2 (nth vs1 2) h2 fun v3 =>
  LOAD false 1 v3 h2 fun v4 =>
  BUILD [(0, 1), (1, 1)] [.d (.num .i64 0), .zc] [(0, (.d (.num .i64 3))), (1, v5)] fun v6 =>
  MKS T_api_ProofEntry 2 [v6] 720 h2 fun v7 h8 =>
  APP T_api_ProofEntry 2 v4 v7 728 h8 fun v9 h10 =>
  FADDR 2 (nth vs1 2) h10 fun v11 =>
  STORE 1 v11 v9 h10 fun h12 =>
  BIN 0 .add (nth vs1 4) (.d (.num .i64 1)) fun v13 =>
  next14 [(nth vs1 0), (nth vs1 1), (nth vs1 2), (nth vs1 3), v13] h12)
  (BUILD [(0, 1), (1, 1), (2, 1)] [.d (.num .i64 0), .zc, .zc] [] fun v15 =>
  STORE 3 (nth vs1 1) v15 h2 fun h16 =>
  LOAD true 3 (nth vs1 1) h16 fun r315 =>
  POST (.tup [r315, (.d (.bool false))]) h16 pre r post)
def vc_ref09_Read_k54 (P : Ctx) (pre : List ABlk) (r : AV) (post : List PB) (v0 : AV) (h1 : Heap) (v5 : AV) (vs11 : List AV) (next12 : List AV → Heap → Prop) : Prop :=
  IADDR 1 T_string v0 (.d (.num .i64 0)) h1 fun v2 =>
  LOAD false 1 v2 h1 fun v3 =>
  BIN 0 .eql v3 (.d (.str [102, 97, 108, 108])) fun v4 =>
  CONDG v4
  (LEN false v5 h1 fun v6 =>
  BIN 0 .eql v6 (.d (.num .i64 1)) fun v7 =>
  CONDG v7
  (CALL P f_ref09_plain [v5, (.d (.num .i64 1))] 672 h1 (fun _ v9 h10 =>
  vc_ref09_Read_k53 P pre r post v9 vs11 h10 v5 next12)
  (fun _ _ _ => False))
  (BUILD [(0, 1), (1, 1), (2, 1)] [.d (.num .i64 0), .zc, .zc] [] fun v13 =>
  STORE 3 (nth vs11 1) v13 h1 fun h14 =>
  LOAD true 3 (nth vs11 1) h14 fun r317 =>
  POST (.tup [r317, (.d (.bool false))]) h14 pre r post))
  (BUILD [(0, 1), (1, 1), (2, 1)] [.d (.num .i64 0), .zc, .zc] [] fun v13 =>
  STORE 3 (nth vs11 1) v13 h1 fun h15 =>
  LOAD true 3 (nth vs11 1) h15 fun r319 =>
  POST (.tup [r319, (.d (.bool false))]) h15 pre r post)
def vc_ref09_Read_k55 (_P : Ctx) (pre : List ABlk) (r : AV) (post : List PB) (v0 : AV) (vs1 : List AV) (h2 : Heap) (v5 : AV) (next14 : List AV → Heap → Prop) : Prop :=
  COND v0
  (FADDR 2 (nth vs1 2) h2 fun v3 =>
  LOAD false 1 v3 h2 fun v4 =>
  BUILD [(0, 1), (1, 1)] [.d (.num .i64 0), .zc] [(0, (.d (.num .i64 3))), (1, v5)] fun v6 =>
  MKS T_api_ProofEntry 2 [v6] 720 h2 fun v7 h8 =>
  APP T_api_ProofEntry 2 v4 v7 728 h8 fun v9 h10 =>
  FADDR 2 (nth vs1 2) h10 fun v11 =>
  STORE 1 v11 v9 h10 fun h12 =>
  BIN 0 .add (nth vs1 4) (.d (.num .i64 1)) fun v13 =>
  next14 [(nth vs1 0), (nth vs1 1), (nth vs1 2), (nth vs1 3), v13] h12)
  (BUILD [(0, 1), (1, 1), (2, 1)] [.d (.num .i64 0), .zc, .zc] [] fun v15 =>
  STORE 3 (nth vs1 1) v15 h2 fun h16 =>
  LOAD true 3 (nth vs1 1) h16 fun r326 =>
  POST (.tup [r326, (.d (.bool false))]) h16 pre r post)
def vc_ref09_Read_k56 (_P : Ctx) (pre : List ABlk) (r : AV) (post : List PB) (v0 : AV) (vs1 : List AV) (h2 : Heap) (v5 : AV) (next14 : List AV → Heap → Prop) : Prop :=
  COND v0
  (FADDR 2 (nth vs1 2) h2 fun v3 =>
  LOAD false 1 v3 h2 fun v4 =>
  BUILD [(0, 1), (1, 1)] [.d (.num .i64 0), .zc] [(0, (.d (.num .i64 3))), (1, v5)] fun v6 =>
  MKS T_api_ProofEntry 2 [v6] 720 h2 fun v7 h8 =>
  APP T_api_ProofEntry 2 v4 v7 728 h8 fun v9 h10 =>
  FADDR 2 (nth vs1 2) h10 fun v11 =>
  STORE 1 v11 v9 h10 fun h12 =>
  BIN 0 .add (nth vs1 4) (.d (.num .i64 1)) fun v13 =>
  next14 [(nth vs1 0), (nth vs1 1), (nth vs1 2), (nth vs1 3), v13] h12)
  (BUILD [(0, 1), (1, 1), (2, 1)] [.d (.num .i64 0), .zc, .zc] [] fun v15 =>
  STORE 3 (nth vs1 1) v15 h2 fun h16 =>
  LOAD true 3 (nth vs1 1) h16 fun r337 =>
  POST (.tup [r337, (.d (.bool false))]) h16 pre r post)
def vc_ref09_Read_k57 (P : Ctx) (pre : List ABlk) (r : AV) (post : List PB) (v0 : AV) (h1 : Heap) (vs7 : List AV) (next8 : List AV → Heap → Prop) (v9 : AV) : Prop :=
  LEN false v0 h1 fun v2 =>
  BIN 0 .eql v2 (.d (.num .i64 3)) fun v3 =>
  CONDG v3
  (CALL P f_ref09_plain [v0, (.d (.num .i64 2))] 568 h1 (fun _ v5 h6 =>
  COND v5
  (vc_ref09_Read_k1 P pre r post vs7 h6 v0 next8)
  (vc_ref09_Read_k54 P pre r post v9 h6 v0 vs7 next8))
  (fun _ _ _ => False))
  (IADDR 1 T_string v9 (.d (.num .i64 0)) h1 fun v10 =>
  LOAD false 1 v10 h1 fun v11 =>
  BIN 0 .eql v11 (.d (.str [102, 97, 108, 108])) fun v12 =>
  CONDG v12
  (LEN false v0 h1 fun v13 =>
  BIN 0 .eql v13 (.d (.num .i64 1)) fun v14 =>
  CONDG v14
  (CALL P f_ref09_plain [v0, (.d (.num .i64 1))] 672 h1 (fun _ v16 h17 =>
  vc_ref09_Read_k55 P pre r post v16 vs7 h17 v0 next8)
  (fun _ _ _ => False))
  (BUILD [(0, 1), (1, 1), (2, 1)] [.d (.num .i64 0), .zc, .zc] [] fun v18 =>
  STORE 3 (nth vs7 1) v18 h1 fun h19 =>
  LOAD true 3 (nth vs7 1) h19 fun r328 =>
  POST (.tup [r328, (.d (.bool false))]) h19 pre r post))
  (BUILD [(0, 1), (1, 1), (2, 1)] [.d (.num .i64 0), .zc, .zc] [] fun v18 =>
  STORE 3 (nth vs7 1) v18 h1 fun h20 =>
  LOAD true 3 (nth vs7 1) h20 fun r330 =>
  POST (.tup [r330, (.d (.bool false))]) h20 pre r post))
def vc_ref09_Read_k58 (P : Ctx) (pre : List ABlk) (r : AV) (post : List PB) (v0 : AV) (h1 : Heap) (v5 : AV) (vs11 : List AV) (next12 : List AV → Heap → Prop) : Prop :=
  IADDR 1 T_string v0 (.d (.num .i64 0)) h1 fun v2 =>
  LOAD false 1 v2 h1 fun v3 =>
  BIN 0 .eql v3 (.d (.str [102, 97, 108, 108])) fun v4 =>
  CONDG v4
  (LEN false v5 h1 fun v6 =>
  BIN 0 .eql v6 (.d (.num .i64 1)) fun v7 =>
  CONDG v7
  (CALL P f_ref09_plain [v5, (.d (.num .i64 1))] 672 h1 (fun _ v9 h10 =>
  vc_ref09_Read_k56 P pre r post v9 vs11 h10 v5 next12)
  (fun _ _ _ => False))
  (BUILD [(0, 1), (1, 1), (2, 1)] [.d (.num .i64 0), .zc, .zc] [] fun v13 =>
  STORE 3 (nth vs11 1) v13 h1 fun h14 =>
  LOAD true 3 (nth vs11 1) h14 fun r339 =>
  POST (.tup [r339, (.d (.bool false))]) h14 pre r post))
  (BUILD [(0, 1), (1, 1), (2, 1)] [.d (.num .i64 0), .zc, .zc] [] fun v13 =>
  STORE 3 (nth vs11 1) v13 h1 fun h15 =>
  LOAD true 3 (nth vs11 1) h15 fun r341 =>
  POST (.tup [r341, (.d (.bool false))]) h15 pre r post)
def vc_ref09_Read_k59 (_P : Ctx) (pre : List ABlk) (r : AV) (post : List PB) (v0 : AV) (vs1 : List AV) (h2 : Heap) (v5 : AV) (next14 : List AV → Heap → Prop) : Prop :=
  COND v0
  (FADDR 2 (nth vs1 2) h2 fun v3 =>
  LOAD false 1 v3 h2 fun v4 =>
  BUILD [(0, 1), (1, 1)] [.d (.num .i64 0), .zc] [(0, (.d (.num .i64 3))), (1, v5)] fun v6 =>
  MKS T_api_ProofEntry 2 [v6] 720 h2 fun v7 h8 =>
  APP T_api_ProofEntry 2 v4 v7 728 h8 fun v9 h10 =>
  FADDR 2 (nth vs1 2) h10 fun v11 =>
  STORE 1 v11 v9 h10 fun h12 =>
  BIN 0 .add (nth vs1 4) (.d (.num .i64 1)) fun v13 =>
  next14 [(nth vs1 0), (nth vs1 1), (nth vs1 2), (nth vs1 3), v13] h12)
  (BUILD [(0, 1), (1, 1), (2, 1)] [.d (.num .i64 0), .zc, .zc] [] fun v15 =>
  STORE 3 (nth vs1 1) v15 h2 fun h16 =>
  LOAD true 3 (nth vs1 1) h16 fun r353 =>
  POST (.tup [r353, (.d (.bool false))]) h16 pre r post)
def vc_ref09_Read_k60 (P : Ctx) (pre : List ABlk) (r : AV) (post : List PB) (v0 : AV) (h1 : Heap) (v5 : AV) (vs11 : List AV) (next12 : List AV → Heap → Prop) : Prop :=
  IADDR 1 T_string v0 (.d (.num .i64 0)) h1 fun v2 =>
  LOAD false 1 v2 h1 fun v3 =>
  BIN 0 .eql v3 (.d (.str [102, 97, 108, 108])) fun v4 =>
  CONDG v4
  (LEN false v5 h1 fun v6 =>
  BIN 0 .eql v6 (.d (.num .i64 1)) fun v7 =>
  CONDG v7
  (CALL P f_ref09_plain [v5, (.d (.num .i64 1))] 672 h1 (fun _ v9 h10 =>
  vc_ref09_Read_k59 P pre r post v9 vs11 h10 v5 next12)
  (fun _ _ _ => False))
  (BUILD [(0, 1), (1, 1), (2, 1)] [.d (.num .i64 0), .zc, .zc] [] fun v13 =>
  STORE 3 (nth vs11 1) v13 h1 fun h14 =>
  LOAD true 3 (nth vs11 1) h14 fun r355 =>
  POST (.tup [r355, (.d (.bool false))]) h14 pre r post))
  (BUILD [(0, 1), (1, 1), (2, 1)] [.d (.num .i64 0), .zc, .zc] [] fun v13 =>
  STORE 3 (nth vs11 1) v13 h1 fun h15 =>
  LOAD true 3 (nth vs11 1) h15 fun r357 =>
  POST (.tup [r357, (.d (.bool false))]) h15 pre r post)
def vc_ref09_Read_k61 (_P : Ctx) (pre : List ABlk) (r : AV) (post : List PB) (v0 : AV) (vs1 : List AV) (h2 : Heap) (v5 : AV) (next14 : List AV → Heap → Prop) : Prop :=
  COND v0
  (FADDR 2 (nth vs1 2) h2 fun v3 =>
  LOAD false 1 v3 h2 fun v4 =>
  BUILD [(0, 1), (1, 1)] [.d (.num .i64 0), .zc] [(0, (.d (.num .i64 3))), (1, v5)] fun v6 =>
  MKS T_api_ProofEntry 2 [v6] 720 h2 fun v7 h8 =>
  APP T_api_ProofEntry 2 v4 v7 728 h8 fun v9 h10 =>
  FADDR 2 (nth vs1 2) h10 fun v11 =>
  STORE 1 v11 v9 h10 fun h12 =>
  BIN 0 .add (nth vs1 4) (.d (.num .i64 1)) fun v13 =>
  next14 [(nth vs1 0), (nth vs1 1), (nth vs1 2), (nth vs1 3), v13] h12)
  (BUILD [(0, 1), (1, 1), (2, 1)] [.d (.num .i64 0), .zc, .zc] [] fun v15 =>
  STORE 3 (nth vs1 1) v15 h2 fun h16 =>
  LOAD true 3 (nth vs1 1) h16 fun r364 =>
  POST (.tup [r364, (.d (.bool false))]) h16 pre r post)
def vc_ref09_Read_k62 (_P : Ctx) (pre : List ABlk) (r : AV) (post : List PB) (v0 : AV) (vs1 : List AV) (h2 : Heap) (v5 : AV) (next14 : List AV → Heap → Prop) : Prop :=
  COND v0
  (FADDR 2 (nth vs1 2) h2 fun v3 =>
  LOAD false 1 v3 h2 fun v4 =>
  BUILD [(0, 1), (1, 1)] [.d (.num .i64 0), .zc] [(0, (.d (.num .i64 3))), (1, v5)] fun v6 =>
  MKS T_api_ProofEntry 2 [v6] 720 h2 fun v7 h8 =>
  APP T_api_ProofEntry 2 v4 v7 728 h8 fun v9 h10 =>
  FADDR 2 (nth vs1 2) h10 fun v11 =>
  STORE 1 v11 v9 h10 fun h12 =>
  BIN 0 .add (nth vs1 4) (.d (.num .i64 1)) fun v13 =>
  next14 [(nth vs1 0), (nth vs1 1), (nth vs1 2), (nth vs1 3), v13] h12)
  (BUILD [(0, 1), (1, 1), (2, 1)] [.d (.num .i64 0), .zc, .zc] [] fun v15 =>
  STORE 3 (nth vs1 1) v15 h2 fun h16 =>
  LOAD true 3 (nth vs1 1) h16 fun r375 =>
  POST (.tup [r375, (.d (.bool false))]) h16 pre r post)
def vc_ref09_Read_k63 (P : Ctx) (pre : List ABlk) (r : AV) (post : List PB) (v0 : AV) (h1 : Heap) (vs7 : List AV) (next8 : List AV → Heap → Prop) (v9 : AV) : Prop :=
  LEN false v0 h1 fun v2 =>
  BIN 0 .eql v2 (.d (.num .i64 3)) fun v3 =>
  CONDG v3
  (CALL P f_ref09_plain [v0, (.d (.num .i64 2))] 568 h1 (fun _ v5 h6 =>
  COND v5
  (vc_ref09_Read_k1 P pre r post vs7 h6 v0 next8)
  (vc_ref09_Read_k60 P pre r post v9 h6 v0 vs7 next8))
  (fun _ _ _ => False))
  (IADDR 1 T_string v9 (.d (.num .i64 0)) h1 fun v10 =>
  LOAD false 1 v10 h1 fun v11 =>
  BIN 0 .eql v11 (.d (.str [102, 97, 108, 108])) fun v12 =>
  CONDG v12
  (LEN false v0 h1 fun v13 =>
  BIN 0 .eql v13 (.d (.num .i64 1)) fun v14 =>
  CONDG v14
  (CALL P f_ref09_plain [v0, (.d (.num .i64 1))] 672 h1 (fun _ v16 h17 =>
  vc_ref09_Read_k61 P pre r post v16 vs7 h17 v0 next8)
  (fun _ _ _ => False))
  (BUILD [(0, 1), (1, 1), (2, 1)] [.d (.num .i64 0), .zc, .zc] [] fun v18 =>
  STORE 3 (nth vs7 1) v18 h1 fun h19 =>
  LOAD true 3 (nth vs7 1) h19 fun r366 =>
  POST (.tup [r366, (.d (.bool false))]) h19 pre r post))
  (BUILD [(0, 1), (1, 1), (2, 1)] [.d (.num .i64 0), .zc, .zc] [] fun v18 =>
  STORE 3 (nth vs7 1) v18 h1 fun h20 =>
  LOAD true 3 (nth vs7 1) h20 fun r368 =>
  POST (.tup [r368, (.d (.bool false))]) h20 pre r post))
def vc_ref09_Read_k64 (P : Ctx) (pre : List ABlk) (r : AV) (post : List PB) (v0 : AV) (h1 : Heap) (v5 : AV) (vs11 : List AV) (next12 : List AV → Heap → Prop) : Prop :=
  IADDR 1 T_string v0 (.d (.num .i64 0)) h1 fun v2 =>
  LOAD false 1 v2 h1 fun v3 =>
  BIN 0 .eql v3 (.d (.str [102, 97, 108, 108])) fun v4 =>
  CONDG v4
  (LEN false v5 h1 fun v6 =>
  BIN 0 .eql v6 (.d (.num .i64 1)) fun v7 =>
  CONDG v7
  (CALL P f_ref09_plain [v5, (.d (.num .i64 1))] 672 h1 (fun _ v9 h10 =>
  vc_ref09_Read_k62 P pre r post v9 vs11 h10 v5 next12)
  (fun _ _ _ => False))
  (BUILD [(0, 1), (1, 1), (2, 1)] [.d (.num .i64 0), .zc, .zc] [] fun v13 =>
  STORE 3 (nth vs11 1) v13 h1 fun h14 =>
  LOAD true 3 (nth vs11 1) h14 fun r377 =>
  POST (.tup [r377, (.d (.bool false))]) h14 pre r post))
  (BUILD [(0, 1), (1, 1), (2, 1)] [.d (.num .i64 0), .zc, .zc] [] fun v13 =>
  STORE 3 (nth vs11 1) v13 h1 fun h15 =>
  LOAD true 3 (nth vs11 1) h15 fun r379 =>
  POST (.tup [r379, (.d (.bool false))]) h15 pre r post)
def vc_ref09_Read_k65 (P : Ctx) (pre : List ABlk) (r : AV) (post : List PB) (v0 : AV) (h1 : Heap) (vs7 : List AV) (next8 : List AV → Heap → Prop) (v9 : AV) : Prop :=
  LEN false v0 h1 fun v2 =>
  BIN 0 .eql v2 (.d (.num .i64 4)) fun v3 =>
  CONDG v3
  (CALL P f_ref09_plain [v0, (.d (.num .i64 4))] 464 h1 (fun _ v5 h6 =>
  COND v5
  (vc_ref09_Read_k7 P pre r post vs7 h6 v0 next8)
  (vc_ref09_Read_k52 P pre r post v9 h6 v0 vs7 next8))
  (fun _ _ _ => False))
  (IADDR 1 T_string v9 (.d (.num .i64 0)) h1 fun v10 =>
  LOAD false 1 v10 h1 fun v11 =>
  BIN 0 .eql v11 (.d (.str [109, 101, 110, 100])) fun v12 =>
  CONDG v12
  (vc_ref09_Read_k57 P pre r post v0 h1 vs7 next8 v9)
  (vc_ref09_Read_k58 P pre r post v9 h1 v0 vs7 next8))
def vc_ref09_Read_k66 (P : Ctx) (pre : List ABlk) (r : AV) (post : List PB) (v0 : AV) (h1 : Heap) (v5 : AV) (vs6 : List AV) (next7 : List AV → Heap → Prop) : Prop :=
  IADDR 1 T_string v0 (.d (.num .i64 0)) h1 fun v2 =>
  LOAD false 1 v2 h1 fun v3 =>
  BIN 0 .eql v3 (.d (.str [109, 101, 110, 100])) fun v4 =>
  CONDG v4
  (vc_ref09_Read_k63 P pre r post v5 h1 vs6 next7 v0)
  (vc_ref09_Read_k64 P pre r post v0 h1 v5 vs6 next7)
def vc_ref09_Read_k67 (P : Ctx) (pre : List ABlk) (r : AV) (post : List PB) (v0 : AV) (h1 : Heap) (vs7 : List AV) (next8 : List AV → Heap → Prop) (v9 : AV) : Prop :=
  LEN false v0 h1 fun v2 =>
  BIN 0 .eql v2 (.d (.num .i64 3)) fun v3 =>
  CONDG v3
  (CALL P f_ref09_plain [v0, (.d (.num .i64 1))] 360 h1 (fun _ v5 h6 =>
  COND v5
  (vc_ref09_Read_k23 P pre r post vs7 h6 v0 next8)
  (vc_ref09_Read_k24 P pre r post v9 h6 v0 vs7 next8))
  (fun _ _ _ => False))
  (IADDR 1 T_string v9 (.d (.num .i64 0)) h1 fun v10 =>
  LOAD false 1 v10 h1 fun v11 =>
  BIN 0 .eql v11 (.d (.str [114, 101, 97, 100])) fun v12 =>
  CONDG v12
  (vc_ref09_Read_k44 P pre r post v0 h1 vs7 next8 v9)
  (vc_ref09_Read_k45 P pre r post v9 h1 v0 vs7 next8))
def vc_ref09_Read_k68 (P : Ctx) (pre : List ABlk) (r : AV) (post : List PB) (v0 : AV) (h1 : Heap) (v5 : AV) (vs6 : List AV) (next7 : List AV → Heap → Prop) : Prop :=
  IADDR 1 T_string v0 (.d (.num .i64 0)) h1 fun v2 =>
  LOAD false 1 v2 h1 fun v3 =>
  BIN 0 .eql v3 (.d (.str [114, 101, 97, 100])) fun v4 =>
  CONDG v4
  (vc_ref09_Read_k65 P pre r post v5 h1 vs6 next7 v0)
  (vc_ref09_Read_k66 P pre r post v0 h1 v5 vs6 next7)
def vc_ref09_Read_k69 (_P : Ctx) (pre : List ABlk) (r : AV) (post : List PB) (v0 : AV) (h1 : Heap) (vs5 : List AV) (next16 : List AV → Heap → Prop) : Prop :=
  LEN false v0 h1 fun v2 =>
  BIN 0 .neq v2 (.d (.num .i64 1)) fun v3 =>
  CONDG v3
  (BUILD [(0, 1), (1, 1), (2, 1)] [.d (.num .i64 0), .zc, .zc] [] fun v4 =>
  STORE 3 (nth vs5 1) v4 h1 fun h6 =>
  LOAD true 3 (nth vs5 1) h6 fun r14 =>
  POST (.tup [r14, (.d (.bool false))]) h6 pre r post)
  (IADDR 1 T_int v0 (.d (.num .i64 0)) h1 fun v7 =>
  LOAD false 1 v7 h1 fun v8 =>
  BIN 0 .lss v8 (.d (.num .i64 0)) fun v9 =>
  COND v9
  (BUILD [(0, 1), (1, 1), (2, 1)] [.d (.num .i64 0), .zc, .zc] [] fun v4 =>
  STORE 3 (nth vs5 1) v4 h1 fun h10 =>
  LOAD true 3 (nth vs5 1) h10 fun r16 =>
  POST (.tup [r16, (.d (.bool false))]) h10 pre r post)
  (IADDR 1 T_int v0 (.d (.num .i64 0)) h1 fun v11 =>
  LOAD false 1 v11 h1 fun v12 =>
  FADDR 0 (nth vs5 2) h1 fun v13 =>
  STORE 1 v13 v12 h1 fun h14 =>
  BIN 0 .add (nth vs5 4) (.d (.num .i64 1)) fun v15 =>
  next16 [(nth vs5 0), (nth vs5 1), (nth vs5 2), (nth vs5 3), v15] h14))
def vc_ref09_Read_k70 (P : Ctx) (pre : List ABlk) (r : AV) (post : List PB) (v0 : AV) (h1 : Heap) (v5 : AV) (vs6 : List AV) (next7 : List AV → Heap → Prop) : Prop :=
  IADDR 1 T_string v0 (.d (.num .i64 0)) h1 fun v2 =>
  LOAD false 1 v2 h1 fun v3 =>
  BIN 0 .eql v3 (.d (.str [108, 105, 110, 101])) fun v4 =>
  CONDG v4
  (vc_ref09_Read_k67 P pre r post v5 h1 vs6 next7 v0)
  (vc_ref09_Read_k68 P pre r post v0 h1 v5 vs6 next7)
def vc_ref09_Read_k71 (P : Ctx) (pre : List ABlk) (r : AV) (post : List PB) (v0 : AV) (vs5 : List AV) (h6 : Heap) (next9 : List AV → Heap → Prop) (v10 : AV) : Prop :=
  EXT v0 0 fun v1 =>
  EXT v0 1 fun v2 =>
  NOT v2 fun v3 =>
  COND v3
  (BUILD [(0, 1), (1, 1), (2, 1)] [.d (.num .i64 0), .zc, .zc] [] fun v4 =>
  STORE 3 (nth vs5 1) v4 h6 fun h7 =>
  LOAD true 3 (nth vs5 1) h7 fun r12 =>
  POST (.tup [r12, (.d (.bool false))]) h7 pre r post)
  (BIN 0 .eql (nth vs5 4) (.d (.num .i64 0)) fun v8 =>
  COND v8
  (vc_ref09_Read_k69 P pre r post v1 h6 vs5 next9)
  (vc_ref09_Read_k70 P pre r post v10 h6 v1 vs5 next9))
def vc_ref09_Read_k72 (_P : Ctx) (pre : List ABlk) (r : AV) (post : List PB) (v0 : AV) (vs1 : List AV) (h4 : Heap) : Prop :=
  BIN 0 .neq v0 (nth vs1 0) fun v2 =>
  COND v2
  (BUILD [(0, 1), (1, 1), (2, 1)] [.d (.num .i64 0), .zc, .zc] [] fun v3 =>
  STORE 3 (nth vs1 1) v3 h4 fun h5 =>
  LOAD true 3 (nth vs1 1) h5 fun r385 =>
  POST (.tup [r385, (.d (.bool false))]) h5 pre r post)
  (LOAD true 3 (nth vs1 2) h4 fun v6 =>
  STORE 3 (nth vs1 1) v6 h4 fun h7 =>
  LOAD true 3 (nth vs1 1) h7 fun r387 =>
  POST (.tup [r387, (.d (.bool true))]) h7 pre r post)
def vc_ref09_Read_k73 (P : Ctx) (pre : List ABlk) (r : AV) (post : List PB) (vs0 : List AV) (h1 : Heap) (next11 : List AV → Heap → Prop) : Prop :=
  IADDR 1 T_string (nth vs0 3) (nth vs0 4) h1 fun v2 =>
  LOAD false 1 v2 h1 fun v3 =>
  CALL P f_ref01_Split [v3, (.d (.num .u8 32))] 160 h1 (fun _ v5 h6 =>
  SLICE 2 v5 (some (.d (.num .i64 1))) none none fun v7 =>
  CALL P f_ref01_Numbers [v7, (.d (.num .i64 3))] 192 h6 (fun _ v9 h10 =>
  vc_ref09_Read_k71 P pre r post v9 vs0 h10 next11 v5)
  (fun _ _ _ => False))
  (fun _ _ _ => False)
def vc_ref09_Read_k74 (P : Ctx) (pre : List ABlk) (r : AV) (post : List PB) (vs0 : List AV) (h1 : Heap) : Prop :=
  LEN false (nth vs0 3) h1 fun v2 =>
  BIN 0 .lss v2 (.d (.num .i64 3)) fun v3 =>
  CONDG v3
  (BUILD [(0, 1), (1, 1), (2, 1)] [.d (.num .i64 0), .zc, .zc] [] fun v4 =>
  STORE 3 (nth vs0 1) v4 h1 fun h5 =>
  LOAD true 3 (nth vs0 1) h5 fun r381 =>
  POST (.tup [r381, (.d (.bool false))]) h5 pre r post)
  (LOAD true 3 (nth vs0 2) h1 fun v6 =>
  CALL P f_ref09_Print [v6] 168 h1 (fun _ v8 h9 =>
  vc_ref09_Read_k72 P pre r post v8 vs0 h9)
  (fun _ _ _ => False))
def vc_ref09_Read_k75 (P : Ctx) (pre : List ABlk) (r : AV) (post : List PB) (a0 : AV) (v1 : AV) (v2 : AV) (v3 : AV) (h4 : Heap) : Prop :=
  LOOP [a0, v1, v2, v3, (.d (.num .i64 0))] h4 80 fun vs5 h6 next7 =>
  LEN false (nth vs5 3) h6 fun v8 =>
  BIN 0 .sub v8 (.d (.num .i64 2)) fun v9 =>
  BIN 0 .lss (nth vs5 4) v9 fun v10 =>
  COND v10
  (vc_ref09_Read_k73 P pre r post vs5 h6 next7)
  (vc_ref09_Read_k74 P pre r post vs5 h6)
def vc_ref09_Read (P : Ctx) (pre : List ABlk) (a0 : AV) (r : AV) (post : List PB) : Prop :=
  let h0 : Heap := numbered 0 pre
  ALLOC T_api_ProofPage [.d (.num .i64 0), .zc, .zc] 24 h0 fun v2 h1 =>
  ALLOC T_api_ProofPage [.d (.num .i64 0), .zc, .zc] 40 h1 fun v4 h2 =>
  CALL P f_ref01_Split [a0, (.d (.num .u8 10))] 56 h2 (fun _ v11 h3 =>
  vc_ref09_Read_k75 P pre r post a0 v2 v4 v11 h3)
  (fun _ _ _ => False)
theorem vc_ref09_Read_eq (g : GG) (pre : List ABlk) (a0 : AV) (r : AV) (post : List PB) : vcFn2 (Tz g) false ann_ref09_Read Tryz.f53 pre [a0] (.ret r) post = vc_ref09_Read (Tz g) pre a0 r post := by kernel_rfl
theorem hf_ref09_Read : Tryz.prog.funcs[f_ref09_Read]? = some Tryz.f53 := by kernel_rfl
theorem ok_ref09_Read : fnVcOK Tryz.prog Tryz.f53 = true := by kernel_rfl
theorem nt_ref09_Read : Nat.ble 1 Tryz.f53.ntmps = true := by kernel_rfl
theorem meetsH_ref09_Read {g : GG} {pre : List ABlk} {a0 : AV} {r : AV} {post : List PB} (hk : Nat.ble pre.length 24 = true) (h : vc_ref09_Read (Tz g) pre a0 r post) : MeetsH (Tz g) f_ref09_Read pre [a0] (.ret r) post :=
  meetsH_of_vc (C := Tz g) ann_ref09_Read hf_ref09_Read ok_ref09_Read nt_ref09_Read hk (pn := false) (Eq.mpr ((vcFn2_eq _ _ _ _ _ _ _ _).trans (vc_ref09_Read_eq g pre a0 r post)) h)
theorem meets_ref09_Read {g : GG} {a0 : D} {r : Res} (h : vc_ref09_Read (Tz g) [] (.d a0) r.val (r.bl.map .upd)) : Meets (Tz g) f_ref09_Read [a0] r := meetsH_ref09_Read rfl h
end Go.Vc
