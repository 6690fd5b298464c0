/- A part of the proof: general laws of a reading of the model by abstract data, or contracts of the functions that the law calls. -/
import Derived.Test.YtaacglfaheijaaaGreatDoorVc23
import Derived.Test.YtaacglfaheijaaaGreatDoorVc11
set_option maxRecDepth 100000
namespace Go.Vc
open Go Go.Proofs Go.RowKit
def ann_proof_need : Nat → List Nat := fun n => match n with  | _ => []
def vc_proof_need (_P : Ctx) (pre : List ABlk) (a0 a1 : AV) (r : AV) (post : List PB) : Prop :=
  let h0 : Heap := numbered 0 pre
  NOT a0 fun v5 =>
  COND v5
  (BUILD [(0, 1)] [.d (.str [])] [(0, a1)] fun v7 =>
  PANIC (.iface T_proof_noText v7) fun _ => False)
  (POST (.tup []) h0 pre r post)
theorem vc_proof_need_eq (g : GG) (pre : List ABlk) (a0 a1 : AV) (r : AV) (post : List PB) : vcFn2 (Tz g) false ann_proof_need Tryz.f77 pre [a0, a1] (.ret r) post = vc_proof_need (Tz g) pre a0 a1 r post := by kernel_rfl
theorem hf_proof_need : Tryz.prog.funcs[f_proof_need]? = some Tryz.f77 := by kernel_rfl
theorem ok_proof_need : fnVcOK Tryz.prog Tryz.f77 = true := by kernel_rfl
theorem nt_proof_need : Nat.ble 2 Tryz.f77.ntmps = true := by kernel_rfl
theorem meetsH_proof_need {g : GG} {pre : List ABlk} {a0 a1 : AV} {r : AV} {post : List PB} (hk : Nat.ble pre.length 24 = true) (h : vc_proof_need (Tz g) pre a0 a1 r post) : MeetsH (Tz g) f_proof_need pre [a0, a1] (.ret r) post :=
  meetsH_of_vc (C := Tz g) ann_proof_need hf_proof_need ok_proof_need nt_proof_need hk (pn := false) (Eq.mpr ((vcFn2_eq _ _ _ _ _ _ _ _).trans (vc_proof_need_eq g pre a0 a1 r post)) h)
theorem meets_proof_need {g : GG} {a0 a1 : D} {r : Res} (h : vc_proof_need (Tz g) [] (.d a0) (.d a1) r.val (r.bl.map .upd)) : Meets (Tz g) f_proof_need [a0, a1] r := meetsH_proof_need rfl h
def annp_proof_need : Nat → List Nat := fun n => match n with  | _ => []
def vcp_proof_need (_P : Ctx) (pre : List ABlk) (a0 a1 : AV) (r : AV) (post : List PB) : Prop :=
  let h0 : Heap := numbered 0 pre
  NOT a0 fun v5 =>
  COND v5
  (BUILD [(0, 1)] [.d (.str [])] [(0, a1)] fun v7 =>
  PANIC (.iface T_proof_noText v7) fun pv1 =>
  POST pv1 h0 pre r post)
  (False)
theorem vcp_proof_need_eq (g : GG) (pre : List ABlk) (a0 a1 : AV) (r : AV) (post : List PB) : vcFn2 (Tz g) true annp_proof_need Tryz.f77 pre [a0, a1] (.pan r) post = vcp_proof_need (Tz g) pre a0 a1 r post := by kernel_rfl
theorem hfp_proof_need : Tryz.prog.funcs[f_proof_need]? = some Tryz.f77 := by kernel_rfl
theorem okp_proof_need : fnVcOK Tryz.prog Tryz.f77 = true := by kernel_rfl
theorem ntp_proof_need : Nat.ble 2 Tryz.f77.ntmps = true := by kernel_rfl
theorem meetsHp_proof_need {g : GG} {pre : List ABlk} {a0 a1 : AV} {r : AV} {post : List PB} (hk : Nat.ble pre.length 24 = true) (h : vcp_proof_need (Tz g) pre a0 a1 r post) : MeetsH (Tz g) f_proof_need pre [a0, a1] (.pan r) post :=
  meetsH_of_vc (C := Tz g) annp_proof_need hfp_proof_need okp_proof_need ntp_proof_need hk (pn := true) (Eq.mpr ((vcFn2_eq _ _ _ _ _ _ _ _).trans (vcp_proof_need_eq g pre a0 a1 r post)) h)
theorem meetsP_proof_need {g : GG} {a0 a1 : D} {x : D} (h : vcp_proof_need (Tz g) [] (.d a0) (.d a1) (.d x) []) : MeetsP (Tz g) f_proof_need [a0, a1] x := meetsHp_proof_need rfl h
def ann_proof_given : Nat → List Nat := fun n => match n with | 4 => [0, 1, 5, 6, 7, 16] | _ => []
def vc_proof_given_k0 (P : Ctx) (_pre : List ABlk) (_r : AV) (_post : List PB) (vs0 : List AV) (h1 : Heap) (v8 : AV) (next12 : List AV → Heap → Prop) : Prop :=
  LEN true (nth vs0 2) h1 fun v2 =>
  BIN 0 .leq v2 (.d (.num .i64 3)) fun v3 =>
  CALL P f_proof_need [v3, (nth vs0 0)] 248 h1 (fun _ _ h6 =>
  BIN 0 .mul (.d (.num .i64 10)) (nth vs0 4) fun v7 =>
  BIN 0 .sub v8 (.d (.num .i32 48)) fun v9 =>
  CONVI .i64 v9 fun v10 =>
  BIN 0 .add v7 v10 fun v11 =>
  next12 [(nth vs0 0), (nth vs0 1), (nth vs0 2), (nth vs0 3), v11, (nth vs0 5)] h6)
  (fun _ _ _ => False)
def vc_proof_given_k1 (P : Ctx) (_pre : List ABlk) (_r : AV) (_post : List PB) (vs0 : List AV) (h1 : Heap) (v6 : AV) (next10 : List AV → Heap → Prop) : Prop :=
  CALL P f_proof_need [(.d (.bool false)), (nth vs0 0)] 248 h1 (fun _ _ h4 =>
  BIN 0 .mul (.d (.num .i64 10)) (nth vs0 4) fun v5 =>
  BIN 0 .sub v6 (.d (.num .i32 48)) fun v7 =>
  CONVI .i64 v7 fun v8 =>
  BIN 0 .add v5 v8 fun v9 =>
  next10 [(nth vs0 0), (nth vs0 1), (nth vs0 2), (nth vs0 3), v9, (nth vs0 5)] h4)
  (fun _ _ _ => False)
def vc_proof_given_k2 (P : Ctx) (pre : List ABlk) (r : AV) (post : List PB) (v0 : AV) (vs1 : List AV) (h4 : Heap) : Prop :=
  BIN 0 .eql v0 (nth vs1 2) fun v2 =>
  CONDG v2
  (NOT (nth vs1 3) fun v3 =>
  CONDG v3
  (CALL P f_proof_need [(.d (.bool true)), (nth vs1 0)] 296 h4 (fun _ v6 h7 =>
  COND (nth vs1 3)
  (NEG (nth vs1 4) fun v8 =>
  POST v8 h7 pre r post)
  (POST (nth vs1 4) h7 pre r post))
  (fun _ _ _ => False))
  (CONDG (nth vs1 1)
  (BIN 0 .gtr (nth vs1 4) (.d (.num .i64 0)) fun v9 =>
  CALL P f_proof_need [v9, (nth vs1 0)] 296 h4 (fun _ v6 h11 =>
  COND (nth vs1 3)
  (NEG (nth vs1 4) fun v8 =>
  POST v8 h11 pre r post)
  (POST (nth vs1 4) h11 pre r post))
  (fun _ _ _ => False))
  (CALL P f_proof_need [(.d (.bool false)), (nth vs1 0)] 296 h4 (fun _ v6 h13 =>
  COND (nth vs1 3)
  (NEG (nth vs1 4) fun v8 =>
  POST v8 h13 pre r post)
  (POST (nth vs1 4) h13 pre r post))
  (fun _ _ _ => False))))
  (CALL P f_proof_need [(.d (.bool false)), (nth vs1 0)] 296 h4 (fun _ v6 h15 =>
  COND (nth vs1 3)
  (NEG (nth vs1 4) fun v8 =>
  POST v8 h15 pre r post)
  (POST (nth vs1 4) h15 pre r post))
  (fun _ _ _ => False))
def vc_proof_given_k3 (P : Ctx) (pre : List ABlk) (r : AV) (post : List PB) (v0 : AV) (vs4 : List AV) (h5 : Heap) (next6 : List AV → Heap → Prop) : Prop :=
  EXT v0 2 fun v1 =>
  BIN 0 .geq v1 (.d (.num .i32 48)) fun v2 =>
  CONDG v2
  (BIN 0 .leq v1 (.d (.num .i32 57)) fun v3 =>
  CONDG v3
  (vc_proof_given_k0 P pre r post vs4 h5 v1 next6)
  (vc_proof_given_k1 P pre r post vs4 h5 v1 next6))
  (CALL P f_proof_need [(.d (.bool false)), (nth vs4 0)] 248 h5 (fun _ _ h9 =>
  BIN 0 .mul (.d (.num .i64 10)) (nth vs4 4) fun v10 =>
  BIN 0 .sub v1 (.d (.num .i32 48)) fun v11 =>
  CONVI .i64 v11 fun v12 =>
  BIN 0 .add v10 v12 fun v13 =>
  next6 [(nth vs4 0), (nth vs4 1), (nth vs4 2), (nth vs4 3), v13, (nth vs4 5)] h9)
  (fun _ _ _ => False))
def vc_proof_given_k4 (P : Ctx) (pre : List ABlk) (r : AV) (post : List PB) (vs0 : List AV) (h2 : Heap) : Prop :=
  BIN 0 .neq (nth vs0 2) (.d (.str [])) fun v1 =>
  CONDG v1
  (CALL P f_strconv_Itoa [(nth vs0 4)] 168 h2 (fun _ v4 h5 =>
  vc_proof_given_k2 P pre r post v4 vs0 h5)
  (fun _ _ _ => False))
  (CALL P f_proof_need [(.d (.bool false)), (nth vs0 0)] 296 h2 (fun _ _ h8 =>
  COND (nth vs0 3)
  (NEG (nth vs0 4) fun v9 =>
  POST v9 h8 pre r post)
  (POST (nth vs0 4) h8 pre r post))
  (fun _ _ _ => False))
def vc_proof_given_k5 (P : Ctx) (pre : List ABlk) (r : AV) (post : List PB) (v0 : AV) (h3 : Heap) (a6 : AV) (a7 : AV) : Prop :=
  EXT v0 0 fun v1 =>
  EXT v0 1 fun v2 =>
  RANGE v1 104 h3 fun v4 h5 =>
  LOOP [a6, a7, v1, v2, (.d (.num .i64 0)), v4] h5 112 fun vs8 h9 next10 =>
  NEXT (nth vs8 5) h9 fun v11 h12 =>
  EXT v11 0 fun v13 =>
  COND v13
  (vc_proof_given_k3 P pre r post v11 vs8 h12 next10)
  (vc_proof_given_k4 P pre r post vs8 h12)
def vc_proof_given (P : Ctx) (pre : List ABlk) (a0 a1 : AV) (r : AV) (post : List PB) : Prop :=
  let h0 : Heap := numbered 0 pre
  CALL P f_strings_CutPrefix [a0, (.d (.str [45]))] 40 h0 (fun _ v12 h1 =>
  vc_proof_given_k5 P pre r post v12 h1 a0 a1)
  (fun _ _ _ => False)
theorem vc_proof_given_eq (g : GG) (pre : List ABlk) (a0 a1 : AV) (r : AV) (post : List PB) : vcFn2 (Tz g) false ann_proof_given Tryz.f106 pre [a0, a1] (.ret r) post = vc_proof_given (Tz g) pre a0 a1 r post := by kernel_rfl
theorem hf_proof_given : Tryz.prog.funcs[f_proof_given]? = some Tryz.f106 := by kernel_rfl
theorem ok_proof_given : fnVcOK Tryz.prog Tryz.f106 = true := by kernel_rfl
theorem nt_proof_given : Nat.ble 2 Tryz.f106.ntmps = true := by kernel_rfl
theorem meetsH_proof_given {g : GG} {pre : List ABlk} {a0 a1 : AV} {r : AV} {post : List PB} (hk : Nat.ble pre.length 24 = true) (h : vc_proof_given (Tz g) pre a0 a1 r post) : MeetsH (Tz g) f_proof_given pre [a0, a1] (.ret r) post :=
  meetsH_of_vc (C := Tz g) ann_proof_given hf_proof_given ok_proof_given nt_proof_given hk (pn := false) (Eq.mpr ((vcFn2_eq _ _ _ _ _ _ _ _).trans (vc_proof_given_eq g pre a0 a1 r post)) h)
theorem meets_proof_given {g : GG} {a0 a1 : D} {r : Res} (h : vc_proof_given (Tz g) [] (.d a0) (.d a1) r.val (r.bl.map .upd)) : Meets (Tz g) f_proof_given [a0, a1] r := meetsH_proof_given rfl h
def annp_proof_given : Nat → List Nat := fun n => match n with | 4 => [0, 1, 5, 6, 7, 16] | _ => []
def vcp_proof_given_k0 (P : Ctx) (pre : List ABlk) (r : AV) (post : List PB) (vs0 : List AV) (h1 : Heap) (v8 : AV) (next12 : List AV → Heap → Prop) : Prop :=
  LEN true (nth vs0 2) h1 fun v2 =>
  BIN 0 .leq v2 (.d (.num .i64 3)) fun v3 =>
  CALL P f_proof_need [v3, (nth vs0 0)] 248 h1 (fun _ _ h6 =>
  BIN 0 .mul (.d (.num .i64 10)) (nth vs0 4) fun v7 =>
  BIN 0 .sub v8 (.d (.num .i32 48)) fun v9 =>
  CONVI .i64 v9 fun v10 =>
  BIN 0 .add v7 v10 fun v11 =>
  next12 [(nth vs0 0), (nth vs0 1), (nth vs0 2), (nth vs0 3), v11, (nth vs0 5)] h6)
  (fun _ pv13 ph14 =>
  POST pv13 ph14 pre r post)
def vcp_proof_given_k1 (P : Ctx) (pre : List ABlk) (r : AV) (post : List PB) (vs0 : List AV) (h1 : Heap) (v6 : AV) (next10 : List AV → Heap → Prop) : Prop :=
  CALL P f_proof_need [(.d (.bool false)), (nth vs0 0)] 248 h1 (fun _ _ h4 =>
  BIN 0 .mul (.d (.num .i64 10)) (nth vs0 4) fun v5 =>
  BIN 0 .sub v6 (.d (.num .i32 48)) fun v7 =>
  CONVI .i64 v7 fun v8 =>
  BIN 0 .add v5 v8 fun v9 =>
  next10 [(nth vs0 0), (nth vs0 1), (nth vs0 2), (nth vs0 3), v9, (nth vs0 5)] h4)
  (fun _ pv11 ph12 =>
  POST pv11 ph12 pre r post)
def vcp_proof_given_k2 (P : Ctx) (pre : List ABlk) (r : AV) (post : List PB) (v0 : AV) (vs1 : List AV) (h4 : Heap) : Prop :=
  BIN 0 .eql v0 (nth vs1 2) fun v2 =>
  CONDG v2
  (NOT (nth vs1 3) fun v3 =>
  CONDG v3
  (CALL P f_proof_need [(.d (.bool true)), (nth vs1 0)] 296 h4 (fun _ v6 _ =>
  COND (nth vs1 3)
  (NEG (nth vs1 4) fun v8 =>
  False)
  (False))
  (fun _ pv9 ph10 =>
  POST pv9 ph10 pre r post))
  (CONDG (nth vs1 1)
  (BIN 0 .gtr (nth vs1 4) (.d (.num .i64 0)) fun v11 =>
  CALL P f_proof_need [v11, (nth vs1 0)] 296 h4 (fun _ v6 _ =>
  COND (nth vs1 3)
  (NEG (nth vs1 4) fun v8 =>
  False)
  (False))
  (fun _ pv14 ph15 =>
  POST pv14 ph15 pre r post))
  (CALL P f_proof_need [(.d (.bool false)), (nth vs1 0)] 296 h4 (fun _ v6 _ =>
  COND (nth vs1 3)
  (NEG (nth vs1 4) fun v8 =>
  False)
  (False))
  (fun _ pv18 ph19 =>
  POST pv18 ph19 pre r post))))
  (CALL P f_proof_need [(.d (.bool false)), (nth vs1 0)] 296 h4 (fun _ v6 _ =>
  COND (nth vs1 3)
  (NEG (nth vs1 4) fun v8 =>
  False)
  (False))
  (fun _ pv22 ph23 =>
  POST pv22 ph23 pre r post))
def vcp_proof_given_k3 (P : Ctx) (pre : List ABlk) (r : AV) (post : List PB) (v0 : AV) (vs4 : List AV) (h5 : Heap) (next6 : List AV → Heap → Prop) : Prop :=
  EXT v0 2 fun v1 =>
  BIN 0 .geq v1 (.d (.num .i32 48)) fun v2 =>
  CONDG v2
  (BIN 0 .leq v1 (.d (.num .i32 57)) fun v3 =>
  CONDG v3
  (vcp_proof_given_k0 P pre r post vs4 h5 v1 next6)
  (vcp_proof_given_k1 P pre r post vs4 h5 v1 next6))
  (CALL P f_proof_need [(.d (.bool false)), (nth vs4 0)] 248 h5 (fun _ _ h9 =>
  BIN 0 .mul (.d (.num .i64 10)) (nth vs4 4) fun v10 =>
  BIN 0 .sub v1 (.d (.num .i32 48)) fun v11 =>
  CONVI .i64 v11 fun v12 =>
  BIN 0 .add v10 v12 fun v13 =>
  next6 [(nth vs4 0), (nth vs4 1), (nth vs4 2), (nth vs4 3), v13, (nth vs4 5)] h9)
  (fun _ pv14 ph15 =>
  POST pv14 ph15 pre r post))
def vcp_proof_given_k4 (P : Ctx) (pre : List ABlk) (r : AV) (post : List PB) (vs0 : List AV) (h2 : Heap) : Prop :=
  BIN 0 .neq (nth vs0 2) (.d (.str [])) fun v1 =>
  CONDG v1
  (CALL P f_strconv_Itoa [(nth vs0 4)] 168 h2 (fun _ v4 h5 =>
  vcp_proof_given_k2 P pre r post v4 vs0 h5)
  (fun _ pv6 ph7 =>
  POST pv6 ph7 pre r post))
  (CALL P f_proof_need [(.d (.bool false)), (nth vs0 0)] 296 h2 (fun _ _ _ =>
  COND (nth vs0 3)
  (NEG (nth vs0 4) fun _ =>
  False)
  (False))
  (fun _ pv12 ph13 =>
  POST pv12 ph13 pre r post))
def vcp_proof_given_k5 (P : Ctx) (pre : List ABlk) (r : AV) (post : List PB) (v0 : AV) (h3 : Heap) (a6 : AV) (a7 : AV) : Prop :=
  EXT v0 0 fun v1 =>
  EXT v0 1 fun v2 =>
  RANGE v1 104 h3 fun v4 h5 =>
  LOOP [a6, a7, v1, v2, (.d (.num .i64 0)), v4] h5 112 fun vs8 h9 next10 =>
  NEXT (nth vs8 5) h9 fun v11 h12 =>
  EXT v11 0 fun v13 =>
  COND v13
  (vcp_proof_given_k3 P pre r post v11 vs8 h12 next10)
  (vcp_proof_given_k4 P pre r post vs8 h12)
def vcp_proof_given (P : Ctx) (pre : List ABlk) (a0 a1 : AV) (r : AV) (post : List PB) : Prop :=
  let h0 : Heap := numbered 0 pre
  CALL P f_strings_CutPrefix [a0, (.d (.str [45]))] 40 h0 (fun _ v12 h1 =>
  vcp_proof_given_k5 P pre r post v12 h1 a0 a1)
  (fun _ pv3 ph4 =>
  POST pv3 ph4 pre r post)
theorem vcp_proof_given_eq (g : GG) (pre : List ABlk) (a0 a1 : AV) (r : AV) (post : List PB) : vcFn2 (Tz g) true annp_proof_given Tryz.f106 pre [a0, a1] (.pan r) post = vcp_proof_given (Tz g) pre a0 a1 r post := by kernel_rfl
theorem hfp_proof_given : Tryz.prog.funcs[f_proof_given]? = some Tryz.f106 := by kernel_rfl
theorem okp_proof_given : fnVcOK Tryz.prog Tryz.f106 = true := by kernel_rfl
theorem ntp_proof_given : Nat.ble 2 Tryz.f106.ntmps = true := by kernel_rfl
theorem meetsHp_proof_given {g : GG} {pre : List ABlk} {a0 a1 : AV} {r : AV} {post : List PB} (hk : Nat.ble pre.length 24 = true) (h : vcp_proof_given (Tz g) pre a0 a1 r post) : MeetsH (Tz g) f_proof_given pre [a0, a1] (.pan r) post :=
  meetsH_of_vc (C := Tz g) annp_proof_given hfp_proof_given okp_proof_given ntp_proof_given hk (pn := true) (Eq.mpr ((vcFn2_eq _ _ _ _ _ _ _ _).trans (vcp_proof_given_eq g pre a0 a1 r post)) h)
theorem meetsP_proof_given {g : GG} {a0 a1 : D} {x : D} (h : vcp_proof_given (Tz g) [] (.d a0) (.d a1) (.d x) []) : MeetsP (Tz g) f_proof_given [a0, a1] x := meetsHp_proof_given rfl h
def ann_proof_numbered : Nat → List Nat := fun n => match n with | 3 => [0, 2, 3, 4, 15, 16] | 10 => [5, 8, 9, 38, 39, 40] | _ => []
def vc_proof_numbered_k0 (P : Ctx) (pre : List ABlk) (r : AV) (post : List PB) (vs0 : List AV) (h2 : Heap) (next14 : List AV → Heap → Prop) : Prop :=
  BIN 0 .lss (nth vs0 5) (nth vs0 4) fun v1 =>
  COND v1
  (IADDR 1 T_string (nth vs0 3) (nth vs0 5) h2 fun v3 =>
  LOAD false 1 v3 h2 fun v4 =>
  BIN 0 .geq (nth vs0 5) (nth vs0 1) fun v5 =>
  CALL P f_proof_given [v4, v5] 408 h2 (fun _ v7 h8 =>
  MKS T_int 1 [v7] 440 h8 fun v9 h10 =>
  APP T_int 1 (nth vs0 2) v9 448 h10 fun v11 h12 =>
  BIN 0 .add (nth vs0 5) (.d (.num .i64 1)) fun v13 =>
  next14 [(nth vs0 0), (nth vs0 1), v11, (nth vs0 3), (nth vs0 4), v13] h12)
  (fun _ _ _ => False))
  (POST (.tup [(nth vs0 0), (nth vs0 2)]) h2 pre r post)
def vc_proof_numbered_k1 (P : Ctx) (pre : List ABlk) (r : AV) (post : List PB) (v0 : AV) (vs3 : List AV) (h4 : Heap) : Prop :=
  EXT v0 0 fun v1 =>
  EXT v0 1 fun v2 =>
  LEN false (nth vs3 3) h4 fun v5 =>
  BIN 0 .add v1 (.d (.num .i64 1)) fun v6 =>
  BIN 0 .eql v5 v6 fun v7 =>
  CALL P f_proof_need [v7, (nth vs3 0)] 272 h4 (fun _ _ h10 =>
  SLICE 2 (nth vs3 3) (some (.d (.num .i64 1))) none none fun v11 =>
  LEN false v11 h10 fun v12 =>
  LOOP [(nth vs3 5), v2, .zc, v11, v12, (.d (.num .i64 0))] h10 320 fun vs13 h14 next15 =>
  vc_proof_numbered_k0 P pre r post vs13 h14 next15)
  (fun _ _ _ => False)
def vc_proof_numbered_k2 (P : Ctx) (pre : List ABlk) (r : AV) (post : List PB) (vs0 : List AV) (h3 : Heap) (next8 : List AV → Heap → Prop) : Prop :=
  BIN 0 .lss (nth vs0 5) (.d (.num .i64 5)) fun v1 =>
  COND v1
  (AIDX false 1 5 (nth vs0 4) (nth vs0 5) fun v2 =>
  IADDR 1 T_string (nth vs0 3) (.d (.num .i64 0)) h3 fun v4 =>
  LOAD false 1 v4 h3 fun v5 =>
  BIN 0 .neq v2 v5 fun v6 =>
  COND v6
  (BIN 0 .add (nth vs0 5) (.d (.num .i64 1)) fun v7 =>
  next8 [(nth vs0 0), (nth vs0 1), (nth vs0 2), (nth vs0 3), (nth vs0 4), v7] h3)
  (CALL P f_proof_many [(nth vs0 5)] 176 h3 (fun _ v10 h11 =>
  vc_proof_numbered_k1 P pre r post v10 vs0 h11)
  (fun _ _ _ => False)))
  (BUILD [(0, 1)] [.d (.str [])] [(0, (nth vs0 0))] fun v12 =>
  PANIC (.iface T_proof_noText v12) fun _ => False)
def vc_proof_numbered (P : Ctx) (pre : List ABlk) (a0 : AV) (r : AV) (post : List PB) : Prop :=
  let h0 : Heap := numbered 0 pre
  CALL P f_strings_Split [a0, (.d (.str [32]))] 48 h0 (fun _ v14 h1 =>
  CALL P f_proof_words [] 64 h1 (fun _ v15 h3 =>
  LOOP [a0, (.d (.num .i64 0)), .zc, v14, v15, (.d (.num .i64 0))] h3 80 fun vs5 h6 next5 =>
  vc_proof_numbered_k2 P pre r post vs5 h6 next5)
  (fun _ _ _ => False))
  (fun _ _ _ => False)
theorem vc_proof_numbered_eq (g : GG) (pre : List ABlk) (a0 : AV) (r : AV) (post : List PB) : vcFn2 (Tz g) false ann_proof_numbered Tryz.f78 pre [a0] (.ret r) post = vc_proof_numbered (Tz g) pre a0 r post := by kernel_rfl
theorem hf_proof_numbered : Tryz.prog.funcs[f_proof_numbered]? = some Tryz.f78 := by kernel_rfl
theorem ok_proof_numbered : fnVcOK Tryz.prog Tryz.f78 = true := by kernel_rfl
theorem nt_proof_numbered : Nat.ble 1 Tryz.f78.ntmps = true := by kernel_rfl
theorem meetsH_proof_numbered {g : GG} {pre : List ABlk} {a0 : AV} {r : AV} {post : List PB} (hk : Nat.ble pre.length 24 = true) (h : vc_proof_numbered (Tz g) pre a0 r post) : MeetsH (Tz g) f_proof_numbered pre [a0] (.ret r) post :=
  meetsH_of_vc (C := Tz g) ann_proof_numbered hf_proof_numbered ok_proof_numbered nt_proof_numbered hk (pn := false) (Eq.mpr ((vcFn2_eq _ _ _ _ _ _ _ _).trans (vc_proof_numbered_eq g pre a0 r post)) h)
theorem meets_proof_numbered {g : GG} {a0 : D} {r : Res} (h : vc_proof_numbered (Tz g) [] (.d a0) r.val (r.bl.map .upd)) : Meets (Tz g) f_proof_numbered [a0] r := meetsH_proof_numbered rfl h
def annp_proof_numbered : Nat → List Nat := fun n => match n with | 3 => [0, 2, 3, 4, 15, 16] | 10 => [5, 8, 9, 38, 39, 40] | _ => []
def vcp_proof_numbered_k0 (P : Ctx) (pre : List ABlk) (r : AV) (post : List PB) (vs0 : List AV) (h2 : Heap) (next14 : List AV → Heap → Prop) : Prop :=
  BIN 0 .lss (nth vs0 5) (nth vs0 4) fun v1 =>
  COND v1
  (IADDR 1 T_string (nth vs0 3) (nth vs0 5) h2 fun v3 =>
  LOAD false 1 v3 h2 fun v4 =>
  BIN 0 .geq (nth vs0 5) (nth vs0 1) fun v5 =>
  CALL P f_proof_given [v4, v5] 408 h2 (fun _ v7 h8 =>
  MKS T_int 1 [v7] 440 h8 fun v9 h10 =>
  APP T_int 1 (nth vs0 2) v9 448 h10 fun v11 h12 =>
  BIN 0 .add (nth vs0 5) (.d (.num .i64 1)) fun v13 =>
  next14 [(nth vs0 0), (nth vs0 1), v11, (nth vs0 3), (nth vs0 4), v13] h12)
  (fun _ pv15 ph16 =>
  POST pv15 ph16 pre r post))
  (False)
def vcp_proof_numbered_k1 (P : Ctx) (pre : List ABlk) (r : AV) (post : List PB) (v0 : AV) (vs3 : List AV) (h4 : Heap) : Prop :=
  EXT v0 0 fun v1 =>
  EXT v0 1 fun v2 =>
  LEN false (nth vs3 3) h4 fun v5 =>
  BIN 0 .add v1 (.d (.num .i64 1)) fun v6 =>
  BIN 0 .eql v5 v6 fun v7 =>
  CALL P f_proof_need [v7, (nth vs3 0)] 272 h4 (fun _ _ h10 =>
  SLICE 2 (nth vs3 3) (some (.d (.num .i64 1))) none none fun v11 =>
  LEN false v11 h10 fun v12 =>
  LOOP [(nth vs3 5), v2, .zc, v11, v12, (.d (.num .i64 0))] h10 320 fun vs13 h14 next15 =>
  vcp_proof_numbered_k0 P pre r post vs13 h14 next15)
  (fun _ pv16 ph17 =>
  POST pv16 ph17 pre r post)
def vcp_proof_numbered_k2 (P : Ctx) (pre : List ABlk) (r : AV) (post : List PB) (vs0 : List AV) (h3 : Heap) (next8 : List AV → Heap → Prop) : Prop :=
  BIN 0 .lss (nth vs0 5) (.d (.num .i64 5)) fun v1 =>
  COND v1
  (AIDX false 1 5 (nth vs0 4) (nth vs0 5) fun v2 =>
  IADDR 1 T_string (nth vs0 3) (.d (.num .i64 0)) h3 fun v4 =>
  LOAD false 1 v4 h3 fun v5 =>
  BIN 0 .neq v2 v5 fun v6 =>
  COND v6
  (BIN 0 .add (nth vs0 5) (.d (.num .i64 1)) fun v7 =>
  next8 [(nth vs0 0), (nth vs0 1), (nth vs0 2), (nth vs0 3), (nth vs0 4), v7] h3)
  (CALL P f_proof_many [(nth vs0 5)] 176 h3 (fun _ v10 h11 =>
  vcp_proof_numbered_k1 P pre r post v10 vs0 h11)
  (fun _ pv12 ph13 =>
  POST pv12 ph13 pre r post)))
  (BUILD [(0, 1)] [.d (.str [])] [(0, (nth vs0 0))] fun v14 =>
  PANIC (.iface T_proof_noText v14) fun pv15 =>
  POST pv15 h3 pre r post)
def vcp_proof_numbered (P : Ctx) (pre : List ABlk) (a0 : AV) (r : AV) (post : List PB) : Prop :=
  let h0 : Heap := numbered 0 pre
  CALL P f_strings_Split [a0, (.d (.str [32]))] 48 h0 (fun _ v14 h1 =>
  CALL P f_proof_words [] 64 h1 (fun _ v15 h5 =>
  LOOP [a0, (.d (.num .i64 0)), .zc, v14, v15, (.d (.num .i64 0))] h5 80 fun vs9 h10 next9 =>
  vcp_proof_numbered_k2 P pre r post vs9 h10 next9)
  (fun _ pv7 ph8 =>
  POST pv7 ph8 pre r post))
  (fun _ pv3 ph4 =>
  POST pv3 ph4 pre r post)
theorem vcp_proof_numbered_eq (g : GG) (pre : List ABlk) (a0 : AV) (r : AV) (post : List PB) : vcFn2 (Tz g) true annp_proof_numbered Tryz.f78 pre [a0] (.pan r) post = vcp_proof_numbered (Tz g) pre a0 r post := by kernel_rfl
theorem hfp_proof_numbered : Tryz.prog.funcs[f_proof_numbered]? = some Tryz.f78 := by kernel_rfl
theorem okp_proof_numbered : fnVcOK Tryz.prog Tryz.f78 = true := by kernel_rfl
theorem ntp_proof_numbered : Nat.ble 1 Tryz.f78.ntmps = true := by kernel_rfl
theorem meetsHp_proof_numbered {g : GG} {pre : List ABlk} {a0 : AV} {r : AV} {post : List PB} (hk : Nat.ble pre.length 24 = true) (h : vcp_proof_numbered (Tz g) pre a0 r post) : MeetsH (Tz g) f_proof_numbered pre [a0] (.pan r) post :=
  meetsH_of_vc (C := Tz g) annp_proof_numbered hfp_proof_numbered okp_proof_numbered ntp_proof_numbered hk (pn := true) (Eq.mpr ((vcFn2_eq _ _ _ _ _ _ _ _).trans (vcp_proof_numbered_eq g pre a0 r post)) h)
theorem meetsP_proof_numbered {g : GG} {a0 : D} {x : D} (h : vcp_proof_numbered (Tz g) [] (.d a0) (.d x) []) : MeetsP (Tz g) f_proof_numbered [a0] x := meetsHp_proof_numbered rfl h
def ann_proof_parsed : Nat → List Nat := fun n => match n with | 7 => [0, 2, 6, 37, 38, 39] | _ => []
def vc_proof_parsed_k0 (_P : Ctx) (_pre : List ABlk) (_r : AV) (_post : List PB) (vs0 : List AV) (h1 : Heap) (v4 : AV) (next19 : List AV → Heap → Prop) : Prop :=
  FADDR 1 (nth vs0 2) h1 fun v2 =>
  LOAD false 1 v2 h1 fun v3 =>
  IADDR 1 T_int v4 (.d (.num .i64 0)) h1 fun v5 =>
  LOAD false 1 v5 h1 fun v6 =>
  IADDR 1 T_int v4 (.d (.num .i64 1)) h1 fun v7 =>
  LOAD false 1 v7 h1 fun v8 =>
  IADDR 1 T_int v4 (.d (.num .i64 2)) h1 fun v9 =>
  LOAD false 1 v9 h1 fun v10 =>
  BUILD [(0, 1), (1, 1), (2, 1)] [.d (.num .i64 0), .d (.num .i64 0), .d (.num .i64 0)] [(0, v6), (1, v8), (2, v10)] fun v11 =>
  MKS T_api_ProofLine 3 [v11] 544 h1 fun v12 h13 =>
  APP T_api_ProofLine 3 v3 v12 552 h13 fun v14 h15 =>
  FADDR 1 (nth vs0 2) h15 fun v16 =>
  STORE 1 v16 v14 h15 fun h17 =>
  ORDX [] [0, 1, 0, 4, 12, 0, 32, 96, 0, 256, 768, 2044, 4092, 8191, 16383, 32767] [(0, wr h1 h1, (ids (nth vs0 2))), (1, wr h1 h1, (ids v2)), (3, wr h1 h1, (ids v4)), (4, wr h1 h1, (ids v5)), (6, wr h1 h1, (ids v4)), (7, wr h1 h1, (ids v7)), (9, wr h1 h1, (ids v4)), (10, wr h1 h1, (ids v9)), (12, wr h1 h13, (ids.idsL [v11])), (13, wr h13 h15, (ids.idsL [v3, v12])), (14, wr h15 h15, (ids (nth vs0 2))), (15, wr h15 h17, (ids v16))] ∧
  BIN 0 .add (nth vs0 5) (.d (.num .i64 1)) fun v18 =>
  next19 [(nth vs0 0), (nth vs0 1), (nth vs0 2), (nth vs0 3), (nth vs0 4), v18] h17
def vc_proof_parsed_k1 (_P : Ctx) (_pre : List ABlk) (_r : AV) (_post : List PB) (vs0 : List AV) (h1 : Heap) (v4 : AV) (v7 : AV) (next16 : List AV → Heap → Prop) : Prop :=
  FADDR 2 (nth vs0 2) h1 fun v2 =>
  LOAD false 1 v2 h1 fun v3 =>
  BIN 0 .sub v4 (.d (.num .i64 2)) fun v5 =>
  BIN 0 .add (.d (.num .i64 1)) v5 fun v6 =>
  BUILD [(0, 1), (1, 1)] [.d (.num .i64 0), .zc] [(0, v6), (1, v7)] fun v8 =>
  MKS T_api_ProofEntry 2 [v8] 504 h1 fun v9 h10 =>
  APP T_api_ProofEntry 2 v3 v9 512 h10 fun v11 h12 =>
  FADDR 2 (nth vs0 2) h12 fun v13 =>
  STORE 1 v13 v11 h12 fun h14 =>
  BIN 0 .add (nth vs0 5) (.d (.num .i64 1)) fun v15 =>
  next16 [(nth vs0 0), (nth vs0 1), (nth vs0 2), (nth vs0 3), (nth vs0 4), v15] h14
def vc_proof_parsed_k2 (P : Ctx) (pre : List ABlk) (r : AV) (post : List PB) (v0 : AV) (v4 : AV) (h5 : Heap) (vs10 : List AV) (next11 : List AV → Heap → Prop) : Prop :=
  EXT v0 0 fun v1 =>
  EXT v0 1 fun v2 =>
  BIN 0 .neq v1 (.d (.num .i64 0)) fun v3 =>
  CALL P f_proof_need [v3, v4] 424 h5 (fun _ _ h8 =>
  BIN 0 .eql v1 (.d (.num .i64 1)) fun v9 =>
  COND v9
  (vc_proof_parsed_k0 P pre r post vs10 h8 v2 next11)
  (vc_proof_parsed_k1 P pre r post vs10 h8 v1 v2 next11))
  (fun _ _ _ => False)
def vc_proof_parsed_k3 (P : Ctx) (pre : List ABlk) (r : AV) (post : List PB) (v0 : AV) (vs1 : List AV) (h3 : Heap) : Prop :=
  BIN 0 .eql v0 (nth vs1 0) fun v2 =>
  CALL P f_proof_need [v2, (nth vs1 0)] 360 h3 (fun _ _ h6 =>
  LOAD true 3 (nth vs1 2) h6 fun v7 =>
  STORE 3 (nth vs1 1) v7 h6 fun h8 =>
  LOAD true 3 (nth vs1 1) h8 fun r29 =>
  POST r29 h8 pre r post)
  (fun _ _ _ => False)
def vc_proof_parsed_k4 (P : Ctx) (pre : List ABlk) (r : AV) (post : List PB) (vs0 : List AV) (h2 : Heap) (next8 : List AV → Heap → Prop) : Prop :=
  BIN 0 .lss (nth vs0 5) (nth vs0 4) fun v1 =>
  COND v1
  (IADDR 1 T_string (nth vs0 3) (nth vs0 5) h2 fun v3 =>
  LOAD false 1 v3 h2 fun v4 =>
  CALL P f_proof_numbered [v4] 352 h2 (fun _ v6 h7 =>
  vc_proof_parsed_k2 P pre r post v6 v4 h7 vs0 next8)
  (fun _ _ _ => False))
  (LOAD true 3 (nth vs0 2) h2 fun v9 =>
  CALL P f_proof_text [v9] 328 h2 (fun _ v11 h12 =>
  vc_proof_parsed_k3 P pre r post v11 vs0 h12)
  (fun _ _ _ => False))
def vc_proof_parsed_k5 (P : Ctx) (pre : List ABlk) (r : AV) (post : List PB) (v0 : AV) (h1 : Heap) (v8 : AV) (a13 : AV) (v14 : AV) : Prop :=
  IADDR 1 T_int v0 (.d (.num .i64 0)) h1 fun v2 =>
  LOAD false 1 v2 h1 fun v3 =>
  BUILD [(0, 1), (1, 1), (2, 1)] [.d (.num .i64 0), .zc, .zc] [(0, v3)] fun v4 =>
  ALLOC T_api_ProofPage [.d (.num .i64 0), .zc, .zc] 232 h1 fun v5 h6 =>
  STORE 3 v5 v4 h6 fun h7 =>
  LEN false v8 h7 fun v9 =>
  BIN 0 .sub v9 (.d (.num .i64 2)) fun v10 =>
  SLICE 2 v8 (some (.d (.num .i64 1))) (some v10) none fun v11 =>
  LEN false v11 h7 fun v12 =>
  LOOP [a13, v14, v5, v11, v12, (.d (.num .i64 0))] h7 304 fun vs15 h16 next17 =>
  vc_proof_parsed_k4 P pre r post vs15 h16 next17
def vc_proof_parsed_k6 (P : Ctx) (pre : List ABlk) (r : AV) (post : List PB) (v0 : AV) (h1 : Heap) (a10 : AV) (v14 : AV) : Prop :=
  IADDR 1 T_string v0 (.d (.num .i64 0)) h1 fun v2 =>
  LOAD false 1 v2 h1 fun v3 =>
  CALL P f_proof_numbered [v3] 120 h1 (fun _ v5 h6 =>
  EXT v5 0 fun v7 =>
  EXT v5 1 fun v8 =>
  BIN 0 .eql v7 (.d (.num .i64 0)) fun v9 =>
  CALL P f_proof_need [v9, a10] 192 h6 (fun _ _ h13 =>
  vc_proof_parsed_k5 P pre r post v8 h13 v0 a10 v14)
  (fun _ _ _ => False))
  (fun _ _ _ => False)
def vc_proof_parsed (P : Ctx) (pre : List ABlk) (a0 : AV) (r : AV) (post : List PB) : Prop :=
  let h0 : Heap := numbered 0 pre
  ALLOC T_api_ProofPage [.d (.num .i64 0), .zc, .zc] 24 h0 fun v2 h1 =>
  CALL P f_strings_Split [a0, (.d (.str [10]))] 40 h1 (fun _ v12 h2 =>
  LEN false v12 h2 fun v14 =>
  BIN 0 .geq v14 (.d (.num .i64 3)) fun v15 =>
  CALL P f_proof_need [v15, a0] 88 h2 (fun _ _ h4 =>
  vc_proof_parsed_k6 P pre r post v12 h4 a0 v2)
  (fun _ _ _ => False))
  (fun _ _ _ => False)
theorem vc_proof_parsed_eq (g : GG) (pre : List ABlk) (a0 : AV) (r : AV) (post : List PB) : vcFn2 (Tz g) false ann_proof_parsed Tryz.f36 pre [a0] (.ret r) post = vc_proof_parsed (Tz g) pre a0 r post := by kernel_rfl
theorem hf_proof_parsed : Tryz.prog.funcs[f_proof_parsed]? = some Tryz.f36 := by kernel_rfl
theorem ok_proof_parsed : fnVcOK Tryz.prog Tryz.f36 = true := by kernel_rfl
theorem nt_proof_parsed : Nat.ble 1 Tryz.f36.ntmps = true := by kernel_rfl
theorem meetsH_proof_parsed {g : GG} {pre : List ABlk} {a0 : AV} {r : AV} {post : List PB} (hk : Nat.ble pre.length 24 = true) (h : vc_proof_parsed (Tz g) pre a0 r post) : MeetsH (Tz g) f_proof_parsed pre [a0] (.ret r) post :=
  meetsH_of_vc (C := Tz g) ann_proof_parsed hf_proof_parsed ok_proof_parsed nt_proof_parsed hk (pn := false) (Eq.mpr ((vcFn2_eq _ _ _ _ _ _ _ _).trans (vc_proof_parsed_eq g pre a0 r post)) h)
theorem meets_proof_parsed {g : GG} {a0 : D} {r : Res} (h : vc_proof_parsed (Tz g) [] (.d a0) r.val (r.bl.map .upd)) : Meets (Tz g) f_proof_parsed [a0] r := meetsH_proof_parsed rfl h
def annp_proof_parsed : Nat → List Nat := fun n => match n with | 7 => [0, 2, 6, 37, 38, 39] | _ => []
def vcp_proof_parsed_k0 (_P : Ctx) (_pre : List ABlk) (_r : AV) (_post : List PB) (vs0 : List AV) (h1 : Heap) (v4 : AV) (next19 : List AV → Heap → Prop) : Prop :=
  FADDR 1 (nth vs0 2) h1 fun v2 =>
  LOAD false 1 v2 h1 fun v3 =>
  IADDR 1 T_int v4 (.d (.num .i64 0)) h1 fun v5 =>
  LOAD false 1 v5 h1 fun v6 =>
  IADDR 1 T_int v4 (.d (.num .i64 1)) h1 fun v7 =>
  LOAD false 1 v7 h1 fun v8 =>
  IADDR 1 T_int v4 (.d (.num .i64 2)) h1 fun v9 =>
  LOAD false 1 v9 h1 fun v10 =>
  BUILD [(0, 1), (1, 1), (2, 1)] [.d (.num .i64 0), .d (.num .i64 0), .d (.num .i64 0)] [(0, v6), (1, v8), (2, v10)] fun v11 =>
  MKS T_api_ProofLine 3 [v11] 544 h1 fun v12 h13 =>
  APP T_api_ProofLine 3 v3 v12 552 h13 fun v14 h15 =>
  FADDR 1 (nth vs0 2) h15 fun v16 =>
  STORE 1 v16 v14 h15 fun h17 =>
  ORDX [] [0, 1, 0, 4, 12, 0, 32, 96, 0, 256, 768, 2044, 4092, 8191, 16383, 32767] [(0, wr h1 h1, (ids (nth vs0 2))), (1, wr h1 h1, (ids v2)), (3, wr h1 h1, (ids v4)), (4, wr h1 h1, (ids v5)), (6, wr h1 h1, (ids v4)), (7, wr h1 h1, (ids v7)), (9, wr h1 h1, (ids v4)), (10, wr h1 h1, (ids v9)), (12, wr h1 h13, (ids.idsL [v11])), (13, wr h13 h15, (ids.idsL [v3, v12])), (14, wr h15 h15, (ids (nth vs0 2))), (15, wr h15 h17, (ids v16))] ∧
  BIN 0 .add (nth vs0 5) (.d (.num .i64 1)) fun v18 =>
  next19 [(nth vs0 0), (nth vs0 1), (nth vs0 2), (nth vs0 3), (nth vs0 4), v18] h17
def vcp_proof_parsed_k1 (_P : Ctx) (_pre : List ABlk) (_r : AV) (_post : List PB) (vs0 : List AV) (h1 : Heap) (v4 : AV) (v7 : AV) (next16 : List AV → Heap → Prop) : Prop :=
  FADDR 2 (nth vs0 2) h1 fun v2 =>
  LOAD false 1 v2 h1 fun v3 =>
  BIN 0 .sub v4 (.d (.num .i64 2)) fun v5 =>
  BIN 0 .add (.d (.num .i64 1)) v5 fun v6 =>
  BUILD [(0, 1), (1, 1)] [.d (.num .i64 0), .zc] [(0, v6), (1, v7)] fun v8 =>
  MKS T_api_ProofEntry 2 [v8] 504 h1 fun v9 h10 =>
  APP T_api_ProofEntry 2 v3 v9 512 h10 fun v11 h12 =>
  FADDR 2 (nth vs0 2) h12 fun v13 =>
  STORE 1 v13 v11 h12 fun h14 =>
  BIN 0 .add (nth vs0 5) (.d (.num .i64 1)) fun v15 =>
  next16 [(nth vs0 0), (nth vs0 1), (nth vs0 2), (nth vs0 3), (nth vs0 4), v15] h14
def vcp_proof_parsed_k2 (P : Ctx) (pre : List ABlk) (r : AV) (post : List PB) (v0 : AV) (v4 : AV) (h5 : Heap) (vs10 : List AV) (next11 : List AV → Heap → Prop) : Prop :=
  EXT v0 0 fun v1 =>
  EXT v0 1 fun v2 =>
  BIN 0 .neq v1 (.d (.num .i64 0)) fun v3 =>
  CALL P f_proof_need [v3, v4] 424 h5 (fun _ _ h8 =>
  BIN 0 .eql v1 (.d (.num .i64 1)) fun v9 =>
  COND v9
  (vcp_proof_parsed_k0 P pre r post vs10 h8 v2 next11)
  (vcp_proof_parsed_k1 P pre r post vs10 h8 v1 v2 next11))
  (fun _ pv12 ph13 =>
  POST pv12 ph13 pre r post)
def vcp_proof_parsed_k3 (P : Ctx) (pre : List ABlk) (r : AV) (post : List PB) (v0 : AV) (vs1 : List AV) (h3 : Heap) : Prop :=
  BIN 0 .eql v0 (nth vs1 0) fun v2 =>
  CALL P f_proof_need [v2, (nth vs1 0)] 360 h3 (fun _ _ h6 =>
  LOAD true 3 (nth vs1 2) h6 fun v7 =>
  STORE 3 (nth vs1 1) v7 h6 fun h8 =>
  LOAD true 3 (nth vs1 1) h8 fun _ =>
  False)
  (fun _ pv9 ph10 =>
  POST pv9 ph10 pre r post)
def vcp_proof_parsed_k4 (P : Ctx) (pre : List ABlk) (r : AV) (post : List PB) (vs0 : List AV) (h2 : Heap) (next8 : List AV → Heap → Prop) : Prop :=
  BIN 0 .lss (nth vs0 5) (nth vs0 4) fun v1 =>
  COND v1
  (IADDR 1 T_string (nth vs0 3) (nth vs0 5) h2 fun v3 =>
  LOAD false 1 v3 h2 fun v4 =>
  CALL P f_proof_numbered [v4] 352 h2 (fun _ v6 h7 =>
  vcp_proof_parsed_k2 P pre r post v6 v4 h7 vs0 next8)
  (fun _ pv9 ph10 =>
  POST pv9 ph10 pre r post))
  (LOAD true 3 (nth vs0 2) h2 fun v11 =>
  CALL P f_proof_text [v11] 328 h2 (fun _ v13 h14 =>
  vcp_proof_parsed_k3 P pre r post v13 vs0 h14)
  (fun _ pv15 ph16 =>
  POST pv15 ph16 pre r post))
def vcp_proof_parsed_k5 (P : Ctx) (pre : List ABlk) (r : AV) (post : List PB) (v0 : AV) (h1 : Heap) (v8 : AV) (a13 : AV) (v14 : AV) : Prop :=
  IADDR 1 T_int v0 (.d (.num .i64 0)) h1 fun v2 =>
  LOAD false 1 v2 h1 fun v3 =>
  BUILD [(0, 1), (1, 1), (2, 1)] [.d (.num .i64 0), .zc, .zc] [(0, v3)] fun v4 =>
  ALLOC T_api_ProofPage [.d (.num .i64 0), .zc, .zc] 232 h1 fun v5 h6 =>
  STORE 3 v5 v4 h6 fun h7 =>
  LEN false v8 h7 fun v9 =>
  BIN 0 .sub v9 (.d (.num .i64 2)) fun v10 =>
  SLICE 2 v8 (some (.d (.num .i64 1))) (some v10) none fun v11 =>
  LEN false v11 h7 fun v12 =>
  LOOP [a13, v14, v5, v11, v12, (.d (.num .i64 0))] h7 304 fun vs15 h16 next17 =>
  vcp_proof_parsed_k4 P pre r post vs15 h16 next17
def vcp_proof_parsed_k6 (P : Ctx) (pre : List ABlk) (r : AV) (post : List PB) (v0 : AV) (h1 : Heap) (a10 : AV) (v14 : AV) : Prop :=
  IADDR 1 T_string v0 (.d (.num .i64 0)) h1 fun v2 =>
  LOAD false 1 v2 h1 fun v3 =>
  CALL P f_proof_numbered [v3] 120 h1 (fun _ v5 h6 =>
  EXT v5 0 fun v7 =>
  EXT v5 1 fun v8 =>
  BIN 0 .eql v7 (.d (.num .i64 0)) fun v9 =>
  CALL P f_proof_need [v9, a10] 192 h6 (fun _ _ h13 =>
  vcp_proof_parsed_k5 P pre r post v8 h13 v0 a10 v14)
  (fun _ pv15 ph16 =>
  POST pv15 ph16 pre r post))
  (fun _ pv17 ph18 =>
  POST pv17 ph18 pre r post)
def vcp_proof_parsed (P : Ctx) (pre : List ABlk) (a0 : AV) (r : AV) (post : List PB) : Prop :=
  let h0 : Heap := numbered 0 pre
  ALLOC T_api_ProofPage [.d (.num .i64 0), .zc, .zc] 24 h0 fun v2 h1 =>
  CALL P f_strings_Split [a0, (.d (.str [10]))] 40 h1 (fun _ v12 h2 =>
  LEN false v12 h2 fun v14 =>
  BIN 0 .geq v14 (.d (.num .i64 3)) fun v15 =>
  CALL P f_proof_need [v15, a0] 88 h2 (fun _ _ h6 =>
  vcp_proof_parsed_k6 P pre r post v12 h6 a0 v2)
  (fun _ pv8 ph9 =>
  POST pv8 ph9 pre r post))
  (fun _ pv4 ph5 =>
  POST pv4 ph5 pre r post)
theorem vcp_proof_parsed_eq (g : GG) (pre : List ABlk) (a0 : AV) (r : AV) (post : List PB) : vcFn2 (Tz g) true annp_proof_parsed Tryz.f36 pre [a0] (.pan r) post = vcp_proof_parsed (Tz g) pre a0 r post := by kernel_rfl
theorem hfp_proof_parsed : Tryz.prog.funcs[f_proof_parsed]? = some Tryz.f36 := by kernel_rfl
theorem okp_proof_parsed : fnVcOK Tryz.prog Tryz.f36 = true := by kernel_rfl
theorem ntp_proof_parsed : Nat.ble 1 Tryz.f36.ntmps = true := by kernel_rfl
theorem meetsHp_proof_parsed {g : GG} {pre : List ABlk} {a0 : AV} {r : AV} {post : List PB} (hk : Nat.ble pre.length 24 = true) (h : vcp_proof_parsed (Tz g) pre a0 r post) : MeetsH (Tz g) f_proof_parsed pre [a0] (.pan r) post :=
  meetsH_of_vc (C := Tz g) annp_proof_parsed hfp_proof_parsed okp_proof_parsed ntp_proof_parsed hk (pn := true) (Eq.mpr ((vcFn2_eq _ _ _ _ _ _ _ _).trans (vcp_proof_parsed_eq g pre a0 r post)) h)
theorem meetsP_proof_parsed {g : GG} {a0 : D} {x : D} (h : vcp_proof_parsed (Tz g) [] (.d a0) (.d x) []) : MeetsP (Tz g) f_proof_parsed [a0] x := meetsHp_proof_parsed rfl h
def ann_proof_Read : Nat → List Nat := fun n => match n with  | _ => []
def vc_proof_Read_k0 (_P : Ctx) (pre : List ABlk) (r : AV) (post : List PB) (v0 : AV) (v3 : AV) (h4 : Heap) (v6 : AV) : Prop :=
  NOT v0 fun v1 =>
  COND v1
  (BUILD [(0, 1), (1, 1), (2, 1)] [.d (.num .i64 0), .zc, .zc] [] fun v2 =>
  STORE 3 v3 v2 h4 fun h5 =>
  LOAD true 3 v3 h5 fun r13 =>
  POST (.tup [r13, (.d (.num .i64 2))]) h5 pre r post)
  (LOAD true 3 v6 h4 fun v7 =>
  STORE 3 v3 v7 h4 fun h8 =>
  LOAD true 3 v3 h8 fun r15 =>
  POST (.tup [r15, (.d (.num .i64 0))]) h8 pre r post)
def vc_proof_Read_k1 (P : Ctx) (pre : List ABlk) (r : AV) (post : List PB) (v0 : AV) (v3 : AV) (h4 : Heap) (v6 : AV) : Prop :=
  BIN 0 .neq v0 (.d (.num .i64 0)) fun v1 =>
  COND v1
  (BUILD [(0, 1), (1, 1), (2, 1)] [.d (.num .i64 0), .zc, .zc] [] fun v2 =>
  STORE 3 v3 v2 h4 fun h5 =>
  LOAD true 3 v3 h5 fun r9 =>
  POST (.tup [r9, v0]) h5 pre r post)
  (LOAD true 3 v6 h4 fun v7 =>
  CALL P f_proof_isPage [v7] 128 h4 (fun _ v9 h10 =>
  vc_proof_Read_k0 P pre r post v9 v3 h10 v6)
  (fun _ _ _ => False))
def vc_proof_Read (P : Ctx) (pre : List ABlk) (a0 : AV) (r : AV) (post : List PB) : Prop :=
  let h0 : Heap := numbered 0 pre
  BOX T_string a0 24 h0 fun v1 h1 =>
  ALLOC T_api_ProofPage [.d (.num .i64 0), .zc, .zc] 32 h1 fun v2 h2 =>
  LOAD false 1 v1 h2 fun v6 =>
  LEN true v6 h2 fun v7 =>
  BIN 0 .gtr v7 (.d (.num .i64 270)) fun v8 =>
  COND v8
  (BUILD [(0, 1), (1, 1), (2, 1)] [.d (.num .i64 0), .zc, .zc] [] fun v9 =>
  STORE 3 v2 v9 h2 fun h3 =>
  LOAD true 3 v2 h3 fun r4 =>
  POST (.tup [r4, (.d (.num .i64 3))]) h3 pre r post)
  (ALLOC T_api_ProofPage [.d (.num .i64 0), .zc, .zc] 72 h2 fun v4 h5 =>
  CALL P f_proof_attempt [(.fn f_proof_Read_1 [] [v1, v4])] 88 h5 (fun _ v11 h6 =>
  vc_proof_Read_k1 P pre r post v11 v2 h6 v4)
  (fun _ _ _ => False))
theorem vc_proof_Read_eq (g : GG) (pre : List ABlk) (a0 : AV) (r : AV) (post : List PB) : vcFn2 (Tz g) false ann_proof_Read Tryz.f7 pre [a0] (.ret r) post = vc_proof_Read (Tz g) pre a0 r post := by kernel_rfl
theorem hf_proof_Read : Tryz.prog.funcs[f_proof_Read]? = some Tryz.f7 := by kernel_rfl
theorem ok_proof_Read : fnVcOK Tryz.prog Tryz.f7 = true := by kernel_rfl
theorem nt_proof_Read : Nat.ble 1 Tryz.f7.ntmps = true := by kernel_rfl
theorem meetsH_proof_Read {g : GG} {pre : List ABlk} {a0 : AV} {r : AV} {post : List PB} (hk : Nat.ble pre.length 24 = true) (h : vc_proof_Read (Tz g) pre a0 r post) : MeetsH (Tz g) f_proof_Read pre [a0] (.ret r) post :=
  meetsH_of_vc (C := Tz g) ann_proof_Read hf_proof_Read ok_proof_Read nt_proof_Read hk (pn := false) (Eq.mpr ((vcFn2_eq _ _ _ _ _ _ _ _).trans (vc_proof_Read_eq g pre a0 r post)) h)
theorem meets_proof_Read {g : GG} {a0 : D} {r : Res} (h : vc_proof_Read (Tz g) [] (.d a0) r.val (r.bl.map .upd)) : Meets (Tz g) f_proof_Read [a0] r := meetsH_proof_Read rfl h
def ann_proof_Read_1 : Nat → List Nat := fun n => match n with  | _ => []
def vc_proof_Read_1 (P : Ctx) (pre : List ABlk) (a0 a1 : AV) (r : AV) (post : List PB) : Prop :=
  let h0 : Heap := numbered 0 pre
  LOAD false 1 a0 h0 fun v2 =>
  CALL P f_proof_parsed [v2] 32 h0 (fun _ v3 h1 =>
  STORE 3 a1 v3 h1 fun h3 =>
  POST (.tup []) h3 pre r post)
  (fun _ _ _ => False)
theorem vc_proof_Read_1_eq (g : GG) (pre : List ABlk) (a0 a1 : AV) (r : AV) (post : List PB) : vcFn2 (Tz g) false ann_proof_Read_1 Tryz.f35 pre [a0, a1] (.ret r) post = vc_proof_Read_1 (Tz g) pre a0 a1 r post := by kernel_rfl
theorem hf_proof_Read_1 : Tryz.prog.funcs[f_proof_Read_1]? = some Tryz.f35 := by kernel_rfl
theorem ok_proof_Read_1 : fnVcOK Tryz.prog Tryz.f35 = true := by kernel_rfl
theorem nt_proof_Read_1 : Nat.ble 2 Tryz.f35.ntmps = true := by kernel_rfl
theorem meetsH_proof_Read_1 {g : GG} {pre : List ABlk} {a0 a1 : AV} {r : AV} {post : List PB} (hk : Nat.ble pre.length 24 = true) (h : vc_proof_Read_1 (Tz g) pre a0 a1 r post) : MeetsH (Tz g) f_proof_Read_1 pre [a0, a1] (.ret r) post :=
  meetsH_of_vc (C := Tz g) ann_proof_Read_1 hf_proof_Read_1 ok_proof_Read_1 nt_proof_Read_1 hk (pn := false) (Eq.mpr ((vcFn2_eq _ _ _ _ _ _ _ _).trans (vc_proof_Read_1_eq g pre a0 a1 r post)) h)
def annp_proof_Read_1 : Nat → List Nat := fun n => match n with  | _ => []
def vcp_proof_Read_1 (P : Ctx) (pre : List ABlk) (a0 a1 : AV) (r : AV) (post : List PB) : Prop :=
  let h0 : Heap := numbered 0 pre
  LOAD false 1 a0 h0 fun v2 =>
  CALL P f_proof_parsed [v2] 32 h0 (fun _ v3 h1 =>
  STORE 3 a1 v3 h1 fun _ =>
  False)
  (fun _ pv3 ph4 =>
  POST pv3 ph4 pre r post)
theorem vcp_proof_Read_1_eq (g : GG) (pre : List ABlk) (a0 a1 : AV) (r : AV) (post : List PB) : vcFn2 (Tz g) true annp_proof_Read_1 Tryz.f35 pre [a0, a1] (.pan r) post = vcp_proof_Read_1 (Tz g) pre a0 a1 r post := by kernel_rfl
theorem hfp_proof_Read_1 : Tryz.prog.funcs[f_proof_Read_1]? = some Tryz.f35 := by kernel_rfl
theorem okp_proof_Read_1 : fnVcOK Tryz.prog Tryz.f35 = true := by kernel_rfl
theorem ntp_proof_Read_1 : Nat.ble 2 Tryz.f35.ntmps = true := by kernel_rfl
theorem meetsHp_proof_Read_1 {g : GG} {pre : List ABlk} {a0 a1 : AV} {r : AV} {post : List PB} (hk : Nat.ble pre.length 24 = true) (h : vcp_proof_Read_1 (Tz g) pre a0 a1 r post) : MeetsH (Tz g) f_proof_Read_1 pre [a0, a1] (.pan r) post :=
  meetsH_of_vc (C := Tz g) annp_proof_Read_1 hfp_proof_Read_1 okp_proof_Read_1 ntp_proof_Read_1 hk (pn := true) (Eq.mpr ((vcFn2_eq _ _ _ _ _ _ _ _).trans (vcp_proof_Read_1_eq g pre a0 a1 r post)) h)
end Go.Vc
