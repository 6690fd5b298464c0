/- A part of the proof: general laws of a reading of the model by abstract data, or contracts of the functions that the law calls. -/
import Derived.Test.YtcmdbmcggfmmnaaGreatDoorVc22
import Derived.Test.YtcmdbmcggfmmnaaGreatDoorVc11
set_option maxRecDepth 100000
namespace Go.Vc
open Go Go.Proofs Go.RowKit
def ann_differ_need : Nat → List Nat := fun n => match n with  | _ => []
def vc_differ_need (_P : Ctx) (pre : List ABlk) (a0 a1 : AV) (r : AV) (post : List PB) : Prop :=
  let h0 : Heap := numbered 0 pre
  NOT a0 fun v5 =>
  COND v5
  (BUILD [(0, 1)] [.d (.str [])] [(0, a1)] fun v7 =>
  PANIC (.iface T_differ_noText v7) fun _ => False)
  (POST (.tup []) h0 pre r post)
theorem vc_differ_need_eq (g : GG) (pre : List ABlk) (a0 a1 : AV) (r : AV) (post : List PB) : vcFn2 (Tz g) false ann_differ_need Tryz.f76 pre [a0, a1] (.ret r) post = vc_differ_need (Tz g) pre a0 a1 r post := by kernel_rfl
theorem hf_differ_need : Tryz.prog.funcs[f_differ_need]? = some Tryz.f76 := by kernel_rfl
theorem ok_differ_need : fnVcOK Tryz.prog Tryz.f76 = true := by kernel_rfl
theorem nt_differ_need : Nat.ble 2 Tryz.f76.ntmps = true := by kernel_rfl
theorem meetsH_differ_need {g : GG} {pre : List ABlk} {a0 a1 : AV} {r : AV} {post : List PB} (hk : Nat.ble pre.length 24 = true) (h : vc_differ_need (Tz g) pre a0 a1 r post) : MeetsH (Tz g) f_differ_need pre [a0, a1] (.ret r) post :=
  meetsH_of_vc (C := Tz g) ann_differ_need hf_differ_need ok_differ_need nt_differ_need hk (pn := false) (Eq.mpr ((vcFn2_eq _ _ _ _ _ _ _ _).trans (vc_differ_need_eq g pre a0 a1 r post)) h)
theorem meets_differ_need {g : GG} {a0 a1 : D} {r : Res} (h : vc_differ_need (Tz g) [] (.d a0) (.d a1) r.val (r.bl.map .upd)) : Meets (Tz g) f_differ_need [a0, a1] r := meetsH_differ_need rfl h
def annp_differ_need : Nat → List Nat := fun n => match n with  | _ => []
def vcp_differ_need (_P : Ctx) (pre : List ABlk) (a0 a1 : AV) (r : AV) (post : List PB) : Prop :=
  let h0 : Heap := numbered 0 pre
  NOT a0 fun v5 =>
  COND v5
  (BUILD [(0, 1)] [.d (.str [])] [(0, a1)] fun v7 =>
  PANIC (.iface T_differ_noText v7) fun pv1 =>
  POST pv1 h0 pre r post)
  (False)
theorem vcp_differ_need_eq (g : GG) (pre : List ABlk) (a0 a1 : AV) (r : AV) (post : List PB) : vcFn2 (Tz g) true annp_differ_need Tryz.f76 pre [a0, a1] (.pan r) post = vcp_differ_need (Tz g) pre a0 a1 r post := by kernel_rfl
theorem hfp_differ_need : Tryz.prog.funcs[f_differ_need]? = some Tryz.f76 := by kernel_rfl
theorem okp_differ_need : fnVcOK Tryz.prog Tryz.f76 = true := by kernel_rfl
theorem ntp_differ_need : Nat.ble 2 Tryz.f76.ntmps = true := by kernel_rfl
theorem meetsHp_differ_need {g : GG} {pre : List ABlk} {a0 a1 : AV} {r : AV} {post : List PB} (hk : Nat.ble pre.length 24 = true) (h : vcp_differ_need (Tz g) pre a0 a1 r post) : MeetsH (Tz g) f_differ_need pre [a0, a1] (.pan r) post :=
  meetsH_of_vc (C := Tz g) annp_differ_need hfp_differ_need okp_differ_need ntp_differ_need hk (pn := true) (Eq.mpr ((vcFn2_eq _ _ _ _ _ _ _ _).trans (vcp_differ_need_eq g pre a0 a1 r post)) h)
theorem meetsP_differ_need {g : GG} {a0 a1 : D} {x : D} (h : vcp_differ_need (Tz g) [] (.d a0) (.d a1) (.d x) []) : MeetsP (Tz g) f_differ_need [a0, a1] x := meetsHp_differ_need rfl h
def ann_differ_given : Nat → List Nat := fun n => match n with | 3 => [0, 3, 7] | _ => []
def vc_differ_given_k0 (P : Ctx) (_pre : List ABlk) (_r : AV) (_post : List PB) (vs0 : List AV) (h1 : Heap) (v8 : AV) (next12 : List AV → Heap → Prop) : Prop :=
  LEN true (nth vs0 0) h1 fun v2 =>
  BIN 0 .leq v2 (.d (.num .i64 5)) fun v3 =>
  CALL P f_differ_need [v3, (nth vs0 0)] 192 h1 (fun _ _ h6 =>
  BIN 0 .mul (.d (.num .i64 10)) (nth vs0 1) fun v7 =>
  BIN 0 .sub v8 (.d (.num .i32 48)) fun v9 =>
  CONVI .i64 v9 fun v10 =>
  BIN 0 .add v7 v10 fun v11 =>
  next12 [(nth vs0 0), v11, (nth vs0 2)] h6)
  (fun _ _ _ => False)
def vc_differ_given_k1 (P : Ctx) (_pre : List ABlk) (_r : AV) (_post : List PB) (vs0 : List AV) (h1 : Heap) (v6 : AV) (next10 : List AV → Heap → Prop) : Prop :=
  CALL P f_differ_need [(.d (.bool false)), (nth vs0 0)] 192 h1 (fun _ _ h4 =>
  BIN 0 .mul (.d (.num .i64 10)) (nth vs0 1) fun v5 =>
  BIN 0 .sub v6 (.d (.num .i32 48)) fun v7 =>
  CONVI .i64 v7 fun v8 =>
  BIN 0 .add v5 v8 fun v9 =>
  next10 [(nth vs0 0), v9, (nth vs0 2)] h4)
  (fun _ _ _ => False)
def vc_differ_given_k2 (P : Ctx) (pre : List ABlk) (r : AV) (post : List PB) (v0 : AV) (vs4 : List AV) (h5 : Heap) (next6 : List AV → Heap → Prop) : Prop :=
  EXT v0 2 fun v1 =>
  BIN 0 .geq v1 (.d (.num .i32 48)) fun v2 =>
  CONDG v2
  (BIN 0 .leq v1 (.d (.num .i32 57)) fun v3 =>
  CONDG v3
  (vc_differ_given_k0 P pre r post vs4 h5 v1 next6)
  (vc_differ_given_k1 P pre r post vs4 h5 v1 next6))
  (CALL P f_differ_need [(.d (.bool false)), (nth vs4 0)] 192 h5 (fun _ _ h9 =>
  BIN 0 .mul (.d (.num .i64 10)) (nth vs4 1) fun v10 =>
  BIN 0 .sub v1 (.d (.num .i32 48)) fun v11 =>
  CONVI .i64 v11 fun v12 =>
  BIN 0 .add v10 v12 fun v13 =>
  next6 [(nth vs4 0), v13, (nth vs4 2)] h9)
  (fun _ _ _ => False))
def vc_differ_given_k3 (P : Ctx) (pre : List ABlk) (r : AV) (post : List PB) (vs0 : List AV) (h2 : Heap) : Prop :=
  BIN 0 .neq (nth vs0 0) (.d (.str [])) fun v1 =>
  CONDG v1
  (CALL P f_strconv_Itoa [(nth vs0 1)] 112 h2 (fun _ v4 h5 =>
  BIN 0 .eql v4 (nth vs0 0) fun v6 =>
  CALL P f_differ_need [v6, (nth vs0 0)] 152 h5 (fun _ v8 h9 =>
  POST (nth vs0 1) h9 pre r post)
  (fun _ _ _ => False))
  (fun _ _ _ => False))
  (CALL P f_differ_need [(.d (.bool false)), (nth vs0 0)] 152 h2 (fun _ v8 h11 =>
  POST (nth vs0 1) h11 pre r post)
  (fun _ _ _ => False))
def vc_differ_given (P : Ctx) (pre : List ABlk) (a0 : AV) (r : AV) (post : List PB) : Prop :=
  let h0 : Heap := numbered 0 pre
  RANGE a0 48 h0 fun v7 h1 =>
  LOOP [a0, (.d (.num .i64 0)), v7] h1 56 fun vs2 h3 next2 =>
  NEXT (nth vs2 2) h3 fun v8 h4 =>
  EXT v8 0 fun v9 =>
  COND v9
  (vc_differ_given_k2 P pre r post v8 vs2 h4 next2)
  (vc_differ_given_k3 P pre r post vs2 h4)
theorem vc_differ_given_eq (g : GG) (pre : List ABlk) (a0 : AV) (r : AV) (post : List PB) : vcFn2 (Tz g) false ann_differ_given Tryz.f77 pre [a0] (.ret r) post = vc_differ_given (Tz g) pre a0 r post := by kernel_rfl
theorem hf_differ_given : Tryz.prog.funcs[f_differ_given]? = some Tryz.f77 := by kernel_rfl
theorem ok_differ_given : fnVcOK Tryz.prog Tryz.f77 = true := by kernel_rfl
theorem nt_differ_given : Nat.ble 1 Tryz.f77.ntmps = true := by kernel_rfl
theorem meetsH_differ_given {g : GG} {pre : List ABlk} {a0 : AV} {r : AV} {post : List PB} (hk : Nat.ble pre.length 24 = true) (h : vc_differ_given (Tz g) pre a0 r post) : MeetsH (Tz g) f_differ_given pre [a0] (.ret r) post :=
  meetsH_of_vc (C := Tz g) ann_differ_given hf_differ_given ok_differ_given nt_differ_given hk (pn := false) (Eq.mpr ((vcFn2_eq _ _ _ _ _ _ _ _).trans (vc_differ_given_eq g pre a0 r post)) h)
theorem meets_differ_given {g : GG} {a0 : D} {r : Res} (h : vc_differ_given (Tz g) [] (.d a0) r.val (r.bl.map .upd)) : Meets (Tz g) f_differ_given [a0] r := meetsH_differ_given rfl h
def annp_differ_given : Nat → List Nat := fun n => match n with | 3 => [0, 3, 7] | _ => []
def vcp_differ_given_k0 (P : Ctx) (pre : List ABlk) (r : AV) (post : List PB) (vs0 : List AV) (h1 : Heap) (v8 : AV) (next12 : List AV → Heap → Prop) : Prop :=
  LEN true (nth vs0 0) h1 fun v2 =>
  BIN 0 .leq v2 (.d (.num .i64 5)) fun v3 =>
  CALL P f_differ_need [v3, (nth vs0 0)] 192 h1 (fun _ _ h6 =>
  BIN 0 .mul (.d (.num .i64 10)) (nth vs0 1) fun v7 =>
  BIN 0 .sub v8 (.d (.num .i32 48)) fun v9 =>
  CONVI .i64 v9 fun v10 =>
  BIN 0 .add v7 v10 fun v11 =>
  next12 [(nth vs0 0), v11, (nth vs0 2)] h6)
  (fun _ pv13 ph14 =>
  POST pv13 ph14 pre r post)
def vcp_differ_given_k1 (P : Ctx) (pre : List ABlk) (r : AV) (post : List PB) (vs0 : List AV) (h1 : Heap) (v6 : AV) (next10 : List AV → Heap → Prop) : Prop :=
  CALL P f_differ_need [(.d (.bool false)), (nth vs0 0)] 192 h1 (fun _ _ h4 =>
  BIN 0 .mul (.d (.num .i64 10)) (nth vs0 1) fun v5 =>
  BIN 0 .sub v6 (.d (.num .i32 48)) fun v7 =>
  CONVI .i64 v7 fun v8 =>
  BIN 0 .add v5 v8 fun v9 =>
  next10 [(nth vs0 0), v9, (nth vs0 2)] h4)
  (fun _ pv11 ph12 =>
  POST pv11 ph12 pre r post)
def vcp_differ_given_k2 (P : Ctx) (pre : List ABlk) (r : AV) (post : List PB) (v0 : AV) (vs4 : List AV) (h5 : Heap) (next6 : List AV → Heap → Prop) : Prop :=
  EXT v0 2 fun v1 =>
  BIN 0 .geq v1 (.d (.num .i32 48)) fun v2 =>
  CONDG v2
  (BIN 0 .leq v1 (.d (.num .i32 57)) fun v3 =>
  CONDG v3
  (vcp_differ_given_k0 P pre r post vs4 h5 v1 next6)
  (vcp_differ_given_k1 P pre r post vs4 h5 v1 next6))
  (CALL P f_differ_need [(.d (.bool false)), (nth vs4 0)] 192 h5 (fun _ _ h9 =>
  BIN 0 .mul (.d (.num .i64 10)) (nth vs4 1) fun v10 =>
  BIN 0 .sub v1 (.d (.num .i32 48)) fun v11 =>
  CONVI .i64 v11 fun v12 =>
  BIN 0 .add v10 v12 fun v13 =>
  next6 [(nth vs4 0), v13, (nth vs4 2)] h9)
  (fun _ pv14 ph15 =>
  POST pv14 ph15 pre r post))
def vcp_differ_given_k3 (P : Ctx) (pre : List ABlk) (r : AV) (post : List PB) (vs0 : List AV) (h2 : Heap) : Prop :=
  BIN 0 .neq (nth vs0 0) (.d (.str [])) fun v1 =>
  CONDG v1
  (CALL P f_strconv_Itoa [(nth vs0 1)] 112 h2 (fun _ v4 h5 =>
  BIN 0 .eql v4 (nth vs0 0) fun v6 =>
  CALL P f_differ_need [v6, (nth vs0 0)] 152 h5 (fun _ v8 _ =>
  False)
  (fun _ pv10 ph11 =>
  POST pv10 ph11 pre r post))
  (fun _ pv12 ph13 =>
  POST pv12 ph13 pre r post))
  (CALL P f_differ_need [(.d (.bool false)), (nth vs0 0)] 152 h2 (fun _ v8 _ =>
  False)
  (fun _ pv16 ph17 =>
  POST pv16 ph17 pre r post))
def vcp_differ_given (P : Ctx) (pre : List ABlk) (a0 : AV) (r : AV) (post : List PB) : Prop :=
  let h0 : Heap := numbered 0 pre
  RANGE a0 48 h0 fun v7 h1 =>
  LOOP [a0, (.d (.num .i64 0)), v7] h1 56 fun vs2 h3 next2 =>
  NEXT (nth vs2 2) h3 fun v8 h4 =>
  EXT v8 0 fun v9 =>
  COND v9
  (vcp_differ_given_k2 P pre r post v8 vs2 h4 next2)
  (vcp_differ_given_k3 P pre r post vs2 h4)
theorem vcp_differ_given_eq (g : GG) (pre : List ABlk) (a0 : AV) (r : AV) (post : List PB) : vcFn2 (Tz g) true annp_differ_given Tryz.f77 pre [a0] (.pan r) post = vcp_differ_given (Tz g) pre a0 r post := by kernel_rfl
theorem hfp_differ_given : Tryz.prog.funcs[f_differ_given]? = some Tryz.f77 := by kernel_rfl
theorem okp_differ_given : fnVcOK Tryz.prog Tryz.f77 = true := by kernel_rfl
theorem ntp_differ_given : Nat.ble 1 Tryz.f77.ntmps = true := by kernel_rfl
theorem meetsHp_differ_given {g : GG} {pre : List ABlk} {a0 : AV} {r : AV} {post : List PB} (hk : Nat.ble pre.length 24 = true) (h : vcp_differ_given (Tz g) pre a0 r post) : MeetsH (Tz g) f_differ_given pre [a0] (.pan r) post :=
  meetsH_of_vc (C := Tz g) annp_differ_given hfp_differ_given okp_differ_given ntp_differ_given hk (pn := true) (Eq.mpr ((vcFn2_eq _ _ _ _ _ _ _ _).trans (vcp_differ_given_eq g pre a0 r post)) h)
theorem meetsP_differ_given {g : GG} {a0 : D} {x : D} (h : vcp_differ_given (Tz g) [] (.d a0) (.d x) []) : MeetsP (Tz g) f_differ_given [a0] x := meetsHp_differ_given rfl h
def ann_differ_signed : Nat → List Nat := fun n => match n with  | _ => []
def vc_differ_signed_k0 (P : Ctx) (pre : List ABlk) (r : AV) (post : List PB) (v0 : AV) (h3 : Heap) (a8 : AV) : Prop :=
  EXT v0 0 fun v1 =>
  EXT v0 1 fun v2 =>
  COND v2
  (CALL P f_differ_given [v1] 104 h3 (fun _ v5 h6 =>
  BIN 0 .gtr v5 (.d (.num .i64 0)) fun v7 =>
  CALL P f_differ_need [v7, a8] 144 h6 (fun _ _ h11 =>
  NEG v5 fun v12 =>
  POST v12 h11 pre r post)
  (fun _ _ _ => False))
  (fun _ _ _ => False))
  (CALL P f_differ_given [a8] 104 h3 (fun _ v14 h15 =>
  POST v14 h15 pre r post)
  (fun _ _ _ => False))
def vc_differ_signed (P : Ctx) (pre : List ABlk) (a0 : AV) (r : AV) (post : List PB) : Prop :=
  let h0 : Heap := numbered 0 pre
  CALL P f_strings_CutPrefix [a0, (.d (.str [45]))] 40 h0 (fun _ v8 h1 =>
  vc_differ_signed_k0 P pre r post v8 h1 a0)
  (fun _ _ _ => False)
theorem vc_differ_signed_eq (g : GG) (pre : List ABlk) (a0 : AV) (r : AV) (post : List PB) : vcFn2 (Tz g) false ann_differ_signed Tryz.f78 pre [a0] (.ret r) post = vc_differ_signed (Tz g) pre a0 r post := by kernel_rfl
theorem hf_differ_signed : Tryz.prog.funcs[f_differ_signed]? = some Tryz.f78 := by kernel_rfl
theorem ok_differ_signed : fnVcOK Tryz.prog Tryz.f78 = true := by kernel_rfl
theorem nt_differ_signed : Nat.ble 1 Tryz.f78.ntmps = true := by kernel_rfl
theorem meetsH_differ_signed {g : GG} {pre : List ABlk} {a0 : AV} {r : AV} {post : List PB} (hk : Nat.ble pre.length 24 = true) (h : vc_differ_signed (Tz g) pre a0 r post) : MeetsH (Tz g) f_differ_signed pre [a0] (.ret r) post :=
  meetsH_of_vc (C := Tz g) ann_differ_signed hf_differ_signed ok_differ_signed nt_differ_signed hk (pn := false) (Eq.mpr ((vcFn2_eq _ _ _ _ _ _ _ _).trans (vc_differ_signed_eq g pre a0 r post)) h)
theorem meets_differ_signed {g : GG} {a0 : D} {r : Res} (h : vc_differ_signed (Tz g) [] (.d a0) r.val (r.bl.map .upd)) : Meets (Tz g) f_differ_signed [a0] r := meetsH_differ_signed rfl h
def annp_differ_signed : Nat → List Nat := fun n => match n with  | _ => []
def vcp_differ_signed_k0 (P : Ctx) (pre : List ABlk) (r : AV) (post : List PB) (v0 : AV) (h3 : Heap) (a8 : AV) : Prop :=
  EXT v0 0 fun v1 =>
  EXT v0 1 fun v2 =>
  COND v2
  (CALL P f_differ_given [v1] 104 h3 (fun _ v5 h6 =>
  BIN 0 .gtr v5 (.d (.num .i64 0)) fun v7 =>
  CALL P f_differ_need [v7, a8] 144 h6 (fun _ _ _ =>
  NEG v5 fun _ =>
  False)
  (fun _ pv13 ph14 =>
  POST pv13 ph14 pre r post))
  (fun _ pv15 ph16 =>
  POST pv15 ph16 pre r post))
  (CALL P f_differ_given [a8] 104 h3 (fun _ _ _ =>
  False)
  (fun _ pv20 ph21 =>
  POST pv20 ph21 pre r post))
def vcp_differ_signed (P : Ctx) (pre : List ABlk) (a0 : AV) (r : AV) (post : List PB) : Prop :=
  let h0 : Heap := numbered 0 pre
  CALL P f_strings_CutPrefix [a0, (.d (.str [45]))] 40 h0 (fun _ v8 h1 =>
  vcp_differ_signed_k0 P pre r post v8 h1 a0)
  (fun _ pv3 ph4 =>
  POST pv3 ph4 pre r post)
theorem vcp_differ_signed_eq (g : GG) (pre : List ABlk) (a0 : AV) (r : AV) (post : List PB) : vcFn2 (Tz g) true annp_differ_signed Tryz.f78 pre [a0] (.pan r) post = vcp_differ_signed (Tz g) pre a0 r post := by kernel_rfl
theorem hfp_differ_signed : Tryz.prog.funcs[f_differ_signed]? = some Tryz.f78 := by kernel_rfl
theorem okp_differ_signed : fnVcOK Tryz.prog Tryz.f78 = true := by kernel_rfl
theorem ntp_differ_signed : Nat.ble 1 Tryz.f78.ntmps = true := by kernel_rfl
theorem meetsHp_differ_signed {g : GG} {pre : List ABlk} {a0 : AV} {r : AV} {post : List PB} (hk : Nat.ble pre.length 24 = true) (h : vcp_differ_signed (Tz g) pre a0 r post) : MeetsH (Tz g) f_differ_signed pre [a0] (.pan r) post :=
  meetsH_of_vc (C := Tz g) annp_differ_signed hfp_differ_signed okp_differ_signed ntp_differ_signed hk (pn := true) (Eq.mpr ((vcFn2_eq _ _ _ _ _ _ _ _).trans (vcp_differ_signed_eq g pre a0 r post)) h)
theorem meetsP_differ_signed {g : GG} {a0 : D} {x : D} (h : vcp_differ_signed (Tz g) [] (.d a0) (.d x) []) : MeetsP (Tz g) f_differ_signed [a0] x := meetsHp_differ_signed rfl h
def ann_differ_parsed : Nat → List Nat := fun n => match n with | 7 => [0, 2, 5, 40, 41, 42] | _ => []
def vc_differ_parsed_k0 (_P : Ctx) (_pre : List ABlk) (_r : AV) (_post : List PB) (h0 : Heap) (v1 : AV) (v2 : AV) (h3 : Heap) (rd4 : List Nat) (v5 : AV) (h6 : Heap) (rd7 : List Nat) (vs8 : List AV) (v11 : AV) (v12 : AV) (next21 : List AV → Heap → Prop) : Prop :=
  ORDX [] [0, 1, 3, 7, 0, 16, 48, 127, 255, 511] [(1, wr h0 h0, (ids v1)), (2, wr h0 h0, (ids v2)), (3, wr h0 h3, rd4), (5, wr h3 h3, (ids v1)), (6, wr h3 h3, (ids v5)), (7, wr h3 h6, rd7)] ∧
  FADDR 0 (nth vs8 2) h6 fun v9 =>
  LOAD false 1 v9 h6 fun v10 =>
  BUILD [(0, 1), (1, 1)] [.d (.num .i64 0), .d (.num .i64 0)] [(0, v11), (1, v12)] fun v13 =>
  MKS T_api_Span 2 [v13] 544 h6 fun v14 h15 =>
  APP T_api_Span 2 v10 v14 552 h15 fun v16 h17 =>
  FADDR 0 (nth vs8 2) h17 fun v18 =>
  STORE 1 v18 v16 h17 fun h19 =>
  BIN 0 .add (nth vs8 5) (.d (.num .i64 1)) fun v20 =>
  next21 [(nth vs8 0), (nth vs8 1), (nth vs8 2), (nth vs8 3), (nth vs8 4), v20] h19
def vc_differ_parsed_k1 (P : Ctx) (pre : List ABlk) (r : AV) (post : List PB) (v0 : AV) (h1 : Heap) (h7 : Heap) (v8 : AV) (rd9 : List Nat) (vs10 : List AV) (v11 : AV) (next12 : List AV → Heap → Prop) : Prop :=
  IADDR 1 T_string v0 (.d (.num .i64 2)) h1 fun v2 =>
  LOAD false 1 v2 h1 fun v3 =>
  CALL P f_differ_signed [v3] 480 h1 (fun rd4 v5 h6 =>
  vc_differ_parsed_k0 P pre r post h7 v0 v8 h1 rd9 v2 h6 rd4 vs10 v11 v5 next12)
  (fun _ _ _ => False)
def vc_differ_parsed_k2 (P : Ctx) (pre : List ABlk) (r : AV) (post : List PB) (v0 : AV) (h1 : Heap) (v4 : AV) (vs13 : List AV) (next14 : List AV → Heap → Prop) : Prop :=
  LEN false v0 h1 fun v2 =>
  BIN 0 .eql v2 (.d (.num .i64 3)) fun v3 =>
  CALL P f_differ_need [v3, v4] 416 h1 (fun _ _ h7 =>
  IADDR 1 T_string v0 (.d (.num .i64 1)) h7 fun v8 =>
  LOAD false 1 v8 h7 fun v9 =>
  CALL P f_differ_signed [v9] 448 h7 (fun rd10 v11 h12 =>
  vc_differ_parsed_k1 P pre r post v0 h12 h7 v8 rd10 vs13 v11 next14)
  (fun _ _ _ => False))
  (fun _ _ _ => False)
def vc_differ_parsed_k3 (P : Ctx) (pre : List ABlk) (r : AV) (post : List PB) (v0 : AV) (vs1 : List AV) (h3 : Heap) : Prop :=
  BIN 0 .eql v0 (nth vs1 0) fun v2 =>
  CALL P f_differ_need [v2, (nth vs1 0)] 376 h3 (fun _ _ h6 =>
  LOAD true 3 (nth vs1 2) h6 fun v7 =>
  STORE 3 (nth vs1 1) v7 h6 fun h8 =>
  LOAD true 3 (nth vs1 1) h8 fun r34 =>
  POST r34 h8 pre r post)
  (fun _ _ _ => False)
def vc_differ_parsed_k4 (P : Ctx) (pre : List ABlk) (r : AV) (post : List PB) (vs0 : List AV) (h2 : Heap) (next8 : List AV → Heap → Prop) : Prop :=
  BIN 0 .lss (nth vs0 5) (nth vs0 4) fun v1 =>
  COND v1
  (IADDR 1 T_string (nth vs0 3) (nth vs0 5) h2 fun v3 =>
  LOAD false 1 v3 h2 fun v4 =>
  CALL P f_strings_Split [v4, (.d (.str [32]))] 368 h2 (fun _ v6 h7 =>
  vc_differ_parsed_k2 P pre r post v6 h7 v4 vs0 next8)
  (fun _ _ _ => False))
  (LOAD true 3 (nth vs0 2) h2 fun v9 =>
  CALL P f_differ_text [v9] 344 h2 (fun _ v11 h12 =>
  vc_differ_parsed_k3 P pre r post v11 vs0 h12)
  (fun _ _ _ => False))
def vc_differ_parsed_k5 (P : Ctx) (pre : List ABlk) (r : AV) (post : List PB) (v0 : AV) (v1 : AV) (h3 : Heap) (h7 : Heap) (v8 : AV) (v9 : AV) (h10 : Heap) (rd11 : List Nat) (v12 : AV) (rd13 : List Nat) (v14 : AV) (a19 : AV) (v20 : AV) : Prop :=
  BUILD [(0, 1), (1, 1), (2, 1)] [.zc, .d (.num .i64 0), .d (.num .i64 0)] [(1, v0), (2, v1)] fun v2 =>
  ALLOC T_api_DifferPlan [.zc, .d (.num .i64 0), .d (.num .i64 0)] 248 h3 fun v4 h5 =>
  STORE 3 v4 v2 h5 fun h6 =>
  ORDX [] [0, 1, 3, 7, 0, 16, 48, 127, 255, 0, 1023] [(1, wr h7 h7, (ids v8)), (2, wr h7 h7, (ids v9)), (3, wr h7 h10, rd11), (5, wr h10 h10, (ids v8)), (6, wr h10 h10, (ids v12)), (7, wr h10 h3, rd13), (9, wr h3 h5, []), (10, wr h5 h6, (ids v4))] ∧
  LEN false v14 h6 fun v15 =>
  BIN 0 .sub v15 (.d (.num .i64 2)) fun v16 =>
  SLICE 2 v14 (some (.d (.num .i64 1))) (some v16) none fun v17 =>
  LEN false v17 h6 fun v18 =>
  LOOP [a19, v20, v4, v17, v18, (.d (.num .i64 0))] h6 320 fun vs21 h22 next23 =>
  vc_differ_parsed_k4 P pre r post vs21 h22 next23
def vc_differ_parsed_k6 (P : Ctx) (pre : List ABlk) (r : AV) (post : List PB) (v0 : AV) (h1 : Heap) (v12 : AV) (a13 : AV) (v14 : AV) : Prop :=
  IADDR 1 T_string v0 (.d (.num .i64 1)) h1 fun v2 =>
  LOAD false 1 v2 h1 fun v3 =>
  CALL P f_differ_given [v3] 200 h1 (fun rd4 v5 h6 =>
  IADDR 1 T_string v0 (.d (.num .i64 2)) h6 fun v7 =>
  LOAD false 1 v7 h6 fun v8 =>
  CALL P f_differ_given [v8] 232 h6 (fun rd9 v10 h11 =>
  vc_differ_parsed_k5 P pre r post v5 v10 h11 h1 v0 v2 h6 rd4 v7 rd9 v12 a13 v14)
  (fun _ _ _ => False))
  (fun _ _ _ => False)
def vc_differ_parsed_k7 (P : Ctx) (pre : List ABlk) (r : AV) (post : List PB) (v0 : AV) (h1 : Heap) (a9 : AV) (v13 : AV) : Prop :=
  IADDR 1 T_string v0 (.d (.num .i64 0)) h1 fun v2 =>
  LOAD false 1 v2 h1 fun v3 =>
  CALL P f_strings_Split [v3, (.d (.str [32]))] 120 h1 (fun _ v5 h6 =>
  LEN false v5 h6 fun v7 =>
  BIN 0 .eql v7 (.d (.num .i64 3)) fun v8 =>
  CALL P f_differ_need [v8, a9] 168 h6 (fun _ _ h12 =>
  vc_differ_parsed_k6 P pre r post v5 h12 v0 a9 v13)
  (fun _ _ _ => False))
  (fun _ _ _ => False)
def vc_differ_parsed (P : Ctx) (pre : List ABlk) (a0 : AV) (r : AV) (post : List PB) : Prop :=
  let h0 : Heap := numbered 0 pre
  ALLOC T_api_DifferPlan [.zc, .d (.num .i64 0), .d (.num .i64 0)] 24 h0 fun v2 h1 =>
  CALL P f_strings_Split [a0, (.d (.str [10]))] 40 h1 (fun _ v12 h2 =>
  LEN false v12 h2 fun v14 =>
  BIN 0 .geq v14 (.d (.num .i64 3)) fun v15 =>
  CALL P f_differ_need [v15, a0] 88 h2 (fun _ _ h4 =>
  vc_differ_parsed_k7 P pre r post v12 h4 a0 v2)
  (fun _ _ _ => False))
  (fun _ _ _ => False)
theorem vc_differ_parsed_eq (g : GG) (pre : List ABlk) (a0 : AV) (r : AV) (post : List PB) : vcFn2 (Tz g) false ann_differ_parsed Tryz.f38 pre [a0] (.ret r) post = vc_differ_parsed (Tz g) pre a0 r post := by kernel_rfl
theorem hf_differ_parsed : Tryz.prog.funcs[f_differ_parsed]? = some Tryz.f38 := by kernel_rfl
theorem ok_differ_parsed : fnVcOK Tryz.prog Tryz.f38 = true := by kernel_rfl
theorem nt_differ_parsed : Nat.ble 1 Tryz.f38.ntmps = true := by kernel_rfl
theorem meetsH_differ_parsed {g : GG} {pre : List ABlk} {a0 : AV} {r : AV} {post : List PB} (hk : Nat.ble pre.length 24 = true) (h : vc_differ_parsed (Tz g) pre a0 r post) : MeetsH (Tz g) f_differ_parsed pre [a0] (.ret r) post :=
  meetsH_of_vc (C := Tz g) ann_differ_parsed hf_differ_parsed ok_differ_parsed nt_differ_parsed hk (pn := false) (Eq.mpr ((vcFn2_eq _ _ _ _ _ _ _ _).trans (vc_differ_parsed_eq g pre a0 r post)) h)
theorem meets_differ_parsed {g : GG} {a0 : D} {r : Res} (h : vc_differ_parsed (Tz g) [] (.d a0) r.val (r.bl.map .upd)) : Meets (Tz g) f_differ_parsed [a0] r := meetsH_differ_parsed rfl h
def annp_differ_parsed : Nat → List Nat := fun n => match n with | 7 => [0, 2, 5, 40, 41, 42] | _ => []
def vcp_differ_parsed_k0 (_P : Ctx) (_pre : List ABlk) (_r : AV) (_post : List PB) (h0 : Heap) (v1 : AV) (v2 : AV) (h3 : Heap) (rd4 : List Nat) (v5 : AV) (h6 : Heap) (rd7 : List Nat) (vs8 : List AV) (v11 : AV) (v12 : AV) (next21 : List AV → Heap → Prop) : Prop :=
  ORDX [] [0, 1, 3, 7, 0, 16, 48, 127, 255, 511] [(1, wr h0 h0, (ids v1)), (2, wr h0 h0, (ids v2)), (3, wr h0 h3, rd4), (5, wr h3 h3, (ids v1)), (6, wr h3 h3, (ids v5)), (7, wr h3 h6, rd7)] ∧
  FADDR 0 (nth vs8 2) h6 fun v9 =>
  LOAD false 1 v9 h6 fun v10 =>
  BUILD [(0, 1), (1, 1)] [.d (.num .i64 0), .d (.num .i64 0)] [(0, v11), (1, v12)] fun v13 =>
  MKS T_api_Span 2 [v13] 544 h6 fun v14 h15 =>
  APP T_api_Span 2 v10 v14 552 h15 fun v16 h17 =>
  FADDR 0 (nth vs8 2) h17 fun v18 =>
  STORE 1 v18 v16 h17 fun h19 =>
  BIN 0 .add (nth vs8 5) (.d (.num .i64 1)) fun v20 =>
  next21 [(nth vs8 0), (nth vs8 1), (nth vs8 2), (nth vs8 3), (nth vs8 4), v20] h19
def vcp_differ_parsed_k1 (P : Ctx) (pre : List ABlk) (r : AV) (post : List PB) (v0 : AV) (h1 : Heap) (h7 : Heap) (v8 : AV) (rd9 : List Nat) (vs10 : List AV) (v11 : AV) (next12 : List AV → Heap → Prop) : Prop :=
  IADDR 1 T_string v0 (.d (.num .i64 2)) h1 fun v2 =>
  LOAD false 1 v2 h1 fun v3 =>
  CALL P f_differ_signed [v3] 480 h1 (fun rd4 v5 h6 =>
  vcp_differ_parsed_k0 P pre r post h7 v0 v8 h1 rd9 v2 h6 rd4 vs10 v11 v5 next12)
  (fun _ pv13 ph14 =>
  (panOK 127 [(1, wr h7 h7, (ids v0)), (2, wr h7 h7, (ids v8)), (3, wr h7 h1, rd9), (5, wr h1 h1, (ids v0)), (6, wr h1 h1, (ids v2))] = true) ∧
  (ORDL [0, 1, 3, 7, 0, 16, 48, 127, 255, 511] [(1, wr h7 h7, (ids v0)), (2, wr h7 h7, (ids v8)), (3, wr h7 h1, rd9), (5, wr h1 h1, (ids v0)), (6, wr h1 h1, (ids v2))]) ∧
  POST pv13 ph14 pre r post)
def vcp_differ_parsed_k2 (P : Ctx) (pre : List ABlk) (r : AV) (post : List PB) (v0 : AV) (h1 : Heap) (vs7 : List AV) (next8 : List AV → Heap → Prop) : Prop :=
  IADDR 1 T_string v0 (.d (.num .i64 1)) h1 fun v2 =>
  LOAD false 1 v2 h1 fun v3 =>
  CALL P f_differ_signed [v3] 448 h1 (fun rd4 v5 h6 =>
  vcp_differ_parsed_k1 P pre r post v0 h6 h1 v2 rd4 vs7 v5 next8)
  (fun _ pv9 ph10 =>
  (panOK 7 [(1, wr h1 h1, (ids v0)), (2, wr h1 h1, (ids v2))] = true) ∧
  (true = true) ∧ ((none : Option (Nat × Bool)) = none) ∧
  (true = true) ∧ ((none : Option (Nat × Bool)) = none) ∧
  IADDR 1 T_string v0 (.d (.num .i64 2)) h1 fun v11 =>
  (true = true) ∧ ((none : Option (Nat × Bool)) = none) ∧
  LOAD false 1 v11 h1 fun _ =>
  (ORDL [0, 1, 3, 7, 0, 16, 48, 127, 255, 511] [(1, wr h1 h1, (ids v0)), (2, wr h1 h1, (ids v2)), (5, wr h1 h1, (ids v0)), (6, wr h1 h1, (ids v11))]) ∧
  POST pv9 ph10 pre r post)
def vcp_differ_parsed_k3 (P : Ctx) (pre : List ABlk) (r : AV) (post : List PB) (v0 : AV) (vs1 : List AV) (h3 : Heap) : Prop :=
  BIN 0 .eql v0 (nth vs1 0) fun v2 =>
  CALL P f_differ_need [v2, (nth vs1 0)] 376 h3 (fun _ _ h6 =>
  LOAD true 3 (nth vs1 2) h6 fun v7 =>
  STORE 3 (nth vs1 1) v7 h6 fun h8 =>
  LOAD true 3 (nth vs1 1) h8 fun _ =>
  False)
  (fun _ pv9 ph10 =>
  POST pv9 ph10 pre r post)
def vcp_differ_parsed_k4 (P : Ctx) (pre : List ABlk) (r : AV) (post : List PB) (vs0 : List AV) (h2 : Heap) (next13 : List AV → Heap → Prop) : Prop :=
  BIN 0 .lss (nth vs0 5) (nth vs0 4) fun v1 =>
  COND v1
  (IADDR 1 T_string (nth vs0 3) (nth vs0 5) h2 fun v3 =>
  LOAD false 1 v3 h2 fun v4 =>
  CALL P f_strings_Split [v4, (.d (.str [32]))] 368 h2 (fun _ v6 h7 =>
  LEN false v6 h7 fun v8 =>
  BIN 0 .eql v8 (.d (.num .i64 3)) fun v9 =>
  CALL P f_differ_need [v9, v4] 416 h7 (fun _ _ h12 =>
  vcp_differ_parsed_k2 P pre r post v6 h12 vs0 next13)
  (fun _ pv14 ph15 =>
  POST pv14 ph15 pre r post))
  (fun _ pv16 ph17 =>
  POST pv16 ph17 pre r post))
  (LOAD true 3 (nth vs0 2) h2 fun v18 =>
  CALL P f_differ_text [v18] 344 h2 (fun _ v20 h21 =>
  vcp_differ_parsed_k3 P pre r post v20 vs0 h21)
  (fun _ pv22 ph23 =>
  POST pv22 ph23 pre r post))
def vcp_differ_parsed_k5 (P : Ctx) (pre : List ABlk) (r : AV) (post : List PB) (v0 : AV) (v1 : AV) (h3 : Heap) (h7 : Heap) (v8 : AV) (v9 : AV) (h10 : Heap) (rd11 : List Nat) (v12 : AV) (rd13 : List Nat) (v14 : AV) (a19 : AV) (v20 : AV) : Prop :=
  BUILD [(0, 1), (1, 1), (2, 1)] [.zc, .d (.num .i64 0), .d (.num .i64 0)] [(1, v0), (2, v1)] fun v2 =>
  ALLOC T_api_DifferPlan [.zc, .d (.num .i64 0), .d (.num .i64 0)] 248 h3 fun v4 h5 =>
  STORE 3 v4 v2 h5 fun h6 =>
  ORDX [] [0, 1, 3, 7, 0, 16, 48, 127, 255, 0, 1023] [(1, wr h7 h7, (ids v8)), (2, wr h7 h7, (ids v9)), (3, wr h7 h10, rd11), (5, wr h10 h10, (ids v8)), (6, wr h10 h10, (ids v12)), (7, wr h10 h3, rd13), (9, wr h3 h5, []), (10, wr h5 h6, (ids v4))] ∧
  LEN false v14 h6 fun v15 =>
  BIN 0 .sub v15 (.d (.num .i64 2)) fun v16 =>
  SLICE 2 v14 (some (.d (.num .i64 1))) (some v16) none fun v17 =>
  LEN false v17 h6 fun v18 =>
  LOOP [a19, v20, v4, v17, v18, (.d (.num .i64 0))] h6 320 fun vs21 h22 next23 =>
  vcp_differ_parsed_k4 P pre r post vs21 h22 next23
def vcp_differ_parsed_k6 (P : Ctx) (pre : List ABlk) (r : AV) (post : List PB) (v0 : AV) (h1 : Heap) (v7 : AV) (h8 : Heap) (v9 : AV) (rd10 : List Nat) (v11 : AV) (a12 : AV) (v13 : AV) : Prop :=
  IADDR 1 T_string v0 (.d (.num .i64 2)) h1 fun v2 =>
  LOAD false 1 v2 h1 fun v3 =>
  CALL P f_differ_given [v3] 232 h1 (fun rd4 v5 h6 =>
  vcp_differ_parsed_k5 P pre r post v7 v5 h6 h8 v0 v9 h1 rd10 v2 rd4 v11 a12 v13)
  (fun _ pv14 ph15 =>
  (panOK 127 [(1, wr h8 h8, (ids v0)), (2, wr h8 h8, (ids v9)), (3, wr h8 h1, rd10), (5, wr h1 h1, (ids v0)), (6, wr h1 h1, (ids v2))] = true) ∧
  ((none : Option (Nat × Bool)) = none) ∧
  (ORDL [0, 1, 3, 7, 0, 16, 48, 127, 255, 0, 1023] [(1, wr h8 h8, (ids v0)), (2, wr h8 h8, (ids v9)), (3, wr h8 h1, rd10), (5, wr h1 h1, (ids v0)), (6, wr h1 h1, (ids v2)), (9, [], [])]) ∧
  POST pv14 ph15 pre r post)
def vcp_differ_parsed_k7 (P : Ctx) (pre : List ABlk) (r : AV) (post : List PB) (v0 : AV) (h1 : Heap) (v7 : AV) (a8 : AV) (v9 : AV) : Prop :=
  IADDR 1 T_string v0 (.d (.num .i64 1)) h1 fun v2 =>
  LOAD false 1 v2 h1 fun v3 =>
  CALL P f_differ_given [v3] 200 h1 (fun rd4 v5 h6 =>
  vcp_differ_parsed_k6 P pre r post v0 h6 v5 h1 v2 rd4 v7 a8 v9)
  (fun _ pv10 ph11 =>
  (panOK 7 [(1, wr h1 h1, (ids v0)), (2, wr h1 h1, (ids v2))] = true) ∧
  (true = true) ∧ ((none : Option (Nat × Bool)) = none) ∧
  (true = true) ∧ ((none : Option (Nat × Bool)) = none) ∧
  IADDR 1 T_string v0 (.d (.num .i64 2)) h1 fun v12 =>
  (true = true) ∧ ((none : Option (Nat × Bool)) = none) ∧
  LOAD false 1 v12 h1 fun _ =>
  ((none : Option (Nat × Bool)) = none) ∧
  (ORDL [0, 1, 3, 7, 0, 16, 48, 127, 255, 0, 1023] [(1, wr h1 h1, (ids v0)), (2, wr h1 h1, (ids v2)), (5, wr h1 h1, (ids v0)), (6, wr h1 h1, (ids v12)), (9, [], [])]) ∧
  POST pv10 ph11 pre r post)
def vcp_differ_parsed_k8 (P : Ctx) (pre : List ABlk) (r : AV) (post : List PB) (v0 : AV) (h1 : Heap) (a9 : AV) (v13 : AV) : Prop :=
  IADDR 1 T_string v0 (.d (.num .i64 0)) h1 fun v2 =>
  LOAD false 1 v2 h1 fun v3 =>
  CALL P f_strings_Split [v3, (.d (.str [32]))] 120 h1 (fun _ v5 h6 =>
  LEN false v5 h6 fun v7 =>
  BIN 0 .eql v7 (.d (.num .i64 3)) fun v8 =>
  CALL P f_differ_need [v8, a9] 168 h6 (fun _ _ h12 =>
  vcp_differ_parsed_k7 P pre r post v5 h12 v0 a9 v13)
  (fun _ pv14 ph15 =>
  POST pv14 ph15 pre r post))
  (fun _ pv16 ph17 =>
  POST pv16 ph17 pre r post)
def vcp_differ_parsed (P : Ctx) (pre : List ABlk) (a0 : AV) (r : AV) (post : List PB) : Prop :=
  let h0 : Heap := numbered 0 pre
  ALLOC T_api_DifferPlan [.zc, .d (.num .i64 0), .d (.num .i64 0)] 24 h0 fun v2 h1 =>
  CALL P f_strings_Split [a0, (.d (.str [10]))] 40 h1 (fun _ v12 h2 =>
  LEN false v12 h2 fun v14 =>
  BIN 0 .geq v14 (.d (.num .i64 3)) fun v15 =>
  CALL P f_differ_need [v15, a0] 88 h2 (fun _ _ h6 =>
  vcp_differ_parsed_k8 P pre r post v12 h6 a0 v2)
  (fun _ pv8 ph9 =>
  POST pv8 ph9 pre r post))
  (fun _ pv4 ph5 =>
  POST pv4 ph5 pre r post)
theorem vcp_differ_parsed_eq (g : GG) (pre : List ABlk) (a0 : AV) (r : AV) (post : List PB) : vcFn2 (Tz g) true annp_differ_parsed Tryz.f38 pre [a0] (.pan r) post = vcp_differ_parsed (Tz g) pre a0 r post := by kernel_rfl
theorem hfp_differ_parsed : Tryz.prog.funcs[f_differ_parsed]? = some Tryz.f38 := by kernel_rfl
theorem okp_differ_parsed : fnVcOK Tryz.prog Tryz.f38 = true := by kernel_rfl
theorem ntp_differ_parsed : Nat.ble 1 Tryz.f38.ntmps = true := by kernel_rfl
theorem meetsHp_differ_parsed {g : GG} {pre : List ABlk} {a0 : AV} {r : AV} {post : List PB} (hk : Nat.ble pre.length 24 = true) (h : vcp_differ_parsed (Tz g) pre a0 r post) : MeetsH (Tz g) f_differ_parsed pre [a0] (.pan r) post :=
  meetsH_of_vc (C := Tz g) annp_differ_parsed hfp_differ_parsed okp_differ_parsed ntp_differ_parsed hk (pn := true) (Eq.mpr ((vcFn2_eq _ _ _ _ _ _ _ _).trans (vcp_differ_parsed_eq g pre a0 r post)) h)
theorem meetsP_differ_parsed {g : GG} {a0 : D} {x : D} (h : vcp_differ_parsed (Tz g) [] (.d a0) (.d x) []) : MeetsP (Tz g) f_differ_parsed [a0] x := meetsHp_differ_parsed rfl h
def ann_differ_Read : Nat → List Nat := fun n => match n with  | _ => []
def vc_differ_Read_k0 (_P : Ctx) (pre : List ABlk) (r : AV) (post : List PB) (v0 : AV) (v3 : AV) (h4 : Heap) (v6 : AV) : Prop :=
  NOT v0 fun v1 =>
  COND v1
  (BUILD [(0, 1), (1, 1), (2, 1)] [.zc, .d (.num .i64 0), .d (.num .i64 0)] [] fun v2 =>
  STORE 3 v3 v2 h4 fun h5 =>
  LOAD true 3 v3 h5 fun r13 =>
  POST (.tup [r13, (.d (.num .i64 2))]) h5 pre r post)
  (LOAD true 3 v6 h4 fun v7 =>
  STORE 3 v3 v7 h4 fun h8 =>
  LOAD true 3 v3 h8 fun r15 =>
  POST (.tup [r15, (.d (.num .i64 0))]) h8 pre r post)
def vc_differ_Read_k1 (P : Ctx) (pre : List ABlk) (r : AV) (post : List PB) (v0 : AV) (v5 : AV) (h6 : Heap) (v8 : AV) : Prop :=
  EXT v0 0 fun _ =>
  EXT v0 1 fun v2 =>
  BIN 0 .neq v2 (.d (.num .i64 0)) fun v3 =>
  COND v3
  (BUILD [(0, 1), (1, 1), (2, 1)] [.zc, .d (.num .i64 0), .d (.num .i64 0)] [] fun v4 =>
  STORE 3 v5 v4 h6 fun h7 =>
  LOAD true 3 v5 h7 fun r9 =>
  POST (.tup [r9, v2]) h7 pre r post)
  (LOAD true 3 v8 h6 fun v9 =>
  CALL P f_differ_isPlan [v9] 160 h6 (fun _ v11 h12 =>
  vc_differ_Read_k0 P pre r post v11 v5 h12 v8)
  (fun _ _ _ => False))
def vc_differ_Read (P : Ctx) (pre : List ABlk) (a0 : AV) (r : AV) (post : List PB) : Prop :=
  let h0 : Heap := numbered 0 pre
  BOX T_string a0 24 h0 fun v1 h1 =>
  ALLOC T_api_DifferPlan [.zc, .d (.num .i64 0), .d (.num .i64 0)] 32 h1 fun v2 h2 =>
  LOAD false 1 v1 h2 fun v7 =>
  LEN true v7 h2 fun v8 =>
  BIN 0 .gtr v8 (.d (.num .i64 110)) fun v9 =>
  COND v9
  (BUILD [(0, 1), (1, 1), (2, 1)] [.zc, .d (.num .i64 0), .d (.num .i64 0)] [] fun v10 =>
  STORE 3 v2 v10 h2 fun h3 =>
  LOAD true 3 v2 h3 fun r4 =>
  POST (.tup [r4, (.d (.num .i64 3))]) h3 pre r post)
  (ALLOC T_api_DifferPlan [.zc, .d (.num .i64 0), .d (.num .i64 0)] 72 h2 fun v4 h5 =>
  CALL P f_differ_attempt [(.fn f_differ_Read_1 [] [v1, v4])] 88 h5 (fun _ v13 h6 =>
  vc_differ_Read_k1 P pre r post v13 v2 h6 v4)
  (fun _ _ _ => False))
theorem vc_differ_Read_eq (g : GG) (pre : List ABlk) (a0 : AV) (r : AV) (post : List PB) : vcFn2 (Tz g) false ann_differ_Read Tryz.f7 pre [a0] (.ret r) post = vc_differ_Read (Tz g) pre a0 r post := by kernel_rfl
theorem hf_differ_Read : Tryz.prog.funcs[f_differ_Read]? = some Tryz.f7 := by kernel_rfl
theorem ok_differ_Read : fnVcOK Tryz.prog Tryz.f7 = true := by kernel_rfl
theorem nt_differ_Read : Nat.ble 1 Tryz.f7.ntmps = true := by kernel_rfl
theorem meetsH_differ_Read {g : GG} {pre : List ABlk} {a0 : AV} {r : AV} {post : List PB} (hk : Nat.ble pre.length 24 = true) (h : vc_differ_Read (Tz g) pre a0 r post) : MeetsH (Tz g) f_differ_Read pre [a0] (.ret r) post :=
  meetsH_of_vc (C := Tz g) ann_differ_Read hf_differ_Read ok_differ_Read nt_differ_Read hk (pn := false) (Eq.mpr ((vcFn2_eq _ _ _ _ _ _ _ _).trans (vc_differ_Read_eq g pre a0 r post)) h)
theorem meets_differ_Read {g : GG} {a0 : D} {r : Res} (h : vc_differ_Read (Tz g) [] (.d a0) r.val (r.bl.map .upd)) : Meets (Tz g) f_differ_Read [a0] r := meetsH_differ_Read rfl h
def ann_differ_Read_1 : Nat → List Nat := fun n => match n with  | _ => []
def vc_differ_Read_1 (P : Ctx) (pre : List ABlk) (a0 a1 : AV) (r : AV) (post : List PB) : Prop :=
  let h0 : Heap := numbered 0 pre
  LOAD false 1 a0 h0 fun v2 =>
  CALL P f_differ_parsed [v2] 32 h0 (fun _ v3 h1 =>
  STORE 3 a1 v3 h1 fun h3 =>
  POST (.tup []) h3 pre r post)
  (fun _ _ _ => False)
theorem vc_differ_Read_1_eq (g : GG) (pre : List ABlk) (a0 a1 : AV) (r : AV) (post : List PB) : vcFn2 (Tz g) false ann_differ_Read_1 Tryz.f37 pre [a0, a1] (.ret r) post = vc_differ_Read_1 (Tz g) pre a0 a1 r post := by kernel_rfl
theorem hf_differ_Read_1 : Tryz.prog.funcs[f_differ_Read_1]? = some Tryz.f37 := by kernel_rfl
theorem ok_differ_Read_1 : fnVcOK Tryz.prog Tryz.f37 = true := by kernel_rfl
theorem nt_differ_Read_1 : Nat.ble 2 Tryz.f37.ntmps = true := by kernel_rfl
theorem meetsH_differ_Read_1 {g : GG} {pre : List ABlk} {a0 a1 : AV} {r : AV} {post : List PB} (hk : Nat.ble pre.length 24 = true) (h : vc_differ_Read_1 (Tz g) pre a0 a1 r post) : MeetsH (Tz g) f_differ_Read_1 pre [a0, a1] (.ret r) post :=
  meetsH_of_vc (C := Tz g) ann_differ_Read_1 hf_differ_Read_1 ok_differ_Read_1 nt_differ_Read_1 hk (pn := false) (Eq.mpr ((vcFn2_eq _ _ _ _ _ _ _ _).trans (vc_differ_Read_1_eq g pre a0 a1 r post)) h)
def annp_differ_Read_1 : Nat → List Nat := fun n => match n with  | _ => []
def vcp_differ_Read_1 (P : Ctx) (pre : List ABlk) (a0 a1 : AV) (r : AV) (post : List PB) : Prop :=
  let h0 : Heap := numbered 0 pre
  LOAD false 1 a0 h0 fun v2 =>
  CALL P f_differ_parsed [v2] 32 h0 (fun _ v3 h1 =>
  STORE 3 a1 v3 h1 fun _ =>
  False)
  (fun _ pv3 ph4 =>
  POST pv3 ph4 pre r post)
theorem vcp_differ_Read_1_eq (g : GG) (pre : List ABlk) (a0 a1 : AV) (r : AV) (post : List PB) : vcFn2 (Tz g) true annp_differ_Read_1 Tryz.f37 pre [a0, a1] (.pan r) post = vcp_differ_Read_1 (Tz g) pre a0 a1 r post := by kernel_rfl
theorem hfp_differ_Read_1 : Tryz.prog.funcs[f_differ_Read_1]? = some Tryz.f37 := by kernel_rfl
theorem okp_differ_Read_1 : fnVcOK Tryz.prog Tryz.f37 = true := by kernel_rfl
theorem ntp_differ_Read_1 : Nat.ble 2 Tryz.f37.ntmps = true := by kernel_rfl
theorem meetsHp_differ_Read_1 {g : GG} {pre : List ABlk} {a0 a1 : AV} {r : AV} {post : List PB} (hk : Nat.ble pre.length 24 = true) (h : vcp_differ_Read_1 (Tz g) pre a0 a1 r post) : MeetsH (Tz g) f_differ_Read_1 pre [a0, a1] (.pan r) post :=
  meetsH_of_vc (C := Tz g) annp_differ_Read_1 hfp_differ_Read_1 okp_differ_Read_1 ntp_differ_Read_1 hk (pn := true) (Eq.mpr ((vcFn2_eq _ _ _ _ _ _ _ _).trans (vcp_differ_Read_1_eq g pre a0 a1 r post)) h)
end Go.Vc
