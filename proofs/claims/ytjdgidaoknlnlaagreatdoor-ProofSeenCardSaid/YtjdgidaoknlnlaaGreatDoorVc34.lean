/- A part of the proof: general laws of a reading of the model by abstract data, or contracts of the functions that the law calls. -/
import Derived.Test.YtjdgidaoknlnlaaGreatDoorVc23
import Derived.Test.YtjdgidaoknlnlaaGreatDoorVc11
set_option maxRecDepth 100000
namespace Go.Vc
open Go Go.Proofs Go.RowKit
def ann_proof_Differs : Nat → List Nat := fun n => match n with | 6 => [4, 5, 14, 15] | _ => []
def vc_proof_Differs_k0 (P : Ctx) (pre : List ABlk) (r : AV) (post : List PB) (v0 : AV) (vs1 : List AV) (h2 : Heap) (next8 : List AV → Heap → Prop) : Prop :=
  COND v0
  (MKS T_int 1 [(nth vs1 3)] 208 h2 fun v3 h4 =>
  APP T_int 1 (nth vs1 1) v3 216 h4 fun v5 h6 =>
  BIN 0 .add (nth vs1 3) (.d (.num .i64 1)) fun v7 =>
  next8 [(nth vs1 0), v5, (nth vs1 2), v7] h6)
  (BIN 0 .add (nth vs1 3) (.d (.num .i64 1)) fun v7 =>
  next8 [(nth vs1 0), (nth vs1 1), (nth vs1 2), v7] h2)
def vc_proof_Differs_k1 (P : Ctx) (pre : List ABlk) (r : AV) (post : List PB) (vs0 : List AV) (h2 : Heap) (next6 : List AV → Heap → Prop) : Prop :=
  BIN 0 .lss (nth vs0 3) (nth vs0 2) fun v1 =>
  COND v1
  (CALL P f_p_proof_page_differs [(nth vs0 0), (nth vs0 3)] 184 h2 (fun _ v4 h5 =>
  vc_proof_Differs_k0 P pre r post v4 vs0 h5 next6)
  (fun _ _ _ => False))
  (POST (.tup [(nth vs0 1), (.d (.num .i64 0))]) h2 pre r post)
def vc_proof_Differs_k2 (P : Ctx) (pre : List ABlk) (r : AV) (post : List PB) (v0 : AV) (h2 : Heap) (v3 : AV) : Prop :=
  NOT v0 fun v1 =>
  COND v1
  (POST (.tup [.zc, (.d (.num .i64 2))]) h2 pre r post)
  (LOAD true 3 v3 h2 fun v4 =>
  CALL P f_proof_pageOf [v4] 80 h2 (fun _ v6 h7 =>
  FADDR 1 v3 h7 fun v8 =>
  LOAD false 1 v8 h7 fun v9 =>
  LEN false v9 h7 fun v10 =>
  LOOP [v6, .zc, v10, (.d (.num .i64 0))] h7 136 fun vs11 h12 next13 =>
  vc_proof_Differs_k1 P pre r post vs11 h12 next13)
  (fun _ _ _ => False))
def vc_proof_Differs (P : Ctx) (pre : List ABlk) (a0 : AV) (r : AV) (post : List PB) : Prop :=
  let h0 : Heap := numbered 0 pre
  BOX T_api_ProofPage a0 24 h0 fun v1 h1 =>
  LOAD true 3 v1 h1 fun v7 =>
  CALL P f_proof_isPage [v7] 56 h1 (fun _ v8 h2 =>
  vc_proof_Differs_k2 P pre r post v8 h2 v1)
  (fun _ _ _ => False)
theorem vc_proof_Differs_eq (g : GG) (pre : List ABlk) (a0 : AV) (r : AV) (post : List PB) : vcFn2 (Tz g) false ann_proof_Differs Tryz.f16 pre [a0] (.ret r) post = vc_proof_Differs (Tz g) pre a0 r post := by kernel_rfl
theorem hf_proof_Differs : Tryz.prog.funcs[f_proof_Differs]? = some Tryz.f16 := by kernel_rfl
theorem ok_proof_Differs : fnVcOK Tryz.prog Tryz.f16 = true := by kernel_rfl
theorem nt_proof_Differs : Nat.ble 1 Tryz.f16.ntmps = true := by kernel_rfl
theorem meetsH_proof_Differs {g : GG} {pre : List ABlk} {a0 : AV} {r : AV} {post : List PB} (hk : Nat.ble pre.length 24 = true) (h : vc_proof_Differs (Tz g) pre a0 r post) : MeetsH (Tz g) f_proof_Differs pre [a0] (.ret r) post :=
  meetsH_of_vc (C := Tz g) ann_proof_Differs hf_proof_Differs ok_proof_Differs nt_proof_Differs hk (pn := false) (Eq.mpr ((vcFn2_eq _ _ _ _ _ _ _ _).trans (vc_proof_Differs_eq g pre a0 r post)) h)
theorem meets_proof_Differs {g : GG} {a0 : D} {r : Res} (h : vc_proof_Differs (Tz g) [] (.d a0) r.val (r.bl.map .upd)) : Meets (Tz g) f_proof_Differs [a0] r := meetsH_proof_Differs rfl h
def ann_proof_Missed : Nat → List Nat := fun n => match n with  | _ => []
def vc_proof_Missed_k0 (P : Ctx) (pre : List ABlk) (r : AV) (post : List PB) (v0 : AV) (h2 : Heap) (v3 : AV) : Prop :=
  NOT v0 fun v1 =>
  COND v1
  (POST (.tup [.zc, (.d (.num .i64 2))]) h2 pre r post)
  (LOAD true 3 v3 h2 fun v4 =>
  CALL P f_proof_pageOf [v4] 80 h2 (fun _ v6 h7 =>
  FADDR 0 v6 h7 fun v8 =>
  FADDR 7 v8 h7 fun v9 =>
  LOAD false 1 v9 h7 fun v10 =>
  POST (.tup [v10, (.d (.num .i64 0))]) h7 pre r post)
  (fun _ _ _ => False))
def vc_proof_Missed (P : Ctx) (pre : List ABlk) (a0 : AV) (r : AV) (post : List PB) : Prop :=
  let h0 : Heap := numbered 0 pre
  BOX T_api_ProofPage a0 24 h0 fun v1 h1 =>
  LOAD true 3 v1 h1 fun v4 =>
  CALL P f_proof_isPage [v4] 56 h1 (fun _ v5 h2 =>
  vc_proof_Missed_k0 P pre r post v5 h2 v1)
  (fun _ _ _ => False)
theorem vc_proof_Missed_eq (g : GG) (pre : List ABlk) (a0 : AV) (r : AV) (post : List PB) : vcFn2 (Tz g) false ann_proof_Missed Tryz.f32 pre [a0] (.ret r) post = vc_proof_Missed (Tz g) pre a0 r post := by kernel_rfl
theorem hf_proof_Missed : Tryz.prog.funcs[f_proof_Missed]? = some Tryz.f32 := by kernel_rfl
theorem ok_proof_Missed : fnVcOK Tryz.prog Tryz.f32 = true := by kernel_rfl
theorem nt_proof_Missed : Nat.ble 1 Tryz.f32.ntmps = true := by kernel_rfl
theorem meetsH_proof_Missed {g : GG} {pre : List ABlk} {a0 : AV} {r : AV} {post : List PB} (hk : Nat.ble pre.length 24 = true) (h : vc_proof_Missed (Tz g) pre a0 r post) : MeetsH (Tz g) f_proof_Missed pre [a0] (.ret r) post :=
  meetsH_of_vc (C := Tz g) ann_proof_Missed hf_proof_Missed ok_proof_Missed nt_proof_Missed hk (pn := false) (Eq.mpr ((vcFn2_eq _ _ _ _ _ _ _ _).trans (vc_proof_Missed_eq g pre a0 r post)) h)
theorem meets_proof_Missed {g : GG} {a0 : D} {r : Res} (h : vc_proof_Missed (Tz g) [] (.d a0) r.val (r.bl.map .upd)) : Meets (Tz g) f_proof_Missed [a0] r := meetsH_proof_Missed rfl h
end Go.Vc
