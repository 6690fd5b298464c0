/- A part of the proof: general laws of a reading of the model by abstract data, or contracts of the functions that the law calls. -/
import Derived.Test.YtjdgidaoknlnlaaGreatDoorVc23
import Derived.Test.YtjdgidaoknlnlaaGreatDoorVc11
import Derived.Test.YtjdgidaoknlnlaaGreatDoorVc38
import Derived.Test.YtjdgidaoknlnlaaGreatDoorVc22
import Derived.Test.YtjdgidaoknlnlaaGreatDoorVc40
set_option maxRecDepth 100000
namespace Go.Vc
open Go Go.Proofs Go.RowKit
def ann_p_proof_page_passing : Nat → List Nat := fun n => match n with | 3 => [1, 3, 10, 11] | _ => []
def vc_p_proof_page_passing_k0 (P : Ctx) (pre : List ABlk) (r : AV) (post : List PB) (v0 : AV) (v2 : AV) (h3 : Heap) (vs7 : List AV) (next11 : List AV → Heap → Prop) : Prop :=
  BIN 0 .eql v0 (.d (.num .i64 0)) fun v1 =>
  COND v1
  (LOAD false 1 v2 h3 fun v4 =>
  MKS T_int 1 [v4] 184 h3 fun v5 h6 =>
  APP T_int 1 (nth vs7 1) v5 192 h6 fun v8 h9 =>
  BIN 0 .add (nth vs7 3) (.d (.num .i64 1)) fun v10 =>
  next11 [(nth vs7 0), v8, (nth vs7 2), v10] h9)
  (BIN 0 .add (nth vs7 3) (.d (.num .i64 1)) fun v10 =>
  next11 [(nth vs7 0), (nth vs7 1), (nth vs7 2), v10] h3)
def vc_p_proof_page_passing_k1 (P : Ctx) (pre : List ABlk) (r : AV) (post : List PB) (vs0 : List AV) (h2 : Heap) (next9 : List AV → Heap → Prop) : Prop :=
  BIN 0 .lss (nth vs0 3) (nth vs0 2) fun v1 =>
  COND v1
  (ALLOC T_int [.d (.num .i64 0)] 128 h2 fun v3 h4 =>
  STORE 1 v3 (nth vs0 3) h4 fun h5 =>
  CALL P f_proof_attempt [(.fn f_p_proof_page_passing_1 [] [(nth vs0 0), v3])] 152 h5 (fun _ v7 h8 =>
  vc_p_proof_page_passing_k0 P pre r post v7 v3 h8 vs0 next9)
  (fun _ _ _ => False))
  (POST (nth vs0 1) h2 pre r post)
def vc_p_proof_page_passing (P : Ctx) (pre : List ABlk) (a0 : AV) (r : AV) (post : List PB) : Prop :=
  let h0 : Heap := numbered 0 pre
  BOX T_p_proof_page a0 24 h0 fun v1 h1 =>
  LOAD false 1 v1 h1 fun v5 =>
  FADDR 0 v5 h1 fun v6 =>
  FADDR 0 v6 h1 fun v7 =>
  FADDR 1 v7 h1 fun v8 =>
  LOAD false 1 v8 h1 fun v9 =>
  LEN false v9 h1 fun v10 =>
  LOOP [v1, .zc, v10, (.d (.num .i64 0))] h1 104 fun vs2 h3 next2 =>
  vc_p_proof_page_passing_k1 P pre r post vs2 h3 next2
theorem vc_p_proof_page_passing_eq (g : GG) (pre : List ABlk) (a0 : AV) (r : AV) (post : List PB) : vcFn2 (Tz g) false ann_p_proof_page_passing Tryz.f78 pre [a0] (.ret r) post = vc_p_proof_page_passing (Tz g) pre a0 r post := by kernel_rfl
theorem hf_p_proof_page_passing : Tryz.prog.funcs[f_p_proof_page_passing]? = some Tryz.f78 := by kernel_rfl
theorem ok_p_proof_page_passing : fnVcOK Tryz.prog Tryz.f78 = true := by kernel_rfl
theorem nt_p_proof_page_passing : Nat.ble 1 Tryz.f78.ntmps = true := by kernel_rfl
theorem meetsH_p_proof_page_passing {g : GG} {pre : List ABlk} {a0 : AV} {r : AV} {post : List PB} (hk : Nat.ble pre.length 24 = true) (h : vc_p_proof_page_passing (Tz g) pre a0 r post) : MeetsH (Tz g) f_p_proof_page_passing pre [a0] (.ret r) post :=
  meetsH_of_vc (C := Tz g) ann_p_proof_page_passing hf_p_proof_page_passing ok_p_proof_page_passing nt_p_proof_page_passing hk (pn := false) (Eq.mpr ((vcFn2_eq _ _ _ _ _ _ _ _).trans (vc_p_proof_page_passing_eq g pre a0 r post)) h)
def ann_p_proof_page_passes : Nat → List Nat := fun n => match n with  | _ => []
def vc_p_proof_page_passes (P : Ctx) (pre : List ABlk) (a0 : AV) (r : AV) (post : List PB) : Prop :=
  let h0 : Heap := numbered 0 pre
  BOX T_p_proof_page a0 24 h0 fun v1 h1 =>
  CALL P f_proof_attempt [(.fn f_p_proof_page_passes_1 [] [v1])] 48 h1 (fun _ v4 h2 =>
  BIN 0 .eql v4 (.d (.num .i64 0)) fun v5 =>
  POST v5 h2 pre r post)
  (fun _ _ _ => False)
theorem vc_p_proof_page_passes_eq (g : GG) (pre : List ABlk) (a0 : AV) (r : AV) (post : List PB) : vcFn2 (Tz g) false ann_p_proof_page_passes Tryz.f83 pre [a0] (.ret r) post = vc_p_proof_page_passes (Tz g) pre a0 r post := by kernel_rfl
theorem hf_p_proof_page_passes : Tryz.prog.funcs[f_p_proof_page_passes]? = some Tryz.f83 := by kernel_rfl
theorem ok_p_proof_page_passes : fnVcOK Tryz.prog Tryz.f83 = true := by kernel_rfl
theorem nt_p_proof_page_passes : Nat.ble 1 Tryz.f83.ntmps = true := by kernel_rfl
theorem meetsH_p_proof_page_passes {g : GG} {pre : List ABlk} {a0 : AV} {r : AV} {post : List PB} (hk : Nat.ble pre.length 24 = true) (h : vc_p_proof_page_passes (Tz g) pre a0 r post) : MeetsH (Tz g) f_p_proof_page_passes pre [a0] (.ret r) post :=
  meetsH_of_vc (C := Tz g) ann_p_proof_page_passes hf_p_proof_page_passes ok_p_proof_page_passes nt_p_proof_page_passes hk (pn := false) (Eq.mpr ((vcFn2_eq _ _ _ _ _ _ _ _).trans (vc_p_proof_page_passes_eq g pre a0 r post)) h)
def ann_p_proof_page_passing_1 : Nat → List Nat := fun n => match n with  | _ => []
def vc_p_proof_page_passing_1 (P : Ctx) (pre : List ABlk) (a0 a1 : AV) (r : AV) (post : List PB) : Prop :=
  let h0 : Heap := numbered 0 pre
  LOAD false 1 a0 h0 fun v2 =>
  LOAD false 1 a1 h0 fun v3 =>
  CALL P f_p_proof_page_mustPass [v2, v3] 40 h0 (fun _ v4 h1 =>
  POST (.tup []) h1 pre r post)
  (fun _ _ _ => False)
theorem vc_p_proof_page_passing_1_eq (g : GG) (pre : List ABlk) (a0 a1 : AV) (r : AV) (post : List PB) : vcFn2 (Tz g) false ann_p_proof_page_passing_1 Tryz.f122 pre [a0, a1] (.ret r) post = vc_p_proof_page_passing_1 (Tz g) pre a0 a1 r post := by kernel_rfl
theorem hf_p_proof_page_passing_1 : Tryz.prog.funcs[f_p_proof_page_passing_1]? = some Tryz.f122 := by kernel_rfl
theorem ok_p_proof_page_passing_1 : fnVcOK Tryz.prog Tryz.f122 = true := by kernel_rfl
theorem nt_p_proof_page_passing_1 : Nat.ble 2 Tryz.f122.ntmps = true := by kernel_rfl
theorem meetsH_p_proof_page_passing_1 {g : GG} {pre : List ABlk} {a0 a1 : AV} {r : AV} {post : List PB} (hk : Nat.ble pre.length 24 = true) (h : vc_p_proof_page_passing_1 (Tz g) pre a0 a1 r post) : MeetsH (Tz g) f_p_proof_page_passing_1 pre [a0, a1] (.ret r) post :=
  meetsH_of_vc (C := Tz g) ann_p_proof_page_passing_1 hf_p_proof_page_passing_1 ok_p_proof_page_passing_1 nt_p_proof_page_passing_1 hk (pn := false) (Eq.mpr ((vcFn2_eq _ _ _ _ _ _ _ _).trans (vc_p_proof_page_passing_1_eq g pre a0 a1 r post)) h)
def annp_p_proof_page_passing_1 : Nat → List Nat := fun n => match n with  | _ => []
def vcp_p_proof_page_passing_1 (P : Ctx) (pre : List ABlk) (a0 a1 : AV) (r : AV) (post : List PB) : Prop :=
  let h0 : Heap := numbered 0 pre
  LOAD false 1 a0 h0 fun v2 =>
  LOAD false 1 a1 h0 fun v3 =>
  CALL P f_p_proof_page_mustPass [v2, v3] 40 h0 (fun _ v4 h1 =>
  False)
  (fun _ pv3 ph4 =>
  POST pv3 ph4 pre r post)
theorem vcp_p_proof_page_passing_1_eq (g : GG) (pre : List ABlk) (a0 a1 : AV) (r : AV) (post : List PB) : vcFn2 (Tz g) true annp_p_proof_page_passing_1 Tryz.f122 pre [a0, a1] (.pan r) post = vcp_p_proof_page_passing_1 (Tz g) pre a0 a1 r post := by kernel_rfl
theorem hfp_p_proof_page_passing_1 : Tryz.prog.funcs[f_p_proof_page_passing_1]? = some Tryz.f122 := by kernel_rfl
theorem okp_p_proof_page_passing_1 : fnVcOK Tryz.prog Tryz.f122 = true := by kernel_rfl
theorem ntp_p_proof_page_passing_1 : Nat.ble 2 Tryz.f122.ntmps = true := by kernel_rfl
theorem meetsHp_p_proof_page_passing_1 {g : GG} {pre : List ABlk} {a0 a1 : AV} {r : AV} {post : List PB} (hk : Nat.ble pre.length 24 = true) (h : vcp_p_proof_page_passing_1 (Tz g) pre a0 a1 r post) : MeetsH (Tz g) f_p_proof_page_passing_1 pre [a0, a1] (.pan r) post :=
  meetsH_of_vc (C := Tz g) annp_p_proof_page_passing_1 hfp_p_proof_page_passing_1 okp_p_proof_page_passing_1 ntp_p_proof_page_passing_1 hk (pn := true) (Eq.mpr ((vcFn2_eq _ _ _ _ _ _ _ _).trans (vcp_p_proof_page_passing_1_eq g pre a0 a1 r post)) h)
def ann_p_proof_page_passes_1 : Nat → List Nat := fun n => match n with | 1 => [0, 7, 8] | _ => []
def vc_p_proof_page_passes_1_k0 (P : Ctx) (pre : List ABlk) (r : AV) (post : List PB) (vs0 : List AV) (h2 : Heap) (next8 : List AV → Heap → Prop) : Prop :=
  BIN 0 .lss (nth vs0 2) (nth vs0 1) fun v1 =>
  COND v1
  (LOAD false 1 (nth vs0 0) h2 fun v3 =>
  CALL P f_p_proof_page_mustPass [v3, (nth vs0 2)] 128 h2 (fun _ v5 h6 =>
  BIN 0 .add (nth vs0 2) (.d (.num .i64 1)) fun v7 =>
  next8 [(nth vs0 0), (nth vs0 1), v7] h6)
  (fun _ _ _ => False))
  (POST (.tup []) h2 pre r post)
def vc_p_proof_page_passes_1 (P : Ctx) (pre : List ABlk) (a0 : AV) (r : AV) (post : List PB) : Prop :=
  let h0 : Heap := numbered 0 pre
  LOAD false 1 a0 h0 fun v2 =>
  FADDR 0 v2 h0 fun v3 =>
  FADDR 0 v3 h0 fun v4 =>
  FADDR 1 v4 h0 fun v5 =>
  LOAD false 1 v5 h0 fun v6 =>
  LEN false v6 h0 fun v7 =>
  LOOP [a0, v7, (.d (.num .i64 0))] h0 80 fun vs1 h2 next1 =>
  vc_p_proof_page_passes_1_k0 P pre r post vs1 h2 next1
theorem vc_p_proof_page_passes_1_eq (g : GG) (pre : List ABlk) (a0 : AV) (r : AV) (post : List PB) : vcFn2 (Tz g) false ann_p_proof_page_passes_1 Tryz.f125 pre [a0] (.ret r) post = vc_p_proof_page_passes_1 (Tz g) pre a0 r post := by kernel_rfl
theorem hf_p_proof_page_passes_1 : Tryz.prog.funcs[f_p_proof_page_passes_1]? = some Tryz.f125 := by kernel_rfl
theorem ok_p_proof_page_passes_1 : fnVcOK Tryz.prog Tryz.f125 = true := by kernel_rfl
theorem nt_p_proof_page_passes_1 : Nat.ble 1 Tryz.f125.ntmps = true := by kernel_rfl
theorem meetsH_p_proof_page_passes_1 {g : GG} {pre : List ABlk} {a0 : AV} {r : AV} {post : List PB} (hk : Nat.ble pre.length 24 = true) (h : vc_p_proof_page_passes_1 (Tz g) pre a0 r post) : MeetsH (Tz g) f_p_proof_page_passes_1 pre [a0] (.ret r) post :=
  meetsH_of_vc (C := Tz g) ann_p_proof_page_passes_1 hf_p_proof_page_passes_1 ok_p_proof_page_passes_1 nt_p_proof_page_passes_1 hk (pn := false) (Eq.mpr ((vcFn2_eq _ _ _ _ _ _ _ _).trans (vc_p_proof_page_passes_1_eq g pre a0 r post)) h)
def annp_p_proof_page_passes_1 : Nat → List Nat := fun n => match n with | 1 => [0, 7, 8] | _ => []
def vcp_p_proof_page_passes_1_k0 (P : Ctx) (pre : List ABlk) (r : AV) (post : List PB) (vs0 : List AV) (h2 : Heap) (next8 : List AV → Heap → Prop) : Prop :=
  BIN 0 .lss (nth vs0 2) (nth vs0 1) fun v1 =>
  COND v1
  (LOAD false 1 (nth vs0 0) h2 fun v3 =>
  CALL P f_p_proof_page_mustPass [v3, (nth vs0 2)] 128 h2 (fun _ v5 h6 =>
  BIN 0 .add (nth vs0 2) (.d (.num .i64 1)) fun v7 =>
  next8 [(nth vs0 0), (nth vs0 1), v7] h6)
  (fun _ pv9 ph10 =>
  POST pv9 ph10 pre r post))
  (False)
def vcp_p_proof_page_passes_1 (P : Ctx) (pre : List ABlk) (a0 : AV) (r : AV) (post : List PB) : Prop :=
  let h0 : Heap := numbered 0 pre
  LOAD false 1 a0 h0 fun v2 =>
  FADDR 0 v2 h0 fun v3 =>
  FADDR 0 v3 h0 fun v4 =>
  FADDR 1 v4 h0 fun v5 =>
  LOAD false 1 v5 h0 fun v6 =>
  LEN false v6 h0 fun v7 =>
  LOOP [a0, v7, (.d (.num .i64 0))] h0 80 fun vs1 h2 next1 =>
  vcp_p_proof_page_passes_1_k0 P pre r post vs1 h2 next1
theorem vcp_p_proof_page_passes_1_eq (g : GG) (pre : List ABlk) (a0 : AV) (r : AV) (post : List PB) : vcFn2 (Tz g) true annp_p_proof_page_passes_1 Tryz.f125 pre [a0] (.pan r) post = vcp_p_proof_page_passes_1 (Tz g) pre a0 r post := by kernel_rfl
theorem hfp_p_proof_page_passes_1 : Tryz.prog.funcs[f_p_proof_page_passes_1]? = some Tryz.f125 := by kernel_rfl
theorem okp_p_proof_page_passes_1 : fnVcOK Tryz.prog Tryz.f125 = true := by kernel_rfl
theorem ntp_p_proof_page_passes_1 : Nat.ble 1 Tryz.f125.ntmps = true := by kernel_rfl
theorem meetsHp_p_proof_page_passes_1 {g : GG} {pre : List ABlk} {a0 : AV} {r : AV} {post : List PB} (hk : Nat.ble pre.length 24 = true) (h : vcp_p_proof_page_passes_1 (Tz g) pre a0 r post) : MeetsH (Tz g) f_p_proof_page_passes_1 pre [a0] (.pan r) post :=
  meetsH_of_vc (C := Tz g) annp_p_proof_page_passes_1 hfp_p_proof_page_passes_1 okp_p_proof_page_passes_1 ntp_p_proof_page_passes_1 hk (pn := true) (Eq.mpr ((vcFn2_eq _ _ _ _ _ _ _ _).trans (vcp_p_proof_page_passes_1_eq g pre a0 r post)) h)
def ann_p_proof_page_mustPass : Nat → List Nat := fun n => match n with  | _ => []
def vc_p_proof_page_mustPass (P : Ctx) (pre : List ABlk) (a0 a1 : AV) (r : AV) (post : List PB) : Prop :=
  let h0 : Heap := numbered 0 pre
  CALL P f_p_proof_page_readers [a0, a1] 40 h0 (fun _ v6 h1 =>
  LEN false v6 h1 fun v7 =>
  BIN 0 .lss v7 (.d (.num .i64 2)) fun v8 =>
  COND v8
  (BUILD [(0, 1)] [.d (.num .i64 0)] [(0, a1)] fun v10 =>
  PANIC (.iface T_proof_short v10) fun _ => False)
  (POST (.tup []) h1 pre r post))
  (fun _ _ _ => False)
theorem vc_p_proof_page_mustPass_eq (g : GG) (pre : List ABlk) (a0 a1 : AV) (r : AV) (post : List PB) : vcFn2 (Tz g) false ann_p_proof_page_mustPass Tryz.f123 pre [a0, a1] (.ret r) post = vc_p_proof_page_mustPass (Tz g) pre a0 a1 r post := by kernel_rfl
theorem hf_p_proof_page_mustPass : Tryz.prog.funcs[f_p_proof_page_mustPass]? = some Tryz.f123 := by kernel_rfl
theorem ok_p_proof_page_mustPass : fnVcOK Tryz.prog Tryz.f123 = true := by kernel_rfl
theorem nt_p_proof_page_mustPass : Nat.ble 2 Tryz.f123.ntmps = true := by kernel_rfl
theorem meetsH_p_proof_page_mustPass {g : GG} {pre : List ABlk} {a0 a1 : AV} {r : AV} {post : List PB} (hk : Nat.ble pre.length 24 = true) (h : vc_p_proof_page_mustPass (Tz g) pre a0 a1 r post) : MeetsH (Tz g) f_p_proof_page_mustPass pre [a0, a1] (.ret r) post :=
  meetsH_of_vc (C := Tz g) ann_p_proof_page_mustPass hf_p_proof_page_mustPass ok_p_proof_page_mustPass nt_p_proof_page_mustPass hk (pn := false) (Eq.mpr ((vcFn2_eq _ _ _ _ _ _ _ _).trans (vc_p_proof_page_mustPass_eq g pre a0 a1 r post)) h)
def annp_p_proof_page_mustPass : Nat → List Nat := fun n => match n with  | _ => []
def vcp_p_proof_page_mustPass (P : Ctx) (pre : List ABlk) (a0 a1 : AV) (r : AV) (post : List PB) : Prop :=
  let h0 : Heap := numbered 0 pre
  CALL P f_p_proof_page_readers [a0, a1] 40 h0 (fun _ v6 h1 =>
  LEN false v6 h1 fun v7 =>
  BIN 0 .lss v7 (.d (.num .i64 2)) fun v8 =>
  COND v8
  (BUILD [(0, 1)] [.d (.num .i64 0)] [(0, a1)] fun v10 =>
  PANIC (.iface T_proof_short v10) fun pv5 =>
  POST pv5 h1 pre r post)
  (False))
  (fun _ pv3 ph4 =>
  POST pv3 ph4 pre r post)
theorem vcp_p_proof_page_mustPass_eq (g : GG) (pre : List ABlk) (a0 a1 : AV) (r : AV) (post : List PB) : vcFn2 (Tz g) true annp_p_proof_page_mustPass Tryz.f123 pre [a0, a1] (.pan r) post = vcp_p_proof_page_mustPass (Tz g) pre a0 a1 r post := by kernel_rfl
theorem hfp_p_proof_page_mustPass : Tryz.prog.funcs[f_p_proof_page_mustPass]? = some Tryz.f123 := by kernel_rfl
theorem okp_p_proof_page_mustPass : fnVcOK Tryz.prog Tryz.f123 = true := by kernel_rfl
theorem ntp_p_proof_page_mustPass : Nat.ble 2 Tryz.f123.ntmps = true := by kernel_rfl
theorem meetsHp_p_proof_page_mustPass {g : GG} {pre : List ABlk} {a0 a1 : AV} {r : AV} {post : List PB} (hk : Nat.ble pre.length 24 = true) (h : vcp_p_proof_page_mustPass (Tz g) pre a0 a1 r post) : MeetsH (Tz g) f_p_proof_page_mustPass pre [a0, a1] (.pan r) post :=
  meetsH_of_vc (C := Tz g) annp_p_proof_page_mustPass hfp_p_proof_page_mustPass okp_p_proof_page_mustPass ntp_p_proof_page_mustPass hk (pn := true) (Eq.mpr ((vcFn2_eq _ _ _ _ _ _ _ _).trans (vcp_p_proof_page_mustPass_eq g pre a0 a1 r post)) h)
def ann_ref09_Passes : Nat → List Nat := fun n => match n with | 3 => [1, 3, 4] | _ => []
def vc_ref09_Passes_k0 (P : Ctx) (pre : List ABlk) (r : AV) (post : List PB) (v0 : AV) (h1 : Heap) (vs4 : List AV) (next10 : List AV → Heap → Prop) : Prop :=
  LEN false v0 h1 fun v2 =>
  BIN 0 .geq v2 (.d (.num .i64 2)) fun v3 =>
  COND v3
  (MKS T_int 1 [(nth vs4 2)] 160 h1 fun v5 h6 =>
  APP T_int 1 (nth vs4 1) v5 168 h6 fun v7 h8 =>
  BIN 0 .add (nth vs4 2) (.d (.num .i64 1)) fun v9 =>
  next10 [(nth vs4 0), v7, v9] h8)
  (BIN 0 .add (nth vs4 2) (.d (.num .i64 1)) fun v9 =>
  next10 [(nth vs4 0), (nth vs4 1), v9] h1)
def vc_ref09_Passes_k1 (P : Ctx) (pre : List ABlk) (r : AV) (post : List PB) (vs0 : List AV) (h1 : Heap) (next10 : List AV → Heap → Prop) : Prop :=
  FADDR 1 (nth vs0 0) h1 fun v2 =>
  LOAD false 1 v2 h1 fun v3 =>
  LEN false v3 h1 fun v4 =>
  BIN 0 .lss (nth vs0 2) v4 fun v5 =>
  COND v5
  (LOAD true 3 (nth vs0 0) h1 fun v6 =>
  CALL P f_ref09_Readers [v6, (nth vs0 2)] 120 h1 (fun _ v8 h9 =>
  vc_ref09_Passes_k0 P pre r post v8 h9 vs0 next10)
  (fun _ _ _ => False))
  (POST (nth vs0 1) h1 pre r post)
def vc_ref09_Passes (P : Ctx) (pre : List ABlk) (a0 : AV) (r : AV) (post : List PB) : Prop :=
  let h0 : Heap := numbered 0 pre
  BOX T_api_ProofPage a0 24 h0 fun v1 h1 =>
  LOOP [v1, .zc, (.d (.num .i64 0))] h1 56 fun vs2 h3 next2 =>
  vc_ref09_Passes_k1 P pre r post vs2 h3 next2
theorem vc_ref09_Passes_eq (g : GG) (pre : List ABlk) (a0 : AV) (r : AV) (post : List PB) : vcFn2 (Tz g) false ann_ref09_Passes Tryz.f86 pre [a0] (.ret r) post = vc_ref09_Passes (Tz g) pre a0 r post := by kernel_rfl
theorem hf_ref09_Passes : Tryz.prog.funcs[f_ref09_Passes]? = some Tryz.f86 := by kernel_rfl
theorem ok_ref09_Passes : fnVcOK Tryz.prog Tryz.f86 = true := by kernel_rfl
theorem nt_ref09_Passes : Nat.ble 1 Tryz.f86.ntmps = true := by kernel_rfl
theorem meetsH_ref09_Passes {g : GG} {pre : List ABlk} {a0 : AV} {r : AV} {post : List PB} (hk : Nat.ble pre.length 24 = true) (h : vc_ref09_Passes (Tz g) pre a0 r post) : MeetsH (Tz g) f_ref09_Passes pre [a0] (.ret r) post :=
  meetsH_of_vc (C := Tz g) ann_ref09_Passes hf_ref09_Passes ok_ref09_Passes nt_ref09_Passes hk (pn := false) (Eq.mpr ((vcFn2_eq _ _ _ _ _ _ _ _).trans (vc_ref09_Passes_eq g pre a0 r post)) h)
theorem meets_ref09_Passes {g : GG} {a0 : D} {r : Res} (h : vc_ref09_Passes (Tz g) [] (.d a0) r.val (r.bl.map .upd)) : Meets (Tz g) f_ref09_Passes [a0] r := meetsH_ref09_Passes rfl h
def ann_ref09_Pass : Nat → List Nat := fun n => match n with  | _ => []
def vc_ref09_Pass_k0 (P : Ctx) (pre : List ABlk) (r : AV) (post : List PB) (v0 : AV) (h1 : Heap) (v3 : AV) (h8 : Heap) (rd9 : List Nat) : Prop :=
  LEN false v0 h1 fun v2 =>
  FADDR 1 v3 h1 fun v4 =>
  LOAD false 1 v4 h1 fun v5 =>
  LEN false v5 h1 fun v6 =>
  BIN 0 .eql v2 v6 fun v7 =>
  ORDX [] [0, 1, 3, 0, 8, 24, 63, 127] [(0, wr h8 h8, (ids v3)), (1, wr h8 h1, rd9), (2, wr h1 h1, (ids v0)), (3, wr h1 h1, (ids v3)), (4, wr h1 h1, (ids v4)), (5, wr h1 h1, (ids v5))] ∧
  POST v7 h1 pre r post
def vc_ref09_Pass (P : Ctx) (pre : List ABlk) (a0 : AV) (r : AV) (post : List PB) : Prop :=
  let h0 : Heap := numbered 0 pre
  BOX T_api_ProofPage a0 24 h0 fun v1 h1 =>
  LOAD true 3 v1 h1 fun v3 =>
  CALL P f_ref09_Passes [v3] 48 h1 (fun rd3 v4 h2 =>
  vc_ref09_Pass_k0 P pre r post v4 h2 v1 h1 rd3)
  (fun _ _ _ => False)
theorem vc_ref09_Pass_eq (g : GG) (pre : List ABlk) (a0 : AV) (r : AV) (post : List PB) : vcFn2 (Tz g) false ann_ref09_Pass Tryz.f127 pre [a0] (.ret r) post = vc_ref09_Pass (Tz g) pre a0 r post := by kernel_rfl
theorem hf_ref09_Pass : Tryz.prog.funcs[f_ref09_Pass]? = some Tryz.f127 := by kernel_rfl
theorem ok_ref09_Pass : fnVcOK Tryz.prog Tryz.f127 = true := by kernel_rfl
theorem nt_ref09_Pass : Nat.ble 1 Tryz.f127.ntmps = true := by kernel_rfl
theorem meetsH_ref09_Pass {g : GG} {pre : List ABlk} {a0 : AV} {r : AV} {post : List PB} (hk : Nat.ble pre.length 24 = true) (h : vc_ref09_Pass (Tz g) pre a0 r post) : MeetsH (Tz g) f_ref09_Pass pre [a0] (.ret r) post :=
  meetsH_of_vc (C := Tz g) ann_ref09_Pass hf_ref09_Pass ok_ref09_Pass nt_ref09_Pass hk (pn := false) (Eq.mpr ((vcFn2_eq _ _ _ _ _ _ _ _).trans (vc_ref09_Pass_eq g pre a0 r post)) h)
theorem meets_ref09_Pass {g : GG} {a0 : D} {r : Res} (h : vc_ref09_Pass (Tz g) [] (.d a0) r.val (r.bl.map .upd)) : Meets (Tz g) f_ref09_Pass [a0] r := meetsH_ref09_Pass rfl h
end Go.Vc

namespace Go.Vc
open Go Go.Proofs Go.RowKit
variable {g : GG}
attribute [local simp] and_assoc
abbrev GoB := Cal → List ABlk → List AV → Option (Out × List PB)
abbrev dm0 : FuncId → Nat := fun _ => 0
open Classical in
noncomputable def onB (f : FuncId) (pre : List ABlk) (args : List AV) (out : Out) (post : List PB) : GoB := fun c p a => if c = .fnc f ∧ p = pre ∧ a = args then some (out, post) else none
theorem onB_at (f : FuncId) (pre : List ABlk) (args : List AV) (out : Out) (post : List PB) : onB f pre args out post (.fnc f) pre args = some (out, post) := if_pos ⟨rfl, rfl, rfl⟩
theorem onB_ok {C : Ctx} {f : FuncId} {pre : List ABlk} {args : List AV} {out : Out} {post : List PB} (h : MeetsH C f pre args out post) : OrcOK C (dm0, onB f pre args out post) := by
  intro cal p a o q ha
  simp only [onB] at ha
  split at ha
  · rename_i e
    obtain ⟨rfl, rfl, rfl⟩ := e
    simp only [Option.some.injEq, Prod.mk.injEq] at ha
    obtain ⟨rfl, rfl⟩ := ha
    exact h
  · cases ha
def pgBs (t : TypeId) (cs : List AV) (a b c d : List D) (e : List MEnt) (ck : Nat) : List ABlk := [⟨0, t, .box [.ptr 1 0 0 0]⟩, ⟨0, T_proof_page, .box (cs ++ [.own 2 0, .own 3 0, .mapv 4, .own 5 0, .own 6 0])⟩, ⟨0, T_int, .lst a⟩, ⟨0, T_int, .lst b⟩, ⟨0, 0, .mp e ck⟩, ⟨0, T_int, .lst c⟩, ⟨0, T_api_ProofMiss, .lst d⟩]
noncomputable abbrev runAtt (go : GoB) (pre : List ABlk) (v : AV) := evTab Tryz.prog tab (dm0, go) 100 f_proof_attempt pre [v]
def lineB1 (k : D) : ABlk := ⟨0, T_int, .box [.d k]⟩
abbrev preL (x y z : D) (a b c d : List D) (e : List MEnt) (ck : Nat) (k : D) : List ABlk := pgBs T_p_proof_page [.d x, .d y, .d z] a b c d e ck ++ [lineB1 k]
abbrev cloL : AV := .fn f_p_proof_page_passing_1 [] [.ptr 0 0 0 0, .ptr 7 0 0 0]
def same8 : List PB := [.same, .same, .same, .same, .same, .same, .same, .same]
theorem att_goL (go : GoB) (x y z : D) (a b c d : List D) (e : List MEnt) (ck : Nat) (k : D) : runAtt go (preL x y z a b c d e ck k) cloL = runAtt (fun _ _ _ => go (.fnc f_p_proof_page_passing_1) (preL x y z a b c d e ck k) [.ptr 0 0 0 0, .ptr 7 0 0 0]) (preL x y z a b c d e ck k) cloL := by kernel_rfl
theorem att_retL (x y z : D) (a b c d : List D) (e : List MEnt) (ck : Nat) (k : D) : runAtt (fun _ _ _ => some (.ret (.tup []), same8)) (preL x y z a b c d e ck k) cloL = some (.ret (.d (int 0)), (preL x y z a b c d e ck k).map .upd) := by kernel_rfl
theorem att_panL (x y z : D) (a b c d : List D) (e : List MEnt) (ck : Nat) (k : D) (n : Int) : runAtt (fun _ _ _ => some (.pan (.d (.iface T_proof_short (.agg [int n]))), same8)) (preL x y z a b c d e ck k) cloL = some (.ret (.d (int 7)), (preL x y z a b c d e ck k).map .upd) := by kernel_rfl
abbrev preP (x y z : D) (a b c d : List D) (e : List MEnt) (ck : Nat) : List ABlk := pgBs T_p_proof_page [.d x, .d y, .d z] a b c d e ck
abbrev cloP : AV := .fn f_p_proof_page_passes_1 [] [.ptr 0 0 0 0]
def same7 : List PB := [.same, .same, .same, .same, .same, .same, .same]
theorem att_goP (go : GoB) (x y z : D) (a b c d : List D) (e : List MEnt) (ck : Nat) : runAtt go (preP x y z a b c d e ck) cloP = runAtt (fun _ _ _ => go (.fnc f_p_proof_page_passes_1) (preP x y z a b c d e ck) [.ptr 0 0 0 0]) (preP x y z a b c d e ck) cloP := by kernel_rfl
theorem att_retP (x y z : D) (a b c d : List D) (e : List MEnt) (ck : Nat) : runAtt (fun _ _ _ => some (.ret (.tup []), same7)) (preP x y z a b c d e ck) cloP = some (.ret (.d (int 0)), (preP x y z a b c d e ck).map .upd) := by kernel_rfl
theorem att_panP (x y z : D) (a b c d : List D) (e : List MEnt) (ck : Nat) (n : Int) : runAtt (fun _ _ _ => some (.pan (.d (.iface T_proof_short (.agg [int n]))), same7)) (preP x y z a b c d e ck) cloP = some (.ret (.d (int 7)), (preP x y z a b c d e ck).map .upd) := by kernel_rfl
theorem attL_meets {x y z : D} {a b c d : List D} {e : List MEnt} {ck : Nat} {k : D} {out o2 : Out} (h : MeetsH (Tz g) f_p_proof_page_passing_1 (preL x y z a b c d e ck k) [.ptr 0 0 0 0, .ptr 7 0 0 0] out same8)
    (h2 : runAtt (fun _ _ _ => some (out, same8)) (preL x y z a b c d e ck k) cloL = some (o2, (preL x y z a b c d e ck k).map .upd)) : MeetsH (Tz g) f_proof_attempt (preL x y z a b c d e ck k) [cloL] o2 ((preL x y z a b c d e ck k).map .upd) := by
  refine evTab_ok (C := Tz g) rfl tab_ok (onB_ok h) 100 ?_
  have h1 := att_goL (onB f_p_proof_page_passing_1 (preL x y z a b c d e ck k) [.ptr 0 0 0 0, .ptr 7 0 0 0] out same8) x y z a b c d e ck k
  rw [onB_at] at h1
  exact h1.trans h2
theorem attP_meets {x y z : D} {a b c d : List D} {e : List MEnt} {ck : Nat} {out o2 : Out} (h : MeetsH (Tz g) f_p_proof_page_passes_1 (preP x y z a b c d e ck) [.ptr 0 0 0 0] out same7)
    (h2 : runAtt (fun _ _ _ => some (out, same7)) (preP x y z a b c d e ck) cloP = some (o2, (preP x y z a b c d e ck).map .upd)) : MeetsH (Tz g) f_proof_attempt (preP x y z a b c d e ck) [cloP] o2 ((preP x y z a b c d e ck).map .upd) := by
  refine evTab_ok (C := Tz g) rfl tab_ok (onB_ok h) 100 ?_
  have h1 := att_goP (onB f_p_proof_page_passes_1 (preP x y z a b c d e ck) [.ptr 0 0 0 0] out same7) x y z a b c d e ck
  rw [onB_at] at h1
  exact h1.trans h2
end Go.Vc

namespace Go.Vc
open Go Go.Proofs
variable {g : GG}
attribute [local simp] and_assoc
def rdN (p : Pg) (s : Ps) (line : Nat) : Nat := (readersL s line p.people.toNat).length
theorem mustPass_ret (p : Pg) (s : Ps) (line : Nat) (hok : p.ok = true) (hs : PsOK p s) (hl : line < p.lines.length) (h2 : 2 ≤ rdN p s line) : MeetsH (Tz g) f_p_proof_page_mustPass (stBlks 0 (fun _ => 0) p s) [.ptr 0 0 0 0, .d (int line)] (.ret (.tup [])) sames := by
  obtain ⟨a1, a2, a3, a4, a5, _⟩ := Pg.ok_len hok
  obtain ⟨m, hm⟩ : ∃ m : Nat, p.people = m := ⟨p.people.toNat, by omega⟩
  have hpn : p.people.toNat = m := by omega
  have hrl := readersL_len s line m
  unfold rdN at h2
  rw [hpn] at h2
  refine meetsH_p_proof_page_mustPass rfl ?_
  unfold vc_p_proof_page_mustPass
  refine CALL.gen [0, 1, 2, 3, 4, 5] [false, false] [.ptr 0 0 0 0, .d (int line)] (stBlks 0 (fun _ => 0) p s) _ _ (readers_meets 0 (fun _ => 0) p s line m hs hl hm (by omega)) rfl (by simp [argsM, AV.ren, rho]) ?_ ?_ ?_ ?_ ?_
  · simp [preB, stBlks, stBox, rho, bodyOf, lookH, Body.ren, AV.ren, AV.ren.renL, numbered]
  · simp [ids.idsL, ids, preIds, stBlks, stBox, Body.ids, lowL]
  · simp [lentL, disjB]
  · simp [stBlks, sames]
  · simp [AV.ren, sames, upsP, rho, ABlk.ren, Body.ren, lentL, kills, lookH, numbered, stBlks, stBox]
    refine ⟨by omega, fun _ => ⟨[], ?_⟩⟩
    simp [yv, yv.yvL, yh, fz, fz.fzL, fzH, stay, src, lookH, NodupB, disjB]
theorem mustPass_pan (p : Pg) (s : Ps) (line : Nat) (hok : p.ok = true) (hs : PsOK p s) (hl : line < p.lines.length) (h2 : rdN p s line < 2) : MeetsH (Tz g) f_p_proof_page_mustPass (stBlks 0 (fun _ => 0) p s) [.ptr 0 0 0 0, .d (int line)] (.pan (.d (.iface T_proof_short (.agg [int line])))) sames := by
  obtain ⟨a1, a2, a3, a4, a5, _⟩ := Pg.ok_len hok
  obtain ⟨m, hm⟩ : ∃ m : Nat, p.people = m := ⟨p.people.toNat, by omega⟩
  have hpn : p.people.toNat = m := by omega
  have hrl := readersL_len s line m
  unfold rdN at h2
  rw [hpn] at h2
  refine meetsHp_p_proof_page_mustPass rfl ?_
  unfold vcp_p_proof_page_mustPass
  refine CALL.gen [0, 1, 2, 3, 4, 5] [false, false] [.ptr 0 0 0 0, .d (int line)] (stBlks 0 (fun _ => 0) p s) _ _ (readers_meets 0 (fun _ => 0) p s line m hs hl hm (by omega)) rfl (by simp [argsM, AV.ren, rho]) ?_ ?_ ?_ ?_ ?_
  · simp [preB, stBlks, stBox, rho, bodyOf, lookH, Body.ren, AV.ren, AV.ren.renL, numbered]
  · simp [ids.idsL, ids, preIds, stBlks, stBox, Body.ids, lowL]
  · simp [lentL, disjB]
  · simp [stBlks, sames]
  · simp [AV.ren, sames, upsP, rho, ABlk.ren, Body.ren, lentL, kills, lookH, numbered, stBlks, stBox]
    refine ⟨fun _ => ⟨[], ?_⟩, by omega⟩
    simp [yv, yh, fz, fzH, stay, src, lookH, NodupB, disjB, argD, toD]
abbrev preS (p : Pg) (s : Ps) (line : Nat) : List ABlk := preL (int p.people) (lns p.lines) (ents p.log) (s.now.map int) (s.setters.map int) (s.changed.map int) (s.missed.map missD) (keysM s.keys) s.ck (int line)
abbrev preT (p : Pg) (s : Ps) : List ABlk := preP (int p.people) (lns p.lines) (ents p.log) (s.now.map int) (s.setters.map int) (s.changed.map int) (s.missed.map missD) (keysM s.keys) s.ck
theorem passing_1_ret (p : Pg) (s : Ps) (line : Nat) (hok : p.ok = true) (hs : PsOK p s) (hl : line < p.lines.length) (h2 : 2 ≤ rdN p s line) : MeetsH (Tz g) f_p_proof_page_passing_1 (preS p s line) [.ptr 0 0 0 0, .ptr 7 0 0 0] (.ret (.tup [])) same8 := by
  refine meetsH_p_proof_page_passing_1 rfl ?_
  unfold vc_p_proof_page_passing_1
  simp [preS, preL, pgBs, lineB1, numbered, lookH]
  refine CALL.gen [1, 2, 3, 4, 5, 6] [false, false] [.ptr 0 0 0 0, .d (int line)] (stBlks 0 (fun _ => 0) p s) _ _ (mustPass_ret p s line hok hs hl h2) rfl (by simp [argsM, AV.ren, rho]) ?_ ?_ ?_ ?_ ?_
  · simp [preB, stBlks, stBox, rho, bodyOf, lookH, Body.ren, AV.ren, AV.ren.renL]
  · simp [ids.idsL, ids, preIds, stBlks, stBox, Body.ids, lowL]
  · simp [lentL, disjB]
  · simp [stBlks, sames]
  · simp [sames, upsP, lentL, kills]
    refine ⟨[], ?_⟩
    simp [same8, yv, yv.yvL, yh, fz, fz.fzL, fzH, stay, src, lookH, NodupB, disjB]
theorem passing_1_pan (p : Pg) (s : Ps) (line : Nat) (hok : p.ok = true) (hs : PsOK p s) (hl : line < p.lines.length) (h2 : rdN p s line < 2) : MeetsH (Tz g) f_p_proof_page_passing_1 (preS p s line) [.ptr 0 0 0 0, .ptr 7 0 0 0] (.pan (.d (.iface T_proof_short (.agg [int line])))) same8 := by
  refine meetsHp_p_proof_page_passing_1 rfl ?_
  unfold vcp_p_proof_page_passing_1
  simp [preS, preL, pgBs, lineB1, numbered, lookH]
  refine CALL.genp [1, 2, 3, 4, 5, 6] [false, false] [.ptr 0 0 0 0, .d (int line)] (stBlks 0 (fun _ => 0) p s) _ _ (mustPass_pan p s line hok hs hl h2) rfl (by simp [argsM, AV.ren, rho]) ?_ ?_ ?_ ?_ ?_
  · simp [preB, stBlks, stBox, rho, bodyOf, lookH, Body.ren, AV.ren, AV.ren.renL]
  · simp [ids.idsL, ids, preIds, stBlks, stBox, Body.ids, lowL]
  · simp [lentL, disjB]
  · simp [stBlks, sames]
  · simp [AV.ren, sames, upsP, lentL, kills]
    refine ⟨[], ?_⟩
    simp [same8, yv, yh, fz, fzH, stay, src, lookH, NodupB, disjB, argD, toD]
end Go.Vc
