/- A part of the proof: general laws of a reading of the model by abstract data, or contracts of the functions that the law calls. -/
import Derived.Test.YtjdgidaoknlnlaaGreatDoorVc23
import Derived.Test.YtjdgidaoknlnlaaGreatDoorVc11
set_option maxRecDepth 100000
namespace Go.Vc
open Go Go.Proofs Go.RowKit
def ann_proof_Now : Nat → List Nat := fun n => match n with  | _ => []
def vc_proof_Now_k0 (P : Ctx) (pre : List ABlk) (r : AV) (post : List PB) (v0 : AV) (h2 : Heap) (v3 : AV) : Prop :=
  NOT v0 fun v1 =>
  COND v1
  (POST (.tup [.zc, (.d (.num .i64 2))]) h2 pre r post)
  (LOAD true 3 v3 h2 fun v4 =>
  CALL P f_proof_pageOf [v4] 80 h2 (fun _ v6 h7 =>
  FADDR 0 v6 h7 fun v8 =>
  FADDR 3 v8 h7 fun v9 =>
  LOAD false 1 v9 h7 fun v10 =>
  POST (.tup [v10, (.d (.num .i64 0))]) h7 pre r post)
  (fun _ _ _ => False))
def vc_proof_Now (P : Ctx) (pre : List ABlk) (a0 : AV) (r : AV) (post : List PB) : Prop :=
  let h0 : Heap := numbered 0 pre
  BOX T_api_ProofPage a0 24 h0 fun v1 h1 =>
  LOAD true 3 v1 h1 fun v4 =>
  CALL P f_proof_isPage [v4] 56 h1 (fun _ v5 h2 =>
  vc_proof_Now_k0 P pre r post v5 h2 v1)
  (fun _ _ _ => False)
theorem vc_proof_Now_eq (g : GG) (pre : List ABlk) (a0 : AV) (r : AV) (post : List PB) : vcFn2 (Tz g) false ann_proof_Now Tryz.f28 pre [a0] (.ret r) post = vc_proof_Now (Tz g) pre a0 r post := by kernel_rfl
theorem hf_proof_Now : Tryz.prog.funcs[f_proof_Now]? = some Tryz.f28 := by kernel_rfl
theorem ok_proof_Now : fnVcOK Tryz.prog Tryz.f28 = true := by kernel_rfl
theorem nt_proof_Now : Nat.ble 1 Tryz.f28.ntmps = true := by kernel_rfl
theorem meetsH_proof_Now {g : GG} {pre : List ABlk} {a0 : AV} {r : AV} {post : List PB} (hk : Nat.ble pre.length 24 = true) (h : vc_proof_Now (Tz g) pre a0 r post) : MeetsH (Tz g) f_proof_Now pre [a0] (.ret r) post :=
  meetsH_of_vc (C := Tz g) ann_proof_Now hf_proof_Now ok_proof_Now nt_proof_Now hk (pn := false) (Eq.mpr ((vcFn2_eq _ _ _ _ _ _ _ _).trans (vc_proof_Now_eq g pre a0 r post)) h)
theorem meets_proof_Now {g : GG} {a0 : D} {r : Res} (h : vc_proof_Now (Tz g) [] (.d a0) r.val (r.bl.map .upd)) : Meets (Tz g) f_proof_Now [a0] r := meetsH_proof_Now rfl h
def ann_proof_Setters : Nat → List Nat := fun n => match n with  | _ => []
def vc_proof_Setters_k0 (P : Ctx) (pre : List ABlk) (r : AV) (post : List PB) (v0 : AV) (h2 : Heap) (v3 : AV) : Prop :=
  NOT v0 fun v1 =>
  COND v1
  (POST (.tup [.zc, (.d (.num .i64 2))]) h2 pre r post)
  (LOAD true 3 v3 h2 fun v4 =>
  CALL P f_proof_pageOf [v4] 80 h2 (fun _ v6 h7 =>
  FADDR 0 v6 h7 fun v8 =>
  FADDR 4 v8 h7 fun v9 =>
  LOAD false 1 v9 h7 fun v10 =>
  POST (.tup [v10, (.d (.num .i64 0))]) h7 pre r post)
  (fun _ _ _ => False))
def vc_proof_Setters (P : Ctx) (pre : List ABlk) (a0 : AV) (r : AV) (post : List PB) : Prop :=
  let h0 : Heap := numbered 0 pre
  BOX T_api_ProofPage a0 24 h0 fun v1 h1 =>
  LOAD true 3 v1 h1 fun v4 =>
  CALL P f_proof_isPage [v4] 56 h1 (fun _ v5 h2 =>
  vc_proof_Setters_k0 P pre r post v5 h2 v1)
  (fun _ _ _ => False)
theorem vc_proof_Setters_eq (g : GG) (pre : List ABlk) (a0 : AV) (r : AV) (post : List PB) : vcFn2 (Tz g) false ann_proof_Setters Tryz.f36 pre [a0] (.ret r) post = vc_proof_Setters (Tz g) pre a0 r post := by kernel_rfl
theorem hf_proof_Setters : Tryz.prog.funcs[f_proof_Setters]? = some Tryz.f36 := by kernel_rfl
theorem ok_proof_Setters : fnVcOK Tryz.prog Tryz.f36 = true := by kernel_rfl
theorem nt_proof_Setters : Nat.ble 1 Tryz.f36.ntmps = true := by kernel_rfl
theorem meetsH_proof_Setters {g : GG} {pre : List ABlk} {a0 : AV} {r : AV} {post : List PB} (hk : Nat.ble pre.length 24 = true) (h : vc_proof_Setters (Tz g) pre a0 r post) : MeetsH (Tz g) f_proof_Setters pre [a0] (.ret r) post :=
  meetsH_of_vc (C := Tz g) ann_proof_Setters hf_proof_Setters ok_proof_Setters nt_proof_Setters hk (pn := false) (Eq.mpr ((vcFn2_eq _ _ _ _ _ _ _ _).trans (vc_proof_Setters_eq g pre a0 r post)) h)
theorem meets_proof_Setters {g : GG} {a0 : D} {r : Res} (h : vc_proof_Setters (Tz g) [] (.d a0) r.val (r.bl.map .upd)) : Meets (Tz g) f_proof_Setters [a0] r := meetsH_proof_Setters rfl h
def ann_proof_Readers : Nat → List Nat := fun n => match n with  | _ => []
def vc_proof_Readers_k0 (P : Ctx) (pre : List ABlk) (r : AV) (post : List PB) (v0 : AV) (h2 : Heap) (v3 : AV) (a8 : AV) : Prop :=
  NOT v0 fun v1 =>
  COND v1
  (POST (.tup [.zc, (.d (.num .i64 2))]) h2 pre r post)
  (LOAD true 3 v3 h2 fun v4 =>
  CALL P f_proof_pageOf [v4] 128 h2 (fun _ v6 h7 =>
  CALL P f_p_proof_page_readers [v6, a8] 144 h7 (fun _ v10 h11 =>
  POST (.tup [v10, (.d (.num .i64 0))]) h11 pre r post)
  (fun _ _ _ => False))
  (fun _ _ _ => False))
def vc_proof_Readers (P : Ctx) (pre : List ABlk) (a0 a1 : AV) (r : AV) (post : List PB) : Prop :=
  let h0 : Heap := numbered 0 pre
  BOX T_api_ProofPage a0 24 h0 fun v2 h1 =>
  LOAD true 3 v2 h1 fun v6 =>
  CALL P f_proof_isPage [v6] 56 h1 (fun _ v7 h2 =>
  NOT v7 fun v8 =>
  CONDG v8
  (POST (.tup [.zc, (.d (.num .i64 2))]) h2 pre r post)
  (LOAD true 3 v2 h2 fun v10 =>
  CALL P f_proof_hasLine [v10, a1] 96 h2 (fun _ v12 h4 =>
  vc_proof_Readers_k0 P pre r post v12 h4 v2 a1)
  (fun _ _ _ => False)))
  (fun _ _ _ => False)
theorem vc_proof_Readers_eq (g : GG) (pre : List ABlk) (a0 a1 : AV) (r : AV) (post : List PB) : vcFn2 (Tz g) false ann_proof_Readers Tryz.f37 pre [a0, a1] (.ret r) post = vc_proof_Readers (Tz g) pre a0 a1 r post := by kernel_rfl
theorem hf_proof_Readers : Tryz.prog.funcs[f_proof_Readers]? = some Tryz.f37 := by kernel_rfl
theorem ok_proof_Readers : fnVcOK Tryz.prog Tryz.f37 = true := by kernel_rfl
theorem nt_proof_Readers : Nat.ble 2 Tryz.f37.ntmps = true := by kernel_rfl
theorem meetsH_proof_Readers {g : GG} {pre : List ABlk} {a0 a1 : AV} {r : AV} {post : List PB} (hk : Nat.ble pre.length 24 = true) (h : vc_proof_Readers (Tz g) pre a0 a1 r post) : MeetsH (Tz g) f_proof_Readers pre [a0, a1] (.ret r) post :=
  meetsH_of_vc (C := Tz g) ann_proof_Readers hf_proof_Readers ok_proof_Readers nt_proof_Readers hk (pn := false) (Eq.mpr ((vcFn2_eq _ _ _ _ _ _ _ _).trans (vc_proof_Readers_eq g pre a0 a1 r post)) h)
theorem meets_proof_Readers {g : GG} {a0 a1 : D} {r : Res} (h : vc_proof_Readers (Tz g) [] (.d a0) (.d a1) r.val (r.bl.map .upd)) : Meets (Tz g) f_proof_Readers [a0, a1] r := meetsH_proof_Readers rfl h
def ann_proof_Useless : Nat → List Nat := fun n => match n with | 6 => [4, 5, 15, 16, 17] | 10 => [4, 5, 6, 7, 8, 15, 16, 17] | _ => []
def vc_proof_Useless_k0 (P : Ctx) (pre : List ABlk) (r : AV) (post : List PB) (vs0 : List AV) (h1 : Heap) (next14 : List AV → Heap → Prop) (next16 : List AV → Heap → Prop) : Prop :=
  FADDR 1 (nth vs0 3) h1 fun v2 =>
  LOAD false 1 v2 h1 fun v3 =>
  IADDR 1 T_int v3 (.d (.num .i64 3)) h1 fun v4 =>
  LOAD false 1 v4 h1 fun v5 =>
  BIN 0 .leq (nth vs0 4) v5 fun v6 =>
  COND v6
  (FADDR 0 (nth vs0 0) h1 fun v7 =>
  FADDR 6 v7 h1 fun v8 =>
  LOAD false 1 v8 h1 fun v9 =>
  IADDR 1 T_int v9 (nth vs0 4) h1 fun v10 =>
  LOAD false 1 v10 h1 fun v11 =>
  BIN 0 .lss v11 (nth vs0 2) fun v12 =>
  COND v12
  (BIN 0 .add (nth vs0 7) (.d (.num .i64 1)) fun v13 =>
  next14 [(nth vs0 0), (nth vs0 1), (nth vs0 5), (nth vs0 6), v13] h1)
  (BIN 0 .add (nth vs0 4) (.d (.num .i64 1)) fun v15 =>
  next16 [(nth vs0 0), (nth vs0 1), (nth vs0 2), (nth vs0 3), v15, (nth vs0 5), (nth vs0 6), (nth vs0 7)] h1))
  (MKS T_int 1 [(nth vs0 2)] 336 h1 fun v17 h18 =>
  APP T_int 1 (nth vs0 1) v17 344 h18 fun v19 h20 =>
  BIN 0 .add (nth vs0 7) (.d (.num .i64 1)) fun v13 =>
  next14 [(nth vs0 0), v19, (nth vs0 5), (nth vs0 6), v13] h20)
def vc_proof_Useless_k1 (P : Ctx) (pre : List ABlk) (r : AV) (post : List PB) (vs0 : List AV) (h2 : Heap) (next12 : List AV → Heap → Prop) : Prop :=
  BIN 0 .lss (nth vs0 4) (nth vs0 3) fun v1 =>
  COND v1
  (IADDR 2 T_api_ProofEntry (nth vs0 2) (nth vs0 4) h2 fun v3 =>
  LOAD true 2 v3 h2 fun v4 =>
  ALLOC T_api_ProofEntry [.d (.num .i64 0), .zc] 176 h2 fun v5 h6 =>
  STORE 2 v5 v4 h6 fun h7 =>
  FADDR 0 v5 h7 fun v8 =>
  LOAD false 1 v8 h7 fun v9 =>
  BIN 0 .neq v9 (.d (.num .i64 1)) fun v10 =>
  COND v10
  (BIN 0 .add (nth vs0 4) (.d (.num .i64 1)) fun v11 =>
  next12 [(nth vs0 0), (nth vs0 1), (nth vs0 2), (nth vs0 3), v11] h7)
  (FADDR 1 v5 h7 fun v13 =>
  LOAD false 1 v13 h7 fun v14 =>
  IADDR 1 T_int v14 (.d (.num .i64 2)) h7 fun v15 =>
  LOAD false 1 v15 h7 fun v16 =>
  LOOP [(nth vs0 0), (nth vs0 1), (nth vs0 4), v5, v16, (nth vs0 2), (nth vs0 3), (nth vs0 4)] h7 264 fun vs17 h18 next19 =>
  vc_proof_Useless_k0 P pre r post vs17 h18 next12 next19))
  (POST (.tup [(nth vs0 1), (.d (.num .i64 0))]) h2 pre r post)
def vc_proof_Useless_k2 (P : Ctx) (pre : List ABlk) (r : AV) (post : List PB) (v0 : AV) (h2 : Heap) (v3 : AV) : Prop :=
  NOT v0 fun v1 =>
  COND v1
  (POST (.tup [.zc, (.d (.num .i64 2))]) h2 pre r post)
  (LOAD true 3 v3 h2 fun v4 =>
  CALL P f_proof_pageOf [v4] 80 h2 (fun _ v6 h7 =>
  FADDR 2 v3 h7 fun v8 =>
  LOAD false 1 v8 h7 fun v9 =>
  LEN false v9 h7 fun v10 =>
  LOOP [v6, .zc, v9, v10, (.d (.num .i64 0))] h7 136 fun vs11 h12 next13 =>
  vc_proof_Useless_k1 P pre r post vs11 h12 next13)
  (fun _ _ _ => False))
def vc_proof_Useless (P : Ctx) (pre : List ABlk) (a0 : AV) (r : AV) (post : List PB) : Prop :=
  let h0 : Heap := numbered 0 pre
  BOX T_api_ProofPage a0 24 h0 fun v1 h1 =>
  LOAD true 3 v1 h1 fun v9 =>
  CALL P f_proof_isPage [v9] 56 h1 (fun _ v10 h2 =>
  vc_proof_Useless_k2 P pre r post v10 h2 v1)
  (fun _ _ _ => False)
theorem vc_proof_Useless_eq (g : GG) (pre : List ABlk) (a0 : AV) (r : AV) (post : List PB) : vcFn2 (Tz g) false ann_proof_Useless Tryz.f34 pre [a0] (.ret r) post = vc_proof_Useless (Tz g) pre a0 r post := by kernel_rfl
theorem hf_proof_Useless : Tryz.prog.funcs[f_proof_Useless]? = some Tryz.f34 := by kernel_rfl
theorem ok_proof_Useless : fnVcOK Tryz.prog Tryz.f34 = true := by kernel_rfl
theorem nt_proof_Useless : Nat.ble 1 Tryz.f34.ntmps = true := by kernel_rfl
theorem meetsH_proof_Useless {g : GG} {pre : List ABlk} {a0 : AV} {r : AV} {post : List PB} (hk : Nat.ble pre.length 24 = true) (h : vc_proof_Useless (Tz g) pre a0 r post) : MeetsH (Tz g) f_proof_Useless pre [a0] (.ret r) post :=
  meetsH_of_vc (C := Tz g) ann_proof_Useless hf_proof_Useless ok_proof_Useless nt_proof_Useless hk (pn := false) (Eq.mpr ((vcFn2_eq _ _ _ _ _ _ _ _).trans (vc_proof_Useless_eq g pre a0 r post)) h)
theorem meets_proof_Useless {g : GG} {a0 : D} {r : Res} (h : vc_proof_Useless (Tz g) [] (.d a0) r.val (r.bl.map .upd)) : Meets (Tz g) f_proof_Useless [a0] r := meetsH_proof_Useless rfl h
end Go.Vc
