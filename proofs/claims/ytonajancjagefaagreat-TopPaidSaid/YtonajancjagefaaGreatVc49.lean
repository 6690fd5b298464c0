/- A part of the proof: general laws of a reading of the model by abstract data, or contracts of the functions that the law calls. -/
import Derived.Test.YtonajancjagefaaGreatVc29
import Derived.Test.YtonajancjagefaaGreatVc15
import Derived.Test.YtonajancjagefaaGreatVc27
import Derived.Test.YtonajancjagefaaGreatVc48
set_option maxRecDepth 100000
namespace Go.Vc
open Go Go.Proofs Go.RowKit
def ann_pay_truths : Nat → List Nat := fun n => match n with  | _ => []
def vc_pay_truths (_P : Ctx) (pre : List ABlk) (a0 : AV) (r : AV) (post : List PB) : Prop :=
  let h0 : Heap := numbered 0 pre
  BOX T_api_PayBook a0 24 h0 fun v1 h1 =>
  POST (.fn f_pay_truths_1 [] [v1]) h1 pre r post
theorem vc_pay_truths_eq (g : GG) (pre : List ABlk) (a0 : AV) (r : AV) (post : List PB) : vcFn2 (Tz g) false ann_pay_truths Tryz.f66 pre [a0] (.ret r) post = vc_pay_truths (Tz g) pre a0 r post := by kernel_rfl
theorem hf_pay_truths : Tryz.prog.funcs[f_pay_truths]? = some Tryz.f66 := by kernel_rfl
theorem ok_pay_truths : fnVcOK Tryz.prog Tryz.f66 = true := by kernel_rfl
theorem nt_pay_truths : Nat.ble 1 Tryz.f66.ntmps = true := by kernel_rfl
theorem meetsH_pay_truths {g : GG} {pre : List ABlk} {a0 : AV} {r : AV} {post : List PB} (hk : Nat.ble pre.length 24 = true) (h : vc_pay_truths (Tz g) pre a0 r post) : MeetsH (Tz g) f_pay_truths pre [a0] (.ret r) post :=
  meetsH_of_vc (C := Tz g) ann_pay_truths hf_pay_truths ok_pay_truths nt_pay_truths hk (pn := false) (Eq.mpr ((vcFn2_eq _ _ _ _ _ _ _ _).trans (vc_pay_truths_eq g pre a0 r post)) h)
theorem meets_pay_truths {g : GG} {a0 : D} {r : Res} (h : vc_pay_truths (Tz g) [] (.d a0) r.val (r.bl.map .upd)) : Meets (Tz g) f_pay_truths [a0] r := meetsH_pay_truths rfl h
def ann_pay_truths_1 : Nat → List Nat := fun n => match n with  | _ => []
def vc_pay_truths_1 (P : Ctx) (pre : List ABlk) (a0 a1 : AV) (r : AV) (post : List PB) : Prop :=
  let h0 : Heap := numbered 0 pre
  BOX T_func_pay_account_bool a0 24 h0 fun v2 h1 =>
  ALLOC T_func_l_int_bool [.d .nilf] 32 h1 fun v3 h2 =>
  STORE 1 v3 (.fn f_pay_truths_1_1 [] [a1, v2, v3]) h2 fun h3 =>
  LOAD false 1 v3 h3 fun v5 =>
  CALLV P v5 [.zc] 64 h3 (fun _ _ h4 =>
  POST (.tup []) h4 pre r post)
  (fun _ _ _ => False)
theorem vc_pay_truths_1_eq (g : GG) (pre : List ABlk) (a0 a1 : AV) (r : AV) (post : List PB) : vcFn2 (Tz g) false ann_pay_truths_1 Tryz.f101 pre [a0, a1] (.ret r) post = vc_pay_truths_1 (Tz g) pre a0 a1 r post := by kernel_rfl
theorem hf_pay_truths_1 : Tryz.prog.funcs[f_pay_truths_1]? = some Tryz.f101 := by kernel_rfl
theorem ok_pay_truths_1 : fnVcOK Tryz.prog Tryz.f101 = true := by kernel_rfl
theorem nt_pay_truths_1 : Nat.ble 2 Tryz.f101.ntmps = true := by kernel_rfl
theorem meetsH_pay_truths_1 {g : GG} {pre : List ABlk} {a0 a1 : AV} {r : AV} {post : List PB} (hk : Nat.ble pre.length 24 = true) (h : vc_pay_truths_1 (Tz g) pre a0 a1 r post) : MeetsH (Tz g) f_pay_truths_1 pre [a0, a1] (.ret r) post :=
  meetsH_of_vc (C := Tz g) ann_pay_truths_1 hf_pay_truths_1 ok_pay_truths_1 nt_pay_truths_1 hk (pn := false) (Eq.mpr ((vcFn2_eq _ _ _ _ _ _ _ _).trans (vc_pay_truths_1_eq g pre a0 a1 r post)) h)
def ann_pay_truths_1_1 : Nat → List Nat := fun n => match n with | 5 => [0, 3, 6, 7] | _ => []
def vc_pay_truths_1_1_k0 (_P : Ctx) (pre : List ABlk) (r : AV) (post : List PB) (v0 : AV) (h2 : Heap) (vs3 : List AV) (h4 : Heap) (h5 : Heap) (h6 : Heap) (v7 : AV) (v8 : AV) (h9 : Heap) (rd10 : List Nat) (next12 : List AV → Heap → Prop) : Prop :=
  NOT v0 fun v1 =>
  ORDX [] [0, 0, 0, 4, 0, 16, 62, 0, 128, 510, 1023, 2047] [(0, wr h2 h2, (ids (nth vs3 1))), (3, wr h2 h2, (ids (nth vs3 0))), (5, wr h2 h2, (ids (nth vs3 0))), (6, wr h2 h4, (ids (nth vs3 0))), (8, wr h4 h5, (ids.idsL [(nth vs3 3)])), (9, wr h5 h6, (ids.idsL [v7, v8])), (10, wr h6 h9, rd10)] ∧
  COND v1
  (POST (.d (.bool false)) h9 pre r post)
  (BIN 0 .add (nth vs3 3) (.d (.num .i64 1)) fun v11 =>
  next12 [(nth vs3 0), (nth vs3 1), (nth vs3 2), v11] h9)
def vc_pay_truths_1_1_k1 (P : Ctx) (pre : List ABlk) (r : AV) (post : List PB) (vs0 : List AV) (h1 : Heap) (next17 : List AV → Heap → Prop) : Prop :=
  FADDR 1 (nth vs0 2) h1 fun v2 =>
  LOAD false 1 v2 h1 fun v3 =>
  BIN 0 .leq (nth vs0 3) v3 fun v4 =>
  COND v4
  (LOAD false 1 (nth vs0 1) h1 fun v5 =>
  LEN false (nth vs0 0) h1 fun v6 =>
  LEN false (nth vs0 0) h1 fun v7 =>
  SLICEH 2 (nth vs0 0) none (some v6) (some v7) h1 fun v8 h9 =>
  MKS T_int 1 [(nth vs0 3)] 280 h9 fun v10 h11 =>
  APP T_int 1 v8 v10 288 h11 fun v12 h13 =>
  CALLV P v5 [v12] 296 h13 (fun rd14 v15 h16 =>
  vc_pay_truths_1_1_k0 P pre r post v15 h1 vs0 h9 h11 h13 v8 v10 h16 rd14 next17)
  (fun _ _ _ => False))
  (POST (.d (.bool true)) h1 pre r post)
def vc_pay_truths_1_1_k2 (P : Ctx) (pre : List ABlk) (r : AV) (post : List PB) (a0 : AV) (h1 : Heap) (a3 : AV) (a5 : AV) : Prop :=
  LOAD false 1 a0 h1 fun v2 =>
  LOAD true 7 a3 h1 fun v4 =>
  BUILD [(0, 7), (7, 1)] [.d (.num .i64 0), .d (.num .i64 0), .d (.num .i64 0), .d (.num .i64 0), .d (.num .i64 0), .d (.num .i64 0), .zc, .zc] [(0, v4), (1, a5)] fun v6 =>
  CALLV P v2 [v6] 112 h1 (fun _ v8 h9 =>
  POST v8 h9 pre r post)
  (fun _ _ _ => False)
def vc_pay_truths_1_1_k3 (P : Ctx) (pre : List ABlk) (r : AV) (post : List PB) (a0 : AV) (h1 : Heap) (a4 : AV) (a14 : AV) : Prop :=
  FADDR 6 a0 h1 fun v2 =>
  LOAD false 1 v2 h1 fun v3 =>
  LEN false a4 h1 fun v5 =>
  IADDR 10 T_api_PayLine v3 v5 h1 fun v6 =>
  FADDR 2 v6 h1 fun v7 =>
  LOAD true 2 v7 h1 fun v8 =>
  ALLOC T_api_Span [.d (.num .i64 0), .d (.num .i64 0)] 136 h1 fun v9 h10 =>
  STORE 2 v9 v8 h10 fun h11 =>
  FADDR 0 v9 h11 fun v12 =>
  LOAD false 1 v12 h11 fun v13 =>
  LOOP [a4, a14, v9, v13] h11 176 fun vs15 h16 next17 =>
  vc_pay_truths_1_1_k1 P pre r post vs15 h16 next17
def vc_pay_truths_1_1 (P : Ctx) (pre : List ABlk) (a0 a1 a2 a3 : AV) (r : AV) (post : List PB) : Prop :=
  let h0 : Heap := numbered 0 pre
  LEN false a0 h0 fun v9 =>
  FADDR 6 a1 h0 fun v10 =>
  LOAD false 1 v10 h0 fun v11 =>
  LEN false v11 h0 fun v12 =>
  BIN 0 .eql v9 v12 fun v13 =>
  COND v13
  (vc_pay_truths_1_1_k2 P pre r post a2 h0 a1 a0)
  (vc_pay_truths_1_1_k3 P pre r post a1 h0 a0 a3)
theorem vc_pay_truths_1_1_eq (g : GG) (pre : List ABlk) (a0 a1 a2 a3 : AV) (r : AV) (post : List PB) : vcFn2 (Tz g) false ann_pay_truths_1_1 Tryz.f102 pre [a0, a1, a2, a3] (.ret r) post = vc_pay_truths_1_1 (Tz g) pre a0 a1 a2 a3 r post := by kernel_rfl
theorem hf_pay_truths_1_1 : Tryz.prog.funcs[f_pay_truths_1_1]? = some Tryz.f102 := by kernel_rfl
theorem ok_pay_truths_1_1 : fnVcOK Tryz.prog Tryz.f102 = true := by kernel_rfl
theorem nt_pay_truths_1_1 : Nat.ble 4 Tryz.f102.ntmps = true := by kernel_rfl
theorem meetsH_pay_truths_1_1 {g : GG} {pre : List ABlk} {a0 a1 a2 a3 : AV} {r : AV} {post : List PB} (hk : Nat.ble pre.length 24 = true) (h : vc_pay_truths_1_1 (Tz g) pre a0 a1 a2 a3 r post) : MeetsH (Tz g) f_pay_truths_1_1 pre [a0, a1, a2, a3] (.ret r) post :=
  meetsH_of_vc (C := Tz g) ann_pay_truths_1_1 hf_pay_truths_1_1 ok_pay_truths_1_1 nt_pay_truths_1_1 hk (pn := false) (Eq.mpr ((vcFn2_eq _ _ _ _ _ _ _ _).trans (vc_pay_truths_1_1_eq g pre a0 a1 a2 a3 r post)) h)
end Go.Vc

namespace Go.Vc
open Go Go.Proofs Go.RowKit
def ann_pay_ends : Nat → List Nat := fun n => match n with | 4 => [4, 5, 8, 9] | _ => []
noncomputable def rfA_pay_ends : Code := rfA Tryz.f28
noncomputable def rfB_pay_ends : Code := rfB Tryz.f28
def vc_pay_ends_k0 (_P : Ctx) (pre : List ABlk) (r : AV) (post : List PB) (v0 : AV) (hr1 : Heap) (v5 : AV) (v7 : AV) : Prop :=
  LOAD false 1 v0 hr1 fun v2 =>
  NOT v2 fun v3 =>
  COND v3
  (BUILD [(0, 1), (1, 1)] [.d (.num .i64 0), .d (.num .i64 0)] [] fun v4 =>
  STORE 2 v5 v4 hr1 fun h6 =>
  LOAD true 2 v5 h6 fun r12 =>
  POST (.tup [r12, (.d (.num .i64 5))]) h6 pre r post)
  (LOAD true 2 v7 hr1 fun v8 =>
  STORE 2 v5 v8 hr1 fun h9 =>
  LOAD true 2 v5 h9 fun r14 =>
  POST (.tup [r14, (.d (.num .i64 0))]) h9 pre r post)
def vc_pay_ends_k1 (P : Ctx) (pre : List ABlk) (r : AV) (post : List PB) (v0 : AV) (v1 : AV) (v2 : AV) (v3 : AV) (v4 : AV) (h5 : Heap) (v7 : AV) : Prop :=
  CALLF P v0 [.yld 104] 112 ((104, some ⟨0, 0, .loop ⟨.ready, none, 40, [(4, v1), (5, v2), (8, v3), (9, v4)], [14], rfA_pay_ends, rfB_pay_ends⟩⟩) :: h5) (fun _ _ hq10 => AFTER 104 hq10 (fun hr6 =>
  vc_pay_ends_k0 P pre r post v4 hr6 v7 v3) (fun x10 hr6 => match x10 with
  | none => LOAD true 2 v7 hr6 fun r15 => POST (.tup [r15, (.d (.num .i64 0))]) hr6 pre r post
  | some i10 => (match Nat.beq i10 0 with | true => LOAD false 1 v4 hr6 fun v8 => NOT v8 fun v9 => COND v9 (BUILD [(0, 1), (1, 1)] [.d (.num .i64 0), .d (.num .i64 0)] [] fun v10 => STORE 2 v7 v10 hr6 fun h11 => LOAD true 2 v7 h11 fun r17 => POST (.tup [r17, (.d (.num .i64 5))]) h11 pre r post) (LOAD true 2 v3 hr6 fun v12 => STORE 2 v7 v12 hr6 fun h13 => LOAD true 2 v7 h13 fun r19 => POST (.tup [r19, (.d (.num .i64 0))]) h13 pre r post) | false => False)))
  (fun _ _ hr6 => False)
def vc_pay_ends (P : Ctx) (pre : List ABlk) (a0 a1 a2 : AV) (r : AV) (post : List PB) : Prop :=
  let h0 : Heap := numbered 0 pre
  BOX T_api_PayBook a0 24 h0 fun v3 h1 =>
  BOX T_func_pay_account_int a1 32 h1 fun v4 h2 =>
  BOX T_func_pay_account_bool a2 40 h2 fun v5 h3 =>
  ALLOC T_api_Span [.d (.num .i64 0), .d (.num .i64 0)] 48 h3 fun v6 h4 =>
  ALLOC T_api_Span [.d (.num .i64 0), .d (.num .i64 0)] 64 h4 fun v8 h5 =>
  ALLOC T_bool [.d (.bool false)] 72 h5 fun v9 h6 =>
  STORE 1 v9 (.d (.bool false)) h6 fun h7 =>
  LOAD true 7 v3 h7 fun v12 =>
  CALL P f_pay_truths [v12] 96 h7 (fun _ v13 h8 =>
  vc_pay_ends_k1 P pre r post v13 v4 v5 v8 v9 h8 v6)
  (fun _ _ _ => False)
theorem vc_pay_ends_eq (g : GG) (pre : List ABlk) (a0 a1 a2 : AV) (r : AV) (post : List PB) : vcFn2 (Tz g) false ann_pay_ends Tryz.f28 pre [a0, a1, a2] (.ret r) post = vc_pay_ends (Tz g) pre a0 a1 a2 r post := by kernel_rfl
theorem hf_pay_ends : Tryz.prog.funcs[f_pay_ends]? = some Tryz.f28 := by kernel_rfl
theorem ok_pay_ends : fnVcOK Tryz.prog Tryz.f28 = true := by kernel_rfl
theorem nt_pay_ends : Nat.ble 3 Tryz.f28.ntmps = true := by kernel_rfl
theorem meetsH_pay_ends {g : GG} {pre : List ABlk} {a0 a1 a2 : AV} {r : AV} {post : List PB} (hk : Nat.ble pre.length 24 = true) (h : vc_pay_ends (Tz g) pre a0 a1 a2 r post) : MeetsH (Tz g) f_pay_ends pre [a0, a1, a2] (.ret r) post :=
  meetsH_of_vc (C := Tz g) ann_pay_ends hf_pay_ends ok_pay_ends nt_pay_ends hk (pn := false) (Eq.mpr ((vcFn2_eq _ _ _ _ _ _ _ _).trans (vc_pay_ends_eq g pre a0 a1 a2 r post)) h)
theorem meets_pay_ends {g : GG} {a0 a1 a2 : D} {r : Res} (h : vc_pay_ends (Tz g) [] (.d a0) (.d a1) (.d a2) r.val (r.bl.map .upd)) : Meets (Tz g) f_pay_ends [a0, a1, a2] r := meetsH_pay_ends rfl h
def vc_pay_ends_k2 (_P : Ctx) (id : Nat) (pre : List ABlk) (r : AV) (post : List PB) (v0 : AV) (k2 : AV) (h3 : Heap) (k13 : AV) : Prop :=
  BUILD [(0, 1), (1, 1)] [.d (.num .i64 0), .d (.num .i64 0)] [(0, v0), (1, v0)] fun v1 =>
  STORE 2 k2 v1 h3 fun h4 =>
  FADDR 0 k2 h4 fun v5 =>
  LOAD false 1 v5 h4 fun v6 =>
  MINK v6 v0 fun v7 =>
  FADDR 1 k2 h4 fun v8 =>
  LOAD false 1 v8 h4 fun v9 =>
  MAXK v9 v0 fun v10 =>
  BUILD [(0, 1), (1, 1)] [.d (.num .i64 0), .d (.num .i64 0)] [(0, v7), (1, v10)] fun v11 =>
  STORE 2 k2 v11 h4 fun h12 =>
  STORE 1 k13 (.d (.bool true)) h12 fun h14 =>
  RDB none id h14 pre r post
def vc_pay_ends_k3 (_P : Ctx) (id : Nat) (pre : List ABlk) (r : AV) (post : List PB) (k0 : AV) (h1 : Heap) (v4 : AV) (k11 : AV) : Prop :=
  FADDR 0 k0 h1 fun v2 =>
  LOAD false 1 v2 h1 fun v3 =>
  MINK v3 v4 fun v5 =>
  FADDR 1 k0 h1 fun v6 =>
  LOAD false 1 v6 h1 fun v7 =>
  MAXK v7 v4 fun v8 =>
  BUILD [(0, 1), (1, 1)] [.d (.num .i64 0), .d (.num .i64 0)] [(0, v5), (1, v8)] fun v9 =>
  STORE 2 k0 v9 h1 fun h10 =>
  STORE 1 k11 (.d (.bool true)) h10 fun h12 =>
  RDB none id h12 pre r post
def vc_pay_ends_k4 (P : Ctx) (id : Nat) (pre : List ABlk) (r : AV) (post : List PB) (v0 : AV) (h2 : Heap) (k3 : AV) (v5 : AV) (k10 : AV) (k13 : AV) : Prop :=
  NOT v0 fun v1 =>
  COND v1
  (RDB none id h2 pre r post)
  (LOAD false 1 k3 h2 fun v4 =>
  LOAD true 8 v5 h2 fun v6 =>
  CALLV P v4 [v6] 88 h2 (fun _ v8 h9 =>
  LOAD false 1 k10 h9 fun v11 =>
  NOT v11 fun v12 =>
  COND v12
  (vc_pay_ends_k2 P id pre r post v8 k13 h9 k10)
  (vc_pay_ends_k3 P id pre r post k13 h9 v8 k10))
  (fun _ _ _ => False))
def vcr_pay_ends (P : Ctx) (id : Nat) (pre : List ABlk) (k4 k5 k8 k9 a0 : AV) (r : AV) (post : List PB) : Prop :=
  let h0 : Heap := numbered 0 pre
  ALLOC T_pay_account [.d (.num .i64 0), .d (.num .i64 0), .d (.num .i64 0), .d (.num .i64 0), .d (.num .i64 0), .d (.num .i64 0), .zc, .zc] 24 h0 fun v10 h20 =>
  STORE 8 v10 a0 h20 fun h21 =>
  RDA id h21 fun hb22 =>
  LOAD false 1 k5 hb22 fun v15 =>
  LOAD true 8 v10 hb22 fun v16 =>
  CALLV P v15 [v16] 56 hb22 (fun rd24 v17 h23 =>
  vc_pay_ends_k4 P id pre r post v17 h23 k4 v10 k9 k8)
  (fun _ _ _ => False)
theorem vcr_pay_ends_eq (g : GG) (id : Nat) (pre : List ABlk) (k4 k5 k8 k9 a0 : AV) (r : AV) (post : List PB) : vcRound (Tz g) ann_pay_ends 40 [(4, k4), (5, k5), (8, k8), (9, k9)] [14] rfA_pay_ends rfB_pay_ends id pre [a0] r post = vcr_pay_ends (Tz g) id pre k4 k5 k8 k9 a0 r post := by kernel_rfl
theorem okr_pay_ends : ([14].all (fun t => Nat.blt t 40) && codeOK Tryz.prog 40 false rfA_pay_ends && codeOK Tryz.prog 40 false rfB_pay_ends) = true := by kernel_rfl
theorem meetsY_pay_ends {g : GG} {id : Nat} {pre : List ABlk} {k4 k5 k8 k9 a0 : AV} {r : AV} {post : List PB} {e : TypeId} (hpre : pre[id]? = some ⟨0, e, .loop ⟨.ready, none, 40, [(4, k4), (5, k5), (8, k8), (9, k9)], [14], rfA_pay_ends, rfB_pay_ends⟩⟩) (hk : Nat.ble pre.length 24 = true) (h : vcr_pay_ends (Tz g) id pre k4 k5 k8 k9 a0 r post) : MeetsY (Tz g) id pre [a0] (.ret r) post :=
  meetsY_of_vc (C := Tz g) rfl ann_pay_ends hpre (by have h1 := okr_pay_ends; simp only [Bool.and_eq_true] at h1 ⊢; exact ⟨⟨⟨⟨rfl, h1.1.1⟩, h1.1.2⟩, h1.2⟩, hk⟩) (Eq.mpr (vcr_pay_ends_eq g id pre k4 k5 k8 k9 a0 r post) h)
def ann_pay_Owed : Nat → List Nat := fun n => match n with  | _ => []
def vc_pay_Owed_k0 (P : Ctx) (pre : List ABlk) (r : AV) (post : List PB) (v0 : AV) (v3 : AV) (h4 : Heap) (v6 : AV) (v8 : AV) : Prop :=
  NOT v0 fun v1 =>
  COND v1
  (BUILD [(0, 1), (1, 1)] [.d (.num .i64 0), .d (.num .i64 0)] [] fun v2 =>
  STORE 2 v3 v2 h4 fun h5 =>
  LOAD true 2 v3 h5 fun r11 =>
  POST (.tup [r11, (.d (.num .i64 2))]) h5 pre r post)
  (LOAD true 7 v6 h4 fun v7 =>
  CALL P f_pay_ends [v7, (.fn f_pay_Owed_1 [] [v8]), (.d (.fn f_pay_always [] []))] 168 h4 (fun _ v10 h11 =>
  EXT v10 0 fun v12 =>
  EXT v10 1 fun v13 =>
  STORE 2 v3 v12 h11 fun h14 =>
  LOAD true 2 v3 h14 fun r15 =>
  POST (.tup [r15, v13]) h14 pre r post)
  (fun _ _ _ => False))
def vc_pay_Owed_k1 (P : Ctx) (pre : List ABlk) (r : AV) (post : List PB) (v0 : AV) (v3 : AV) (h4 : Heap) (v6 : AV) (v8 : AV) : Prop :=
  NOT v0 fun v1 =>
  CONDG v1
  (BUILD [(0, 1), (1, 1)] [.d (.num .i64 0), .d (.num .i64 0)] [] fun v2 =>
  STORE 2 v3 v2 h4 fun h5 =>
  LOAD true 2 v3 h5 fun r7 =>
  POST (.tup [r7, (.d (.num .i64 2))]) h5 pre r post)
  (LOAD false 1 v6 h4 fun v7 =>
  FADDR 6 v8 h4 fun v9 =>
  LOAD false 1 v9 h4 fun v10 =>
  LEN false v10 h4 fun v11 =>
  BIN 0 .sub v11 (.d (.num .i64 1)) fun v12 =>
  CALL P f_pay_in [v7, (.d (.num .i64 0)), v12] 128 h4 (fun _ v14 h15 =>
  vc_pay_Owed_k0 P pre r post v14 v3 h15 v8 v6)
  (fun _ _ _ => False))
def vc_pay_Owed (P : Ctx) (pre : List ABlk) (a0 a1 : AV) (r : AV) (post : List PB) : Prop :=
  let h0 : Heap := numbered 0 pre
  BOX T_api_PayBook a0 24 h0 fun v2 h1 =>
  BOX T_int a1 32 h1 fun v3 h2 =>
  ALLOC T_api_Span [.d (.num .i64 0), .d (.num .i64 0)] 40 h2 fun v4 h3 =>
  LOAD true 7 v2 h3 fun v6 =>
  CALL P f_pay_isBook [v6] 64 h3 (fun _ v7 h4 =>
  vc_pay_Owed_k1 P pre r post v7 v4 h4 v3 v2)
  (fun _ _ _ => False)
theorem vc_pay_Owed_eq (g : GG) (pre : List ABlk) (a0 a1 : AV) (r : AV) (post : List PB) : vcFn2 (Tz g) false ann_pay_Owed Tryz.f10 pre [a0, a1] (.ret r) post = vc_pay_Owed (Tz g) pre a0 a1 r post := by kernel_rfl
theorem hf_pay_Owed : Tryz.prog.funcs[f_pay_Owed]? = some Tryz.f10 := by kernel_rfl
theorem ok_pay_Owed : fnVcOK Tryz.prog Tryz.f10 = true := by kernel_rfl
theorem nt_pay_Owed : Nat.ble 2 Tryz.f10.ntmps = true := by kernel_rfl
theorem meetsH_pay_Owed {g : GG} {pre : List ABlk} {a0 a1 : AV} {r : AV} {post : List PB} (hk : Nat.ble pre.length 24 = true) (h : vc_pay_Owed (Tz g) pre a0 a1 r post) : MeetsH (Tz g) f_pay_Owed pre [a0, a1] (.ret r) post :=
  meetsH_of_vc (C := Tz g) ann_pay_Owed hf_pay_Owed ok_pay_Owed nt_pay_Owed hk (pn := false) (Eq.mpr ((vcFn2_eq _ _ _ _ _ _ _ _).trans (vc_pay_Owed_eq g pre a0 a1 r post)) h)
theorem meets_pay_Owed {g : GG} {a0 a1 : D} {r : Res} (h : vc_pay_Owed (Tz g) [] (.d a0) (.d a1) r.val (r.bl.map .upd)) : Meets (Tz g) f_pay_Owed [a0, a1] r := meetsH_pay_Owed rfl h
end Go.Vc

namespace Go.Vc
open Go Go.Proofs
variable {g : GG}
attribute [local simp] and_assoc
theorem CALLG.gen {P : Ctx} {cal : Cal} {args : List AV} {new : Nat} {h : Heap} {K KP : List Nat → AV → Heap → Prop} (ks : List Nat) (cal' : Cal) (cs : List Bool) (args' : List AV) (pre : List ABlk) (v : AV) (post : List PB) (h1 : MeetsC P pre args' (.ret v) post cal')
    (h2 : NodupB ks = true) (hc : cal = cal'.ren (rho ks new)) (h3 : argsM (bodyOf h) (rho ks new) cs args args') (h4 : preB (bodyOf h) (rho ks new) ks pre) (h5 : lowL ks.length (cal'.ids ++ ids.idsL args' ++ preIds pre) = true) (h6 : disjB (lentL cs args) ks = true) (h7 : pre.length ≤ post.length ∧ post.length ≤ pre.length + 8)
    (h8 : K (ids.idsL args ++ cal.ids ++ ks) (v.ren (rho ks new)) (upsP (rho ks new) post 0 ++ kills (lentL cs args) ++ h)) : CALLG P cal args new h K KP :=
  ⟨ids.idsL args ++ cal.ids ++ ks, .ok (v.ren (rho ks new)) (upsP (rho ks new) post 0 ++ kills (lentL cs args)), ⟨ks, cal', cs, args', pre, .ret v, post, true, h1, h2, hc, h3, h4, h5, h6, h7.1, h7.2, rfl, fun h => (by cases h), rfl⟩, h8⟩
theorem CALL.dataV {P : Ctx} {f : FuncId} {args : List AV} {new : Nat} {h : Heap} {K KP : List Nat → AV → Heap → Prop} (ds : List D) (v : AV) (h1 : argsD (bodyOf h) args = some ds) (h2 : Meets P f ds ⟨v, []⟩) (h3 : K (ids.idsL args) (v.ren (rho [] new)) (kills (lentL (args.map fun _ => true) args) ++ h)) : CALL P f args new h K KP := by
  have hM : ∀ (vs : List AV) (ds : List D), argsD (bodyOf h) vs = some ds → argsM (bodyOf h) (rho [] new) (vs.map fun _ => true) vs (ds.map .d) := by
    intro vs
    induction vs with
    | nil => intro ds hd; simp [argsD] at hd; subst hd; exact trivial
    | cons v r ih =>
      intro ds hd
      simp only [argsD] at hd
      cases hv : argD (bodyOf h) v with
      | none => rw [hv] at hd; cases hd
      | some x =>
        rw [hv] at hd
        simp only [Option.bind_some] at hd
        cases hr : argsD (bodyOf h) r with
        | none => rw [hr] at hd; cases hd
        | some xs =>
          rw [hr] at hd
          simp only [Option.map_some, Option.some.injEq] at hd
          subst hd
          exact ⟨⟨x, hv, rfl⟩, ih xs hr⟩
  have hl : ∀ ds : List D, ids.idsL (ds.map .d) = [] := fun ds => by
    induction ds with
    | nil => rfl
    | cons d r ih => simp [ids.idsL, ids, ih]
  exact ⟨ids.idsL args, .ok (v.ren (rho [] new)) (kills (lentL (args.map fun _ => true) args)), ⟨[], .fnc f, args.map fun _ => true, ds.map .d, [], .ret v, [], true, h2, rfl, rfl, hM _ _ h1, trivial, by simp [Cal.ids, hl, preIds, lowL], by simp [disjB], Nat.zero_le _, Nat.zero_le _, by simp [Cal.ids], fun h => (by cases h), by simp [Out.eff, killsIf, upsP]⟩, h3⟩
noncomputable def loopP (a b c d : Nat) : LoopA := ⟨.ready, none, 40, [(4, .ptr a 0 0 0), (5, .ptr b 0 0 0), (8, .ptr c 0 0 0), (9, .ptr d 0 0 0)], [14], rfA_pay_ends, rfB_pay_ends⟩
def ofD (k : Int) : D := .fn f_pay_Owed_1 [] [.cp [int k]]
def isD : D := .fn f_pay_always [] []
noncomputable def P0 (k v : Int) (met : Bool) : List ABlk := [⟨0, 0, .loop (loopP 1 2 3 4)⟩, ⟨0, T_func_pay_account_int, .box [.d (ofD k)]⟩, ⟨0, T_func_pay_account_bool, .box [.d isD]⟩, ⟨0, T_api_Span, .box [.d (int v), .d (int v)]⟩, ⟨0, T_bool, .box [.d (.bool met)]⟩]
set_option maxHeartbeats 1000000 in
theorem pround_meets (rate fine : Int) (l : List Pn) (es : List Int) (k : Nat) (x : Pn) (hr : 0 ≤ rate ∧ rate ≤ 800) (hf : 0 ≤ fine ∧ fine ≤ 800) (hk : l[k]? = some x) (he : es[k]? = some x.errs) (hx : lineOK x) :
    MeetsY (Tz g) 0 (P0 k 0 false) [.d (accD rate fine l es)] (.ret (.d (.bool true))) ((P0 k (owedI rate fine x) true).map .upd) := by
  have hA := pay_always_meets (g := g) rate fine l es
  have hO := pay_Owed_1_meets (g := g) rate fine l es k x hr hf hk he hx
  generalize owedI rate fine x = w at *
  refine meetsY_pay_ends (k4 := .ptr 1 0 0 0) (k5 := .ptr 2 0 0 0) (k8 := .ptr 3 0 0 0) (k9 := .ptr 4 0 0 0) (e := 0) (by simp [P0, loopP]) rfl ?_
  unfold vcr_pay_ends
  simp [P0, accD, RDA, loopP, pns, ints, isD, ofD]
  refine CALL.val [accD rate fine l es] _ (by simp [accD, pns, ints]) hA (.inl rfl) ?_
  simp [vc_pay_ends_k4]
  refine CALL.val [accD rate fine l es, .cp [int k]] _ (by simp [accD, pns, ints]) hO (.inl rfl) ?_
  simp [vc_pay_ends_k2, RDB]
  exact ⟨[], by simp [stOf, ENDR, yv, yv.yvL, yh, yb, yver, yvT, bodyOf, fz, fz.fzL, fzH, fzB, fzT, stay, src, lookH, NodupB, disjB, argD, toD]⟩
noncomputable def P1 (bk : List D) (k v : Int) (met : Bool) : List ABlk := [⟨0, T_func_pay_account_bool, .box [.yld 2]⟩, ⟨0, T_func_l_int_bool, .box [.fn f_pay_truths_1_1 [] [.d (.cp bk), .ptr 0 0 0 0, .ptr 1 0 0 0]]⟩, ⟨0, 0, .loop (loopP 3 4 5 6)⟩, ⟨0, T_func_pay_account_int, .box [.d (ofD k)]⟩, ⟨0, T_func_pay_account_bool, .box [.d isD]⟩, ⟨0, T_api_Span, .box [.d (int v), .d (int v)]⟩, ⟨0, T_bool, .box [.d (.bool met)]⟩]
set_option maxHeartbeats 2000000 in
theorem from_meets (rate fine : Int) (l : List Pn) (k : Nat) (x : Pn) (hr : 0 ≤ rate ∧ rate ≤ 800) (hf : 0 ≤ fine ∧ fine ≤ 800) (hl : l.length ≤ 5) (hk : l[k]? = some x) (hx : ∀ y, y ∈ l → lineOK y) :
    ∀ (rest : List Pn) (now : List Int) (ver : Nat), l.map Pn.errs = now ++ rest.map Pn.errs → 1 ≤ now.length →
      MeetsH (Tz g) f_pay_truths_1_1 (P1 (bookC rate fine l) k 0 false ++ [⟨ver, T_int, .lst (now.map int)⟩]) [.own 7 ver, .d (.cp (bookC rate fine l)), .ptr 0 0 0 0, .ptr 1 0 0 0] (.ret (.d (.bool true))) ((P1 (bookC rate fine l) k (owedI rate fine x) true).map .upd ++ [.gone]) := by
  intro rest
  induction rest with
  | nil =>
    intro now ver hd h1
    simp at hd
    have he : now[k]? = some x.errs := by rw [← hd]; simp [hk]
    have hlen : now.length = l.length := by rw [← hd]; simp
    have hR := pround_meets (g := g) rate fine l now k x hr hf hk he (hx x (List.mem_of_getElem? hk))
    generalize owedI rate fine x = w at *
    refine meetsH_pay_truths_1_1 rfl ?_
    unfold vc_pay_truths_1_1
    simp [P1, bookC, pns, hlen, vc_pay_truths_1_1_k2]
    refine CALLG.gen [2, 3, 4, 5, 6] (.yld 0) [true] [.d (accD rate fine l now)] (P0 k 0 false) _ _ hR rfl rfl (by simp [argsM, accD, argD, toD, ints, pns, bodyOf, lookH]) ?_ ?_ ?_ ?_ ?_
    · simp [preB, P0, loopP, rho, bodyOf, lookH, Body.ren, AV.ren, AV.ren.renL, renT]
    · simp [Cal.ids, ids.idsL, ids, preIds, P0, loopP, Body.ids, tmpIds, lowL]
    · simp [lentL, ids, disjB]
    · simp [P0]
    · exact ⟨[], by simp [P0, upsP, rho, ABlk.ren, Body.ren, AV.ren, AV.ren.renL, renT, loopP, lentL, kills, ENDR, yv, yv.yvL, yh, yb, yver, yvT, bodyOf, fz, fz.fzL, fzH, fzB, fzT, stay, src, lookH, NodupB, disjB, argD, toD]⟩
  | cons s r ih =>
    intro now ver hd h1
    have hnl : now.length + (r.length + 1) = l.length := by
      have := congrArg List.length hd
      simp at this
      omega
    obtain ⟨y, hy⟩ : ∃ y, l[now.length]? = some y := ⟨_, List.getElem?_eq_getElem (show now.length < l.length by omega)⟩
    have hys : y.errs = s.errs := by
      have e := congrArg (fun q => q[now.length]?) hd
      simp [hy] at e
      exact e
    have hyo := hx y (List.mem_of_getElem? hy)
    obtain ⟨y1, y2, y3, y4⟩ := hyo
    have hih := ih (now ++ [s.errs]) (ver + 1 + 1) (by rw [hd]; simp) (by simp)
    have hne : ¬ ((now.length : Int) = (l.length : Int)) := by omega
    rw [hys] at y3 y4
    generalize owedI rate fine x = w at *
    refine meetsH_pay_truths_1_1 rfl ?_
    unfold vc_pay_truths_1_1
    simp [P1, bookC, pns, hne, vc_pay_truths_1_1_k3, hy, Pn.d, hys]
    refine LOOP.mk Nat (fun j => [match j with | 0 => .own 7 ver | _ + 1 => .any, .ptr 1 0 0 0, .ptr 136 0 0 0, .d (int (s.errs + (j : Int)))])
      (fun j => (136, some ⟨0, T_api_Span, .box [.d (int s.errs), .d (int s.errs)]⟩) :: numbered 0 (match j with | 0 => P1 (bookC rate fine l) k 0 false ++ [⟨ver, T_int, .lst (now.map int)⟩] | _ + 1 => P1 (bookC rate fine l) k w true))
      (fun j => j ≤ 1) (fun j => 1 - j) [] (by simp) 0 (by omega) (by simp [WEAK, P1, numbered, lookH, bookC, pns]) (fun j hj => by rcases (by omega : j = 0 ∨ j = 1) with rfl | rfl <;> rfl) ?_
    intro j hj
    rcases (by omega : j = 0 ∨ j = 1) with rfl | rfl
    · simp [P1, numbered, bookC, pns, vc_pay_truths_1_1_k1]
      have htk : List.take now.length (now.map int) = now.map int := List.take_of_length_le (by simp)
      refine ⟨by omega, by omega, ?_⟩
      simp only [htk]
      refine CALL.gen [0, 1, 2, 3, 4, 5, 6, 7] [false, false, false, false] [.own 7 (ver + 1 + 1), .d (.cp (bookC rate fine l)), .ptr 0 0 0 0, .ptr 1 0 0 0] _ _ _ hih rfl (by simp [argsM, AV.ren, rho, bookC, pns]) ?_ ?_ ?_ ?_ ?_
      · simp [preB, P1, loopP, rho, bodyOf, lookH, Body.ren, AV.ren, AV.ren.renL, renT, bookC, pns]
      · simp [ids.idsL, ids, preIds, P1, loopP, Body.ids, tmpIds, lowL]
      · simp [lentL, disjB]
      · simp [P1]
      · simp [AV.ren, P1, upsP, rho, ABlk.ren, Body.ren, AV.ren.renL, renT, loopP, lentL, kills, vc_pay_truths_1_1_k0]
        refine ⟨rfl, ?_⟩
        rw [wrap_id (n := s.errs + 1) (by omega) (by omega)]
        exact ⟨1, by omega, by simp [WEAK, lookH, bookC, pns], by omega⟩
    · simp [P1, numbered, bookC, pns, vc_pay_truths_1_1_k1]
      exact ⟨by omega, fun _ => ⟨[], by simp [loopP, ENDR, yv, yv.yvL, yh, yb, yver, yvT, bodyOf, fz, fz.fzL, fzH, fzB, fzT, stay, src, lookH, NodupB, disjB, argD, toD]⟩⟩
set_option maxHeartbeats 2000000 in
theorem fromNil_meets (rate fine : Int) (l : List Pn) (k : Nat) (x : Pn) (hr : 0 ≤ rate ∧ rate ≤ 800) (hf : 0 ≤ fine ∧ fine ≤ 800) (hl : l.length ≤ 5) (hk : l[k]? = some x) (hx : ∀ y, y ∈ l → lineOK y) :
    MeetsH (Tz g) f_pay_truths_1_1 (P1 (bookC rate fine l) k 0 false) [.zc, .d (.cp (bookC rate fine l)), .ptr 0 0 0 0, .ptr 1 0 0 0] (.ret (.d (.bool true))) ((P1 (bookC rate fine l) k (owedI rate fine x) true).map .upd) := by
  have hF := from_meets (g := g) rate fine l k x hr hf hl hk hx
  match l, hl, hk, hx, hF with
  | s :: r, hl, hk, hx, hF =>
    have hih := hF r [s.errs] 0 rfl (by simp)
    have hso := hx s (by simp)
    obtain ⟨y1, y2, y3, y4⟩ := hso
    generalize owedI rate fine x = w at *
    refine meetsH_pay_truths_1_1 rfl ?_
    unfold vc_pay_truths_1_1
    have hne : ¬ ((r.length : Int) + 1 = 0) := by omega
    have hne2 : ¬ (0 = (r.length : Int) + 1) := by omega
    simp [P1, bookC, pns, hne2, vc_pay_truths_1_1_k3, Pn.d]
    refine LOOP.mk Nat (fun j => [.zc, .ptr 1 0 0 0, .ptr 136 0 0 0, .d (int (s.errs + (j : Int)))])
      (fun j => (136, some ⟨0, T_api_Span, .box [.d (int s.errs), .d (int s.errs)]⟩) :: numbered 0 (match j with | 0 => P1 (bookC rate fine (s :: r)) k 0 false | _ + 1 => P1 (bookC rate fine (s :: r)) k w true))
      (fun j => j ≤ 1) (fun j => 1 - j) [] (by simp) 0 (by omega) (by simp [WEAK, P1, numbered, lookH, bookC, pns]; rfl) (fun j hj => by rcases (by omega : j = 0 ∨ j = 1) with rfl | rfl <;> rfl) ?_
    intro j hj
    rcases (by omega : j = 0 ∨ j = 1) with rfl | rfl
    · simp [P1, numbered, bookC, pns, vc_pay_truths_1_1_k1]
      refine CALL.gen [0, 1, 2, 3, 4, 5, 6, 288] [false, false, false, false] [.own 7 0, .d (.cp (bookC rate fine (s :: r))), .ptr 0 0 0 0, .ptr 1 0 0 0] _ _ _ hih rfl (by simp [argsM, AV.ren, rho, bookC, pns]) ?_ ?_ ?_ ?_ ?_
      · simp [preB, P1, loopP, rho, bodyOf, lookH, Body.ren, AV.ren, AV.ren.renL, renT, bookC, pns]
      · simp [ids.idsL, ids, preIds, P1, loopP, Body.ids, tmpIds, lowL]
      · simp [lentL, disjB]
      · simp [P1]
      · simp [AV.ren, P1, upsP, rho, ABlk.ren, Body.ren, AV.ren.renL, renT, loopP, lentL, kills, vc_pay_truths_1_1_k0]
        refine ⟨rfl, ?_⟩
        rw [wrap_id (n := s.errs + 1) (by omega) (by omega)]
        exact ⟨1, by omega, by simp [WEAK, lookH, bookC, pns], by omega⟩
    · simp [P1, numbered, bookC, pns, vc_pay_truths_1_1_k1]
      exact ⟨by omega, fun _ => ⟨[], by simp [loopP, ENDR, yv, yv.yvL, yh, yb, yver, yvT, bodyOf, fz, fz.fzL, fzH, fzB, fzT, stay, src, lookH, NodupB, disjB, argD, toD]; rfl⟩⟩
theorem pay_truths_1_meets (rate fine : Int) (l : List Pn) (k : Nat) (x : Pn) (hr : 0 ≤ rate ∧ rate ≤ 800) (hf : 0 ≤ fine ∧ fine ≤ 800) (hl : l.length ≤ 5) (hk : l[k]? = some x) (hx : ∀ y, y ∈ l → lineOK y) :
    MeetsH (Tz g) f_pay_truths_1 (P0 k 0 false) [.yld 0, .d (.cp (bookC rate fine l))] (.ret (.tup [])) ((P0 k (owedI rate fine x) true).map .upd) := by
  have hF := fromNil_meets (g := g) rate fine l k x hr hf hl hk hx
  generalize owedI rate fine x = w at *
  refine meetsH_pay_truths_1 rfl ?_
  unfold vc_pay_truths_1
  simp [P0]
  refine CALL.gen [24, 32, 0, 1, 2, 3, 4] [false, false, false, false] [.zc, .d (.cp (bookC rate fine l)), .ptr 0 0 0 0, .ptr 1 0 0 0] _ _ _ hF rfl (by simp [argsM, AV.ren, rho]) ?_ ?_ ?_ ?_ ?_
  · simp [preB, P1, loopP, rho, bodyOf, lookH, Body.ren, AV.ren, AV.ren.renL, renT]
  · simp [ids.idsL, ids, preIds, P1, loopP, Body.ids, tmpIds, lowL]
  · simp [lentL, disjB]
  · simp [P1]
  · simp [AV.ren, P1, upsP, rho, ABlk.ren, Body.ren, AV.ren.renL, renT, loopP, lentL, kills]
    exact ⟨[], by simp [ENDR, yv, yv.yvL, yh, yb, yver, yvT, bodyOf, fz, fz.fzL, fzH, fzB, fzT, stay, src, lookH, NodupB, disjB, argD, toD]⟩
theorem pay_truths_meets (rate fine : Int) (l : List Pn) : Meets (Tz g) f_pay_truths [bookD rate fine l] ⟨.d (.fn f_pay_truths_1 [] [.cp (bookC rate fine l)]), []⟩ := by
  refine meets_pay_truths ?_
  unfold vc_pay_truths
  simp [bookD, bookC, pns]
set_option maxHeartbeats 2000000 in
theorem pay_ends_meets (rate fine : Int) (l : List Pn) (k : Nat) (x : Pn) (hr : 0 ≤ rate ∧ rate ≤ 800) (hf : 0 ≤ fine ∧ fine ≤ 800) (hl : l.length ≤ 5) (hk : l[k]? = some x) (hx : ∀ y, y ∈ l → lineOK y) :
    Meets (Tz g) f_pay_ends [bookD rate fine l, ofD k, isD] ⟨.tup [.d (.agg [int (owedI rate fine x), int (owedI rate fine x)]), .d (int 0)], []⟩ := by
  have hT := pay_truths_1_meets (g := g) rate fine l k x hr hf hl hk hx
  generalize owedI rate fine x = w at *
  refine meets_pay_ends ?_
  unfold vc_pay_ends
  simp [bookD, bookC, pns]
  refine CALL.val [bookD rate fine l] _ (by simp [bookD, bookC, pns]) (pay_truths_meets rate fine l) (.inl rfl) ?_
  simp [vc_pay_ends_k1, CALLF]
  refine CALL.gen [104, 32, 40, 64, 72] [false, false] [.yld 0, .d (.cp (bookC rate fine l))] _ _ _ hT rfl (by simp [argsM, AV.ren, rho]) ?_ ?_ ?_ ?_ ?_
  · simp [preB, P0, loopP, rho, bodyOf, lookH, Body.ren, AV.ren, AV.ren.renL, renT, ofD, isD]
  · simp [ids.idsL, ids, preIds, P0, loopP, Body.ids, tmpIds, lowL]
  · simp [lentL, disjB]
  · simp [P0]
  · simp [AV.ren, P0, upsP, rho, ABlk.ren, Body.ren, AV.ren.renL, renT, loopP, lentL, kills, lookH, vc_pay_ends_k0]
theorem pay_Owed_meets (rate fine : Int) (l : List Pn) (k : Nat) (x : Pn) (hr : 0 ≤ rate ∧ rate ≤ 800) (hf : 0 ≤ fine ∧ fine ≤ 800) (hl : l.length ≤ 5) (hk : l[k]? = some x) (hx : ∀ y, y ∈ l → lineOK y) :
    Meets (Tz g) f_pay_Owed [bookD rate fine l, int k] ⟨.tup [.d (.agg [int (owedI rate fine x), int (owedI rate fine x)]), .d (int 0)], []⟩ := by
  have hE := pay_ends_meets (g := g) rate fine l k x hr hf hl hk hx
  have hkl := (List.getElem?_eq_some_iff.1 hk).1
  generalize owedI rate fine x = w at *
  refine meets_pay_Owed ?_
  unfold vc_pay_Owed
  simp [bookD, bookC, pns]
  refine CALL.val [bookD rate fine l] _ (by simp [bookD, bookC, pns]) (pay_isBook_meets rate fine l hr hf (by omega) hx) (.inl rfl) ?_
  simp [vc_pay_Owed_k1]
  rw [wrap_id (n := (l.length : Int) - 1) (by omega) (by omega)]
  refine CALL.val [int k, int 0, int ((l.length : Int) - 1)] _ rfl (pay_in_meets _ _ _) (.inl rfl) ?_
  have e1 : inB (k : Int) 0 ((l.length : Int) - 1) = true := by simp [inB]; omega
  simp [e1, vc_pay_Owed_k0]
  refine CALL.dataV [bookD rate fine l, ofD k, isD] _ (by simp [bookD, bookC, pns, ofD, isD]) hE ?_
  simp [AV.ren, AV.ren.renL]
end Go.Vc
