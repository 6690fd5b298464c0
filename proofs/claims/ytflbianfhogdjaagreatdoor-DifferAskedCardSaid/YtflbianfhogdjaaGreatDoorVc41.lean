/- A part of the proof: general laws of a reading of the model by abstract data, or contracts of the functions that the law calls. -/
import Derived.Test.YtflbianfhogdjaaGreatDoorVc22
import Derived.Test.YtflbianfhogdjaaGreatDoorVc40
import Derived.Test.YtflbianfhogdjaaGreatDoorVc38
set_option maxRecDepth 100000
namespace Go.Vc
open Go Go.Proofs Go.RowKit
def ann_differ_truths : Nat → List Nat := fun n => match n with  | _ => []
def vc_differ_truths (P : Ctx) (pre : List ABlk) (a0 : AV) (r : AV) (post : List PB) : Prop :=
  let h0 : Heap := numbered 0 pre
  BOX T_api_DifferPlan a0 24 h0 fun v1 h1 =>
  POST (.fn f_differ_truths_1 [] [v1]) h1 pre r post
theorem vc_differ_truths_eq (g : GG) (pre : List ABlk) (a0 : AV) (r : AV) (post : List PB) : vcFn2 (Tz g) false ann_differ_truths Tryz.f103 pre [a0] (.ret r) post = vc_differ_truths (Tz g) pre a0 r post := by kernel_rfl
theorem hf_differ_truths : Tryz.prog.funcs[f_differ_truths]? = some Tryz.f103 := by kernel_rfl
theorem ok_differ_truths : fnVcOK Tryz.prog Tryz.f103 = true := by kernel_rfl
theorem nt_differ_truths : Nat.ble 1 Tryz.f103.ntmps = true := by kernel_rfl
theorem meetsH_differ_truths {g : GG} {pre : List ABlk} {a0 : AV} {r : AV} {post : List PB} (hk : Nat.ble pre.length 24 = true) (h : vc_differ_truths (Tz g) pre a0 r post) : MeetsH (Tz g) f_differ_truths pre [a0] (.ret r) post :=
  meetsH_of_vc (C := Tz g) ann_differ_truths hf_differ_truths ok_differ_truths nt_differ_truths hk (pn := false) (Eq.mpr ((vcFn2_eq _ _ _ _ _ _ _ _).trans (vc_differ_truths_eq g pre a0 r post)) h)
theorem meets_differ_truths {g : GG} {a0 : D} {r : Res} (h : vc_differ_truths (Tz g) [] (.d a0) r.val (r.bl.map .upd)) : Meets (Tz g) f_differ_truths [a0] r := meetsH_differ_truths rfl h
def ann_differ_truths_1 : Nat → List Nat := fun n => match n with  | _ => []
def vc_differ_truths_1 (P : Ctx) (pre : List ABlk) (a0 a1 : AV) (r : AV) (post : List PB) : Prop :=
  let h0 : Heap := numbered 0 pre
  BOX T_func_differ_table_bool a0 24 h0 fun v2 h1 =>
  ALLOC T_func_l_int_bool [.any] 32 h1 fun v3 h2 =>
  STORE 1 v3 (.fn f_differ_truths_1_1 [] [a1, v2, v3]) h2 fun h3 =>
  LOAD false 1 v3 h3 fun v5 =>
  CALLV P v5 [.zc] 64 h3 (fun _ v6 h4 =>
  POST (.tup []) h4 pre r post)
  (fun _ _ _ => False)
theorem vc_differ_truths_1_eq (g : GG) (pre : List ABlk) (a0 a1 : AV) (r : AV) (post : List PB) : vcFn2 (Tz g) false ann_differ_truths_1 Tryz.f123 pre [a0, a1] (.ret r) post = vc_differ_truths_1 (Tz g) pre a0 a1 r post := by kernel_rfl
theorem hf_differ_truths_1 : Tryz.prog.funcs[f_differ_truths_1]? = some Tryz.f123 := by kernel_rfl
theorem ok_differ_truths_1 : fnVcOK Tryz.prog Tryz.f123 = true := by kernel_rfl
theorem nt_differ_truths_1 : Nat.ble 2 Tryz.f123.ntmps = true := by kernel_rfl
theorem meetsH_differ_truths_1 {g : GG} {pre : List ABlk} {a0 a1 : AV} {r : AV} {post : List PB} (hk : Nat.ble pre.length 24 = true) (h : vc_differ_truths_1 (Tz g) pre a0 a1 r post) : MeetsH (Tz g) f_differ_truths_1 pre [a0, a1] (.ret r) post :=
  meetsH_of_vc (C := Tz g) ann_differ_truths_1 hf_differ_truths_1 ok_differ_truths_1 nt_differ_truths_1 hk (pn := false) (Eq.mpr ((vcFn2_eq _ _ _ _ _ _ _ _).trans (vc_differ_truths_1_eq g pre a0 a1 r post)) h)
def ann_differ_truths_1_1 : Nat → List Nat := fun n => match n with | 5 => [0, 3, 6, 7] | _ => []
def vc_differ_truths_1_1 (P : Ctx) (pre : List ABlk) (a0 a1 a2 a3 : AV) (r : AV) (post : List PB) : Prop :=
  let h0 : Heap := numbered 0 pre
  LEN false a0 h0 fun v9 =>
  FADDR 0 a1 h0 fun v10 =>
  LOAD false 1 v10 h0 fun v11 =>
  LEN false v11 h0 fun v12 =>
  BIN 0 .eql v9 v12 fun v13 =>
  COND v13
  (LOAD false 1 a2 h0 fun v14 =>
  LOAD true 3 a1 h0 fun v15 =>
  BUILD [(0, 3), (3, 1)] [.zc, .d (.num .i64 0), .d (.num .i64 0), .zc] [(0, v15), (1, a0)] fun v17 =>
  CALLV P v14 [v17] 112 h0 (fun _ v18 h1 =>
  POST v18 h1 pre r post)
  (fun _ _ _ => False))
  (FADDR 0 a1 h0 fun v19 =>
  LOAD false 1 v19 h0 fun v20 =>
  LEN false a0 h0 fun v22 =>
  IADDR 2 T_api_Span v20 v22 h0 fun v23 =>
  LOAD true 2 v23 h0 fun v24 =>
  ALLOC T_api_Span [.d (.num .i64 0), .d (.num .i64 0)] 128 h0 fun v6 h3 =>
  STORE 2 v6 v24 h3 fun h4 =>
  FADDR 0 v6 h4 fun v25 =>
  LOAD false 1 v25 h4 fun v26 =>
  LOOP [a0, a3, v6, v26] h4 168 fun vs5 h6 next5 =>
  FADDR 1 (nth vs5 2) h6 fun v28 =>
  LOAD false 1 v28 h6 fun v29 =>
  BIN 0 .leq (nth vs5 3) v29 fun v30 =>
  COND v30
  (LOAD false 1 (nth vs5 1) h6 fun v33 =>
  CALL P f_slices_Clone_l_int_int [(nth vs5 0)] 224 h6 (fun rd8 v35 h7 =>
  MKS T_int 1 [(nth vs5 3)] 240 h7 fun v37 h9 =>
  APP T_int 1 v35 v37 248 h9 fun v38 h10 =>
  CALLV P v33 [v38] 256 h10 (fun rd12 v39 h11 =>
  NOT v39 fun v40 =>
  ORDX [] [0, 0, 2, 0, 8, 30, 63, 127] [(0, wr h6 h6, (ids (nth vs5 1))), (2, wr h6 h7, rd8), (4, wr h7 h9, (ids.idsL [(nth vs5 3)])), (5, wr h9 h10, (ids.idsL [v35, v37])), (6, wr h10 h11, rd12)] ∧
  COND v40
  (POST (.d (.bool false)) h11 pre r post)
  (BIN 0 .add (nth vs5 3) (.d (.num .i64 1)) fun v32 =>
  next5 [(nth vs5 0), (nth vs5 1), (nth vs5 2), v32] h11))
  (fun _ _ _ => False))
  (fun _ _ _ => False))
  (POST (.d (.bool true)) h6 pre r post))
theorem vc_differ_truths_1_1_eq (g : GG) (pre : List ABlk) (a0 a1 a2 a3 : AV) (r : AV) (post : List PB) : vcFn2 (Tz g) false ann_differ_truths_1_1 Tryz.f124 pre [a0, a1, a2, a3] (.ret r) post = vc_differ_truths_1_1 (Tz g) pre a0 a1 a2 a3 r post := by kernel_rfl
theorem hf_differ_truths_1_1 : Tryz.prog.funcs[f_differ_truths_1_1]? = some Tryz.f124 := by kernel_rfl
theorem ok_differ_truths_1_1 : fnVcOK Tryz.prog Tryz.f124 = true := by kernel_rfl
theorem nt_differ_truths_1_1 : Nat.ble 4 Tryz.f124.ntmps = true := by kernel_rfl
theorem meetsH_differ_truths_1_1 {g : GG} {pre : List ABlk} {a0 a1 a2 a3 : AV} {r : AV} {post : List PB} (hk : Nat.ble pre.length 24 = true) (h : vc_differ_truths_1_1 (Tz g) pre a0 a1 a2 a3 r post) : MeetsH (Tz g) f_differ_truths_1_1 pre [a0, a1, a2, a3] (.ret r) post :=
  meetsH_of_vc (C := Tz g) ann_differ_truths_1_1 hf_differ_truths_1_1 ok_differ_truths_1_1 nt_differ_truths_1_1 hk (pn := false) (Eq.mpr ((vcFn2_eq _ _ _ _ _ _ _ _).trans (vc_differ_truths_1_1_eq g pre a0 a1 a2 a3 r post)) h)
def ann_differ_agreeing : Nat → List Nat := fun n => match n with | 3 => [3, 5] | _ => []
noncomputable def rfA_differ_agreeing : Code := rfA Tryz.f65
noncomputable def rfB_differ_agreeing : Code := rfB Tryz.f65
def vc_differ_agreeing (P : Ctx) (pre : List ABlk) (a0 a1 : AV) (r : AV) (post : List PB) : Prop :=
  let h0 : Heap := numbered 0 pre
  BOX T_api_DifferPlan a0 24 h0 fun v2 h1 =>
  BOX T_l_api_DifferSeen a1 32 h1 fun v3 h2 =>
  ALLOC T_l_differ_table [.zc] 48 h2 fun v5 h3 =>
  LOAD true 3 v2 h3 fun v8 =>
  CALL P f_differ_truths [v8] 64 h3 (fun _ v9 h4 =>
  CALLF P v9 [.yld 72] 80 ((72, some ⟨0, 0, .loop ⟨.ready, none, 22, [(3, v3), (5, v5)], [10], rfA_differ_agreeing, rfB_differ_agreeing⟩⟩) :: h4) (fun _ _ hq6 => AFTER 72 hq6 (fun hr6 =>
  LOAD false 1 v5 hr6 fun v21 =>
  POST v21 hr6 pre r post) (fun x6 hr6 => match x6 with
  | none => POST .zc hr6 pre r post
  | some i6 => (match Nat.beq i6 0 with | true => LOAD false 1 v5 hr6 fun v21 => POST v21 hr6 pre r post | false => False)))
  (fun _ v6 hr6 => False))
  (fun _ _ _ => False)
theorem vc_differ_agreeing_eq (g : GG) (pre : List ABlk) (a0 a1 : AV) (r : AV) (post : List PB) : vcFn2 (Tz g) false ann_differ_agreeing Tryz.f65 pre [a0, a1] (.ret r) post = vc_differ_agreeing (Tz g) pre a0 a1 r post := by kernel_rfl
theorem hf_differ_agreeing : Tryz.prog.funcs[f_differ_agreeing]? = some Tryz.f65 := by kernel_rfl
theorem ok_differ_agreeing : fnVcOK Tryz.prog Tryz.f65 = true := by kernel_rfl
theorem nt_differ_agreeing : Nat.ble 2 Tryz.f65.ntmps = true := by kernel_rfl
theorem meetsH_differ_agreeing {g : GG} {pre : List ABlk} {a0 a1 : AV} {r : AV} {post : List PB} (hk : Nat.ble pre.length 24 = true) (h : vc_differ_agreeing (Tz g) pre a0 a1 r post) : MeetsH (Tz g) f_differ_agreeing pre [a0, a1] (.ret r) post :=
  meetsH_of_vc (C := Tz g) ann_differ_agreeing hf_differ_agreeing ok_differ_agreeing nt_differ_agreeing hk (pn := false) (Eq.mpr ((vcFn2_eq _ _ _ _ _ _ _ _).trans (vc_differ_agreeing_eq g pre a0 a1 r post)) h)
theorem meets_differ_agreeing {g : GG} {a0 a1 : D} {r : Res} (h : vc_differ_agreeing (Tz g) [] (.d a0) (.d a1) r.val (r.bl.map .upd)) : Meets (Tz g) f_differ_agreeing [a0, a1] r := meetsH_differ_agreeing rfl h
def vcr_differ_agreeing (P : Ctx) (id : Nat) (pre : List ABlk) (k3 k5 a0 : AV) (r : AV) (post : List PB) : Prop :=
  let h0 : Heap := numbered 0 pre
  ALLOC T_differ_table [.zc, .d (.num .i64 0), .d (.num .i64 0), .zc] 24 h0 fun v6 h7 =>
  STORE 4 v6 a0 h7 fun h8 =>
  RDA id h8 fun hb9 =>
  LOAD true 4 v6 hb9 fun v11 =>
  CALL P f_differ_table_values [v11] 48 hb9 (fun rd11 v12 h10 =>
  ALLOC T_l_int [.zc] 56 h10 fun v7 h12 =>
  STORE 1 v7 v12 h12 fun h13 =>
  LOAD false 1 k3 h13 fun v13 =>
  CALL P f_slices_ContainsFunc_l_api_DifferSeen_api_DifferSeen [v13, (.fn f_differ_agreeing_1 [] [v7])] 88 h13 (fun rd15 v15 h14 =>
  NOT v15 fun v16 =>
  COND v16
  (LOAD false 1 k5 h14 fun v17 =>
  LOAD true 4 v6 h14 fun v18 =>
  MKS T_differ_table 4 [v18] 120 h14 fun v19 h16 =>
  APP T_differ_table 4 v17 v19 128 h16 fun v20 h17 =>
  STORE 1 k5 v20 h17 fun h18 =>
  RDB none id h18 pre r post)
  (RDB none id h14 pre r post))
  (fun _ _ _ => False))
  (fun _ _ _ => False)
theorem vcr_differ_agreeing_eq (g : GG) (id : Nat) (pre : List ABlk) (k3 k5 a0 : AV) (r : AV) (post : List PB) : vcRound (Tz g) ann_differ_agreeing 22 [(3, k3), (5, k5)] [10] rfA_differ_agreeing rfB_differ_agreeing id pre [a0] r post = vcr_differ_agreeing (Tz g) id pre k3 k5 a0 r post := by kernel_rfl
theorem okr_differ_agreeing : ([10].all (fun t => Nat.blt t 22) && codeOK Tryz.prog 22 false rfA_differ_agreeing && codeOK Tryz.prog 22 false rfB_differ_agreeing) = true := by kernel_rfl
theorem meetsY_differ_agreeing {g : GG} {id : Nat} {pre : List ABlk} {k3 k5 a0 : AV} {r : AV} {post : List PB} {e : TypeId} (hpre : pre[id]? = some ⟨0, e, .loop ⟨.ready, none, 22, [(3, k3), (5, k5)], [10], rfA_differ_agreeing, rfB_differ_agreeing⟩⟩) (hk : Nat.ble pre.length 24 = true) (h : vcr_differ_agreeing (Tz g) id pre k3 k5 a0 r post) : MeetsY (Tz g) id pre [a0] (.ret r) post :=
  meetsY_of_vc (C := Tz g) rfl ann_differ_agreeing hpre (by have h1 := okr_differ_agreeing; simp only [Bool.and_eq_true] at h1 ⊢; exact ⟨⟨⟨⟨rfl, h1.1.1⟩, h1.1.2⟩, h1.2⟩, hk⟩) (Eq.mpr (vcr_differ_agreeing_eq g id pre k3 k5 a0 r post) h)
def ann_differ_agreeing_1 : Nat → List Nat := fun n => match n with  | _ => []
def vc_differ_agreeing_1 (P : Ctx) (pre : List ABlk) (a0 a1 : AV) (r : AV) (post : List PB) : Prop :=
  let h0 : Heap := numbered 0 pre
  BOX T_api_DifferSeen a0 24 h0 fun v2 h1 =>
  LOAD false 1 a1 h1 fun v4 =>
  FADDR 0 v2 h1 fun v5 =>
  LOAD false 1 v5 h1 fun v6 =>
  IADDR 1 T_int v4 v6 h1 fun v7 =>
  LOAD false 1 v7 h1 fun v8 =>
  FADDR 1 v2 h1 fun v9 =>
  LOAD false 1 v9 h1 fun v10 =>
  BIN 0 .neq v8 v10 fun v11 =>
  ORDX [] [0, 0, 2, 7, 15, 0, 32, 127, 255] [(0, wr h1 h1, (ids a1)), (1, wr h1 h1, (ids v2)), (2, wr h1 h1, (ids v5)), (3, wr h1 h1, (ids v4)), (4, wr h1 h1, (ids v7)), (5, wr h1 h1, (ids v2)), (6, wr h1 h1, (ids v9))] ∧
  POST v11 h1 pre r post
theorem vc_differ_agreeing_1_eq (g : GG) (pre : List ABlk) (a0 a1 : AV) (r : AV) (post : List PB) : vcFn2 (Tz g) false ann_differ_agreeing_1 Tryz.f104 pre [a0, a1] (.ret r) post = vc_differ_agreeing_1 (Tz g) pre a0 a1 r post := by kernel_rfl
theorem hf_differ_agreeing_1 : Tryz.prog.funcs[f_differ_agreeing_1]? = some Tryz.f104 := by kernel_rfl
theorem ok_differ_agreeing_1 : fnVcOK Tryz.prog Tryz.f104 = true := by kernel_rfl
theorem nt_differ_agreeing_1 : Nat.ble 2 Tryz.f104.ntmps = true := by kernel_rfl
theorem meetsH_differ_agreeing_1 {g : GG} {pre : List ABlk} {a0 a1 : AV} {r : AV} {post : List PB} (hk : Nat.ble pre.length 24 = true) (h : vc_differ_agreeing_1 (Tz g) pre a0 a1 r post) : MeetsH (Tz g) f_differ_agreeing_1 pre [a0, a1] (.ret r) post :=
  meetsH_of_vc (C := Tz g) ann_differ_agreeing_1 hf_differ_agreeing_1 ok_differ_agreeing_1 nt_differ_agreeing_1 hk (pn := false) (Eq.mpr ((vcFn2_eq _ _ _ _ _ _ _ _).trans (vc_differ_agreeing_1_eq g pre a0 a1 r post)) h)
theorem meets_differ_agreeing_1 {g : GG} {a0 a1 : D} {r : Res} (h : vc_differ_agreeing_1 (Tz g) [] (.d a0) (.d a1) r.val (r.bl.map .upd)) : Meets (Tz g) f_differ_agreeing_1 [a0, a1] r := meetsH_differ_agreeing_1 rfl h
def ann_slices_IndexFunc_l_api_DifferSeen_api_DifferSeen : Nat → List Nat := fun n => match n with | 2 => [0, 1, 7, 8] | _ => []
def vc_slices_IndexFunc_l_api_DifferSeen_api_DifferSeen (P : Ctx) (pre : List ABlk) (a0 a1 : AV) (r : AV) (post : List PB) : Prop :=
  let h0 : Heap := numbered 0 pre
  LEN false a0 h0 fun v7 =>
  LOOP [a0, a1, v7, (.d (.num .i64 0))] h0 56 fun vs1 h2 next1 =>
  BIN 0 .lss (nth vs1 3) (nth vs1 2) fun v9 =>
  COND v9
  (IADDR 2 T_api_DifferSeen (nth vs1 0) (nth vs1 3) h2 fun v14 =>
  LOAD true 2 v14 h2 fun v15 =>
  CALLV P (nth vs1 1) [v15] 128 h2 (fun _ v16 h3 =>
  COND v16
  (POST (nth vs1 3) h3 pre r post)
  (BIN 0 .add (nth vs1 3) (.d (.num .i64 1)) fun v18 =>
  next1 [(nth vs1 0), (nth vs1 1), (nth vs1 2), v18] h3))
  (fun _ _ _ => False))
  (POST (.d (.num .i64 (-1))) h2 pre r post)
theorem vc_slices_IndexFunc_l_api_DifferSeen_api_DifferSeen_eq (g : GG) (pre : List ABlk) (a0 a1 : AV) (r : AV) (post : List PB) : vcFn2 (Tz g) false ann_slices_IndexFunc_l_api_DifferSeen_api_DifferSeen Tryz.f122 pre [a0, a1] (.ret r) post = vc_slices_IndexFunc_l_api_DifferSeen_api_DifferSeen (Tz g) pre a0 a1 r post := by kernel_rfl
theorem hf_slices_IndexFunc_l_api_DifferSeen_api_DifferSeen : Tryz.prog.funcs[f_slices_IndexFunc_l_api_DifferSeen_api_DifferSeen]? = some Tryz.f122 := by kernel_rfl
theorem ok_slices_IndexFunc_l_api_DifferSeen_api_DifferSeen : fnVcOK Tryz.prog Tryz.f122 = true := by kernel_rfl
theorem nt_slices_IndexFunc_l_api_DifferSeen_api_DifferSeen : Nat.ble 2 Tryz.f122.ntmps = true := by kernel_rfl
theorem meetsH_slices_IndexFunc_l_api_DifferSeen_api_DifferSeen {g : GG} {pre : List ABlk} {a0 a1 : AV} {r : AV} {post : List PB} (hk : Nat.ble pre.length 24 = true) (h : vc_slices_IndexFunc_l_api_DifferSeen_api_DifferSeen (Tz g) pre a0 a1 r post) : MeetsH (Tz g) f_slices_IndexFunc_l_api_DifferSeen_api_DifferSeen pre [a0, a1] (.ret r) post :=
  meetsH_of_vc (C := Tz g) ann_slices_IndexFunc_l_api_DifferSeen_api_DifferSeen hf_slices_IndexFunc_l_api_DifferSeen_api_DifferSeen ok_slices_IndexFunc_l_api_DifferSeen_api_DifferSeen nt_slices_IndexFunc_l_api_DifferSeen_api_DifferSeen hk (pn := false) (Eq.mpr ((vcFn2_eq _ _ _ _ _ _ _ _).trans (vc_slices_IndexFunc_l_api_DifferSeen_api_DifferSeen_eq g pre a0 a1 r post)) h)
theorem meets_slices_IndexFunc_l_api_DifferSeen_api_DifferSeen {g : GG} {a0 a1 : D} {r : Res} (h : vc_slices_IndexFunc_l_api_DifferSeen_api_DifferSeen (Tz g) [] (.d a0) (.d a1) r.val (r.bl.map .upd)) : Meets (Tz g) f_slices_IndexFunc_l_api_DifferSeen_api_DifferSeen [a0, a1] r := meetsH_slices_IndexFunc_l_api_DifferSeen_api_DifferSeen rfl h
def ann_slices_ContainsFunc_l_api_DifferSeen_api_DifferSeen : Nat → List Nat := fun n => match n with  | _ => []
def vc_slices_ContainsFunc_l_api_DifferSeen_api_DifferSeen (P : Ctx) (pre : List ABlk) (a0 a1 : AV) (r : AV) (post : List PB) : Prop :=
  let h0 : Heap := numbered 0 pre
  CALL P f_slices_IndexFunc_l_api_DifferSeen_api_DifferSeen [a0, a1] 48 h0 (fun _ v7 h1 =>
  BIN 0 .geq v7 (.d (.num .i64 0)) fun v8 =>
  POST v8 h1 pre r post)
  (fun _ _ _ => False)
theorem vc_slices_ContainsFunc_l_api_DifferSeen_api_DifferSeen_eq (g : GG) (pre : List ABlk) (a0 a1 : AV) (r : AV) (post : List PB) : vcFn2 (Tz g) false ann_slices_ContainsFunc_l_api_DifferSeen_api_DifferSeen Tryz.f101 pre [a0, a1] (.ret r) post = vc_slices_ContainsFunc_l_api_DifferSeen_api_DifferSeen (Tz g) pre a0 a1 r post := by kernel_rfl
theorem hf_slices_ContainsFunc_l_api_DifferSeen_api_DifferSeen : Tryz.prog.funcs[f_slices_ContainsFunc_l_api_DifferSeen_api_DifferSeen]? = some Tryz.f101 := by kernel_rfl
theorem ok_slices_ContainsFunc_l_api_DifferSeen_api_DifferSeen : fnVcOK Tryz.prog Tryz.f101 = true := by kernel_rfl
theorem nt_slices_ContainsFunc_l_api_DifferSeen_api_DifferSeen : Nat.ble 2 Tryz.f101.ntmps = true := by kernel_rfl
theorem meetsH_slices_ContainsFunc_l_api_DifferSeen_api_DifferSeen {g : GG} {pre : List ABlk} {a0 a1 : AV} {r : AV} {post : List PB} (hk : Nat.ble pre.length 24 = true) (h : vc_slices_ContainsFunc_l_api_DifferSeen_api_DifferSeen (Tz g) pre a0 a1 r post) : MeetsH (Tz g) f_slices_ContainsFunc_l_api_DifferSeen_api_DifferSeen pre [a0, a1] (.ret r) post :=
  meetsH_of_vc (C := Tz g) ann_slices_ContainsFunc_l_api_DifferSeen_api_DifferSeen hf_slices_ContainsFunc_l_api_DifferSeen_api_DifferSeen ok_slices_ContainsFunc_l_api_DifferSeen_api_DifferSeen nt_slices_ContainsFunc_l_api_DifferSeen_api_DifferSeen hk (pn := false) (Eq.mpr ((vcFn2_eq _ _ _ _ _ _ _ _).trans (vc_slices_ContainsFunc_l_api_DifferSeen_api_DifferSeen_eq g pre a0 a1 r post)) h)
theorem meets_slices_ContainsFunc_l_api_DifferSeen_api_DifferSeen {g : GG} {a0 a1 : D} {r : Res} (h : vc_slices_ContainsFunc_l_api_DifferSeen_api_DifferSeen (Tz g) [] (.d a0) (.d a1) r.val (r.bl.map .upd)) : Meets (Tz g) f_slices_ContainsFunc_l_api_DifferSeen_api_DifferSeen [a0, a1] r := meetsH_slices_ContainsFunc_l_api_DifferSeen_api_DifferSeen rfl h
end Go.Vc

namespace Go.Vc
open Go Go.Proofs
variable {g : GG}
attribute [local simp] and_assoc
theorem CALLG.gen {P : Ctx} {cal : Cal} {args : List AV} {new : Nat} {h : Heap} {K KP : List Nat → AV → Heap → Prop} (ks : List Nat) (cal' : Cal) (cs : List Bool) (args' : List AV) (pre : List ABlk) (v : AV) (post : List PB) (h1 : MeetsC P pre args' (.ret v) post cal')
    (h2 : NodupB ks = true) (hc : cal = cal'.ren (rho ks new)) (h3 : argsM (bodyOf h) (rho ks new) cs args args') (h4 : preB (bodyOf h) (rho ks new) ks pre) (h5 : lowL ks.length (cal'.ids ++ ids.idsL args' ++ preIds pre) = true) (h6 : disjB (lentL cs args) ks = true) (h7 : pre.length ≤ post.length ∧ post.length ≤ pre.length + 8)
    (h8 : K (ids.idsL args ++ cal.ids ++ ks) (v.ren (rho ks new)) (upsP (rho ks new) post 0 ++ kills (lentL cs args) ++ h)) : CALLG P cal args new h K KP :=
  ⟨ids.idsL args ++ cal.ids ++ ks, .ok (v.ren (rho ks new)) (upsP (rho ks new) post 0 ++ kills (lentL cs args)), ⟨ks, cal', cs, args', pre, .ret v, post, true, h1, h2, hc, h3, h4, h5, h6, h7.1, h7.2, rfl, fun h => (by cases h), rfl⟩, h8⟩
structure Sn where
  row : Int
  value : Int
def Sn.d (s : Sn) : D := .agg [int s.row, int s.value]
abbrev seens (l : List Sn) : D := .list (l.map Sn.d)
@[simp] theorem Sn_cells (s : Sn) : s.d.cells.length = 2 := rfl
theorem index_seens_meets (ls : List Sn) (f : FuncId) (c : D) (q : Sn → Bool) (hf : ∀ l, l ∈ ls → Meets (Tz g) f [l.d, c] ⟨.d (.bool (q l)), []⟩) (hl : ls.length ≤ 1000) : Meets (Tz g) f_slices_IndexFunc_l_api_DifferSeen_api_DifferSeen [seens ls, .fn f [] [c]] ⟨.d (int (idx q ls 0)), []⟩ := by
  refine meets_slices_IndexFunc_l_api_DifferSeen_api_DifferSeen ?_
  unfold vc_slices_IndexFunc_l_api_DifferSeen_api_DifferSeen
  simp
  refine LOOP.mk Nat (fun k => [.d (seens ls), .d (.fn f [] [c]), .d (int ls.length), .d (int k)]) (fun _ => []) (fun k => k ≤ ls.length ∧ idx q ls 0 = idx q (ls.drop k) k) (fun k => ls.length - k) [] (by simp) 0 (by simp) (by simp [WEAK]) (fun _ _ => rfl) ?_
  rintro k ⟨hk, he⟩
  simp
  constructor
  · intro hlt
    have hg : ls[k]? = some ls[k] := List.getElem?_eq_getElem hlt
    have hm : ls[k] ∈ ls := List.getElem_mem hlt
    generalize ls[k] = l at hg hm
    simp [hg]
    refine CALL.val [l.d, c] _ (by simp [Sn.d]) (hf l hm) (.inl rfl) ?_
    rw [idx_drop q ls k _ hg] at he
    simp
    constructor
    · intro hq
      simp [hq] at he
      exact he.symm
    · intro hq
      simp [hq] at he
      rw [wrap_id (by omega) (by omega)]
      exact ⟨k + 1, by omega, by simpa using he, by simp [WEAK], by omega⟩
  · intro hge
    have : k = ls.length := by omega
    subst this
    simp [idx] at he
    exact he.symm
theorem contains_seens_meets (ls : List Sn) (f : FuncId) (c : D) (q : Sn → Bool) (hf : ∀ l, l ∈ ls → Meets (Tz g) f [l.d, c] ⟨.d (.bool (q l)), []⟩) (hl : ls.length ≤ 1000) : Meets (Tz g) f_slices_ContainsFunc_l_api_DifferSeen_api_DifferSeen [seens ls, .fn f [] [c]] ⟨.d (.bool (ls.any q)), []⟩ := by
  refine meets_slices_ContainsFunc_l_api_DifferSeen_api_DifferSeen ?_
  unfold vc_slices_ContainsFunc_l_api_DifferSeen_api_DifferSeen
  refine CALL.val _ _ rfl (index_seens_meets ls f c q hf hl) (.inl rfl) ?_
  simp [← idx_any q ls 0 (by omega)]
theorem agreeing_1_meets (x : Sn) (l : List Int) (hr : 0 ≤ x.row ∧ x.row < l.length) : Meets (Tz g) f_differ_agreeing_1 [x.d, .cp [ints l]] ⟨.d (.bool (!decide (l.getD x.row.toNat 0 = x.value))), []⟩ := by
  refine meets_differ_agreeing_1 ?_
  unfold vc_differ_agreeing_1
  have hk : x.row.toNat < l.length := by omega
  have hg : l[x.row.toNat]? = some l[x.row.toNat] := List.getElem?_eq_getElem hk
  simp [Sn.d, ints, hg]
  exact ⟨hr.1, rfl⟩
set_option maxHeartbeats 1000000 in
theorem differ_values_data (p : Plan) (t : List Int) (n : Nat) (hn : p.rows = n) (hn2 : n ≤ 12) (hl : 1 ≤ t.length) (hl2 : t.length ≤ 1000) (hb : ∀ x, x ∈ t → -1000000000 ≤ x ∧ x ≤ 1000000000) :
    Meets (Tz g) f_differ_table_values [tabD p t] ⟨.d (ints (heads t n)), []⟩ := by
  refine meets_differ_table_values ?_
  unfold vc_differ_table_values
  simp [tabD, ints, spans]
  refine LOOP.mk Nat (fun k => [.ptr 24 0 0 0, .own 80 k, .d (int p.rows), .d (int k)]) (fun k => [(80, some ⟨k, T_int, .lst ((heads t k).map int)⟩), (24, some ⟨0, T_differ_table, .box [.d (spans p.starts), .d (int p.rows), .d (int p.guard), .d (ints t)]⟩)]) (fun k => k ≤ n) (fun k => n - k) [(1, T_int)] (by simp) 0 (by omega) (by simp [WEAK, heads, spans, ints]) (fun _ _ => rfl) ?_
  intro k hk
  simp
  constructor
  · intro hlt
    refine CALL.mk _ _ rfl (differ_state_meets p t k hl hl2 (by omega) hb) (.inl rfl) (by simp) ?_
    have hlen := afterL_length t k
    have hg : (afterL k t)[0]? = some ((afterL k t).headD 0) := by
      cases h : afterL k t with
      | nil => rw [h] at hlen; simp at hlen; omega
      | cons a r => simp
    simp [hg]
    rw [wrap_id (n := (k : Int) + 1) (by omega) (by omega)]
    refine ⟨by omega, by simp [heads]; omega, k + 1, by omega, ?_, by omega⟩
    simp [WEAK, heads, List.range_succ]
  · intro hge
    have : k = n := by omega
    subst this
    simp
def fitsB (p : Plan) (sn : List Sn) (t : List Int) : Bool := !sn.any fun x => !decide ((heads t p.rows.toNat).getD x.row.toNat 0 = x.value)
noncomputable def loopL (i j : Nat) : LoopA := ⟨.ready, none, 22, [(3, .ptr i 0 0 0), (5, .ptr j 0 0 0)], [10], rfA_differ_agreeing, rfB_differ_agreeing⟩
noncomputable def S0 (sn : List Sn) (xs : List D) : List ABlk := [⟨0, 0, .loop (loopL 1 2)⟩, ⟨0, T_l_api_DifferSeen, .box [.d (seens sn)]⟩, ⟨0, T_l_differ_table, .box [.own 3 xs.length]⟩, ⟨xs.length, T_differ_table, .lst xs⟩]
def addT (p : Plan) (sn : List Sn) (t : List Int) : List D := match fitsB p sn t with | true => [tabD p t] | false => []
set_option maxHeartbeats 1000000 in
theorem round_meets (p : Plan) (sn : List Sn) (xs : List D) (t : List Int) (n : Nat) (hn : p.rows = n) (hn2 : n ≤ 12) (hl : 1 ≤ t.length) (hl2 : t.length ≤ 1000) (hb : ∀ x, x ∈ t → -1000000000 ≤ x ∧ x ≤ 1000000000) (hs : ∀ x, x ∈ sn → 0 ≤ x.row ∧ x.row < n) (hsl : sn.length ≤ 1000) (hx : xs.length < 1000000) :
    MeetsY (Tz g) 0 (S0 sn xs) [.d (tabD p t)] (.ret (.d (.bool true))) ((S0 sn (xs ++ addT p sn t)).map .upd) := by
  refine meetsY_differ_agreeing (k3 := .ptr 1 0 0 0) (k5 := .ptr 2 0 0 0) (e := 0) (by simp [S0, loopL]) rfl ?_
  unfold vcr_differ_agreeing
  have hh : (heads t n).length = n := by simp [heads]
  simp [S0, tabD, RDA, loopL]
  refine CALL.mk [tabD p t] _ (by simp [tabD]) (differ_values_data p t n hn hn2 hl hl2 hb) (.inl rfl) (by simp) ?_
  simp [ints]
  refine CALL.data [seens sn, .fn f_differ_agreeing_1 [] [.cp [ints (heads t n)]]] _ (by simp [ints]) (contains_seens_meets sn _ _ (fun x => !decide ((heads t n).getD x.row.toNat 0 = x.value)) (fun x hxm => agreeing_1_meets x _ (by rw [hh]; exact hs x hxm)) hsl) ?_
  simp
  have hpn : p.rows.toNat = n := by omega
  constructor
  · intro hq
    have hf : fitsB p sn t = true := by simp [fitsB, hpn]; exact hq
    simp [RDB, addT, hf, stOf, tabD]
    refine ⟨by omega, ?_⟩
    exact ⟨[], by simp [ENDR, yv, yv.yvL, yh, yb, yver, yvT, bodyOf, fz, fz.fzL, fzH, fzB, fzT, stay, src, lookH, NodupB, disjB, argD, toD, ints]⟩
  · intro x hx1 hx2
    have hf : fitsB p sn t = false := by simp [fitsB, hpn]; exact ⟨x, hx1, hx2⟩
    simp [RDB, addT, hf, stOf]
    exact ⟨[], by simp [ENDR, yv, yv.yvL, yh, yb, yver, yvT, bodyOf, fz, fz.fzL, fzH, fzB, fzT, stay, src, lookH, NodupB, disjB, argD, toD]⟩
end Go.Vc

namespace Go.Vc
open Go Go.Proofs
variable {g : GG}
attribute [local simp] and_assoc
def widthN (s : Sp) : Nat := (s.high - s.low + 1).toNat
def truthsL : List Sp → List Int → List (List Int)
  | [], now => [now]
  | s :: r, now => (List.range (widthN s)).flatMap fun (i : Nat) => truthsL r (now ++ [s.low + (i : Int)])
def aggL (p : Plan) (sn : List Sn) (rest : List Sp) (now : List Int) : List D := (truthsL rest now).flatMap (addT p sn)
theorem aggL_cons (p : Plan) (sn : List Sn) (s : Sp) (r : List Sp) (now : List Int) : aggL p sn (s :: r) now = (List.range (widthN s)).flatMap fun (i : Nat) => aggL p sn r (now ++ [s.low + (i : Int)]) := by
  simp [aggL, truthsL, List.flatMap_assoc]
theorem addT_len (p : Plan) (sn : List Sn) (t : List Int) : (addT p sn t).length ≤ 1 := by
  unfold addT
  split <;> simp
theorem flatMap_len {α β : Type} (f : α → List β) (q : Nat) : ∀ (l : List α), (∀ x, x ∈ l → (f x).length ≤ q) → (l.flatMap f).length ≤ l.length * q
  | [], _ => by simp
  | x :: r, h => by
    have h1 := h x (by simp)
    have h2 := flatMap_len f q r (fun y hy => h y (by simp [hy]))
    simp only [List.flatMap_cons, List.length_append, List.length_cons, Nat.succ_mul]
    omega
theorem aggL_len (p : Plan) (sn : List Sn) : ∀ (rest : List Sp) (now : List Int), (∀ s, s ∈ rest → startB s = true) → (aggL p sn rest now).length ≤ 7 ^ rest.length
  | [], now, _ => by simp [aggL, truthsL]; exact addT_len p sn now
  | s :: r, now, h => by
    have hs := h s (by simp)
    simp [startB, inB] at hs
    have hw : widthN s ≤ 7 := by unfold widthN; omega
    rw [aggL_cons]
    have h1 := flatMap_len (fun i : Nat => aggL p sn r (now ++ [s.low + (i : Int)])) (7 ^ r.length) (List.range (widthN s)) (fun i _ => aggL_len p sn r _ (fun x hx => h x (by simp [hx])))
    simp only [List.length_range] at h1
    refine Nat.le_trans h1 ?_
    simp only [List.length_cons, Nat.pow_succ]
    rw [Nat.mul_comm (7 ^ r.length) 7]
    exact Nat.mul_le_mul_right _ hw
noncomputable def S1 (p : Plan) (sn : List Sn) (xs : List D) : List ABlk := [⟨0, T_func_differ_table_bool, .box [.yld 2]⟩, ⟨0, T_func_l_int_bool, .box [.fn f_differ_truths_1_1 [] [.d (planC p), .ptr 0 0 0 0, .ptr 1 0 0 0]]⟩, ⟨0, 0, .loop (loopL 3 4)⟩, ⟨0, T_l_api_DifferSeen, .box [.d (seens sn)]⟩, ⟨0, T_l_differ_table, .box [.own 5 xs.length]⟩, ⟨xs.length, T_differ_table, .lst xs⟩]
set_option maxHeartbeats 2000000 in
theorem put_meets (p : Plan) (sn : List Sn) (n : Nat) (hn : p.rows = n) (hn2 : n ≤ 12) (hp : p.starts.length ≤ 4 ∧ 1 ≤ p.starts.length) (hst : ∀ s, s ∈ p.starts → startB s = true) (hs : ∀ x, x ∈ sn → 0 ≤ x.row ∧ x.row < n) (hsl : sn.length ≤ 1000) :
    ∀ (rest : List Sp) (now : List Int) (xs : List D), p.starts.drop now.length = rest → now.length ≤ p.starts.length → (∀ x, x ∈ now → -1000000000 ≤ x ∧ x ≤ 1000000000) → xs.length + 7 ^ rest.length ≤ 1000000 →
      MeetsH (Tz g) f_differ_truths_1_1 (S1 p sn xs) [.d (ints now), .d (planC p), .ptr 0 0 0 0, .ptr 1 0 0 0] (.ret (.d (.bool true))) ((S1 p sn (xs ++ aggL p sn rest now)).map .upd) := by
  intro rest
  induction rest with
  | nil =>
    intro now xs hd hle hb hx
    have hlen : now.length = p.starts.length := by
      have := congrArg List.length hd
      simp at this
      omega
    refine meetsH_differ_truths_1_1 rfl ?_
    unfold vc_differ_truths_1_1
    simp [S1, planC, ints, spans, hlen]
    refine CALLG.gen [2, 3, 4, 5] (.yld 0) [true] [.d (tabD p now)] (S0 sn xs) _ _ (round_meets p sn xs now n hn hn2 (by omega) (by omega) hb hs hsl (by simp at hx; omega)) rfl rfl (by simp [argsM, tabD, argD, toD, ints, spans]) ?_ ?_ ?_ ?_ ?_
    · simp [preB, S0, loopL, rho, bodyOf, lookH, Body.ren, AV.ren, AV.ren.renL, renT]
    · simp [Cal.ids, ids.idsL, ids, preIds, S0, loopL, Body.ids, tmpIds, lowL]
    · simp [lentL, ids, disjB]
    · simp [S0]
    · simp [aggL, truthsL]
      exact ⟨[], by simp [S0, upsP, rho, ABlk.ren, Body.ren, AV.ren, AV.ren.renL, renT, loopL, ENDR, yv, yv.yvL, yh, yb, yver, yvT, bodyOf, fz, fz.fzL, fzH, fzB, fzT, stay, src, lookH, NodupB, disjB, argD, toD]⟩
  | cons s r ih =>
    intro now xs hd hle hb hx
    have hlen : now.length + (r.length + 1) = p.starts.length := by
      have := congrArg List.length hd
      simp at this
      omega
    have hne : ¬ now.length = p.starts.length := by omega
    have hg : p.starts[now.length]? = some s := by
      have := congrArg List.head? hd
      simpa using this
    have hsm : s ∈ p.starts := List.mem_of_getElem? hg
    have hsb := hst s hsm
    simp [startB, inB] at hsb
    refine meetsH_differ_truths_1_1 rfl ?_
    unfold vc_differ_truths_1_1
    have hz : ¬ ((now.length : Int) = (p.starts.length : Int)) := by omega
    simp [S1, planC, ints, spans, hg, hz, Sp.d]
    refine LOOP.mk Nat (fun j => [.d (ints now), .ptr 1 0 0 0, .ptr 128 0 0 0, .d (int (s.low + (j : Int)))])
      (fun j => (128, some ⟨0, T_api_Span, .box [.d (int s.low), .d (int s.high)]⟩) :: numbered 0 (S1 p sn (xs ++ (List.range j).flatMap fun (i : Nat) => aggL p sn r (now ++ [s.low + (i : Int)]))))
      (fun j => j ≤ widthN s) (fun j => widthN s - j) [] (by simp) 0 (by omega) (by simp [WEAK, ints, S1, numbered, lookH, planC, spans]) (fun _ _ => rfl) ?_
    intro j hj
    obtain ⟨ys, hys⟩ : ∃ ys, ys = xs ++ (List.range j).flatMap fun (i : Nat) => aggL p sn r (now ++ [s.low + (i : Int)]) := ⟨_, rfl⟩
    have hq : widthN s ≤ 7 := by unfold widthN; omega
    have hyl : ys.length ≤ xs.length + j * 7 ^ r.length := by
      have := flatMap_len (fun (i : Nat) => aggL p sn r (now ++ [s.low + (i : Int)])) (7 ^ r.length) (List.range j) (fun i _ => aggL_len p sn r _ (fun x hx => hst x (List.mem_of_mem_drop (hd ▸ List.mem_cons_of_mem _ hx))))
      rw [hys]
      simpa using this
    rw [← hys]
    simp [S1, numbered, planC, spans, ints]
    constructor
    · intro hlt
      refine CALL.mk [ints now] _ rfl (clone_ints_meets now (by omega)) (.inl rfl) (by simp) ?_
      simp
      refine ⟨by omega, ?_⟩
      have hd2 : p.starts.drop (now ++ [s.low + (j : Int)]).length = r := by
        have := congrArg List.tail hd
        simpa using this
      have hjw : j < widthN s := by unfold widthN; omega
      have hyl2 : ys.length + 7 ^ r.length ≤ 1000000 := by
        have h1 : (j + 1) * 7 ^ r.length ≤ 7 * 7 ^ r.length := Nat.mul_le_mul_right _ (by omega)
        simp only [List.length_cons, Nat.pow_succ] at hx
        rw [Nat.succ_mul] at h1
        omega
      refine CALL.gen [0, 1, 2, 3, 4, 5] [true, false, false, false] [.d (ints (now ++ [s.low + (j : Int)])), .d (planC p), .ptr 0 0 0 0, .ptr 1 0 0 0] (S1 p sn ys) _ _ (ih (now ++ [s.low + (j : Int)]) ys hd2 (by simp; omega) (fun x hx => by
        rcases List.mem_append.1 hx with hx | hx
        · exact hb x hx
        · simp at hx; omega) hyl2) rfl (by simp [argsM, argD, toD, ints, bodyOf, lookH, planC, spans, AV.ren, rho]) ?_ ?_ ?_ ?_ ?_
      · simp [preB, S1, loopL, rho, bodyOf, lookH, Body.ren, AV.ren, AV.ren.renL, renT, planC, spans]
      · simp [ids.idsL, ids, preIds, S1, loopL, Body.ids, tmpIds, lowL]
      · simp [lentL, ids, disjB]
      · simp [S1]
      · simp [AV.ren, S1, upsP, rho, ABlk.ren, Body.ren, AV.ren.renL, renT, loopL, lentL, kills]
        refine ⟨rfl, ?_⟩
        rw [wrap_id (n := s.low + (j : Int) + 1) (by omega) (by omega)]
        refine ⟨j + 1, by omega, ?_, by omega⟩
        rw [List.range_succ]
        simp only [List.flatMap_append, List.flatMap_cons, List.flatMap_nil, List.append_nil, ← List.append_assoc]
        rw [← hys]
        simp [WEAK, lookH, planC, spans]
        have hyl3 := congrArg List.length hys
        simp at hyl3
        exact ⟨by omega, by omega⟩
    · intro hge
      have hjw : j = widthN s := by unfold widthN at hj ⊢; omega
      subst hjw
      have hyl3 := congrArg List.length hys
      simp at hyl3
      rw [aggL_cons, ← hys]
      exact ⟨[], by simp [loopL, ENDR, yv, yv.yvL, yh, yb, yver, yvT, bodyOf, fz, fz.fzL, fzH, fzB, fzT, stay, src, lookH, NodupB, disjB, argD, toD]; omega⟩
end Go.Vc

namespace Go.Vc
open Go Go.Proofs
variable {g : GG}
attribute [local simp] and_assoc
set_option maxHeartbeats 2000000 in
theorem truths_1_meets (p : Plan) (sn : List Sn) (n : Nat) (hok : p.ok = true) (hn : p.rows = n) (hs : ∀ x, x ∈ sn → 0 ≤ x.row ∧ x.row < n) (hsl : sn.length ≤ 1000) :
    MeetsH (Tz g) f_differ_truths_1 (S0 sn []) [.yld 0, .d (planC p)] (.ret (.tup [])) ((S0 sn (aggL p sn p.starts [])).map .upd) := by
  obtain ⟨a1, a2, a3, a4, a5⟩ := Plan.ok_len hok
  refine meetsH_differ_truths_1 rfl ?_
  unfold vc_differ_truths_1
  have h7 : 7 ^ p.starts.length ≤ 7 ^ 4 := Nat.pow_le_pow_right (by omega) a2
  simp [S0]
  refine CALL.gen [24, 32, 0, 1, 2, 3] [true, false, false, false] [.d (ints []), .d (planC p), .ptr 0 0 0 0, .ptr 1 0 0 0] (S1 p sn []) _ _ (put_meets p sn n hn (by omega) ⟨a2, a1⟩ a5 hs hsl p.starts [] [] rfl (by simp) (by simp) (by simp; omega)) rfl (by simp [argsM, argD, toD, ints, AV.ren, rho]) ?_ ?_ ?_ ?_ ?_
  · simp [preB, S1, loopL, rho, bodyOf, lookH, Body.ren, AV.ren, AV.ren.renL, renT, planC, spans]
  · simp [ids.idsL, ids, preIds, S1, loopL, Body.ids, tmpIds, lowL]
  · simp [lentL, ids, disjB]
  · simp [S1]
  · simp [AV.ren, S1, upsP, rho, ABlk.ren, Body.ren, AV.ren.renL, renT, loopL, lentL, kills]
    exact ⟨[], by simp [ENDR, yv, yv.yvL, yh, yb, yver, yvT, bodyOf, fz, fz.fzL, fzH, fzB, fzT, stay, src, lookH, NodupB, disjB, argD, toD]⟩
theorem truths_meets (p : Plan) : Meets (Tz g) f_differ_truths [p.d] ⟨.d (.fn f_differ_truths_1 [] [planC p]), []⟩ := by
  refine meets_differ_truths ?_
  unfold vc_differ_truths
  simp [Plan.d, planC, spans]
set_option maxHeartbeats 2000000 in
theorem agreeing_meets (p : Plan) (sn : List Sn) (n : Nat) (hok : p.ok = true) (hn : p.rows = n) (hs : ∀ x, x ∈ sn → 0 ≤ x.row ∧ x.row < n) (hsl : sn.length ≤ 1000) :
    Meets (Tz g) f_differ_agreeing [p.d, seens sn] ⟨.d (.list (aggL p sn p.starts [])), []⟩ := by
  refine meets_differ_agreeing ?_
  unfold vc_differ_agreeing
  simp [Plan.d, spans]
  refine CALL.val [p.d] _ rfl (truths_meets p) (.inl rfl) ?_
  simp [CALLF]
  have hw : MeetsH (Tz g) f_differ_truths_1 [⟨0, 0, .loop (loopL 1 2)⟩, ⟨0, T_l_api_DifferSeen, .box [.d (seens sn)]⟩, ⟨0, T_l_differ_table, .box [.zc]⟩] [.yld 0, .d (planC p)] (.ret (.tup [])) ((S0 sn (aggL p sn p.starts [])).map .upd) :=
    MeetsH.weak (truths_1_meets p sn n hok hn hs hsl) ⟨[none], by simp [S0, loopL, numbered, ENDR, yv, yv.yvL, yh, yb, yver, yvT, bodyOf, fz, fz.fzL, fzH, fzB, fzT, stay, src, lookH, NodupB, disjB, argD, toD]⟩ (by simp [S0, noSame]) (by simp)
  refine CALL.gen [72, 32, 48] [false, false] [.yld 0, .d (planC p)] _ _ _ hw rfl (by simp [argsM, AV.ren, rho]) ?_ ?_ ?_ ?_ ?_
  · simp [preB, loopL, rho, bodyOf, lookH, Body.ren, AV.ren, AV.ren.renL, renT]
  · simp [ids.idsL, ids, preIds, loopL, Body.ids, tmpIds, lowL]
  · simp [lentL, disjB]
  · simp [S0]
  · simp [AV.ren, S0, upsP, rho, ABlk.ren, Body.ren, AV.ren.renL, renT, loopL, lentL, kills, lookH]
end Go.Vc
