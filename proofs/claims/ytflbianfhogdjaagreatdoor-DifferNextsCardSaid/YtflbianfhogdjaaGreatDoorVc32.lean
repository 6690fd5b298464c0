/- A part of the proof: general laws of a reading of the model by abstract data, or contracts of the functions that the law calls. -/
import Derived.Test.YtflbianfhogdjaaGreatDoorVc22
import Derived.Test.YtflbianfhogdjaaGreatDoorVc11
import Derived.Test.YtflbianfhogdjaaGreatDoorVc27
set_option maxRecDepth 100000
namespace Go.Vc
open Go Go.Proofs Go.RowKit
def ann_differ_Climb : Nat → List Nat := fun n => match n with | 6 => [6, 7, 24, 25] | 8 => [6, 7, 8, 24, 25] | _ => []
def vc_differ_Climb (P : Ctx) (pre : List ABlk) (a0 a1 : AV) (r : AV) (post : List PB) : Prop :=
  let h0 : Heap := numbered 0 pre
  CALL P f_differ_isState [a0] 48 h0 (fun _ v10 h1 =>
  NOT v10 fun v11 =>
  CONDG v11
  (POST (.tup [.zc, (.d (.num .i64 2))]) h1 pre r post)
  (CALL P f_differ_in [a1, (.d (.num .i64 1)), (.d (.num .i64 12))] 80 h1 (fun _ v14 h3 =>
  NOT v14 fun v15 =>
  COND v15
  (POST (.tup [.zc, (.d (.num .i64 2))]) h3 pre r post)
  (CALL P f_slices_Clone_l_int_int [a0] 112 h3 (fun _ v18 h5 =>
  IADDR 1 T_int v18 (.d (.num .i64 0)) h5 fun v20 =>
  LOAD false 1 v20 h5 fun v21 =>
  MKS T_int 1 [v21] 152 h5 fun v22 h7 =>
  BIN 0 .sub a1 (.d (.num .i64 1)) fun v24 =>
  LOOP [v18, v22, v24, (.d (.num .i64 0))] h7 192 fun vs8 h9 next8 =>
  BIN 0 .lss (nth vs8 3) (nth vs8 2) fun v26 =>
  COND v26
  (LEN false (nth vs8 0) h9 fun v28 =>
  BIN 0 .sub v28 (.d (.num .i64 2)) fun v29 =>
  LOOP [(nth vs8 0), (nth vs8 1), v29, (nth vs8 2), (nth vs8 3)] h9 240 fun vs10 h11 next10 =>
  BIN 0 .geq (nth vs10 2) (.d (.num .i64 0)) fun v31 =>
  COND v31
  (IADDR 1 T_int (nth vs10 0) (nth vs10 2) h11 fun v36 =>
  LOAD false 1 v36 h11 fun v37 =>
  BIN 0 .add (nth vs10 2) (.d (.num .i64 1)) fun v40 =>
  IADDR 1 T_int (nth vs10 0) v40 h11 fun v41 =>
  LOAD false 1 v41 h11 fun v42 =>
  BIN 0 .sub v37 v42 fun v43 =>
  IADDR 1 T_int (nth vs10 0) (nth vs10 2) h11 fun v44 =>
  STORE 1 v44 v43 h11 fun h12 =>
  ORDX [] [0, 0, 3, 7, 0, 0, 32, 112, 240, 511, 1023, 2047] [(2, wr h11 h11, (ids (nth vs10 0))), (3, wr h11 h11, (ids v36)), (7, wr h11 h11, (ids (nth vs10 0))), (8, wr h11 h11, (ids v41)), (10, wr h11 h11, (ids (nth vs10 0))), (11, wr h11 h12, (ids v44))] ∧
  BIN 0 .sub (nth vs10 2) (.d (.num .i64 1)) fun v33 =>
  next10 [(nth vs10 0), (nth vs10 1), v33, (nth vs10 3), (nth vs10 4)] h12)
  (IADDR 1 T_int (nth vs10 0) (.d (.num .i64 0)) h11 fun v47 =>
  LOAD false 1 v47 h11 fun v48 =>
  MKS T_int 1 [v48] 296 h11 fun v49 h13 =>
  APP T_int 1 (nth vs10 1) v49 304 h13 fun v50 h14 =>
  BIN 0 .add (nth vs10 4) (.d (.num .i64 1)) fun v51 =>
  next8 [(nth vs10 0), v50, (nth vs10 3), v51] h14))
  (CALL P f_slices_Reverse_l_int_int [(nth vs8 1)] 216 h9 (fun _ v53 h15 =>
  POST (.tup [(nth vs8 1), (.d (.num .i64 0))]) h15 pre r post)
  (fun _ _ _ => False)))
  (fun _ _ _ => False)))
  (fun _ _ _ => False)))
  (fun _ _ _ => False)
theorem vc_differ_Climb_eq (g : GG) (pre : List ABlk) (a0 a1 : AV) (r : AV) (post : List PB) : vcFn2 (Tz g) false ann_differ_Climb Tryz.f55 pre [a0, a1] (.ret r) post = vc_differ_Climb (Tz g) pre a0 a1 r post := by kernel_rfl
theorem hf_differ_Climb : Tryz.prog.funcs[f_differ_Climb]? = some Tryz.f55 := by kernel_rfl
theorem ok_differ_Climb : fnVcOK Tryz.prog Tryz.f55 = true := by kernel_rfl
theorem nt_differ_Climb : Nat.ble 2 Tryz.f55.ntmps = true := by kernel_rfl
theorem meetsH_differ_Climb {g : GG} {pre : List ABlk} {a0 a1 : AV} {r : AV} {post : List PB} (hk : Nat.ble pre.length 24 = true) (h : vc_differ_Climb (Tz g) pre a0 a1 r post) : MeetsH (Tz g) f_differ_Climb pre [a0, a1] (.ret r) post :=
  meetsH_of_vc (C := Tz g) ann_differ_Climb hf_differ_Climb ok_differ_Climb nt_differ_Climb hk (pn := false) (Eq.mpr ((vcFn2_eq _ _ _ _ _ _ _ _).trans (vc_differ_Climb_eq g pre a0 a1 r post)) h)
theorem meets_differ_Climb {g : GG} {a0 a1 : D} {r : Res} (h : vc_differ_Climb (Tz g) [] (.d a0) (.d a1) r.val (r.bl.map .upd)) : Meets (Tz g) f_differ_Climb [a0, a1] r := meetsH_differ_Climb rfl h
def ann_ref01_Size : Nat → List Nat := fun n => match n with  | _ => []
def vc_ref01_Size (P : Ctx) (pre : List ABlk) (a0 a1 : AV) (r : AV) (post : List PB) : Prop :=
  let h0 : Heap := numbered 0 pre
  BOX T_api_DifferPlan a0 24 h0 fun v2 h1 =>
  FADDR 1 v2 h1 fun v6 =>
  LOAD false 1 v6 h1 fun v7 =>
  CALL P f_ref01_in [a1, (.d (.num .i64 1)), v7] 64 h1 (fun _ v8 h2 =>
  POST v8 h2 pre r post)
  (fun _ _ _ => False)
theorem vc_ref01_Size_eq (g : GG) (pre : List ABlk) (a0 a1 : AV) (r : AV) (post : List PB) : vcFn2 (Tz g) false ann_ref01_Size Tryz.f14 pre [a0, a1] (.ret r) post = vc_ref01_Size (Tz g) pre a0 a1 r post := by kernel_rfl
theorem hf_ref01_Size : Tryz.prog.funcs[f_ref01_Size]? = some Tryz.f14 := by kernel_rfl
theorem ok_ref01_Size : fnVcOK Tryz.prog Tryz.f14 = true := by kernel_rfl
theorem nt_ref01_Size : Nat.ble 2 Tryz.f14.ntmps = true := by kernel_rfl
theorem meetsH_ref01_Size {g : GG} {pre : List ABlk} {a0 a1 : AV} {r : AV} {post : List PB} (hk : Nat.ble pre.length 24 = true) (h : vc_ref01_Size (Tz g) pre a0 a1 r post) : MeetsH (Tz g) f_ref01_Size pre [a0, a1] (.ret r) post :=
  meetsH_of_vc (C := Tz g) ann_ref01_Size hf_ref01_Size ok_ref01_Size nt_ref01_Size hk (pn := false) (Eq.mpr ((vcFn2_eq _ _ _ _ _ _ _ _).trans (vc_ref01_Size_eq g pre a0 a1 r post)) h)
theorem meets_ref01_Size {g : GG} {a0 a1 : D} {r : Res} (h : vc_ref01_Size (Tz g) [] (.d a0) (.d a1) r.val (r.bl.map .upd)) : Meets (Tz g) f_ref01_Size [a0, a1] r := meetsH_ref01_Size rfl h
def ann_differ_isState : Nat → List Nat := fun n => match n with  | _ => []
def vc_differ_isState (P : Ctx) (pre : List ABlk) (a0 : AV) (r : AV) (post : List PB) : Prop :=
  let h0 : Heap := numbered 0 pre
  LEN false a0 h0 fun v4 =>
  CALL P f_differ_in [v4, (.d (.num .i64 1)), (.d (.num .i64 4))] 48 h0 (fun _ v5 h1 =>
  CONDG v5
  (CALL P f_slices_ContainsFunc_l_int_int [a0, (.d (.fn f_differ_isState_1 [] []))] 72 h1 (fun _ v8 h3 =>
  NOT v8 fun v9 =>
  POST v9 h3 pre r post)
  (fun _ _ _ => False))
  (POST (.d (.bool false)) h1 pre r post))
  (fun _ _ _ => False)
theorem vc_differ_isState_eq (g : GG) (pre : List ABlk) (a0 : AV) (r : AV) (post : List PB) : vcFn2 (Tz g) false ann_differ_isState Tryz.f93 pre [a0] (.ret r) post = vc_differ_isState (Tz g) pre a0 r post := by kernel_rfl
theorem hf_differ_isState : Tryz.prog.funcs[f_differ_isState]? = some Tryz.f93 := by kernel_rfl
theorem ok_differ_isState : fnVcOK Tryz.prog Tryz.f93 = true := by kernel_rfl
theorem nt_differ_isState : Nat.ble 1 Tryz.f93.ntmps = true := by kernel_rfl
theorem meetsH_differ_isState {g : GG} {pre : List ABlk} {a0 : AV} {r : AV} {post : List PB} (hk : Nat.ble pre.length 24 = true) (h : vc_differ_isState (Tz g) pre a0 r post) : MeetsH (Tz g) f_differ_isState pre [a0] (.ret r) post :=
  meetsH_of_vc (C := Tz g) ann_differ_isState hf_differ_isState ok_differ_isState nt_differ_isState hk (pn := false) (Eq.mpr ((vcFn2_eq _ _ _ _ _ _ _ _).trans (vc_differ_isState_eq g pre a0 r post)) h)
theorem meets_differ_isState {g : GG} {a0 : D} {r : Res} (h : vc_differ_isState (Tz g) [] (.d a0) r.val (r.bl.map .upd)) : Meets (Tz g) f_differ_isState [a0] r := meetsH_differ_isState rfl h
def ann_differ_isState_1 : Nat → List Nat := fun n => match n with  | _ => []
def vc_differ_isState_1 (P : Ctx) (pre : List ABlk) (a0 : AV) (r : AV) (post : List PB) : Prop :=
  let h0 : Heap := numbered 0 pre
  CALL P f_differ_in [a0, (.d (.num .i64 (-1000000000))), (.d (.num .i64 1000000000))] 40 h0 (fun _ v4 h1 =>
  NOT v4 fun v5 =>
  POST v5 h1 pre r post)
  (fun _ _ _ => False)
theorem vc_differ_isState_1_eq (g : GG) (pre : List ABlk) (a0 : AV) (r : AV) (post : List PB) : vcFn2 (Tz g) false ann_differ_isState_1 Tryz.f119 pre [a0] (.ret r) post = vc_differ_isState_1 (Tz g) pre a0 r post := by kernel_rfl
theorem hf_differ_isState_1 : Tryz.prog.funcs[f_differ_isState_1]? = some Tryz.f119 := by kernel_rfl
theorem ok_differ_isState_1 : fnVcOK Tryz.prog Tryz.f119 = true := by kernel_rfl
theorem nt_differ_isState_1 : Nat.ble 1 Tryz.f119.ntmps = true := by kernel_rfl
theorem meetsH_differ_isState_1 {g : GG} {pre : List ABlk} {a0 : AV} {r : AV} {post : List PB} (hk : Nat.ble pre.length 24 = true) (h : vc_differ_isState_1 (Tz g) pre a0 r post) : MeetsH (Tz g) f_differ_isState_1 pre [a0] (.ret r) post :=
  meetsH_of_vc (C := Tz g) ann_differ_isState_1 hf_differ_isState_1 ok_differ_isState_1 nt_differ_isState_1 hk (pn := false) (Eq.mpr ((vcFn2_eq _ _ _ _ _ _ _ _).trans (vc_differ_isState_1_eq g pre a0 r post)) h)
theorem meets_differ_isState_1 {g : GG} {a0 : D} {r : Res} (h : vc_differ_isState_1 (Tz g) [] (.d a0) r.val (r.bl.map .upd)) : Meets (Tz g) f_differ_isState_1 [a0] r := meetsH_differ_isState_1 rfl h
def ann_slices_Reverse_l_int_int : Nat → List Nat := fun n => match n with | 1 => [0, 2, 3] | _ => []
def vc_slices_Reverse_l_int_int (P : Ctx) (pre : List ABlk) (a0 : AV) (r : AV) (post : List PB) : Prop :=
  let h0 : Heap := numbered 0 pre
  LEN false a0 h0 fun v5 =>
  BIN 0 .sub v5 (.d (.num .i64 1)) fun v6 =>
  LOOP [a0, (.d (.num .i64 0)), v6] h0 64 fun vs1 h2 next1 =>
  BIN 0 .lss (nth vs1 1) (nth vs1 2) fun v9 =>
  COND v9
  (IADDR 1 T_int (nth vs1 0) (nth vs1 2) h2 fun v20 =>
  LOAD false 1 v20 h2 fun v21 =>
  IADDR 1 T_int (nth vs1 0) (nth vs1 1) h2 fun v24 =>
  LOAD false 1 v24 h2 fun v25 =>
  IADDR 1 T_int (nth vs1 0) (nth vs1 1) h2 fun v26 =>
  STORE 1 v26 v21 h2 fun h3 =>
  IADDR 1 T_int (nth vs1 0) (nth vs1 2) h3 fun v27 =>
  STORE 1 v27 v25 h3 fun h4 =>
  ORDX [] [0, 0, 0, 0, 0, 0, 48, 112, 0, 0, 768, 1792, 4083, 8179, 16383, 32767] [(6, wr h2 h2, (ids (nth vs1 0))), (7, wr h2 h2, (ids v20)), (10, wr h2 h2, (ids (nth vs1 0))), (11, wr h2 h2, (ids v24)), (12, wr h2 h2, (ids (nth vs1 0))), (13, wr h2 h3, (ids v26)), (14, wr h3 h3, (ids (nth vs1 0))), (15, wr h3 h4, (ids v27))] ∧
  BIN 0 .add (nth vs1 1) (.d (.num .i64 1)) fun v11 =>
  BIN 0 .sub (nth vs1 2) (.d (.num .i64 1)) fun v13 =>
  next1 [(nth vs1 0), v11, v13] h4)
  (POST (.tup []) h2 pre r post)
theorem vc_slices_Reverse_l_int_int_eq (g : GG) (pre : List ABlk) (a0 : AV) (r : AV) (post : List PB) : vcFn2 (Tz g) false ann_slices_Reverse_l_int_int Tryz.f95 pre [a0] (.ret r) post = vc_slices_Reverse_l_int_int (Tz g) pre a0 r post := by kernel_rfl
theorem hf_slices_Reverse_l_int_int : Tryz.prog.funcs[f_slices_Reverse_l_int_int]? = some Tryz.f95 := by kernel_rfl
theorem ok_slices_Reverse_l_int_int : fnVcOK Tryz.prog Tryz.f95 = true := by kernel_rfl
theorem nt_slices_Reverse_l_int_int : Nat.ble 1 Tryz.f95.ntmps = true := by kernel_rfl
theorem meetsH_slices_Reverse_l_int_int {g : GG} {pre : List ABlk} {a0 : AV} {r : AV} {post : List PB} (hk : Nat.ble pre.length 24 = true) (h : vc_slices_Reverse_l_int_int (Tz g) pre a0 r post) : MeetsH (Tz g) f_slices_Reverse_l_int_int pre [a0] (.ret r) post :=
  meetsH_of_vc (C := Tz g) ann_slices_Reverse_l_int_int hf_slices_Reverse_l_int_int ok_slices_Reverse_l_int_int nt_slices_Reverse_l_int_int hk (pn := false) (Eq.mpr ((vcFn2_eq _ _ _ _ _ _ _ _).trans (vc_slices_Reverse_l_int_int_eq g pre a0 r post)) h)
theorem meets_slices_Reverse_l_int_int {g : GG} {a0 : D} {r : Res} (h : vc_slices_Reverse_l_int_int (Tz g) [] (.d a0) r.val (r.bl.map .upd)) : Meets (Tz g) f_slices_Reverse_l_int_int [a0] r := meetsH_slices_Reverse_l_int_int rfl h
def ann_slices_ContainsFunc_l_int_int : Nat → List Nat := fun n => match n with  | _ => []
def vc_slices_ContainsFunc_l_int_int (P : Ctx) (pre : List ABlk) (a0 a1 : AV) (r : AV) (post : List PB) : Prop :=
  let h0 : Heap := numbered 0 pre
  CALL P f_slices_IndexFunc_l_int_int [a0, a1] 48 h0 (fun _ v7 h1 =>
  BIN 0 .geq v7 (.d (.num .i64 0)) fun v8 =>
  POST v8 h1 pre r post)
  (fun _ _ _ => False)
theorem vc_slices_ContainsFunc_l_int_int_eq (g : GG) (pre : List ABlk) (a0 a1 : AV) (r : AV) (post : List PB) : vcFn2 (Tz g) false ann_slices_ContainsFunc_l_int_int Tryz.f118 pre [a0, a1] (.ret r) post = vc_slices_ContainsFunc_l_int_int (Tz g) pre a0 a1 r post := by kernel_rfl
theorem hf_slices_ContainsFunc_l_int_int : Tryz.prog.funcs[f_slices_ContainsFunc_l_int_int]? = some Tryz.f118 := by kernel_rfl
theorem ok_slices_ContainsFunc_l_int_int : fnVcOK Tryz.prog Tryz.f118 = true := by kernel_rfl
theorem nt_slices_ContainsFunc_l_int_int : Nat.ble 2 Tryz.f118.ntmps = true := by kernel_rfl
theorem meetsH_slices_ContainsFunc_l_int_int {g : GG} {pre : List ABlk} {a0 a1 : AV} {r : AV} {post : List PB} (hk : Nat.ble pre.length 24 = true) (h : vc_slices_ContainsFunc_l_int_int (Tz g) pre a0 a1 r post) : MeetsH (Tz g) f_slices_ContainsFunc_l_int_int pre [a0, a1] (.ret r) post :=
  meetsH_of_vc (C := Tz g) ann_slices_ContainsFunc_l_int_int hf_slices_ContainsFunc_l_int_int ok_slices_ContainsFunc_l_int_int nt_slices_ContainsFunc_l_int_int hk (pn := false) (Eq.mpr ((vcFn2_eq _ _ _ _ _ _ _ _).trans (vc_slices_ContainsFunc_l_int_int_eq g pre a0 a1 r post)) h)
theorem meets_slices_ContainsFunc_l_int_int {g : GG} {a0 a1 : D} {r : Res} (h : vc_slices_ContainsFunc_l_int_int (Tz g) [] (.d a0) (.d a1) r.val (r.bl.map .upd)) : Meets (Tz g) f_slices_ContainsFunc_l_int_int [a0, a1] r := meetsH_slices_ContainsFunc_l_int_int rfl h
def ann_slices_IndexFunc_l_int_int : Nat → List Nat := fun n => match n with | 2 => [0, 1, 7, 8] | _ => []
def vc_slices_IndexFunc_l_int_int (P : Ctx) (pre : List ABlk) (a0 a1 : AV) (r : AV) (post : List PB) : Prop :=
  let h0 : Heap := numbered 0 pre
  LEN false a0 h0 fun v7 =>
  LOOP [a0, a1, v7, (.d (.num .i64 0))] h0 56 fun vs1 h2 next1 =>
  BIN 0 .lss (nth vs1 3) (nth vs1 2) fun v9 =>
  COND v9
  (IADDR 1 T_int (nth vs1 0) (nth vs1 3) h2 fun v14 =>
  LOAD false 1 v14 h2 fun v15 =>
  CALLV P (nth vs1 1) [v15] 128 h2 (fun _ v16 h3 =>
  COND v16
  (POST (nth vs1 3) h3 pre r post)
  (BIN 0 .add (nth vs1 3) (.d (.num .i64 1)) fun v18 =>
  next1 [(nth vs1 0), (nth vs1 1), (nth vs1 2), v18] h3))
  (fun _ _ _ => False))
  (POST (.d (.num .i64 (-1))) h2 pre r post)
theorem vc_slices_IndexFunc_l_int_int_eq (g : GG) (pre : List ABlk) (a0 a1 : AV) (r : AV) (post : List PB) : vcFn2 (Tz g) false ann_slices_IndexFunc_l_int_int Tryz.f135 pre [a0, a1] (.ret r) post = vc_slices_IndexFunc_l_int_int (Tz g) pre a0 a1 r post := by kernel_rfl
theorem hf_slices_IndexFunc_l_int_int : Tryz.prog.funcs[f_slices_IndexFunc_l_int_int]? = some Tryz.f135 := by kernel_rfl
theorem ok_slices_IndexFunc_l_int_int : fnVcOK Tryz.prog Tryz.f135 = true := by kernel_rfl
theorem nt_slices_IndexFunc_l_int_int : Nat.ble 2 Tryz.f135.ntmps = true := by kernel_rfl
theorem meetsH_slices_IndexFunc_l_int_int {g : GG} {pre : List ABlk} {a0 a1 : AV} {r : AV} {post : List PB} (hk : Nat.ble pre.length 24 = true) (h : vc_slices_IndexFunc_l_int_int (Tz g) pre a0 a1 r post) : MeetsH (Tz g) f_slices_IndexFunc_l_int_int pre [a0, a1] (.ret r) post :=
  meetsH_of_vc (C := Tz g) ann_slices_IndexFunc_l_int_int hf_slices_IndexFunc_l_int_int ok_slices_IndexFunc_l_int_int nt_slices_IndexFunc_l_int_int hk (pn := false) (Eq.mpr ((vcFn2_eq _ _ _ _ _ _ _ _).trans (vc_slices_IndexFunc_l_int_int_eq g pre a0 a1 r post)) h)
theorem meets_slices_IndexFunc_l_int_int {g : GG} {a0 a1 : D} {r : Res} (h : vc_slices_IndexFunc_l_int_int (Tz g) [] (.d a0) (.d a1) r.val (r.bl.map .upd)) : Meets (Tz g) f_slices_IndexFunc_l_int_int [a0, a1] r := meetsH_slices_IndexFunc_l_int_int rfl h
end Go.Vc

namespace Go.Vc
open Go Go.Proofs
variable {g : GG}
theorem index_int_meets (l : List Int) (f : FuncId) (q : Int → Bool) (hf : ∀ s, Meets (Tz g) f [int s] ⟨.d (.bool (q s)), []⟩) (hl : l.length ≤ 1000) : Meets (Tz g) f_slices_IndexFunc_l_int_int [ints l, .fn f [] []] ⟨.d (int (idx q l 0)), []⟩ := by
  refine meets_slices_IndexFunc_l_int_int ?_
  unfold vc_slices_IndexFunc_l_int_int
  simp [ints]
  refine LOOP.mk Nat (fun k => [.d (ints l), .d (.fn f [] []), .d (int l.length), .d (int k)]) (fun _ => []) (fun k => k ≤ l.length ∧ idx q l 0 = idx q (l.drop k) k) (fun k => l.length - k) [] (by simp) 0 (by simp) (by simp [WEAK, ints]) (fun _ _ => rfl) ?_
  rintro k ⟨hk, he⟩
  simp [ints]
  constructor
  · intro hlt
    have hlt : k < l.length := by omega
    have hg : l[k]? = some l[k] := List.getElem?_eq_getElem hlt
    simp [hg]
    refine CALL.val _ _ rfl (hf l[k]) (.inl rfl) ?_
    rw [idx_drop q l k _ hg] at he
    simp
    constructor
    · intro hq
      simp [hq] at he
      exact he.symm
    · intro hq
      simp [hq] at he
      rw [wrap_id (by omega) (by omega)]
      exact ⟨k + 1, ⟨by omega, by simpa using he⟩, by simp [WEAK], by omega⟩
  · intro hge
    have : k = l.length := by omega
    subst this
    simp [idx] at he
    exact he.symm
theorem contains_int_meets (l : List Int) (f : FuncId) (q : Int → Bool) (hf : ∀ s, Meets (Tz g) f [int s] ⟨.d (.bool (q s)), []⟩) (hl : l.length ≤ 1000) : Meets (Tz g) f_slices_ContainsFunc_l_int_int [ints l, .fn f [] []] ⟨.d (.bool (l.any q)), []⟩ := by
  refine meets_slices_ContainsFunc_l_int_int ?_
  unfold vc_slices_ContainsFunc_l_int_int
  refine CALL.val _ _ rfl (index_int_meets l f q hf hl) (.inl rfl) ?_
  simp [← idx_any q l 0 (by omega)]
def farB (n : Int) : Bool := inB n (-1000000000) 1000000000
def stateB (l : List Int) : Bool := inB l.length 1 4 && l.all farB
theorem stateB_len {l : List Int} (h : stateB l = true) : 1 ≤ l.length ∧ l.length ≤ 4 ∧ ∀ n, n ∈ l → -1000000000 ≤ n ∧ n ≤ 1000000000 := by
  simp [stateB, farB, inB] at h
  exact ⟨by omega, by omega, h.2⟩
theorem any_not (l : List Int) (q : Int → Bool) : (!l.any fun n => !q n) = l.all q := by
  induction l with
  | nil => rfl
  | cons s r ih => simp only [List.any_cons, List.all_cons, ← ih]; cases q s <;> simp
theorem differ_isState_1_meets (n : Int) : Meets (Tz g) f_differ_isState_1 [int n] ⟨.d (.bool (!farB n)), []⟩ := by
  refine meets_differ_isState_1 ?_
  unfold vc_differ_isState_1
  refine CALL.val _ _ rfl (differ_in_meets _ _ _) (.inl rfl) ?_
  simp [farB]
theorem differ_isState_meets (l : List Int) : Meets (Tz g) f_differ_isState [ints l] ⟨.d (.bool (stateB l)), []⟩ := by
  refine meets_differ_isState ?_
  unfold vc_differ_isState
  simp [ints]
  refine CALL.val _ _ rfl (differ_in_meets _ _ _) (.inl rfl) ?_
  simp [stateB]
  constructor
  · intro h1
    have h2 : l.length ≤ 1000 := by simp [inB] at h1; omega
    refine CALL.val [ints l, .fn f_differ_isState_1 [] []] _ rfl (contains_int_meets l _ _ differ_isState_1_meets h2) (.inl rfl) ?_
    rw [← any_not l farB]
    simp [h1]
  · intro h1; simp [h1]
def farFrom (l : List Int) (k : Nat) : Bool := (l.drop k).all farB
theorem farFrom_step (l : List Int) (k : Nat) (s : Int) (h : l[k]? = some s) : farFrom l k = (farB s && farFrom l (k + 1)) := by
  have l1 := (List.getElem?_eq_some_iff.1 h).1
  rw [List.getElem?_eq_getElem l1] at h
  unfold farFrom
  rw [List.drop_eq_getElem_cons l1, Option.some.inj h]
  rfl
def backL : List Int → List Int
  | [] => []
  | [a] => [a]
  | a :: b :: r => (a - (backL (b :: r)).headD 0) :: backL (b :: r)
def backK : Nat → List Int → List Int
  | 0, l => l
  | k + 1, l => backL (backK k l)
theorem backL_length : ∀ l : List Int, (backL l).length = l.length
  | [] => rfl
  | [_] => rfl
  | a :: b :: r => by simp [backL, backL_length (b :: r)]
theorem backK_length (l : List Int) : ∀ k, (backK k l).length = l.length
  | 0 => rfl
  | k + 1 => by simp [backK, backL_length, backK_length l k]
theorem backL_get : ∀ (l : List Int) (i : Nat) (a b : Int), l[i]? = some a → (backL l)[i + 1]? = some b → (backL l)[i]? = some (a - b)
  | [], i, a, b, h, _ => by simp at h
  | [x], i, a, b, h, h' => by simp [backL] at h'
  | x :: y :: r, 0, a, b, h, h' => by
    simp [backL] at h h' ⊢
    subst h
    have h0 : (backL (y :: r))[0]? = some b := h'
    cases hq : backL (y :: r) with
    | nil => rw [hq] at h0; simp at h0
    | cons u v => rw [hq] at h0; simp at h0; simp [h0]
  | x :: y :: r, i + 1, a, b, h, h' => by simp only [backL, List.getElem?_cons_succ] at h' ⊢; exact backL_get (y :: r) i a b (by simpa using h) h'
theorem backL_last : ∀ (l : List Int) (i : Nat), i + 1 = l.length → (backL l)[i]? = l[i]?
  | [], i, h => by simp at h
  | [x], 0, _ => rfl
  | [x], i + 1, h => by simp at h
  | x :: y :: r, 0, h => by simp at h
  | x :: y :: r, i + 1, h => by simp only [backL, List.getElem?_cons_succ]; exact backL_last (y :: r) i (by simpa using h)
theorem backL_bound' (b : Int) (hb : 0 ≤ b) : ∀ (l : List Int), (∀ x, x ∈ l → -b ≤ x ∧ x ≤ b) → ∀ x, x ∈ backL l → -(l.length * b) ≤ x ∧ x ≤ l.length * b
  | [], h, x, hx => by simp [backL] at hx
  | [y], h, x, hx => by simp [backL] at hx; subst hx; have := h x (by simp); simpa using this
  | y :: z :: r, h, x, hx => by
    have ih := backL_bound' b hb (z :: r) (fun w hw => h w (by simp at hw ⊢; exact .inr hw))
    have e : ((y :: z :: r).length : Int) * b = b + ((z :: r).length : Int) * b := by
      have : ((y :: z :: r).length : Int) = 1 + ((z :: r).length : Int) := by simp; omega
      rw [this, Int.add_mul, Int.one_mul]
    rw [e]
    simp only [backL, List.mem_cons] at hx
    rcases hx with hx | hx
    · have h1 := h y (by simp)
      have h2 : (backL (z :: r)).headD 0 ∈ backL (z :: r) := by
        have := backL_length (z :: r)
        cases hq : backL (z :: r) with
        | nil => rw [hq] at this; simp at this
        | cons u v => simp
      have h3 := ih _ h2
      omega
    · have := ih x hx
      omega
theorem backL_bound (b : Int) (hb : 0 ≤ b) (l : List Int) (hl : l.length ≤ 4) (h : ∀ x, x ∈ l → -b ≤ x ∧ x ≤ b) (x : Int) (hx : x ∈ backL l) : -(4 * b) ≤ x ∧ x ≤ 4 * b := by
  have h1 := backL_bound' b hb l h x hx
  have h2 : (l.length : Int) * b ≤ 4 * b := Int.mul_le_mul_of_nonneg_right (by omega) hb
  omega
theorem pow4 (k : Nat) : (4 : Int) ^ (k + 1) * 1000000000 = 4 * ((4 : Int) ^ k * 1000000000) := by
  rw [Int.pow_succ, Int.mul_comm ((4 : Int) ^ k) 4, Int.mul_assoc]
theorem pow4_pos (k : Nat) : (0 : Int) ≤ (4 : Int) ^ k * 1000000000 := Int.mul_nonneg (Int.le_of_lt (Int.pow_pos (by omega))) (by omega)
theorem pow4_le (k : Nat) (h : k ≤ 12) : (4 : Int) ^ k ≤ 16777216 := by
  have : (4 : Nat) ^ k ≤ 4 ^ 12 := Nat.pow_le_pow_right (by omega) h
  have h2 : ((4 ^ k : Nat) : Int) ≤ ((4 ^ 12 : Nat) : Int) := by exact_mod_cast this
  simpa using h2
theorem backK_bound (l : List Int) (hl : l.length ≤ 4) (h : ∀ x, x ∈ l → -1000000000 ≤ x ∧ x ≤ 1000000000) : ∀ k x, x ∈ backK k l → -((4 : Int) ^ k * 1000000000) ≤ x ∧ x ≤ (4 : Int) ^ k * 1000000000
  | 0, x, hx => by simpa using h x hx
  | k + 1, x, hx => by
    rw [pow4]
    exact backL_bound _ (pow4_pos k) (backK k l) (by rw [backK_length]; exact hl) (backK_bound l hl h k) x hx
def climbL : Nat → List Int → List Int
  | 0, _ => []
  | n + 1, s => climbL n (backL s) ++ [s.headD 0]
theorem backK_back (l : List Int) : ∀ k, backK k (backL l) = backK (k + 1) l
  | 0 => rfl
  | k + 1 => by show backL (backK k (backL l)) = _; rw [backK_back l k]; rfl
def backs (n : Nat) (s : List Int) : List Int := (List.range n).map fun j => (backK j s).headD 0
theorem climbL_eq : ∀ (n : Nat) (s : List Int), climbL n s = (backs n s).reverse
  | 0, s => rfl
  | n + 1, s => by
    rw [climbL, climbL_eq n (backL s), backs, backs, List.range_succ_eq_map]
    simp [backK_back, backK]
theorem climbL_length (n : Nat) (s : List Int) : (climbL n s).length = n := by rw [climbL_eq]; simp [backs]
def bmix (s : List Int) (m : Nat) : List Int := s.take m ++ (backL s).drop m
theorem bmix_get (s : List Int) (m j : Nat) (hm : m ≤ s.length) : (bmix s m)[j]? = if j < m then s[j]? else (backL s)[j]? := by
  have hl := backL_length s
  unfold bmix
  by_cases h : j < m
  · rw [List.getElem?_append_left (by simp; omega), if_pos h, List.getElem?_take, if_pos h]
  · rw [List.getElem?_append_right (by simp; omega), if_neg h, List.getElem?_drop]
    congr 1
    simp
    omega
theorem bmix_len (s : List Int) (m : Nat) (hm : m ≤ s.length) : (bmix s m).length = s.length := by
  have hl := backL_length s
  simp [bmix, hl]; omega
theorem bmix_start (s : List Int) (m : Nat) (h : m + 1 = s.length) : bmix s m = s := by
  refine List.ext_getElem? fun j => ?_
  rw [bmix_get s m j (by omega)]
  by_cases h2 : j < m
  · rw [if_pos h2]
  · rw [if_neg h2]
    by_cases h3 : j = m
    · subst h3; exact backL_last s j h
    · rw [List.getElem?_eq_none (by rw [backL_length]; omega), List.getElem?_eq_none (by omega)]
theorem bmix_end (s : List Int) : bmix s 0 = backL s := by simp [bmix]
theorem bmix_step (s : List Int) (m : Nat) (a b : Int) (h : m + 1 < s.length) (ha : s[m]? = some a) (hb : (backL s)[m + 1]? = some b) : (bmix s (m + 1)).set m (a - b) = bmix s m := by
  refine List.ext_getElem? fun j => ?_
  rw [List.getElem?_set, bmix_get s (m + 1) j (by omega), bmix_get s m j (by omega), bmix_len s (m + 1) (by omega)]
  by_cases hj : m = j
  · subst hj
    rw [if_pos rfl, if_pos (by omega), if_neg (by omega), backL_get s m a b ha hb]
  · rw [if_neg hj]
    by_cases h2 : j < m
    · rw [if_pos h2, if_pos (by omega)]
    · rw [if_neg h2, if_neg (by omega)]
end Go.Vc

namespace Go.Vc
open Go Go.Proofs
variable {g : GG}
def rv (l : List Int) (i : Nat) : List Int := l.reverse.take i ++ ((l.take (l.length - i)).drop i ++ l.reverse.drop (l.length - i))
theorem rv_get (l : List Int) (i k : Nat) (h : 2 * i ≤ l.length) : (rv l i)[k]? = if k < i ∨ l.length - i ≤ k then l.reverse[k]? else l[k]? := by
  unfold rv
  by_cases h1 : k < i
  · rw [List.getElem?_append_left (by simp; omega), if_pos (.inl h1), List.getElem?_take, if_pos h1]
  · rw [List.getElem?_append_right (by simp; omega)]
    by_cases h2 : l.length - i ≤ k
    · rw [if_pos (.inr h2), List.getElem?_append_right (by simp; omega), List.getElem?_drop]
      congr 1
      simp
      omega
    · rw [if_neg (by omega), List.getElem?_append_left (by simp; omega), List.getElem?_drop, List.getElem?_take]
      simp
      rw [show i + (k - min i l.length) = k by omega, if_pos (by omega)]
theorem rv_len (l : List Int) (i : Nat) (h : 2 * i ≤ l.length) : (rv l i).length = l.length := by
  simp [rv]; omega
theorem rv_step (l : List Int) (i : Nat) (a b : Int) (h : 2 * i + 1 < l.length) (ha : l[i]? = some a) (hb : l[l.length - 1 - i]? = some b) : ((rv l i).set i b).set (l.length - 1 - i) a = rv l (i + 1) := by
  refine List.ext_getElem? fun k => ?_
  rw [List.getElem?_set, List.getElem?_set, rv_get l i k (by omega), rv_get l (i + 1) k (by omega)]
  simp only [List.length_set, rv_len l i (by omega)]
  by_cases h1 : l.length - 1 - i = k
  · subst h1
    rw [if_pos rfl, if_pos (by omega), if_pos (by omega), List.getElem?_reverse (by omega), ← ha]
    congr 1
    omega
  · rw [if_neg h1]
    by_cases h2 : i = k
    · subst h2
      rw [if_pos rfl, if_pos (by omega), if_pos (by omega), List.getElem?_reverse (by omega), ← hb]
    · rw [if_neg h2]
      by_cases h3 : k < i ∨ l.length - i ≤ k
      · rw [if_pos h3, if_pos (by omega)]
      · rw [if_neg h3, if_neg (by omega)]
theorem rv_end (l : List Int) (i : Nat) (h : 2 * i ≤ l.length) (h' : l.length ≤ 2 * i + 1) : rv l i = l.reverse := by
  refine List.ext_getElem? fun k => ?_
  rw [rv_get l i k h]
  by_cases h3 : k < i ∨ l.length - i ≤ k
  · rw [if_pos h3]
  · rw [if_neg h3]
    rw [List.getElem?_reverse (by omega)]
    congr 1
    omega
theorem reverse_meets (l : List Int) (ver : Nat) (hl : l.length ≤ 1000) : MeetsH (Tz g) f_slices_Reverse_l_int_int [⟨ver, T_int, .lst (l.map int)⟩] [.own 0 ver] (.ret (.tup [])) [.upd ⟨ver, T_int, .lst (l.reverse.map int)⟩] := by
  refine meetsH_slices_Reverse_l_int_int rfl ?_
  unfold vc_slices_Reverse_l_int_int
  simp
  rw [wrap_id (by omega) (by omega)]
  refine LOOP.mk Nat (fun i => [.own 0 ver, .d (int i), .d (int ((l.length : Int) - 1 - i))]) (fun i => [(0, some ⟨ver, T_int, .lst ((rv l i).map int)⟩)]) (fun i => 2 * i ≤ l.length) (fun i => l.length - i) [] (by simp) 0 (by omega) (by simp [WEAK, rv]) (fun _ _ => rfl) ?_
  intro i hi
  have hlen := rv_len l i hi
  simp
  constructor
  · intro hlt
    have hlt : 2 * i + 1 < l.length := by omega
    have e1 : ((l.length : Int) - 1 - i).toNat = l.length - 1 - i := by omega
    have h1 : l[i]? = some l[i] := List.getElem?_eq_getElem (by omega)
    have h2 : l[l.length - 1 - i]? = some l[l.length - 1 - i] := List.getElem?_eq_getElem (by omega)
    have g1 : (rv l i)[i]? = some l[i] := by rw [rv_get l i i hi, if_neg (by omega), h1]
    have g2 : (rv l i)[l.length - 1 - i]? = some l[l.length - 1 - i] := by rw [rv_get l i _ hi, if_neg (by omega), h2]
    have g3 : ((rv l i).set i l[l.length - 1 - i])[l.length - 1 - i]? = some l[l.length - 1 - i] := by
      rw [List.getElem?_set]
      split
      · rw [if_pos (by omega)]
      · exact g2
    have hst := rv_step l i _ _ hlt h1 h2
    have g4 : ((List.map int (rv l i)).set i (int l[l.length - 1 - i]))[l.length - 1 - i]? = some (int l[l.length - 1 - i]) := by
      rw [← List.map_set, List.getElem?_map, g3]; rfl
    simp [g1, g2, hlen]
    refine ⟨by omega, by omega, by omega, by omega, by omega, _, g4, by simp, rfl, i + 1, by omega, ?_, by omega⟩
    rw [wrap_id (n := (i : Int) + 1) (by omega) (by omega), wrap_id (n := (l.length : Int) - 1 - i - 1) (by omega) (by omega)]
    simp [WEAK]
    refine ⟨by omega, ?_⟩
    rw [← hst]
    simp [List.map_set]
  · intro hge
    rw [rv_end l i hi (by omega)]
    refine POST.auto ?_
    simp [ENDR]
end Go.Vc

namespace Go.Vc
open Go Go.Proofs
variable {g : GG}
theorem differ_Climb_bad (l : List Int) (rows : Int) (hl : l.length ≤ 1000) (h : (stateB l && inB rows 1 12) = false) :
    Meets (Tz g) f_differ_Climb [ints l, int rows] ⟨.tup [.d (.list []), .d (int 2)], []⟩ := by
  refine meets_differ_Climb ?_
  unfold vc_differ_Climb
  refine CALL.val [ints l] _ rfl (differ_isState_meets l) (.inl rfl) ?_
  simp
  intro h1
  refine CALL.val _ _ rfl (differ_in_meets _ _ _) (.inl rfl) ?_
  simp [h1] at h
  simp [h]
theorem differ_Climb_ok (l : List Int) (n : Nat) (h1 : stateB l = true) (h2 : n + 1 ≤ 12) :
    Meets (Tz g) f_differ_Climb [ints l, int ((n : Int) + 1)] ⟨.tup [.own 0 0, .d (int 0)], [⟨0, T_int, .lst ((climbL (n + 1) l).map int)⟩]⟩ := by
  obtain ⟨a1, a2, a3⟩ := stateB_len h1
  refine meets_differ_Climb ?_
  unfold vc_differ_Climb
  refine CALL.val [ints l] _ rfl (differ_isState_meets l) (.inl rfl) ?_
  simp [h1]
  refine CALL.val _ _ rfl (differ_in_meets _ _ _) (.inl rfl) ?_
  have hb : inB ((n : Int) + 1) 1 12 = true := by simp [inB]; omega
  simp [hb]
  refine CALL.mk [ints l] _ rfl (clone_ints_meets l (by omega)) (.inl rfl) (by simp) ?_
  have hh : l[0]? = some (l.headD 0) := by
    cases l with
    | nil => simp at a1
    | cons a r => rfl
  simp [hh]
  rw [wrap_id (by omega) (by omega)]
  refine ⟨by omega, _, _, ⟨rfl, rfl⟩, by simp, ?_⟩
  refine LOOP.mk Nat (fun k => [.own 112 0, .own 152 k, .d (int n), .d (int k)]) (fun k => [(152, some ⟨k, T_int, .lst ((backs (k + 1) l).map int)⟩), (112, some ⟨0, T_int, .lst ((backK k l).map int)⟩)]) (fun k => k ≤ n) (fun k => n - k) [] (by simp) 0 (by omega) (by simp [WEAK, backs, backK]) (fun _ _ => rfl) ?_
  intro k hk
  have hs := backK_length l k
  simp
  constructor
  · intro hlt
    have hbs := backK_bound l a2 a3 k
    have hbt := backK_bound l a2 a3 (k + 1)
    have hp := pow4_le k (by omega)
    have hq := pow4_le (k + 1) (by omega)
    have hK : backK (k + 1) l = backL (backK k l) := rfl
    rw [hK] at hbt
    generalize backK k l = s at hs hbs hbt hK
    obtain ⟨m0, hm0⟩ : ∃ m, s.length = m + 1 := ⟨s.length - 1, by omega⟩
    rw [wrap_id (by omega) (by omega)]
    have e1 : ((s.length : Int) - 2) = (m0 : Int) - 1 := by omega
    rw [e1]
    refine LOOP.mk Nat (fun m => [.own 112 0, .own 152 k, .d (int ((m : Int) - 1)), .d (int n), .d (int k)]) (fun m => [(152, some ⟨k, T_int, .lst ((backs (k + 1) l).map int)⟩), (112, some ⟨0, T_int, .lst ((bmix s m).map int)⟩)]) (fun m => m + 1 ≤ s.length) (fun m => m) [] (by simp) m0 (by omega) (by simp [WEAK, bmix_start s m0 hm0.symm]) (fun _ _ => rfl) ?_
    intro m hm
    have hbl := bmix_len s m (by omega)
    match m, hm, hbl with
    | 0, hm, hbl =>
      have hbl2 := backL_length s
      have h0 : (backL s)[0]? = some ((backL s).headD 0) := by
        cases hq : backL s with
        | nil => rw [hq] at hbl2; simp at hbl2; omega
        | cons a r => rfl
      have h1 : (bmix s 0)[0]? = some ((backL s).headD 0) := by rw [bmix_end]; exact h0
      simp [h1]
      rw [wrap_id (n := (k : Int) + 1) (by omega) (by omega)]
      refine ⟨by omega, _, _, ⟨rfl, rfl⟩, by simp, ?_⟩
      simp
      refine ⟨by simp [backs]; omega, k + 1, by omega, ?_, by omega⟩
      simp [WEAK, backs, List.range_succ, hK, bmix_end]
    | i + 1, hm, hbl =>
      have e2 : (((i + 1 : Nat) : Int) - 1) = (i : Int) := by omega
      rw [e2]
      have g0 : (bmix s (i + 1))[i]? = some s[i] := by rw [bmix_get s (i + 1) i (by omega), if_pos (by omega)]; exact List.getElem?_eq_getElem (by omega)
      have hbl2 := backL_length s
      have hlt3 : i + 1 < (backL s).length := by omega
      have gb : (backL s)[i + 1]? = some (backL s)[i + 1] := List.getElem?_eq_getElem hlt3
      have g1 : (bmix s (i + 1))[i + 1]? = some (backL s)[i + 1] := by rw [bmix_get s (i + 1) (i + 1) (by omega), if_neg (by omega)]; exact gb
      have b0 := hbs s[i] (List.getElem_mem _)
      have b1 := hbt (backL s)[i + 1] (List.getElem_mem _)
      have hst := bmix_step s i s[i] (backL s)[i + 1] (by omega) (List.getElem?_eq_getElem (by omega)) gb
      have e3 : ((i : Int) + 1).toNat = i + 1 := by omega
      simp
      rw [wrap_id (n := (i : Int) + 1) (by omega) (by omega)]
      simp [g0, g1, hbl, e3]
      rw [wrap_id (n := s[i] - (backL s)[i + 1]) (by omega) (by omega)]
      refine ⟨by omega, by omega, by omega, by omega, rfl, ?_⟩
      rw [wrap_id (n := (i : Int) - 1) (by omega) (by omega)]
      refine ⟨i, by omega, ?_, by omega⟩
      simp [WEAK]
      rw [← hst, List.map_set]
  · intro hge
    have : k = n := by omega
    subst this
    refine CALL.gen [152] [false] [.own 0 k] [⟨k, T_int, .lst ((backs (k + 1) l).map int)⟩] _ _ (reverse_meets (backs (k + 1) l) k (by simp [backs]; omega)) rfl (by simp) (by simp) (by simp) (by simp) (by simp) ?_
    simp
    rw [climbL_eq, List.map_reverse]
end Go.Vc
