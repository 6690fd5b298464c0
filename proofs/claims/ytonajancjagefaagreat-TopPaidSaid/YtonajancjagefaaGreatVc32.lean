/- A part of the proof: general laws of a reading of the model by abstract data, or contracts of the functions that the law calls. -/
import Derived.Test.YtonajancjagefaaGreatVc29
import Derived.Test.YtonajancjagefaaGreatVc15
set_option maxRecDepth 100000
namespace Go.Vc
open Go Go.Proofs Go.RowKit
def ann_proof_in : Nat → List Nat := fun n => match n with  | _ => []
def vc_proof_in (_P : Ctx) (pre : List ABlk) (a0 a1 a2 : AV) (r : AV) (post : List PB) : Prop :=
  let h0 : Heap := numbered 0 pre
  BIN 0 .geq a0 a1 fun v9 =>
  CONDG v9
  (BIN 0 .leq a0 a2 fun v13 =>
  POST v13 h0 pre r post)
  (POST (.d (.bool false)) h0 pre r post)
theorem vc_proof_in_eq (g : GG) (pre : List ABlk) (a0 a1 a2 : AV) (r : AV) (post : List PB) : vcFn2 (Tz g) false ann_proof_in Tryz.f46 pre [a0, a1, a2] (.ret r) post = vc_proof_in (Tz g) pre a0 a1 a2 r post := by kernel_rfl
theorem hf_proof_in : Tryz.prog.funcs[f_proof_in]? = some Tryz.f46 := by kernel_rfl
theorem ok_proof_in : fnVcOK Tryz.prog Tryz.f46 = true := by kernel_rfl
theorem nt_proof_in : Nat.ble 3 Tryz.f46.ntmps = true := by kernel_rfl
theorem meetsH_proof_in {g : GG} {pre : List ABlk} {a0 a1 a2 : AV} {r : AV} {post : List PB} (hk : Nat.ble pre.length 24 = true) (h : vc_proof_in (Tz g) pre a0 a1 a2 r post) : MeetsH (Tz g) f_proof_in pre [a0, a1, a2] (.ret r) post :=
  meetsH_of_vc (C := Tz g) ann_proof_in hf_proof_in ok_proof_in nt_proof_in hk (pn := false) (Eq.mpr ((vcFn2_eq _ _ _ _ _ _ _ _).trans (vc_proof_in_eq g pre a0 a1 a2 r post)) h)
theorem meets_proof_in {g : GG} {a0 a1 a2 : D} {r : Res} (h : vc_proof_in (Tz g) [] (.d a0) (.d a1) (.d a2) r.val (r.bl.map .upd)) : Meets (Tz g) f_proof_in [a0, a1, a2] r := meetsH_proof_in rfl h
def ann_proof_isNumber : Nat → List Nat := fun n => match n with  | _ => []
def vc_proof_isNumber (P : Ctx) (pre : List ABlk) (a0 : AV) (r : AV) (post : List PB) : Prop :=
  let h0 : Heap := numbered 0 pre
  CALL P f_proof_in [a0, (.d (.num .i64 (-999))), (.d (.num .i64 999))] 40 h0 (fun _ v4 h1 =>
  POST v4 h1 pre r post)
  (fun _ _ _ => False)
theorem vc_proof_isNumber_eq (g : GG) (pre : List ABlk) (a0 : AV) (r : AV) (post : List PB) : vcFn2 (Tz g) false ann_proof_isNumber Tryz.f50 pre [a0] (.ret r) post = vc_proof_isNumber (Tz g) pre a0 r post := by kernel_rfl
theorem hf_proof_isNumber : Tryz.prog.funcs[f_proof_isNumber]? = some Tryz.f50 := by kernel_rfl
theorem ok_proof_isNumber : fnVcOK Tryz.prog Tryz.f50 = true := by kernel_rfl
theorem nt_proof_isNumber : Nat.ble 1 Tryz.f50.ntmps = true := by kernel_rfl
theorem meetsH_proof_isNumber {g : GG} {pre : List ABlk} {a0 : AV} {r : AV} {post : List PB} (hk : Nat.ble pre.length 24 = true) (h : vc_proof_isNumber (Tz g) pre a0 r post) : MeetsH (Tz g) f_proof_isNumber pre [a0] (.ret r) post :=
  meetsH_of_vc (C := Tz g) ann_proof_isNumber hf_proof_isNumber ok_proof_isNumber nt_proof_isNumber hk (pn := false) (Eq.mpr ((vcFn2_eq _ _ _ _ _ _ _ _).trans (vc_proof_isNumber_eq g pre a0 r post)) h)
theorem meets_proof_isNumber {g : GG} {a0 : D} {r : Res} (h : vc_proof_isNumber (Tz g) [] (.d a0) r.val (r.bl.map .upd)) : Meets (Tz g) f_proof_isNumber [a0] r := meetsH_proof_isNumber rfl h
def ann_proof_hasLine : Nat → List Nat := fun n => match n with  | _ => []
def vc_proof_hasLine (P : Ctx) (pre : List ABlk) (a0 a1 : AV) (r : AV) (post : List PB) : Prop :=
  let h0 : Heap := numbered 0 pre
  BOX T_api_ProofPage a0 24 h0 fun v2 h1 =>
  FADDR 1 v2 h1 fun v6 =>
  LOAD false 1 v6 h1 fun v7 =>
  LEN false v7 h1 fun v8 =>
  BIN 0 .sub v8 (.d (.num .i64 1)) fun v9 =>
  CALL P f_proof_in [a1, (.d (.num .i64 0)), v9] 80 h1 (fun _ v10 h2 =>
  POST v10 h2 pre r post)
  (fun _ _ _ => False)
theorem vc_proof_hasLine_eq (g : GG) (pre : List ABlk) (a0 a1 : AV) (r : AV) (post : List PB) : vcFn2 (Tz g) false ann_proof_hasLine Tryz.f90 pre [a0, a1] (.ret r) post = vc_proof_hasLine (Tz g) pre a0 a1 r post := by kernel_rfl
theorem hf_proof_hasLine : Tryz.prog.funcs[f_proof_hasLine]? = some Tryz.f90 := by kernel_rfl
theorem ok_proof_hasLine : fnVcOK Tryz.prog Tryz.f90 = true := by kernel_rfl
theorem nt_proof_hasLine : Nat.ble 2 Tryz.f90.ntmps = true := by kernel_rfl
theorem meetsH_proof_hasLine {g : GG} {pre : List ABlk} {a0 a1 : AV} {r : AV} {post : List PB} (hk : Nat.ble pre.length 24 = true) (h : vc_proof_hasLine (Tz g) pre a0 a1 r post) : MeetsH (Tz g) f_proof_hasLine pre [a0, a1] (.ret r) post :=
  meetsH_of_vc (C := Tz g) ann_proof_hasLine hf_proof_hasLine ok_proof_hasLine nt_proof_hasLine hk (pn := false) (Eq.mpr ((vcFn2_eq _ _ _ _ _ _ _ _).trans (vc_proof_hasLine_eq g pre a0 a1 r post)) h)
theorem meets_proof_hasLine {g : GG} {a0 a1 : D} {r : Res} (h : vc_proof_hasLine (Tz g) [] (.d a0) (.d a1) r.val (r.bl.map .upd)) : Meets (Tz g) f_proof_hasLine [a0, a1] r := meetsH_proof_hasLine rfl h
def ann_proof_hasPerson : Nat → List Nat := fun n => match n with  | _ => []
def vc_proof_hasPerson (P : Ctx) (pre : List ABlk) (a0 a1 : AV) (r : AV) (post : List PB) : Prop :=
  let h0 : Heap := numbered 0 pre
  BOX T_api_ProofPage a0 24 h0 fun v2 h1 =>
  FADDR 0 v2 h1 fun v6 =>
  LOAD false 1 v6 h1 fun v7 =>
  BIN 0 .sub v7 (.d (.num .i64 1)) fun v8 =>
  CALL P f_proof_in [a1, (.d (.num .i64 0)), v8] 72 h1 (fun _ v9 h2 =>
  POST v9 h2 pre r post)
  (fun _ _ _ => False)
theorem vc_proof_hasPerson_eq (g : GG) (pre : List ABlk) (a0 a1 : AV) (r : AV) (post : List PB) : vcFn2 (Tz g) false ann_proof_hasPerson Tryz.f49 pre [a0, a1] (.ret r) post = vc_proof_hasPerson (Tz g) pre a0 a1 r post := by kernel_rfl
theorem hf_proof_hasPerson : Tryz.prog.funcs[f_proof_hasPerson]? = some Tryz.f49 := by kernel_rfl
theorem ok_proof_hasPerson : fnVcOK Tryz.prog Tryz.f49 = true := by kernel_rfl
theorem nt_proof_hasPerson : Nat.ble 2 Tryz.f49.ntmps = true := by kernel_rfl
theorem meetsH_proof_hasPerson {g : GG} {pre : List ABlk} {a0 a1 : AV} {r : AV} {post : List PB} (hk : Nat.ble pre.length 24 = true) (h : vc_proof_hasPerson (Tz g) pre a0 a1 r post) : MeetsH (Tz g) f_proof_hasPerson pre [a0, a1] (.ret r) post :=
  meetsH_of_vc (C := Tz g) ann_proof_hasPerson hf_proof_hasPerson ok_proof_hasPerson nt_proof_hasPerson hk (pn := false) (Eq.mpr ((vcFn2_eq _ _ _ _ _ _ _ _).trans (vc_proof_hasPerson_eq g pre a0 a1 r post)) h)
theorem meets_proof_hasPerson {g : GG} {a0 a1 : D} {r : Res} (h : vc_proof_hasPerson (Tz g) [] (.d a0) (.d a1) r.val (r.bl.map .upd)) : Meets (Tz g) f_proof_hasPerson [a0, a1] r := meetsH_proof_hasPerson rfl h
def ann_proof_isPage : Nat → List Nat := fun n => match n with  | _ => []
def vc_proof_isPage (P : Ctx) (pre : List ABlk) (a0 : AV) (r : AV) (post : List PB) : Prop :=
  let h0 : Heap := numbered 0 pre
  BOX T_api_ProofPage a0 24 h0 fun v1 h1 =>
  FADDR 0 v1 h1 fun v3 =>
  LOAD false 1 v3 h1 fun v4 =>
  CALL P f_proof_in [v4, (.d (.num .i64 2)), (.d (.num .i64 6))] 56 h1 (fun _ v5 h2 =>
  NOT v5 fun v6 =>
  CONDG v6
  (POST (.d (.bool false)) h2 pre r post)
  (FADDR 1 v1 h2 fun v8 =>
  LOAD false 1 v8 h2 fun v9 =>
  LEN false v9 h2 fun v10 =>
  CALL P f_proof_in [v10, (.d (.num .i64 1)), (.d (.num .i64 6))] 104 h2 (fun _ v11 h4 =>
  NOT v11 fun v12 =>
  CONDG v12
  (POST (.d (.bool false)) h4 pre r post)
  (FADDR 2 v1 h4 fun v15 =>
  LOAD false 1 v15 h4 fun v16 =>
  LEN false v16 h4 fun v17 =>
  BIN 0 .gtr v17 (.d (.num .i64 10)) fun v18 =>
  COND v18
  (POST (.d (.bool false)) h4 pre r post)
  (FADDR 1 v1 h4 fun v20 =>
  LOAD false 1 v20 h4 fun v21 =>
  CALL P f_slices_ContainsFunc_l_api_ProofLine_api_ProofLine [v21, (.fn f_proof_isPage_1 [] [v1])] 200 h4 (fun _ v23 h6 =>
  NOT v23 fun v24 =>
  CONDG v24
  (FADDR 2 v1 h6 fun v26 =>
  LOAD false 1 v26 h6 fun v27 =>
  CALL P f_slices_ContainsFunc_l_api_ProofEntry_api_ProofEntry [v27, (.fn f_proof_isPage_2 [] [v1])] 248 h6 (fun _ v29 h8 =>
  NOT v29 fun v30 =>
  POST v30 h8 pre r post)
  (fun _ _ _ => False))
  (POST (.d (.bool false)) h6 pre r post))
  (fun _ _ _ => False))))
  (fun _ _ _ => False)))
  (fun _ _ _ => False)
theorem vc_proof_isPage_eq (g : GG) (pre : List ABlk) (a0 : AV) (r : AV) (post : List PB) : vcFn2 (Tz g) false ann_proof_isPage Tryz.f22 pre [a0] (.ret r) post = vc_proof_isPage (Tz g) pre a0 r post := by kernel_rfl
theorem hf_proof_isPage : Tryz.prog.funcs[f_proof_isPage]? = some Tryz.f22 := by kernel_rfl
theorem ok_proof_isPage : fnVcOK Tryz.prog Tryz.f22 = true := by kernel_rfl
theorem nt_proof_isPage : Nat.ble 1 Tryz.f22.ntmps = true := by kernel_rfl
theorem meetsH_proof_isPage {g : GG} {pre : List ABlk} {a0 : AV} {r : AV} {post : List PB} (hk : Nat.ble pre.length 24 = true) (h : vc_proof_isPage (Tz g) pre a0 r post) : MeetsH (Tz g) f_proof_isPage pre [a0] (.ret r) post :=
  meetsH_of_vc (C := Tz g) ann_proof_isPage hf_proof_isPage ok_proof_isPage nt_proof_isPage hk (pn := false) (Eq.mpr ((vcFn2_eq _ _ _ _ _ _ _ _).trans (vc_proof_isPage_eq g pre a0 r post)) h)
theorem meets_proof_isPage {g : GG} {a0 : D} {r : Res} (h : vc_proof_isPage (Tz g) [] (.d a0) r.val (r.bl.map .upd)) : Meets (Tz g) f_proof_isPage [a0] r := meetsH_proof_isPage rfl h
def ann_proof_isPage_1 : Nat → List Nat := fun n => match n with  | _ => []
def vc_proof_isPage_1 (P : Ctx) (pre : List ABlk) (a0 a1 : AV) (r : AV) (post : List PB) : Prop :=
  let h0 : Heap := numbered 0 pre
  BOX T_api_ProofLine a0 24 h0 fun v2 h1 =>
  LOAD true 3 a1 h1 fun v4 =>
  FADDR 0 v2 h1 fun v5 =>
  LOAD false 1 v5 h1 fun v6 =>
  CALL P f_proof_hasPerson [v4, v6] 64 h1 (fun _ v7 h2 =>
  NOT v7 fun v8 =>
  CONDG v8
  (POST (.d (.bool true)) h2 pre r post)
  (FADDR 1 v2 h2 fun v10 =>
  LOAD false 1 v10 h2 fun v11 =>
  CALL P f_proof_isNumber [v11] 104 h2 (fun _ v12 h4 =>
  NOT v12 fun v13 =>
  CONDG v13
  (POST (.d (.bool true)) h4 pre r post)
  (FADDR 2 v2 h4 fun v16 =>
  LOAD false 1 v16 h4 fun v17 =>
  CALL P f_proof_isNumber [v17] 152 h4 (fun _ v18 h6 =>
  NOT v18 fun v19 =>
  POST v19 h6 pre r post)
  (fun _ _ _ => False)))
  (fun _ _ _ => False)))
  (fun _ _ _ => False)
theorem vc_proof_isPage_1_eq (g : GG) (pre : List ABlk) (a0 a1 : AV) (r : AV) (post : List PB) : vcFn2 (Tz g) false ann_proof_isPage_1 Tryz.f48 pre [a0, a1] (.ret r) post = vc_proof_isPage_1 (Tz g) pre a0 a1 r post := by kernel_rfl
theorem hf_proof_isPage_1 : Tryz.prog.funcs[f_proof_isPage_1]? = some Tryz.f48 := by kernel_rfl
theorem ok_proof_isPage_1 : fnVcOK Tryz.prog Tryz.f48 = true := by kernel_rfl
theorem nt_proof_isPage_1 : Nat.ble 2 Tryz.f48.ntmps = true := by kernel_rfl
theorem meetsH_proof_isPage_1 {g : GG} {pre : List ABlk} {a0 a1 : AV} {r : AV} {post : List PB} (hk : Nat.ble pre.length 24 = true) (h : vc_proof_isPage_1 (Tz g) pre a0 a1 r post) : MeetsH (Tz g) f_proof_isPage_1 pre [a0, a1] (.ret r) post :=
  meetsH_of_vc (C := Tz g) ann_proof_isPage_1 hf_proof_isPage_1 ok_proof_isPage_1 nt_proof_isPage_1 hk (pn := false) (Eq.mpr ((vcFn2_eq _ _ _ _ _ _ _ _).trans (vc_proof_isPage_1_eq g pre a0 a1 r post)) h)
def ann_proof_isPage_2 : Nat → List Nat := fun n => match n with  | _ => []
def vc_proof_isPage_2 (P : Ctx) (pre : List ABlk) (a0 a1 : AV) (r : AV) (post : List PB) : Prop :=
  let h0 : Heap := numbered 0 pre
  BOX T_api_ProofEntry a0 24 h0 fun v2 h1 =>
  LOAD true 3 a1 h1 fun v4 =>
  LOAD true 2 v2 h1 fun v5 =>
  CALL P f_proof_isEntry [v4, v5] 56 h1 (fun _ v6 h2 =>
  NOT v6 fun v7 =>
  POST v7 h2 pre r post)
  (fun _ _ _ => False)
theorem vc_proof_isPage_2_eq (g : GG) (pre : List ABlk) (a0 a1 : AV) (r : AV) (post : List PB) : vcFn2 (Tz g) false ann_proof_isPage_2 Tryz.f52 pre [a0, a1] (.ret r) post = vc_proof_isPage_2 (Tz g) pre a0 a1 r post := by kernel_rfl
theorem hf_proof_isPage_2 : Tryz.prog.funcs[f_proof_isPage_2]? = some Tryz.f52 := by kernel_rfl
theorem ok_proof_isPage_2 : fnVcOK Tryz.prog Tryz.f52 = true := by kernel_rfl
theorem nt_proof_isPage_2 : Nat.ble 2 Tryz.f52.ntmps = true := by kernel_rfl
theorem meetsH_proof_isPage_2 {g : GG} {pre : List ABlk} {a0 a1 : AV} {r : AV} {post : List PB} (hk : Nat.ble pre.length 24 = true) (h : vc_proof_isPage_2 (Tz g) pre a0 a1 r post) : MeetsH (Tz g) f_proof_isPage_2 pre [a0, a1] (.ret r) post :=
  meetsH_of_vc (C := Tz g) ann_proof_isPage_2 hf_proof_isPage_2 ok_proof_isPage_2 nt_proof_isPage_2 hk (pn := false) (Eq.mpr ((vcFn2_eq _ _ _ _ _ _ _ _).trans (vc_proof_isPage_2_eq g pre a0 a1 r post)) h)
def ann_slices_ContainsFunc_l_api_ProofLine_api_ProofLine : Nat → List Nat := fun n => match n with  | _ => []
def vc_slices_ContainsFunc_l_api_ProofLine_api_ProofLine (P : Ctx) (pre : List ABlk) (a0 a1 : AV) (r : AV) (post : List PB) : Prop :=
  let h0 : Heap := numbered 0 pre
  CALL P f_slices_IndexFunc_l_api_ProofLine_api_ProofLine [a0, a1] 48 h0 (fun _ v7 h1 =>
  BIN 0 .geq v7 (.d (.num .i64 0)) fun v8 =>
  POST v8 h1 pre r post)
  (fun _ _ _ => False)
theorem vc_slices_ContainsFunc_l_api_ProofLine_api_ProofLine_eq (g : GG) (pre : List ABlk) (a0 a1 : AV) (r : AV) (post : List PB) : vcFn2 (Tz g) false ann_slices_ContainsFunc_l_api_ProofLine_api_ProofLine Tryz.f47 pre [a0, a1] (.ret r) post = vc_slices_ContainsFunc_l_api_ProofLine_api_ProofLine (Tz g) pre a0 a1 r post := by kernel_rfl
theorem hf_slices_ContainsFunc_l_api_ProofLine_api_ProofLine : Tryz.prog.funcs[f_slices_ContainsFunc_l_api_ProofLine_api_ProofLine]? = some Tryz.f47 := by kernel_rfl
theorem ok_slices_ContainsFunc_l_api_ProofLine_api_ProofLine : fnVcOK Tryz.prog Tryz.f47 = true := by kernel_rfl
theorem nt_slices_ContainsFunc_l_api_ProofLine_api_ProofLine : Nat.ble 2 Tryz.f47.ntmps = true := by kernel_rfl
theorem meetsH_slices_ContainsFunc_l_api_ProofLine_api_ProofLine {g : GG} {pre : List ABlk} {a0 a1 : AV} {r : AV} {post : List PB} (hk : Nat.ble pre.length 24 = true) (h : vc_slices_ContainsFunc_l_api_ProofLine_api_ProofLine (Tz g) pre a0 a1 r post) : MeetsH (Tz g) f_slices_ContainsFunc_l_api_ProofLine_api_ProofLine pre [a0, a1] (.ret r) post :=
  meetsH_of_vc (C := Tz g) ann_slices_ContainsFunc_l_api_ProofLine_api_ProofLine hf_slices_ContainsFunc_l_api_ProofLine_api_ProofLine ok_slices_ContainsFunc_l_api_ProofLine_api_ProofLine nt_slices_ContainsFunc_l_api_ProofLine_api_ProofLine hk (pn := false) (Eq.mpr ((vcFn2_eq _ _ _ _ _ _ _ _).trans (vc_slices_ContainsFunc_l_api_ProofLine_api_ProofLine_eq g pre a0 a1 r post)) h)
def ann_slices_IndexFunc_l_api_ProofLine_api_ProofLine : Nat → List Nat := fun n => match n with | 2 => [0, 1, 7, 8] | _ => []
def vc_slices_IndexFunc_l_api_ProofLine_api_ProofLine (P : Ctx) (pre : List ABlk) (a0 a1 : AV) (r : AV) (post : List PB) : Prop :=
  let h0 : Heap := numbered 0 pre
  LEN false a0 h0 fun v7 =>
  LOOP [a0, a1, v7, (.d (.num .i64 0))] h0 56 fun vs1 h2 next1 =>
  BIN 0 .lss (nth vs1 3) (nth vs1 2) fun v9 =>
  COND v9
  (IADDR 3 T_api_ProofLine (nth vs1 0) (nth vs1 3) h2 fun v14 =>
  LOAD true 3 v14 h2 fun v15 =>
  CALLV P (nth vs1 1) [v15] 128 h2 (fun _ v16 h3 =>
  COND v16
  (POST (nth vs1 3) h3 pre r post)
  (BIN 0 .add (nth vs1 3) (.d (.num .i64 1)) fun v18 =>
  next1 [(nth vs1 0), (nth vs1 1), (nth vs1 2), v18] h3))
  (fun _ _ _ => False))
  (POST (.d (.num .i64 (-1))) h2 pre r post)
theorem vc_slices_IndexFunc_l_api_ProofLine_api_ProofLine_eq (g : GG) (pre : List ABlk) (a0 a1 : AV) (r : AV) (post : List PB) : vcFn2 (Tz g) false ann_slices_IndexFunc_l_api_ProofLine_api_ProofLine Tryz.f88 pre [a0, a1] (.ret r) post = vc_slices_IndexFunc_l_api_ProofLine_api_ProofLine (Tz g) pre a0 a1 r post := by kernel_rfl
theorem hf_slices_IndexFunc_l_api_ProofLine_api_ProofLine : Tryz.prog.funcs[f_slices_IndexFunc_l_api_ProofLine_api_ProofLine]? = some Tryz.f88 := by kernel_rfl
theorem ok_slices_IndexFunc_l_api_ProofLine_api_ProofLine : fnVcOK Tryz.prog Tryz.f88 = true := by kernel_rfl
theorem nt_slices_IndexFunc_l_api_ProofLine_api_ProofLine : Nat.ble 2 Tryz.f88.ntmps = true := by kernel_rfl
theorem meetsH_slices_IndexFunc_l_api_ProofLine_api_ProofLine {g : GG} {pre : List ABlk} {a0 a1 : AV} {r : AV} {post : List PB} (hk : Nat.ble pre.length 24 = true) (h : vc_slices_IndexFunc_l_api_ProofLine_api_ProofLine (Tz g) pre a0 a1 r post) : MeetsH (Tz g) f_slices_IndexFunc_l_api_ProofLine_api_ProofLine pre [a0, a1] (.ret r) post :=
  meetsH_of_vc (C := Tz g) ann_slices_IndexFunc_l_api_ProofLine_api_ProofLine hf_slices_IndexFunc_l_api_ProofLine_api_ProofLine ok_slices_IndexFunc_l_api_ProofLine_api_ProofLine nt_slices_IndexFunc_l_api_ProofLine_api_ProofLine hk (pn := false) (Eq.mpr ((vcFn2_eq _ _ _ _ _ _ _ _).trans (vc_slices_IndexFunc_l_api_ProofLine_api_ProofLine_eq g pre a0 a1 r post)) h)
def ann_slices_ContainsFunc_l_api_ProofEntry_api_ProofEntry : Nat → List Nat := fun n => match n with  | _ => []
def vc_slices_ContainsFunc_l_api_ProofEntry_api_ProofEntry (P : Ctx) (pre : List ABlk) (a0 a1 : AV) (r : AV) (post : List PB) : Prop :=
  let h0 : Heap := numbered 0 pre
  CALL P f_slices_IndexFunc_l_api_ProofEntry_api_ProofEntry [a0, a1] 48 h0 (fun _ v7 h1 =>
  BIN 0 .geq v7 (.d (.num .i64 0)) fun v8 =>
  POST v8 h1 pre r post)
  (fun _ _ _ => False)
theorem vc_slices_ContainsFunc_l_api_ProofEntry_api_ProofEntry_eq (g : GG) (pre : List ABlk) (a0 a1 : AV) (r : AV) (post : List PB) : vcFn2 (Tz g) false ann_slices_ContainsFunc_l_api_ProofEntry_api_ProofEntry Tryz.f51 pre [a0, a1] (.ret r) post = vc_slices_ContainsFunc_l_api_ProofEntry_api_ProofEntry (Tz g) pre a0 a1 r post := by kernel_rfl
theorem hf_slices_ContainsFunc_l_api_ProofEntry_api_ProofEntry : Tryz.prog.funcs[f_slices_ContainsFunc_l_api_ProofEntry_api_ProofEntry]? = some Tryz.f51 := by kernel_rfl
theorem ok_slices_ContainsFunc_l_api_ProofEntry_api_ProofEntry : fnVcOK Tryz.prog Tryz.f51 = true := by kernel_rfl
theorem nt_slices_ContainsFunc_l_api_ProofEntry_api_ProofEntry : Nat.ble 2 Tryz.f51.ntmps = true := by kernel_rfl
theorem meetsH_slices_ContainsFunc_l_api_ProofEntry_api_ProofEntry {g : GG} {pre : List ABlk} {a0 a1 : AV} {r : AV} {post : List PB} (hk : Nat.ble pre.length 24 = true) (h : vc_slices_ContainsFunc_l_api_ProofEntry_api_ProofEntry (Tz g) pre a0 a1 r post) : MeetsH (Tz g) f_slices_ContainsFunc_l_api_ProofEntry_api_ProofEntry pre [a0, a1] (.ret r) post :=
  meetsH_of_vc (C := Tz g) ann_slices_ContainsFunc_l_api_ProofEntry_api_ProofEntry hf_slices_ContainsFunc_l_api_ProofEntry_api_ProofEntry ok_slices_ContainsFunc_l_api_ProofEntry_api_ProofEntry nt_slices_ContainsFunc_l_api_ProofEntry_api_ProofEntry hk (pn := false) (Eq.mpr ((vcFn2_eq _ _ _ _ _ _ _ _).trans (vc_slices_ContainsFunc_l_api_ProofEntry_api_ProofEntry_eq g pre a0 a1 r post)) h)
def ann_slices_IndexFunc_l_api_ProofEntry_api_ProofEntry : Nat → List Nat := fun n => match n with | 2 => [0, 1, 7, 8] | _ => []
def vc_slices_IndexFunc_l_api_ProofEntry_api_ProofEntry (P : Ctx) (pre : List ABlk) (a0 a1 : AV) (r : AV) (post : List PB) : Prop :=
  let h0 : Heap := numbered 0 pre
  LEN false a0 h0 fun v7 =>
  LOOP [a0, a1, v7, (.d (.num .i64 0))] h0 56 fun vs1 h2 next1 =>
  BIN 0 .lss (nth vs1 3) (nth vs1 2) fun v9 =>
  COND v9
  (IADDR 2 T_api_ProofEntry (nth vs1 0) (nth vs1 3) h2 fun v14 =>
  LOAD true 2 v14 h2 fun v15 =>
  CALLV P (nth vs1 1) [v15] 128 h2 (fun _ v16 h3 =>
  COND v16
  (POST (nth vs1 3) h3 pre r post)
  (BIN 0 .add (nth vs1 3) (.d (.num .i64 1)) fun v18 =>
  next1 [(nth vs1 0), (nth vs1 1), (nth vs1 2), v18] h3))
  (fun _ _ _ => False))
  (POST (.d (.num .i64 (-1))) h2 pre r post)
theorem vc_slices_IndexFunc_l_api_ProofEntry_api_ProofEntry_eq (g : GG) (pre : List ABlk) (a0 a1 : AV) (r : AV) (post : List PB) : vcFn2 (Tz g) false ann_slices_IndexFunc_l_api_ProofEntry_api_ProofEntry Tryz.f89 pre [a0, a1] (.ret r) post = vc_slices_IndexFunc_l_api_ProofEntry_api_ProofEntry (Tz g) pre a0 a1 r post := by kernel_rfl
theorem hf_slices_IndexFunc_l_api_ProofEntry_api_ProofEntry : Tryz.prog.funcs[f_slices_IndexFunc_l_api_ProofEntry_api_ProofEntry]? = some Tryz.f89 := by kernel_rfl
theorem ok_slices_IndexFunc_l_api_ProofEntry_api_ProofEntry : fnVcOK Tryz.prog Tryz.f89 = true := by kernel_rfl
theorem nt_slices_IndexFunc_l_api_ProofEntry_api_ProofEntry : Nat.ble 2 Tryz.f89.ntmps = true := by kernel_rfl
theorem meetsH_slices_IndexFunc_l_api_ProofEntry_api_ProofEntry {g : GG} {pre : List ABlk} {a0 a1 : AV} {r : AV} {post : List PB} (hk : Nat.ble pre.length 24 = true) (h : vc_slices_IndexFunc_l_api_ProofEntry_api_ProofEntry (Tz g) pre a0 a1 r post) : MeetsH (Tz g) f_slices_IndexFunc_l_api_ProofEntry_api_ProofEntry pre [a0, a1] (.ret r) post :=
  meetsH_of_vc (C := Tz g) ann_slices_IndexFunc_l_api_ProofEntry_api_ProofEntry hf_slices_IndexFunc_l_api_ProofEntry_api_ProofEntry ok_slices_IndexFunc_l_api_ProofEntry_api_ProofEntry nt_slices_IndexFunc_l_api_ProofEntry_api_ProofEntry hk (pn := false) (Eq.mpr ((vcFn2_eq _ _ _ _ _ _ _ _).trans (vc_slices_IndexFunc_l_api_ProofEntry_api_ProofEntry_eq g pre a0 a1 r post)) h)
def ann_ref09_in : Nat → List Nat := fun n => match n with  | _ => []
def vc_ref09_in (_P : Ctx) (pre : List ABlk) (a0 a1 a2 : AV) (r : AV) (post : List PB) : Prop :=
  let h0 : Heap := numbered 0 pre
  BIN 0 .geq a0 a1 fun v9 =>
  CONDG v9
  (BIN 0 .leq a0 a2 fun v13 =>
  POST v13 h0 pre r post)
  (POST (.d (.bool false)) h0 pre r post)
theorem vc_ref09_in_eq (g : GG) (pre : List ABlk) (a0 a1 a2 : AV) (r : AV) (post : List PB) : vcFn2 (Tz g) false ann_ref09_in Tryz.f11 pre [a0, a1, a2] (.ret r) post = vc_ref09_in (Tz g) pre a0 a1 a2 r post := by kernel_rfl
theorem hf_ref09_in : Tryz.prog.funcs[f_ref09_in]? = some Tryz.f11 := by kernel_rfl
theorem ok_ref09_in : fnVcOK Tryz.prog Tryz.f11 = true := by kernel_rfl
theorem nt_ref09_in : Nat.ble 3 Tryz.f11.ntmps = true := by kernel_rfl
theorem meetsH_ref09_in {g : GG} {pre : List ABlk} {a0 a1 a2 : AV} {r : AV} {post : List PB} (hk : Nat.ble pre.length 24 = true) (h : vc_ref09_in (Tz g) pre a0 a1 a2 r post) : MeetsH (Tz g) f_ref09_in pre [a0, a1, a2] (.ret r) post :=
  meetsH_of_vc (C := Tz g) ann_ref09_in hf_ref09_in ok_ref09_in nt_ref09_in hk (pn := false) (Eq.mpr ((vcFn2_eq _ _ _ _ _ _ _ _).trans (vc_ref09_in_eq g pre a0 a1 a2 r post)) h)
theorem meets_ref09_in {g : GG} {a0 a1 a2 : D} {r : Res} (h : vc_ref09_in (Tz g) [] (.d a0) (.d a1) (.d a2) r.val (r.bl.map .upd)) : Meets (Tz g) f_ref09_in [a0, a1, a2] r := meetsH_ref09_in rfl h
def ann_ref09_Person : Nat → List Nat := fun n => match n with  | _ => []
def vc_ref09_Person (P : Ctx) (pre : List ABlk) (a0 a1 : AV) (r : AV) (post : List PB) : Prop :=
  let h0 : Heap := numbered 0 pre
  BOX T_api_ProofPage a0 24 h0 fun v2 h1 =>
  FADDR 0 v2 h1 fun v6 =>
  LOAD false 1 v6 h1 fun v7 =>
  BIN 0 .sub v7 (.d (.num .i64 1)) fun v8 =>
  CALL P f_ref09_in [a1, (.d (.num .i64 0)), v8] 72 h1 (fun _ v9 h2 =>
  POST v9 h2 pre r post)
  (fun _ _ _ => False)
theorem vc_ref09_Person_eq (g : GG) (pre : List ABlk) (a0 a1 : AV) (r : AV) (post : List PB) : vcFn2 (Tz g) false ann_ref09_Person Tryz.f12 pre [a0, a1] (.ret r) post = vc_ref09_Person (Tz g) pre a0 a1 r post := by kernel_rfl
theorem hf_ref09_Person : Tryz.prog.funcs[f_ref09_Person]? = some Tryz.f12 := by kernel_rfl
theorem ok_ref09_Person : fnVcOK Tryz.prog Tryz.f12 = true := by kernel_rfl
theorem nt_ref09_Person : Nat.ble 2 Tryz.f12.ntmps = true := by kernel_rfl
theorem meetsH_ref09_Person {g : GG} {pre : List ABlk} {a0 a1 : AV} {r : AV} {post : List PB} (hk : Nat.ble pre.length 24 = true) (h : vc_ref09_Person (Tz g) pre a0 a1 r post) : MeetsH (Tz g) f_ref09_Person pre [a0, a1] (.ret r) post :=
  meetsH_of_vc (C := Tz g) ann_ref09_Person hf_ref09_Person ok_ref09_Person nt_ref09_Person hk (pn := false) (Eq.mpr ((vcFn2_eq _ _ _ _ _ _ _ _).trans (vc_ref09_Person_eq g pre a0 a1 r post)) h)
theorem meets_ref09_Person {g : GG} {a0 a1 : D} {r : Res} (h : vc_ref09_Person (Tz g) [] (.d a0) (.d a1) r.val (r.bl.map .upd)) : Meets (Tz g) f_ref09_Person [a0, a1] r := meetsH_ref09_Person rfl h
def ann_ref09_Line : Nat → List Nat := fun n => match n with  | _ => []
def vc_ref09_Line (P : Ctx) (pre : List ABlk) (a0 a1 : AV) (r : AV) (post : List PB) : Prop :=
  let h0 : Heap := numbered 0 pre
  BOX T_api_ProofPage a0 24 h0 fun v2 h1 =>
  FADDR 1 v2 h1 fun v6 =>
  LOAD false 1 v6 h1 fun v7 =>
  LEN false v7 h1 fun v8 =>
  BIN 0 .sub v8 (.d (.num .i64 1)) fun v9 =>
  CALL P f_ref09_in [a1, (.d (.num .i64 0)), v9] 80 h1 (fun _ v10 h2 =>
  POST v10 h2 pre r post)
  (fun _ _ _ => False)
theorem vc_ref09_Line_eq (g : GG) (pre : List ABlk) (a0 a1 : AV) (r : AV) (post : List PB) : vcFn2 (Tz g) false ann_ref09_Line Tryz.f8 pre [a0, a1] (.ret r) post = vc_ref09_Line (Tz g) pre a0 a1 r post := by kernel_rfl
theorem hf_ref09_Line : Tryz.prog.funcs[f_ref09_Line]? = some Tryz.f8 := by kernel_rfl
theorem ok_ref09_Line : fnVcOK Tryz.prog Tryz.f8 = true := by kernel_rfl
theorem nt_ref09_Line : Nat.ble 2 Tryz.f8.ntmps = true := by kernel_rfl
theorem meetsH_ref09_Line {g : GG} {pre : List ABlk} {a0 a1 : AV} {r : AV} {post : List PB} (hk : Nat.ble pre.length 24 = true) (h : vc_ref09_Line (Tz g) pre a0 a1 r post) : MeetsH (Tz g) f_ref09_Line pre [a0, a1] (.ret r) post :=
  meetsH_of_vc (C := Tz g) ann_ref09_Line hf_ref09_Line ok_ref09_Line nt_ref09_Line hk (pn := false) (Eq.mpr ((vcFn2_eq _ _ _ _ _ _ _ _).trans (vc_ref09_Line_eq g pre a0 a1 r post)) h)
theorem meets_ref09_Line {g : GG} {a0 a1 : D} {r : Res} (h : vc_ref09_Line (Tz g) [] (.d a0) (.d a1) r.val (r.bl.map .upd)) : Meets (Tz g) f_ref09_Line [a0, a1] r := meetsH_ref09_Line rfl h
def ann_ref09_Pair : Nat → List Nat := fun n => match n with  | _ => []
def vc_ref09_Pair (P : Ctx) (pre : List ABlk) (a0 a1 a2 : AV) (r : AV) (post : List PB) : Prop :=
  let h0 : Heap := numbered 0 pre
  BOX T_api_ProofPage a0 24 h0 fun v3 h1 =>
  LOAD true 3 v3 h1 fun v7 =>
  CALL P f_ref09_Person [v7, a1] 56 h1 (fun _ v9 h2 =>
  CONDG v9
  (LOAD true 3 v3 h2 fun v11 =>
  CALL P f_ref09_Person [v11, a2] 88 h2 (fun _ v13 h4 =>
  CONDG v13
  (BIN 0 .lss a1 a2 fun v18 =>
  POST v18 h4 pre r post)
  (POST (.d (.bool false)) h4 pre r post))
  (fun _ _ _ => False))
  (POST (.d (.bool false)) h2 pre r post))
  (fun _ _ _ => False)
theorem vc_ref09_Pair_eq (g : GG) (pre : List ABlk) (a0 a1 a2 : AV) (r : AV) (post : List PB) : vcFn2 (Tz g) false ann_ref09_Pair Tryz.f33 pre [a0, a1, a2] (.ret r) post = vc_ref09_Pair (Tz g) pre a0 a1 a2 r post := by kernel_rfl
theorem hf_ref09_Pair : Tryz.prog.funcs[f_ref09_Pair]? = some Tryz.f33 := by kernel_rfl
theorem ok_ref09_Pair : fnVcOK Tryz.prog Tryz.f33 = true := by kernel_rfl
theorem nt_ref09_Pair : Nat.ble 3 Tryz.f33.ntmps = true := by kernel_rfl
theorem meetsH_ref09_Pair {g : GG} {pre : List ABlk} {a0 a1 a2 : AV} {r : AV} {post : List PB} (hk : Nat.ble pre.length 24 = true) (h : vc_ref09_Pair (Tz g) pre a0 a1 a2 r post) : MeetsH (Tz g) f_ref09_Pair pre [a0, a1, a2] (.ret r) post :=
  meetsH_of_vc (C := Tz g) ann_ref09_Pair hf_ref09_Pair ok_ref09_Pair nt_ref09_Pair hk (pn := false) (Eq.mpr ((vcFn2_eq _ _ _ _ _ _ _ _).trans (vc_ref09_Pair_eq g pre a0 a1 a2 r post)) h)
theorem meets_ref09_Pair {g : GG} {a0 a1 a2 : D} {r : Res} (h : vc_ref09_Pair (Tz g) [] (.d a0) (.d a1) (.d a2) r.val (r.bl.map .upd)) : Meets (Tz g) f_ref09_Pair [a0, a1, a2] r := meetsH_ref09_Pair rfl h
def ann_ref02_in : Nat → List Nat := fun n => match n with  | _ => []
def vc_ref02_in (_P : Ctx) (pre : List ABlk) (a0 a1 a2 : AV) (r : AV) (post : List PB) : Prop :=
  let h0 : Heap := numbered 0 pre
  BIN 0 .geq a0 a1 fun v9 =>
  CONDG v9
  (BIN 0 .leq a0 a2 fun v13 =>
  POST v13 h0 pre r post)
  (POST (.d (.bool false)) h0 pre r post)
theorem vc_ref02_in_eq (g : GG) (pre : List ABlk) (a0 a1 a2 : AV) (r : AV) (post : List PB) : vcFn2 (Tz g) false ann_ref02_in Tryz.f32 pre [a0, a1, a2] (.ret r) post = vc_ref02_in (Tz g) pre a0 a1 a2 r post := by kernel_rfl
theorem hf_ref02_in : Tryz.prog.funcs[f_ref02_in]? = some Tryz.f32 := by kernel_rfl
theorem ok_ref02_in : fnVcOK Tryz.prog Tryz.f32 = true := by kernel_rfl
theorem nt_ref02_in : Nat.ble 3 Tryz.f32.ntmps = true := by kernel_rfl
theorem meetsH_ref02_in {g : GG} {pre : List ABlk} {a0 a1 a2 : AV} {r : AV} {post : List PB} (hk : Nat.ble pre.length 24 = true) (h : vc_ref02_in (Tz g) pre a0 a1 a2 r post) : MeetsH (Tz g) f_ref02_in pre [a0, a1, a2] (.ret r) post :=
  meetsH_of_vc (C := Tz g) ann_ref02_in hf_ref02_in ok_ref02_in nt_ref02_in hk (pn := false) (Eq.mpr ((vcFn2_eq _ _ _ _ _ _ _ _).trans (vc_ref02_in_eq g pre a0 a1 a2 r post)) h)
theorem meets_ref02_in {g : GG} {a0 a1 a2 : D} {r : Res} (h : vc_ref02_in (Tz g) [] (.d a0) (.d a1) (.d a2) r.val (r.bl.map .upd)) : Meets (Tz g) f_ref02_in [a0, a1, a2] r := meetsH_ref02_in rfl h
def ann_ref02_Number : Nat → List Nat := fun n => match n with  | _ => []
def vc_ref02_Number (P : Ctx) (pre : List ABlk) (a0 : AV) (r : AV) (post : List PB) : Prop :=
  let h0 : Heap := numbered 0 pre
  CALL P f_ref02_in [a0, (.d (.num .i64 (-999))), (.d (.num .i64 999))] 40 h0 (fun _ v4 h1 =>
  POST v4 h1 pre r post)
  (fun _ _ _ => False)
theorem vc_ref02_Number_eq (g : GG) (pre : List ABlk) (a0 : AV) (r : AV) (post : List PB) : vcFn2 (Tz g) false ann_ref02_Number Tryz.f13 pre [a0] (.ret r) post = vc_ref02_Number (Tz g) pre a0 r post := by kernel_rfl
theorem hf_ref02_Number : Tryz.prog.funcs[f_ref02_Number]? = some Tryz.f13 := by kernel_rfl
theorem ok_ref02_Number : fnVcOK Tryz.prog Tryz.f13 = true := by kernel_rfl
theorem nt_ref02_Number : Nat.ble 1 Tryz.f13.ntmps = true := by kernel_rfl
theorem meetsH_ref02_Number {g : GG} {pre : List ABlk} {a0 : AV} {r : AV} {post : List PB} (hk : Nat.ble pre.length 24 = true) (h : vc_ref02_Number (Tz g) pre a0 r post) : MeetsH (Tz g) f_ref02_Number pre [a0] (.ret r) post :=
  meetsH_of_vc (C := Tz g) ann_ref02_Number hf_ref02_Number ok_ref02_Number nt_ref02_Number hk (pn := false) (Eq.mpr ((vcFn2_eq _ _ _ _ _ _ _ _).trans (vc_ref02_Number_eq g pre a0 r post)) h)
theorem meets_ref02_Number {g : GG} {a0 : D} {r : Res} (h : vc_ref02_Number (Tz g) [] (.d a0) r.val (r.bl.map .upd)) : Meets (Tz g) f_ref02_Number [a0] r := meetsH_ref02_Number rfl h
end Go.Vc

namespace Go.Vc
open Go Go.Proofs Go.RowKit
def ann_proof_isEntry : Nat → List Nat := fun n => match n with  | _ => []
def vc_proof_isEntry_k0 (_P : Ctx) (pre : List ABlk) (r : AV) (post : List PB) (v0 : AV) (h1 : Heap) (h7 : Heap) (v8 : AV) (v9 : AV) (h10 : Heap) (rd11 : List Nat) (v12 : AV) (h13 : Heap) (rd14 : List Nat) (v15 : AV) (v16 : AV) (v17 : AV) (h18 : Heap) (rd19 : List Nat) (v20 : AV) (rd21 : List Nat) : Prop :=
  IADDR 1 T_int v0 (.d (.num .i64 2)) h1 fun v2 =>
  LOAD false 1 v2 h1 fun v3 =>
  IADDR 1 T_int v0 (.d (.num .i64 3)) h1 fun v4 =>
  LOAD false 1 v4 h1 fun v5 =>
  BIN 0 .leq v3 v5 fun v6 =>
  ORDX [] [0, 1, 3, 7, 15, 15, 47, 111, 255, 511, 1023, 2047, 2047, 6143, 14335, 32767, 65535, 131071, 262143, 524287, 1048575, 262143, 2359295, 6553599, 16777215, 33554431, 67108863, 134217727, 134217727, 402653183, 939524095, 2147483647, 4294967295, 8589934591, 17179869183, 17179869183, 51539607551, 120259084287, 274877906943, 549755813887, 1099511627775, 2199023255551, 4398046511103, 8796093022207, 2199023255551, 19791209299967, 54975581388799, 140737488355327, 281474976710655, 562949953421311] [(1, wr h7 h7, (ids v0)), (4, wr h7 h7, (ids v8)), (6, wr h7 h7, (ids v0)), (7, wr h7 h7, (ids v9)), (8, wr h7 h10, rd11), (11, wr h10 h10, (ids v8)), (13, wr h10 h10, (ids v0)), (14, wr h10 h10, (ids v12)), (15, wr h10 h13, rd14), (19, wr h13 h13, (ids v0)), (20, wr h13 h13, (ids v15)), (22, wr h13 h13, (ids v0)), (23, wr h13 h13, (ids v16)), (27, wr h13 h13, (ids v8)), (29, wr h13 h13, (ids v0)), (30, wr h13 h13, (ids v17)), (31, wr h13 h18, rd19), (34, wr h18 h18, (ids v8)), (36, wr h18 h18, (ids v0)), (37, wr h18 h18, (ids v20)), (38, wr h18 h1, rd21), (42, wr h1 h1, (ids v0)), (43, wr h1 h1, (ids v2)), (45, wr h1 h1, (ids v0)), (46, wr h1 h1, (ids v4))] ∧
  POST v6 h1 pre r post
def vc_proof_isEntry_k1 (_P : Ctx) (pre : List ABlk) (r : AV) (post : List PB) (h0 : Heap) (v1 : AV) (v2 : AV) (v3 : AV) (h4 : Heap) (rd5 : List Nat) (v6 : AV) (h7 : Heap) (rd8 : List Nat) (v9 : AV) (v10 : AV) (v11 : AV) (h12 : Heap) (rd13 : List Nat) (v14 : AV) (h15 : Heap) (rd16 : List Nat) : Prop :=
  ORDX [] [0, 1, 3, 7, 15, 15, 47, 111, 255, 511, 1023, 2047, 2047, 6143, 14335, 32767, 65535, 131071, 262143, 524287, 1048575, 262143, 2359295, 6553599, 16777215, 33554431, 67108863, 134217727, 134217727, 402653183, 939524095, 2147483647, 4294967295, 8589934591, 17179869183, 17179869183, 51539607551, 120259084287, 274877906943, 549755813887, 1099511627775, 2199023255551, 4398046511103, 8796093022207, 2199023255551, 19791209299967, 54975581388799, 140737488355327, 281474976710655, 562949953421311] [(1, wr h0 h0, (ids v1)), (4, wr h0 h0, (ids v2)), (6, wr h0 h0, (ids v1)), (7, wr h0 h0, (ids v3)), (8, wr h0 h4, rd5), (11, wr h4 h4, (ids v2)), (13, wr h4 h4, (ids v1)), (14, wr h4 h4, (ids v6)), (15, wr h4 h7, rd8), (19, wr h7 h7, (ids v1)), (20, wr h7 h7, (ids v9)), (22, wr h7 h7, (ids v1)), (23, wr h7 h7, (ids v10)), (27, wr h7 h7, (ids v2)), (29, wr h7 h7, (ids v1)), (30, wr h7 h7, (ids v11)), (31, wr h7 h12, rd13), (34, wr h12 h12, (ids v2)), (36, wr h12 h12, (ids v1)), (37, wr h12 h12, (ids v14)), (38, wr h12 h15, rd16)] ∧
  POST (.d (.bool false)) h15 pre r post
def vc_proof_isEntry_k2 (P : Ctx) (pre : List ABlk) (r : AV) (post : List PB) (v0 : AV) (v1 : AV) (h2 : Heap) (h3 : Heap) (v4 : AV) (v5 : AV) (h6 : Heap) (rd7 : List Nat) (v8 : AV) (h9 : Heap) (rd10 : List Nat) (v11 : AV) (v12 : AV) (v13 : AV) (h14 : Heap) (rd15 : List Nat) (v16 : AV) (rd17 : List Nat) : Prop :=
  CONDG v0
  (vc_proof_isEntry_k0 P pre r post v1 h2 h3 v4 v5 h6 rd7 v8 h9 rd10 v11 v12 v13 h14 rd15 v16 rd17)
  (vc_proof_isEntry_k1 P pre r post h3 v1 v4 v5 h6 rd7 v8 h9 rd10 v11 v12 v13 h14 rd15 v16 h2 rd17)
def vc_proof_isEntry_k3 (P : Ctx) (pre : List ABlk) (r : AV) (post : List PB) (v0 : AV) (h1 : Heap) (v3 : AV) (h9 : Heap) (v10 : AV) (h11 : Heap) (rd12 : List Nat) (v13 : AV) (h14 : Heap) (rd15 : List Nat) (v16 : AV) (v17 : AV) (v18 : AV) (rd19 : List Nat) : Prop :=
  LOAD true 3 v0 h1 fun v2 =>
  IADDR 1 T_int v3 (.d (.num .i64 3)) h1 fun v4 =>
  LOAD false 1 v4 h1 fun v5 =>
  CALL P f_proof_hasLine [v2, v5] 408 h1 (fun rd6 v7 h8 =>
  vc_proof_isEntry_k2 P pre r post v7 v3 h8 h9 v0 v10 h11 rd12 v13 h14 rd15 v16 v17 v18 h1 rd19 v4 rd6)
  (fun _ _ _ => False)
def vc_proof_isEntry_k4 (_P : Ctx) (pre : List ABlk) (r : AV) (post : List PB) (h0 : Heap) (v1 : AV) (v2 : AV) (v3 : AV) (h4 : Heap) (rd5 : List Nat) (v6 : AV) (h7 : Heap) (rd8 : List Nat) (v9 : AV) (v10 : AV) (v11 : AV) (h12 : Heap) (rd13 : List Nat) : Prop :=
  ORDX [] [0, 1, 3, 7, 15, 15, 47, 111, 255, 511, 1023, 2047, 2047, 6143, 14335, 32767, 65535, 131071, 262143, 524287, 1048575, 262143, 2359295, 6553599, 16777215, 33554431, 67108863, 134217727, 134217727, 402653183, 939524095, 2147483647, 4294967295, 8589934591, 17179869183, 17179869183, 51539607551, 120259084287, 274877906943, 549755813887, 1099511627775, 2199023255551, 4398046511103, 8796093022207, 2199023255551, 19791209299967, 54975581388799, 140737488355327, 281474976710655, 562949953421311] [(1, wr h0 h0, (ids v1)), (4, wr h0 h0, (ids v2)), (6, wr h0 h0, (ids v1)), (7, wr h0 h0, (ids v3)), (8, wr h0 h4, rd5), (11, wr h4 h4, (ids v2)), (13, wr h4 h4, (ids v1)), (14, wr h4 h4, (ids v6)), (15, wr h4 h7, rd8), (19, wr h7 h7, (ids v1)), (20, wr h7 h7, (ids v9)), (22, wr h7 h7, (ids v1)), (23, wr h7 h7, (ids v10)), (27, wr h7 h7, (ids v2)), (29, wr h7 h7, (ids v1)), (30, wr h7 h7, (ids v11)), (31, wr h7 h12, rd13)] ∧
  POST (.d (.bool false)) h12 pre r post
def vc_proof_isEntry_k5 (P : Ctx) (pre : List ABlk) (r : AV) (post : List PB) (v0 : AV) (v1 : AV) (h2 : Heap) (v3 : AV) (h4 : Heap) (v5 : AV) (h6 : Heap) (rd7 : List Nat) (v8 : AV) (h9 : Heap) (rd10 : List Nat) (v11 : AV) (v12 : AV) (v13 : AV) (rd14 : List Nat) : Prop :=
  CONDG v0
  (vc_proof_isEntry_k3 P pre r post v1 h2 v3 h4 v5 h6 rd7 v8 h9 rd10 v11 v12 v13 rd14)
  (vc_proof_isEntry_k4 P pre r post h4 v3 v1 v5 h6 rd7 v8 h9 rd10 v11 v12 v13 h2 rd14)
def vc_proof_isEntry_k6 (P : Ctx) (pre : List ABlk) (r : AV) (post : List PB) (v0 : AV) (h1 : Heap) (v3 : AV) (h9 : Heap) (v10 : AV) (h11 : Heap) (rd12 : List Nat) (v13 : AV) (rd14 : List Nat) (v15 : AV) (v16 : AV) : Prop :=
  LOAD true 3 v0 h1 fun v2 =>
  IADDR 1 T_int v3 (.d (.num .i64 2)) h1 fun v4 =>
  LOAD false 1 v4 h1 fun v5 =>
  CALL P f_proof_hasLine [v2, v5] 352 h1 (fun rd6 v7 h8 =>
  vc_proof_isEntry_k5 P pre r post v7 v0 h8 v3 h9 v10 h11 rd12 v13 h1 rd14 v15 v16 v4 rd6)
  (fun _ _ _ => False)
def vc_proof_isEntry_k7 (_P : Ctx) (pre : List ABlk) (r : AV) (post : List PB) (h0 : Heap) (v1 : AV) (v2 : AV) (v3 : AV) (h4 : Heap) (rd5 : List Nat) (v6 : AV) (h7 : Heap) (rd8 : List Nat) (v9 : AV) (v10 : AV) : Prop :=
  ORDX [] [0, 1, 3, 7, 15, 15, 47, 111, 255, 511, 1023, 2047, 2047, 6143, 14335, 32767, 65535, 131071, 262143, 524287, 1048575, 262143, 2359295, 6553599, 16777215, 33554431, 67108863, 134217727, 134217727, 402653183, 939524095, 2147483647, 4294967295, 8589934591, 17179869183, 17179869183, 51539607551, 120259084287, 274877906943, 549755813887, 1099511627775, 2199023255551, 4398046511103, 8796093022207, 2199023255551, 19791209299967, 54975581388799, 140737488355327, 281474976710655, 562949953421311] [(1, wr h0 h0, (ids v1)), (4, wr h0 h0, (ids v2)), (6, wr h0 h0, (ids v1)), (7, wr h0 h0, (ids v3)), (8, wr h0 h4, rd5), (11, wr h4 h4, (ids v2)), (13, wr h4 h4, (ids v1)), (14, wr h4 h4, (ids v6)), (15, wr h4 h7, rd8), (19, wr h7 h7, (ids v1)), (20, wr h7 h7, (ids v9)), (22, wr h7 h7, (ids v1)), (23, wr h7 h7, (ids v10))] ∧
  POST (.d (.bool false)) h7 pre r post
def vc_proof_isEntry_k8 (P : Ctx) (pre : List ABlk) (r : AV) (post : List PB) (v0 : AV) (h1 : Heap) (v7 : AV) (h8 : Heap) (v9 : AV) (h10 : Heap) (rd11 : List Nat) (v12 : AV) (rd13 : List Nat) : Prop :=
  IADDR 1 T_int v0 (.d (.num .i64 0)) h1 fun v2 =>
  LOAD false 1 v2 h1 fun v3 =>
  IADDR 1 T_int v0 (.d (.num .i64 1)) h1 fun v4 =>
  LOAD false 1 v4 h1 fun v5 =>
  BIN 0 .lss v3 v5 fun v6 =>
  CONDG v6
  (vc_proof_isEntry_k6 P pre r post v7 h1 v0 h8 v9 h10 rd11 v12 rd13 v2 v4)
  (vc_proof_isEntry_k7 P pre r post h8 v0 v7 v9 h10 rd11 v12 h1 rd13 v2 v4)
def vc_proof_isEntry_k9 (_P : Ctx) (pre : List ABlk) (r : AV) (post : List PB) (h0 : Heap) (v1 : AV) (v2 : AV) (v3 : AV) (h4 : Heap) (rd5 : List Nat) (v6 : AV) (h7 : Heap) (rd8 : List Nat) : Prop :=
  ORDX [] [0, 1, 3, 7, 15, 15, 47, 111, 255, 511, 1023, 2047, 2047, 6143, 14335, 32767, 65535, 131071, 262143, 524287, 1048575, 262143, 2359295, 6553599, 16777215, 33554431, 67108863, 134217727, 134217727, 402653183, 939524095, 2147483647, 4294967295, 8589934591, 17179869183, 17179869183, 51539607551, 120259084287, 274877906943, 549755813887, 1099511627775, 2199023255551, 4398046511103, 8796093022207, 2199023255551, 19791209299967, 54975581388799, 140737488355327, 281474976710655, 562949953421311] [(1, wr h0 h0, (ids v1)), (4, wr h0 h0, (ids v2)), (6, wr h0 h0, (ids v1)), (7, wr h0 h0, (ids v3)), (8, wr h0 h4, rd5), (11, wr h4 h4, (ids v2)), (13, wr h4 h4, (ids v1)), (14, wr h4 h4, (ids v6)), (15, wr h4 h7, rd8)] ∧
  POST (.d (.bool false)) h7 pre r post
def vc_proof_isEntry_k10 (P : Ctx) (pre : List ABlk) (r : AV) (post : List PB) (v0 : AV) (v1 : AV) (h2 : Heap) (v3 : AV) (h4 : Heap) (v5 : AV) (h6 : Heap) (rd7 : List Nat) (v8 : AV) (rd9 : List Nat) : Prop :=
  CONDG v0
  (vc_proof_isEntry_k8 P pre r post v1 h2 v3 h4 v5 h6 rd7 v8 rd9)
  (vc_proof_isEntry_k9 P pre r post h4 v1 v3 v5 h6 rd7 v8 h2 rd9)
def vc_proof_isEntry_k11 (P : Ctx) (pre : List ABlk) (r : AV) (post : List PB) (v0 : AV) (h1 : Heap) (v3 : AV) (h9 : Heap) (v10 : AV) (rd11 : List Nat) : Prop :=
  LOAD true 3 v0 h1 fun v2 =>
  IADDR 1 T_int v3 (.d (.num .i64 1)) h1 fun v4 =>
  LOAD false 1 v4 h1 fun v5 =>
  CALL P f_proof_hasPerson [v2, v5] 224 h1 (fun rd6 v7 h8 =>
  vc_proof_isEntry_k10 P pre r post v7 v3 h8 v0 h9 v10 h1 rd11 v4 rd6)
  (fun _ _ _ => False)
def vc_proof_isEntry_k12 (_P : Ctx) (pre : List ABlk) (r : AV) (post : List PB) (h0 : Heap) (v1 : AV) (v2 : AV) (v3 : AV) (h4 : Heap) (rd5 : List Nat) : Prop :=
  ORDX [] [0, 1, 3, 7, 15, 15, 47, 111, 255, 511, 1023, 2047, 2047, 6143, 14335, 32767, 65535, 131071, 262143, 524287, 1048575, 262143, 2359295, 6553599, 16777215, 33554431, 67108863, 134217727, 134217727, 402653183, 939524095, 2147483647, 4294967295, 8589934591, 17179869183, 17179869183, 51539607551, 120259084287, 274877906943, 549755813887, 1099511627775, 2199023255551, 4398046511103, 8796093022207, 2199023255551, 19791209299967, 54975581388799, 140737488355327, 281474976710655, 562949953421311] [(1, wr h0 h0, (ids v1)), (4, wr h0 h0, (ids v2)), (6, wr h0 h0, (ids v1)), (7, wr h0 h0, (ids v3)), (8, wr h0 h4, rd5)] ∧
  POST (.d (.bool false)) h4 pre r post
def vc_proof_isEntry_k13 (P : Ctx) (pre : List ABlk) (r : AV) (post : List PB) (v0 : AV) (v1 : AV) (h2 : Heap) (v3 : AV) (h4 : Heap) (v5 : AV) (rd6 : List Nat) : Prop :=
  CONDG v0
  (vc_proof_isEntry_k11 P pre r post v1 h2 v3 h4 v5 rd6)
  (vc_proof_isEntry_k12 P pre r post h4 v3 v1 v5 h2 rd6)
def vc_proof_isEntry_k14 (P : Ctx) (pre : List ABlk) (r : AV) (post : List PB) (v0 : AV) (h1 : Heap) (v3 : AV) : Prop :=
  LOAD true 3 v0 h1 fun v2 =>
  IADDR 1 T_int v3 (.d (.num .i64 0)) h1 fun v4 =>
  LOAD false 1 v4 h1 fun v5 =>
  CALL P f_proof_hasPerson [v2, v5] 168 h1 (fun rd6 v7 h8 =>
  vc_proof_isEntry_k13 P pre r post v7 v0 h8 v3 h1 v4 rd6)
  (fun _ _ _ => False)
def vc_proof_isEntry_k15 (_P : Ctx) (pre : List ABlk) (r : AV) (post : List PB) (h0 : Heap) (v1 : AV) : Prop :=
  ORDX [] [0, 1, 3, 7, 15, 15, 47, 111, 255, 511, 1023, 2047, 2047, 6143, 14335, 32767, 65535, 131071, 262143, 524287, 1048575, 262143, 2359295, 6553599, 16777215, 33554431, 67108863, 134217727, 134217727, 402653183, 939524095, 2147483647, 4294967295, 8589934591, 17179869183, 17179869183, 51539607551, 120259084287, 274877906943, 549755813887, 1099511627775, 2199023255551, 4398046511103, 8796093022207, 2199023255551, 19791209299967, 54975581388799, 140737488355327, 281474976710655, 562949953421311] [(1, wr h0 h0, (ids v1))] ∧
  POST (.d (.bool false)) h0 pre r post
def vc_proof_isEntry_k16 (_P : Ctx) (pre : List ABlk) (r : AV) (post : List PB) (h0 : Heap) (v1 : AV) (v2 : AV) (v3 : AV) (h4 : Heap) (rd5 : List Nat) (v6 : AV) (h7 : Heap) (rd8 : List Nat) (v9 : AV) (h10 : Heap) (rd11 : List Nat) (v12 : AV) : Prop :=
  ORDX [] [0, 1, 3, 7, 15, 15, 47, 111, 255, 511, 1023, 2047, 2047, 6143, 14335, 32767, 65535, 131071, 262143, 524287, 1048575, 2097151, 4194303, 8388607] [(1, wr h0 h0, (ids v1)), (4, wr h0 h0, (ids v2)), (6, wr h0 h0, (ids v1)), (7, wr h0 h0, (ids v3)), (8, wr h0 h4, rd5), (11, wr h4 h4, (ids v2)), (13, wr h4 h4, (ids v1)), (14, wr h4 h4, (ids v6)), (15, wr h4 h7, rd8), (19, wr h7 h7, (ids v1)), (20, wr h7 h7, (ids v9)), (21, wr h7 h10, rd11)] ∧
  POST v12 h10 pre r post
def vc_proof_isEntry_k17 (P : Ctx) (pre : List ABlk) (r : AV) (post : List PB) (v0 : AV) (h1 : Heap) (h7 : Heap) (v8 : AV) (v9 : AV) (h10 : Heap) (rd11 : List Nat) (v12 : AV) (rd13 : List Nat) : Prop :=
  IADDR 1 T_int v0 (.d (.num .i64 2)) h1 fun v2 =>
  LOAD false 1 v2 h1 fun v3 =>
  CALL P f_proof_isNumber [v3] 288 h1 (fun rd4 v5 h6 =>
  vc_proof_isEntry_k16 P pre r post h7 v0 v8 v9 h10 rd11 v12 h1 rd13 v2 h6 rd4 v5)
  (fun _ _ _ => False)
def vc_proof_isEntry_k18 (_P : Ctx) (pre : List ABlk) (r : AV) (post : List PB) (h0 : Heap) (v1 : AV) (v2 : AV) (v3 : AV) (h4 : Heap) (rd5 : List Nat) (v6 : AV) (h7 : Heap) (rd8 : List Nat) : Prop :=
  ORDX [] [0, 1, 3, 7, 15, 15, 47, 111, 255, 511, 1023, 2047, 2047, 6143, 14335, 32767, 65535, 131071, 262143, 524287, 1048575, 2097151, 4194303, 8388607] [(1, wr h0 h0, (ids v1)), (4, wr h0 h0, (ids v2)), (6, wr h0 h0, (ids v1)), (7, wr h0 h0, (ids v3)), (8, wr h0 h4, rd5), (11, wr h4 h4, (ids v2)), (13, wr h4 h4, (ids v1)), (14, wr h4 h4, (ids v6)), (15, wr h4 h7, rd8)] ∧
  POST (.d (.bool false)) h7 pre r post
def vc_proof_isEntry_k19 (P : Ctx) (pre : List ABlk) (r : AV) (post : List PB) (v0 : AV) (v1 : AV) (h2 : Heap) (h3 : Heap) (v4 : AV) (v5 : AV) (h6 : Heap) (rd7 : List Nat) (v8 : AV) (rd9 : List Nat) : Prop :=
  CONDG v0
  (vc_proof_isEntry_k17 P pre r post v1 h2 h3 v4 v5 h6 rd7 v8 rd9)
  (vc_proof_isEntry_k18 P pre r post h3 v1 v4 v5 h6 rd7 v8 h2 rd9)
def vc_proof_isEntry_k20 (P : Ctx) (pre : List ABlk) (r : AV) (post : List PB) (v0 : AV) (h1 : Heap) (v3 : AV) (h9 : Heap) (v10 : AV) (rd11 : List Nat) : Prop :=
  LOAD true 3 v0 h1 fun v2 =>
  IADDR 1 T_int v3 (.d (.num .i64 1)) h1 fun v4 =>
  LOAD false 1 v4 h1 fun v5 =>
  CALL P f_proof_hasLine [v2, v5] 240 h1 (fun rd6 v7 h8 =>
  vc_proof_isEntry_k19 P pre r post v7 v3 h8 h9 v0 v10 h1 rd11 v4 rd6)
  (fun _ _ _ => False)
def vc_proof_isEntry_k21 (_P : Ctx) (pre : List ABlk) (r : AV) (post : List PB) (h0 : Heap) (v1 : AV) (v2 : AV) (v3 : AV) (h4 : Heap) (rd5 : List Nat) : Prop :=
  ORDX [] [0, 1, 3, 7, 15, 15, 47, 111, 255, 511, 1023, 2047, 2047, 6143, 14335, 32767, 65535, 131071, 262143, 524287, 1048575, 2097151, 4194303, 8388607] [(1, wr h0 h0, (ids v1)), (4, wr h0 h0, (ids v2)), (6, wr h0 h0, (ids v1)), (7, wr h0 h0, (ids v3)), (8, wr h0 h4, rd5)] ∧
  POST (.d (.bool false)) h4 pre r post
def vc_proof_isEntry_k22 (P : Ctx) (pre : List ABlk) (r : AV) (post : List PB) (v0 : AV) (v1 : AV) (h2 : Heap) (v3 : AV) (h4 : Heap) (v5 : AV) (rd6 : List Nat) : Prop :=
  CONDG v0
  (vc_proof_isEntry_k20 P pre r post v1 h2 v3 h4 v5 rd6)
  (vc_proof_isEntry_k21 P pre r post h4 v3 v1 v5 h2 rd6)
def vc_proof_isEntry_k23 (P : Ctx) (pre : List ABlk) (r : AV) (post : List PB) (v0 : AV) (h1 : Heap) (v3 : AV) : Prop :=
  LOAD true 3 v0 h1 fun v2 =>
  IADDR 1 T_int v3 (.d (.num .i64 0)) h1 fun v4 =>
  LOAD false 1 v4 h1 fun v5 =>
  CALL P f_proof_hasPerson [v2, v5] 184 h1 (fun rd6 v7 h8 =>
  vc_proof_isEntry_k22 P pre r post v7 v0 h8 v3 h1 v4 rd6)
  (fun _ _ _ => False)
def vc_proof_isEntry_k24 (_P : Ctx) (pre : List ABlk) (r : AV) (post : List PB) (h0 : Heap) (v1 : AV) : Prop :=
  ORDX [] [0, 1, 3, 7, 15, 15, 47, 111, 255, 511, 1023, 2047, 2047, 6143, 14335, 32767, 65535, 131071, 262143, 524287, 1048575, 2097151, 4194303, 8388607] [(1, wr h0 h0, (ids v1))] ∧
  POST (.d (.bool false)) h0 pre r post
def vc_proof_isEntry_k25 (_P : Ctx) (pre : List ABlk) (r : AV) (post : List PB) (h0 : Heap) (v1 : AV) (v2 : AV) (v3 : AV) (h4 : Heap) (rd5 : List Nat) (v6 : AV) : Prop :=
  ORDX [] [0, 1, 3, 7, 15, 15, 47, 111, 255, 511, 1023] [(1, wr h0 h0, (ids v1)), (4, wr h0 h0, (ids v2)), (6, wr h0 h0, (ids v1)), (7, wr h0 h0, (ids v3)), (8, wr h0 h4, rd5)] ∧
  POST v6 h4 pre r post
def vc_proof_isEntry_k26 (P : Ctx) (pre : List ABlk) (r : AV) (post : List PB) (v0 : AV) (h1 : Heap) (v3 : AV) : Prop :=
  LOAD true 3 v0 h1 fun v2 =>
  IADDR 1 T_int v3 (.d (.num .i64 0)) h1 fun v4 =>
  LOAD false 1 v4 h1 fun v5 =>
  CALL P f_proof_hasLine [v2, v5] 200 h1 (fun rd6 v7 h8 =>
  vc_proof_isEntry_k25 P pre r post h1 v3 v0 v4 h8 rd6 v7)
  (fun _ _ _ => False)
def vc_proof_isEntry_k27 (_P : Ctx) (pre : List ABlk) (r : AV) (post : List PB) (h0 : Heap) (v1 : AV) : Prop :=
  ORDX [] [0, 1, 3, 7, 15, 15, 47, 111, 255, 511, 1023] [(1, wr h0 h0, (ids v1))] ∧
  POST (.d (.bool false)) h0 pre r post
def vc_proof_isEntry_k28 (P : Ctx) (pre : List ABlk) (r : AV) (post : List PB) (v0 : AV) (h1 : Heap) (v4 : AV) : Prop :=
  LEN false v0 h1 fun v2 =>
  BIN 0 .eql v2 (.d (.num .i64 3)) fun v3 =>
  CONDG v3
  (vc_proof_isEntry_k23 P pre r post v4 h1 v0)
  (vc_proof_isEntry_k24 P pre r post h1 v0)
def vc_proof_isEntry_k29 (P : Ctx) (pre : List ABlk) (r : AV) (post : List PB) (v0 : AV) (v2 : AV) (h3 : Heap) (v6 : AV) : Prop :=
  BIN 0 .eql v0 (.d (.num .i64 3)) fun v1 =>
  COND v1
  (LEN false v2 h3 fun v4 =>
  BIN 0 .eql v4 (.d (.num .i64 1)) fun v5 =>
  CONDG v5
  (vc_proof_isEntry_k26 P pre r post v6 h3 v2)
  (vc_proof_isEntry_k27 P pre r post h3 v2))
  (POST (.d (.bool false)) h3 pre r post)
def vc_proof_isEntry_k30 (P : Ctx) (pre : List ABlk) (r : AV) (post : List PB) (v0 : AV) (h1 : Heap) (v4 : AV) : Prop :=
  LEN false v0 h1 fun v2 =>
  BIN 0 .eql v2 (.d (.num .i64 4)) fun v3 =>
  CONDG v3
  (vc_proof_isEntry_k14 P pre r post v4 h1 v0)
  (vc_proof_isEntry_k15 P pre r post h1 v0)
def vc_proof_isEntry_k31 (P : Ctx) (pre : List ABlk) (r : AV) (post : List PB) (v0 : AV) (v2 : AV) (h3 : Heap) (v4 : AV) : Prop :=
  BIN 0 .eql v0 (.d (.num .i64 2)) fun v1 =>
  COND v1
  (vc_proof_isEntry_k28 P pre r post v2 h3 v4)
  (vc_proof_isEntry_k29 P pre r post v0 v2 h3 v4)
def vc_proof_isEntry (P : Ctx) (pre : List ABlk) (a0 a1 : AV) (r : AV) (post : List PB) : Prop :=
  let h0 : Heap := numbered 0 pre
  BOX T_api_ProofPage a0 24 h0 fun v2 h1 =>
  BOX T_api_ProofEntry a1 32 h1 fun v3 h2 =>
  FADDR 1 v3 h2 fun v6 =>
  LOAD false 1 v6 h2 fun v7 =>
  FADDR 0 v3 h2 fun v8 =>
  LOAD false 1 v8 h2 fun v9 =>
  BIN 0 .eql v9 (.d (.num .i64 1)) fun v11 =>
  COND v11
  (vc_proof_isEntry_k30 P pre r post v7 h2 v2)
  (vc_proof_isEntry_k31 P pre r post v9 v7 h2 v2)
theorem vc_proof_isEntry_eq (g : GG) (pre : List ABlk) (a0 a1 : AV) (r : AV) (post : List PB) : vcFn2 (Tz g) false ann_proof_isEntry Tryz.f53 pre [a0, a1] (.ret r) post = vc_proof_isEntry (Tz g) pre a0 a1 r post := by kernel_rfl
theorem hf_proof_isEntry : Tryz.prog.funcs[f_proof_isEntry]? = some Tryz.f53 := by kernel_rfl
theorem ok_proof_isEntry : fnVcOK Tryz.prog Tryz.f53 = true := by kernel_rfl
theorem nt_proof_isEntry : Nat.ble 2 Tryz.f53.ntmps = true := by kernel_rfl
theorem meetsH_proof_isEntry {g : GG} {pre : List ABlk} {a0 a1 : AV} {r : AV} {post : List PB} (hk : Nat.ble pre.length 24 = true) (h : vc_proof_isEntry (Tz g) pre a0 a1 r post) : MeetsH (Tz g) f_proof_isEntry pre [a0, a1] (.ret r) post :=
  meetsH_of_vc (C := Tz g) ann_proof_isEntry hf_proof_isEntry ok_proof_isEntry nt_proof_isEntry hk (pn := false) (Eq.mpr ((vcFn2_eq _ _ _ _ _ _ _ _).trans (vc_proof_isEntry_eq g pre a0 a1 r post)) h)
theorem meets_proof_isEntry {g : GG} {a0 a1 : D} {r : Res} (h : vc_proof_isEntry (Tz g) [] (.d a0) (.d a1) r.val (r.bl.map .upd)) : Meets (Tz g) f_proof_isEntry [a0, a1] r := meetsH_proof_isEntry rfl h
def ann_ref09_Entry : Nat → List Nat := fun n => match n with  | _ => []
def vc_ref09_Entry_k0 (_P : Ctx) (pre : List ABlk) (r : AV) (post : List PB) (v0 : AV) (h1 : Heap) (h7 : Heap) (v8 : AV) (v9 : AV) (v10 : AV) (h11 : Heap) (rd12 : List Nat) (v13 : AV) (h14 : Heap) (rd15 : List Nat) (v16 : AV) (rd17 : List Nat) : Prop :=
  IADDR 1 T_int v0 (.d (.num .i64 2)) h1 fun v2 =>
  LOAD false 1 v2 h1 fun v3 =>
  IADDR 1 T_int v0 (.d (.num .i64 3)) h1 fun v4 =>
  LOAD false 1 v4 h1 fun v5 =>
  BIN 0 .leq v3 v5 fun v6 =>
  ORDX [] [0, 1, 3, 7, 15, 15, 47, 111, 15, 271, 783, 2047, 4095, 8191, 16383, 16383, 49151, 114687, 262143, 524287, 1048575, 2097151, 2097151, 6291455, 14680063, 33554431, 67108863, 134217727, 268435455, 536870911, 1073741823, 268435455, 2415919103, 6710886399, 17179869183, 34359738367, 68719476735] [(1, wr h7 h7, (ids v0)), (4, wr h7 h7, (ids v8)), (6, wr h7 h7, (ids v0)), (7, wr h7 h7, (ids v9)), (9, wr h7 h7, (ids v0)), (10, wr h7 h7, (ids v10)), (11, wr h7 h11, rd12), (14, wr h11 h11, (ids v8)), (16, wr h11 h11, (ids v0)), (17, wr h11 h11, (ids v13)), (18, wr h11 h14, rd15), (21, wr h14 h14, (ids v8)), (23, wr h14 h14, (ids v0)), (24, wr h14 h14, (ids v16)), (25, wr h14 h1, rd17), (29, wr h1 h1, (ids v0)), (30, wr h1 h1, (ids v2)), (32, wr h1 h1, (ids v0)), (33, wr h1 h1, (ids v4))] ∧
  POST v6 h1 pre r post
def vc_ref09_Entry_k1 (_P : Ctx) (pre : List ABlk) (r : AV) (post : List PB) (h0 : Heap) (v1 : AV) (v2 : AV) (v3 : AV) (v4 : AV) (h5 : Heap) (rd6 : List Nat) (v7 : AV) (h8 : Heap) (rd9 : List Nat) (v10 : AV) (h11 : Heap) (rd12 : List Nat) : Prop :=
  ORDX [] [0, 1, 3, 7, 15, 15, 47, 111, 15, 271, 783, 2047, 4095, 8191, 16383, 16383, 49151, 114687, 262143, 524287, 1048575, 2097151, 2097151, 6291455, 14680063, 33554431, 67108863, 134217727, 268435455, 536870911, 1073741823, 268435455, 2415919103, 6710886399, 17179869183, 34359738367, 68719476735] [(1, wr h0 h0, (ids v1)), (4, wr h0 h0, (ids v2)), (6, wr h0 h0, (ids v1)), (7, wr h0 h0, (ids v3)), (9, wr h0 h0, (ids v1)), (10, wr h0 h0, (ids v4)), (11, wr h0 h5, rd6), (14, wr h5 h5, (ids v2)), (16, wr h5 h5, (ids v1)), (17, wr h5 h5, (ids v7)), (18, wr h5 h8, rd9), (21, wr h8 h8, (ids v2)), (23, wr h8 h8, (ids v1)), (24, wr h8 h8, (ids v10)), (25, wr h8 h11, rd12)] ∧
  POST (.d (.bool false)) h11 pre r post
def vc_ref09_Entry_k2 (P : Ctx) (pre : List ABlk) (r : AV) (post : List PB) (v0 : AV) (v1 : AV) (h2 : Heap) (h3 : Heap) (v4 : AV) (v5 : AV) (v6 : AV) (h7 : Heap) (rd8 : List Nat) (v9 : AV) (h10 : Heap) (rd11 : List Nat) (v12 : AV) (rd13 : List Nat) : Prop :=
  CONDG v0
  (vc_ref09_Entry_k0 P pre r post v1 h2 h3 v4 v5 v6 h7 rd8 v9 h10 rd11 v12 rd13)
  (vc_ref09_Entry_k1 P pre r post h3 v1 v4 v5 v6 h7 rd8 v9 h10 rd11 v12 h2 rd13)
def vc_ref09_Entry_k3 (P : Ctx) (pre : List ABlk) (r : AV) (post : List PB) (v0 : AV) (h1 : Heap) (v3 : AV) (h9 : Heap) (v10 : AV) (v11 : AV) (h12 : Heap) (rd13 : List Nat) (v14 : AV) (rd15 : List Nat) : Prop :=
  LOAD true 3 v0 h1 fun v2 =>
  IADDR 1 T_int v3 (.d (.num .i64 3)) h1 fun v4 =>
  LOAD false 1 v4 h1 fun v5 =>
  CALL P f_ref09_Line [v2, v5] 296 h1 (fun rd6 v7 h8 =>
  vc_ref09_Entry_k2 P pre r post v7 v3 h8 h9 v0 v10 v11 h12 rd13 v14 h1 rd15 v4 rd6)
  (fun _ _ _ => False)
def vc_ref09_Entry_k4 (_P : Ctx) (pre : List ABlk) (r : AV) (post : List PB) (h0 : Heap) (v1 : AV) (v2 : AV) (v3 : AV) (v4 : AV) (h5 : Heap) (rd6 : List Nat) (v7 : AV) (h8 : Heap) (rd9 : List Nat) : Prop :=
  ORDX [] [0, 1, 3, 7, 15, 15, 47, 111, 15, 271, 783, 2047, 4095, 8191, 16383, 16383, 49151, 114687, 262143, 524287, 1048575, 2097151, 2097151, 6291455, 14680063, 33554431, 67108863, 134217727, 268435455, 536870911, 1073741823, 268435455, 2415919103, 6710886399, 17179869183, 34359738367, 68719476735] [(1, wr h0 h0, (ids v1)), (4, wr h0 h0, (ids v2)), (6, wr h0 h0, (ids v1)), (7, wr h0 h0, (ids v3)), (9, wr h0 h0, (ids v1)), (10, wr h0 h0, (ids v4)), (11, wr h0 h5, rd6), (14, wr h5 h5, (ids v2)), (16, wr h5 h5, (ids v1)), (17, wr h5 h5, (ids v7)), (18, wr h5 h8, rd9)] ∧
  POST (.d (.bool false)) h8 pre r post
def vc_ref09_Entry_k5 (P : Ctx) (pre : List ABlk) (r : AV) (post : List PB) (v0 : AV) (v1 : AV) (h2 : Heap) (v3 : AV) (h4 : Heap) (v5 : AV) (v6 : AV) (h7 : Heap) (rd8 : List Nat) (v9 : AV) (rd10 : List Nat) : Prop :=
  CONDG v0
  (vc_ref09_Entry_k3 P pre r post v1 h2 v3 h4 v5 v6 h7 rd8 v9 rd10)
  (vc_ref09_Entry_k4 P pre r post h4 v3 v1 v5 v6 h7 rd8 v9 h2 rd10)
def vc_ref09_Entry_k6 (P : Ctx) (pre : List ABlk) (r : AV) (post : List PB) (v0 : AV) (h1 : Heap) (v3 : AV) (h9 : Heap) (v10 : AV) (v11 : AV) (rd12 : List Nat) : Prop :=
  LOAD true 3 v0 h1 fun v2 =>
  IADDR 1 T_int v3 (.d (.num .i64 2)) h1 fun v4 =>
  LOAD false 1 v4 h1 fun v5 =>
  CALL P f_ref09_Line [v2, v5] 240 h1 (fun rd6 v7 h8 =>
  vc_ref09_Entry_k5 P pre r post v7 v0 h8 v3 h9 v10 v11 h1 rd12 v4 rd6)
  (fun _ _ _ => False)
def vc_ref09_Entry_k7 (_P : Ctx) (pre : List ABlk) (r : AV) (post : List PB) (h0 : Heap) (v1 : AV) (v2 : AV) (v3 : AV) (v4 : AV) (h5 : Heap) (rd6 : List Nat) : Prop :=
  ORDX [] [0, 1, 3, 7, 15, 15, 47, 111, 15, 271, 783, 2047, 4095, 8191, 16383, 16383, 49151, 114687, 262143, 524287, 1048575, 2097151, 2097151, 6291455, 14680063, 33554431, 67108863, 134217727, 268435455, 536870911, 1073741823, 268435455, 2415919103, 6710886399, 17179869183, 34359738367, 68719476735] [(1, wr h0 h0, (ids v1)), (4, wr h0 h0, (ids v2)), (6, wr h0 h0, (ids v1)), (7, wr h0 h0, (ids v3)), (9, wr h0 h0, (ids v1)), (10, wr h0 h0, (ids v4)), (11, wr h0 h5, rd6)] ∧
  POST (.d (.bool false)) h5 pre r post
def vc_ref09_Entry_k8 (P : Ctx) (pre : List ABlk) (r : AV) (post : List PB) (v0 : AV) (v1 : AV) (h2 : Heap) (v3 : AV) (h4 : Heap) (v5 : AV) (v6 : AV) (rd7 : List Nat) : Prop :=
  CONDG v0
  (vc_ref09_Entry_k6 P pre r post v1 h2 v3 h4 v5 v6 rd7)
  (vc_ref09_Entry_k7 P pre r post h4 v3 v1 v5 v6 h2 rd7)
def vc_ref09_Entry_k9 (P : Ctx) (pre : List ABlk) (r : AV) (post : List PB) (v0 : AV) (h1 : Heap) (v3 : AV) : Prop :=
  LOAD true 3 v0 h1 fun v2 =>
  IADDR 1 T_int v3 (.d (.num .i64 0)) h1 fun v4 =>
  LOAD false 1 v4 h1 fun v5 =>
  IADDR 1 T_int v3 (.d (.num .i64 1)) h1 fun v6 =>
  LOAD false 1 v6 h1 fun v7 =>
  CALL P f_ref09_Pair [v2, v5, v7] 184 h1 (fun rd8 v9 h10 =>
  vc_ref09_Entry_k8 P pre r post v9 v0 h10 v3 h1 v4 v6 rd8)
  (fun _ _ _ => False)
def vc_ref09_Entry_k10 (_P : Ctx) (pre : List ABlk) (r : AV) (post : List PB) (h0 : Heap) (v1 : AV) : Prop :=
  ORDX [] [0, 1, 3, 7, 15, 15, 47, 111, 15, 271, 783, 2047, 4095, 8191, 16383, 16383, 49151, 114687, 262143, 524287, 1048575, 2097151, 2097151, 6291455, 14680063, 33554431, 67108863, 134217727, 268435455, 536870911, 1073741823, 268435455, 2415919103, 6710886399, 17179869183, 34359738367, 68719476735] [(1, wr h0 h0, (ids v1))] ∧
  POST (.d (.bool false)) h0 pre r post
def vc_ref09_Entry_k11 (_P : Ctx) (pre : List ABlk) (r : AV) (post : List PB) (h0 : Heap) (v1 : AV) (v2 : AV) (v3 : AV) (h4 : Heap) (rd5 : List Nat) (v6 : AV) (h7 : Heap) (rd8 : List Nat) (v9 : AV) (h10 : Heap) (rd11 : List Nat) (v12 : AV) : Prop :=
  ORDX [] [0, 1, 3, 7, 15, 15, 47, 111, 255, 511, 1023, 2047, 2047, 6143, 14335, 32767, 65535, 131071, 262143, 524287, 1048575, 2097151, 4194303, 8388607] [(1, wr h0 h0, (ids v1)), (4, wr h0 h0, (ids v2)), (6, wr h0 h0, (ids v1)), (7, wr h0 h0, (ids v3)), (8, wr h0 h4, rd5), (11, wr h4 h4, (ids v2)), (13, wr h4 h4, (ids v1)), (14, wr h4 h4, (ids v6)), (15, wr h4 h7, rd8), (19, wr h7 h7, (ids v1)), (20, wr h7 h7, (ids v9)), (21, wr h7 h10, rd11)] ∧
  POST v12 h10 pre r post
def vc_ref09_Entry_k12 (P : Ctx) (pre : List ABlk) (r : AV) (post : List PB) (v0 : AV) (h1 : Heap) (h7 : Heap) (v8 : AV) (v9 : AV) (h10 : Heap) (rd11 : List Nat) (v12 : AV) (rd13 : List Nat) : Prop :=
  IADDR 1 T_int v0 (.d (.num .i64 2)) h1 fun v2 =>
  LOAD false 1 v2 h1 fun v3 =>
  CALL P f_ref02_Number [v3] 288 h1 (fun rd4 v5 h6 =>
  vc_ref09_Entry_k11 P pre r post h7 v0 v8 v9 h10 rd11 v12 h1 rd13 v2 h6 rd4 v5)
  (fun _ _ _ => False)
def vc_ref09_Entry_k13 (_P : Ctx) (pre : List ABlk) (r : AV) (post : List PB) (h0 : Heap) (v1 : AV) (v2 : AV) (v3 : AV) (h4 : Heap) (rd5 : List Nat) (v6 : AV) (h7 : Heap) (rd8 : List Nat) : Prop :=
  ORDX [] [0, 1, 3, 7, 15, 15, 47, 111, 255, 511, 1023, 2047, 2047, 6143, 14335, 32767, 65535, 131071, 262143, 524287, 1048575, 2097151, 4194303, 8388607] [(1, wr h0 h0, (ids v1)), (4, wr h0 h0, (ids v2)), (6, wr h0 h0, (ids v1)), (7, wr h0 h0, (ids v3)), (8, wr h0 h4, rd5), (11, wr h4 h4, (ids v2)), (13, wr h4 h4, (ids v1)), (14, wr h4 h4, (ids v6)), (15, wr h4 h7, rd8)] ∧
  POST (.d (.bool false)) h7 pre r post
def vc_ref09_Entry_k14 (P : Ctx) (pre : List ABlk) (r : AV) (post : List PB) (v0 : AV) (v1 : AV) (h2 : Heap) (h3 : Heap) (v4 : AV) (v5 : AV) (h6 : Heap) (rd7 : List Nat) (v8 : AV) (rd9 : List Nat) : Prop :=
  CONDG v0
  (vc_ref09_Entry_k12 P pre r post v1 h2 h3 v4 v5 h6 rd7 v8 rd9)
  (vc_ref09_Entry_k13 P pre r post h3 v1 v4 v5 h6 rd7 v8 h2 rd9)
def vc_ref09_Entry_k15 (P : Ctx) (pre : List ABlk) (r : AV) (post : List PB) (v0 : AV) (h1 : Heap) (v3 : AV) (h9 : Heap) (v10 : AV) (rd11 : List Nat) : Prop :=
  LOAD true 3 v0 h1 fun v2 =>
  IADDR 1 T_int v3 (.d (.num .i64 1)) h1 fun v4 =>
  LOAD false 1 v4 h1 fun v5 =>
  CALL P f_ref09_Line [v2, v5] 240 h1 (fun rd6 v7 h8 =>
  vc_ref09_Entry_k14 P pre r post v7 v3 h8 h9 v0 v10 h1 rd11 v4 rd6)
  (fun _ _ _ => False)
def vc_ref09_Entry_k16 (_P : Ctx) (pre : List ABlk) (r : AV) (post : List PB) (h0 : Heap) (v1 : AV) (v2 : AV) (v3 : AV) (h4 : Heap) (rd5 : List Nat) : Prop :=
  ORDX [] [0, 1, 3, 7, 15, 15, 47, 111, 255, 511, 1023, 2047, 2047, 6143, 14335, 32767, 65535, 131071, 262143, 524287, 1048575, 2097151, 4194303, 8388607] [(1, wr h0 h0, (ids v1)), (4, wr h0 h0, (ids v2)), (6, wr h0 h0, (ids v1)), (7, wr h0 h0, (ids v3)), (8, wr h0 h4, rd5)] ∧
  POST (.d (.bool false)) h4 pre r post
def vc_ref09_Entry_k17 (P : Ctx) (pre : List ABlk) (r : AV) (post : List PB) (v0 : AV) (v1 : AV) (h2 : Heap) (v3 : AV) (h4 : Heap) (v5 : AV) (rd6 : List Nat) : Prop :=
  CONDG v0
  (vc_ref09_Entry_k15 P pre r post v1 h2 v3 h4 v5 rd6)
  (vc_ref09_Entry_k16 P pre r post h4 v3 v1 v5 h2 rd6)
def vc_ref09_Entry_k18 (P : Ctx) (pre : List ABlk) (r : AV) (post : List PB) (v0 : AV) (h1 : Heap) (v3 : AV) : Prop :=
  LOAD true 3 v0 h1 fun v2 =>
  IADDR 1 T_int v3 (.d (.num .i64 0)) h1 fun v4 =>
  LOAD false 1 v4 h1 fun v5 =>
  CALL P f_ref09_Person [v2, v5] 184 h1 (fun rd6 v7 h8 =>
  vc_ref09_Entry_k17 P pre r post v7 v0 h8 v3 h1 v4 rd6)
  (fun _ _ _ => False)
def vc_ref09_Entry_k19 (_P : Ctx) (pre : List ABlk) (r : AV) (post : List PB) (h0 : Heap) (v1 : AV) : Prop :=
  ORDX [] [0, 1, 3, 7, 15, 15, 47, 111, 255, 511, 1023, 2047, 2047, 6143, 14335, 32767, 65535, 131071, 262143, 524287, 1048575, 2097151, 4194303, 8388607] [(1, wr h0 h0, (ids v1))] ∧
  POST (.d (.bool false)) h0 pre r post
def vc_ref09_Entry_k20 (_P : Ctx) (pre : List ABlk) (r : AV) (post : List PB) (h0 : Heap) (v1 : AV) (v2 : AV) (v3 : AV) (v4 : AV) (v5 : AV) (h6 : Heap) (rd7 : List Nat) (v8 : AV) : Prop :=
  ORDX [] [0, 1, 3, 7, 15, 31, 63, 127, 255, 511, 511, 1535, 3583, 8191, 16383, 32767] [(0, wr h0 h0, (ids v1)), (1, wr h0 h0, (ids v2)), (5, wr h0 h0, (ids v3)), (9, wr h0 h0, (ids v4)), (11, wr h0 h0, (ids v3)), (12, wr h0 h0, (ids v5)), (13, wr h0 h6, rd7)] ∧
  POST v8 h6 pre r post
def vc_ref09_Entry_k21 (P : Ctx) (pre : List ABlk) (r : AV) (post : List PB) (v0 : AV) (h1 : Heap) (v3 : AV) (v9 : AV) (v10 : AV) : Prop :=
  LOAD true 3 v0 h1 fun v2 =>
  IADDR 1 T_int v3 (.d (.num .i64 0)) h1 fun v4 =>
  LOAD false 1 v4 h1 fun v5 =>
  CALL P f_ref09_Line [v2, v5] 224 h1 (fun rd6 v7 h8 =>
  vc_ref09_Entry_k20 P pre r post h1 v9 v10 v3 v0 v4 h8 rd6 v7)
  (fun _ _ _ => False)
def vc_ref09_Entry_k22 (_P : Ctx) (pre : List ABlk) (r : AV) (post : List PB) (h0 : Heap) (v1 : AV) (v2 : AV) (v3 : AV) : Prop :=
  ORDX [] [0, 1, 3, 7, 15, 31, 63, 127, 255, 511, 511, 1535, 3583, 8191, 16383, 32767] [(0, wr h0 h0, (ids v1)), (1, wr h0 h0, (ids v2)), (5, wr h0 h0, (ids v3))] ∧
  POST (.d (.bool false)) h0 pre r post
def vc_ref09_Entry_k23 (P : Ctx) (pre : List ABlk) (r : AV) (post : List PB) (v0 : AV) (h1 : Heap) (v4 : AV) (v5 : AV) (v6 : AV) : Prop :=
  LEN false v0 h1 fun v2 =>
  BIN 0 .eql v2 (.d (.num .i64 1)) fun v3 =>
  CONDG v3
  (vc_ref09_Entry_k21 P pre r post v4 h1 v0 v5 v6)
  (vc_ref09_Entry_k22 P pre r post h1 v5 v6 v0)
def vc_ref09_Entry_k24 (_P : Ctx) (pre : List ABlk) (r : AV) (post : List PB) (h0 : Heap) (v1 : AV) (v2 : AV) : Prop :=
  ORDX [] [0, 1, 3, 7, 15, 31, 63, 127, 255, 511, 511, 1535, 3583, 8191, 16383, 32767] [(0, wr h0 h0, (ids v1)), (1, wr h0 h0, (ids v2))] ∧
  POST (.d (.bool false)) h0 pre r post
def vc_ref09_Entry_k25 (P : Ctx) (pre : List ABlk) (r : AV) (post : List PB) (v0 : AV) (h1 : Heap) (v4 : AV) : Prop :=
  LEN false v0 h1 fun v2 =>
  BIN 0 .eql v2 (.d (.num .i64 3)) fun v3 =>
  CONDG v3
  (vc_ref09_Entry_k18 P pre r post v4 h1 v0)
  (vc_ref09_Entry_k19 P pre r post h1 v0)
def vc_ref09_Entry_k26 (P : Ctx) (pre : List ABlk) (r : AV) (post : List PB) (v0 : AV) (h1 : Heap) (v5 : AV) (v6 : AV) : Prop :=
  FADDR 0 v0 h1 fun v2 =>
  LOAD false 1 v2 h1 fun v3 =>
  BIN 0 .eql v3 (.d (.num .i64 3)) fun v4 =>
  CONDG v4
  (vc_ref09_Entry_k23 P pre r post v5 h1 v6 v0 v2)
  (vc_ref09_Entry_k24 P pre r post h1 v0 v2)
def vc_ref09_Entry_k27 (P : Ctx) (pre : List ABlk) (r : AV) (post : List PB) (v0 : AV) (h1 : Heap) (v4 : AV) : Prop :=
  LEN false v0 h1 fun v2 =>
  BIN 0 .eql v2 (.d (.num .i64 4)) fun v3 =>
  CONDG v3
  (vc_ref09_Entry_k9 P pre r post v4 h1 v0)
  (vc_ref09_Entry_k10 P pre r post h1 v0)
def vc_ref09_Entry_k28 (P : Ctx) (pre : List ABlk) (r : AV) (post : List PB) (v0 : AV) (h1 : Heap) (v5 : AV) (v6 : AV) : Prop :=
  FADDR 0 v0 h1 fun v2 =>
  LOAD false 1 v2 h1 fun v3 =>
  BIN 0 .eql v3 (.d (.num .i64 2)) fun v4 =>
  COND v4
  (vc_ref09_Entry_k25 P pre r post v5 h1 v6)
  (vc_ref09_Entry_k26 P pre r post v0 h1 v5 v6)
def vc_ref09_Entry (P : Ctx) (pre : List ABlk) (a0 a1 : AV) (r : AV) (post : List PB) : Prop :=
  let h0 : Heap := numbered 0 pre
  BOX T_api_ProofPage a0 24 h0 fun v2 h1 =>
  BOX T_api_ProofEntry a1 32 h1 fun v3 h2 =>
  FADDR 1 v3 h2 fun v6 =>
  LOAD false 1 v6 h2 fun v7 =>
  FADDR 0 v3 h2 fun v8 =>
  LOAD false 1 v8 h2 fun v9 =>
  BIN 0 .eql v9 (.d (.num .i64 1)) fun v10 =>
  COND v10
  (vc_ref09_Entry_k27 P pre r post v7 h2 v2)
  (vc_ref09_Entry_k28 P pre r post v3 h2 v7 v2)
theorem vc_ref09_Entry_eq (g : GG) (pre : List ABlk) (a0 a1 : AV) (r : AV) (post : List PB) : vcFn2 (Tz g) false ann_ref09_Entry Tryz.f14 pre [a0, a1] (.ret r) post = vc_ref09_Entry (Tz g) pre a0 a1 r post := by kernel_rfl
theorem hf_ref09_Entry : Tryz.prog.funcs[f_ref09_Entry]? = some Tryz.f14 := by kernel_rfl
theorem ok_ref09_Entry : fnVcOK Tryz.prog Tryz.f14 = true := by kernel_rfl
theorem nt_ref09_Entry : Nat.ble 2 Tryz.f14.ntmps = true := by kernel_rfl
theorem meetsH_ref09_Entry {g : GG} {pre : List ABlk} {a0 a1 : AV} {r : AV} {post : List PB} (hk : Nat.ble pre.length 24 = true) (h : vc_ref09_Entry (Tz g) pre a0 a1 r post) : MeetsH (Tz g) f_ref09_Entry pre [a0, a1] (.ret r) post :=
  meetsH_of_vc (C := Tz g) ann_ref09_Entry hf_ref09_Entry ok_ref09_Entry nt_ref09_Entry hk (pn := false) (Eq.mpr ((vcFn2_eq _ _ _ _ _ _ _ _).trans (vc_ref09_Entry_eq g pre a0 a1 r post)) h)
theorem meets_ref09_Entry {g : GG} {a0 a1 : D} {r : Res} (h : vc_ref09_Entry (Tz g) [] (.d a0) (.d a1) r.val (r.bl.map .upd)) : Meets (Tz g) f_ref09_Entry [a0, a1] r := meetsH_ref09_Entry rfl h
def ann_ref09_Page : Nat → List Nat := fun n => match n with | 4 => [1, 3] | 9 => [1, 4] | _ => []
def vc_ref09_Page_k0 (_P : Ctx) (pre : List ABlk) (r : AV) (post : List PB) (v0 : AV) (h2 : Heap) (vs3 : List AV) (v4 : AV) (v5 : AV) (v6 : AV) (v7 : AV) (h8 : Heap) (rd9 : List Nat) (v10 : AV) (v11 : AV) (v12 : AV) (v13 : AV) (h14 : Heap) (rd15 : List Nat) (v16 : AV) (v17 : AV) (v18 : AV) (v19 : AV) (h20 : Heap) (rd21 : List Nat) (next23 : List AV → Heap → Prop) : Prop :=
  NOT v0 fun v1 =>
  ORDX [] [0, 0, 2, 0, 14, 30, 62, 127, 255, 511, 1023, 2047, 1023, 8191, 16383, 32767, 65535, 131071, 262143, 524287, 1048575, 2097151, 1048575, 8388607, 16777215, 33554431, 67108863, 134217727, 268435455] [(0, wr h2 h2, (ids (nth vs3 0))), (1, wr h2 h2, (ids (nth vs3 0))), (2, wr h2 h2, (ids v4)), (4, wr h2 h2, (ids v5)), (5, wr h2 h2, (ids v6)), (6, wr h2 h2, (ids v7)), (7, wr h2 h8, rd9), (10, wr h8 h8, (ids (nth vs3 0))), (11, wr h8 h8, (ids v10)), (13, wr h8 h8, (ids v11)), (14, wr h8 h8, (ids v12)), (15, wr h8 h8, (ids v13)), (16, wr h8 h14, rd15), (20, wr h14 h14, (ids (nth vs3 0))), (21, wr h14 h14, (ids v16)), (23, wr h14 h14, (ids v17)), (24, wr h14 h14, (ids v18)), (25, wr h14 h14, (ids v19)), (26, wr h14 h20, rd21)] ∧
  COND v1
  (POST (.d (.bool false)) h20 pre r post)
  (BIN 0 .add (nth vs3 1) (.d (.num .i64 1)) fun v22 =>
  next23 [(nth vs3 0), v22] h20)
def vc_ref09_Page_k1 (_P : Ctx) (pre : List ABlk) (r : AV) (post : List PB) (h0 : Heap) (vs1 : List AV) (v2 : AV) (v3 : AV) (v4 : AV) (v5 : AV) (h6 : Heap) (rd7 : List Nat) (v8 : AV) (v9 : AV) (v10 : AV) (v11 : AV) (h12 : Heap) (rd13 : List Nat) : Prop :=
  ORDX [] [0, 0, 2, 0, 14, 30, 62, 127, 255, 511, 1023, 2047, 1023, 8191, 16383, 32767, 65535, 131071, 262143, 524287, 1048575, 2097151, 1048575, 8388607, 16777215, 33554431, 67108863, 134217727, 268435455] [(0, wr h0 h0, (ids (nth vs1 0))), (1, wr h0 h0, (ids (nth vs1 0))), (2, wr h0 h0, (ids v2)), (4, wr h0 h0, (ids v3)), (5, wr h0 h0, (ids v4)), (6, wr h0 h0, (ids v5)), (7, wr h0 h6, rd7), (10, wr h6 h6, (ids (nth vs1 0))), (11, wr h6 h6, (ids v8)), (13, wr h6 h6, (ids v9)), (14, wr h6 h6, (ids v10)), (15, wr h6 h6, (ids v11)), (16, wr h6 h12, rd13)] ∧
  POST (.d (.bool false)) h12 pre r post
def vc_ref09_Page_k2 (P : Ctx) (pre : List ABlk) (r : AV) (post : List PB) (vs0 : List AV) (h1 : Heap) (h10 : Heap) (v11 : AV) (v12 : AV) (v13 : AV) (v14 : AV) (h15 : Heap) (rd16 : List Nat) (v17 : AV) (v18 : AV) (v19 : AV) (v20 : AV) (rd21 : List Nat) (next22 : List AV → Heap → Prop) : Prop :=
  FADDR 1 (nth vs0 0) h1 fun v2 =>
  LOAD false 1 v2 h1 fun v3 =>
  IADDR 3 T_api_ProofLine v3 (nth vs0 1) h1 fun v4 =>
  FADDR 2 v4 h1 fun v5 =>
  LOAD false 1 v5 h1 fun v6 =>
  CALL P f_ref02_Number [v6] 440 h1 (fun rd7 v8 h9 =>
  vc_ref09_Page_k0 P pre r post v8 h10 vs0 v11 v12 v13 v14 h15 rd16 v17 v18 v19 v20 h1 rd21 v2 v3 v4 v5 h9 rd7 next22)
  (fun _ _ _ => False)
def vc_ref09_Page_k3 (P : Ctx) (pre : List ABlk) (r : AV) (post : List PB) (v0 : AV) (h2 : Heap) (vs3 : List AV) (v4 : AV) (v5 : AV) (v6 : AV) (v7 : AV) (h8 : Heap) (rd9 : List Nat) (v10 : AV) (v11 : AV) (v12 : AV) (v13 : AV) (h14 : Heap) (rd15 : List Nat) (next16 : List AV → Heap → Prop) : Prop :=
  NOT v0 fun v1 =>
  CONDG v1
  (vc_ref09_Page_k1 P pre r post h2 vs3 v4 v5 v6 v7 h8 rd9 v10 v11 v12 v13 h14 rd15)
  (vc_ref09_Page_k2 P pre r post vs3 h14 h2 v4 v5 v6 v7 h8 rd9 v10 v11 v12 v13 rd15 next16)
def vc_ref09_Page_k4 (_P : Ctx) (pre : List ABlk) (r : AV) (post : List PB) (h0 : Heap) (vs1 : List AV) (v2 : AV) (v3 : AV) (v4 : AV) (v5 : AV) (h6 : Heap) (rd7 : List Nat) : Prop :=
  ORDX [] [0, 0, 2, 0, 14, 30, 62, 127, 255, 511, 1023, 2047, 1023, 8191, 16383, 32767, 65535, 131071, 262143, 524287, 1048575, 2097151, 1048575, 8388607, 16777215, 33554431, 67108863, 134217727, 268435455] [(0, wr h0 h0, (ids (nth vs1 0))), (1, wr h0 h0, (ids (nth vs1 0))), (2, wr h0 h0, (ids v2)), (4, wr h0 h0, (ids v3)), (5, wr h0 h0, (ids v4)), (6, wr h0 h0, (ids v5)), (7, wr h0 h6, rd7)] ∧
  POST (.d (.bool false)) h6 pre r post
def vc_ref09_Page_k5 (P : Ctx) (pre : List ABlk) (r : AV) (post : List PB) (vs0 : List AV) (h1 : Heap) (h10 : Heap) (v11 : AV) (v12 : AV) (v13 : AV) (v14 : AV) (rd15 : List Nat) (next16 : List AV → Heap → Prop) : Prop :=
  FADDR 1 (nth vs0 0) h1 fun v2 =>
  LOAD false 1 v2 h1 fun v3 =>
  IADDR 3 T_api_ProofLine v3 (nth vs0 1) h1 fun v4 =>
  FADDR 1 v4 h1 fun v5 =>
  LOAD false 1 v5 h1 fun v6 =>
  CALL P f_ref02_Number [v6] 360 h1 (fun rd7 v8 h9 =>
  vc_ref09_Page_k3 P pre r post v8 h10 vs0 v11 v12 v13 v14 h1 rd15 v2 v3 v4 v5 h9 rd7 next16)
  (fun _ _ _ => False)
def vc_ref09_Page_k6 (P : Ctx) (pre : List ABlk) (r : AV) (post : List PB) (v0 : AV) (h2 : Heap) (vs3 : List AV) (v4 : AV) (v5 : AV) (v6 : AV) (v7 : AV) (h8 : Heap) (rd9 : List Nat) (next10 : List AV → Heap → Prop) : Prop :=
  NOT v0 fun v1 =>
  CONDG v1
  (vc_ref09_Page_k4 P pre r post h2 vs3 v4 v5 v6 v7 h8 rd9)
  (vc_ref09_Page_k5 P pre r post vs3 h8 h2 v4 v5 v6 v7 rd9 next10)
def vc_ref09_Page_k7 (_P : Ctx) (pre : List ABlk) (r : AV) (post : List PB) (v0 : AV) (h2 : Heap) (vs3 : List AV) (v4 : AV) (v5 : AV) (v6 : AV) (h7 : Heap) (rd8 : List Nat) (next10 : List AV → Heap → Prop) : Prop :=
  NOT v0 fun v1 =>
  ORDX [] [0, 0, 2, 0, 14, 30, 63, 127] [(0, wr h2 h2, (ids (nth vs3 0))), (1, wr h2 h2, (ids (nth vs3 0))), (2, wr h2 h2, (ids v4)), (4, wr h2 h2, (ids v5)), (5, wr h2 h2, (ids v6)), (6, wr h2 h7, rd8)] ∧
  COND v1
  (POST (.d (.bool false)) h7 pre r post)
  (BIN 0 .add (nth vs3 1) (.d (.num .i64 1)) fun v9 =>
  next10 [(nth vs3 0), v9] h7)
def vc_ref09_Page_k8 (P : Ctx) (pre : List ABlk) (r : AV) (post : List PB) (vs0 : List AV) (h1 : Heap) (next14 : List AV → Heap → Prop) : Prop :=
  FADDR 2 (nth vs0 0) h1 fun v2 =>
  LOAD false 1 v2 h1 fun v3 =>
  LEN false v3 h1 fun v4 =>
  BIN 0 .lss (nth vs0 1) v4 fun v5 =>
  COND v5
  (LOAD true 3 (nth vs0 0) h1 fun v6 =>
  FADDR 2 (nth vs0 0) h1 fun v7 =>
  LOAD false 1 v7 h1 fun v8 =>
  IADDR 2 T_api_ProofEntry v8 (nth vs0 1) h1 fun v9 =>
  LOAD true 2 v9 h1 fun v10 =>
  CALL P f_ref09_Entry [v6, v10] 336 h1 (fun rd11 v12 h13 =>
  vc_ref09_Page_k7 P pre r post v12 h1 vs0 v7 v8 v9 h13 rd11 next14)
  (fun _ _ _ => False))
  (POST (.d (.bool true)) h1 pre r post)
def vc_ref09_Page_k9 (P : Ctx) (pre : List ABlk) (r : AV) (post : List PB) (vs0 : List AV) (h1 : Heap) (next11 : List AV → Heap → Prop) : Prop :=
  LOAD true 3 (nth vs0 0) h1 fun v2 =>
  FADDR 1 (nth vs0 0) h1 fun v3 =>
  LOAD false 1 v3 h1 fun v4 =>
  IADDR 3 T_api_ProofLine v4 (nth vs0 1) h1 fun v5 =>
  FADDR 0 v5 h1 fun v6 =>
  LOAD false 1 v6 h1 fun v7 =>
  CALL P f_ref09_Person [v2, v7] 288 h1 (fun rd8 v9 h10 =>
  vc_ref09_Page_k6 P pre r post v9 h1 vs0 v3 v4 v5 v6 h10 rd8 next11)
  (fun _ _ _ => False)
def vc_ref09_Page_k10 (P : Ctx) (pre : List ABlk) (r : AV) (post : List PB) (vs0 : List AV) (h1 : Heap) : Prop :=
  LOOP [(nth vs0 0), (.d (.num .i64 0))] h1 240 fun vs2 h3 next4 =>
  vc_ref09_Page_k8 P pre r post vs2 h3 next4
def vc_ref09_Page_k11 (P : Ctx) (pre : List ABlk) (r : AV) (post : List PB) (vs0 : List AV) (h1 : Heap) (next6 : List AV → Heap → Prop) : Prop :=
  FADDR 1 (nth vs0 0) h1 fun v2 =>
  LOAD false 1 v2 h1 fun v3 =>
  LEN false v3 h1 fun v4 =>
  BIN 0 .lss (nth vs0 1) v4 fun v5 =>
  COND v5
  (vc_ref09_Page_k9 P pre r post vs0 h1 next6)
  (vc_ref09_Page_k10 P pre r post vs0 h1)
def vc_ref09_Page_k12 (P : Ctx) (pre : List ABlk) (r : AV) (post : List PB) (v0 : AV) (h2 : Heap) (v3 : AV) : Prop :=
  NOT v0 fun v1 =>
  CONDG v1
  (POST (.d (.bool false)) h2 pre r post)
  (FADDR 2 v3 h2 fun v4 =>
  LOAD false 1 v4 h2 fun v5 =>
  LEN false v5 h2 fun v6 =>
  BIN 0 .gtr v6 (.d (.num .i64 10)) fun v7 =>
  COND v7
  (POST (.d (.bool false)) h2 pre r post)
  (LOOP [v3, (.d (.num .i64 0))] h2 184 fun vs8 h9 next10 =>
  vc_ref09_Page_k11 P pre r post vs8 h9 next10))
def vc_ref09_Page_k13 (P : Ctx) (pre : List ABlk) (r : AV) (post : List PB) (v0 : AV) (h2 : Heap) (v3 : AV) : Prop :=
  NOT v0 fun v1 =>
  CONDG v1
  (POST (.d (.bool false)) h2 pre r post)
  (FADDR 1 v3 h2 fun v4 =>
  LOAD false 1 v4 h2 fun v5 =>
  LEN false v5 h2 fun v6 =>
  CALL P f_ref09_in [v6, (.d (.num .i64 1)), (.d (.num .i64 6))] 104 h2 (fun _ v8 h9 =>
  vc_ref09_Page_k12 P pre r post v8 h9 v3)
  (fun _ _ _ => False))
def vc_ref09_Page (P : Ctx) (pre : List ABlk) (a0 : AV) (r : AV) (post : List PB) : Prop :=
  let h0 : Heap := numbered 0 pre
  BOX T_api_ProofPage a0 24 h0 fun v1 h1 =>
  FADDR 0 v1 h1 fun v5 =>
  LOAD false 1 v5 h1 fun v6 =>
  CALL P f_ref09_in [v6, (.d (.num .i64 2)), (.d (.num .i64 6))] 56 h1 (fun _ v7 h2 =>
  vc_ref09_Page_k13 P pre r post v7 h2 v1)
  (fun _ _ _ => False)
theorem vc_ref09_Page_eq (g : GG) (pre : List ABlk) (a0 : AV) (r : AV) (post : List PB) : vcFn2 (Tz g) false ann_ref09_Page Tryz.f4 pre [a0] (.ret r) post = vc_ref09_Page (Tz g) pre a0 r post := by kernel_rfl
theorem hf_ref09_Page : Tryz.prog.funcs[f_ref09_Page]? = some Tryz.f4 := by kernel_rfl
theorem ok_ref09_Page : fnVcOK Tryz.prog Tryz.f4 = true := by kernel_rfl
theorem nt_ref09_Page : Nat.ble 1 Tryz.f4.ntmps = true := by kernel_rfl
theorem meetsH_ref09_Page {g : GG} {pre : List ABlk} {a0 : AV} {r : AV} {post : List PB} (hk : Nat.ble pre.length 24 = true) (h : vc_ref09_Page (Tz g) pre a0 r post) : MeetsH (Tz g) f_ref09_Page pre [a0] (.ret r) post :=
  meetsH_of_vc (C := Tz g) ann_ref09_Page hf_ref09_Page ok_ref09_Page nt_ref09_Page hk (pn := false) (Eq.mpr ((vcFn2_eq _ _ _ _ _ _ _ _).trans (vc_ref09_Page_eq g pre a0 r post)) h)
theorem meets_ref09_Page {g : GG} {a0 : D} {r : Res} (h : vc_ref09_Page (Tz g) [] (.d a0) r.val (r.bl.map .upd)) : Meets (Tz g) f_ref09_Page [a0] r := meetsH_ref09_Page rfl h
end Go.Vc
