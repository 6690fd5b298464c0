/- A part of the proof: general laws of a reading of the model by abstract data, or contracts of the functions that the law calls. -/
import Derived.Test.YtkefjhemmdolaaaGreatVc23
import Derived.Test.YtkefjhemmdolaaaGreatVc11
set_option maxRecDepth 100000
namespace Go.Vc
open Go Go.Proofs Go.RowKit
def ann_round_in : Nat → List Nat := fun n => match n with  | _ => []
def vc_round_in (_P : Ctx) (pre : List ABlk) (a0 a1 a2 : AV) (r : AV) (post : List PB) : Prop :=
  let h0 : Heap := numbered 0 pre
  BIN 0 .geq a0 a1 fun v9 =>
  CONDG v9
  (BIN 0 .leq a0 a2 fun v13 =>
  POST v13 h0 pre r post)
  (POST (.d (.bool false)) h0 pre r post)
theorem vc_round_in_eq (g : GG) (pre : List ABlk) (a0 a1 a2 : AV) (r : AV) (post : List PB) : vcFn2 (Tz g) false ann_round_in Tryz.f51 pre [a0, a1, a2] (.ret r) post = vc_round_in (Tz g) pre a0 a1 a2 r post := by kernel_rfl
theorem hf_round_in : Tryz.prog.funcs[f_round_in]? = some Tryz.f51 := by kernel_rfl
theorem ok_round_in : fnVcOK Tryz.prog Tryz.f51 = true := by kernel_rfl
theorem nt_round_in : Nat.ble 3 Tryz.f51.ntmps = true := by kernel_rfl
theorem meetsH_round_in {g : GG} {pre : List ABlk} {a0 a1 a2 : AV} {r : AV} {post : List PB} (hk : Nat.ble pre.length 24 = true) (h : vc_round_in (Tz g) pre a0 a1 a2 r post) : MeetsH (Tz g) f_round_in pre [a0, a1, a2] (.ret r) post :=
  meetsH_of_vc (C := Tz g) ann_round_in hf_round_in ok_round_in nt_round_in hk (pn := false) (Eq.mpr ((vcFn2_eq _ _ _ _ _ _ _ _).trans (vc_round_in_eq g pre a0 a1 a2 r post)) h)
theorem meets_round_in {g : GG} {a0 a1 a2 : D} {r : Res} (h : vc_round_in (Tz g) [] (.d a0) (.d a1) (.d a2) r.val (r.bl.map .upd)) : Meets (Tz g) f_round_in [a0, a1, a2] r := meetsH_round_in rfl h
def ann_round_isRule : Nat → List Nat := fun n => match n with  | _ => []
def vc_round_isRule (_P : Ctx) (pre : List ABlk) (a0 : AV) (r : AV) (post : List PB) : Prop :=
  let h0 : Heap := numbered 0 pre
  BIN 0 .geq a0 (.d (.num .i64 1)) fun v4 =>
  CONDG v4
  (BIN 0 .leq a0 (.d (.num .i64 4)) fun v7 =>
  POST v7 h0 pre r post)
  (POST (.d (.bool false)) h0 pre r post)
theorem vc_round_isRule_eq (g : GG) (pre : List ABlk) (a0 : AV) (r : AV) (post : List PB) : vcFn2 (Tz g) false ann_round_isRule Tryz.f52 pre [a0] (.ret r) post = vc_round_isRule (Tz g) pre a0 r post := by kernel_rfl
theorem hf_round_isRule : Tryz.prog.funcs[f_round_isRule]? = some Tryz.f52 := by kernel_rfl
theorem ok_round_isRule : fnVcOK Tryz.prog Tryz.f52 = true := by kernel_rfl
theorem nt_round_isRule : Nat.ble 1 Tryz.f52.ntmps = true := by kernel_rfl
theorem meetsH_round_isRule {g : GG} {pre : List ABlk} {a0 : AV} {r : AV} {post : List PB} (hk : Nat.ble pre.length 24 = true) (h : vc_round_isRule (Tz g) pre a0 r post) : MeetsH (Tz g) f_round_isRule pre [a0] (.ret r) post :=
  meetsH_of_vc (C := Tz g) ann_round_isRule hf_round_isRule ok_round_isRule nt_round_isRule hk (pn := false) (Eq.mpr ((vcFn2_eq _ _ _ _ _ _ _ _).trans (vc_round_isRule_eq g pre a0 r post)) h)
theorem meets_round_isRule {g : GG} {a0 : D} {r : Res} (h : vc_round_isRule (Tz g) [] (.d a0) r.val (r.bl.map .upd)) : Meets (Tz g) f_round_isRule [a0] r := meetsH_round_isRule rfl h
def ann_round_ruler_down : Nat → List Nat := fun n => match n with  | _ => []
def vc_round_ruler_down (_P : Ctx) (pre : List ABlk) (a0 a1 : AV) (r : AV) (post : List PB) : Prop :=
  let h0 : Heap := numbered 0 pre
  BOX T_round_ruler a0 24 h0 fun v2 h1 =>
  FADDR 0 v2 h1 fun v7 =>
  LOAD false 1 v7 h1 fun v8 =>
  BIN 0 .quo a1 v8 fun v9 =>
  FADDR 0 v2 h1 fun v11 =>
  LOAD false 1 v11 h1 fun v12 =>
  BIN 0 .mul v9 v12 fun v13 =>
  BIN 0 .gtr v13 a1 fun v15 =>
  COND v15
  (BIN 0 .sub v9 (.d (.num .i64 1)) fun v17 =>
  POST v17 h1 pre r post)
  (POST v9 h1 pre r post)
theorem vc_round_ruler_down_eq (g : GG) (pre : List ABlk) (a0 a1 : AV) (r : AV) (post : List PB) : vcFn2 (Tz g) false ann_round_ruler_down Tryz.f101 pre [a0, a1] (.ret r) post = vc_round_ruler_down (Tz g) pre a0 a1 r post := by kernel_rfl
theorem hf_round_ruler_down : Tryz.prog.funcs[f_round_ruler_down]? = some Tryz.f101 := by kernel_rfl
theorem ok_round_ruler_down : fnVcOK Tryz.prog Tryz.f101 = true := by kernel_rfl
theorem nt_round_ruler_down : Nat.ble 2 Tryz.f101.ntmps = true := by kernel_rfl
theorem meetsH_round_ruler_down {g : GG} {pre : List ABlk} {a0 a1 : AV} {r : AV} {post : List PB} (hk : Nat.ble pre.length 24 = true) (h : vc_round_ruler_down (Tz g) pre a0 a1 r post) : MeetsH (Tz g) f_round_ruler_down pre [a0, a1] (.ret r) post :=
  meetsH_of_vc (C := Tz g) ann_round_ruler_down hf_round_ruler_down ok_round_ruler_down nt_round_ruler_down hk (pn := false) (Eq.mpr ((vcFn2_eq _ _ _ _ _ _ _ _).trans (vc_round_ruler_down_eq g pre a0 a1 r post)) h)
theorem meets_round_ruler_down {g : GG} {a0 a1 : D} {r : Res} (h : vc_round_ruler_down (Tz g) [] (.d a0) (.d a1) r.val (r.bl.map .upd)) : Meets (Tz g) f_round_ruler_down [a0, a1] r := meetsH_round_ruler_down rfl h
def ann_round_ruler_up : Nat → List Nat := fun n => match n with  | _ => []
def vc_round_ruler_up (P : Ctx) (pre : List ABlk) (a0 a1 : AV) (r : AV) (post : List PB) : Prop :=
  let h0 : Heap := numbered 0 pre
  BOX T_round_ruler a0 24 h0 fun v2 h1 =>
  LOAD true 1 v2 h1 fun v5 =>
  NEG a1 fun v7 =>
  CALL P f_round_ruler_down [v5, v7] 64 h1 (fun _ v8 h2 =>
  NEG v8 fun v9 =>
  POST v9 h2 pre r post)
  (fun _ _ _ => False)
theorem vc_round_ruler_up_eq (g : GG) (pre : List ABlk) (a0 a1 : AV) (r : AV) (post : List PB) : vcFn2 (Tz g) false ann_round_ruler_up Tryz.f102 pre [a0, a1] (.ret r) post = vc_round_ruler_up (Tz g) pre a0 a1 r post := by kernel_rfl
theorem hf_round_ruler_up : Tryz.prog.funcs[f_round_ruler_up]? = some Tryz.f102 := by kernel_rfl
theorem ok_round_ruler_up : fnVcOK Tryz.prog Tryz.f102 = true := by kernel_rfl
theorem nt_round_ruler_up : Nat.ble 2 Tryz.f102.ntmps = true := by kernel_rfl
theorem meetsH_round_ruler_up {g : GG} {pre : List ABlk} {a0 a1 : AV} {r : AV} {post : List PB} (hk : Nat.ble pre.length 24 = true) (h : vc_round_ruler_up (Tz g) pre a0 a1 r post) : MeetsH (Tz g) f_round_ruler_up pre [a0, a1] (.ret r) post :=
  meetsH_of_vc (C := Tz g) ann_round_ruler_up hf_round_ruler_up ok_round_ruler_up nt_round_ruler_up hk (pn := false) (Eq.mpr ((vcFn2_eq _ _ _ _ _ _ _ _).trans (vc_round_ruler_up_eq g pre a0 a1 r post)) h)
theorem meets_round_ruler_up {g : GG} {a0 a1 : D} {r : Res} (h : vc_round_ruler_up (Tz g) [] (.d a0) (.d a1) r.val (r.bl.map .upd)) : Meets (Tz g) f_round_ruler_up [a0, a1] r := meetsH_round_ruler_up rfl h
def ann_round_ruler_near : Nat → List Nat := fun n => match n with  | _ => []
def vc_round_ruler_near (P : Ctx) (pre : List ABlk) (a0 a1 : AV) (r : AV) (post : List PB) : Prop :=
  let h0 : Heap := numbered 0 pre
  BOX T_round_ruler a0 24 h0 fun v2 h1 =>
  FADDR 0 v2 h1 fun v5 =>
  LOAD false 1 v5 h1 fun v6 =>
  BIN 0 .mul (.d (.num .i64 2)) v6 fun v7 =>
  BUILD [(0, 1)] [.d (.num .i64 0)] [(0, v7)] fun v8 =>
  BIN 0 .mul (.d (.num .i64 2)) a1 fun v10 =>
  FADDR 0 v2 h1 fun v11 =>
  LOAD false 1 v11 h1 fun v12 =>
  BIN 0 .add v10 v12 fun v13 =>
  CALL P f_round_ruler_down [v8, v13] 112 h1 (fun _ v14 h2 =>
  POST v14 h2 pre r post)
  (fun _ _ _ => False)
theorem vc_round_ruler_near_eq (g : GG) (pre : List ABlk) (a0 a1 : AV) (r : AV) (post : List PB) : vcFn2 (Tz g) false ann_round_ruler_near Tryz.f103 pre [a0, a1] (.ret r) post = vc_round_ruler_near (Tz g) pre a0 a1 r post := by kernel_rfl
theorem hf_round_ruler_near : Tryz.prog.funcs[f_round_ruler_near]? = some Tryz.f103 := by kernel_rfl
theorem ok_round_ruler_near : fnVcOK Tryz.prog Tryz.f103 = true := by kernel_rfl
theorem nt_round_ruler_near : Nat.ble 2 Tryz.f103.ntmps = true := by kernel_rfl
theorem meetsH_round_ruler_near {g : GG} {pre : List ABlk} {a0 a1 : AV} {r : AV} {post : List PB} (hk : Nat.ble pre.length 24 = true) (h : vc_round_ruler_near (Tz g) pre a0 a1 r post) : MeetsH (Tz g) f_round_ruler_near pre [a0, a1] (.ret r) post :=
  meetsH_of_vc (C := Tz g) ann_round_ruler_near hf_round_ruler_near ok_round_ruler_near nt_round_ruler_near hk (pn := false) (Eq.mpr ((vcFn2_eq _ _ _ _ _ _ _ _).trans (vc_round_ruler_near_eq g pre a0 a1 r post)) h)
theorem meets_round_ruler_near {g : GG} {a0 a1 : D} {r : Res} (h : vc_round_ruler_near (Tz g) [] (.d a0) (.d a1) r.val (r.bl.map .upd)) : Meets (Tz g) f_round_ruler_near [a0, a1] r := meetsH_round_ruler_near rfl h
def ann_round_ruler_even : Nat → List Nat := fun n => match n with  | _ => []
def vc_round_ruler_even_k0 (_P : Ctx) (pre : List ABlk) (r : AV) (post : List PB) (a0 : AV) (v2 : AV) (h3 : Heap) (v10 : AV) : Prop :=
  BIN 0 .mul (.d (.num .i64 2)) a0 fun v1 =>
  FADDR 0 v2 h3 fun v4 =>
  LOAD false 1 v4 h3 fun v5 =>
  BIN 0 .add v1 v5 fun v6 =>
  FADDR 0 v2 h3 fun v7 =>
  LOAD false 1 v7 h3 fun v8 =>
  BIN 0 .mul (.d (.num .i64 2)) v8 fun v9 =>
  BIN 0 .mul v9 v10 fun v11 =>
  BIN 0 .eql v6 v11 fun v12 =>
  CONDG v12
  (BIN 0 .rem v10 (.d (.num .i64 2)) fun v13 =>
  BIN 0 .neq v13 (.d (.num .i64 0)) fun v14 =>
  COND v14
  (BIN 0 .sub v10 (.d (.num .i64 1)) fun v15 =>
  POST v15 h3 pre r post)
  (POST v10 h3 pre r post))
  (POST v10 h3 pre r post)
def vc_round_ruler_even (P : Ctx) (pre : List ABlk) (a0 a1 : AV) (r : AV) (post : List PB) : Prop :=
  let h0 : Heap := numbered 0 pre
  BOX T_round_ruler a0 24 h0 fun v2 h1 =>
  LOAD true 1 v2 h1 fun v6 =>
  CALL P f_round_ruler_near [v6, a1] 56 h1 (fun _ v8 h2 =>
  vc_round_ruler_even_k0 P pre r post a1 v2 h2 v8)
  (fun _ _ _ => False)
theorem vc_round_ruler_even_eq (g : GG) (pre : List ABlk) (a0 a1 : AV) (r : AV) (post : List PB) : vcFn2 (Tz g) false ann_round_ruler_even Tryz.f104 pre [a0, a1] (.ret r) post = vc_round_ruler_even (Tz g) pre a0 a1 r post := by kernel_rfl
theorem hf_round_ruler_even : Tryz.prog.funcs[f_round_ruler_even]? = some Tryz.f104 := by kernel_rfl
theorem ok_round_ruler_even : fnVcOK Tryz.prog Tryz.f104 = true := by kernel_rfl
theorem nt_round_ruler_even : Nat.ble 2 Tryz.f104.ntmps = true := by kernel_rfl
theorem meetsH_round_ruler_even {g : GG} {pre : List ABlk} {a0 a1 : AV} {r : AV} {post : List PB} (hk : Nat.ble pre.length 24 = true) (h : vc_round_ruler_even (Tz g) pre a0 a1 r post) : MeetsH (Tz g) f_round_ruler_even pre [a0, a1] (.ret r) post :=
  meetsH_of_vc (C := Tz g) ann_round_ruler_even hf_round_ruler_even ok_round_ruler_even nt_round_ruler_even hk (pn := false) (Eq.mpr ((vcFn2_eq _ _ _ _ _ _ _ _).trans (vc_round_ruler_even_eq g pre a0 a1 r post)) h)
theorem meets_round_ruler_even {g : GG} {a0 a1 : D} {r : Res} (h : vc_round_ruler_even (Tz g) [] (.d a0) (.d a1) r.val (r.bl.map .upd)) : Meets (Tz g) f_round_ruler_even [a0, a1] r := meetsH_round_ruler_even rfl h
def ann_round_ruler_rules : Nat → List Nat := fun n => match n with  | _ => []
def vc_round_ruler_rules (_P : Ctx) (pre : List ABlk) (a0 : AV) (r : AV) (post : List PB) : Prop :=
  let h0 : Heap := numbered 0 pre
  BOX T_round_ruler a0 24 h0 fun v1 h1 =>
  ALLOC T_5_func_int_int [.d .nilf, .d .nilf, .d .nilf, .d .nilf, .d .nilf] 32 h1 fun v2 h2 =>
  LOAD true 1 v1 h2 fun v3 =>
  LOAD true 1 v1 h2 fun v5 =>
  LOAD true 1 v1 h2 fun v7 =>
  LOAD true 1 v1 h2 fun v9 =>
  BUILD [(0, 1), (1, 1), (2, 1), (3, 1), (4, 1)] [.d .nilf, .d .nilf, .d .nilf, .d .nilf, .d .nilf] [(1, (.fn f_round_ruler_down [v3] [])), (2, (.fn f_round_ruler_up [v5] [])), (3, (.fn f_round_ruler_near [v7] [])), (4, (.fn f_round_ruler_even [v9] []))] fun v11 =>
  STORE 5 v2 v11 h2 fun h3 =>
  LOAD true 5 v2 h3 fun r4 =>
  POST r4 h3 pre r post
theorem vc_round_ruler_rules_eq (g : GG) (pre : List ABlk) (a0 : AV) (r : AV) (post : List PB) : vcFn2 (Tz g) false ann_round_ruler_rules Tryz.f53 pre [a0] (.ret r) post = vc_round_ruler_rules (Tz g) pre a0 r post := by kernel_rfl
theorem hf_round_ruler_rules : Tryz.prog.funcs[f_round_ruler_rules]? = some Tryz.f53 := by kernel_rfl
theorem ok_round_ruler_rules : fnVcOK Tryz.prog Tryz.f53 = true := by kernel_rfl
theorem nt_round_ruler_rules : Nat.ble 1 Tryz.f53.ntmps = true := by kernel_rfl
theorem meetsH_round_ruler_rules {g : GG} {pre : List ABlk} {a0 : AV} {r : AV} {post : List PB} (hk : Nat.ble pre.length 24 = true) (h : vc_round_ruler_rules (Tz g) pre a0 r post) : MeetsH (Tz g) f_round_ruler_rules pre [a0] (.ret r) post :=
  meetsH_of_vc (C := Tz g) ann_round_ruler_rules hf_round_ruler_rules ok_round_ruler_rules nt_round_ruler_rules hk (pn := false) (Eq.mpr ((vcFn2_eq _ _ _ _ _ _ _ _).trans (vc_round_ruler_rules_eq g pre a0 r post)) h)
theorem meets_round_ruler_rules {g : GG} {a0 : D} {r : Res} (h : vc_round_ruler_rules (Tz g) [] (.d a0) r.val (r.bl.map .upd)) : Meets (Tz g) f_round_ruler_rules [a0] r := meetsH_round_ruler_rules rfl h
def ann_round_To : Nat → List Nat := fun n => match n with  | _ => []
def vc_round_To_k0 (P : Ctx) (pre : List ABlk) (r : AV) (post : List PB) (v0 : AV) (h2 : Heap) (a3 : AV) (a8 : AV) (a10 : AV) : Prop :=
  NOT v0 fun v1 =>
  COND v1
  (POST (.tup [(.d (.num .i64 0)), (.d (.num .i64 2))]) h2 pre r post)
  (BUILD [(0, 1)] [.d (.num .i64 0)] [(0, a3)] fun v4 =>
  CALL P f_round_ruler_rules [v4] 160 h2 (fun _ v6 h7 =>
  AIDX false 1 5 v6 a8 fun v9 =>
  CALLV P v9 [a10] 192 h7 (fun _ v12 h13 =>
  POST (.tup [v12, (.d (.num .i64 0))]) h13 pre r post)
  (fun _ _ _ => False))
  (fun _ _ _ => False))
def vc_round_To_k1 (P : Ctx) (pre : List ABlk) (r : AV) (post : List PB) (v0 : AV) (h2 : Heap) (a3 : AV) (a8 : AV) (a12 : AV) : Prop :=
  NOT v0 fun v1 =>
  CONDG v1
  (POST (.tup [(.d (.num .i64 0)), (.d (.num .i64 2))]) h2 pre r post)
  (CALL P f_round_in [a3, (.d (.num .i64 1)), (.d (.num .i64 1048576))] 80 h2 (fun _ v5 h6 =>
  NOT v5 fun v7 =>
  CONDG v7
  (POST (.tup [(.d (.num .i64 0)), (.d (.num .i64 2))]) h6 pre r post)
  (CALL P f_round_isRule [a8] 120 h6 (fun _ v10 h11 =>
  vc_round_To_k0 P pre r post v10 h11 a3 a8 a12)
  (fun _ _ _ => False)))
  (fun _ _ _ => False))
def vc_round_To (P : Ctx) (pre : List ABlk) (a0 a1 a2 : AV) (r : AV) (post : List PB) : Prop :=
  let h0 : Heap := numbered 0 pre
  CALL P f_round_in [a0, (.d (.num .i64 (-1099511627776))), (.d (.num .i64 1099511627776))] 48 h0 (fun _ v9 h1 =>
  vc_round_To_k1 P pre r post v9 h1 a1 a2 a0)
  (fun _ _ _ => False)
theorem vc_round_To_eq (g : GG) (pre : List ABlk) (a0 a1 a2 : AV) (r : AV) (post : List PB) : vcFn2 (Tz g) false ann_round_To Tryz.f14 pre [a0, a1, a2] (.ret r) post = vc_round_To (Tz g) pre a0 a1 a2 r post := by kernel_rfl
theorem hf_round_To : Tryz.prog.funcs[f_round_To]? = some Tryz.f14 := by kernel_rfl
theorem ok_round_To : fnVcOK Tryz.prog Tryz.f14 = true := by kernel_rfl
theorem nt_round_To : Nat.ble 3 Tryz.f14.ntmps = true := by kernel_rfl
theorem meetsH_round_To {g : GG} {pre : List ABlk} {a0 a1 a2 : AV} {r : AV} {post : List PB} (hk : Nat.ble pre.length 24 = true) (h : vc_round_To (Tz g) pre a0 a1 a2 r post) : MeetsH (Tz g) f_round_To pre [a0, a1, a2] (.ret r) post :=
  meetsH_of_vc (C := Tz g) ann_round_To hf_round_To ok_round_To nt_round_To hk (pn := false) (Eq.mpr ((vcFn2_eq _ _ _ _ _ _ _ _).trans (vc_round_To_eq g pre a0 a1 a2 r post)) h)
theorem meets_round_To {g : GG} {a0 a1 a2 : D} {r : Res} (h : vc_round_To (Tz g) [] (.d a0) (.d a1) (.d a2) r.val (r.bl.map .upd)) : Meets (Tz g) f_round_To [a0, a1, a2] r := meetsH_round_To rfl h
end Go.Vc
