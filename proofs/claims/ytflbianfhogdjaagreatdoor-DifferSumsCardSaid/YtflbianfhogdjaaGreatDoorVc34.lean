/- A part of the proof: general laws of a reading of the model by abstract data, or contracts of the functions that the law calls. -/
import Derived.Test.YtflbianfhogdjaaGreatDoorVc22
import Derived.Test.YtflbianfhogdjaaGreatDoorVc11
import Derived.Test.YtflbianfhogdjaaGreatDoorVc33
set_option maxRecDepth 100000
namespace Go.Vc
open Go Go.Proofs Go.RowKit
def ann_ref01_Begin : Nat → List Nat := fun n => match n with  | _ => []
def vc_ref01_Begin (P : Ctx) (pre : List ABlk) (a0 a1 : AV) (r : AV) (post : List PB) : Prop :=
  let h0 : Heap := numbered 0 pre
  BOX T_api_DifferPlan a0 24 h0 fun v2 h1 =>
  FADDR 0 v2 h1 fun v6 =>
  LOAD false 1 v6 h1 fun v7 =>
  LEN false v7 h1 fun v8 =>
  BIN 0 .sub v8 (.d (.num .i64 1)) fun v9 =>
  CALL P f_ref01_in [a1, (.d (.num .i64 0)), v9] 80 h1 (fun _ v10 h2 =>
  POST v10 h2 pre r post)
  (fun _ _ _ => False)
theorem vc_ref01_Begin_eq (g : GG) (pre : List ABlk) (a0 a1 : AV) (r : AV) (post : List PB) : vcFn2 (Tz g) false ann_ref01_Begin Tryz.f33 pre [a0, a1] (.ret r) post = vc_ref01_Begin (Tz g) pre a0 a1 r post := by kernel_rfl
theorem hf_ref01_Begin : Tryz.prog.funcs[f_ref01_Begin]? = some Tryz.f33 := by kernel_rfl
theorem ok_ref01_Begin : fnVcOK Tryz.prog Tryz.f33 = true := by kernel_rfl
theorem nt_ref01_Begin : Nat.ble 2 Tryz.f33.ntmps = true := by kernel_rfl
theorem meetsH_ref01_Begin {g : GG} {pre : List ABlk} {a0 a1 : AV} {r : AV} {post : List PB} (hk : Nat.ble pre.length 24 = true) (h : vc_ref01_Begin (Tz g) pre a0 a1 r post) : MeetsH (Tz g) f_ref01_Begin pre [a0, a1] (.ret r) post :=
  meetsH_of_vc (C := Tz g) ann_ref01_Begin hf_ref01_Begin ok_ref01_Begin nt_ref01_Begin hk (pn := false) (Eq.mpr ((vcFn2_eq _ _ _ _ _ _ _ _).trans (vc_ref01_Begin_eq g pre a0 a1 r post)) h)
theorem meets_ref01_Begin {g : GG} {a0 a1 : D} {r : Res} (h : vc_ref01_Begin (Tz g) [] (.d a0) (.d a1) r.val (r.bl.map .upd)) : Meets (Tz g) f_ref01_Begin [a0, a1] r := meetsH_ref01_Begin rfl h
def ann_ref01_With : Nat → List Nat := fun n => match n with  | _ => []
def vc_ref01_With (P : Ctx) (pre : List ABlk) (a0 a1 a2 : AV) (r : AV) (post : List PB) : Prop :=
  let h0 : Heap := numbered 0 pre
  BOX T_api_DifferPlan a0 24 h0 fun v3 h1 =>
  ALLOC T_api_DifferPlan [.zc, .d (.num .i64 0), .d (.num .i64 0)] 32 h1 fun v6 h2 =>
  FADDR 0 v3 h2 fun v7 =>
  LOAD false 1 v7 h2 fun v8 =>
  APP T_api_Span 2 .zc v8 56 h2 fun v9 h3 =>
  FADDR 0 v3 h3 fun v10 =>
  STORE 1 v10 v9 h3 fun h4 =>
  FADDR 0 v3 h4 fun v11 =>
  LOAD false 1 v11 h4 fun v12 =>
  IADDR 2 T_api_Span v12 a1 h4 fun v15 =>
  FADDR 1 v15 h4 fun v16 =>
  STORE 1 v16 a2 h4 fun h5 =>
  LOAD true 3 v3 h5 fun v17 =>
  STORE 3 v6 v17 h5 fun h6 =>
  LOAD true 3 v6 h6 fun r7 =>
  POST r7 h6 pre r post
theorem vc_ref01_With_eq (g : GG) (pre : List ABlk) (a0 a1 a2 : AV) (r : AV) (post : List PB) : vcFn2 (Tz g) false ann_ref01_With Tryz.f36 pre [a0, a1, a2] (.ret r) post = vc_ref01_With (Tz g) pre a0 a1 a2 r post := by kernel_rfl
theorem hf_ref01_With : Tryz.prog.funcs[f_ref01_With]? = some Tryz.f36 := by kernel_rfl
theorem ok_ref01_With : fnVcOK Tryz.prog Tryz.f36 = true := by kernel_rfl
theorem nt_ref01_With : Nat.ble 3 Tryz.f36.ntmps = true := by kernel_rfl
theorem meetsH_ref01_With {g : GG} {pre : List ABlk} {a0 a1 a2 : AV} {r : AV} {post : List PB} (hk : Nat.ble pre.length 24 = true) (h : vc_ref01_With (Tz g) pre a0 a1 a2 r post) : MeetsH (Tz g) f_ref01_With pre [a0, a1, a2] (.ret r) post :=
  meetsH_of_vc (C := Tz g) ann_ref01_With hf_ref01_With ok_ref01_With nt_ref01_With hk (pn := false) (Eq.mpr ((vcFn2_eq _ _ _ _ _ _ _ _).trans (vc_ref01_With_eq g pre a0 a1 a2 r post)) h)
theorem meets_ref01_With {g : GG} {a0 a1 a2 : D} {r : Res} (h : vc_ref01_With (Tz g) [] (.d a0) (.d a1) (.d a2) r.val (r.bl.map .upd)) : Meets (Tz g) f_ref01_With [a0, a1, a2] r := meetsH_ref01_With rfl h
end Go.Vc

namespace Go.Vc
open Go Go.Proofs
variable {g : GG}
attribute [local simp] and_assoc
theorem ref01_Begin_meets (p : Plan) (i : Int) (hl : p.starts.length ≤ 1000) : Meets (Tz g) f_ref01_Begin [p.d, int i] ⟨.d (.bool (inB i 0 (p.starts.length - 1))), []⟩ := by
  refine meets_ref01_Begin ?_
  unfold vc_ref01_Begin
  simp [Plan.d, spans]
  rw [wrap_id (by omega) (by omega)]
  refine CALL.val _ _ rfl (ref01_in_meets _ _ _) (.inl rfl) ?_
  simp
theorem set_self' {l : List Sp} {i : Nat} {s : Sp} (hs : l[i]? = some s) : l.set i ⟨s.low, s.high⟩ = l := by
  refine List.ext_getElem? fun j => ?_
  rw [List.getElem?_set]
  by_cases hj : i = j
  · subst hj
    have := (List.getElem?_eq_some_iff.1 hs).1
    rw [if_pos rfl, if_pos this, hs]
  · rw [if_neg hj]
end Go.Vc

namespace Go.Vc
open Go Go.Proofs
variable {g : GG}
attribute [local simp] and_assoc
end Go.Vc
