/- A part of the proof: general laws of a reading of the model by abstract data, or contracts of the functions that the law calls. -/
import Derived.Test.YtjdgidaoknlnlaaGreatDoorVc23
import Derived.Test.YtjdgidaoknlnlaaGreatDoorVc11
import Derived.Test.YtjdgidaoknlnlaaGreatDoorVc46
set_option maxRecDepth 100000
namespace Go.Vc
open Go Go.Proofs Go.RowKit
def ann_law09_fall : Nat → List Nat := fun n => match n with  | _ => []
def vc_law09_fall (P : Ctx) (pre : List ABlk) (a0 : AV) (r : AV) (post : List PB) : Prop :=
  let h0 : Heap := numbered 0 pre
  ALLOC T_api_ProofEntry [.d (.num .i64 0), .zc] 24 h0 fun v2 h1 =>
  MKS T_int 1 [a0] 40 h1 fun v4 h2 =>
  BUILD [(0, 1), (1, 1)] [.d (.num .i64 0), .zc] [(0, (.d (.num .i64 3))), (1, v4)] fun v5 =>
  STORE 2 v2 v5 h2 fun h3 =>
  LOAD true 2 v2 h3 fun r4 =>
  POST r4 h3 pre r post
theorem vc_law09_fall_eq (g : GG) (pre : List ABlk) (a0 : AV) (r : AV) (post : List PB) : vcFn2 (Tz g) false ann_law09_fall Tryz.f48 pre [a0] (.ret r) post = vc_law09_fall (Tz g) pre a0 r post := by kernel_rfl
theorem hf_law09_fall : Tryz.prog.funcs[f_law09_fall]? = some Tryz.f48 := by kernel_rfl
theorem ok_law09_fall : fnVcOK Tryz.prog Tryz.f48 = true := by kernel_rfl
theorem nt_law09_fall : Nat.ble 1 Tryz.f48.ntmps = true := by kernel_rfl
theorem meetsH_law09_fall {g : GG} {pre : List ABlk} {a0 : AV} {r : AV} {post : List PB} (hk : Nat.ble pre.length 24 = true) (h : vc_law09_fall (Tz g) pre a0 r post) : MeetsH (Tz g) f_law09_fall pre [a0] (.ret r) post :=
  meetsH_of_vc (C := Tz g) ann_law09_fall hf_law09_fall ok_law09_fall nt_law09_fall hk (pn := false) (Eq.mpr ((vcFn2_eq _ _ _ _ _ _ _ _).trans (vc_law09_fall_eq g pre a0 r post)) h)
theorem meets_law09_fall {g : GG} {a0 : D} {r : Res} (h : vc_law09_fall (Tz g) [] (.d a0) r.val (r.bl.map .upd)) : Meets (Tz g) f_law09_fall [a0] r := meetsH_law09_fall rfl h
end Go.Vc

namespace Go.Vc
open Go Go.Proofs
variable {g : GG}
attribute [local simp] and_assoc
theorem law09_fall_meets (line : Int) : Meets (Tz g) f_law09_fall [int line] ⟨.d (⟨3, [line]⟩ : Nt).d, []⟩ := by
  refine meets_law09_fall ?_
  unfold vc_law09_fall
  simp [Nt.d, ints]
theorem in_fltL {f : Nat → Bool} {m k : Nat} : (k : Int) ∈ fltL f m ↔ k < m ∧ f k = true := by
  simp only [fltL, List.mem_map, List.mem_filter, List.mem_range]
  constructor
  · rintro ⟨n, ⟨h1, h2⟩, h3⟩
    have : n = k := by omega
    subst this
    exact ⟨h1, h2⟩
  · intro h
    exact ⟨k, h, rfl⟩
end Go.Vc
