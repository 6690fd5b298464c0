/- A part of the proof: general laws of a reading of the model by abstract data, or contracts of the functions that the law calls. -/
import Derived.Test.YtjdgidaoknlnlaaGreatDoorVc23
import Derived.Test.YtjdgidaoknlnlaaGreatDoorVc11
import Derived.Test.YtjdgidaoknlnlaaGreatDoorVc38
import Derived.Test.YtjdgidaoknlnlaaGreatDoorVc22
import Derived.Test.YtjdgidaoknlnlaaGreatDoorVc40
set_option maxRecDepth 100000
namespace Go.Vc
open Go Go.Proofs Go.RowKit
def ann_ref09_Rights : Nat → List Nat := fun n => match n with | 3 => [1, 3, 4] | _ => []
def vc_ref09_Rights_k0 (P : Ctx) (pre : List ABlk) (r : AV) (post : List PB) (vs0 : List AV) (h1 : Heap) (next16 : List AV → Heap → Prop) : Prop :=
  FADDR 1 (nth vs0 0) h1 fun v2 =>
  LOAD false 1 v2 h1 fun v3 =>
  LEN false v3 h1 fun v4 =>
  BIN 0 .lss (nth vs0 2) v4 fun v5 =>
  COND v5
  (FADDR 1 (nth vs0 0) h1 fun v6 =>
  LOAD false 1 v6 h1 fun v7 =>
  IADDR 3 T_api_ProofLine v7 (nth vs0 2) h1 fun v8 =>
  FADDR 1 v8 h1 fun v9 =>
  LOAD false 1 v9 h1 fun v10 =>
  MKS T_int 1 [v10] 160 h1 fun v11 h12 =>
  APP T_int 1 (nth vs0 1) v11 168 h12 fun v13 h14 =>
  BIN 0 .add (nth vs0 2) (.d (.num .i64 1)) fun v15 =>
  next16 [(nth vs0 0), v13, v15] h14)
  (POST (nth vs0 1) h1 pre r post)
def vc_ref09_Rights (P : Ctx) (pre : List ABlk) (a0 : AV) (r : AV) (post : List PB) : Prop :=
  let h0 : Heap := numbered 0 pre
  BOX T_api_ProofPage a0 24 h0 fun v1 h1 =>
  LOOP [v1, .zc, (.d (.num .i64 0))] h1 56 fun vs2 h3 next2 =>
  vc_ref09_Rights_k0 P pre r post vs2 h3 next2
theorem vc_ref09_Rights_eq (g : GG) (pre : List ABlk) (a0 : AV) (r : AV) (post : List PB) : vcFn2 (Tz g) false ann_ref09_Rights Tryz.f22 pre [a0] (.ret r) post = vc_ref09_Rights (Tz g) pre a0 r post := by kernel_rfl
theorem hf_ref09_Rights : Tryz.prog.funcs[f_ref09_Rights]? = some Tryz.f22 := by kernel_rfl
theorem ok_ref09_Rights : fnVcOK Tryz.prog Tryz.f22 = true := by kernel_rfl
theorem nt_ref09_Rights : Nat.ble 1 Tryz.f22.ntmps = true := by kernel_rfl
theorem meetsH_ref09_Rights {g : GG} {pre : List ABlk} {a0 : AV} {r : AV} {post : List PB} (hk : Nat.ble pre.length 24 = true) (h : vc_ref09_Rights (Tz g) pre a0 r post) : MeetsH (Tz g) f_ref09_Rights pre [a0] (.ret r) post :=
  meetsH_of_vc (C := Tz g) ann_ref09_Rights hf_ref09_Rights ok_ref09_Rights nt_ref09_Rights hk (pn := false) (Eq.mpr ((vcFn2_eq _ _ _ _ _ _ _ _).trans (vc_ref09_Rights_eq g pre a0 r post)) h)
theorem meets_ref09_Rights {g : GG} {a0 : D} {r : Res} (h : vc_ref09_Rights (Tz g) [] (.d a0) r.val (r.bl.map .upd)) : Meets (Tz g) f_ref09_Rights [a0] r := meetsH_ref09_Rights rfl h
end Go.Vc

namespace Go.Vc
open Go Go.Proofs Go.RowKit
variable {g : GG}
attribute [local simp] and_assoc
abbrev GoB := Cal → List ABlk → List AV → Option (Out × List PB)
abbrev dm0 : FuncId → Nat := fun _ => 0
open Classical in
noncomputable def onB (f : FuncId) (pre : List ABlk) (args : List AV) (out : Out) (post : List PB) : GoB := fun c p a => if c = .fnc f ∧ p = pre ∧ a = args then some (out, post) else none
theorem onB_at (f : FuncId) (pre : List ABlk) (args : List AV) (out : Out) (post : List PB) : onB f pre args out post (.fnc f) pre args = some (out, post) := if_pos ⟨rfl, rfl, rfl⟩
theorem onB_ok {C : Ctx} {f : FuncId} {pre : List ABlk} {args : List AV} {out : Out} {post : List PB} (h : MeetsH C f pre args out post) : OrcOK C (dm0, onB f pre args out post) := by
  intro cal p a o q ha
  simp only [onB] at ha
  split at ha
  · rename_i e
    obtain ⟨rfl, rfl, rfl⟩ := e
    simp only [Option.some.injEq, Prod.mk.injEq] at ha
    obtain ⟨rfl, rfl⟩ := ha
    exact h
  · cases ha
end Go.Vc

namespace Go.Vc
open Go Go.Proofs
variable {g : GG}
attribute [local simp] and_assoc
end Go.Vc
