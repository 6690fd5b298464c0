/- A part of the proof: general laws of a reading of the model by abstract data, or contracts of the functions that the law calls. -/
import Derived.Test.YtgioiehcfpdmjaaGreatDoorVc23
import Derived.Test.YtgioiehcfpdmjaaGreatDoorVc11
import Derived.Test.YtgioiehcfpdmjaaGreatDoorVc38
import Derived.Test.YtgioiehcfpdmjaaGreatDoorVc22
import Derived.Test.YtgioiehcfpdmjaaGreatDoorVc40
set_option maxRecDepth 100000
namespace Go.Vc
open Go Go.Proofs Go.RowKit
def ann_proof_Check : Nat → List Nat := fun n => match n with  | _ => []
def vc_proof_Check (P : Ctx) (pre : List ABlk) (a0 : AV) (r : AV) (post : List PB) : Prop :=
  let h0 : Heap := numbered 0 pre
  BOX T_api_ProofPage a0 24 h0 fun v1 h1 =>
  LOAD true 3 v1 h1 fun v3 =>
  CALL P f_proof_isPage [v3] 48 h1 (fun _ v4 h2 =>
  NOT v4 fun v5 =>
  COND v5
  (POST (.d (.num .i64 2)) h2 pre r post)
  (POST (.d (.num .i64 0)) h2 pre r post))
  (fun _ _ _ => False)
theorem vc_proof_Check_eq (g : GG) (pre : List ABlk) (a0 : AV) (r : AV) (post : List PB) : vcFn2 (Tz g) false ann_proof_Check Tryz.f36 pre [a0] (.ret r) post = vc_proof_Check (Tz g) pre a0 r post := by kernel_rfl
theorem hf_proof_Check : Tryz.prog.funcs[f_proof_Check]? = some Tryz.f36 := by kernel_rfl
theorem ok_proof_Check : fnVcOK Tryz.prog Tryz.f36 = true := by kernel_rfl
theorem nt_proof_Check : Nat.ble 1 Tryz.f36.ntmps = true := by kernel_rfl
theorem meetsH_proof_Check {g : GG} {pre : List ABlk} {a0 : AV} {r : AV} {post : List PB} (hk : Nat.ble pre.length 24 = true) (h : vc_proof_Check (Tz g) pre a0 r post) : MeetsH (Tz g) f_proof_Check pre [a0] (.ret r) post :=
  meetsH_of_vc (C := Tz g) ann_proof_Check hf_proof_Check ok_proof_Check nt_proof_Check hk (pn := false) (Eq.mpr ((vcFn2_eq _ _ _ _ _ _ _ _).trans (vc_proof_Check_eq g pre a0 r post)) h)
theorem meets_proof_Check {g : GG} {a0 : D} {r : Res} (h : vc_proof_Check (Tz g) [] (.d a0) r.val (r.bl.map .upd)) : Meets (Tz g) f_proof_Check [a0] r := meetsH_proof_Check rfl h
end Go.Vc

namespace Go.Vc
open Go Go.Proofs Go.RowKit
variable {g : GG}
attribute [local simp] and_assoc
end Go.Vc

namespace Go.Vc
open Go Go.Proofs
variable {g : GG}
attribute [local simp] and_assoc
end Go.Vc
