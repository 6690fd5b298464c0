/- A part of the proof: general laws of a reading of the model by abstract data, or contracts of the functions that the law calls. -/
import Derived.Test.YtonajancjagefaaGreatVc29
import Derived.Test.YtonajancjagefaaGreatVc15
import Derived.Test.YtonajancjagefaaGreatVc42
import Derived.Test.YtonajancjagefaaGreatVc28
import Derived.Test.YtonajancjagefaaGreatVc26
set_option maxRecDepth 100000
namespace Go.Vc
open Go Go.Proofs Go.RowKit
end Go.Vc

namespace Go.Vc
open Go Go.Proofs Go.RowKit
variable {g : GG}
attribute [local simp] and_assoc
abbrev GoB := Cal → List ABlk → List AV → Option (Out × List PB)
abbrev dm0 : FuncId → Nat := fun _ => 0
open Classical in
noncomputable def onB (f : FuncId) (pre : List ABlk) (args : List AV) (out : Out) (post : List PB) : GoB := fun c p a => if c = .fnc f ∧ p = pre ∧ a = args then some (out, post) else none
theorem onB_at (f : FuncId) (pre : List ABlk) (args : List AV) (out : Out) (post : List PB) : onB f pre args out post (.fnc f) pre args = some (out, post) := if_pos ⟨rfl, rfl, rfl⟩
theorem onB_ok {C : Ctx} {f : FuncId} {pre : List ABlk} {args : List AV} {out : Out} {post : List PB} (h : MeetsH C f pre args out post) : OrcOK C (dm0, onB f pre args out post) := by
  intro cal p a o q ha
  simp only [onB] at ha
  split at ha
  · rename_i e
    obtain ⟨rfl, rfl, rfl⟩ := e
    simp only [Option.some.injEq, Prod.mk.injEq] at ha
    obtain ⟨rfl, rfl⟩ := ha
    exact h
  · cases ha
end Go.Vc
