/- A part of the proof: general laws of a reading of the model by abstract data, or contracts of the functions that the law calls. -/
import Derived.Lib.ItoaNum
import Derived.Lib.Join
import Derived.Lib.Strings
import Derived.Lib.Split
import Derived.Lib.SplitLaws
import Derived.Deep.Draws
import Derived.Sort.Grow
import Derived.Test.YtonajancjagefaaGreatVc21
set_option maxRecDepth 100000
namespace Go.Vc
open Go Go.RowKit
section
variable {C : Ctx}
end
end Go.Vc

namespace Go.Vc
open Go Go.RowKit
def D.eqB : D → D → Bool
  | .num k n, .num k' n' => decide (k = k') && decide (n = n')
  | .bool a, .bool b => a == b
  | .str a, .str b => decide (a = b)
  | .list a, .list b => eqL a b
  | .agg a, .agg b => eqL a b
  | .nili, .nili => true
  | .nilf, .nilf => true
  | _, _ => false
  where eqL : List D → List D → Bool
  | [], [] => true
  | a :: r, b :: s => D.eqB a b && eqL r s
  | _, _ => false
theorem D.eqB_eq : ∀ {a b : D}, D.eqB a b = true → a = b
  | .num k n, b, h => by
    cases b <;> simp only [D.eqB, Bool.and_eq_true, decide_eq_true_eq] at h <;> try (cases h; done)
    rw [h.1, h.2]
  | .bool x, b, h => by
    cases b <;> simp only [D.eqB] at h <;> try (cases h; done)
    rw [eq_of_beq h]
  | .str x, b, h => by
    cases b <;> simp only [D.eqB, decide_eq_true_eq] at h <;> try (cases h; done)
    rw [h]
  | .list x, b, h => by
    cases b <;> simp only [D.eqB] at h <;> try (cases h; done)
    rw [go h]
  | .agg x, b, h => by
    cases b <;> simp only [D.eqB] at h <;> try (cases h; done)
    rw [go h]
  | .nili, b, h => by cases b <;> simp only [D.eqB] at h <;> first | rfl | cases h
  | .nilf, b, h => by cases b <;> simp only [D.eqB] at h <;> first | rfl | cases h
  | .fn _ _ _, b, h => by simp [D.eqB] at h
  | .cp _, b, h => by simp [D.eqB] at h
  | .iface _ _, b, h => by simp [D.eqB] at h
  where go : ∀ {a b : List D}, D.eqB.eqL a b = true → a = b
  | [], b, h => by cases b <;> simp only [D.eqB.eqL] at h <;> first | rfl | cases h
  | x :: r, b, h => by
    cases b with
    | nil => simp [D.eqB.eqL] at h
    | cons y s =>
      simp only [D.eqB.eqL, Bool.and_eq_true] at h
      rw [D.eqB_eq h.1, go h.2]
def argsB : List AV → List D → Bool
  | [], [] => true
  | .d x :: r, y :: s => D.eqB x y && argsB r s
  | _, _ => false
theorem argsB_eq : ∀ {a : List AV} {b : List D}, argsB a b = true → a = b.map .d
  | [], [], _ => rfl
  | [], _ :: _, h => by simp [argsB] at h
  | x :: r, b, h => by
    cases b with
    | nil => cases x <;> simp [argsB] at h
    | cons y s =>
      cases x <;> simp only [argsB, Bool.and_eq_true] at h <;> try (cases h; done)
      rw [D.eqB_eq h.1, argsB_eq h.2]; rfl
def oneX (ds : List D) (res : Out × List PB) (args : List AV) : Option (Out × List PB) := match argsB args ds with
  | true => some res
  | false => none
theorem oneX_ok {C : Ctx} {f : FuncId} {ds : List D} {out0 : Out} {post0 : List PB} (h : MeetsH C f [] (ds.map .d) out0 post0) (args : List AV) (out : Out) (post : List PB) (he : oneX ds (out0, post0) args = some (out, post)) : MeetsH C f [] args out post := by
  unfold oneX at he
  split at he
  · rename_i hb
    injection he with he
    injection he with h1 h2
    subst h1; subst h2
    rw [argsB_eq hb]; exact h
  · cases he
end Go.Vc
