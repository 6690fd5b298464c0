/- A part of the proof: general laws of a reading of the model by abstract data, or contracts of the functions that the law calls. -/
import Derived.Lib.ItoaNum
import Derived.Lib.Join
import Derived.Lib.Strings
import Derived.Lib.Split
import Derived.Lib.SplitLaws
import Derived.Deep.Draws
import Derived.Sort.Grow
import Derived.Test.YtkefjhemmdolaaaGreatVc17
set_option maxRecDepth 100000
namespace Go.Vc
open Go Go.RowKit
section
variable {C : Ctx}
theorem start_none {E : Env} (hst : StartOK C [] E) (i : Nat) : E.H i = none := by rw [hst.H]; simp
theorem start_top {E : Env} (hst : StartOK C [] E) (i : Nat) : E.top i = none := by
  cases h : E.top i with
  | none => rfl
  | some t => exact absurd (hst.top i t h) (by simp)
theorem meets_pure {f : FuncId} (hok : fnOK C.prog f = true) {args : List AV} {v : AV} (h : ∀ (E : Env) (us : List Value), StartOK C [] E → relL E args us → Calls C.prog f us.toArray E.w fun e w' => Below E.w.heap.size E.w w' ∧ ∃ u, e = .returned u ∧ ∀ E', VRel E' v u) : MeetsH C f [] args (.ret v) [] := by
  refine ⟨hok, fun E us hst hr => ?_⟩
  refine (callsIn_wide (n := 0)).1 (CallsIn.mono ((callsIn_wide (n := 0)).2 (h E us hst hr)) (fun e w' ⟨hb, u, he, hv⟩ => ?_))
  subst he
  have hlt : ∀ b, b < E.w.heap.size → w'.heap[b]? = E.w.heap[b]? := hb.block
  have hS : ∀ b, E.S b → b < E.w.heap.size := fun b hb => (hst.hr.st b hb).1
  refine ⟨{ E with w := w' }, rfl, ⟨⟨⟨rfl, fun _ h => h, fun b hb => hlt b (hS b hb), fun id t h => ⟨t, h, Nat.le_refl _⟩, fun id t b' _ hb' _ => ?_⟩, hb.os, hb.tape, hb.output, hb.size, fun b hb _ => hlt b hb, fun b hb => .inl hb, fun b hb => .inl hb⟩, ⟨fun b hb' => ?_, fun id b hb' => ?_, fun i j g hi _ _ _ => absurd (start_none hst i) hi⟩, fun i => ?_, fun id t ht => ?_⟩, hv _⟩
  · have := start_none hst id
    rw [show E.H id = some b' from hb'] at this
    cases this
  · exact ⟨Nat.lt_of_lt_of_le (hS b hb') hb.size, fun id hid => absurd (start_none hst id) hid⟩
  · have := start_none hst id
    rw [show E.H id = some b from hb'] at this
    cases this
  · show E.H i = _
    rw [start_none hst]; simp [postH]
  · have : E.top id = some t := ht
    rw [start_top hst] at this
    cases this
theorem rel2 {E : Env} {a b : AV} {us : List Value} (h : relL E [a, b] us) : ∃ u v, us = [u, v] ∧ VRel E a u ∧ VRel E b v := by
  obtain ⟨hl, hv⟩ := h
  match us, hl with
  | [u, v], _ => exact ⟨u, v, rfl, hv 0 a u rfl rfl, hv 1 b v rfl rfl⟩
end
end Go.Vc

namespace Go.Vc
open Go Go.RowKit
def D.eqB : D → D → Bool
  | .num k n, .num k' n' => decide (k = k') && decide (n = n')
  | .bool a, .bool b => a == b
  | .str a, .str b => decide (a = b)
  | .list a, .list b => eqL a b
  | .agg a, .agg b => eqL a b
  | .nili, .nili => true
  | .nilf, .nilf => true
  | _, _ => false
  where eqL : List D → List D → Bool
  | [], [] => true
  | a :: r, b :: s => D.eqB a b && eqL r s
  | _, _ => false
theorem D.eqB_eq : ∀ {a b : D}, D.eqB a b = true → a = b
  | .num k n, b, h => by
    cases b <;> simp only [D.eqB, Bool.and_eq_true, decide_eq_true_eq] at h <;> try (cases h; done)
    rw [h.1, h.2]
  | .bool x, b, h => by
    cases b <;> simp only [D.eqB] at h <;> try (cases h; done)
    rw [eq_of_beq h]
  | .str x, b, h => by
    cases b <;> simp only [D.eqB, decide_eq_true_eq] at h <;> try (cases h; done)
    rw [h]
  | .list x, b, h => by
    cases b <;> simp only [D.eqB] at h <;> try (cases h; done)
    rw [go h]
  | .agg x, b, h => by
    cases b <;> simp only [D.eqB] at h <;> try (cases h; done)
    rw [go h]
  | .nili, b, h => by cases b <;> simp only [D.eqB] at h <;> first | rfl | cases h
  | .nilf, b, h => by cases b <;> simp only [D.eqB] at h <;> first | rfl | cases h
  | .fn _ _ _, b, h => by simp [D.eqB] at h
  | .cp _, b, h => by simp [D.eqB] at h
  | .iface _ _, b, h => by simp [D.eqB] at h
  where go : ∀ {a b : List D}, D.eqB.eqL a b = true → a = b
  | [], b, h => by cases b <;> simp only [D.eqB.eqL] at h <;> first | rfl | cases h
  | x :: r, b, h => by
    cases b with
    | nil => simp [D.eqB.eqL] at h
    | cons y s =>
      simp only [D.eqB.eqL, Bool.and_eq_true] at h
      rw [D.eqB_eq h.1, go h.2]
def argsB : List AV → List D → Bool
  | [], [] => true
  | .d x :: r, y :: s => D.eqB x y && argsB r s
  | _, _ => false
theorem argsB_eq : ∀ {a : List AV} {b : List D}, argsB a b = true → a = b.map .d
  | [], [], _ => rfl
  | [], _ :: _, h => by simp [argsB] at h
  | x :: r, b, h => by
    cases b with
    | nil => cases x <;> simp [argsB] at h
    | cons y s =>
      cases x <;> simp only [argsB, Bool.and_eq_true] at h <;> try (cases h; done)
      rw [D.eqB_eq h.1, argsB_eq h.2]; rfl
def oneX (ds : List D) (res : Out × List PB) (args : List AV) : Option (Out × List PB) := match argsB args ds with
  | true => some res
  | false => none
theorem oneX_ok {C : Ctx} {f : FuncId} {ds : List D} {out0 : Out} {post0 : List PB} (h : MeetsH C f [] (ds.map .d) out0 post0) (args : List AV) (out : Out) (post : List PB) (he : oneX ds (out0, post0) args = some (out, post)) : MeetsH C f [] args out post := by
  unfold oneX at he
  split at he
  · rename_i hb
    injection he with he
    injection he with h1 h2
    subst h1; subst h2
    rw [argsB_eq hb]; exact h
  · cases he
end Go.Vc
