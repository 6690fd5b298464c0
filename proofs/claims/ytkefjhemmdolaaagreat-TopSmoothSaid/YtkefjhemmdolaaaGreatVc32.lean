/- A part of the proof: general laws of a reading of the model by abstract data, or contracts of the functions that the law calls. -/
import Derived.Test.YtkefjhemmdolaaaGreatVc18
set_option maxRecDepth 100000
namespace Go.Vc
open Go Go.RowKit
theorem MeetsH.frz {C : Ctx} {f : FuncId} {args : List AV} {T : TypeId} {xs : List D} (h : MeetsH C f [] args (.ret (.own 0 0)) [.upd ⟨0, T, .lst xs⟩]) : MeetsH C f [] args (.ret (.d (.list xs))) [] := by
  refine ⟨h.1, fun E us hst hr => ?_⟩
  refine Calls.mono (h.2 E us hst hr) (fun e w' hq => ?_)
  obtain ⟨E1, rfl, hf, ho⟩ := hq
  cases e with
  | panicked ch => cases ho
  | outgrown => cases ho
  | returned u =>
    have ho : VRel E1 (.own 0 0) u := ho
    have hH : E1.H 0 = some ⟨0, T, .lst xs⟩ := by rw [hf.H]; rfl
    have hB : BE E1 0 0 = some (T, .lst xs) := by unfold BE; rw [hH]; rfl
    let E2 : Env := { P := E1.P, top := fun _ => none, m := E1.m, H := fun _ => none, w := E1.w, S := fun b => E1.S b ∨ E1.m 0 = some b }
    have hgo : E.Go E2 := by
      have g := hf.go
      refine ⟨⟨g.step.P, fun b hb => .inl (g.step.S b hb), g.step.w, fun i t ht => ?_, fun i t b' ht => ?_⟩, g.os, g.tape, g.output, g.size, g.only, fun b hb => ?_, fun b hb => ?_⟩
      · rw [start_top hst] at ht; cases ht
      · rw [start_top hst] at ht; cases ht
      · obtain ⟨i, h1, _⟩ := hb
        exact absurd rfl h1
      · rcases hb with hb | hb
        · exact g.st b hb
        · exact .inr (g.own b ⟨0, by rw [hH]; simp, hb⟩)
    have hhr : HR C.N E2 := by
      refine ⟨fun b hb => ⟨?_, fun i hi => absurd rfl hi⟩, fun i b hb => ?_, fun i j g hi => absurd rfl hi⟩
      · rcases hb with hb | hb
        · exact (hf.hr.st b hb).1
        · obtain ⟨_, _, k3⟩ := hf.hr.blk 0 _ hH
          obtain ⟨_, o, k4, _⟩ := k3 b hb
          rcases Nat.lt_or_ge b E1.w.heap.size with h1 | h1
          · exact h1
          · rw [Array.getElem?_eq_none h1] at k4; cases k4
      · have hb : (none : Option ABlk) = some b := hb
        cases hb
    refine ⟨E2, rfl, ⟨hgo, hhr, fun i => ?_, fun i t ht => ?_⟩, ?_⟩
    · show none = postH [] [] i
      simp [postH]
    · have ht : (none : Option Nat) = some t := ht
      cases ht
    · show VRel E2 (.d (.list xs)) u
      exact .d _ _ (own_data hf.hr hB ho E2.S (fun b hb => .inl hb) (fun b hb => .inr hb))
theorem Meets.frz {C : Ctx} {f : FuncId} {ds : List D} {T : TypeId} {xs : List D} (h : Meets C f ds ⟨.own 0 0, [⟨0, T, .lst xs⟩]⟩) : Meets C f ds ⟨.d (.list xs), []⟩ := MeetsH.frz h
end Go.Vc
