/- A part of the proof: general laws of a reading of the model by abstract data, or contracts of the functions that the law calls. -/
import Derived.Test.YtkefjhemmdolaaaGreatVc28
set_option maxRecDepth 100000
namespace Go.Vc
open Go Go.Proofs
variable {g : GG}
theorem idx_any {α : Type} (q : α → Bool) : ∀ (l : List α) (i : Int), 0 ≤ i → decide (0 ≤ idx q l i) = l.any q := by
  intro l
  induction l with
  | nil => intro i hi; simp [idx]
  | cons x r ih =>
    intro i hi
    simp only [idx, List.any_cons]
    by_cases hq : q x = true
    · simp [hq, hi]
    · have := ih (i + 1) (by omega)
      simp [hq]
      simpa using this
theorem contains_Span_meets (l : List Sp) (f : FuncId) (q : Sp → Bool) (hf : ∀ s, Meets (Tz g) f [s.d] ⟨.d (.bool (q s)), []⟩) (hl : l.length ≤ 1000) : Meets (Tz g) f_slices_ContainsFunc_l_api_Span_api_Span [spans l, .fn f [] []] ⟨.d (.bool (l.any q)), []⟩ := by
  refine meets_slices_ContainsFunc_l_api_Span_api_Span ?_
  unfold vc_slices_ContainsFunc_l_api_Span_api_Span
  refine CALL.val _ _ rfl (index_Span_meets l f q hf hl) (.inl rfl) ?_
  simp [← idx_any q l 0 (by omega)]
def Plan.ok (p : Plan) : Bool := inB p.starts.length 1 4 && (inB p.rows 1 12 && (inB p.guard 0 3 && !p.starts.any fun s => !startB s))
theorem clone_ints_meets (l : List Int) (hl : l.length ≤ 1000) : Meets (Tz g) f_slices_Clone_l_int_int [ints l] ⟨.own 0 0, [⟨0, T_int, .lst (l.map int)⟩]⟩ := by
  refine meets_slices_Clone_l_int_int ?_
  unfold vc_slices_Clone_l_int_int
  cases l with
  | nil => simp [ints]
  | cons n r =>
    simp at hl
    simp [ints]
    omega
end Go.Vc

namespace Go.Vc
open Go Go.Proofs
variable {g : GG}
end Go.Vc

namespace Go.Vc
open Go Go.Proofs
variable {g : GG}
end Go.Vc

namespace Go.Vc
open Go Go.Proofs
variable {g : GG}
end Go.Vc

namespace Go.Vc
open Go Go.Proofs
variable {g : GG}
end Go.Vc

namespace Go.Vc
open Go Go.Proofs
variable {g : GG}
end Go.Vc

namespace Go.Vc
open Go Go.Proofs
variable {g : GG}
end Go.Vc

namespace Go.Vc
open Go Go.Proofs
def ch : Nat → Nat → Nat
  | _, 0 => 1
  | 0, _ + 1 => 0
  | n + 1, k + 1 => ch n k + ch n (k + 1)
end Go.Vc
