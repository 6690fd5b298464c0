/- A part of the proof: general laws of a reading of the model by abstract data, or contracts of the functions that the law calls. -/
import Derived.Test.YtflbianfhogdjaaGreatDoorVc35
set_option maxRecDepth 100000
namespace Go.Vc
open Go Go.Proofs
theorem val_widths : ∀ (l : List Sp) (row k : Nat), valL (l.map Sp.high) row k - valL (l.map Sp.low) row k = sumL (widths l row k)
  | [], _, _ => rfl
  | s :: r, row, k => by
    have := val_widths r row (k + 1)
    simp only [List.map_cons, valL, widths, sumL, Int.sub_mul]
    omega
end Go.Vc
