/- A part of the proof: general laws of a reading of the model by abstract data, or contracts of the functions that the law calls. -/
import Derived.Test.YtaacglfaheijaaaGreatDoorVc29
import Derived.Test.YtaacglfaheijaaaGreatDoorVc31
set_option maxRecDepth 100000
namespace Go.Vc
open Go Go.Proofs
variable {g : GG}
attribute [local simp] and_assoc
abbrev Keys := List ((Int × Int) × Nat)
structure Ps where
  now : List Int
  setters : List Int
  keys : Keys
  ck : Nat
  changed : List Int
  missed : List (Int × Int)
def missD (m : Int × Int) : D := .agg [int m.1, int m.2]
@[simp] theorem missD_cells (m : Int × Int) : (missD m).cells = [int m.1, int m.2] := rfl
end Go.Vc

namespace Go.Vc
open Go Go.Proofs
variable {g : GG}
attribute [local simp] and_assoc
structure PsOK (p : Pg) (s : Ps) : Prop where
  now : s.now.length = p.lines.length
  setters : s.setters.length = p.lines.length
  changed : s.changed.length = p.lines.length
  num : ∀ n, n ∈ s.now → -999 ≤ n ∧ n ≤ 999
  len : p.lines.length ≤ 6
end Go.Vc

namespace Go.Vc
open Go Go.Proofs
variable {g : GG}
attribute [local simp] and_assoc
end Go.Vc
