/- A part of the proof: general laws of a reading of the model by abstract data, or contracts of the functions that the law calls. -/
import Derived.Test.YtonajancjagefaaGreatVc30
set_option maxRecDepth 100000
namespace Go.Vc
open Go Go.Proofs Go.RowKit
variable {g : GG}
def ext : Ext := [(79, cloneX 3 1)]
def dm2 : FuncId → Nat := fun f => match List.contains [19, 15, 17] f with | true => 2 | false => dm f
theorem ext_ok : ExtOK (Tz g) ext := ⟨clone_int_X, trivial⟩
abbrev i64 (n : Int) : D := .num .i64 n
abbrev li (l : List Int) : D := .list (l.map i64)
def stA : D := .agg [.list [.agg [i64 0, i64 0], .agg [i64 10, i64 10], .agg [i64 40, i64 40], .agg [i64 90, i64 91], .agg [i64 160, i64 160], .agg [i64 250, i64 250], .agg [i64 360, i64 360]], i64 3, i64 10]
def linB : D := .list [.agg [i64 0, i64 123, i64 132], .agg [i64 1, i64 45, i64 45], .agg [i64 0, i64 (-7), i64 7]]
def pgB : D := .agg [i64 4, linB, .list [.agg [i64 1, li [1, 2, 0, 2]], .agg [i64 2, li [2, 0, 123]], .agg [i64 1, li [0, 3, 0, 1]]]]
noncomputable abbrev EV (f : FuncId) (args : List D) := (evFn Tryz.prog tab ext dm2 1000 20).2 (.fnc f) [] (args.map .d)
end Go.Vc
