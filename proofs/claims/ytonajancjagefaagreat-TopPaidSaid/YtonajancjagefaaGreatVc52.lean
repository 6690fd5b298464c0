/- A part of the proof: general laws of a reading of the model by abstract data, or contracts of the functions that the law calls. -/
import Derived.Test.YtonajancjagefaaGreatVc31
import Derived.Test.YtonajancjagefaaGreatVc22
import Derived.Test.YtonajancjagefaaGreatVc51
set_option maxRecDepth 100000
namespace Go.Vc
open Go Go.Proofs Go.RowKit
variable {g : GG}
def o_step_Fewest : Out := (.ret (.tup [(.d (.list [(.num .i64 0), (.num .i64 2), (.num .i64 4), (.num .i64 6)])), (.d (.num .i64 0))]))
theorem run_step_Fewest : EV 15 [stA] = some (o_step_Fewest, []) := by kernel_rfl
theorem clo_step_Fewest : MeetsH (Tz g) 15 [] (List.map .d [stA]) o_step_Fewest [] := ev_ok (C := Tz g) rfl tab_ok ext_ok dm2 1000 20 (.fnc 15) [] _ _ _ run_step_Fewest
def o_proof_Pass : Out := (.ret (.tup [(.d (.bool true)), (.d (.num .i64 0))]))
theorem run_proof_Pass : EV 19 [pgB] = some (o_proof_Pass, []) := by kernel_rfl
theorem clo_proof_Pass : MeetsH (Tz g) 19 [] (List.map .d [pgB]) o_proof_Pass [] := ev_ok (C := Tz g) rfl tab_ok ext_ok dm2 1000 20 (.fnc 19) [] _ _ _ run_proof_Pass
def o_copies_Fewest : Out := (.ret (.tup [(.d (.num .i64 2)), (.d (.num .i64 0))]))
theorem clo_copies_Fewest : MeetsH (Tz g) 17 [] (List.map .d [treA]) o_copies_Fewest [] := cFewest_meets
def extK : Ext := [(15, oneX [stA] (o_step_Fewest, [])), (17, oneX [treA] (o_copies_Fewest, [])), (19, oneX [pgB] (o_proof_Pass, []))]
theorem extK_ok : ExtOK (Tz g) extK := ⟨oneX_ok clo_step_Fewest, oneX_ok clo_copies_Fewest, oneX_ok clo_proof_Pass, trivial⟩
theorem known_run : (evFn Tryz.prog tab extK dm2 1000 20).2 (.fnc 5) [] [] = some (.ret (.d (.bool true)), []) := by kernel_rfl
theorem known_meets : MeetsH (Tz g) 5 [] [] (.ret (.d (.bool true))) [] :=
  ev_ok (C := Tz g) rfl tab_ok extK_ok dm2 1000 20 (.fnc 5) [] [] _ _ known_run
end Go.Vc
