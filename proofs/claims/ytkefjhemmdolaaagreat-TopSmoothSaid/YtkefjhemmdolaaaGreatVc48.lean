/- A part of the proof: general laws of a reading of the model by abstract data, or contracts of the functions that the law calls. -/
import Derived.Test.YtkefjhemmdolaaaGreatVc47
import Derived.Test.YtkefjhemmdolaaaGreatVc29
import Derived.Test.YtkefjhemmdolaaaGreatVc30
import Derived.Test.YtkefjhemmdolaaaGreatVc22
import Derived.Test.YtkefjhemmdolaaaGreatVc21
set_option maxRecDepth 100000
namespace Go.Vc
open Go Go.Proofs Go.RowKit
variable {g : GG}
attribute [local simp] and_assoc
theorem Doubts_meets (t : Tb) (k : List Int) (hok : t.ok = true) (hK : KeptOK t.vals.length k) : Meets (Tz g) f_step_Doubts [t.d, ints k] ⟨.tup [.d (ints (dbL t k t.vals.length)), .d (int 0)], []⟩ := by
  obtain ⟨f1, f2, f3, f4⟩ := Tb.ok_facts hok
  refine meets_step_Doubts ?_
  unfold vc_step_Doubts
  simp [Tb.d, lookH]
  refine CALL.val [t.d] _ rfl (isTable_meets t hok) (.inl rfl) ?_
  simp [lookH]
  refine CALL.val [t.d, ints k] _ rfl (isKept_meets t k (by omega) hK) (.inl rfl) ?_
  simp [vc_step_Doubts_k0, lookH]
  refine CALL.mk [t.d, ints k] _ rfl (tableOf_meets t k) (.inl rfl) (by simp) ?_
  simp [tA, M0, AV.ren, AV.ren.renL, rho, lookH, spans, upsP, ABlk.ren, Body.ren]
  refine CALL.tab (ds := []) (doubts_meets t k hok hK) rfl ?_
  simp
end Go.Vc

namespace Go.Vc
open Go Go.Proofs Go.RowKit
variable {g : GG}
attribute [local simp] and_assoc
abbrev GoB := Cal → List ABlk → List AV → Option (Out × List PB)
abbrev dm0 : FuncId → Nat := fun _ => 0
open Classical in
noncomputable def onB (f : FuncId) (pre : List ABlk) (args : List AV) (out : Out) (post : List PB) : GoB := fun c p a => if c = .fnc f ∧ p = pre ∧ a = args then some (out, post) else none
theorem onB_at (f : FuncId) (pre : List ABlk) (args : List AV) (out : Out) (post : List PB) : onB f pre args out post (.fnc f) pre args = some (out, post) := if_pos ⟨rfl, rfl, rfl⟩
theorem onB_ok {C : Ctx} {f : FuncId} {pre : List ABlk} {args : List AV} {out : Out} {post : List PB} (h : MeetsH C f pre args out post) : OrcOK C (dm0, onB f pre args out post) := by
  intro cal p a o q ha
  simp only [onB] at ha
  split at ha
  · rename_i e
    obtain ⟨rfl, rfl, rfl⟩ := e
    simp only [Option.some.injEq, Prod.mk.injEq] at ha
    obtain ⟨rfl, rfl⟩ := ha
    exact h
  · cases ha
abbrev tX (v r o k : D) : AV := .agg [.d v, .d r, .d o, .d k, .mapv 0]
abbrev cloS (v r o k : D) : AV := .fn f_step_table_mustBeSure [tX v r o k] []
noncomputable abbrev runS (go : GoB) (v r o k : D) := evTab Tryz.prog tab (dm0, go) 100 f_step_attempt [⟨0, 0, .mp [] 0⟩] [cloS v r o k]
def wrongD (row : Int) : D := .iface T_step_wrong (.agg [int row])
theorem att_goS (go : GoB) (v r o k : D) : runS go v r o k = runS (fun _ _ _ => go (.fnc f_step_table_mustBeSure) [⟨0, 0, .mp [] 0⟩] [tX v r o k]) v r o k := by kernel_rfl
theorem att_retS (v r o k : D) : runS (fun _ _ _ => some (.ret (.tup []), [.same])) v r o k = some (.ret (.d (int 0)), [.upd ⟨0, 0, .mp [] 0⟩]) := by kernel_rfl
theorem att_panS (v r o k : D) (row : Int) : runS (fun _ _ _ => some (.pan (.d (wrongD row)), [.same])) v r o k = some (.ret (.d (int 7)), [.upd ⟨0, 0, .mp [] 0⟩]) := by kernel_rfl
end Go.Vc
