/- A part of the proof: general laws of a reading of the model by abstract data, or contracts of the functions that the law calls. -/
import Derived.Test.YtgioiehcfpdmjaaGreatDoorVc45
import Derived.Test.YtgioiehcfpdmjaaGreatDoorVc41
import Derived.Test.YtgioiehcfpdmjaaGreatDoorVc44
set_option maxRecDepth 100000
namespace Go.Vc
open Go Go.Proofs Go.RowKit
variable {g : GG}
attribute [local simp] and_assoc
end Go.Vc

namespace Go.Vc
open Go Go.Proofs
variable {g : GG}
attribute [local simp] and_assoc
theorem nowL_at {p : Pg} (hok : p.ok = true) {k : Nat} (h : k < p.lines.length) : (nowL p)[k]? = some ((stN p p.log.length).now.getD k 0) := getD_some (by rw [nowL_len hok]; exact h)
theorem ref09_Now_meets (p : Pg) (hok : p.ok = true) : Meets (Tz g) f_ref09_Now [p.d] ⟨.d (ints (nowL p)), []⟩ := by
  obtain ⟨a1, a2, a3, a4, a5, _⟩ := Pg.ok_len hok
  have hnl := nowL_len hok
  refine meets_ref09_Now ?_
  unfold vc_ref09_Now
  simp [Pg.d, lns, ents]
  refine LOOP.mk Nat (fun k => [.ptr 24 0 0 0, .own 56 k, .d (int k)]) (fun k => [(56, some ⟨k, T_int, .lst (((nowL p).map int).take k)⟩), (24, some ⟨0, T_api_ProofPage, .box [.d (int p.people), .d (.list (p.lines.map Ln.d)), .d (.list (p.log.map Nt.d))]⟩)])
    (fun k => k ≤ p.lines.length) (fun k => p.lines.length - k) [(1, T_int)] (by simp) 0 (by omega) (by simp [WEAK, lookH]) (fun _ _ => rfl) ?_
  intro k hk
  have hw := wrap_id (n := (k : Int) + 1) (by omega) (by omega)
  simp [vc_ref09_Now_k0]
  constructor
  · intro hlt
    have hN := ref09_Number_meets (g := g) p k hok hlt p.log.length (Nat.le_refl _)
    have hr : ((nowL p).map int)[k]? = some (int ((stN p p.log.length).now.getD k 0)) := by rw [List.getElem?_map, nowL_at hok hlt]; rfl
    have ht := take_next hr
    generalize (stN p p.log.length).now.getD k 0 = x at hN ht
    refine CALL.val [p.d, int k, int p.log.length] _ rfl hN (.inl rfl) ?_
    simp [hw]
    refine ⟨by omega, k + 1, by omega, ?_, by omega⟩
    simp [WEAK, lookH, ht]
  · intro hge
    have : k = p.lines.length := by omega
    subst this
    have ht : ((nowL p).map int).take p.lines.length = (nowL p).map int := take_all (by simp [hnl])
    rw [ht]
    simp [ints]
end Go.Vc
