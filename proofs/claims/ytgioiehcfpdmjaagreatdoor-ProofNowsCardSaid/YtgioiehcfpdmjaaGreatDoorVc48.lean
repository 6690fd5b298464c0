/- A part of the proof: general laws of a reading of the model by abstract data, or contracts of the functions that the law calls. -/
import Derived.Test.YtgioiehcfpdmjaaGreatDoorVc46
set_option maxRecDepth 100000
namespace Go.Vc
open Go Go.Proofs
variable {g : GG}
attribute [local simp] and_assoc
theorem settersL_at {p : Pg} (hok : p.ok = true) {k : Nat} (h : k < p.lines.length) : (settersL p)[k]? = some ((stN p p.log.length).setters.getD k 0) := getD_some (by rw [settersL_len hok]; exact h)
theorem proof_Check_meets2 (p : Pg) (h1 : p.lines.length ≤ 8) (h2 : p.log.length ≤ 12) : Meets (Tz g) f_proof_Check [p.d] ⟨.d (int (match p.ok with | true => 0 | false => 2)), []⟩ := by
  refine meets_proof_Check ?_
  unfold vc_proof_Check
  simp [Pg.d, lns, ents]
  refine CALL.val [p.d] _ rfl (proof_isPage_meets p (by omega) (by omega)) (.inl rfl) ?_
  cases p.ok <;> simp
theorem ref09_Setters_meets (p : Pg) (hok : p.ok = true) : Meets (Tz g) f_ref09_Setters [p.d] ⟨.d (ints (settersL p)), []⟩ := by
  obtain ⟨a1, a2, a3, a4, a5, _⟩ := Pg.ok_len hok
  have hnl := settersL_len hok
  refine meets_ref09_Setters ?_
  unfold vc_ref09_Setters
  simp [Pg.d, lns, ents]
  refine LOOP.mk Nat (fun k => [.ptr 24 0 0 0, .own 56 k, .d (int k)]) (fun k => [(56, some ⟨k, T_int, .lst (((settersL p).map int).take k)⟩), (24, some ⟨0, T_api_ProofPage, .box [.d (int p.people), .d (.list (p.lines.map Ln.d)), .d (.list (p.log.map Nt.d))]⟩)])
    (fun k => k ≤ p.lines.length) (fun k => p.lines.length - k) [(1, T_int)] (by simp) 0 (by omega) (by simp [WEAK, lookH]) (fun _ _ => rfl) ?_
  intro k hk
  have hw := wrap_id (n := (k : Int) + 1) (by omega) (by omega)
  simp [vc_ref09_Setters_k0]
  constructor
  · intro hlt
    have hN := ref09_Setter_meets (g := g) p k hok hlt p.log.length (Nat.le_refl _)
    have hr : ((settersL p).map int)[k]? = some (int ((stN p p.log.length).setters.getD k 0)) := by rw [List.getElem?_map, settersL_at hok hlt]; rfl
    have ht := take_next hr
    generalize (stN p p.log.length).setters.getD k 0 = x at hN ht
    refine CALL.val [p.d, int k, int p.log.length] _ rfl hN (.inl rfl) ?_
    simp [hw]
    refine ⟨by omega, k + 1, by omega, ?_, by omega⟩
    simp [WEAK, lookH, ht]
  · intro hge
    have : k = p.lines.length := by omega
    subst this
    have ht : ((settersL p).map int).take p.lines.length = (settersL p).map int := take_all (by simp [hnl])
    rw [ht]
    simp [ints]
end Go.Vc
