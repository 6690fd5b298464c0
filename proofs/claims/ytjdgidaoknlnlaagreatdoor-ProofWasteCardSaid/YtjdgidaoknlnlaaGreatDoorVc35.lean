/- A part of the proof: general laws of a reading of the model by abstract data, or contracts of the functions that the law calls. -/
import Derived.Test.YtjdgidaoknlnlaaGreatDoorVc33
import Derived.Test.YtjdgidaoknlnlaaGreatDoorVc34
set_option maxRecDepth 100000
namespace Go.Vc
open Go Go.Proofs
variable {g : GG}
attribute [local simp] and_assoc
def nowL (p : Pg) : List Int := (stN p p.log.length).now
def settersL (p : Pg) : List Int := (stN p p.log.length).setters
theorem nowL_len {p : Pg} (h : p.ok = true) : (nowL p).length = p.lines.length := (stN_ok h _ (Nat.le_refl _)).1.now
theorem settersL_len {p : Pg} (h : p.ok = true) : (settersL p).length = p.lines.length := (stN_ok h _ (Nat.le_refl _)).1.setters
theorem proof_Now_data (p : Pg) (hok : p.ok = true) : Meets (Tz g) f_proof_Now [p.d] ⟨.tup [.d (ints (nowL p)), .d (int 0)], []⟩ := by
  obtain ⟨a1, a2, a3, a4, a5, _⟩ := Pg.ok_len hok
  refine meets_proof_Now ?_
  unfold vc_proof_Now
  simp [Pg.d, lns, ents]
  refine CALL.val [p.d] _ rfl (proof_isPage_meets p (by omega) (by omega)) (.inl rfl) ?_
  simp [vc_proof_Now_k0, hok]
  refine CALL.gen [] [false] [.d p.d] [] _ _ (pageOf_meets p hok) rfl (by simp [argsM, AV.ren, Pg.d, lns, ents]) (by simp [preB]) (by simp [lowL, ids.idsL, ids, preIds]) (by simp [lentL, disjB]) (by simp [stBlks]) ?_
  simp [AV.ren, AV.ren.renL, stBlks, stBox, upsP, rho, ABlk.ren, Body.ren, lentL, kills, lookH, nowL, ints]
theorem proof_Setters_data (p : Pg) (hok : p.ok = true) : Meets (Tz g) f_proof_Setters [p.d] ⟨.tup [.d (ints (settersL p)), .d (int 0)], []⟩ := by
  obtain ⟨a1, a2, a3, a4, a5, _⟩ := Pg.ok_len hok
  refine meets_proof_Setters ?_
  unfold vc_proof_Setters
  simp [Pg.d, lns, ents]
  refine CALL.val [p.d] _ rfl (proof_isPage_meets p (by omega) (by omega)) (.inl rfl) ?_
  simp [vc_proof_Setters_k0, hok]
  refine CALL.gen [] [false] [.d p.d] [] _ _ (pageOf_meets p hok) rfl (by simp [argsM, AV.ren, Pg.d, lns, ents]) (by simp [preB]) (by simp [lowL, ids.idsL, ids, preIds]) (by simp [lentL, disjB]) (by simp [stBlks]) ?_
  simp [AV.ren, AV.ren.renL, stBlks, stBox, upsP, rho, ABlk.ren, Body.ren, lentL, kills, lookH, settersL, ints]
theorem known_call (hk : MeetsH (Tz g) f_law09_known [] [] (.ret (.d (.bool true))) []) {new : Nat} {h : Heap} {K KP : List Nat → AV → Heap → Prop} (h3 : K [] (.d (.bool true)) h) : CALL (Tz g) f_law09_known [] new h K KP :=
  CALL.val [] _ rfl hk (.inl rfl) h3
end Go.Vc
