/- A part of the proof: general laws of a reading of the model by abstract data, or contracts of the functions that the law calls. -/
import Derived.Test.YtflbianfhogdjaaGreatDoorVc42
set_option maxRecDepth 100000
namespace Go.Vc
open Go Go.Proofs
theorem truthsL_mem : ∀ (rest : List Sp) (now t : List Int), within rest t = true → now ++ t ∈ truthsL rest now
  | [], now, [], _ => by simp [truthsL]
  | [], _, _ :: _, h => by simp [within] at h
  | _ :: _, _, [], h => by simp [within] at h
  | s :: r, now, x :: t, h => by
    simp [within, inB] at h
    obtain ⟨⟨h1, h2⟩, h3⟩ := h
    simp only [truthsL, List.mem_flatMap, List.mem_range]
    refine ⟨(x - s.low).toNat, by unfold widthN; omega, ?_⟩
    have e : s.low + (((x - s.low).toNat : Nat) : Int) = x := by omega
    rw [e]
    have := truthsL_mem r (now ++ [x]) t h3
    simpa using this
theorem fitsB_append (p : Plan) (sn : List Sn) (x : Sn) (t : List Int) : fitsB p (sn ++ [x]) t = (fitsB p sn t && decide ((heads t p.rows.toNat).getD x.row.toNat 0 = x.value)) := by
  simp only [fitsB, List.any_append, List.any_cons, List.any_nil, Bool.or_false, Bool.not_or, Bool.not_not]
end Go.Vc
