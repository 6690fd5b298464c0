/- A part of the proof: general laws of a reading of the model by abstract data, or contracts of the functions that the law calls. -/
import Derived.Test.YtonajancjagefaaGreatVc41
set_option maxRecDepth 100000
namespace Go.Vc
open Go Go.Proofs
variable {g : GG}
attribute [local simp] and_assoc
def pgH (b : Nat) (p : Pg) (s : Ps) : Heap := [(b, some ⟨0, T_proof_page, .box [.d (int p.people), .d (lns p.lines), .d (ents p.log), .own (b + 1) 0, .own (b + 2) 0, .mapv (b + 3), .own (b + 4) 0, .own (b + 5) 0]⟩), (b + 1, some ⟨0, T_int, .lst (s.now.map int)⟩), (b + 2, some ⟨0, T_int, .lst (s.setters.map int)⟩), (b + 3, some ⟨0, 0, .mp (keysM s.keys) s.ck⟩), (b + 4, some ⟨0, T_int, .lst (s.changed.map int)⟩), (b + 5, some ⟨0, T_api_ProofMiss, .lst (s.missed.map missD)⟩)]
def fltL (f : Nat → Bool) (k : Nat) : List Int := ((List.range k).filter f).map fun (n : Nat) => (n : Int)
theorem fltL_succ (f : Nat → Bool) (k : Nat) : fltL f (k + 1) = fltL f k ++ (match f k with | true => [(k : Int)] | false => []) := by
  unfold fltL
  rw [List.range_succ, List.filter_append, List.map_append]
  simp only [List.filter_cons, List.filter_nil]
  cases f k <;> rfl
theorem fltL_len (f : Nat → Bool) (m : Nat) : (fltL f m).length ≤ m := by
  have := List.length_filter_le f (List.range m)
  simp only [fltL, List.length_map]
  simpa using this
def difL (p : Pg) : List Int := fltL (difB p (stN p p.log.length)) p.lines.length
theorem difL_len (p : Pg) : (difL p).length ≤ p.lines.length := fltL_len _ _
set_option maxHeartbeats 4000000 in
theorem proof_Differs_data (p : Pg) (hok : p.ok = true) : Meets (Tz g) f_proof_Differs [p.d] ⟨.tup [.d (ints (difL p)), .d (int 0)], []⟩ := by
  obtain ⟨a1, a2, a3, a4, a5, _⟩ := Pg.ok_len hok
  have hps := (stN_ok hok _ (Nat.le_refl _)).1
  refine meets_proof_Differs ?_
  unfold vc_proof_Differs
  simp [Pg.d, lns, ents]
  refine CALL.val [p.d] _ rfl (proof_isPage_meets p (by omega) (by omega)) (.inl rfl) ?_
  simp [vc_proof_Differs_k2, hok]
  refine CALL.gen [] [false] [.d p.d] [] _ _ (pageOf_meets p hok) rfl (by simp [argsM, AV.ren, Pg.d, lns, ents]) (by simp [preB]) (by simp [lowL, ids.idsL, ids, preIds]) (by simp [lentL, disjB]) (by simp [stBlks]) ?_
  simp [AV.ren, AV.ren.renL, stBlks, stBox, upsP, rho, ABlk.ren, Body.ren, lentL, kills, lookH, lns]
  refine LOOP.mk Nat (fun k => [.ptr 80 0 0 0, .own 136 (fltL (difB p (stN p p.log.length)) k).length, .d (int p.lines.length), .d (int k)]) (fun k => (136, some ⟨(fltL (difB p (stN p p.log.length)) k).length, T_int, .lst ((fltL (difB p (stN p p.log.length)) k).map int)⟩) :: pgH 80 p (stN p p.log.length))
    (fun k => k ≤ p.lines.length) (fun k => p.lines.length - k) [(1, T_int)] (by simp) 0 (by omega) (by simp [WEAK, lookH, pgH, lns, ents, fltL]) (fun _ _ => rfl) ?_
  intro k hk
  have hfl := fltL_len (difB p (stN p p.log.length)) k
  have hfs := fltL_succ (difB p (stN p p.log.length)) k
  simp [vc_proof_Differs_k1]
  constructor
  · intro hlt
    refine CALL.gen [80, 81, 82, 83, 84, 85] [false, false] [.ptr 0 0 0 0, .d (int k)] (stBlks 0 (fun _ => 0) p (stN p p.log.length)) _ _ (differs_meets 0 (fun _ => 0) p (stN p p.log.length) k hps hlt) rfl (by simp [argsM, AV.ren, rho]) ?_ ?_ ?_ ?_ ?_
    · simp [preB, stBlks, stBox, rho, bodyOf, lookH, Body.ren, AV.ren, AV.ren.renL, pgH]
    · simp [ids.idsL, ids, preIds, stBlks, stBox, Body.ids, lowL]
    · simp [lentL, disjB]
    · simp [stBlks, sames]
    · cases hd : difB p (stN p p.log.length) k with
      | true =>
        rw [hd] at hfs
        simp [AV.ren, sames, upsP, lentL, kills, lookH, vc_proof_Differs_k0, pgH]
        rw [wrap_id (n := (k : Int) + 1) (by omega) (by omega)]
        exact ⟨by omega, k + 1, by omega, by simp [WEAK, lookH, hfs], by omega⟩
      | false =>
        rw [hd] at hfs
        simp [AV.ren, sames, upsP, lentL, kills, lookH, vc_proof_Differs_k0, pgH]
        rw [wrap_id (n := (k : Int) + 1) (by omega) (by omega)]
        exact ⟨k + 1, by omega, by simp [WEAK, lookH, hfs], by omega⟩
  · intro hge
    have : k = p.lines.length := by omega
    subst this
    simp [ints, difL]
end Go.Vc
