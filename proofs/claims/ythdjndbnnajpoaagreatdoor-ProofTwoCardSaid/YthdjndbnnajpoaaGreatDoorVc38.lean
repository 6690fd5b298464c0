/- A part of the proof: general laws of a reading of the model by abstract data, or contracts of the functions that the law calls. -/
import Derived.Test.YthdjndbnnajpoaaGreatDoorVc37
set_option maxRecDepth 100000
namespace Go.Vc
open Go Go.Proofs
variable {g : GG}
attribute [local simp] and_assoc
def pgH (b : Nat) (p : Pg) (s : Ps) : Heap := [(b, some ⟨0, T_proof_page, .box [.d (int p.people), .d (lns p.lines), .d (ents p.log), .own (b + 1) 0, .own (b + 2) 0, .mapv (b + 3), .own (b + 4) 0, .own (b + 5) 0]⟩), (b + 1, some ⟨0, T_int, .lst (s.now.map int)⟩), (b + 2, some ⟨0, T_int, .lst (s.setters.map int)⟩), (b + 3, some ⟨0, 0, .mp (keysM s.keys) s.ck⟩), (b + 4, some ⟨0, T_int, .lst (s.changed.map int)⟩), (b + 5, some ⟨0, T_api_ProofMiss, .lst (s.missed.map missD)⟩)]
def shortOf (n : Nat) : Int := max 0 (2 - (n : Int))
def shortL (p : Pg) : List Int := (List.range p.lines.length).map fun k => shortOf (readersP p k).length
theorem range_succ_map {α} (f : Nat → α) (k : Nat) : (List.range (k + 1)).map f = (List.range k).map f ++ [f k] := by
  rw [List.range_succ, List.map_append]; rfl
theorem readersP_len (p : Pg) (line : Nat) : (readersP p line).length ≤ p.people.toNat := readersL_len _ _ _
set_option maxHeartbeats 4000000 in
theorem proof_Short_data (p : Pg) (hok : p.ok = true) : Meets (Tz g) f_proof_Short [p.d] ⟨.tup [.d (ints (shortL p)), .d (int 0)], []⟩ := by
  obtain ⟨a1, a2, a3, a4, a5, _⟩ := Pg.ok_len hok
  obtain ⟨m, hm⟩ : ∃ m : Nat, p.people = m := ⟨p.people.toNat, by omega⟩
  have hpn : p.people.toNat = m := by omega
  have hps := (stN_ok hok _ (Nat.le_refl _)).1
  have hsh : ∀ k, (List.range (k + 1)).map (fun k => shortOf (readersP p k).length) = (List.range k).map (fun k => shortOf (readersP p k).length) ++ [shortOf (readersP p k).length] := range_succ_map _
  refine meets_proof_Short ?_
  unfold vc_proof_Short
  simp [Pg.d, lns, ents]
  refine CALL.val [p.d] _ rfl (proof_isPage_meets p (by omega) (by omega)) (.inl rfl) ?_
  simp [vc_proof_Short_k2, hok]
  refine CALL.gen [] [false] [.d p.d] [] _ _ (pageOf_meets p hok) rfl (by simp [argsM, AV.ren, Pg.d, lns, ents]) (by simp [preB]) (by simp [lowL, ids.idsL, ids, preIds]) (by simp [lentL, disjB]) (by simp [stBlks]) ?_
  simp [AV.ren, AV.ren.renL, stBlks, stBox, upsP, rho, ABlk.ren, Body.ren, lentL, kills, lookH, lns]
  refine LOOP.mk Nat (fun k => [.ptr 80 0 0 0, .own 136 k, .d (int p.lines.length), .d (int k)]) (fun k => (136, some ⟨k, T_int, .lst (((List.range k).map (fun k => shortOf (readersP p k).length)).map int)⟩) :: pgH 80 p (stN p p.log.length))
    (fun k => k ≤ p.lines.length) (fun k => p.lines.length - k) [(1, T_int)] (by simp) 0 (by omega) (by simp [WEAK, lookH, pgH, lns, ents]) (fun _ _ => rfl) ?_
  intro k hk
  simp [vc_proof_Short_k1]
  constructor
  · intro hlt
    refine CALL.gen [80, 81, 82, 83, 84, 85] [false, false] [.ptr 0 0 0 0, .d (int k)] (stBlks 0 (fun _ => 0) p (stN p p.log.length)) _ _ (readers_meets 0 (fun _ => 0) p (stN p p.log.length) k m hps hlt hm (by omega)) rfl (by simp [argsM, AV.ren, rho]) ?_ ?_ ?_ ?_ ?_
    · simp [preB, stBlks, stBox, rho, bodyOf, lookH, Body.ren, AV.ren, AV.ren.renL, pgH]
    · simp [ids.idsL, ids, preIds, stBlks, stBox, Body.ids, lowL]
    · simp [lentL, disjB]
    · simp [stBlks, sames]
    · have hrl := readersL_len (stN p p.log.length) k m
      have hq : readersP p k = readersL (stN p p.log.length) k m := by unfold readersP; rw [hpn]
      have hsk := hsh k
      rw [hq] at hsk
      simp [AV.ren, sames, upsP, rho, ABlk.ren, Body.ren, lentL, kills, lookH, vc_proof_Short_k0, pgH]
      rw [wrap_id (n := 2 - ((readersL (stN p p.log.length) k m).length : Int)) (by omega) (by omega), wrap_id (n := (k : Int) + 1) (by omega) (by omega)]
      exact ⟨by omega, k + 1, by omega, by simp [WEAK, lookH, List.range_succ, hq, shortOf], by omega⟩
  · intro hge
    have : k = p.lines.length := by omega
    subst this
    simp [ints, shortL]
def fltL (f : Nat → Bool) (k : Nat) : List Int := ((List.range k).filter f).map fun (n : Nat) => (n : Int)
theorem fltL_succ (f : Nat → Bool) (k : Nat) : fltL f (k + 1) = fltL f k ++ (match f k with | true => [(k : Int)] | false => []) := by
  unfold fltL
  rw [List.range_succ, List.filter_append, List.map_append]
  simp only [List.filter_cons, List.filter_nil]
  cases f k <;> rfl
theorem fltL_len (f : Nat → Bool) (m : Nat) : (fltL f m).length ≤ m := by
  have := List.length_filter_le f (List.range m)
  simp only [fltL, List.length_map]
  simpa using this
end Go.Vc
