/- A part of the proof: general laws of a reading of the model by abstract data, or contracts of the functions that the law calls. -/
import Derived.Test.YtjdgidaoknlnlaaGreatDoorVc38
set_option maxRecDepth 100000
namespace Go.Vc
open Go Go.Proofs
variable {g : GG}
attribute [local simp] and_assoc
def uslB (p : Pg) (i : Nat) : Bool := match p.log[i]? with
  | some e => (match e.nums with
    | [_, _, c, d] => (List.range p.lines.length).all fun (k : Nat) => !(inB (k : Int) c d) || decide ((i : Int) ≤ chN p k p.log.length)
    | _ => false)
  | none => false
theorem uslB_iff {p : Pg} {i c n : Nat} {a b : Int} (hg : p.log[i]? = some ⟨1, [a, b, (c : Int), (c : Int) + n - 1]⟩) (hcn : c + n ≤ p.lines.length) : uslB p i = true ↔ ∀ j, j < n → (i : Int) ≤ chN p (c + j) p.log.length := by
  simp only [uslB, hg, List.all_eq_true, List.mem_range, Bool.or_eq_true, Bool.not_eq_true', decide_eq_true_eq]
  constructor
  · intro h j hj
    rcases h (c + j) (by omega) with h | h
    · have : inB ((c + j : Nat) : Int) c ((c : Int) + n - 1) = true := by simp [inB]; omega
      rw [this] at h; cases h
    · exact h
  · intro h k hk
    cases hb : inB (k : Int) c ((c : Int) + n - 1) with
    | false => exact .inl rfl
    | true =>
      simp [inB] at hb
      have := h (k - c) (by omega)
      have e : c + (k - c) = k := by omega
      rw [e] at this
      exact .inr this
def uslL (p : Pg) : List Int := fltL (uslB p) p.log.length
theorem uslL_len (p : Pg) : (uslL p).length ≤ p.log.length := fltL_len _ _
set_option maxHeartbeats 4000000 in
theorem proof_Useless_data (p : Pg) (hok : p.ok = true) : Meets (Tz g) f_proof_Useless [p.d] ⟨.tup [.d (ints (uslL p)), .d (int 0)], []⟩ := by
  obtain ⟨a1, a2, a3, a4, a5, a6, a7⟩ := Pg.ok_len hok
  have hps := (stN_ok hok _ (Nat.le_refl _)).1
  have hch := hps.changed
  have hcg : ∀ k, k < p.lines.length → (stN p p.log.length).changed[k]? = some (chN p k p.log.length) := fun k hk => by
    have : (stN p p.log.length).changed[k]? = some (stN p p.log.length).changed[k] := List.getElem?_eq_getElem (by omega)
    rw [this]
    simp only [chN]
    rw [List.getD_eq_getElem?_getD, this]; rfl
  have hC := pageOf_meets (g := g) p hok
  refine meets_proof_Useless ?_
  unfold vc_proof_Useless
  simp [Pg.d, lns, ents]
  refine CALL.val [p.d] _ rfl (proof_isPage_meets p (by omega) (by omega)) (.inl rfl) ?_
  simp [vc_proof_Useless_k2, hok]
  refine CALL.gen [] [false] [.d p.d] [] _ _ hC rfl (by simp [argsM, AV.ren, Pg.d, lns, ents]) (by simp [preB]) (by simp [lowL, ids.idsL, ids, preIds]) (by simp [lentL, disjB]) (by simp [stBlks]) ?_
  simp [AV.ren, AV.ren.renL, stBlks, stBox, upsP, rho, ABlk.ren, Body.ren, lentL, kills, lookH, ents]
  generalize stN p p.log.length = s at hch hcg
  refine LOOP.mk Nat (fun k => [.ptr 80 0 0 0, .own 136 (fltL (uslB p) k).length, .d (ents p.log), .d (int p.log.length), .d (int k)]) (fun k => (136, some ⟨(fltL (uslB p) k).length, T_int, .lst ((fltL (uslB p) k).map int)⟩) :: pgH 80 p s)
    (fun k => k ≤ p.log.length) (fun k => p.log.length - k) [(1, T_int)] (by simp) 0 (by omega) (by simp [WEAK, lookH, pgH, lns, ents, fltL]) (fun _ _ => rfl) ?_
  intro i hi
  have hfl := fltL_len (uslB p) i
  have hfs := fltL_succ (uslB p) i
  have hw := wrap_id (n := (i : Int) + 1) (by omega) (by omega)
  simp [vc_proof_Useless_k1, ents]
  constructor
  · intro hlt
    have hg : p.log[i]? = some p.log[i] := List.getElem?_eq_getElem hlt
    have hen := a7 _ (List.getElem_mem hlt)
    generalize p.log[i] = e at hg hen
    rcases entB_cases hen with ⟨a, rfl, ha⟩ | ⟨a, b, c, rfl, ha, hb, hc⟩ | ⟨a, b, c, n, rfl, ha, hb, hab, hcn, hn⟩
    · have : uslB p i = false := by simp only [uslB, hg]
      rw [this] at hfs
      simp [hg, Nt.d, ints, hw]
      exact ⟨i + 1, by omega, by simp [WEAK, lookH, hfs, pgH, ents], by omega⟩
    · have : uslB p i = false := by simp only [uslB, hg]
      rw [this] at hfs
      simp [hg, Nt.d, ints, hw]
      exact ⟨i + 1, by omega, by simp [WEAK, lookH, hfs, pgH, ents], by omega⟩
    · have hus := uslB_iff hg hcn
      simp [hg, Nt.d, ints]
      refine LOOP.mk Nat (fun j => [.ptr 80 0 0 0, .own 136 (fltL (uslB p) i).length, .d (int i), .ptr 176 0 0 0, .d (int ((c : Int) + j)), .d (ents p.log), .d (int p.log.length), .d (int i)]) (fun j => (176, some ⟨0, T_api_ProofEntry, .box [.d (int 1), .d (.list [int a, int b, int c, int ((c : Int) + n - 1)])]⟩) :: (136, some ⟨(fltL (uslB p) i).length, T_int, .lst ((fltL (uslB p) i).map int)⟩) :: pgH 80 p s)
        (fun j => j ≤ n ∧ ∀ x, x < j → (i : Int) ≤ chN p (c + x) p.log.length) (fun j => n - j) [] (by simp) 0 (by simp) (by simp [WEAK, lookH, pgH, ents]) (fun _ _ => rfl) ?_
      rintro j ⟨hj, hall⟩
      simp [vc_proof_Useless_k0, pgH]
      constructor
      · intro h1
        have hjn : j < n := by omega
        have hc2 := hcg (c + j) (by omega)
        have e1 : ((c : Int) + (j : Int)) = ((c + j : Nat) : Int) := by omega
        rw [e1]
        simp only [Int.toNat_natCast]
        have hw2 := wrap_id (n := (c : Int) + (j : Int) + 1) (by omega) (by omega)
        have hb0 : (0 : Int) ≤ ((c + j : Nat) : Int) := by omega
        have hb1 : ((c + j : Nat) : Int) < (p.lines.length : Int) := by omega
        have hstep : (∀ x, x < j + 1 → (i : Int) ≤ chN p (c + x) p.log.length) ↔ (i : Int) ≤ chN p (c + j) p.log.length := by
          constructor
          · intro h; exact h j (by omega)
          · intro h x hx
            by_cases hxj : x = j
            · subst hxj; exact h
            · exact hall x (by omega)
        have hfalse : chN p (c + j) p.log.length < i → uslB p i = false := fun h => by
          cases hu : uslB p i with
          | false => rfl
          | true =>
            have := hus.1 hu j hjn
            omega
        simp only [hc2, hch]
        generalize chN p (c + j) p.log.length = ch at hstep hfalse
        refine ⟨hb0, hb1, _, ⟨_, rfl, rfl⟩, _, rfl, _, rfl, ?_⟩
        simp [hw, hw2]
        refine ⟨fun h => ?_, fun h => ?_⟩
        · rw [hfalse h] at hfs
          exact ⟨i + 1, by omega, by simp [WEAK, lookH, hfs, ents], by omega⟩
        · refine ⟨j + 1, by omega, hstep.2 h, ?_, by omega⟩
          simp [WEAK, lookH, ents, Int.add_assoc]
      · intro h1
        have : j = n := by omega
        subst this
        rw [hus.2 hall] at hfs
        simp [hw]
        exact ⟨by omega, i + 1, by omega, by simp [WEAK, lookH, hfs, ents], by omega⟩
  · intro hge
    have : i = p.log.length := by omega
    subst this
    simp [ints, uslL]
end Go.Vc
