/- Proves that the statement ProofMissedCardSaid holds of the given program: for every input the law returns true and leaves its arguments as they were; under the row's own conditions, that the listed tables are laid as the program's text has them. -/
import Derived.Test.YthdjndbnnajpoaaGreatDoorVc23
import Derived.Test.YthdjndbnnajpoaaGreatDoorVc11
import Derived.Test.YthdjndbnnajpoaaGreatDoorVc44
import Derived.Test.YthdjndbnnajpoaaGreatDoorVc26
import Derived.Test.YthdjndbnnajpoaaGreatDoorVc30
set_option maxRecDepth 100000
namespace Go.Vc
open Go Go.Proofs Go.RowKit
def ann_law09_ProofMissed : Nat → List Nat := fun n => match n with  | _ => []
def vc_law09_ProofMissed_k0 (P : Ctx) (pre : List ABlk) (r : AV) (post : List PB) (v0 : AV) (v2 : AV) (v4 : AV) (h6 : Heap) : Prop :=
  BIN 0 .eql v0 (.d (.num .i64 5)) fun v1 =>
  CONDG v1
  (BIN 0 .eql v2 (.d (.num .i64 0)) fun v3 =>
  CONDG v3
  (BIN 0 .eql v4 (.d (.num .i64 0)) fun v5 =>
  CONDG v5
  (CALL P f_law09_known [] 464 h6 (fun _ v8 h9 =>
  POST v8 h9 pre r post)
  (fun _ _ _ => False))
  (POST (.d (.bool false)) h6 pre r post))
  (POST (.d (.bool false)) h6 pre r post))
  (POST (.d (.bool false)) h6 pre r post)
def vc_law09_ProofMissed_k1 (P : Ctx) (pre : List ABlk) (r : AV) (post : List PB) (v0 : AV) (v2 : AV) (v3 : AV) (v5 : AV) (v6 : AV) (h8 : Heap) : Prop :=
  BIN 0 .eql v0 (.d (.num .i64 0)) fun v1 =>
  CONDG v1
  (BIN 0 .eql v2 v3 fun v4 =>
  CONDG v4
  (BIN 0 .eql v5 v6 fun v7 =>
  CONDG v7
  (CALL P f_law09_known [] 480 h8 (fun _ v10 h11 =>
  POST v10 h11 pre r post)
  (fun _ _ _ => False))
  (POST (.d (.bool false)) h8 pre r post))
  (POST (.d (.bool false)) h8 pre r post))
  (POST (.d (.bool false)) h8 pre r post)
def vc_law09_ProofMissed_k2 (P : Ctx) (pre : List ABlk) (r : AV) (post : List PB) (v0 : AV) (h2 : Heap) (v3 : AV) (v12 : AV) (v13 : AV) (v14 : AV) : Prop :=
  NOT v0 fun v1 =>
  COND v1
  (POST (.d (.bool false)) h2 pre r post)
  (LOAD true 3 v3 h2 fun v4 =>
  CALL P f_ref09_Worst [v4] 296 h2 (fun _ v6 h7 =>
  EXT v6 0 fun v8 =>
  EXT v6 1 fun v9 =>
  EXT v6 2 fun v10 =>
  NOT v10 fun v11 =>
  COND v11
  (vc_law09_ProofMissed_k0 P pre r post v12 v13 v14 h7)
  (vc_law09_ProofMissed_k1 P pre r post v12 v13 v8 v14 v9 h7))
  (fun _ _ _ => False))
def vc_law09_ProofMissed_k3 (P : Ctx) (pre : List ABlk) (r : AV) (post : List PB) (v0 : AV) (v2 : AV) (h3 : Heap) (v6 : AV) (v8 : AV) (v10 : AV) : Prop :=
  BIN 0 .eql v0 (.d (.num .i64 2)) fun v1 =>
  CONDG v1
  (LEN false v2 h3 fun v4 =>
  BIN 0 .eql v4 (.d (.num .i64 0)) fun v5 =>
  CONDG v5
  (BIN 0 .eql v6 (.d (.num .i64 2)) fun v7 =>
  CONDG v7
  (BIN 0 .eql v8 (.d (.num .i64 0)) fun v9 =>
  CONDG v9
  (BIN 0 .eql v10 (.d (.num .i64 0)) fun v11 =>
  CONDG v11
  (CALL P f_law09_known [] 376 h3 (fun _ v13 h14 =>
  POST v13 h14 pre r post)
  (fun _ _ _ => False))
  (POST (.d (.bool false)) h3 pre r post))
  (POST (.d (.bool false)) h3 pre r post))
  (POST (.d (.bool false)) h3 pre r post))
  (POST (.d (.bool false)) h3 pre r post))
  (POST (.d (.bool false)) h3 pre r post)
def vc_law09_ProofMissed_k4 (P : Ctx) (pre : List ABlk) (r : AV) (post : List PB) (v0 : AV) (h2 : Heap) (v3 : AV) (v8 : AV) (v12 : AV) (v13 : AV) (v14 : AV) : Prop :=
  BIN 0 .neq v0 (.d (.num .i64 0)) fun v1 =>
  CONDG v1
  (POST (.d (.bool false)) h2 pre r post)
  (LOAD true 3 v3 h2 fun v4 =>
  CALL P f_ref09_Missed [v4] 256 h2 (fun _ v6 h7 =>
  CALL P f_ref09_SameMisses [v8, v6] 264 h7 (fun _ v10 h11 =>
  vc_law09_ProofMissed_k2 P pre r post v10 h11 v3 v12 v13 v14)
  (fun _ _ _ => False))
  (fun _ _ _ => False))
def vc_law09_ProofMissed_k5 (P : Ctx) (pre : List ABlk) (r : AV) (post : List PB) (v0 : AV) (v4 : AV) (h5 : Heap) (v11 : AV) (v12 : AV) : Prop :=
  EXT v0 0 fun v1 =>
  EXT v0 1 fun v2 =>
  EXT v0 2 fun v3 =>
  LOAD true 3 v4 h5 fun v6 =>
  CALL P f_ref09_Page [v6] 200 h5 (fun _ v8 h9 =>
  NOT v8 fun v10 =>
  COND v10
  (vc_law09_ProofMissed_k3 P pre r post v11 v12 h9 v3 v1 v2)
  (vc_law09_ProofMissed_k4 P pre r post v11 h9 v4 v12 v3 v1 v2))
  (fun _ _ _ => False)
def vc_law09_ProofMissed_k6 (P : Ctx) (pre : List ABlk) (r : AV) (post : List PB) (v0 : AV) (h2 : Heap) (v6 : AV) : Prop :=
  NOT v0 fun v1 =>
  COND v1
  (CALL P f_law09_known [] 64 h2 (fun _ v4 h5 =>
  POST v4 h5 pre r post)
  (fun _ _ _ => False))
  (LOAD true 3 v6 h2 fun v7 =>
  CALL P f_proof_Missed [v7] 72 h2 (fun _ v9 h10 =>
  EXT v9 0 fun v11 =>
  EXT v9 1 fun v12 =>
  LOAD true 3 v6 h10 fun v13 =>
  CALL P f_proof_Worst [v13] 128 h10 (fun _ v15 h16 =>
  vc_law09_ProofMissed_k5 P pre r post v15 v6 h16 v12 v11)
  (fun _ _ _ => False))
  (fun _ _ _ => False))
def vc_law09_ProofMissed (P : Ctx) (pre : List ABlk) (a0 : AV) (r : AV) (post : List PB) : Prop :=
  let h0 : Heap := numbered 0 pre
  BOX T_api_ProofPage a0 24 h0 fun v1 h1 =>
  LOAD true 3 v1 h1 fun v11 =>
  CALL P f_law09_short [v11] 48 h1 (fun _ v12 h2 =>
  vc_law09_ProofMissed_k6 P pre r post v12 h2 v1)
  (fun _ _ _ => False)
theorem vc_law09_ProofMissed_eq (g : GG) (pre : List ABlk) (a0 : AV) (r : AV) (post : List PB) : vcFn2 (Tz g) false ann_law09_ProofMissed Tryz.f10 pre [a0] (.ret r) post = vc_law09_ProofMissed (Tz g) pre a0 r post := by kernel_rfl
theorem hf_law09_ProofMissed : Tryz.prog.funcs[f_law09_ProofMissed]? = some Tryz.f10 := by kernel_rfl
theorem ok_law09_ProofMissed : fnVcOK Tryz.prog Tryz.f10 = true := by kernel_rfl
theorem nt_law09_ProofMissed : Nat.ble 1 Tryz.f10.ntmps = true := by kernel_rfl
theorem meetsH_law09_ProofMissed {g : GG} {pre : List ABlk} {a0 : AV} {r : AV} {post : List PB} (hk : Nat.ble pre.length 24 = true) (h : vc_law09_ProofMissed (Tz g) pre a0 r post) : MeetsH (Tz g) f_law09_ProofMissed pre [a0] (.ret r) post :=
  meetsH_of_vc (C := Tz g) ann_law09_ProofMissed hf_law09_ProofMissed ok_law09_ProofMissed nt_law09_ProofMissed hk (pn := false) (Eq.mpr ((vcFn2_eq _ _ _ _ _ _ _ _).trans (vc_law09_ProofMissed_eq g pre a0 r post)) h)
theorem meets_law09_ProofMissed {g : GG} {a0 : D} {r : Res} (h : vc_law09_ProofMissed (Tz g) [] (.d a0) r.val (r.bl.map .upd)) : Meets (Tz g) f_law09_ProofMissed [a0] r := meetsH_law09_ProofMissed rfl h
end Go.Vc

namespace Go.Vc
open Go Go.Proofs
variable {g : GG}
attribute [local simp] and_assoc
theorem ofN_pos {p : Pg} (hok : p.ok = true) (hm : missL p p.log.length ≠ []) : 0 < ofN p (worstI p) := by
  obtain ⟨a1, a2, a3, a4, a5, a6, a7⟩ := Pg.ok_len hok
  obtain ⟨x, hx⟩ := List.exists_mem_of_ne_nil _ hm
  obtain ⟨j, k, a, b, c, n, h1, h2, h3, h4, h5⟩ := miss_read hok hx (Nat.le_refl _)
  simp [persB, inB] at h4
  obtain ⟨u, rfl⟩ : ∃ u : Nat, a = u := ⟨a.toNat, by omega⟩
  have hu : ofB p u x = true := by
    rw [h2]
    simp only [ofB, Int.toNat_natCast, h3]
    simp
  have h6 : 0 < ofN p u := by
    unfold ofN cntL
    rw [List.take_length]
    exact List.length_pos_of_mem (List.mem_filter.2 ⟨hx, hu⟩)
  have h7 := bestI_max (fun n => (ofN p n : Int)) (p.people.toNat - 1) u (by omega)
  unfold worstI
  omega
theorem ofN_nil {p : Pg} (hm : missL p p.log.length = []) (n : Int) : ofN p n = 0 := by
  unfold ofN; rw [hm]; rfl
set_option maxHeartbeats 4000000 in
theorem missed_meets (hg : GOK g) (p : Pg) : Meets (Tz g) f_law09_ProofMissed [p.d] ⟨.d (.bool true), []⟩ := by
  have hk := known_meets hg
  refine meets_law09_ProofMissed ?_
  unfold vc_law09_ProofMissed
  simp [Pg.d, lns, ents]
  refine CALL.val [p.d] _ rfl (law09_short_meets p) (.inl rfl) ?_
  cases hr : shortB p with
  | false =>
    simp [vc_law09_ProofMissed_k6]
    exact known_call hk (by simp)
  | true =>
    obtain ⟨s1, s2, s3⟩ := shortB_len hr
    simp [vc_law09_ProofMissed_k6]
    cases hok : p.ok with
    | false =>
      refine CALL.mk [p.d] _ rfl (proof_Missed_bad p s1 s2 hok) (.inl rfl) (by simp) ?_
      simp
      refine CALL.mk [p.d] _ rfl (proof_Worst_bad p s1 s2 hok) (.inl rfl) (by simp) ?_
      simp [vc_law09_ProofMissed_k5]
      refine CALL.val [p.d] _ rfl (ref09_Page_meets p (by omega) (by omega)) (.inl rfl) ?_
      simp [hok, vc_law09_ProofMissed_k3, ints]
      exact known_call hk (by simp)
    | true =>
      obtain ⟨a1, a2, a3, a4, a5, a6, a7⟩ := Pg.ok_len hok
      have hl := missL_le hok (Nat.le_refl _)
      have hW := ref09_Worst_meets (g := g) p hok
      have hwi : bestI (fun n => (ofN p n : Int)) (p.people.toNat - 1) = worstI p := rfl
      rw [hwi] at hW
      refine CALL.mk [p.d] _ rfl (proof_Missed_data p hok) (.inl rfl) (by simp) ?_
      simp
      by_cases hm : missL p p.log.length = []
      · have h0 := ofN_nil hm (worstI p)
        rw [h0] at hW
        have hz : worstI p = 0 := by
          have h1 := bestI_first (fun n => (ofN p n : Int)) (p.people.toNat - 1) 0
          rw [hwi] at h1
          rcases Nat.eq_zero_or_pos (worstI p) with h | h
          · exact h
          · have := h1 h
            rw [ofN_nil hm, ofN_nil hm] at this
            omega
        refine CALL.mk [p.d] _ rfl (proof_Worst_none p hok hm) (.inl rfl) (by simp) ?_
        simp [vc_law09_ProofMissed_k5]
        refine CALL.val [p.d] _ rfl (ref09_Page_meets p (by omega) (by omega)) (.inl rfl) ?_
        simp [hok, vc_law09_ProofMissed_k4]
        refine CALL.mk [p.d] _ rfl (ref09_Missed_meets p hok) (.inl rfl) (by simp) ?_
        simp
        refine CALL.val [.list ((missL p p.log.length).map missD), .list ((missL p p.log.length).map missD)] _ rfl (ref09_SameMisses_meets _ (by omega)) (.inl rfl) ?_
        simp [vc_law09_ProofMissed_k2]
        refine CALL.mk [p.d] _ rfl hW (.inl rfl) (by simp) ?_
        simp [vc_law09_ProofMissed_k0]
        exact known_call hk (by simp)
      · have h0 := ofN_pos hok hm
        rw [decide_eq_true h0] at hW
        refine CALL.mk [p.d] _ rfl (proof_Worst_data p hok hm) (.inl rfl) (by simp) ?_
        simp [vc_law09_ProofMissed_k5]
        refine CALL.val [p.d] _ rfl (ref09_Page_meets p (by omega) (by omega)) (.inl rfl) ?_
        simp [hok, vc_law09_ProofMissed_k4]
        refine CALL.mk [p.d] _ rfl (ref09_Missed_meets p hok) (.inl rfl) (by simp) ?_
        simp
        refine CALL.val [.list ((missL p p.log.length).map missD), .list ((missL p p.log.length).map missD)] _ rfl (ref09_SameMisses_meets _ (by omega)) (.inl rfl) ?_
        simp [vc_law09_ProofMissed_k2]
        refine CALL.mk [p.d] _ rfl hW (.inl rfl) (by simp) ?_
        simp [vc_law09_ProofMissed_k1]
        exact known_call hk (by simp)
end Go.Vc

namespace Go.Vc
open Go Go.RowKit Go.ChangeShapes Go.WideShapes Go.ChangeAt Go.Proofs Go.Proofs.YthdjndbnnajpoaaGreatDoor
theorem missed_calls {H : Type} {enc : TypeId × Value → H} (W : World) (base : Nat) (args : Array Value) (ds : List (DataW H)) (ps : List MemPlace) (hval : ∀ (j : Nat) t v, Tryz.f10.params[j]? = some t → args[j]? = some v → Value.okWide Tryz.prog W .any base t v)
    (hA : DataW.TrodAll enc Tryz.prog W 0 (fun _ => true) true Tryz.f10.params.toList args.toList ds ps) (hL : laidMetH Tryz.prog laidL W) (hsh : W.ShapedOpen Tryz.prog) : Calls Tryz.prog 10 args W fun e W' => e = .returned (.bool true) ∧ Below W.heap.size W W' := by
  rw [Tryz.params10] at hA hval
  obtain ⟨v0, d0, rfl, rfl, h0⟩ := trodAll_one hA
  obtain ⟨x0, g0⟩ := open_page (hval 0 25 v0 rfl rfl) h0
  exact law_calls (C := Tz (gW W)) (missed_meets (gok hL hsh) x0) rfl (Below.refl _ _) (us := [v0]) rfl (fun i d u hd hu => by
    match i, hd, hu with
    | 0, hd, hu => simp at hd hu; subst hd; subst hu; exact g0
    | i + 1, hd, hu => simp at hd)
theorem missed_lifted (os : Os) (started : os.Started) (H : Type) (enc : TypeId × Value → H) :
    ReturnsInHanded {} Tryz.checked os 10 .any (fun w args => (Rows.proofMissedSpec.pre enc Tryz.prog Tryz.f10 [] false w args ∧ laidMetH Tryz.prog laidL w) ∧ sizedMet enc Tryz.prog Tryz.f10 (OpenSpec.ofChange Rows.proofMissedSpec) false w args)
      (Rows.proofMissedSpec.post enc Tryz.prog Tryz.f10 false true false false) :=
  law_lifted (C := Tryz.checked) (tb := 4) (n := 1) started own (by kernel_rfl) Tryz.func10
    (ChangeSpec.witness_shaped (enc := enc) (C := Tryz.checked) (os := os) (X := fun w _ => laidMetH Tryz.prog laidL w) false (World.laidAll Tryz.prog os laidL) #[.agg #[.int .i64 0, .slice none 0 0, .slice none 0 0]] 8 (World.laidAll_os _ _ _)
      (World.shaped_of_ZipB (by kernel_rfl) (by kernel_rfl)) (by kernel_rfl) (by kernel_rfl) (by kernel_rfl)
      (by rw [MakeChecks.laidMetH_plain _ _ _ (by kernel_rfl)]; exact laidMet_laidAll _ (by kernel_rfl) (by kernel_rfl)))
    laidOut (by kernel_rfl) (by kernel_rfl) Tryz.underlying4 rfl (by kernel_rfl) (fun ds hl => by
      match ds, hl with
      | [a], _ => rfl) missed_calls
theorem missed_holds : Rows.ProofMissedSaid :=
  OpenClaim.holds_of_wide 10 Tryz.f10 rfl rfl rfl rfl rfl rfl rfl ⟨rfl, rfl, rfl, rfl, rfl⟩ rfl rfl rfl rfl rfl (by kernel_rfl) Tryz.func10 (by kernel_rfl)
    (of_decide_eq_true (by kernel_rfl)) (by unfold Func.isWrapper; first | (rw [if_pos (by decide +kernel)]; kernel_rfl) | (rw [if_neg (by decide +kernel)]; exact ⟨rfl, rfl⟩))
    (fun os started H enc _ => missed_lifted os started H enc)
theorem missed_card : Rows.ProofMissedCardSaid :=
  Claim7.holds_tied_plain_at .later [] [.data, .data, .data, .data, .pinned] true (true, "37bfc3ba26a816bdd744f413de7fa5ad01d8f38205d20d0bea52d9922db35776") true missed_holds (fun _ h => by cases h) (by kernel_rfl) (fun _ h => by cases h) proofMissed_row_tie rfl ⟨rfl, rfl⟩ (by kernel_rfl) rfl
    (fun f fn hf hfn => by
      obtain rfl : f = 10 := Option.some.inj ((show Tryz.prog.funcNamed "ephemerist/ephemeristlaw09.ProofMissed" = some 10 by kernel_rfl).symm.trans hf) |>.symm
      obtain rfl : fn = Tryz.f10 := (Option.some.inj (Tryz.func10.symm.trans hfn)).symm
      exact ⟨by kernel_rfl, fun j t ht => by
        rw [Tryz.params10] at ht
        have hm : t ∈ [25] := by simpa using Array.mem_of_getElem? ht
        have hall : ([25].all fun u => !Tryz.prog.wantsStandIn u) = true := by kernel_rfl
        exact (show Tryz.prog.wantsStandIn t = false by simpa using List.all_eq_true.1 hall t hm)⟩)
    (by kernel_rfl)
end Go.Vc

namespace Go.Proofs.YthdjndbnnajpoaaGreatDoor
theorem law_ProofMissedCardSaid : Rows.ProofMissedCardSaid := Go.Vc.missed_card
end Go.Proofs.YthdjndbnnajpoaaGreatDoor
