/- Proves that the statement ProofNowsCardSaid holds of the given program: for every input the law returns true and leaves its arguments as they were; under the row's own conditions, that the listed tables are laid as the program's text has them. -/
import Derived.Test.YtgioiehcfpdmjaaGreatDoorVc23
import Derived.Test.YtgioiehcfpdmjaaGreatDoorVc11
import Derived.Test.YtgioiehcfpdmjaaGreatDoorVc48
import Derived.Test.YtgioiehcfpdmjaaGreatDoorVc26
import Derived.Test.YtgioiehcfpdmjaaGreatDoorVc30
set_option maxRecDepth 100000
namespace Go.Vc
open Go Go.Proofs Go.RowKit
def ann_law09_ProofNows : Nat → List Nat := fun n => match n with  | _ => []
def vc_law09_ProofNows_k0 (P : Ctx) (pre : List ABlk) (r : AV) (post : List PB) (v0 : AV) (v1 : AV) (v3 : AV) (h4 : Heap) (v9 : AV) : Prop :=
  CONDG v0
  (BIN 0 .eql v1 (.d (.num .i64 0)) fun v2 =>
  CONDG v2
  (LOAD true 3 v3 h4 fun v5 =>
  CALL P f_ref09_Setters [v5] 376 h4 (fun _ v7 h8 =>
  CALL P f_ref01_Same [v9, v7] 384 h8 (fun _ v11 h12 =>
  CONDG v11
  (CALL P f_law09_known [] 408 h12 (fun _ v14 h15 =>
  POST v14 h15 pre r post)
  (fun _ _ _ => False))
  (POST (.d (.bool false)) h12 pre r post))
  (fun _ _ _ => False))
  (fun _ _ _ => False))
  (POST (.d (.bool false)) h4 pre r post))
  (POST (.d (.bool false)) h4 pre r post)
def vc_law09_ProofNows_k1 (P : Ctx) (pre : List ABlk) (r : AV) (post : List PB) (v0 : AV) (v2 : AV) (v4 : AV) (h5 : Heap) (v8 : AV) (v10 : AV) : Prop :=
  BIN 0 .eql v0 (.d (.num .i64 2)) fun v1 =>
  CONDG v1
  (BIN 0 .eql v2 (.d (.num .i64 2)) fun v3 =>
  CONDG v3
  (LEN false v4 h5 fun v6 =>
  BIN 0 .eql v6 (.d (.num .i64 0)) fun v7 =>
  CONDG v7
  (BIN 0 .eql v8 (.d (.num .i64 2)) fun v9 =>
  CONDG v9
  (LEN false v10 h5 fun v11 =>
  BIN 0 .eql v11 (.d (.num .i64 0)) fun v12 =>
  CONDG v12
  (CALL P f_law09_known [] 392 h5 (fun _ v14 h15 =>
  POST v14 h15 pre r post)
  (fun _ _ _ => False))
  (POST (.d (.bool false)) h5 pre r post))
  (POST (.d (.bool false)) h5 pre r post))
  (POST (.d (.bool false)) h5 pre r post))
  (POST (.d (.bool false)) h5 pre r post))
  (POST (.d (.bool false)) h5 pre r post)
def vc_law09_ProofNows_k2 (P : Ctx) (pre : List ABlk) (r : AV) (post : List PB) (v0 : AV) (v2 : AV) (v4 : AV) (h5 : Heap) (v10 : AV) (v14 : AV) (v15 : AV) : Prop :=
  BIN 0 .eql v0 (.d (.num .i64 0)) fun v1 =>
  CONDG v1
  (BIN 0 .eql v2 (.d (.num .i64 0)) fun v3 =>
  CONDG v3
  (LOAD true 3 v4 h5 fun v6 =>
  CALL P f_ref09_Now [v6] 296 h5 (fun _ v8 h9 =>
  CALL P f_ref01_Same [v10, v8] 304 h9 (fun _ v12 h13 =>
  vc_law09_ProofNows_k0 P pre r post v12 v14 v4 h13 v15)
  (fun _ _ _ => False))
  (fun _ _ _ => False))
  (POST (.d (.bool false)) h5 pre r post))
  (POST (.d (.bool false)) h5 pre r post)
def vc_law09_ProofNows_k3 (P : Ctx) (pre : List ABlk) (r : AV) (post : List PB) (v0 : AV) (v3 : AV) (h4 : Heap) (v10 : AV) (v11 : AV) (v12 : AV) : Prop :=
  EXT v0 0 fun v1 =>
  EXT v0 1 fun v2 =>
  LOAD true 3 v3 h4 fun v5 =>
  CALL P f_ref09_Page [v5] 208 h4 (fun _ v7 h8 =>
  NOT v7 fun v9 =>
  COND v9
  (vc_law09_ProofNows_k1 P pre r post v10 v11 v12 h8 v2 v1)
  (vc_law09_ProofNows_k2 P pre r post v10 v11 v3 h8 v12 v2 v1))
  (fun _ _ _ => False)
def vc_law09_ProofNows_k4 (P : Ctx) (pre : List ABlk) (r : AV) (post : List PB) (v0 : AV) (h1 : Heap) (v12 : AV) : Prop :=
  LOAD true 3 v0 h1 fun v2 =>
  CALL P f_proof_Now [v2] 96 h1 (fun _ v4 h5 =>
  EXT v4 0 fun v6 =>
  EXT v4 1 fun v7 =>
  LOAD true 3 v0 h5 fun v8 =>
  CALL P f_proof_Setters [v8] 152 h5 (fun _ v10 h11 =>
  vc_law09_ProofNows_k3 P pre r post v10 v0 h11 v12 v7 v6)
  (fun _ _ _ => False))
  (fun _ _ _ => False)
def vc_law09_ProofNows_k5 (P : Ctx) (pre : List ABlk) (r : AV) (post : List PB) (v0 : AV) (h2 : Heap) (v6 : AV) : Prop :=
  NOT v0 fun v1 =>
  COND v1
  (CALL P f_law09_known [] 64 h2 (fun _ v4 h5 =>
  POST v4 h5 pre r post)
  (fun _ _ _ => False))
  (LOAD true 3 v6 h2 fun v7 =>
  CALL P f_proof_Check [v7] 72 h2 (fun _ v9 h10 =>
  vc_law09_ProofNows_k4 P pre r post v6 h10 v9)
  (fun _ _ _ => False))
def vc_law09_ProofNows (P : Ctx) (pre : List ABlk) (a0 : AV) (r : AV) (post : List PB) : Prop :=
  let h0 : Heap := numbered 0 pre
  BOX T_api_ProofPage a0 24 h0 fun v1 h1 =>
  LOAD true 3 v1 h1 fun v8 =>
  CALL P f_law09_short [v8] 48 h1 (fun _ v9 h2 =>
  vc_law09_ProofNows_k5 P pre r post v9 h2 v1)
  (fun _ _ _ => False)
theorem vc_law09_ProofNows_eq (g : GG) (pre : List ABlk) (a0 : AV) (r : AV) (post : List PB) : vcFn2 (Tz g) false ann_law09_ProofNows Tryz.f8 pre [a0] (.ret r) post = vc_law09_ProofNows (Tz g) pre a0 r post := by kernel_rfl
theorem hf_law09_ProofNows : Tryz.prog.funcs[f_law09_ProofNows]? = some Tryz.f8 := by kernel_rfl
theorem ok_law09_ProofNows : fnVcOK Tryz.prog Tryz.f8 = true := by kernel_rfl
theorem nt_law09_ProofNows : Nat.ble 1 Tryz.f8.ntmps = true := by kernel_rfl
theorem meetsH_law09_ProofNows {g : GG} {pre : List ABlk} {a0 : AV} {r : AV} {post : List PB} (hk : Nat.ble pre.length 24 = true) (h : vc_law09_ProofNows (Tz g) pre a0 r post) : MeetsH (Tz g) f_law09_ProofNows pre [a0] (.ret r) post :=
  meetsH_of_vc (C := Tz g) ann_law09_ProofNows hf_law09_ProofNows ok_law09_ProofNows nt_law09_ProofNows hk (pn := false) (Eq.mpr ((vcFn2_eq _ _ _ _ _ _ _ _).trans (vc_law09_ProofNows_eq g pre a0 r post)) h)
theorem meets_law09_ProofNows {g : GG} {a0 : D} {r : Res} (h : vc_law09_ProofNows (Tz g) [] (.d a0) r.val (r.bl.map .upd)) : Meets (Tz g) f_law09_ProofNows [a0] r := meetsH_law09_ProofNows rfl h
end Go.Vc

namespace Go.Vc
open Go Go.Proofs
variable {g : GG}
attribute [local simp] and_assoc
set_option maxHeartbeats 4000000 in
theorem nows_meets (hg : GOK g) (p : Pg) : Meets (Tz g) f_law09_ProofNows [p.d] ⟨.d (.bool true), []⟩ := by
  have hk := known_meets hg
  refine meets_law09_ProofNows ?_
  unfold vc_law09_ProofNows
  simp [Pg.d, lns, ents]
  refine CALL.val [p.d] _ rfl (law09_short_meets p) (.inl rfl) ?_
  cases hr : shortB p with
  | false =>
    simp [vc_law09_ProofNows_k5]
    exact known_call hk (by simp)
  | true =>
    obtain ⟨s1, s2, s3⟩ := shortB_len hr
    simp [vc_law09_ProofNows_k5]
    refine CALL.val [p.d] _ rfl (proof_Check_meets2 p s1 s2) (.inl rfl) ?_
    simp [vc_law09_ProofNows_k4]
    cases hok : p.ok with
    | false =>
      refine CALL.mk [p.d] _ rfl (proof_Now_bad p s1 s2 hok) (.inl rfl) (by simp) ?_
      simp
      refine CALL.mk [p.d] _ rfl (proof_Setters_bad p s1 s2 hok) (.inl rfl) (by simp) ?_
      simp [vc_law09_ProofNows_k3]
      refine CALL.val [p.d] _ rfl (ref09_Page_meets p (by omega) (by omega)) (.inl rfl) ?_
      simp [hok, vc_law09_ProofNows_k1, ints]
      exact known_call hk (by simp)
    | true =>
      obtain ⟨a1, a2, a3, a4, a5, a6, a7⟩ := Pg.ok_len hok
      have hnl := nowL_len hok
      have hsl := settersL_len hok
      refine CALL.mk [p.d] _ rfl (proof_Now_data p hok) (.inl rfl) (by simp) ?_
      simp
      refine CALL.mk [p.d] _ rfl (proof_Setters_data p hok) (.inl rfl) (by simp) ?_
      simp [vc_law09_ProofNows_k3]
      refine CALL.val [p.d] _ rfl (ref09_Page_meets p (by omega) (by omega)) (.inl rfl) ?_
      simp [hok, vc_law09_ProofNows_k2]
      refine CALL.val [p.d] _ rfl (ref09_Now_meets p hok) (.inl rfl) ?_
      refine CALL.val [ints (nowL p), ints (nowL p)] _ rfl (ref01_Same_meets _ _ (by omega) (by omega)) (.inl rfl) ?_
      simp [vc_law09_ProofNows_k0]
      refine CALL.val [p.d] _ rfl (ref09_Setters_meets p hok) (.inl rfl) ?_
      refine CALL.val [ints (settersL p), ints (settersL p)] _ rfl (ref01_Same_meets _ _ (by omega) (by omega)) (.inl rfl) ?_
      simp
      exact known_call hk (by simp)
end Go.Vc

namespace Go.Vc
open Go Go.RowKit Go.ChangeShapes Go.WideShapes Go.ChangeAt Go.Proofs Go.Proofs.YtgioiehcfpdmjaaGreatDoor
theorem nows_calls {H : Type} {enc : TypeId × Value → H} (W : World) (base : Nat) (args : Array Value) (ds : List (DataW H)) (ps : List MemPlace) (hval : ∀ (j : Nat) t v, Tryz.f8.params[j]? = some t → args[j]? = some v → Value.okWide Tryz.prog W .any base t v)
    (hA : DataW.TrodAll enc Tryz.prog W 0 (fun _ => true) true Tryz.f8.params.toList args.toList ds ps) (hL : laidMetH Tryz.prog laidL W) (hsh : W.ShapedOpen Tryz.prog) : Calls Tryz.prog 8 args W fun e W' => e = .returned (.bool true) ∧ Below W.heap.size W W' := by
  rw [Tryz.params8] at hA hval
  obtain ⟨v0, d0, rfl, rfl, h0⟩ := trodAll_one hA
  obtain ⟨x0, g0⟩ := open_page (hval 0 25 v0 rfl rfl) h0
  exact law_calls (C := Tz (gW W)) (nows_meets (gok hL hsh) x0) rfl (Below.refl _ _) (us := [v0]) rfl (fun i d u hd hu => by
    match i, hd, hu with
    | 0, hd, hu => simp at hd hu; subst hd; subst hu; exact g0
    | i + 1, hd, hu => simp at hd)
theorem nows_lifted (os : Os) (started : os.Started) (H : Type) (enc : TypeId × Value → H) :
    ReturnsInHanded {} Tryz.checked os 8 .any (fun w args => (Rows.proofNowsSpec.pre enc Tryz.prog Tryz.f8 [] false w args ∧ laidMetH Tryz.prog laidL w) ∧ sizedMet enc Tryz.prog Tryz.f8 (OpenSpec.ofChange Rows.proofNowsSpec) false w args)
      (Rows.proofNowsSpec.post enc Tryz.prog Tryz.f8 false true false false) :=
  law_lifted (C := Tryz.checked) (tb := 4) (n := 1) started own (by kernel_rfl) Tryz.func8
    (ChangeSpec.witness_shaped (enc := enc) (C := Tryz.checked) (os := os) (X := fun w _ => laidMetH Tryz.prog laidL w) false (World.laidAll Tryz.prog os laidL) #[.agg #[.int .i64 0, .slice none 0 0, .slice none 0 0]] 8 (World.laidAll_os _ _ _)
      (World.shaped_of_ZipB (by kernel_rfl) (by kernel_rfl)) (by kernel_rfl) (by kernel_rfl) (by kernel_rfl)
      (by rw [MakeChecks.laidMetH_plain _ _ _ (by kernel_rfl)]; exact laidMet_laidAll _ (by kernel_rfl) (by kernel_rfl)))
    laidOut (by kernel_rfl) (by kernel_rfl) Tryz.underlying4 rfl (by kernel_rfl) (fun ds hl => by
      match ds, hl with
      | [a], _ => rfl) nows_calls
theorem nows_holds : Rows.ProofNowsSaid :=
  OpenClaim.holds_of_wide 8 Tryz.f8 rfl rfl rfl rfl rfl rfl rfl ⟨rfl, rfl, rfl, rfl, rfl⟩ rfl rfl rfl rfl rfl (by kernel_rfl) Tryz.func8 (by kernel_rfl)
    (of_decide_eq_true (by kernel_rfl)) (by unfold Func.isWrapper; first | (rw [if_pos (by decide +kernel)]; kernel_rfl) | (rw [if_neg (by decide +kernel)]; exact ⟨rfl, rfl⟩))
    (fun os started H enc _ => nows_lifted os started H enc)
theorem nows_card : Rows.ProofNowsCardSaid :=
  Claim7.holds_tied_plain_at .later [] [.data, .data, .data, .data, .pinned] true (true, "f63971ea16358a06a349bb87f86ba2a01064c7a23a9665925165b0b2e51bcf1e") true nows_holds (fun _ h => by cases h) (by kernel_rfl) (fun _ h => by cases h) proofNows_row_tie rfl ⟨rfl, rfl⟩ (by kernel_rfl) rfl
    (fun f fn hf hfn => by
      obtain rfl : f = 8 := Option.some.inj ((show Tryz.prog.funcNamed "ephemerist/ephemeristlaw09.ProofNows" = some 8 by kernel_rfl).symm.trans hf) |>.symm
      obtain rfl : fn = Tryz.f8 := (Option.some.inj (Tryz.func8.symm.trans hfn)).symm
      exact ⟨by kernel_rfl, fun j t ht => by
        rw [Tryz.params8] at ht
        have hm : t ∈ [25] := by simpa using Array.mem_of_getElem? ht
        have hall : ([25].all fun u => !Tryz.prog.wantsStandIn u) = true := by kernel_rfl
        exact (show Tryz.prog.wantsStandIn t = false by simpa using List.all_eq_true.1 hall t hm)⟩)
    (by kernel_rfl)
end Go.Vc

namespace Go.Proofs.YtgioiehcfpdmjaaGreatDoor
theorem law_ProofNowsCardSaid : Rows.ProofNowsCardSaid := Go.Vc.nows_card
end Go.Proofs.YtgioiehcfpdmjaaGreatDoor
