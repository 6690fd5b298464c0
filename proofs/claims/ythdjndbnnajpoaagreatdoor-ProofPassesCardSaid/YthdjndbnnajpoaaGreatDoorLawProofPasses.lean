/- Proves that the statement ProofPassesCardSaid holds of the given program: for every input the law returns true and leaves its arguments as they were; under the row's own conditions, that the listed tables are laid as the program's text has them. -/
import Derived.Test.YthdjndbnnajpoaaGreatDoorVc23
import Derived.Test.YthdjndbnnajpoaaGreatDoorVc11
import Derived.Test.YthdjndbnnajpoaaGreatDoorVc42
import Derived.Test.YthdjndbnnajpoaaGreatDoorVc26
import Derived.Test.YthdjndbnnajpoaaGreatDoorVc30
set_option maxRecDepth 100000
namespace Go.Vc
open Go Go.Proofs Go.RowKit
def ann_law09_ProofPasses : Nat → List Nat := fun n => match n with  | _ => []
def vc_law09_ProofPasses_k0 (P : Ctx) (pre : List ABlk) (r : AV) (post : List PB) (v0 : AV) (v1 : AV) (v3 : AV) (h4 : Heap) (v9 : AV) : Prop :=
  CONDG v0
  (BIN 0 .eql v1 (.d (.num .i64 0)) fun v2 =>
  CONDG v2
  (LOAD true 3 v3 h4 fun v5 =>
  CALL P f_ref09_Pass [v5] 320 h4 (fun _ v7 h8 =>
  BIN 999 .eql v9 v7 fun v10 =>
  CONDG v10
  (CALL P f_law09_known [] 352 h8 (fun _ v12 h13 =>
  POST v12 h13 pre r post)
  (fun _ _ _ => False))
  (POST (.d (.bool false)) h8 pre r post))
  (fun _ _ _ => False))
  (POST (.d (.bool false)) h4 pre r post))
  (POST (.d (.bool false)) h4 pre r post)
def vc_law09_ProofPasses_k1 (P : Ctx) (pre : List ABlk) (r : AV) (post : List PB) (v0 : AV) (v2 : AV) (h3 : Heap) (v6 : AV) (v8 : AV) : Prop :=
  BIN 0 .eql v0 (.d (.num .i64 2)) fun v1 =>
  CONDG v1
  (LEN false v2 h3 fun v4 =>
  BIN 0 .eql v4 (.d (.num .i64 0)) fun v5 =>
  CONDG v5
  (BIN 0 .eql v6 (.d (.num .i64 2)) fun v7 =>
  CONDG v7
  (NOT v8 fun v9 =>
  CONDG v9
  (CALL P f_law09_known [] 328 h3 (fun _ v11 h12 =>
  POST v11 h12 pre r post)
  (fun _ _ _ => False))
  (POST (.d (.bool false)) h3 pre r post))
  (POST (.d (.bool false)) h3 pre r post))
  (POST (.d (.bool false)) h3 pre r post))
  (POST (.d (.bool false)) h3 pre r post)
def vc_law09_ProofPasses_k2 (P : Ctx) (pre : List ABlk) (r : AV) (post : List PB) (v0 : AV) (v2 : AV) (h3 : Heap) (v8 : AV) (v12 : AV) (v13 : AV) : Prop :=
  BIN 0 .eql v0 (.d (.num .i64 0)) fun v1 =>
  CONDG v1
  (LOAD true 3 v2 h3 fun v4 =>
  CALL P f_ref09_Passes [v4] 240 h3 (fun _ v6 h7 =>
  CALL P f_ref01_Same [v8, v6] 248 h7 (fun _ v10 h11 =>
  vc_law09_ProofPasses_k0 P pre r post v10 v12 v2 h11 v13)
  (fun _ _ _ => False))
  (fun _ _ _ => False))
  (POST (.d (.bool false)) h3 pre r post)
def vc_law09_ProofPasses_k3 (P : Ctx) (pre : List ABlk) (r : AV) (post : List PB) (v0 : AV) (v3 : AV) (h4 : Heap) (v10 : AV) (v11 : AV) : Prop :=
  EXT v0 0 fun v1 =>
  EXT v0 1 fun v2 =>
  LOAD true 3 v3 h4 fun v5 =>
  CALL P f_ref09_Page [v5] 184 h4 (fun _ v7 h8 =>
  NOT v7 fun v9 =>
  COND v9
  (vc_law09_ProofPasses_k1 P pre r post v10 v11 h8 v2 v1)
  (vc_law09_ProofPasses_k2 P pre r post v10 v3 h8 v11 v2 v1))
  (fun _ _ _ => False)
def vc_law09_ProofPasses_k4 (P : Ctx) (pre : List ABlk) (r : AV) (post : List PB) (v0 : AV) (h2 : Heap) (v6 : AV) : Prop :=
  NOT v0 fun v1 =>
  COND v1
  (CALL P f_law09_known [] 64 h2 (fun _ v4 h5 =>
  POST v4 h5 pre r post)
  (fun _ _ _ => False))
  (LOAD true 3 v6 h2 fun v7 =>
  CALL P f_proof_Passes [v7] 72 h2 (fun _ v9 h10 =>
  EXT v9 0 fun v11 =>
  EXT v9 1 fun v12 =>
  LOAD true 3 v6 h10 fun v13 =>
  CALL P f_proof_Pass [v13] 128 h10 (fun _ v15 h16 =>
  vc_law09_ProofPasses_k3 P pre r post v15 v6 h16 v12 v11)
  (fun _ _ _ => False))
  (fun _ _ _ => False))
def vc_law09_ProofPasses (P : Ctx) (pre : List ABlk) (a0 : AV) (r : AV) (post : List PB) : Prop :=
  let h0 : Heap := numbered 0 pre
  BOX T_api_ProofPage a0 24 h0 fun v1 h1 =>
  LOAD true 3 v1 h1 fun v7 =>
  CALL P f_law09_short [v7] 48 h1 (fun _ v8 h2 =>
  vc_law09_ProofPasses_k4 P pre r post v8 h2 v1)
  (fun _ _ _ => False)
theorem vc_law09_ProofPasses_eq (g : GG) (pre : List ABlk) (a0 : AV) (r : AV) (post : List PB) : vcFn2 (Tz g) false ann_law09_ProofPasses Tryz.f6 pre [a0] (.ret r) post = vc_law09_ProofPasses (Tz g) pre a0 r post := by kernel_rfl
theorem hf_law09_ProofPasses : Tryz.prog.funcs[f_law09_ProofPasses]? = some Tryz.f6 := by kernel_rfl
theorem ok_law09_ProofPasses : fnVcOK Tryz.prog Tryz.f6 = true := by kernel_rfl
theorem nt_law09_ProofPasses : Nat.ble 1 Tryz.f6.ntmps = true := by kernel_rfl
theorem meetsH_law09_ProofPasses {g : GG} {pre : List ABlk} {a0 : AV} {r : AV} {post : List PB} (hk : Nat.ble pre.length 24 = true) (h : vc_law09_ProofPasses (Tz g) pre a0 r post) : MeetsH (Tz g) f_law09_ProofPasses pre [a0] (.ret r) post :=
  meetsH_of_vc (C := Tz g) ann_law09_ProofPasses hf_law09_ProofPasses ok_law09_ProofPasses nt_law09_ProofPasses hk (pn := false) (Eq.mpr ((vcFn2_eq _ _ _ _ _ _ _ _).trans (vc_law09_ProofPasses_eq g pre a0 r post)) h)
theorem meets_law09_ProofPasses {g : GG} {a0 : D} {r : Res} (h : vc_law09_ProofPasses (Tz g) [] (.d a0) r.val (r.bl.map .upd)) : Meets (Tz g) f_law09_ProofPasses [a0] r := meetsH_law09_ProofPasses rfl h
end Go.Vc

namespace Go.Vc
open Go Go.Proofs
variable {g : GG}
attribute [local simp] and_assoc
set_option maxHeartbeats 4000000 in
theorem passes_law_meets (hg : GOK g) (p : Pg) : Meets (Tz g) f_law09_ProofPasses [p.d] ⟨.d (.bool true), []⟩ := by
  have hk := known_meets hg
  refine meets_law09_ProofPasses ?_
  unfold vc_law09_ProofPasses
  simp [Pg.d, lns, ents]
  refine CALL.val [p.d] _ rfl (law09_short_meets p) (.inl rfl) ?_
  cases hr : shortB p with
  | false =>
    simp [vc_law09_ProofPasses_k4]
    exact known_call hk (by simp)
  | true =>
    obtain ⟨s1, s2, s3⟩ := shortB_len hr
    simp [vc_law09_ProofPasses_k4]
    cases hok : p.ok with
    | false =>
      refine CALL.mk [p.d] _ rfl (proof_Passes_bad p s1 s2 hok) (.inl rfl) (by simp) ?_
      simp
      refine CALL.mk [p.d] _ rfl (proof_Pass_bad p s1 s2 hok) (.inl rfl) (by simp) ?_
      simp [vc_law09_ProofPasses_k3]
      refine CALL.val [p.d] _ rfl (ref09_Page_meets p (by omega) (by omega)) (.inl rfl) ?_
      simp [hok, vc_law09_ProofPasses_k1, ints]
      exact known_call hk (by simp)
    | true =>
      obtain ⟨a1, a2, a3, a4, a5, a6, a7⟩ := Pg.ok_len hok
      have hl := passP_len p
      refine CALL.mk [p.d] _ rfl (proof_Passes_data p hok) (.inl rfl) (by simp) ?_
      simp
      refine CALL.mk [p.d] _ rfl (proof_Pass_data p hok) (.inl rfl) (by simp) ?_
      simp [vc_law09_ProofPasses_k3]
      refine CALL.val [p.d] _ rfl (ref09_Page_meets p (by omega) (by omega)) (.inl rfl) ?_
      simp [hok, vc_law09_ProofPasses_k2]
      refine CALL.mk [p.d] _ rfl (ref09_Passes_meets p hok) (.inl rfl) (by simp) ?_
      simp
      refine CALL.val [ints (passP p), ints (passP p)] _ rfl (ref01_Same_meets _ _ (by omega) (by omega)) (.inl rfl) ?_
      simp [vc_law09_ProofPasses_k0]
      refine CALL.val [p.d] _ rfl (ref09_Pass_meets p hok) (.inl rfl) ?_
      simp
      exact known_call hk (by simp)
end Go.Vc

namespace Go.Vc
open Go Go.RowKit Go.ChangeShapes Go.WideShapes Go.ChangeAt Go.Proofs Go.Proofs.YthdjndbnnajpoaaGreatDoor
theorem passes_law_calls {H : Type} {enc : TypeId × Value → H} (W : World) (base : Nat) (args : Array Value) (ds : List (DataW H)) (ps : List MemPlace) (hval : ∀ (j : Nat) t v, Tryz.f6.params[j]? = some t → args[j]? = some v → Value.okWide Tryz.prog W .any base t v)
    (hA : DataW.TrodAll enc Tryz.prog W 0 (fun _ => true) true Tryz.f6.params.toList args.toList ds ps) (hL : laidMetH Tryz.prog laidL W) (hsh : W.ShapedOpen Tryz.prog) : Calls Tryz.prog 6 args W fun e W' => e = .returned (.bool true) ∧ Below W.heap.size W W' := by
  rw [Tryz.params6] at hA hval
  obtain ⟨v0, d0, rfl, rfl, h0⟩ := trodAll_one hA
  obtain ⟨x0, g0⟩ := open_page (hval 0 25 v0 rfl rfl) h0
  exact law_calls (C := Tz (gW W)) (passes_law_meets (gok hL hsh) x0) rfl (Below.refl _ _) (us := [v0]) rfl (fun i d u hd hu => by
    match i, hd, hu with
    | 0, hd, hu => simp at hd hu; subst hd; subst hu; exact g0
    | i + 1, hd, hu => simp at hd)
theorem passes_law_lifted (os : Os) (started : os.Started) (H : Type) (enc : TypeId × Value → H) :
    ReturnsInHanded {} Tryz.checked os 6 .any (fun w args => (Rows.proofPassesSpec.pre enc Tryz.prog Tryz.f6 [] false w args ∧ laidMetH Tryz.prog laidL w) ∧ sizedMet enc Tryz.prog Tryz.f6 (OpenSpec.ofChange Rows.proofPassesSpec) false w args)
      (Rows.proofPassesSpec.post enc Tryz.prog Tryz.f6 false true false false) :=
  law_lifted (C := Tryz.checked) (tb := 4) (n := 1) started own (by kernel_rfl) Tryz.func6
    (ChangeSpec.witness_shaped (enc := enc) (C := Tryz.checked) (os := os) (X := fun w _ => laidMetH Tryz.prog laidL w) false (World.laidAll Tryz.prog os laidL) #[.agg #[.int .i64 0, .slice none 0 0, .slice none 0 0]] 8 (World.laidAll_os _ _ _)
      (World.shaped_of_ZipB (by kernel_rfl) (by kernel_rfl)) (by kernel_rfl) (by kernel_rfl) (by kernel_rfl)
      (by rw [MakeChecks.laidMetH_plain _ _ _ (by kernel_rfl)]; exact laidMet_laidAll _ (by kernel_rfl) (by kernel_rfl)))
    laidOut (by kernel_rfl) (by kernel_rfl) Tryz.underlying4 rfl (by kernel_rfl) (fun ds hl => by
      match ds, hl with
      | [a], _ => rfl) passes_law_calls
theorem passes_law_holds : Rows.ProofPassesSaid :=
  OpenClaim.holds_of_wide 6 Tryz.f6 rfl rfl rfl rfl rfl rfl rfl ⟨rfl, rfl, rfl, rfl, rfl⟩ rfl rfl rfl rfl rfl (by kernel_rfl) Tryz.func6 (by kernel_rfl)
    (of_decide_eq_true (by kernel_rfl)) (by unfold Func.isWrapper; first | (rw [if_pos (by decide +kernel)]; kernel_rfl) | (rw [if_neg (by decide +kernel)]; exact ⟨rfl, rfl⟩))
    (fun os started H enc _ => passes_law_lifted os started H enc)
theorem passes_law_card : Rows.ProofPassesCardSaid :=
  Claim7.holds_tied_plain_at .later [] [.data, .data, .data, .data, .pinned] true (true, "37bfc3ba26a816bdd744f413de7fa5ad01d8f38205d20d0bea52d9922db35776") true passes_law_holds (fun _ h => by cases h) (by kernel_rfl) (fun _ h => by cases h) proofPasses_row_tie rfl ⟨rfl, rfl⟩ (by kernel_rfl) rfl
    (fun f fn hf hfn => by
      obtain rfl : f = 6 := Option.some.inj ((show Tryz.prog.funcNamed "ephemerist/ephemeristlaw09.ProofPasses" = some 6 by kernel_rfl).symm.trans hf) |>.symm
      obtain rfl : fn = Tryz.f6 := (Option.some.inj (Tryz.func6.symm.trans hfn)).symm
      exact ⟨by kernel_rfl, fun j t ht => by
        rw [Tryz.params6] at ht
        have hm : t ∈ [25] := by simpa using Array.mem_of_getElem? ht
        have hall : ([25].all fun u => !Tryz.prog.wantsStandIn u) = true := by kernel_rfl
        exact (show Tryz.prog.wantsStandIn t = false by simpa using List.all_eq_true.1 hall t hm)⟩)
    (by kernel_rfl)
end Go.Vc

namespace Go.Proofs.YthdjndbnnajpoaaGreatDoor
theorem law_ProofPassesCardSaid : Rows.ProofPassesCardSaid := Go.Vc.passes_law_card
end Go.Proofs.YthdjndbnnajpoaaGreatDoor
