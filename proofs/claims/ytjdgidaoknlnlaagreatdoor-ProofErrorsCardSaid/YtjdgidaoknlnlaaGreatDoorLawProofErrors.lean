/- Proves that the statement ProofErrorsCardSaid holds of the given program: for every input the law returns true and leaves its arguments as they were; under the row's own conditions, that the listed tables are laid as the program's text has them. -/
import Derived.Test.YtjdgidaoknlnlaaGreatDoorVc23
import Derived.Test.YtjdgidaoknlnlaaGreatDoorVc11
import Derived.Test.YtjdgidaoknlnlaaGreatDoorVc46
import Derived.Test.YtjdgidaoknlnlaaGreatDoorVc26
import Derived.Test.YtjdgidaoknlnlaaGreatDoorVc30
set_option maxRecDepth 100000
namespace Go.Vc
open Go Go.Proofs Go.RowKit
def ann_law09_ProofErrors : Nat → List Nat := fun n => match n with  | _ => []
def vc_law09_ProofErrors_k0 (P : Ctx) (pre : List ABlk) (r : AV) (post : List PB) (v0 : AV) (v2 : AV) (v4 : AV) (h5 : Heap) : Prop :=
  BIN 0 .eql v0 (.d (.num .i64 5)) fun v1 =>
  CONDG v1
  (BIN 0 .eql v2 (.d (.num .i64 5)) fun v3 =>
  CONDG v3
  (LEN false v4 h5 fun v6 =>
  BIN 0 .eql v6 (.d (.num .i64 0)) fun v7 =>
  CONDG v7
  (CALL P f_law09_known [] 464 h5 (fun _ v9 h10 =>
  POST v9 h10 pre r post)
  (fun _ _ _ => False))
  (POST (.d (.bool false)) h5 pre r post))
  (POST (.d (.bool false)) h5 pre r post))
  (POST (.d (.bool false)) h5 pre r post)
def vc_law09_ProofErrors_k1 (P : Ctx) (pre : List ABlk) (r : AV) (post : List PB) (v0 : AV) (v2 : AV) (v3 : AV) (h4 : Heap) : Prop :=
  BIN 0 .eql v0 (.d (.num .i64 0)) fun v1 =>
  CONDG v1
  (CALL P f_ref02_SameErrors [v2, v3] 408 h4 (fun _ v6 h7 =>
  CONDG v6
  (CALL P f_law09_known [] 432 h7 (fun _ v9 h10 =>
  POST v9 h10 pre r post)
  (fun _ _ _ => False))
  (POST (.d (.bool false)) h7 pre r post))
  (fun _ _ _ => False))
  (POST (.d (.bool false)) h4 pre r post)
def vc_law09_ProofErrors_k2 (P : Ctx) (pre : List ABlk) (r : AV) (post : List PB) (v0 : AV) (h3 : Heap) (v4 : AV) (h5 : Heap) (rd6 : List Nat) (h7 : Heap) (rd8 : List Nat) (h9 : Heap) (rd10 : List Nat) (v12 : AV) (v13 : AV) : Prop :=
  EXT v0 0 fun v1 =>
  EXT v0 1 fun v2 =>
  ORDX [] [0, 1, 0, 7, 15, 31, 63, 63, 127, 511] [(0, wr h3 h3, (ids v4)), (1, wr h3 h5, rd6), (2, wr h5 h5, (ids v4)), (3, wr h5 h7, rd8), (4, wr h7 h9, rd10)] ∧
  BIN 0 .neq v2 (.d (.num .i64 0)) fun v11 =>
  COND v11
  (vc_law09_ProofErrors_k0 P pre r post v2 v12 v13 h9)
  (vc_law09_ProofErrors_k1 P pre r post v12 v13 v1 h9)
def vc_law09_ProofErrors_k3 (P : Ctx) (pre : List ABlk) (r : AV) (post : List PB) (v0 : AV) (h1 : Heap) (v6 : AV) (h10 : Heap) (rd11 : List Nat) (v12 : AV) (v13 : AV) : Prop :=
  LOAD true 3 v0 h1 fun v2 =>
  CALL P f_ref09_Now [v2] 296 h1 (fun rd3 v4 h5 =>
  CALL P f_hands_Errors [v6, v4] 304 h5 (fun rd7 v8 h9 =>
  vc_law09_ProofErrors_k2 P pre r post v8 h10 v0 h1 rd11 h5 rd3 h9 rd7 v12 v13)
  (fun _ _ _ => False))
  (fun _ _ _ => False)
def vc_law09_ProofErrors_k4 (P : Ctx) (pre : List ABlk) (r : AV) (post : List PB) (v0 : AV) (v1 : AV) (h2 : Heap) (v7 : AV) (v12 : AV) (v13 : AV) : Prop :=
  CALL P f_ref01_Same [v0, v1] 248 h2 (fun _ v4 h5 =>
  NOT v4 fun v6 =>
  COND v6
  (POST (.d (.bool false)) h5 pre r post)
  (LOAD true 3 v7 h5 fun v8 =>
  CALL P f_ref09_Rights [v8] 280 h5 (fun rd9 v10 h11 =>
  vc_law09_ProofErrors_k3 P pre r post v7 h11 v10 h5 rd9 v12 v13)
  (fun _ _ _ => False)))
  (fun _ _ _ => False)
def vc_law09_ProofErrors_k5 (P : Ctx) (pre : List ABlk) (r : AV) (post : List PB) (v0 : AV) (v2 : AV) (h3 : Heap) (v6 : AV) (v8 : AV) : Prop :=
  BIN 0 .eql v0 (.d (.num .i64 2)) fun v1 =>
  CONDG v1
  (LEN false v2 h3 fun v4 =>
  BIN 0 .eql v4 (.d (.num .i64 0)) fun v5 =>
  CONDG v5
  (BIN 0 .eql v6 (.d (.num .i64 2)) fun v7 =>
  CONDG v7
  (LEN false v8 h3 fun v9 =>
  BIN 0 .eql v9 (.d (.num .i64 0)) fun v10 =>
  CONDG v10
  (CALL P f_law09_known [] 336 h3 (fun _ v12 h13 =>
  POST v12 h13 pre r post)
  (fun _ _ _ => False))
  (POST (.d (.bool false)) h3 pre r post))
  (POST (.d (.bool false)) h3 pre r post))
  (POST (.d (.bool false)) h3 pre r post))
  (POST (.d (.bool false)) h3 pre r post)
def vc_law09_ProofErrors_k6 (P : Ctx) (pre : List ABlk) (r : AV) (post : List PB) (v0 : AV) (h2 : Heap) (v3 : AV) (v8 : AV) (v9 : AV) (v10 : AV) : Prop :=
  BIN 0 .neq v0 (.d (.num .i64 0)) fun v1 =>
  CONDG v1
  (POST (.d (.bool false)) h2 pre r post)
  (LOAD true 3 v3 h2 fun v4 =>
  CALL P f_ref09_Differs [v4] 240 h2 (fun _ v6 h7 =>
  vc_law09_ProofErrors_k4 P pre r post v8 v6 h7 v3 v9 v10)
  (fun _ _ _ => False))
def vc_law09_ProofErrors_k7 (P : Ctx) (pre : List ABlk) (r : AV) (post : List PB) (v0 : AV) (v3 : AV) (h4 : Heap) (v10 : AV) (v11 : AV) : Prop :=
  EXT v0 0 fun v1 =>
  EXT v0 1 fun v2 =>
  LOAD true 3 v3 h4 fun v5 =>
  CALL P f_ref09_Page [v5] 184 h4 (fun _ v7 h8 =>
  NOT v7 fun v9 =>
  COND v9
  (vc_law09_ProofErrors_k5 P pre r post v10 v11 h8 v2 v1)
  (vc_law09_ProofErrors_k6 P pre r post v10 h8 v3 v11 v2 v1))
  (fun _ _ _ => False)
def vc_law09_ProofErrors_k8 (P : Ctx) (pre : List ABlk) (r : AV) (post : List PB) (v0 : AV) (h2 : Heap) (v6 : AV) : Prop :=
  NOT v0 fun v1 =>
  COND v1
  (CALL P f_law09_known [] 64 h2 (fun _ v4 h5 =>
  POST v4 h5 pre r post)
  (fun _ _ _ => False))
  (LOAD true 3 v6 h2 fun v7 =>
  CALL P f_proof_Differs [v7] 72 h2 (fun _ v9 h10 =>
  EXT v9 0 fun v11 =>
  EXT v9 1 fun v12 =>
  LOAD true 3 v6 h10 fun v13 =>
  CALL P f_proof_Errors [v13] 128 h10 (fun _ v15 h16 =>
  vc_law09_ProofErrors_k7 P pre r post v15 v6 h16 v12 v11)
  (fun _ _ _ => False))
  (fun _ _ _ => False))
def vc_law09_ProofErrors (P : Ctx) (pre : List ABlk) (a0 : AV) (r : AV) (post : List PB) : Prop :=
  let h0 : Heap := numbered 0 pre
  BOX T_api_ProofPage a0 24 h0 fun v1 h1 =>
  LOAD true 3 v1 h1 fun v9 =>
  CALL P f_law09_short [v9] 48 h1 (fun _ v10 h2 =>
  vc_law09_ProofErrors_k8 P pre r post v10 h2 v1)
  (fun _ _ _ => False)
theorem vc_law09_ProofErrors_eq (g : GG) (pre : List ABlk) (a0 : AV) (r : AV) (post : List PB) : vcFn2 (Tz g) false ann_law09_ProofErrors Tryz.f3 pre [a0] (.ret r) post = vc_law09_ProofErrors (Tz g) pre a0 r post := by kernel_rfl
theorem hf_law09_ProofErrors : Tryz.prog.funcs[f_law09_ProofErrors]? = some Tryz.f3 := by kernel_rfl
theorem ok_law09_ProofErrors : fnVcOK Tryz.prog Tryz.f3 = true := by kernel_rfl
theorem nt_law09_ProofErrors : Nat.ble 1 Tryz.f3.ntmps = true := by kernel_rfl
theorem meetsH_law09_ProofErrors {g : GG} {pre : List ABlk} {a0 : AV} {r : AV} {post : List PB} (hk : Nat.ble pre.length 24 = true) (h : vc_law09_ProofErrors (Tz g) pre a0 r post) : MeetsH (Tz g) f_law09_ProofErrors pre [a0] (.ret r) post :=
  meetsH_of_vc (C := Tz g) ann_law09_ProofErrors hf_law09_ProofErrors ok_law09_ProofErrors nt_law09_ProofErrors hk (pn := false) (Eq.mpr ((vcFn2_eq _ _ _ _ _ _ _ _).trans (vc_law09_ProofErrors_eq g pre a0 r post)) h)
theorem meets_law09_ProofErrors {g : GG} {a0 : D} {r : Res} (h : vc_law09_ProofErrors (Tz g) [] (.d a0) r.val (r.bl.map .upd)) : Meets (Tz g) f_law09_ProofErrors [a0] r := meetsH_law09_ProofErrors rfl h
end Go.Vc

namespace Go.Vc
open Go Go.Proofs
variable {g : GG}
attribute [local simp] and_assoc
theorem errC_cases (fr bs : List Int) : errC fr bs = 0 ∨ (errC fr bs = 5 ∧ errL fr bs = []) := by
  unfold errC errL
  cases errN fr bs bs.length with
  | some l => exact .inl rfl
  | none => exact .inr ⟨rfl, rfl⟩
theorem errL_len (fr bs : List Int) : (errL fr bs).length ≤ bs.length := by
  unfold errL
  cases h : errN fr bs bs.length with
  | some l => exact errN_len _ _ _ _ h
  | none => simp
set_option maxHeartbeats 4000000 in
theorem errs_meets (hg : GOK g) (p : Pg) : Meets (Tz g) f_law09_ProofErrors [p.d] ⟨.d (.bool true), []⟩ := by
  have hk := known_meets hg
  refine meets_law09_ProofErrors ?_
  unfold vc_law09_ProofErrors
  simp [Pg.d, lns, ents]
  refine CALL.val [p.d] _ rfl (law09_short_meets p) (.inl rfl) ?_
  cases hr : shortB p with
  | false =>
    simp [vc_law09_ProofErrors_k8]
    exact known_call hk (by simp)
  | true =>
    obtain ⟨s1, s2, s3⟩ := shortB_len hr
    simp [vc_law09_ProofErrors_k8]
    cases hok : p.ok with
    | false =>
      refine CALL.mk [p.d] _ rfl (proof_Differs_bad p s1 s2 hok) (.inl rfl) (by simp) ?_
      simp
      refine CALL.mk [p.d] _ rfl (proof_Errors_bad p s1 s2 hok) (.inl rfl) (by simp) ?_
      simp [vc_law09_ProofErrors_k7]
      refine CALL.val [p.d] _ rfl (ref09_Page_meets p (by omega) (by omega)) (.inl rfl) ?_
      simp [hok, vc_law09_ProofErrors_k5, ints]
      exact known_call hk (by simp)
    | true =>
      obtain ⟨a1, a2, a3, a4, a5, a6, a7⟩ := Pg.ok_len hok
      have hE := hands_Errors_meets (g := g) (rightsL p) (nowL p) (rights_col hok) (now_col hok) (rights_now hok)
      have hdl := difL_len p
      have hel := errL_len (rightsL p) (nowL p)
      have hnl := nowL_len hok
      refine CALL.mk [p.d] _ rfl (proof_Differs_data p hok) (.inl rfl) (by simp) ?_
      simp
      refine CALL.mk [p.d] _ rfl (proof_Errors_data p hok) (.inl rfl) (by simp) ?_
      simp [vc_law09_ProofErrors_k7]
      refine CALL.val [p.d] _ rfl (ref09_Page_meets p (by omega) (by omega)) (.inl rfl) ?_
      simp [hok, vc_law09_ProofErrors_k6]
      refine CALL.val [p.d] _ rfl (ref09_Differs_meets p hok) (.inl rfl) ?_
      simp [vc_law09_ProofErrors_k4]
      refine CALL.val [ints (difL p), ints (difL p)] _ rfl (ref01_Same_meets _ _ (by omega) (by omega)) (.inl rfl) ?_
      simp
      refine CALL.val [p.d] _ rfl (ref09_Rights_meets p hok) (.inl rfl) ?_
      simp [vc_law09_ProofErrors_k3]
      refine CALL.val [p.d] _ rfl (ref09_Now_meets p hok) (.inl rfl) ?_
      refine CALL.mk [ints (rightsL p), ints (nowL p)] _ rfl hE (.inl rfl) (by simp) ?_
      simp [vc_law09_ProofErrors_k2]
      refine ⟨rfl, ?_⟩
      have e1 : errCP p = errC (rightsL p) (nowL p) := rfl
      have e2 : errLP p = errL (rightsL p) (nowL p) := rfl
      rw [e1, e2]
      rcases errC_cases (rightsL p) (nowL p) with h | ⟨h, h'⟩
      · simp [h, vc_law09_ProofErrors_k1]
        refine CALL.val [.list ((errL (rightsL p) (nowL p)).map errD), .list ((errL (rightsL p) (nowL p)).map errD)] _ (by simp [lookH]) (ref02_SameErrors_meets _ (by omega)) (.inr rfl) ?_
        simp
        exact known_call hk (by simp)
      · simp [h, h', vc_law09_ProofErrors_k0]
        exact known_call hk (by simp)
end Go.Vc

namespace Go.Vc
open Go Go.RowKit Go.ChangeShapes Go.WideShapes Go.ChangeAt Go.Proofs Go.Proofs.YtjdgidaoknlnlaaGreatDoor
theorem errs_calls {H : Type} {enc : TypeId × Value → H} (W : World) (base : Nat) (args : Array Value) (ds : List (DataW H)) (ps : List MemPlace) (hval : ∀ (j : Nat) t v, Tryz.f3.params[j]? = some t → args[j]? = some v → Value.okWide Tryz.prog W .any base t v)
    (hA : DataW.TrodAll enc Tryz.prog W 0 (fun _ => true) true Tryz.f3.params.toList args.toList ds ps) (hL : laidMetH Tryz.prog laidL W) (hsh : W.ShapedOpen Tryz.prog) : Calls Tryz.prog 3 args W fun e W' => e = .returned (.bool true) ∧ Below W.heap.size W W' := by
  rw [Tryz.params3] at hA hval
  obtain ⟨v0, d0, rfl, rfl, h0⟩ := trodAll_one hA
  obtain ⟨x0, g0⟩ := open_page (hval 0 25 v0 rfl rfl) h0
  exact law_calls (C := Tz (gW W)) (errs_meets (gok hL hsh) x0) rfl (Below.refl _ _) (us := [v0]) rfl (fun i d u hd hu => by
    match i, hd, hu with
    | 0, hd, hu => simp at hd hu; subst hd; subst hu; exact g0
    | i + 1, hd, hu => simp at hd)
theorem errs_lifted (os : Os) (started : os.Started) (H : Type) (enc : TypeId × Value → H) :
    ReturnsInHanded {} Tryz.checked os 3 .any (fun w args => (Rows.proofErrorsSpec.pre enc Tryz.prog Tryz.f3 [] false w args ∧ laidMetH Tryz.prog laidL w) ∧ sizedMet enc Tryz.prog Tryz.f3 (OpenSpec.ofChange Rows.proofErrorsSpec) false w args)
      (Rows.proofErrorsSpec.post enc Tryz.prog Tryz.f3 false true false false) :=
  law_lifted (C := Tryz.checked) (tb := 4) (n := 1) started own (by kernel_rfl) Tryz.func3
    (ChangeSpec.witness_shaped (enc := enc) (C := Tryz.checked) (os := os) (X := fun w _ => laidMetH Tryz.prog laidL w) false (World.laidAll Tryz.prog os laidL) #[.agg #[.int .i64 0, .slice none 0 0, .slice none 0 0]] 8 (World.laidAll_os _ _ _)
      (World.shaped_of_ZipB (by kernel_rfl) (by kernel_rfl)) (by kernel_rfl) (by kernel_rfl) (by kernel_rfl)
      (by rw [MakeChecks.laidMetH_plain _ _ _ (by kernel_rfl)]; exact laidMet_laidAll _ (by kernel_rfl) (by kernel_rfl)))
    laidOut (by kernel_rfl) (by kernel_rfl) Tryz.underlying4 rfl (by kernel_rfl) (fun ds hl => by
      match ds, hl with
      | [a], _ => rfl) errs_calls
theorem errs_holds : Rows.ProofErrorsSaid :=
  OpenClaim.holds_of_wide 3 Tryz.f3 rfl rfl rfl rfl rfl rfl rfl ⟨rfl, rfl, rfl, rfl, rfl⟩ rfl rfl rfl rfl rfl (by kernel_rfl) Tryz.func3 (by kernel_rfl)
    (of_decide_eq_true (by kernel_rfl)) (by unfold Func.isWrapper; first | (rw [if_pos (by decide +kernel)]; kernel_rfl) | (rw [if_neg (by decide +kernel)]; exact ⟨rfl, rfl⟩))
    (fun os started H enc _ => errs_lifted os started H enc)
theorem errs_card : Rows.ProofErrorsCardSaid :=
  Claim7.holds_tied_plain_at .later [] [.data, .data, .data, .data, .pinned] true (true, "495f881b3e202b99a64ff79fc2e3da44c1da7b54a021e43e5cad857e0faeda86") true errs_holds (fun _ h => by cases h) (by kernel_rfl) (fun _ h => by cases h) proofErrors_row_tie rfl ⟨rfl, rfl⟩ (by kernel_rfl) rfl
    (fun f fn hf hfn => by
      obtain rfl : f = 3 := Option.some.inj ((show Tryz.prog.funcNamed "ephemerist/ephemeristlaw09.ProofErrors" = some 3 by kernel_rfl).symm.trans hf) |>.symm
      obtain rfl : fn = Tryz.f3 := (Option.some.inj (Tryz.func3.symm.trans hfn)).symm
      exact ⟨by kernel_rfl, fun j t ht => by
        rw [Tryz.params3] at ht
        have hm : t ∈ [25] := by simpa using Array.mem_of_getElem? ht
        have hall : ([25].all fun u => !Tryz.prog.wantsStandIn u) = true := by kernel_rfl
        exact (show Tryz.prog.wantsStandIn t = false by simpa using List.all_eq_true.1 hall t hm)⟩)
    (by kernel_rfl)
end Go.Vc

namespace Go.Proofs.YtjdgidaoknlnlaaGreatDoor
theorem law_ProofErrorsCardSaid : Rows.ProofErrorsCardSaid := Go.Vc.errs_card
end Go.Proofs.YtjdgidaoknlnlaaGreatDoor
