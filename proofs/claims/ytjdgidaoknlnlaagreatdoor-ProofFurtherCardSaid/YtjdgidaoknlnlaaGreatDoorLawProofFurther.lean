/- Proves that the statement ProofFurtherCardSaid holds of the given program: for every input the law returns true and leaves its arguments as they were; under the row's own conditions, that the listed tables are laid as the program's text has them. -/
import Derived.Test.YtjdgidaoknlnlaaGreatDoorVc23
import Derived.Test.YtjdgidaoknlnlaaGreatDoorVc11
import Derived.Test.YtjdgidaoknlnlaaGreatDoorVc53
import Derived.Test.YtjdgidaoknlnlaaGreatDoorVc26
import Derived.Test.YtjdgidaoknlnlaaGreatDoorVc30
set_option maxRecDepth 100000
namespace Go.Vc
open Go Go.Proofs Go.RowKit
def ann_law09_ProofFurther : Nat → List Nat := fun n => match n with  | _ => []
def vc_law09_ProofFurther_k0 (P : Ctx) (pre : List ABlk) (r : AV) (post : List PB) (v0 : AV) (v2 : AV) (h3 : Heap) : Prop :=
  BIN 0 .eql v0 (.d (.num .i64 5)) fun v1 =>
  CONDG v1
  (LEN false v2 h3 fun v4 =>
  BIN 0 .eql v4 (.d (.num .i64 0)) fun v5 =>
  CONDG v5
  (CALL P f_law09_known [] 576 h3 (fun _ v7 h8 =>
  POST v7 h8 pre r post)
  (fun _ _ _ => False))
  (POST (.d (.bool false)) h3 pre r post))
  (POST (.d (.bool false)) h3 pre r post)
def vc_law09_ProofFurther_k1 (P : Ctx) (pre : List ABlk) (r : AV) (post : List PB) (v0 : AV) (v2 : AV) (v3 : AV) (h4 : Heap) : Prop :=
  BIN 0 .eql v0 (.d (.num .i64 0)) fun v1 =>
  CONDG v1
  (CALL P f_ref09_SamePairs [v2, v3] 552 h4 (fun _ v6 h7 =>
  CONDG v6
  (CALL P f_law09_known [] 576 h7 (fun _ v9 h10 =>
  POST v9 h10 pre r post)
  (fun _ _ _ => False))
  (POST (.d (.bool false)) h7 pre r post))
  (fun _ _ _ => False))
  (POST (.d (.bool false)) h4 pre r post)
def vc_law09_ProofFurther_k2 (P : Ctx) (pre : List ABlk) (r : AV) (post : List PB) (v0 : AV) (v4 : AV) (h6 : Heap) (v7 : AV) (v9 : AV) (v11 : AV) (v13 : AV) (v21 : AV) (v22 : AV) : Prop :=
  EXT v0 0 fun v1 =>
  EXT v0 1 fun v2 =>
  EXT v0 2 fun v3 =>
  BIN 0 .neq v4 (.d (.num .i64 0)) fun v5 =>
  CONDG v5
  (POST (.d (.bool false)) h6 pre r post)
  (BIN 0 .neq v7 v1 fun v8 =>
  CONDG v8
  (POST (.d (.bool false)) h6 pre r post)
  (BIN 0 .neq v9 v2 fun v10 =>
  CONDG v10
  (POST (.d (.bool false)) h6 pre r post)
  (BIN 0 .neq v11 v3 fun v12 =>
  COND v12
  (POST (.d (.bool false)) h6 pre r post)
  (LOAD true 3 v13 h6 fun v14 =>
  CALL P f_ref09_Fewest [v14] 448 h6 (fun _ v16 h17 =>
  EXT v16 0 fun v18 =>
  EXT v16 1 fun v19 =>
  NOT v19 fun v20 =>
  COND v20
  (vc_law09_ProofFurther_k0 P pre r post v21 v22 h17)
  (vc_law09_ProofFurther_k1 P pre r post v21 v22 v18 h17))
  (fun _ _ _ => False)))))
def vc_law09_ProofFurther_k3 (P : Ctx) (pre : List ABlk) (r : AV) (post : List PB) (v0 : AV) (v2 : AV) (v4 : AV) (v6 : AV) (v8 : AV) (v10 : AV) (v12 : AV) (h13 : Heap) (v19 : AV) : Prop :=
  NOT v0 fun v1 =>
  COND v1
  (BIN 0 .eql v2 (.d (.num .i64 2)) fun v3 =>
  CONDG v3
  (BIN 0 .eql v4 (.d (.num .i64 0)) fun v5 =>
  CONDG v5
  (BIN 0 .eql v6 (.d (.num .i64 0)) fun v7 =>
  CONDG v7
  (BIN 0 .eql v8 (.d (.num .i64 0)) fun v9 =>
  CONDG v9
  (BIN 0 .eql v10 (.d (.num .i64 2)) fun v11 =>
  CONDG v11
  (LEN false v12 h13 fun v14 =>
  BIN 0 .eql v14 (.d (.num .i64 0)) fun v15 =>
  CONDG v15
  (CALL P f_law09_known [] 424 h13 (fun _ v17 h18 =>
  POST v17 h18 pre r post)
  (fun _ _ _ => False))
  (POST (.d (.bool false)) h13 pre r post))
  (POST (.d (.bool false)) h13 pre r post))
  (POST (.d (.bool false)) h13 pre r post))
  (POST (.d (.bool false)) h13 pre r post))
  (POST (.d (.bool false)) h13 pre r post))
  (POST (.d (.bool false)) h13 pre r post))
  (LOAD true 3 v19 h13 fun v20 =>
  CALL P f_ref09_Best [v20] 240 h13 (fun _ v22 h23 =>
  vc_law09_ProofFurther_k2 P pre r post v22 v2 h23 v4 v6 v8 v19 v10 v12)
  (fun _ _ _ => False))
def vc_law09_ProofFurther_k4 (P : Ctx) (pre : List ABlk) (r : AV) (post : List PB) (v0 : AV) (v5 : AV) (h6 : Heap) : Prop :=
  EXT v0 0 fun v1 =>
  EXT v0 1 fun v2 =>
  EXT v0 2 fun v3 =>
  EXT v0 3 fun v4 =>
  LOAD true 3 v5 h6 fun v7 =>
  CALL P f_proof_Fewest [v7] 160 h6 (fun _ v9 h10 =>
  EXT v9 0 fun v11 =>
  EXT v9 1 fun v12 =>
  LOAD true 3 v5 h10 fun v13 =>
  CALL P f_ref09_Page [v13] 216 h10 (fun _ v15 h16 =>
  vc_law09_ProofFurther_k3 P pre r post v15 v4 v1 v2 v3 v12 v11 h16 v5)
  (fun _ _ _ => False))
  (fun _ _ _ => False)
def vc_law09_ProofFurther_k5 (P : Ctx) (pre : List ABlk) (r : AV) (post : List PB) (v0 : AV) (h2 : Heap) (v6 : AV) : Prop :=
  NOT v0 fun v1 =>
  COND v1
  (CALL P f_law09_known [] 64 h2 (fun _ v4 h5 =>
  POST v4 h5 pre r post)
  (fun _ _ _ => False))
  (LOAD true 3 v6 h2 fun v7 =>
  CALL P f_proof_Best [v7] 72 h2 (fun _ v9 h10 =>
  vc_law09_ProofFurther_k4 P pre r post v9 v6 h10)
  (fun _ _ _ => False))
def vc_law09_ProofFurther (P : Ctx) (pre : List ABlk) (a0 : AV) (r : AV) (post : List PB) : Prop :=
  let h0 : Heap := numbered 0 pre
  BOX T_api_ProofPage a0 24 h0 fun v1 h1 =>
  LOAD true 3 v1 h1 fun v14 =>
  CALL P f_law09_short [v14] 48 h1 (fun _ v15 h2 =>
  vc_law09_ProofFurther_k5 P pre r post v15 h2 v1)
  (fun _ _ _ => False)
theorem vc_law09_ProofFurther_eq (g : GG) (pre : List ABlk) (a0 : AV) (r : AV) (post : List PB) : vcFn2 (Tz g) false ann_law09_ProofFurther Tryz.f7 pre [a0] (.ret r) post = vc_law09_ProofFurther (Tz g) pre a0 r post := by kernel_rfl
theorem hf_law09_ProofFurther : Tryz.prog.funcs[f_law09_ProofFurther]? = some Tryz.f7 := by kernel_rfl
theorem ok_law09_ProofFurther : fnVcOK Tryz.prog Tryz.f7 = true := by kernel_rfl
theorem nt_law09_ProofFurther : Nat.ble 1 Tryz.f7.ntmps = true := by kernel_rfl
theorem meetsH_law09_ProofFurther {g : GG} {pre : List ABlk} {a0 : AV} {r : AV} {post : List PB} (hk : Nat.ble pre.length 24 = true) (h : vc_law09_ProofFurther (Tz g) pre a0 r post) : MeetsH (Tz g) f_law09_ProofFurther pre [a0] (.ret r) post :=
  meetsH_of_vc (C := Tz g) ann_law09_ProofFurther hf_law09_ProofFurther ok_law09_ProofFurther nt_law09_ProofFurther hk (pn := false) (Eq.mpr ((vcFn2_eq _ _ _ _ _ _ _ _).trans (vc_law09_ProofFurther_eq g pre a0 r post)) h)
theorem meets_law09_ProofFurther {g : GG} {a0 : D} {r : Res} (h : vc_law09_ProofFurther (Tz g) [] (.d a0) r.val (r.bl.map .upd)) : Meets (Tz g) f_law09_ProofFurther [a0] r := meetsH_law09_ProofFurther rfl h
end Go.Vc

namespace Go.Vc
open Go Go.Proofs
variable {g : GG}
attribute [local simp] and_assoc
set_option maxHeartbeats 4000000 in
theorem further_meets (hg : GOK g) (p : Pg) : Meets (Tz g) f_law09_ProofFurther [p.d] ⟨.d (.bool true), []⟩ := by
  have hk := known_meets hg
  refine meets_law09_ProofFurther ?_
  unfold vc_law09_ProofFurther
  simp [Pg.d, lns, ents]
  refine CALL.val [p.d] _ rfl (law09_short_meets p) (.inl rfl) ?_
  cases hr : shortB p with
  | false =>
    simp [vc_law09_ProofFurther_k5]
    exact known_call hk (by simp)
  | true =>
    obtain ⟨s1, s2, s3⟩ := shortB_len hr
    simp [vc_law09_ProofFurther_k5]
    cases hok : p.ok with
    | false =>
      refine CALL.mk [p.d] _ rfl (proof_Best_bad p s1 s2 hok) (.inl rfl) (by simp) ?_
      simp [vc_law09_ProofFurther_k4]
      refine CALL.mk [p.d] _ rfl (proof_Fewest_bad p s1 s2 hok) (.inl rfl) (by simp) ?_
      simp
      refine CALL.val [p.d] _ rfl (ref09_Page_meets p (by omega) (by omega)) (.inl rfl) ?_
      simp [hok, vc_law09_ProofFurther_k3, prsD]
      exact known_call hk (by simp)
    | true =>
      obtain ⟨a1, a2, a3, a4, a5, a6, a7⟩ := Pg.ok_len hok
      have hF := proof_Fewest_data (g := g) p hok
      have hR := ref09_Fewest_meets (g := g) p hok
      have hlen : ∀ x, fewP p = some x → x.length ≤ 2 := fun x h => (fewP_ok hok h).1
      refine CALL.mk [p.d] _ rfl (proof_Best_data p hok) (.inl rfl) (by simp) ?_
      simp [vc_law09_ProofFurther_k4]
      refine CALL.mk [p.d] _ rfl hF (.inl rfl) (by simp) ?_
      simp
      refine CALL.val [p.d] _ rfl (ref09_Page_meets p (by omega) (by omega)) (.inl rfl) ?_
      simp [hok, vc_law09_ProofFurther_k3]
      refine CALL.mk [p.d] _ rfl (ref09_Best_meets p hok) (.inl rfl) (by simp) ?_
      simp [vc_law09_ProofFurther_k2]
      refine CALL.mk [p.d] _ rfl hR (.inl rfl) (by simp) ?_
      cases hf : fewP p with
      | none =>
        simp [vc_law09_ProofFurther_k0, prsD]
        exact known_call hk (by simp)
      | some x =>
        have := hlen x hf
        simp [vc_law09_ProofFurther_k1, prsD]
        refine CALL.val [prsD x, prsD x] _ rfl (ref09_SamePairs_meets x (by omega)) (.inl rfl) ?_
        simp
        exact known_call hk (by simp)
end Go.Vc

namespace Go.Vc
open Go Go.RowKit Go.ChangeShapes Go.WideShapes Go.ChangeAt Go.Proofs Go.Proofs.YtjdgidaoknlnlaaGreatDoor
theorem further_calls {H : Type} {enc : TypeId × Value → H} (W : World) (base : Nat) (args : Array Value) (ds : List (DataW H)) (ps : List MemPlace) (hval : ∀ (j : Nat) t v, Tryz.f7.params[j]? = some t → args[j]? = some v → Value.okWide Tryz.prog W .any base t v)
    (hA : DataW.TrodAll enc Tryz.prog W 0 (fun _ => true) true Tryz.f7.params.toList args.toList ds ps) (hL : laidMetH Tryz.prog laidL W) (hsh : W.ShapedOpen Tryz.prog) : Calls Tryz.prog 7 args W fun e W' => e = .returned (.bool true) ∧ Below W.heap.size W W' := by
  rw [Tryz.params7] at hA hval
  obtain ⟨v0, d0, rfl, rfl, h0⟩ := trodAll_one hA
  obtain ⟨x0, g0⟩ := open_page (hval 0 25 v0 rfl rfl) h0
  exact law_calls (C := Tz (gW W)) (further_meets (gok hL hsh) x0) rfl (Below.refl _ _) (us := [v0]) rfl (fun i d u hd hu => by
    match i, hd, hu with
    | 0, hd, hu => simp at hd hu; subst hd; subst hu; exact g0
    | i + 1, hd, hu => simp at hd)
theorem further_lifted (os : Os) (started : os.Started) (H : Type) (enc : TypeId × Value → H) :
    ReturnsInHanded {} Tryz.checked os 7 .any (fun w args => (Rows.proofFurtherSpec.pre enc Tryz.prog Tryz.f7 [] false w args ∧ laidMetH Tryz.prog laidL w) ∧ sizedMet enc Tryz.prog Tryz.f7 (OpenSpec.ofChange Rows.proofFurtherSpec) false w args)
      (Rows.proofFurtherSpec.post enc Tryz.prog Tryz.f7 false true false false) :=
  law_lifted (C := Tryz.checked) (tb := 4) (n := 1) started own (by kernel_rfl) Tryz.func7
    (ChangeSpec.witness_shaped (enc := enc) (C := Tryz.checked) (os := os) (X := fun w _ => laidMetH Tryz.prog laidL w) false (World.laidAll Tryz.prog os laidL) #[.agg #[.int .i64 0, .slice none 0 0, .slice none 0 0]] 8 (World.laidAll_os _ _ _)
      (World.shaped_of_ZipB (by kernel_rfl) (by kernel_rfl)) (by kernel_rfl) (by kernel_rfl) (by kernel_rfl)
      (by rw [MakeChecks.laidMetH_plain _ _ _ (by kernel_rfl)]; exact laidMet_laidAll _ (by kernel_rfl) (by kernel_rfl)))
    laidOut (by kernel_rfl) (by kernel_rfl) Tryz.underlying4 rfl (by kernel_rfl) (fun ds hl => by
      match ds, hl with
      | [a], _ => rfl) further_calls
theorem further_holds : Rows.ProofFurtherSaid :=
  OpenClaim.holds_of_wide 7 Tryz.f7 rfl rfl rfl rfl rfl rfl rfl ⟨rfl, rfl, rfl, rfl, rfl⟩ rfl rfl rfl rfl rfl (by kernel_rfl) Tryz.func7 (by kernel_rfl)
    (of_decide_eq_true (by kernel_rfl)) (by unfold Func.isWrapper; first | (rw [if_pos (by decide +kernel)]; kernel_rfl) | (rw [if_neg (by decide +kernel)]; exact ⟨rfl, rfl⟩))
    (fun os started H enc _ => further_lifted os started H enc)
theorem further_card : Rows.ProofFurtherCardSaid :=
  Claim7.holds_tied_plain_at .later [] [.data, .data, .data, .data, .pinned] true (true, "495f881b3e202b99a64ff79fc2e3da44c1da7b54a021e43e5cad857e0faeda86") true further_holds (fun _ h => by cases h) (by kernel_rfl) (fun _ h => by cases h) proofFurther_row_tie rfl ⟨rfl, rfl⟩ (by kernel_rfl) rfl
    (fun f fn hf hfn => by
      obtain rfl : f = 7 := Option.some.inj ((show Tryz.prog.funcNamed "ephemerist/ephemeristlaw09.ProofFurther" = some 7 by kernel_rfl).symm.trans hf) |>.symm
      obtain rfl : fn = Tryz.f7 := (Option.some.inj (Tryz.func7.symm.trans hfn)).symm
      exact ⟨by kernel_rfl, fun j t ht => by
        rw [Tryz.params7] at ht
        have hm : t ∈ [25] := by simpa using Array.mem_of_getElem? ht
        have hall : ([25].all fun u => !Tryz.prog.wantsStandIn u) = true := by kernel_rfl
        exact (show Tryz.prog.wantsStandIn t = false by simpa using List.all_eq_true.1 hall t hm)⟩)
    (by kernel_rfl)
end Go.Vc

namespace Go.Proofs.YtjdgidaoknlnlaaGreatDoor
theorem law_ProofFurtherCardSaid : Rows.ProofFurtherCardSaid := Go.Vc.further_card
end Go.Proofs.YtjdgidaoknlnlaaGreatDoor
