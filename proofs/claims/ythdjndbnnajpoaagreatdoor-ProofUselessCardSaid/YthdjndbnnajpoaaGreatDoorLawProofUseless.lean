/- Proves that the statement ProofUselessCardSaid holds of the given program: for every input the law returns true and leaves its arguments as they were; under the row's own conditions, that the listed tables are laid as the program's text has them. -/
import Derived.Test.YthdjndbnnajpoaaGreatDoorVc23
import Derived.Test.YthdjndbnnajpoaaGreatDoorVc11
import Derived.Test.YthdjndbnnajpoaaGreatDoorVc39
import Derived.Test.YthdjndbnnajpoaaGreatDoorVc26
import Derived.Test.YthdjndbnnajpoaaGreatDoorVc30
set_option maxRecDepth 100000
namespace Go.Vc
open Go Go.Proofs Go.RowKit
def ann_law09_ProofUseless : Nat → List Nat := fun n => match n with  | _ => []
def vc_law09_ProofUseless_k0 (P : Ctx) (pre : List ABlk) (r : AV) (post : List PB) (v0 : AV) (v2 : AV) (h3 : Heap) : Prop :=
  BIN 0 .eql v0 (.d (.num .i64 2)) fun v1 =>
  CONDG v1
  (LEN false v2 h3 fun v4 =>
  BIN 0 .eql v4 (.d (.num .i64 0)) fun v5 =>
  CONDG v5
  (CALL P f_law09_known [] 208 h3 (fun _ v7 h8 =>
  POST v7 h8 pre r post)
  (fun _ _ _ => False))
  (POST (.d (.bool false)) h3 pre r post))
  (POST (.d (.bool false)) h3 pre r post)
def vc_law09_ProofUseless_k1 (P : Ctx) (pre : List ABlk) (r : AV) (post : List PB) (v0 : AV) (v2 : AV) (h3 : Heap) (v8 : AV) : Prop :=
  BIN 0 .eql v0 (.d (.num .i64 0)) fun v1 =>
  CONDG v1
  (LOAD true 3 v2 h3 fun v4 =>
  CALL P f_ref09_Useless [v4] 184 h3 (fun _ v6 h7 =>
  CALL P f_ref01_Same [v8, v6] 192 h7 (fun _ v10 h11 =>
  CONDG v10
  (CALL P f_law09_known [] 216 h11 (fun _ v13 h14 =>
  POST v13 h14 pre r post)
  (fun _ _ _ => False))
  (POST (.d (.bool false)) h11 pre r post))
  (fun _ _ _ => False))
  (fun _ _ _ => False))
  (POST (.d (.bool false)) h3 pre r post)
def vc_law09_ProofUseless_k2 (P : Ctx) (pre : List ABlk) (r : AV) (post : List PB) (v0 : AV) (v3 : AV) (h4 : Heap) : Prop :=
  EXT v0 0 fun v1 =>
  EXT v0 1 fun v2 =>
  LOAD true 3 v3 h4 fun v5 =>
  CALL P f_ref09_Page [v5] 128 h4 (fun _ v7 h8 =>
  NOT v7 fun v9 =>
  COND v9
  (vc_law09_ProofUseless_k0 P pre r post v2 v1 h8)
  (vc_law09_ProofUseless_k1 P pre r post v2 v3 h8 v1))
  (fun _ _ _ => False)
def vc_law09_ProofUseless_k3 (P : Ctx) (pre : List ABlk) (r : AV) (post : List PB) (v0 : AV) (h2 : Heap) (v6 : AV) : Prop :=
  NOT v0 fun v1 =>
  COND v1
  (CALL P f_law09_known [] 64 h2 (fun _ v4 h5 =>
  POST v4 h5 pre r post)
  (fun _ _ _ => False))
  (LOAD true 3 v6 h2 fun v7 =>
  CALL P f_proof_Useless [v7] 72 h2 (fun _ v9 h10 =>
  vc_law09_ProofUseless_k2 P pre r post v9 v6 h10)
  (fun _ _ _ => False))
def vc_law09_ProofUseless (P : Ctx) (pre : List ABlk) (a0 : AV) (r : AV) (post : List PB) : Prop :=
  let h0 : Heap := numbered 0 pre
  BOX T_api_ProofPage a0 24 h0 fun v1 h1 =>
  LOAD true 3 v1 h1 fun v5 =>
  CALL P f_law09_short [v5] 48 h1 (fun _ v6 h2 =>
  vc_law09_ProofUseless_k3 P pre r post v6 h2 v1)
  (fun _ _ _ => False)
theorem vc_law09_ProofUseless_eq (g : GG) (pre : List ABlk) (a0 : AV) (r : AV) (post : List PB) : vcFn2 (Tz g) false ann_law09_ProofUseless Tryz.f12 pre [a0] (.ret r) post = vc_law09_ProofUseless (Tz g) pre a0 r post := by kernel_rfl
theorem hf_law09_ProofUseless : Tryz.prog.funcs[f_law09_ProofUseless]? = some Tryz.f12 := by kernel_rfl
theorem ok_law09_ProofUseless : fnVcOK Tryz.prog Tryz.f12 = true := by kernel_rfl
theorem nt_law09_ProofUseless : Nat.ble 1 Tryz.f12.ntmps = true := by kernel_rfl
theorem meetsH_law09_ProofUseless {g : GG} {pre : List ABlk} {a0 : AV} {r : AV} {post : List PB} (hk : Nat.ble pre.length 24 = true) (h : vc_law09_ProofUseless (Tz g) pre a0 r post) : MeetsH (Tz g) f_law09_ProofUseless pre [a0] (.ret r) post :=
  meetsH_of_vc (C := Tz g) ann_law09_ProofUseless hf_law09_ProofUseless ok_law09_ProofUseless nt_law09_ProofUseless hk (pn := false) (Eq.mpr ((vcFn2_eq _ _ _ _ _ _ _ _).trans (vc_law09_ProofUseless_eq g pre a0 r post)) h)
theorem meets_law09_ProofUseless {g : GG} {a0 : D} {r : Res} (h : vc_law09_ProofUseless (Tz g) [] (.d a0) r.val (r.bl.map .upd)) : Meets (Tz g) f_law09_ProofUseless [a0] r := meetsH_law09_ProofUseless rfl h
end Go.Vc

namespace Go.Vc
open Go Go.Proofs
variable {g : GG}
attribute [local simp] and_assoc
set_option maxHeartbeats 4000000 in
theorem useless_meets (hg : GOK g) (p : Pg) : Meets (Tz g) f_law09_ProofUseless [p.d] ⟨.d (.bool true), []⟩ := by
  have hk := known_meets hg
  refine meets_law09_ProofUseless ?_
  unfold vc_law09_ProofUseless
  simp [Pg.d, lns, ents]
  refine CALL.val [p.d] _ rfl (law09_short_meets p) (.inl rfl) ?_
  cases hr : shortB p with
  | false =>
    simp [vc_law09_ProofUseless_k3]
    exact known_call hk (by simp)
  | true =>
    obtain ⟨s1, s2, s3⟩ := shortB_len hr
    simp [vc_law09_ProofUseless_k3]
    cases hok : p.ok with
    | false =>
      refine CALL.mk [p.d] _ rfl (proof_Useless_bad p s1 s2 hok) (.inl rfl) (by simp) ?_
      simp [vc_law09_ProofUseless_k2]
      refine CALL.val [p.d] _ rfl (ref09_Page_meets p (by omega) (by omega)) (.inl rfl) ?_
      simp [hok, vc_law09_ProofUseless_k0, ints]
      exact known_call hk (by simp)
    | true =>
      obtain ⟨a1, a2, a3, a4, a5, a6, a7⟩ := Pg.ok_len hok
      have hl := uslL_len p
      refine CALL.mk [p.d] _ rfl (proof_Useless_data p hok) (.inl rfl) (by simp) ?_
      simp [vc_law09_ProofUseless_k2]
      refine CALL.val [p.d] _ rfl (ref09_Page_meets p (by omega) (by omega)) (.inl rfl) ?_
      simp [hok, vc_law09_ProofUseless_k1]
      refine CALL.mk [p.d] _ rfl (ref09_Useless_meets p hok) (.inl rfl) (by simp) ?_
      simp
      refine CALL.val [ints (uslL p), ints (uslL p)] _ rfl (ref01_Same_meets _ _ (by omega) (by omega)) (.inl rfl) ?_
      simp
      exact known_call hk (by simp)
end Go.Vc

namespace Go.Vc
open Go Go.RowKit Go.ChangeShapes Go.WideShapes Go.ChangeAt Go.Proofs Go.Proofs.YthdjndbnnajpoaaGreatDoor
theorem useless_calls {H : Type} {enc : TypeId × Value → H} (W : World) (base : Nat) (args : Array Value) (ds : List (DataW H)) (ps : List MemPlace) (hval : ∀ (j : Nat) t v, Tryz.f12.params[j]? = some t → args[j]? = some v → Value.okWide Tryz.prog W .any base t v)
    (hA : DataW.TrodAll enc Tryz.prog W 0 (fun _ => true) true Tryz.f12.params.toList args.toList ds ps) (hL : laidMetH Tryz.prog laidL W) (hsh : W.ShapedOpen Tryz.prog) : Calls Tryz.prog 12 args W fun e W' => e = .returned (.bool true) ∧ Below W.heap.size W W' := by
  rw [Tryz.params12] at hA hval
  obtain ⟨v0, d0, rfl, rfl, h0⟩ := trodAll_one hA
  obtain ⟨x0, g0⟩ := open_page (hval 0 25 v0 rfl rfl) h0
  exact law_calls (C := Tz (gW W)) (useless_meets (gok hL hsh) x0) rfl (Below.refl _ _) (us := [v0]) rfl (fun i d u hd hu => by
    match i, hd, hu with
    | 0, hd, hu => simp at hd hu; subst hd; subst hu; exact g0
    | i + 1, hd, hu => simp at hd)
theorem useless_lifted (os : Os) (started : os.Started) (H : Type) (enc : TypeId × Value → H) :
    ReturnsInHanded {} Tryz.checked os 12 .any (fun w args => (Rows.proofUselessSpec.pre enc Tryz.prog Tryz.f12 [] false w args ∧ laidMetH Tryz.prog laidL w) ∧ sizedMet enc Tryz.prog Tryz.f12 (OpenSpec.ofChange Rows.proofUselessSpec) false w args)
      (Rows.proofUselessSpec.post enc Tryz.prog Tryz.f12 false true false false) :=
  law_lifted (C := Tryz.checked) (tb := 4) (n := 1) started own (by kernel_rfl) Tryz.func12
    (ChangeSpec.witness_shaped (enc := enc) (C := Tryz.checked) (os := os) (X := fun w _ => laidMetH Tryz.prog laidL w) false (World.laidAll Tryz.prog os laidL) #[.agg #[.int .i64 0, .slice none 0 0, .slice none 0 0]] 8 (World.laidAll_os _ _ _)
      (World.shaped_of_ZipB (by kernel_rfl) (by kernel_rfl)) (by kernel_rfl) (by kernel_rfl) (by kernel_rfl)
      (by rw [MakeChecks.laidMetH_plain _ _ _ (by kernel_rfl)]; exact laidMet_laidAll _ (by kernel_rfl) (by kernel_rfl)))
    laidOut (by kernel_rfl) (by kernel_rfl) Tryz.underlying4 rfl (by kernel_rfl) (fun ds hl => by
      match ds, hl with
      | [a], _ => rfl) useless_calls
theorem useless_holds : Rows.ProofUselessSaid :=
  OpenClaim.holds_of_wide 12 Tryz.f12 rfl rfl rfl rfl rfl rfl rfl ⟨rfl, rfl, rfl, rfl, rfl⟩ rfl rfl rfl rfl rfl (by kernel_rfl) Tryz.func12 (by kernel_rfl)
    (of_decide_eq_true (by kernel_rfl)) (by unfold Func.isWrapper; first | (rw [if_pos (by decide +kernel)]; kernel_rfl) | (rw [if_neg (by decide +kernel)]; exact ⟨rfl, rfl⟩))
    (fun os started H enc _ => useless_lifted os started H enc)
theorem useless_card : Rows.ProofUselessCardSaid :=
  Claim7.holds_tied_plain_at .later [] [.data, .data, .data, .data, .pinned] true (true, "37bfc3ba26a816bdd744f413de7fa5ad01d8f38205d20d0bea52d9922db35776") true useless_holds (fun _ h => by cases h) (by kernel_rfl) (fun _ h => by cases h) proofUseless_row_tie rfl ⟨rfl, rfl⟩ (by kernel_rfl) rfl
    (fun f fn hf hfn => by
      obtain rfl : f = 12 := Option.some.inj ((show Tryz.prog.funcNamed "ephemerist/ephemeristlaw09.ProofUseless" = some 12 by kernel_rfl).symm.trans hf) |>.symm
      obtain rfl : fn = Tryz.f12 := (Option.some.inj (Tryz.func12.symm.trans hfn)).symm
      exact ⟨by kernel_rfl, fun j t ht => by
        rw [Tryz.params12] at ht
        have hm : t ∈ [25] := by simpa using Array.mem_of_getElem? ht
        have hall : ([25].all fun u => !Tryz.prog.wantsStandIn u) = true := by kernel_rfl
        exact (show Tryz.prog.wantsStandIn t = false by simpa using List.all_eq_true.1 hall t hm)⟩)
    (by kernel_rfl)
end Go.Vc

namespace Go.Proofs.YthdjndbnnajpoaaGreatDoor
theorem law_ProofUselessCardSaid : Rows.ProofUselessCardSaid := Go.Vc.useless_card
end Go.Proofs.YthdjndbnnajpoaaGreatDoor
