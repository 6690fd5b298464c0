/- Proves that the statement DifferPrintsCardSaid holds of the given program: for every input the law returns true and leaves its arguments as they were; under the row's own conditions, that the listed tables are laid as the program's text has them. -/
import Derived.Test.YtgefgcdhnajocaaGreatDoorVc22
import Derived.Test.YtgefgcdhnajocaaGreatDoorVc11
import Derived.Test.YtgefgcdhnajocaaGreatDoorVc34
import Derived.Test.YtgefgcdhnajocaaGreatDoorVc25
import Derived.Test.YtgefgcdhnajocaaGreatDoorVc28
set_option maxRecDepth 100000
namespace Go.Vc
open Go Go.Proofs Go.RowKit
def ann_law01_DifferPrints : Nat → List Nat := fun n => match n with  | _ => []
def vc_law01_DifferPrints_k0 (P : Ctx) (pre : List ABlk) (r : AV) (post : List PB) (v0 : AV) (v1 : AV) (v3 : AV) (v5 : AV) (h6 : Heap) (v8 : AV) : Prop :=
  BIN 0 .eql v0 v1 fun v2 =>
  CONDG v2
  (BIN 0 .eql v3 (.d (.num .i64 0)) fun v4 =>
  CONDG v4
  (LOAD true 3 v5 h6 fun v7 =>
  LOAD true 3 v8 h6 fun v9 =>
  CALL P f_ref01_SamePlans [v7, v9] 328 h6 (fun _ v11 h12 =>
  CONDG v11
  (CALL P f_law01_known [] 352 h12 (fun _ v14 h15 =>
  POST v14 h15 pre r post)
  (fun _ _ _ => False))
  (POST (.d (.bool false)) h12 pre r post))
  (fun _ _ _ => False))
  (POST (.d (.bool false)) h6 pre r post))
  (POST (.d (.bool false)) h6 pre r post)
def vc_law01_DifferPrints_k1 (P : Ctx) (pre : List ABlk) (r : AV) (post : List PB) (v0 : AV) (h3 : Heap) (v7 : AV) (v9 : AV) (v14 : AV) : Prop :=
  EXT v0 0 fun v1 =>
  EXT v0 1 fun v2 =>
  ALLOC T_api_DifferPlan [.zc, .d (.num .i64 0), .d (.num .i64 0)] 184 h3 fun v4 h5 =>
  STORE 3 v4 v1 h5 fun h6 =>
  BIN 0 .eql v7 (.d (.num .i64 0)) fun v8 =>
  CONDG v8
  (LOAD true 3 v9 h6 fun v10 =>
  CALL P f_ref01_Print [v10] 248 h6 (fun _ v12 h13 =>
  vc_law01_DifferPrints_k0 P pre r post v14 v12 v2 v4 h13 v9)
  (fun _ _ _ => False))
  (POST (.d (.bool false)) h6 pre r post)
def vc_law01_DifferPrints_k2 (P : Ctx) (pre : List ABlk) (r : AV) (post : List PB) (v0 : AV) (v2 : AV) (v4 : AV) (h6 : Heap) (v13 : AV) : Prop :=
  NOT v0 fun v1 =>
  COND v1
  (BIN 0 .eql v2 (.d (.num .i64 2)) fun v3 =>
  CONDG v3
  (BIN 0 .eql v4 (.d (.str [])) fun v5 =>
  CONDG v5
  (CALL P f_law01_known [] 200 h6 (fun _ v8 h9 =>
  POST v8 h9 pre r post)
  (fun _ _ _ => False))
  (POST (.d (.bool false)) h6 pre r post))
  (POST (.d (.bool false)) h6 pre r post))
  (CALL P f_differ_Read [v4] 152 h6 (fun _ v11 h12 =>
  vc_law01_DifferPrints_k1 P pre r post v11 h12 v2 v13 v4)
  (fun _ _ _ => False))
def vc_law01_DifferPrints_k3 (P : Ctx) (pre : List ABlk) (r : AV) (post : List PB) (v0 : AV) (h2 : Heap) (v6 : AV) : Prop :=
  NOT v0 fun v1 =>
  COND v1
  (CALL P f_law01_known [] 64 h2 (fun _ v4 h5 =>
  POST v4 h5 pre r post)
  (fun _ _ _ => False))
  (LOAD true 3 v6 h2 fun v7 =>
  CALL P f_differ_Print [v7] 72 h2 (fun _ v9 h10 =>
  EXT v9 0 fun v11 =>
  EXT v9 1 fun v12 =>
  LOAD true 3 v6 h10 fun v13 =>
  CALL P f_ref01_Plan [v13] 128 h10 (fun _ v15 h16 =>
  vc_law01_DifferPrints_k2 P pre r post v15 v12 v11 h16 v6)
  (fun _ _ _ => False))
  (fun _ _ _ => False))
def vc_law01_DifferPrints (P : Ctx) (pre : List ABlk) (a0 : AV) (r : AV) (post : List PB) : Prop :=
  let h0 : Heap := numbered 0 pre
  BOX T_api_DifferPlan a0 24 h0 fun v1 h1 =>
  LOAD true 3 v1 h1 fun v7 =>
  CALL P f_law01_short [v7] 48 h1 (fun _ v8 h2 =>
  vc_law01_DifferPrints_k3 P pre r post v8 h2 v1)
  (fun _ _ _ => False)
theorem vc_law01_DifferPrints_eq (g : GG) (pre : List ABlk) (a0 : AV) (r : AV) (post : List PB) : vcFn2 (Tz g) false ann_law01_DifferPrints Tryz.f3 pre [a0] (.ret r) post = vc_law01_DifferPrints (Tz g) pre a0 r post := by kernel_rfl
theorem hf_law01_DifferPrints : Tryz.prog.funcs[f_law01_DifferPrints]? = some Tryz.f3 := by kernel_rfl
theorem ok_law01_DifferPrints : fnVcOK Tryz.prog Tryz.f3 = true := by kernel_rfl
theorem nt_law01_DifferPrints : Nat.ble 1 Tryz.f3.ntmps = true := by kernel_rfl
theorem meetsH_law01_DifferPrints {g : GG} {pre : List ABlk} {a0 : AV} {r : AV} {post : List PB} (hk : Nat.ble pre.length 24 = true) (h : vc_law01_DifferPrints (Tz g) pre a0 r post) : MeetsH (Tz g) f_law01_DifferPrints pre [a0] (.ret r) post :=
  meetsH_of_vc (C := Tz g) ann_law01_DifferPrints hf_law01_DifferPrints ok_law01_DifferPrints nt_law01_DifferPrints hk (pn := false) (Eq.mpr ((vcFn2_eq _ _ _ _ _ _ _ _).trans (vc_law01_DifferPrints_eq g pre a0 r post)) h)
theorem meets_law01_DifferPrints {g : GG} {a0 : D} {r : Res} (h : vc_law01_DifferPrints (Tz g) [] (.d a0) r.val (r.bl.map .upd)) : Meets (Tz g) f_law01_DifferPrints [a0] r := meetsH_law01_DifferPrints rfl h
end Go.Vc

namespace Go.Vc
open Go Go.Proofs
variable {g : GG}
attribute [local simp] and_assoc
theorem known_call (hg : GOK g) {new : Nat} {h : Heap} {K KP : List Nat → AV → Heap → Prop} (h3 : K [] (.d (.bool true)) h) : CALL (Tz g) f_law01_known [] new h K KP :=
  CALL.val [] _ rfl (known_meets hg) (.inl rfl) h3
set_option maxHeartbeats 4000000 in
theorem prints_meets (hg : GOK g) (p : Plan) : Meets (Tz g) f_law01_DifferPrints [p.d] ⟨.d (.bool true), []⟩ := by
  refine meets_law01_DifferPrints ?_
  unfold vc_law01_DifferPrints
  simp [Plan.d, spans]
  refine CALL.val [p.d] _ rfl (law01_short_meets p) (.inl rfl) ?_
  by_cases hr : p.starts.length ≤ 6
  · simp [vc_law01_DifferPrints_k3, hr]
    cases hok : p.ok with
    | false =>
      refine CALL.mk [p.d] _ rfl (differ_Print_bad p (by omega) hok) (.inl rfl) (by simp) ?_
      simp [vc_law01_DifferPrints_k2]
      refine CALL.val [p.d] _ rfl (ref01_Plan_meets p (by omega)) (.inl rfl) ?_
      simp [hok]
      exact known_call hg (by simp)
    | true =>
      have hT := TxOK_ok hok
      have hR := differ_Read_data hg (textP p) (text_short hok) p (read_text hok) hok
      refine CALL.mk [p.d] _ rfl (differ_Print_data hg p hok hT) (.inl rfl) (by simp) ?_
      simp [vc_law01_DifferPrints_k2]
      refine CALL.val [p.d] _ rfl (ref01_Plan_meets p (by omega)) (.inl rfl) ?_
      simp [hok]
      refine CALL.mk [.str (textP p)] _ rfl hR (.inl rfl) (by simp) ?_
      simp [vc_law01_DifferPrints_k1, lookH, Plan.d, spans]
      refine CALL.val [p.d] _ rfl (ref01_Print_meets p hT) (.inl rfl) ?_
      simp [vc_law01_DifferPrints_k0, lookH]
      refine CALL.val [p.d, p.d] _ rfl (samePlans_meets p p (by omega) (by omega)) (.inl rfl) ?_
      simp
      exact known_call hg (by simp)
  · simp [vc_law01_DifferPrints_k3, hr]
    exact known_call hg (by simp)
end Go.Vc

namespace Go.Vc
open Go Go.RowKit Go.ChangeShapes Go.WideShapes Go.ChangeAt Go.Proofs Go.Proofs.YtgefgcdhnajocaaGreatDoor
theorem prints_calls {H : Type} {enc : TypeId × Value → H} (W : World) (base : Nat) (args : Array Value) (ds : List (DataW H)) (ps : List MemPlace) (hval : ∀ (j : Nat) t v, Tryz.f3.params[j]? = some t → args[j]? = some v → Value.okWide Tryz.prog W .any base t v)
    (hA : DataW.TrodAll enc Tryz.prog W 0 (fun _ => true) true Tryz.f3.params.toList args.toList ds ps) (hL : laidMetH Tryz.prog laidL W) (hsh : W.ShapedOpen Tryz.prog) : Calls Tryz.prog 3 args W fun e W' => e = .returned (.bool true) ∧ Below W.heap.size W W' := by
  rw [Tryz.params3] at hA hval
  obtain ⟨v0, d0, rfl, rfl, h0⟩ := trodAll_one hA
  obtain ⟨x0, g0⟩ := open_plan (hval 0 24 v0 rfl rfl) h0
  exact law_calls (C := Tz (gW W)) (prints_meets (gok hL hsh) x0) rfl (Below.refl _ _) (us := [v0]) rfl (fun i d u hd hu => by
    match i, hd, hu with
    | 0, hd, hu => simp at hd hu; subst hd; subst hu; exact g0
    | i + 1, hd, hu => simp at hd)
theorem prints_lifted (os : Os) (started : os.Started) (H : Type) (enc : TypeId × Value → H) :
    ReturnsInHanded {} Tryz.checked os 3 .any (fun w args => (Rows.differPrintsSpec.pre enc Tryz.prog Tryz.f3 [] false w args ∧ laidMetH Tryz.prog laidL w) ∧ sizedMet enc Tryz.prog Tryz.f3 (OpenSpec.ofChange Rows.differPrintsSpec) false w args)
      (Rows.differPrintsSpec.post enc Tryz.prog Tryz.f3 false true false false) :=
  law_lifted (C := Tryz.checked) (tb := 4) (n := 1) started own (by kernel_rfl) Tryz.func3
    (ChangeSpec.witness_shaped (enc := enc) (C := Tryz.checked) (os := os) (X := fun w _ => laidMetH Tryz.prog laidL w) false (World.laidAll Tryz.prog os laidL) #[.agg #[.slice none 0 0, .int .i64 0, .int .i64 0]] 8 (World.laidAll_os _ _ _)
      (World.shaped_of_ZipB (by kernel_rfl) (by kernel_rfl)) (by kernel_rfl) (by kernel_rfl) (by kernel_rfl)
      (by rw [MakeChecks.laidMetH_plain _ _ _ (by kernel_rfl)]; exact laidMet_laidAll _ (by kernel_rfl) (by kernel_rfl)))
    laidOut (by kernel_rfl) (by kernel_rfl) Tryz.underlying4 rfl (by kernel_rfl) (fun ds hl => by
      match ds, hl with
      | [a], _ => rfl) prints_calls
theorem prints_holds : Rows.DifferPrintsSaid :=
  OpenClaim.holds_of_wide 3 Tryz.f3 rfl rfl rfl rfl rfl rfl rfl ⟨rfl, rfl, rfl, rfl, rfl⟩ rfl rfl rfl rfl rfl (by kernel_rfl) Tryz.func3 (by kernel_rfl)
    (of_decide_eq_true (by kernel_rfl)) (by unfold Func.isWrapper; first | (rw [if_pos (by decide +kernel)]; kernel_rfl) | (rw [if_neg (by decide +kernel)]; exact ⟨rfl, rfl⟩))
    (fun os started H enc _ => prints_lifted os started H enc)
theorem prints_card : Rows.DifferPrintsCardSaid :=
  Claim7.holds_tied_plain_at .later [] [.data, .data, .data, .data, .pinned] true (true, "17e287eddc80e72b3d1414ba8a48c47e6c465e578cf6cd2aa5ce0611fd86f656") true prints_holds (fun _ h => by cases h) (by kernel_rfl) (fun _ h => by cases h) differPrints_row_tie rfl ⟨rfl, rfl⟩ (by kernel_rfl) rfl
    (fun f fn hf hfn => by
      obtain rfl : f = 3 := Option.some.inj ((show Tryz.prog.funcNamed "ephemerist/ephemeristlaw01.DifferPrints" = some 3 by kernel_rfl).symm.trans hf) |>.symm
      obtain rfl : fn = Tryz.f3 := (Option.some.inj (Tryz.func3.symm.trans hfn)).symm
      exact ⟨by kernel_rfl, fun j t ht => by
        rw [Tryz.params3] at ht
        have hm : t ∈ [24] := by simpa using Array.mem_of_getElem? ht
        have hall : ([24].all fun u => !Tryz.prog.wantsStandIn u) = true := by kernel_rfl
        exact (show Tryz.prog.wantsStandIn t = false by simpa using List.all_eq_true.1 hall t hm)⟩)
    (by kernel_rfl)
end Go.Vc

namespace Go.Proofs.YtgefgcdhnajocaaGreatDoor
theorem law_DifferPrintsCardSaid : Rows.DifferPrintsCardSaid := Go.Vc.prints_card
end Go.Proofs.YtgefgcdhnajocaaGreatDoor
