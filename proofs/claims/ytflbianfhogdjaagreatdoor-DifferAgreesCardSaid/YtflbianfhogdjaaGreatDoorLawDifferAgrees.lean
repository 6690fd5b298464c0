/- Proves that the statement DifferAgreesCardSaid holds of the given program: for every input the law returns true and leaves its arguments as they were; under the row's own conditions, that the listed tables are laid as the program's text has them. -/
import Derived.Test.YtflbianfhogdjaaGreatDoorVc22
import Derived.Test.YtflbianfhogdjaaGreatDoorVc11
import Derived.Test.YtflbianfhogdjaaGreatDoorVc42
import Derived.Test.YtflbianfhogdjaaGreatDoorVc30
import Derived.Test.YtflbianfhogdjaaGreatDoorVc43
set_option maxRecDepth 100000
namespace Go.Vc
open Go Go.Proofs Go.RowKit
def ann_law01_DifferAgrees : Nat → List Nat := fun n => match n with  | _ => []
def vc_law01_DifferAgrees_k0 (P : Ctx) (pre : List ABlk) (r : AV) (post : List PB) (v0 : AV) (v2 : AV) (h3 : Heap) : Prop :=
  BIN 0 .eql v0 (.d (.num .i64 7)) fun v1 =>
  CONDG v1
  (LEN false v2 h3 fun v4 =>
  BIN 0 .eql v4 (.d (.num .i64 0)) fun v5 =>
  CONDG v5
  (CALL P f_law01_known [] 488 h3 (fun _rd6 v7 h8 =>
  POST v7 h8 pre r post)
  (fun _ _ _ => False))
  (POST (.d (.bool false)) h3 pre r post))
  (POST (.d (.bool false)) h3 pre r post)
def vc_law01_DifferAgrees_k1 (P : Ctx) (pre : List ABlk) (r : AV) (post : List PB) (v0 : AV) (v2 : AV) (h3 : Heap) (v7 : AV) : Prop :=
  BIN 0 .eql v0 (.d (.num .i64 0)) fun v1 =>
  CONDG v1
  (CALL P f_ref01_Known [v2] 464 h3 (fun _rd4 v5 h6 =>
  CALL P f_ref01_SameSpans [v7, v5] 472 h6 (fun _rd8 v9 h10 =>
  CONDG v9
  (CALL P f_law01_known [] 496 h10 (fun _rd11 v12 h13 =>
  POST v12 h13 pre r post)
  (fun _ _ _ => False))
  (POST (.d (.bool false)) h10 pre r post))
  (fun _ _ _ => False))
  (fun _ _ _ => False))
  (POST (.d (.bool false)) h3 pre r post)
def vc_law01_DifferAgrees_k2 (P : Ctx) (pre : List ABlk) (r : AV) (post : List PB) (v0 : AV) (h2 : Heap) (v3 : AV) (v5 : AV) (v9 : AV) (v10 : AV) : Prop :=
  BIN 0 .neq v0 (.d (.num .i64 0)) fun v1 =>
  CONDG v1
  (POST (.d (.bool false)) h2 pre r post)
  (LEN false v3 h2 fun v4 =>
  BIN 0 .neq v5 v4 fun v6 =>
  COND v6
  (POST (.d (.bool false)) h2 pre r post)
  (LEN false v3 h2 fun v7 =>
  BIN 0 .eql v7 (.d (.num .i64 0)) fun v8 =>
  COND v8
  (vc_law01_DifferAgrees_k0 P pre r post v9 v10 h2)
  (vc_law01_DifferAgrees_k1 P pre r post v9 v3 h2 v10)))
def vc_law01_DifferAgrees_k3 (P : Ctx) (pre : List ABlk) (r : AV) (post : List PB) (v0 : AV) (v2 : AV) (v4 : AV) (v6 : AV) (v8 : AV) (h9 : Heap) (v15 : AV) (a17 : AV) : Prop :=
  NOT v0 fun v1 =>
  COND v1
  (BIN 0 .eql v2 (.d (.num .i64 2)) fun v3 =>
  CONDG v3
  (BIN 0 .eql v4 (.d (.num .i64 0)) fun v5 =>
  CONDG v5
  (BIN 0 .eql v6 (.d (.num .i64 2)) fun v7 =>
  CONDG v7
  (LEN false v8 h9 fun v10 =>
  BIN 0 .eql v10 (.d (.num .i64 0)) fun v11 =>
  CONDG v11
  (CALL P f_law01_known [] 432 h9 (fun _rd12 v13 h14 =>
  POST v13 h14 pre r post)
  (fun _ _ _ => False))
  (POST (.d (.bool false)) h9 pre r post))
  (POST (.d (.bool false)) h9 pre r post))
  (POST (.d (.bool false)) h9 pre r post))
  (POST (.d (.bool false)) h9 pre r post))
  (LOAD true 3 v15 h9 fun v16 =>
  CALL P f_ref01_All [v16, a17] 320 h9 (fun _rd18 v19 h20 =>
  vc_law01_DifferAgrees_k2 P pre r post v2 h20 v19 v4 v6 v8)
  (fun _ _ _ => False))
def vc_law01_DifferAgrees_k4 (P : Ctx) (pre : List ABlk) (r : AV) (post : List PB) (v0 : AV) (v2 : AV) (v4 : AV) (v6 : AV) (v8 : AV) (h9 : Heap) (v15 : AV) (a17 : AV) : Prop :=
  NOT v0 fun v1 =>
  CONDG v1
  (BIN 0 .eql v2 (.d (.num .i64 2)) fun v3 =>
  CONDG v3
  (BIN 0 .eql v4 (.d (.num .i64 0)) fun v5 =>
  CONDG v5
  (BIN 0 .eql v6 (.d (.num .i64 2)) fun v7 =>
  CONDG v7
  (LEN false v8 h9 fun v10 =>
  BIN 0 .eql v10 (.d (.num .i64 0)) fun v11 =>
  CONDG v11
  (CALL P f_law01_known [] 432 h9 (fun _rd12 v13 h14 =>
  POST v13 h14 pre r post)
  (fun _ _ _ => False))
  (POST (.d (.bool false)) h9 pre r post))
  (POST (.d (.bool false)) h9 pre r post))
  (POST (.d (.bool false)) h9 pre r post))
  (POST (.d (.bool false)) h9 pre r post))
  (LOAD true 3 v15 h9 fun v16 =>
  CALL P f_ref01_Seen [v16, a17] 280 h9 (fun _rd18 v19 h20 =>
  vc_law01_DifferAgrees_k3 P pre r post v19 v2 v4 v6 v8 h20 v15 a17)
  (fun _ _ _ => False))
def vc_law01_DifferAgrees_k5 (P : Ctx) (pre : List ABlk) (r : AV) (post : List PB) (v0 : AV) (v3 : AV) (h4 : Heap) (a6 : AV) : Prop :=
  EXT v0 0 fun v1 =>
  EXT v0 1 fun v2 =>
  LOAD true 3 v3 h4 fun v5 =>
  CALL P f_differ_Known [v5, a6] 184 h4 (fun _rd7 v8 h9 =>
  EXT v8 0 fun v10 =>
  EXT v8 1 fun v11 =>
  LOAD true 3 v3 h9 fun v12 =>
  CALL P f_ref01_Plan [v12] 240 h9 (fun _rd13 v14 h15 =>
  vc_law01_DifferAgrees_k4 P pre r post v14 v2 v1 v11 v10 h15 v3 a6)
  (fun _ _ _ => False))
  (fun _ _ _ => False)
def vc_law01_DifferAgrees_k6 (P : Ctx) (pre : List ABlk) (r : AV) (post : List PB) (v0 : AV) (h2 : Heap) (a6 : AV) (v11 : AV) : Prop :=
  NOT v0 fun v1 =>
  CONDG v1
  (CALL P f_law01_known [] 104 h2 (fun _rd3 v4 h5 =>
  POST v4 h5 pre r post)
  (fun _ _ _ => False))
  (LEN false a6 h2 fun v7 =>
  BIN 0 .gtr v7 (.d (.num .i64 8)) fun v8 =>
  COND v8
  (CALL P f_law01_known [] 104 h2 (fun _rd9 v4 h10 =>
  POST v4 h10 pre r post)
  (fun _ _ _ => False))
  (LOAD true 3 v11 h2 fun v12 =>
  CALL P f_differ_Agree [v12, a6] 120 h2 (fun _rd13 v14 h15 =>
  vc_law01_DifferAgrees_k5 P pre r post v14 v11 h15 a6)
  (fun _ _ _ => False)))
def vc_law01_DifferAgrees (P : Ctx) (pre : List ABlk) (a0 a1 : AV) (r : AV) (post : List PB) : Prop :=
  let h0 : Heap := numbered 0 pre
  BOX T_api_DifferPlan a0 24 h0 fun v2 h1 =>
  LOAD true 3 v2 h1 fun v10 =>
  CALL P f_law01_short [v10] 48 h1 (fun _rd3 v11 h2 =>
  vc_law01_DifferAgrees_k6 P pre r post v11 h2 a1 v2)
  (fun _ _ _ => False)
theorem vc_law01_DifferAgrees_eq (g : GG) (pre : List ABlk) (a0 a1 : AV) (r : AV) (post : List PB) : vcFn2 (Tz g) false ann_law01_DifferAgrees Tryz.f4 pre [a0, a1] (.ret r) post = vc_law01_DifferAgrees (Tz g) pre a0 a1 r post := by kernel_rfl
theorem hf_law01_DifferAgrees : Tryz.prog.funcs[f_law01_DifferAgrees]? = some Tryz.f4 := by kernel_rfl
theorem ok_law01_DifferAgrees : fnVcOK Tryz.prog Tryz.f4 = true := by kernel_rfl
theorem nt_law01_DifferAgrees : Nat.ble 2 Tryz.f4.ntmps = true := by kernel_rfl
theorem meetsH_law01_DifferAgrees {g : GG} {pre : List ABlk} {a0 a1 : AV} {r : AV} {post : List PB} (hk : Nat.ble pre.length 24 = true) (h : vc_law01_DifferAgrees (Tz g) pre a0 a1 r post) : MeetsH (Tz g) f_law01_DifferAgrees pre [a0, a1] (.ret r) post :=
  meetsH_of_vc (C := Tz g) ann_law01_DifferAgrees hf_law01_DifferAgrees ok_law01_DifferAgrees nt_law01_DifferAgrees hk (pn := false) (Eq.mpr ((vcFn2_eq _ _ _ _ _ _ _ _).trans (vc_law01_DifferAgrees_eq g pre a0 a1 r post)) h)
theorem meets_law01_DifferAgrees {g : GG} {a0 a1 : D} {r : Res} (h : vc_law01_DifferAgrees (Tz g) [] (.d a0) (.d a1) r.val (r.bl.map .upd)) : Meets (Tz g) f_law01_DifferAgrees [a0, a1] r := meetsH_law01_DifferAgrees rfl h
end Go.Vc

namespace Go.Vc
open Go Go.Proofs
variable {g : GG}
attribute [local simp] and_assoc
attribute [local simp] ints_cells
set_option maxHeartbeats 2000000 in
theorem agrees_meets (hg : GOK g) (p : Plan) (sn : List Sn) : Meets (Tz g) f_law01_DifferAgrees [p.d, seens sn] ⟨.d (.bool true), []⟩ := by
  refine meets_law01_DifferAgrees ?_
  unfold vc_law01_DifferAgrees
  simp [Plan.d, spans]
  refine CALL.val [p.d] _ rfl (law01_short_meets p) (.inl rfl) ?_
  simp [vc_law01_DifferAgrees_k6]
  constructor
  · intro h
    exact known_call hg (by simp)
  · intro h
    constructor
    · intro h2
      exact known_call hg (by simp)
    · intro h2
      have hl : p.starts.length ≤ 1000 := by omega
      have hl2 : sn.length ≤ 1000 := by omega
      cases hok : p.ok with
      | false =>
        refine CALL.mk [p.d, seens sn] _ rfl (differ_Agree_bad p sn hl hl2 (by simp [hok])) (.inl rfl) (by simp) ?_
        simp [vc_law01_DifferAgrees_k5]
        refine CALL.mk [p.d, seens sn] _ rfl (differ_Known_bad p sn hl hl2 (by simp [hok])) (.inl rfl) (by simp) ?_
        simp
        refine CALL.val [p.d] _ rfl (ref01_Plan_meets p hl) (.inl rfl) ?_
        simp [hok, vc_law01_DifferAgrees_k4]
        exact known_call hg (by simp)
      | true =>
        obtain ⟨a1, a2, a3, a4, a5⟩ := Plan.ok_len hok
        obtain ⟨n, hn⟩ : ∃ n : Nat, p.rows = n := ⟨p.rows.toNat, by omega⟩
        cases hs : seensB p sn with
        | false =>
          refine CALL.mk [p.d, seens sn] _ rfl (differ_Agree_bad p sn hl hl2 (by simp [hs])) (.inl rfl) (by simp) ?_
          simp [vc_law01_DifferAgrees_k5]
          refine CALL.mk [p.d, seens sn] _ rfl (differ_Known_bad p sn hl hl2 (by simp [hs])) (.inl rfl) (by simp) ?_
          simp
          refine CALL.val [p.d] _ rfl (ref01_Plan_meets p hl) (.inl rfl) ?_
          simp [hok, vc_law01_DifferAgrees_k4]
          refine CALL.val [p.d, seens sn] _ rfl (ref01_Seen_meets p sn hok hl2) (.inl rfl) ?_
          simp [hs, vc_law01_DifferAgrees_k3]
          exact known_call hg (by simp)
        | true =>
          have hcnt : (fitL p sn).length ≤ 2401 := fitL_cnt hok
          refine CALL.mk [p.d, seens sn] _ rfl (differ_Agree_ok p sn n hok hn hs) (.inl rfl) (by simp) ?_
          simp [vc_law01_DifferAgrees_k5]
          by_cases hf : fitL p sn = []
          · refine CALL.mk [p.d, seens sn] _ rfl (differ_Known_none p sn n hok hn hs hf) (.inl rfl) (by simp) ?_
            simp
            refine CALL.val [p.d] _ rfl (ref01_Plan_meets p hl) (.inl rfl) ?_
            simp [hok, vc_law01_DifferAgrees_k4]
            refine CALL.val [p.d, seens sn] _ rfl (ref01_Seen_meets p sn hok hl2) (.inl rfl) ?_
            simp [hs, vc_law01_DifferAgrees_k3]
            refine CALL.mk [p.d, seens sn] _ rfl (ref01_All_meets p sn n hok hn hs) (.inl rfl) (by simp) ?_
            simp [vc_law01_DifferAgrees_k2, vc_law01_DifferAgrees_k0, hf]
            exact known_call hg (by simp)
          · have hne : ¬ (fitL p sn).length = 0 := by simpa using hf
            have hkl : (knownL (fitL p sn) p.starts.length).length = p.starts.length := by simp [knownL]
            refine CALL.mk [p.d, seens sn] _ rfl (differ_Known_ok p sn n hok hn hs hf) (.inl rfl) (by simp) ?_
            simp
            refine CALL.val [p.d] _ rfl (ref01_Plan_meets p hl) (.inl rfl) ?_
            simp [hok, vc_law01_DifferAgrees_k4]
            refine CALL.val [p.d, seens sn] _ rfl (ref01_Seen_meets p sn hok hl2) (.inl rfl) ?_
            simp [hs, vc_law01_DifferAgrees_k3]
            refine CALL.mk [p.d, seens sn] _ rfl (ref01_All_meets p sn n hok hn hs) (.inl rfl) (by simp) ?_
            simp [vc_law01_DifferAgrees_k2, vc_law01_DifferAgrees_k1, hne]
            refine CALL.mk [.list ((fitL p sn).map ints)] _ (by simp) (ref01_Known_meets (fitL p sn) p.starts.length hf (fun t ht => fitL_len ht) hcnt hl) (.inr (by simp [Res.flatP, AV.flatB, blksFlat, Body.flatP, D.flatB, D.flatB.flatL, Sp.d])) (by simp) ?_
            simp
            refine CALL.val [spans (knownL (fitL p sn) p.starts.length), spans (knownL (fitL p sn) p.starts.length)] _ (by simp [spans]) (ref01_SameSpans_meets _ _ (by omega) (by omega)) (.inr rfl) ?_
            simp
            exact known_call hg (by simp)
end Go.Vc

namespace Go.Vc
open Go Go.RowKit Go.ChangeShapes Go.WideShapes Go.ChangeAt Go.Proofs Go.Proofs.YtflbianfhogdjaaGreatDoor
theorem agrees_calls {H : Type} {enc : TypeId × Value → H} (W : World) (base : Nat) (args : Array Value) (ds : List (DataW H)) (ps : List MemPlace) (hval : ∀ (j : Nat) t v, Tryz.f4.params[j]? = some t → args[j]? = some v → Value.okWide Tryz.prog W .any base t v)
    (hA : DataW.TrodAll enc Tryz.prog W 0 (fun _ => true) true Tryz.f4.params.toList args.toList ds ps) (hL : laidMetH Tryz.prog laidL W) (hsh : W.ShapedOpen Tryz.prog) : Calls Tryz.prog 4 args W fun e W' => e = .returned (.bool true) ∧ Below W.heap.size W W' := by
  rw [Tryz.params4] at hA hval
  obtain ⟨v0, v1, d0, d1, p0, p1, rfl, rfl, rfl, h0, h1⟩ := trodAll_two hA
  obtain ⟨x0, g0⟩ := open_plan (hval 0 24 v0 rfl rfl) h0
  obtain ⟨x1, g1⟩ := open_seens (hval 1 37 v1 rfl rfl) h1
  exact law_calls (C := Tz (gW W)) (agrees_meets (gok hL hsh) x0 x1) rfl (Below.refl _ _) (us := [v0, v1]) rfl (fun i d u hd hu => by
    match i, hd, hu with
    | 0, hd, hu => simp at hd hu; subst hd; subst hu; exact g0
    | 1, hd, hu => simp at hd hu; subst hd; subst hu; exact g1
    | i + 2, hd, hu => simp at hd)
theorem agrees_lifted (os : Os) (started : os.Started) (H : Type) (enc : TypeId × Value → H) :
    ReturnsInHanded {} Tryz.checked os 4 .any (fun w args => (Rows.differAgreesSpec.pre enc Tryz.prog Tryz.f4 [] false w args ∧ laidMetH Tryz.prog laidL w) ∧ sizedMet enc Tryz.prog Tryz.f4 (OpenSpec.ofChange Rows.differAgreesSpec) false w args)
      (Rows.differAgreesSpec.post enc Tryz.prog Tryz.f4 false true false false) :=
  law_lifted (C := Tryz.checked) (tb := 4) (n := 2) started own (by kernel_rfl) Tryz.func4
    (ChangeSpec.witness_shaped (enc := enc) (C := Tryz.checked) (os := os) (X := fun w _ => laidMetH Tryz.prog laidL w) false (World.laidAll Tryz.prog os laidL) #[.agg #[.slice none 0 0, .int .i64 0, .int .i64 0], .slice none 0 0] 8 (World.laidAll_os _ _ _)
      (World.shaped_of_ZipB (by kernel_rfl) (by kernel_rfl)) (by kernel_rfl) (by kernel_rfl) (by kernel_rfl)
      (by rw [MakeChecks.laidMetH_plain _ _ _ (by kernel_rfl)]; exact laidMet_laidAll _ (by kernel_rfl) (by kernel_rfl)))
    laidOut (by kernel_rfl) (by kernel_rfl) Tryz.underlying4 rfl (by kernel_rfl) (fun ds hl => by
      match ds, hl with
      | [a, b], _ => rfl) agrees_calls
theorem agrees_holds : Rows.DifferAgreesSaid :=
  OpenClaim.holds_of_wide 4 Tryz.f4 rfl rfl rfl rfl rfl rfl rfl ⟨rfl, rfl, rfl, rfl, rfl⟩ rfl rfl rfl rfl rfl (by kernel_rfl) Tryz.func4 (by kernel_rfl)
    (of_decide_eq_true (by kernel_rfl)) (by unfold Func.isWrapper; first | (rw [if_pos (by decide +kernel)]; kernel_rfl) | (rw [if_neg (by decide +kernel)]; exact ⟨rfl, rfl⟩))
    (fun os started H enc _ => agrees_lifted os started H enc)
theorem agrees_card : Rows.DifferAgreesCardSaid :=
  Claim7.holds_tied_plain_at .later [] [.data, .data, .data, .data, .pinned] true (true, "9a542ac743afd7edcb6f3cbd989ac5534e57cf4118a8820287a37bb09b5416c8") true agrees_holds (fun _ h => by cases h) (by kernel_rfl) (fun _ h => by cases h) differAgrees_row_tie rfl ⟨rfl, rfl⟩ (by kernel_rfl) rfl
    (fun f fn hf hfn => by
      obtain rfl : f = 4 := Option.some.inj ((show Tryz.prog.funcNamed "ephemerist/ephemeristlaw01.DifferAgrees" = some 4 by kernel_rfl).symm.trans hf) |>.symm
      obtain rfl : fn = Tryz.f4 := (Option.some.inj (Tryz.func4.symm.trans hfn)).symm
      exact ⟨by kernel_rfl, fun j t ht => by
        rw [Tryz.params4] at ht
        have hm : t ∈ [24, 37] := by simpa using Array.mem_of_getElem? ht
        have hall : ([24, 37].all fun u => !Tryz.prog.wantsStandIn u) = true := by kernel_rfl
        exact (show Tryz.prog.wantsStandIn t = false by simpa using List.all_eq_true.1 hall t hm)⟩)
    (by kernel_rfl)
end Go.Vc

namespace Go.Proofs.YtflbianfhogdjaaGreatDoor
theorem law_DifferAgreesCardSaid : Rows.DifferAgreesCardSaid := Go.Vc.agrees_card
end Go.Proofs.YtflbianfhogdjaaGreatDoor
