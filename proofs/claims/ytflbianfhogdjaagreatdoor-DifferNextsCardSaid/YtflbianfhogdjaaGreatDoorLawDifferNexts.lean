/- Proves that the statement DifferNextsCardSaid holds of the given program: for every input the law returns true and leaves its arguments as they were; under the row's own conditions, that the listed tables are laid as the program's text has them. -/
import Derived.Test.YtflbianfhogdjaaGreatDoorVc22
import Derived.Test.YtflbianfhogdjaaGreatDoorVc11
import Derived.Test.YtflbianfhogdjaaGreatDoorVc46
import Derived.Test.YtflbianfhogdjaaGreatDoorVc30
import Derived.Test.YtflbianfhogdjaaGreatDoorVc43
set_option maxRecDepth 100000
namespace Go.Vc
open Go Go.Proofs Go.RowKit
def ann_law01_DifferNexts : Nat → List Nat := fun n => match n with  | _ => []
def vc_law01_DifferNexts_k0 (P : Ctx) (pre : List ABlk) (r : AV) (post : List PB) (v0 : AV) (v3 : AV) (v5 : AV) (v7 : AV) (h9 : Heap) : Prop :=
  EXT v0 0 fun v1 =>
  EXT v0 1 fun v2 =>
  BIN 0 .eql v3 (.d (.num .i64 0)) fun v4 =>
  CONDG v4
  (BIN 0 .eql v5 v1 fun v6 =>
  CONDG v6
  (BIN 0 .eql v7 v2 fun v8 =>
  CONDG v8
  (CALL P f_law01_known [] 480 h9 (fun _ v11 h12 =>
  POST v11 h12 pre r post)
  (fun _ _ _ => False))
  (POST (.d (.bool false)) h9 pre r post))
  (POST (.d (.bool false)) h9 pre r post))
  (POST (.d (.bool false)) h9 pre r post)
def vc_law01_DifferNexts_k1 (P : Ctx) (pre : List ABlk) (r : AV) (post : List PB) (v0 : AV) (h1 : Heap) (v4 : AV) (v6 : AV) (v8 : AV) (v13 : AV) : Prop :=
  LEN false v0 h1 fun v2 =>
  BIN 0 .eql v2 (.d (.num .i64 0)) fun v3 =>
  COND v3
  (BIN 0 .eql v4 (.d (.num .i64 7)) fun v5 =>
  CONDG v5
  (BIN 0 .eql v6 (.d (.num .i64 0)) fun v7 =>
  CONDG v7
  (BIN 0 .eql v8 (.d (.num .i64 0)) fun v9 =>
  CONDG v9
  (CALL P f_law01_known [] 400 h1 (fun _ v11 h12 =>
  POST v11 h12 pre r post)
  (fun _ _ _ => False))
  (POST (.d (.bool false)) h1 pre r post))
  (POST (.d (.bool false)) h1 pre r post))
  (POST (.d (.bool false)) h1 pre r post))
  (LOAD true 3 v13 h1 fun v14 =>
  CALL P f_ref01_Next [v14, v0] 328 h1 (fun _ v16 h17 =>
  vc_law01_DifferNexts_k0 P pre r post v16 v4 v6 v8 h17)
  (fun _ _ _ => False))
def vc_law01_DifferNexts_k2 (P : Ctx) (pre : List ABlk) (r : AV) (post : List PB) (v0 : AV) (v2 : AV) (v4 : AV) (v6 : AV) (h8 : Heap) (v12 : AV) (a14 : AV) : Prop :=
  NOT v0 fun v1 =>
  COND v1
  (BIN 0 .eql v2 (.d (.num .i64 2)) fun v3 =>
  CONDG v3
  (BIN 0 .eql v4 (.d (.num .i64 0)) fun v5 =>
  CONDG v5
  (BIN 0 .eql v6 (.d (.num .i64 0)) fun v7 =>
  CONDG v7
  (CALL P f_law01_known [] 344 h8 (fun _ v10 h11 =>
  POST v10 h11 pre r post)
  (fun _ _ _ => False))
  (POST (.d (.bool false)) h8 pre r post))
  (POST (.d (.bool false)) h8 pre r post))
  (POST (.d (.bool false)) h8 pre r post))
  (LOAD true 3 v12 h8 fun v13 =>
  CALL P f_ref01_All [v13, a14] 272 h8 (fun _ v16 h17 =>
  vc_law01_DifferNexts_k1 P pre r post v16 h17 v2 v4 v6 v12)
  (fun _ _ _ => False))
def vc_law01_DifferNexts_k3 (P : Ctx) (pre : List ABlk) (r : AV) (post : List PB) (v0 : AV) (v2 : AV) (v4 : AV) (v6 : AV) (h8 : Heap) (v12 : AV) (a14 : AV) : Prop :=
  NOT v0 fun v1 =>
  CONDG v1
  (BIN 0 .eql v2 (.d (.num .i64 2)) fun v3 =>
  CONDG v3
  (BIN 0 .eql v4 (.d (.num .i64 0)) fun v5 =>
  CONDG v5
  (BIN 0 .eql v6 (.d (.num .i64 0)) fun v7 =>
  CONDG v7
  (CALL P f_law01_known [] 344 h8 (fun _ v10 h11 =>
  POST v10 h11 pre r post)
  (fun _ _ _ => False))
  (POST (.d (.bool false)) h8 pre r post))
  (POST (.d (.bool false)) h8 pre r post))
  (POST (.d (.bool false)) h8 pre r post))
  (LOAD true 3 v12 h8 fun v13 =>
  CALL P f_ref01_Seen [v13, a14] 232 h8 (fun _ v16 h17 =>
  vc_law01_DifferNexts_k2 P pre r post v16 v2 v4 v6 h17 v12 a14)
  (fun _ _ _ => False))
def vc_law01_DifferNexts_k4 (P : Ctx) (pre : List ABlk) (r : AV) (post : List PB) (v0 : AV) (h2 : Heap) (a6 : AV) (v11 : AV) : Prop :=
  NOT v0 fun v1 =>
  CONDG v1
  (CALL P f_law01_known [] 104 h2 (fun _ v4 h5 =>
  POST v4 h5 pre r post)
  (fun _ _ _ => False))
  (LEN false a6 h2 fun v7 =>
  BIN 0 .gtr v7 (.d (.num .i64 8)) fun v8 =>
  COND v8
  (CALL P f_law01_known [] 104 h2 (fun _ v4 h10 =>
  POST v4 h10 pre r post)
  (fun _ _ _ => False))
  (LOAD true 3 v11 h2 fun v12 =>
  CALL P f_differ_Next [v12, a6] 120 h2 (fun _ v14 h15 =>
  EXT v14 0 fun v16 =>
  EXT v14 1 fun v17 =>
  EXT v14 2 fun v18 =>
  LOAD true 3 v11 h15 fun v19 =>
  CALL P f_ref01_Plan [v19] 192 h15 (fun _ v21 h22 =>
  vc_law01_DifferNexts_k3 P pre r post v21 v18 v16 v17 h22 v11 a6)
  (fun _ _ _ => False))
  (fun _ _ _ => False)))
def vc_law01_DifferNexts (P : Ctx) (pre : List ABlk) (a0 a1 : AV) (r : AV) (post : List PB) : Prop :=
  let h0 : Heap := numbered 0 pre
  BOX T_api_DifferPlan a0 24 h0 fun v2 h1 =>
  LOAD true 3 v2 h1 fun v11 =>
  CALL P f_law01_short [v11] 48 h1 (fun _ v12 h2 =>
  vc_law01_DifferNexts_k4 P pre r post v12 h2 a1 v2)
  (fun _ _ _ => False)
theorem vc_law01_DifferNexts_eq (g : GG) (pre : List ABlk) (a0 a1 : AV) (r : AV) (post : List PB) : vcFn2 (Tz g) false ann_law01_DifferNexts Tryz.f6 pre [a0, a1] (.ret r) post = vc_law01_DifferNexts (Tz g) pre a0 a1 r post := by kernel_rfl
theorem hf_law01_DifferNexts : Tryz.prog.funcs[f_law01_DifferNexts]? = some Tryz.f6 := by kernel_rfl
theorem ok_law01_DifferNexts : fnVcOK Tryz.prog Tryz.f6 = true := by kernel_rfl
theorem nt_law01_DifferNexts : Nat.ble 2 Tryz.f6.ntmps = true := by kernel_rfl
theorem meetsH_law01_DifferNexts {g : GG} {pre : List ABlk} {a0 a1 : AV} {r : AV} {post : List PB} (hk : Nat.ble pre.length 24 = true) (h : vc_law01_DifferNexts (Tz g) pre a0 a1 r post) : MeetsH (Tz g) f_law01_DifferNexts pre [a0, a1] (.ret r) post :=
  meetsH_of_vc (C := Tz g) ann_law01_DifferNexts hf_law01_DifferNexts ok_law01_DifferNexts nt_law01_DifferNexts hk (pn := false) (Eq.mpr ((vcFn2_eq _ _ _ _ _ _ _ _).trans (vc_law01_DifferNexts_eq g pre a0 a1 r post)) h)
theorem meets_law01_DifferNexts {g : GG} {a0 a1 : D} {r : Res} (h : vc_law01_DifferNexts (Tz g) [] (.d a0) (.d a1) r.val (r.bl.map .upd)) : Meets (Tz g) f_law01_DifferNexts [a0, a1] r := meetsH_law01_DifferNexts rfl h
end Go.Vc

namespace Go.Vc
open Go Go.Proofs
variable {g : GG}
attribute [local simp] and_assoc
attribute [local simp] ints_cells
set_option maxHeartbeats 2000000 in
theorem nexts_meets (hg : GOK g) (p : Plan) (sn : List Sn) : Meets (Tz g) f_law01_DifferNexts [p.d, seens sn] ⟨.d (.bool true), []⟩ := by
  refine meets_law01_DifferNexts ?_
  unfold vc_law01_DifferNexts
  simp [Plan.d, spans]
  refine CALL.val [p.d] _ rfl (law01_short_meets p) (.inl rfl) ?_
  simp [vc_law01_DifferNexts_k4]
  constructor
  · intro h
    exact known_call hg (by simp)
  · intro h
    constructor
    · intro h2
      exact known_call hg (by simp)
    · intro h2
      have hl : p.starts.length ≤ 1000 := by omega
      have hl2 : sn.length ≤ 1000 := by omega
      cases hok : p.ok with
      | false =>
        refine CALL.mk [p.d, seens sn] _ rfl (differ_Next_bad p sn hl hl2 (by simp [hok])) (.inl rfl) (by simp) ?_
        simp
        refine CALL.val [p.d] _ rfl (ref01_Plan_meets p hl) (.inl rfl) ?_
        simp [hok, vc_law01_DifferNexts_k3]
        exact known_call hg (by simp)
      | true =>
        obtain ⟨a1, a2, a3, a4, a5⟩ := Plan.ok_len hok
        obtain ⟨n, hn⟩ : ∃ n : Nat, p.rows = n := ⟨p.rows.toNat, by omega⟩
        cases hs : seensB p sn with
        | false =>
          refine CALL.mk [p.d, seens sn] _ rfl (differ_Next_bad p sn hl hl2 (by simp [hs])) (.inl rfl) (by simp) ?_
          simp
          refine CALL.val [p.d] _ rfl (ref01_Plan_meets p hl) (.inl rfl) ?_
          simp [hok, vc_law01_DifferNexts_k3]
          refine CALL.val [p.d, seens sn] _ rfl (ref01_Seen_meets p sn hok hl2) (.inl rfl) ?_
          simp [hs, vc_law01_DifferNexts_k2]
          exact known_call hg (by simp)
        | true =>
          have hcnt : (fitL p sn).length ≤ 2401 := fitL_cnt hok
          by_cases hf : fitL p sn = []
          · refine CALL.mk [p.d, seens sn] _ rfl (differ_Next_none p sn n hok hn hs hf) (.inl rfl) (by simp) ?_
            simp
            refine CALL.val [p.d] _ rfl (ref01_Plan_meets p hl) (.inl rfl) ?_
            simp [hok, vc_law01_DifferNexts_k3]
            refine CALL.val [p.d, seens sn] _ rfl (ref01_Seen_meets p sn hok hl2) (.inl rfl) ?_
            simp [hs, vc_law01_DifferNexts_k2]
            refine CALL.mk [p.d, seens sn] _ rfl (ref01_All_meets p sn n hok hn hs) (.inl rfl) (by simp) ?_
            simp [vc_law01_DifferNexts_k1, hf]
            exact known_call hg (by simp)
          · have hne : ¬ (fitL p sn).length = 0 := by simpa using hf
            refine CALL.mk [p.d, seens sn] _ rfl (differ_Next_data p sn n hok hn hs hf) (.inl rfl) (by simp) ?_
            simp
            refine CALL.val [p.d] _ rfl (ref01_Plan_meets p hl) (.inl rfl) ?_
            simp [hok, vc_law01_DifferNexts_k3]
            refine CALL.val [p.d, seens sn] _ rfl (ref01_Seen_meets p sn hok hl2) (.inl rfl) ?_
            simp [hs, vc_law01_DifferNexts_k2]
            refine CALL.mk [p.d, seens sn] _ rfl (ref01_All_meets p sn n hok hn hs) (.inl rfl) (by simp) ?_
            simp [vc_law01_DifferNexts_k1, hne]
            refine CALL.mk [p.d, .list ((fitL p sn).map ints)] _ (by simp [Plan.d, spans]) (ref01_Next_meets p (fitL p sn) n hok hn hf (fun t ht => fitL_within ht) hcnt) (.inr (by simp [Res.flatP, AV.flatB, AV.flatB.flatL, blksFlat, D.flatB])) (by simp) ?_
            simp [vc_law01_DifferNexts_k0]
            exact known_call hg (by simp)
end Go.Vc

namespace Go.Vc
open Go Go.RowKit Go.ChangeShapes Go.WideShapes Go.ChangeAt Go.Proofs Go.Proofs.YtflbianfhogdjaaGreatDoor
theorem nexts_calls {H : Type} {enc : TypeId × Value → H} (W : World) (base : Nat) (args : Array Value) (ds : List (DataW H)) (ps : List MemPlace) (hval : ∀ (j : Nat) t v, Tryz.f6.params[j]? = some t → args[j]? = some v → Value.okWide Tryz.prog W .any base t v)
    (hA : DataW.TrodAll enc Tryz.prog W 0 (fun _ => true) true Tryz.f6.params.toList args.toList ds ps) (hL : laidMetH Tryz.prog laidL W) (hsh : W.ShapedOpen Tryz.prog) : Calls Tryz.prog 6 args W fun e W' => e = .returned (.bool true) ∧ Below W.heap.size W W' := by
  rw [Tryz.params6] at hA hval
  obtain ⟨v0, v1, d0, d1, p0, p1, rfl, rfl, rfl, h0, h1⟩ := trodAll_two hA
  obtain ⟨x0, g0⟩ := open_plan (hval 0 24 v0 rfl rfl) h0
  obtain ⟨x1, g1⟩ := open_seens (hval 1 37 v1 rfl rfl) h1
  exact law_calls (C := Tz (gW W)) (nexts_meets (gok hL hsh) x0 x1) rfl (Below.refl _ _) (us := [v0, v1]) rfl (fun i d u hd hu => by
    match i, hd, hu with
    | 0, hd, hu => simp at hd hu; subst hd; subst hu; exact g0
    | 1, hd, hu => simp at hd hu; subst hd; subst hu; exact g1
    | i + 2, hd, hu => simp at hd)
theorem nexts_lifted (os : Os) (started : os.Started) (H : Type) (enc : TypeId × Value → H) :
    ReturnsInHanded {} Tryz.checked os 6 .any (fun w args => (Rows.differNextsSpec.pre enc Tryz.prog Tryz.f6 [] false w args ∧ laidMetH Tryz.prog laidL w) ∧ sizedMet enc Tryz.prog Tryz.f6 (OpenSpec.ofChange Rows.differNextsSpec) false w args)
      (Rows.differNextsSpec.post enc Tryz.prog Tryz.f6 false true false false) :=
  law_lifted (C := Tryz.checked) (tb := 4) (n := 2) started own (by kernel_rfl) Tryz.func6
    (ChangeSpec.witness_shaped (enc := enc) (C := Tryz.checked) (os := os) (X := fun w _ => laidMetH Tryz.prog laidL w) false (World.laidAll Tryz.prog os laidL) #[.agg #[.slice none 0 0, .int .i64 0, .int .i64 0], .slice none 0 0] 8 (World.laidAll_os _ _ _)
      (World.shaped_of_ZipB (by kernel_rfl) (by kernel_rfl)) (by kernel_rfl) (by kernel_rfl) (by kernel_rfl)
      (by rw [MakeChecks.laidMetH_plain _ _ _ (by kernel_rfl)]; exact laidMet_laidAll _ (by kernel_rfl) (by kernel_rfl)))
    laidOut (by kernel_rfl) (by kernel_rfl) Tryz.underlying4 rfl (by kernel_rfl) (fun ds hl => by
      match ds, hl with
      | [a, b], _ => rfl) nexts_calls
theorem nexts_holds : Rows.DifferNextsSaid :=
  OpenClaim.holds_of_wide 6 Tryz.f6 rfl rfl rfl rfl rfl rfl rfl ⟨rfl, rfl, rfl, rfl, rfl⟩ rfl rfl rfl rfl rfl (by kernel_rfl) Tryz.func6 (by kernel_rfl)
    (of_decide_eq_true (by kernel_rfl)) (by unfold Func.isWrapper; first | (rw [if_pos (by decide +kernel)]; kernel_rfl) | (rw [if_neg (by decide +kernel)]; exact ⟨rfl, rfl⟩))
    (fun os started H enc _ => nexts_lifted os started H enc)
theorem nexts_card : Rows.DifferNextsCardSaid :=
  Claim7.holds_tied_plain_at .later [] [.data, .data, .data, .data, .pinned] true (true, "9a542ac743afd7edcb6f3cbd989ac5534e57cf4118a8820287a37bb09b5416c8") true nexts_holds (fun _ h => by cases h) (by kernel_rfl) (fun _ h => by cases h) differNexts_row_tie rfl ⟨rfl, rfl⟩ (by kernel_rfl) rfl
    (fun f fn hf hfn => by
      obtain rfl : f = 6 := Option.some.inj ((show Tryz.prog.funcNamed "ephemerist/ephemeristlaw01.DifferNexts" = some 6 by kernel_rfl).symm.trans hf) |>.symm
      obtain rfl : fn = Tryz.f6 := (Option.some.inj (Tryz.func6.symm.trans hfn)).symm
      exact ⟨by kernel_rfl, fun j t ht => by
        rw [Tryz.params6] at ht
        have hm : t ∈ [24, 37] := by simpa using Array.mem_of_getElem? ht
        have hall : ([24, 37].all fun u => !Tryz.prog.wantsStandIn u) = true := by kernel_rfl
        exact (show Tryz.prog.wantsStandIn t = false by simpa using List.all_eq_true.1 hall t hm)⟩)
    (by kernel_rfl)
end Go.Vc

namespace Go.Proofs.YtflbianfhogdjaaGreatDoor
theorem law_DifferNextsCardSaid : Rows.DifferNextsCardSaid := Go.Vc.nexts_card
end Go.Proofs.YtflbianfhogdjaaGreatDoor
