/- Proves that the statement DifferSpoiltCardSaid holds of the given program: for every input the law returns true and leaves its arguments as they were; under the row's own conditions, that the listed tables are laid as the program's text has them. -/
import Derived.Test.YtcmdbmcggfmmnaaGreatDoorVc22
import Derived.Test.YtcmdbmcggfmmnaaGreatDoorVc11
import Derived.Test.YtcmdbmcggfmmnaaGreatDoorVc35
import Derived.Test.YtcmdbmcggfmmnaaGreatDoorVc37
import Derived.Test.YtcmdbmcggfmmnaaGreatDoorVc25
import Derived.Test.YtcmdbmcggfmmnaaGreatDoorVc28
set_option maxRecDepth 100000
namespace Go.Vc
open Go Go.Proofs Go.RowKit
def ann_law01_DifferSpoilt : Nat → List Nat := fun n => match n with  | _ => []
def vc_law01_DifferSpoilt_k0 (P : Ctx) (pre : List ABlk) (r : AV) (post : List PB) (v0 : AV) (h3 : Heap) : Prop :=
  EXT v0 0 fun v1 =>
  EXT v0 1 fun v2 =>
  ALLOC T_api_DifferPlan [.zc, .d (.num .i64 0), .d (.num .i64 0)] 600 h3 fun v4 h5 =>
  STORE 3 v4 v1 h5 fun h6 =>
  BIN 0 .eql v2 (.d (.num .i64 4)) fun v7 =>
  CONDG v7
  (LOAD true 3 v4 h6 fun v8 =>
  BUILD [(0, 1), (1, 1), (2, 1)] [.zc, .d (.num .i64 0), .d (.num .i64 0)] [] fun v9 =>
  CALL P f_ref01_SamePlans [v8, v9] 664 h6 (fun _ v11 h12 =>
  CONDG v11
  (CALL P f_law01_known [] 688 h12 (fun _ v14 h15 =>
  POST v14 h15 pre r post)
  (fun _ _ _ => False))
  (POST (.d (.bool false)) h12 pre r post))
  (fun _ _ _ => False))
  (POST (.d (.bool false)) h6 pre r post)
def vc_law01_DifferSpoilt_k1 (P : Ctx) (pre : List ABlk) (r : AV) (post : List PB) (v0 : AV) (h4 : Heap) (a5 : AV) (a25 : AV) : Prop :=
  EXT v0 0 fun v1 =>
  EXT v0 1 fun v2 =>
  BIN 0 .neq v2 (.d (.num .i64 0)) fun v3 =>
  COND v3
  (POST (.d (.bool false)) h4 pre r post)
  (BIN 0 .lss a5 (.d (.num .i64 0)) fun v6 =>
  CONDG v6
  (CALL P f_law01_known [] 472 h4 (fun _ v8 h9 =>
  POST v8 h9 pre r post)
  (fun _ _ _ => False))
  (LEN true v1 h4 fun v10 =>
  BIN 0 .geq a5 v10 fun v11 =>
  CONDG v11
  (CALL P f_law01_known [] 472 h4 (fun _ v8 h13 =>
  POST v8 h13 pre r post)
  (fun _ _ _ => False))
  (SIDX v1 a5 fun v14 =>
  BIN 0 .lss v14 (.d (.num .u8 48)) fun v15 =>
  CONDG v15
  (CALL P f_law01_known [] 472 h4 (fun _ v8 h17 =>
  POST v8 h17 pre r post)
  (fun _ _ _ => False))
  (SIDX v1 a5 fun v18 =>
  BIN 0 .gtr v18 (.d (.num .u8 57)) fun v19 =>
  CONDG v19
  (CALL P f_law01_known [] 472 h4 (fun _ v8 h21 =>
  POST v8 h21 pre r post)
  (fun _ _ _ => False))
  (SIDX v1 a5 fun v22 =>
  BIN 0 .sub v22 (.d (.num .u8 48)) fun v23 =>
  CONVI .i64 v23 fun v24 =>
  BIN 0 .eql v24 a25 fun v26 =>
  COND v26
  (CALL P f_law01_known [] 472 h4 (fun _ v8 h28 =>
  POST v8 h28 pre r post)
  (fun _ _ _ => False))
  (CONVB T_uint8 v1 480 h4 fun v29 h30 =>
  BIN 0 .add (.d (.num .i64 48)) a25 fun v31 =>
  CONVI .u8 v31 fun v32 =>
  IADDR 1 T_uint8 v29 a5 h30 fun v33 =>
  STORE 1 v33 v32 h30 fun h34 =>
  CONVS v29 h34 fun v35 =>
  CALL P f_differ_Read [v35] 568 h34 (fun _ v37 h38 =>
  vc_law01_DifferSpoilt_k0 P pre r post v37 h38)
  (fun _ _ _ => False)))))))
def vc_law01_DifferSpoilt_k2 (P : Ctx) (pre : List ABlk) (r : AV) (post : List PB) (v0 : AV) (h2 : Heap) (a6 : AV) (v13 : AV) (a18 : AV) : Prop :=
  NOT v0 fun v1 =>
  CONDG v1
  (CALL P f_law01_known [] 168 h2 (fun _ v4 h5 =>
  POST v4 h5 pre r post)
  (fun _ _ _ => False))
  (BIN 0 .lss a6 (.d (.num .i64 0)) fun v7 =>
  CONDG v7
  (CALL P f_law01_known [] 168 h2 (fun _ v4 h9 =>
  POST v4 h9 pre r post)
  (fun _ _ _ => False))
  (BIN 0 .gtr a6 (.d (.num .i64 9)) fun v10 =>
  COND v10
  (CALL P f_law01_known [] 168 h2 (fun _ v4 h12 =>
  POST v4 h12 pre r post)
  (fun _ _ _ => False))
  (LOAD true 3 v13 h2 fun v14 =>
  CALL P f_differ_Print [v14] 176 h2 (fun _ v16 h17 =>
  vc_law01_DifferSpoilt_k1 P pre r post v16 h17 a18 a6)
  (fun _ _ _ => False))))
def vc_law01_DifferSpoilt_k3 (P : Ctx) (pre : List ABlk) (r : AV) (post : List PB) (v0 : AV) (h2 : Heap) (v6 : AV) (a11 : AV) (a12 : AV) : Prop :=
  NOT v0 fun v1 =>
  CONDG v1
  (CALL P f_law01_known [] 168 h2 (fun _ v4 h5 =>
  POST v4 h5 pre r post)
  (fun _ _ _ => False))
  (LOAD true 3 v6 h2 fun v7 =>
  CALL P f_ref01_Plan [v7] 80 h2 (fun _ v9 h10 =>
  vc_law01_DifferSpoilt_k2 P pre r post v9 h10 a11 v6 a12)
  (fun _ _ _ => False))
def vc_law01_DifferSpoilt (P : Ctx) (pre : List ABlk) (a0 a1 a2 : AV) (r : AV) (post : List PB) : Prop :=
  let h0 : Heap := numbered 0 pre
  BOX T_api_DifferPlan a0 24 h0 fun v3 h1 =>
  LOAD true 3 v3 h1 fun v12 =>
  CALL P f_law01_short [v12] 48 h1 (fun _ v13 h2 =>
  vc_law01_DifferSpoilt_k3 P pre r post v13 h2 v3 a2 a1)
  (fun _ _ _ => False)
theorem vc_law01_DifferSpoilt_eq (g : GG) (pre : List ABlk) (a0 a1 a2 : AV) (r : AV) (post : List PB) : vcFn2 (Tz g) false ann_law01_DifferSpoilt Tryz.f4 pre [a0, a1, a2] (.ret r) post = vc_law01_DifferSpoilt (Tz g) pre a0 a1 a2 r post := by kernel_rfl
theorem hf_law01_DifferSpoilt : Tryz.prog.funcs[f_law01_DifferSpoilt]? = some Tryz.f4 := by kernel_rfl
theorem ok_law01_DifferSpoilt : fnVcOK Tryz.prog Tryz.f4 = true := by kernel_rfl
theorem nt_law01_DifferSpoilt : Nat.ble 3 Tryz.f4.ntmps = true := by kernel_rfl
theorem meetsH_law01_DifferSpoilt {g : GG} {pre : List ABlk} {a0 a1 a2 : AV} {r : AV} {post : List PB} (hk : Nat.ble pre.length 24 = true) (h : vc_law01_DifferSpoilt (Tz g) pre a0 a1 a2 r post) : MeetsH (Tz g) f_law01_DifferSpoilt pre [a0, a1, a2] (.ret r) post :=
  meetsH_of_vc (C := Tz g) ann_law01_DifferSpoilt hf_law01_DifferSpoilt ok_law01_DifferSpoilt nt_law01_DifferSpoilt hk (pn := false) (Eq.mpr ((vcFn2_eq _ _ _ _ _ _ _ _).trans (vc_law01_DifferSpoilt_eq g pre a0 a1 a2 r post)) h)
theorem meets_law01_DifferSpoilt {g : GG} {a0 a1 a2 : D} {r : Res} (h : vc_law01_DifferSpoilt (Tz g) [] (.d a0) (.d a1) (.d a2) r.val (r.bl.map .upd)) : Meets (Tz g) f_law01_DifferSpoilt [a0, a1, a2] r := meetsH_law01_DifferSpoilt rfl h
end Go.Vc

namespace Go.Vc
open Go Go.Proofs
variable {g : GG}
attribute [local simp] and_assoc
theorem known_call (hg : GOK g) {new : Nat} {h : Heap} {K KP : List Nat → AV → Heap → Prop} (h3 : K [] (.d (.bool true)) h) : CALL (Tz g) f_law01_known [] new h K KP :=
  CALL.val [] _ rfl (known_meets hg) (.inl rfl) h3
theorem same_zeroP : Meets (Tz g) f_ref01_SamePlans [zeroP.d, zeroP.d] ⟨.d (.bool true), []⟩ :=
  samePlans_meets zeroP zeroP (by simp [zeroP]) (by simp [zeroP])
theorem readV_spoilt {p : Plan} (hok : p.ok = true) {k : Nat} {a d : UInt8} (hk : (textP p)[k]? = some a) (ha : isD a = true) (hd : isD d = true) (hne : a ≠ d) : readV ((textP p).set k d) = (zeroP, 4) := by
  unfold readV
  rw [decide_eq_true (by have := text_short hok; simpa using this), spoilt_law hok hk ha hd hne]
theorem bytesD_map : ∀ s : Str, bytesD (s.map fun c => D.num .u8 (c.toNat : Int)) = some s
  | [] => rfl
  | c :: r => by
    have ih := bytesD_map r
    simp only [List.map_cons, bytesD, ih, Option.map_some, Int.toNat_natCast, UInt8.ofNat_toNat]
set_option maxHeartbeats 8000000 in
theorem spoilt_meets (hg : GOK g) (p : Plan) (at' digit : Int) (_ : -9223372036854775808 ≤ at' ∧ at' ≤ 9223372036854775807) (_ : -9223372036854775808 ≤ digit ∧ digit ≤ 9223372036854775807) : Meets (Tz g) f_law01_DifferSpoilt [p.d, int at', int digit] ⟨.d (.bool true), []⟩ := by
  refine meets_law01_DifferSpoilt ?_
  unfold vc_law01_DifferSpoilt
  simp [Plan.d, spans]
  refine CALL.val [p.d] _ rfl (law01_short_meets p) (.inl rfl) ?_
  by_cases hs : p.starts.length ≤ 6
  case neg =>
    simp [vc_law01_DifferSpoilt_k3, hs]
    exact known_call hg (by simp)
  simp [vc_law01_DifferSpoilt_k3, hs]
  refine CALL.val [p.d] _ rfl (ref01_Plan_meets p (by omega)) (.inl rfl) ?_
  cases hok : p.ok with
  | false =>
    simp [vc_law01_DifferSpoilt_k2]
    exact known_call hg (by simp)
  | true =>
    have hTx := TxOK_ok hok
    have hsh := text_short hok
    simp [vc_law01_DifferSpoilt_k2]
    refine ⟨fun _ => known_call hg (by simp), fun h0 => ⟨fun _ => known_call hg (by simp), fun h9 => ?_⟩⟩
    refine CALL.mk [p.d] _ rfl (differ_Print_data hg p hok hTx) (.inl rfl) (by simp) ?_
    generalize hT : textP p = T at *
    simp [vc_law01_DifferSpoilt_k1]
    refine ⟨fun _ => known_call hg (by simp), fun ha0 => ⟨fun _ => known_call hg (by simp), fun hal => ?_⟩⟩
    obtain ⟨k, rfl⟩ : ∃ k : Nat, at' = k := ⟨at'.toNat, by omega⟩
    obtain ⟨c, hc⟩ : ∃ c, T[k]? = some c := ⟨_, List.getElem?_eq_getElem (by omega)⟩
    obtain ⟨e, rfl⟩ : ∃ e : Nat, digit = e := ⟨digit.toNat, by omega⟩
    have hc8 := c.toNat_lt
    simp [hc]
    refine ⟨fun _ => known_call hg (by simp), fun h48 => ⟨fun _ => known_call hg (by simp), fun h57 => ?_⟩⟩
    have w1 : IntKind.u8.wrap ((c.toNat : Int) - 48) = (c.toNat : Int) - 48 := wrap_u8 (by omega) (by omega)
    have w2 := wrap_id (n := (c.toNat : Int) - 48) (by omega) (by omega)
    have w3 := wrap_id (n := 48 + (e : Int)) (by omega) (by omega)
    have w4 : IntKind.u8.wrap (48 + (e : Int)) = 48 + (e : Int) := wrap_u8 (by omega) (by omega)
    simp [w1, w2, w3, w4]
    refine ⟨fun _ => known_call hg (by simp), fun hne => ?_⟩
    have hdt := dig_toNat (k := e) (by omega)
    have hd : isD (UInt8.ofNat (48 + e)) = true := by
      simp only [isD, Bool.and_eq_true, decide_eq_true_eq, hdt]
      omega
    have hcd : isD c = true := by
      simp only [isD, Bool.and_eq_true, decide_eq_true_eq]
      omega
    have hcne : c ≠ UInt8.ofNat (48 + e) := fun h => by
      have := congrArg UInt8.toNat h
      rw [hdt] at this
      omega
    have hset : (T.map fun c => D.num IntKind.u8 (c.toNat : Int)).set k (D.num IntKind.u8 (48 + (e : Int))) = (T.set k (UInt8.ofNat (48 + e))).map fun c => D.num IntKind.u8 (c.toNat : Int) := by
      rw [List.map_set, hdt]
      rfl
    rw [hset]
    refine ⟨by omega, by omega, _, bytesD_map _, by omega, ?_⟩
    have hR := differ_Read_meets hg (T.set k (UInt8.ofNat (48 + e))) (by simp; omega)
    rw [← hT] at hc
    have hV := readV_spoilt hok hc hcd hd hcne
    rw [hT] at hV
    rw [hV] at hR
    refine CALL.mk [.str (T.set k (UInt8.ofNat (48 + e)))] _ rfl hR (.inl rfl) (by simp) ?_
    simp [vc_law01_DifferSpoilt_k0, zeroP, Plan.d, spans, lookH]
    refine CALL.val [zeroP.d, zeroP.d] _ (by simp [argsD, argD, toD, zeroP, Plan.d, spans]) same_zeroP (.inl rfl) ?_
    simp
    exact known_call hg (by simp)
end Go.Vc

namespace Go.Vc
open Go Go.RowKit Go.ChangeShapes Go.WideShapes Go.ChangeAt Go.Proofs Go.Proofs.YtcmdbmcggfmmnaaGreatDoor
theorem spoilt_calls {H : Type} {enc : TypeId × Value → H} (W : World) (base : Nat) (args : Array Value) (ds : List (DataW H)) (ps : List MemPlace) (hval : ∀ (j : Nat) t v, Tryz.f4.params[j]? = some t → args[j]? = some v → Value.okWide Tryz.prog W .any base t v)
    (hA : DataW.TrodAll enc Tryz.prog W 0 (fun _ => true) true Tryz.f4.params.toList args.toList ds ps) (hL : laidMetH Tryz.prog laidL W) (hsh : W.ShapedOpen Tryz.prog) : Calls Tryz.prog 4 args W fun e W' => e = .returned (.bool true) ∧ Below W.heap.size W W' := by
  rw [Tryz.params4] at hA hval
  obtain ⟨v0, v1, v2, d0, d1, d2, p0, p1, p2, rfl, rfl, rfl, h0, h1, h2⟩ := trodAll_three hA
  obtain ⟨x0, g0⟩ := open_plan (hval 0 25 v0 rfl rfl) h0
  obtain ⟨x1, g1, b1⟩ := open_int' (hval 1 3 v1 rfl rfl) h1
  obtain ⟨x2, g2, b2⟩ := open_int' (hval 2 3 v2 rfl rfl) h2
  exact law_calls (C := Tz (gW W)) (spoilt_meets (gok hL hsh) x0 x1 x2 b1 b2) rfl (Below.refl _ _) (us := [v0, v1, v2]) rfl (fun i d u hd hu => by
    match i, hd, hu with
    | 0, hd, hu => simp at hd hu; subst hd; subst hu; exact g0
    | 1, hd, hu => simp at hd hu; subst hd; subst hu; exact g1
    | 2, hd, hu => simp at hd hu; subst hd; subst hu; exact g2
    | i + 3, hd, hu => simp at hd)
theorem spoilt_lifted (os : Os) (started : os.Started) (H : Type) (enc : TypeId × Value → H) :
    ReturnsInHanded {} Tryz.checked os 4 .any (fun w args => (Rows.differSpoiltSpec.pre enc Tryz.prog Tryz.f4 [] false w args ∧ laidMetH Tryz.prog laidL w) ∧ sizedMet enc Tryz.prog Tryz.f4 (OpenSpec.ofChange Rows.differSpoiltSpec) false w args)
      (Rows.differSpoiltSpec.post enc Tryz.prog Tryz.f4 false true false false) :=
  law_lifted (C := Tryz.checked) (tb := 4) (n := 3) started own (by kernel_rfl) Tryz.func4
    (ChangeSpec.witness_shaped (enc := enc) (C := Tryz.checked) (os := os) (X := fun w _ => laidMetH Tryz.prog laidL w) false (World.laidAll Tryz.prog os laidL) #[.agg #[.slice none 0 0, .int .i64 0, .int .i64 0], .int .i64 0, .int .i64 0] 8 (World.laidAll_os _ _ _)
      (World.shaped_of_ZipB (by kernel_rfl) (by kernel_rfl)) (by kernel_rfl) (by kernel_rfl) (by kernel_rfl)
      (by rw [MakeChecks.laidMetH_plain _ _ _ (by kernel_rfl)]; exact laidMet_laidAll _ (by kernel_rfl) (by kernel_rfl)))
    laidOut (by kernel_rfl) (by kernel_rfl) Tryz.underlying4 rfl (by kernel_rfl) (fun ds hl => by
      match ds, hl with
      | [a, b, c], _ => rfl) spoilt_calls
theorem spoilt_holds : Rows.DifferSpoiltSaid :=
  OpenClaim.holds_of_wide 4 Tryz.f4 rfl rfl rfl rfl rfl rfl rfl ⟨rfl, rfl, rfl, rfl, rfl⟩ rfl rfl rfl rfl rfl (by kernel_rfl) Tryz.func4 (by kernel_rfl)
    (of_decide_eq_true (by kernel_rfl)) (by unfold Func.isWrapper; first | (rw [if_pos (by decide +kernel)]; kernel_rfl) | (rw [if_neg (by decide +kernel)]; exact ⟨rfl, rfl⟩))
    (fun os started H enc _ => spoilt_lifted os started H enc)
theorem spoilt_card : Rows.DifferSpoiltCardSaid :=
  Claim7.holds_tied_plain_at .later [] [.data, .data, .data, .data, .pinned] true (true, "15cb5935d4d8ef802efdc98496c82d79824b630dbcd1602acbb72c8493dcdd90") true spoilt_holds (fun _ h => by cases h) (by kernel_rfl) (fun _ h => by cases h) differSpoilt_row_tie rfl ⟨rfl, rfl⟩ (by kernel_rfl) rfl
    (fun f fn hf hfn => by
      obtain rfl : f = 4 := Option.some.inj ((show Tryz.prog.funcNamed "ephemerist/ephemeristlaw01.DifferSpoilt" = some 4 by kernel_rfl).symm.trans hf) |>.symm
      obtain rfl : fn = Tryz.f4 := (Option.some.inj (Tryz.func4.symm.trans hfn)).symm
      exact ⟨by kernel_rfl, fun j t ht => by
        rw [Tryz.params4] at ht
        have hm : t ∈ [25, 3, 3] := by simpa using Array.mem_of_getElem? ht
        have hall : ([25, 3, 3].all fun u => !Tryz.prog.wantsStandIn u) = true := by kernel_rfl
        exact (show Tryz.prog.wantsStandIn t = false by simpa using List.all_eq_true.1 hall t hm)⟩)
    (by kernel_rfl)
end Go.Vc

namespace Go.Proofs.YtcmdbmcggfmmnaaGreatDoor
theorem law_DifferSpoiltCardSaid : Rows.DifferSpoiltCardSaid := Go.Vc.spoilt_card
end Go.Proofs.YtcmdbmcggfmmnaaGreatDoor
