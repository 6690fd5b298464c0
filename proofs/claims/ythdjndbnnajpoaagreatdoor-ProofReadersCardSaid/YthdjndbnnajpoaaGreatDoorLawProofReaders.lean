/- Proves that the statement ProofReadersCardSaid holds of the given program: for every input the law returns true and leaves its arguments as they were; under the row's own conditions, that the listed tables are laid as the program's text has them. -/
import Derived.Test.YthdjndbnnajpoaaGreatDoorVc23
import Derived.Test.YthdjndbnnajpoaaGreatDoorVc11
import Derived.Test.YthdjndbnnajpoaaGreatDoorVc38
import Derived.Test.YthdjndbnnajpoaaGreatDoorVc26
import Derived.Test.YthdjndbnnajpoaaGreatDoorVc30
set_option maxRecDepth 100000
namespace Go.Vc
open Go Go.Proofs Go.RowKit
def ann_law09_ProofReaders : Nat → List Nat := fun n => match n with  | _ => []
def vc_law09_ProofReaders_k0 (P : Ctx) (pre : List ABlk) (r : AV) (post : List PB) (v0 : AV) (v2 : AV) (h3 : Heap) : Prop :=
  BIN 0 .eql v0 (.d (.num .i64 2)) fun v1 =>
  CONDG v1
  (LEN false v2 h3 fun v4 =>
  BIN 0 .eql v4 (.d (.num .i64 0)) fun v5 =>
  CONDG v5
  (CALL P f_law09_known [] 376 h3 (fun _ v7 h8 =>
  POST v7 h8 pre r post)
  (fun _ _ _ => False))
  (POST (.d (.bool false)) h3 pre r post))
  (POST (.d (.bool false)) h3 pre r post)
def vc_law09_ProofReaders_k1 (P : Ctx) (pre : List ABlk) (r : AV) (post : List PB) (v0 : AV) (v2 : AV) (h3 : Heap) (a5 : AV) (v9 : AV) : Prop :=
  BIN 0 .eql v0 (.d (.num .i64 0)) fun v1 =>
  CONDG v1
  (LOAD true 3 v2 h3 fun v4 =>
  CALL P f_ref09_Readers [v4, a5] 360 h3 (fun _ v7 h8 =>
  CALL P f_ref01_Same [v9, v7] 368 h8 (fun _ v11 h12 =>
  CONDG v11
  (CALL P f_law09_known [] 392 h12 (fun _ v14 h15 =>
  POST v14 h15 pre r post)
  (fun _ _ _ => False))
  (POST (.d (.bool false)) h12 pre r post))
  (fun _ _ _ => False))
  (fun _ _ _ => False))
  (POST (.d (.bool false)) h3 pre r post)
def vc_law09_ProofReaders_k2 (P : Ctx) (pre : List ABlk) (r : AV) (post : List PB) (v0 : AV) (h2 : Heap) (v3 : AV) (a5 : AV) (v10 : AV) (v11 : AV) : Prop :=
  NOT v0 fun v1 =>
  COND v1
  (POST (.d (.bool false)) h2 pre r post)
  (LOAD true 3 v3 h2 fun v4 =>
  CALL P f_ref09_Line [v4, a5] 296 h2 (fun _ v7 h8 =>
  NOT v7 fun v9 =>
  COND v9
  (vc_law09_ProofReaders_k0 P pre r post v10 v11 h8)
  (vc_law09_ProofReaders_k1 P pre r post v10 v3 h8 a5 v11))
  (fun _ _ _ => False))
def vc_law09_ProofReaders_k3 (P : Ctx) (pre : List ABlk) (r : AV) (post : List PB) (v0 : AV) (v2 : AV) (h3 : Heap) (v6 : AV) (v8 : AV) : Prop :=
  BIN 0 .eql v0 (.d (.num .i64 2)) fun v1 =>
  CONDG v1
  (LEN false v2 h3 fun v4 =>
  BIN 0 .eql v4 (.d (.num .i64 0)) fun v5 =>
  CONDG v5
  (BIN 0 .eql v6 (.d (.num .i64 2)) fun v7 =>
  CONDG v7
  (LEN false v8 h3 fun v9 =>
  BIN 0 .eql v9 (.d (.num .i64 0)) fun v10 =>
  CONDG v10
  (CALL P f_law09_known [] 344 h3 (fun _ v12 h13 =>
  POST v12 h13 pre r post)
  (fun _ _ _ => False))
  (POST (.d (.bool false)) h3 pre r post))
  (POST (.d (.bool false)) h3 pre r post))
  (POST (.d (.bool false)) h3 pre r post))
  (POST (.d (.bool false)) h3 pre r post)
def vc_law09_ProofReaders_k4 (P : Ctx) (pre : List ABlk) (r : AV) (post : List PB) (v0 : AV) (h2 : Heap) (v3 : AV) (v8 : AV) (a12 : AV) (v13 : AV) (v14 : AV) : Prop :=
  BIN 0 .neq v0 (.d (.num .i64 0)) fun v1 =>
  CONDG v1
  (POST (.d (.bool false)) h2 pre r post)
  (LOAD true 3 v3 h2 fun v4 =>
  CALL P f_ref09_Short [v4] 248 h2 (fun _ v6 h7 =>
  CALL P f_ref01_Same [v8, v6] 256 h7 (fun _ v10 h11 =>
  vc_law09_ProofReaders_k2 P pre r post v10 h11 v3 a12 v13 v14)
  (fun _ _ _ => False))
  (fun _ _ _ => False))
def vc_law09_ProofReaders_k5 (P : Ctx) (pre : List ABlk) (r : AV) (post : List PB) (v0 : AV) (v3 : AV) (h4 : Heap) (v10 : AV) (v11 : AV) (a12 : AV) : Prop :=
  EXT v0 0 fun v1 =>
  EXT v0 1 fun v2 =>
  LOAD true 3 v3 h4 fun v5 =>
  CALL P f_ref09_Page [v5] 192 h4 (fun _ v7 h8 =>
  NOT v7 fun v9 =>
  COND v9
  (vc_law09_ProofReaders_k3 P pre r post v10 v11 h8 v2 v1)
  (vc_law09_ProofReaders_k4 P pre r post v2 h8 v3 v1 a12 v10 v11))
  (fun _ _ _ => False)
def vc_law09_ProofReaders_k6 (P : Ctx) (pre : List ABlk) (r : AV) (post : List PB) (v0 : AV) (h2 : Heap) (v6 : AV) (a8 : AV) : Prop :=
  NOT v0 fun v1 =>
  COND v1
  (CALL P f_law09_known [] 64 h2 (fun _ v4 h5 =>
  POST v4 h5 pre r post)
  (fun _ _ _ => False))
  (LOAD true 3 v6 h2 fun v7 =>
  CALL P f_proof_Readers [v7, a8] 80 h2 (fun _ v10 h11 =>
  EXT v10 0 fun v12 =>
  EXT v10 1 fun v13 =>
  LOAD true 3 v6 h11 fun v14 =>
  CALL P f_proof_Short [v14] 136 h11 (fun _ v16 h17 =>
  vc_law09_ProofReaders_k5 P pre r post v16 v6 h17 v13 v12 a8)
  (fun _ _ _ => False))
  (fun _ _ _ => False))
def vc_law09_ProofReaders (P : Ctx) (pre : List ABlk) (a0 a1 : AV) (r : AV) (post : List PB) : Prop :=
  let h0 : Heap := numbered 0 pre
  BOX T_api_ProofPage a0 24 h0 fun v2 h1 =>
  LOAD true 3 v2 h1 fun v9 =>
  CALL P f_law09_short [v9] 48 h1 (fun _ v10 h2 =>
  vc_law09_ProofReaders_k6 P pre r post v10 h2 v2 a1)
  (fun _ _ _ => False)
theorem vc_law09_ProofReaders_eq (g : GG) (pre : List ABlk) (a0 a1 : AV) (r : AV) (post : List PB) : vcFn2 (Tz g) false ann_law09_ProofReaders Tryz.f4 pre [a0, a1] (.ret r) post = vc_law09_ProofReaders (Tz g) pre a0 a1 r post := by kernel_rfl
theorem hf_law09_ProofReaders : Tryz.prog.funcs[f_law09_ProofReaders]? = some Tryz.f4 := by kernel_rfl
theorem ok_law09_ProofReaders : fnVcOK Tryz.prog Tryz.f4 = true := by kernel_rfl
theorem nt_law09_ProofReaders : Nat.ble 2 Tryz.f4.ntmps = true := by kernel_rfl
theorem meetsH_law09_ProofReaders {g : GG} {pre : List ABlk} {a0 a1 : AV} {r : AV} {post : List PB} (hk : Nat.ble pre.length 24 = true) (h : vc_law09_ProofReaders (Tz g) pre a0 a1 r post) : MeetsH (Tz g) f_law09_ProofReaders pre [a0, a1] (.ret r) post :=
  meetsH_of_vc (C := Tz g) ann_law09_ProofReaders hf_law09_ProofReaders ok_law09_ProofReaders nt_law09_ProofReaders hk (pn := false) (Eq.mpr ((vcFn2_eq _ _ _ _ _ _ _ _).trans (vc_law09_ProofReaders_eq g pre a0 a1 r post)) h)
theorem meets_law09_ProofReaders {g : GG} {a0 a1 : D} {r : Res} (h : vc_law09_ProofReaders (Tz g) [] (.d a0) (.d a1) r.val (r.bl.map .upd)) : Meets (Tz g) f_law09_ProofReaders [a0, a1] r := meetsH_law09_ProofReaders rfl h
end Go.Vc

namespace Go.Vc
open Go Go.Proofs
variable {g : GG}
attribute [local simp] and_assoc
set_option maxHeartbeats 4000000 in
theorem readers_law_meets (hg : GOK g) (p : Pg) (line : Int) (_ : -9223372036854775808 ≤ line ∧ line ≤ 9223372036854775807) : Meets (Tz g) f_law09_ProofReaders [p.d, int line] ⟨.d (.bool true), []⟩ := by
  have hk := known_meets hg
  refine meets_law09_ProofReaders ?_
  unfold vc_law09_ProofReaders
  simp [Pg.d, lns, ents]
  refine CALL.val [p.d] _ rfl (law09_short_meets p) (.inl rfl) ?_
  cases hr : shortB p with
  | false =>
    simp [vc_law09_ProofReaders_k6]
    exact known_call hk (by simp)
  | true =>
    obtain ⟨s1, s2, s3⟩ := shortB_len hr
    simp [vc_law09_ProofReaders_k6]
    cases hok : p.ok with
    | false =>
      refine CALL.mk [p.d, int line] _ rfl (proof_Readers_bad p line s1 s2 (.inl hok)) (.inl rfl) (by simp) ?_
      simp
      refine CALL.mk [p.d] _ rfl (proof_Short_bad p s1 s2 hok) (.inl rfl) (by simp) ?_
      simp [vc_law09_ProofReaders_k5]
      refine CALL.val [p.d] _ rfl (ref09_Page_meets p (by omega) (by omega)) (.inl rfl) ?_
      simp [hok, vc_law09_ProofReaders_k3, ints]
      exact known_call hk (by simp)
    | true =>
      obtain ⟨a1, a2, a3, a4, a5, a6, a7⟩ := Pg.ok_len hok
      have hsl : (shortL p).length ≤ 6 := by simp [shortL]; omega
      cases hl : lineB p line with
      | false =>
        refine CALL.mk [p.d, int line] _ rfl (proof_Readers_bad p line s1 s2 (.inr ⟨hok, hl⟩)) (.inl rfl) (by simp) ?_
        simp
        refine CALL.mk [p.d] _ rfl (proof_Short_data p hok) (.inl rfl) (by simp) ?_
        simp [vc_law09_ProofReaders_k5]
        refine CALL.val [p.d] _ rfl (ref09_Page_meets p (by omega) (by omega)) (.inl rfl) ?_
        simp [hok, vc_law09_ProofReaders_k4]
        refine CALL.mk [p.d] _ rfl (ref09_Short_meets p hok) (.inl rfl) (by simp) ?_
        simp
        refine CALL.val [ints (shortL p), ints (shortL p)] _ rfl (ref01_Same_meets _ _ (by omega) (by omega)) (.inl rfl) ?_
        simp [vc_law09_ProofReaders_k2]
        refine CALL.val [p.d, int line] _ rfl (ref09_Line_meets p line (by omega)) (.inl rfl) ?_
        simp [hl, vc_law09_ProofReaders_k0, ints]
        exact known_call hk (by simp)
      | true =>
        obtain ⟨k, rfl, hk2⟩ := inB_nat hl
        have hkl : k < p.lines.length := by omega
        have hrl := readersP_len p k
        refine CALL.mk [p.d, int k] _ rfl (proof_Readers_data p k hok hkl) (.inl rfl) (by simp) ?_
        simp
        refine CALL.mk [p.d] _ rfl (proof_Short_data p hok) (.inl rfl) (by simp) ?_
        simp [vc_law09_ProofReaders_k5]
        refine CALL.val [p.d] _ rfl (ref09_Page_meets p (by omega) (by omega)) (.inl rfl) ?_
        simp [hok, vc_law09_ProofReaders_k4]
        refine CALL.mk [p.d] _ rfl (ref09_Short_meets p hok) (.inl rfl) (by simp) ?_
        simp
        refine CALL.val [ints (shortL p), ints (shortL p)] _ rfl (ref01_Same_meets _ _ (by omega) (by omega)) (.inl rfl) ?_
        simp [vc_law09_ProofReaders_k2]
        refine CALL.val [p.d, int k] _ rfl (ref09_Line_meets p k (by omega)) (.inl rfl) ?_
        simp [hl, vc_law09_ProofReaders_k1]
        refine CALL.mk [p.d, int k] _ rfl (ref09_Readers_meets p k hok hkl) (.inl rfl) (by simp) ?_
        simp
        refine CALL.val [ints (readersP p k), ints (readersP p k)] _ rfl (ref01_Same_meets _ _ (by omega) (by omega)) (.inl rfl) ?_
        simp
        exact known_call hk (by simp)
end Go.Vc

namespace Go.Vc
open Go Go.RowKit Go.ChangeShapes Go.WideShapes Go.ChangeAt Go.Proofs Go.Proofs.YthdjndbnnajpoaaGreatDoor
theorem readers_law_calls {H : Type} {enc : TypeId × Value → H} (W : World) (base : Nat) (args : Array Value) (ds : List (DataW H)) (ps : List MemPlace) (hval : ∀ (j : Nat) t v, Tryz.f4.params[j]? = some t → args[j]? = some v → Value.okWide Tryz.prog W .any base t v)
    (hA : DataW.TrodAll enc Tryz.prog W 0 (fun _ => true) true Tryz.f4.params.toList args.toList ds ps) (hL : laidMetH Tryz.prog laidL W) (hsh : W.ShapedOpen Tryz.prog) : Calls Tryz.prog 4 args W fun e W' => e = .returned (.bool true) ∧ Below W.heap.size W W' := by
  rw [Tryz.params4] at hA hval
  obtain ⟨v0, v1, d0, d1, p0, p1, rfl, rfl, rfl, h0, h1⟩ := trodAll_two hA
  obtain ⟨x0, g0⟩ := open_page (hval 0 25 v0 rfl rfl) h0
  obtain ⟨x1, g1, b1⟩ := open_int' (hval 1 3 v1 rfl rfl) h1
  exact law_calls (C := Tz (gW W)) (readers_law_meets (gok hL hsh) x0 x1 b1) rfl (Below.refl _ _) (us := [v0, v1]) rfl (fun i d u hd hu => by
    match i, hd, hu with
    | 0, hd, hu => simp at hd hu; subst hd; subst hu; exact g0
    | 1, hd, hu => simp at hd hu; subst hd; subst hu; exact g1
    | i + 2, hd, hu => simp at hd)
theorem readers_law_lifted (os : Os) (started : os.Started) (H : Type) (enc : TypeId × Value → H) :
    ReturnsInHanded {} Tryz.checked os 4 .any (fun w args => (Rows.proofReadersSpec.pre enc Tryz.prog Tryz.f4 [] false w args ∧ laidMetH Tryz.prog laidL w) ∧ sizedMet enc Tryz.prog Tryz.f4 (OpenSpec.ofChange Rows.proofReadersSpec) false w args)
      (Rows.proofReadersSpec.post enc Tryz.prog Tryz.f4 false true false false) :=
  law_lifted (C := Tryz.checked) (tb := 4) (n := 2) started own (by kernel_rfl) Tryz.func4
    (ChangeSpec.witness_shaped (enc := enc) (C := Tryz.checked) (os := os) (X := fun w _ => laidMetH Tryz.prog laidL w) false (World.laidAll Tryz.prog os laidL) #[.agg #[.int .i64 0, .slice none 0 0, .slice none 0 0], .int .i64 0] 8 (World.laidAll_os _ _ _)
      (World.shaped_of_ZipB (by kernel_rfl) (by kernel_rfl)) (by kernel_rfl) (by kernel_rfl) (by kernel_rfl)
      (by rw [MakeChecks.laidMetH_plain _ _ _ (by kernel_rfl)]; exact laidMet_laidAll _ (by kernel_rfl) (by kernel_rfl)))
    laidOut (by kernel_rfl) (by kernel_rfl) Tryz.underlying4 rfl (by kernel_rfl) (fun ds hl => by
      match ds, hl with
      | [a, b], _ => rfl) readers_law_calls
theorem readers_law_holds : Rows.ProofReadersSaid :=
  OpenClaim.holds_of_wide 4 Tryz.f4 rfl rfl rfl rfl rfl rfl rfl ⟨rfl, rfl, rfl, rfl, rfl⟩ rfl rfl rfl rfl rfl (by kernel_rfl) Tryz.func4 (by kernel_rfl)
    (of_decide_eq_true (by kernel_rfl)) (by unfold Func.isWrapper; first | (rw [if_pos (by decide +kernel)]; kernel_rfl) | (rw [if_neg (by decide +kernel)]; exact ⟨rfl, rfl⟩))
    (fun os started H enc _ => readers_law_lifted os started H enc)
theorem readers_law_card : Rows.ProofReadersCardSaid :=
  Claim7.holds_tied_plain_at .later [] [.data, .data, .data, .data, .pinned] true (true, "37bfc3ba26a816bdd744f413de7fa5ad01d8f38205d20d0bea52d9922db35776") true readers_law_holds (fun _ h => by cases h) (by kernel_rfl) (fun _ h => by cases h) proofReaders_row_tie rfl ⟨rfl, rfl⟩ (by kernel_rfl) rfl
    (fun f fn hf hfn => by
      obtain rfl : f = 4 := Option.some.inj ((show Tryz.prog.funcNamed "ephemerist/ephemeristlaw09.ProofReaders" = some 4 by kernel_rfl).symm.trans hf) |>.symm
      obtain rfl : fn = Tryz.f4 := (Option.some.inj (Tryz.func4.symm.trans hfn)).symm
      exact ⟨by kernel_rfl, fun j t ht => by
        rw [Tryz.params4] at ht
        have hm : t ∈ [25, 3] := by simpa using Array.mem_of_getElem? ht
        have hall : ([25, 3].all fun u => !Tryz.prog.wantsStandIn u) = true := by kernel_rfl
        exact (show Tryz.prog.wantsStandIn t = false by simpa using List.all_eq_true.1 hall t hm)⟩)
    (by kernel_rfl)
end Go.Vc

namespace Go.Proofs.YthdjndbnnajpoaaGreatDoor
theorem law_ProofReadersCardSaid : Rows.ProofReadersCardSaid := Go.Vc.readers_law_card
end Go.Proofs.YthdjndbnnajpoaaGreatDoor
