/- Proves that the statement DifferRowsCardSaid holds of the given program: for every input the law returns true and leaves its arguments as they were; under the row's own conditions, that the listed tables are laid as the program's text has them. -/
import Derived.Test.YtknbgegcnfdnkaaGreatDoorDa
import Derived.Test.YtknbgegcnfdnkaaGreatDoorVc27
set_option maxRecDepth 100000
namespace Go.Vc
open Go Go.Proofs Go.RowKit
def ann_law01_DifferRows : Nat → List Nat := fun n => match n with  | _ => []
def vc_law01_DifferRows (P : Ctx) (pre : List ABlk) (a0 : AV) (r : AV) (post : List PB) : Prop :=
  let h0 : Heap := numbered 0 pre
  BOX T_api_DifferPlan a0 24 h0 fun v1 h1 =>
  LOAD true 3 v1 h1 fun v7 =>
  CALL P f_law01_short [v7] 48 h1 (fun _ v8 h2 =>
  NOT v8 fun v9 =>
  COND v9
  (CALL P f_law01_known [] 64 h2 (fun _ v10 h4 =>
  POST v10 h4 pre r post)
  (fun _ _ _ => False))
  (LOAD true 3 v1 h2 fun v12 =>
  CALL P f_differ_Rows [v12] 72 h2 (fun _ v13 h6 =>
  EXT v13 0 fun v14 =>
  EXT v13 1 fun v15 =>
  LOAD true 3 v1 h6 fun v17 =>
  CALL P f_differ_Printed [v17] 128 h6 (fun _ v18 h8 =>
  EXT v18 0 fun v19 =>
  EXT v18 1 fun v20 =>
  LOAD true 3 v1 h8 fun v21 =>
  CALL P f_ref01_Plan [v21] 184 h8 (fun _ v22 h10 =>
  NOT v22 fun v23 =>
  COND v23
  (BIN 0 .eql v15 (.d (.num .i64 2)) fun v25 =>
  CONDG v25
  (LEN false v14 h10 fun v28 =>
  BIN 0 .eql v28 (.d (.num .i64 0)) fun v29 =>
  CONDG v29
  (BIN 0 .eql v20 (.d (.num .i64 2)) fun v33 =>
  CONDG v33
  (LEN false v19 h10 fun v37 =>
  BIN 0 .eql v37 (.d (.num .i64 0)) fun v38 =>
  CONDG v38
  (CALL P f_law01_known [] 336 h10 (fun _ v41 h12 =>
  POST v41 h12 pre r post)
  (fun _ _ _ => False))
  (POST (.d (.bool false)) h10 pre r post))
  (POST (.d (.bool false)) h10 pre r post))
  (POST (.d (.bool false)) h10 pre r post))
  (POST (.d (.bool false)) h10 pre r post))
  (BIN 0 .eql v15 (.d (.num .i64 0)) fun v44 =>
  CONDG v44
  (LOAD true 3 v1 h10 fun v47 =>
  CALL P f_ref01_Rows [v47] 240 h10 (fun _ v48 h14 =>
  CALL P f_ref01_SameSpans [v14, v48] 248 h14 (fun _ v49 h16 =>
  CONDG v49
  (BIN 0 .eql v20 (.d (.num .i64 0)) fun v53 =>
  CONDG v53
  (LOAD true 3 v1 h16 fun v57 =>
  CALL P f_ref01_Printed [v57] 320 h16 (fun _ v58 h18 =>
  CALL P f_ref01_SameSpans [v19, v58] 328 h18 (fun _ v59 h20 =>
  CONDG v59
  (CALL P f_law01_known [] 352 h20 (fun _ v62 h22 =>
  POST v62 h22 pre r post)
  (fun _ _ _ => False))
  (POST (.d (.bool false)) h20 pre r post))
  (fun _ _ _ => False))
  (fun _ _ _ => False))
  (POST (.d (.bool false)) h16 pre r post))
  (POST (.d (.bool false)) h16 pre r post))
  (fun _ _ _ => False))
  (fun _ _ _ => False))
  (POST (.d (.bool false)) h10 pre r post)))
  (fun _ _ _ => False))
  (fun _ _ _ => False))
  (fun _ _ _ => False)))
  (fun _ _ _ => False)
theorem vc_law01_DifferRows_eq (g : GG) (pre : List ABlk) (a0 : AV) (r : AV) (post : List PB) : vcFn (Tz g) false ann_law01_DifferRows Tryz.f4 pre [a0] (.ret r) post = vc_law01_DifferRows (Tz g) pre a0 r post := by kernel_rfl
theorem hf_law01_DifferRows : Tryz.prog.funcs[f_law01_DifferRows]? = some Tryz.f4 := by kernel_rfl
theorem ok_law01_DifferRows : fnVcOK Tryz.prog Tryz.f4 = true := by kernel_rfl
theorem nt_law01_DifferRows : Nat.ble 1 Tryz.f4.ntmps = true := by kernel_rfl
theorem meetsH_law01_DifferRows {g : GG} {pre : List ABlk} {a0 : AV} {r : AV} {post : List PB} (hk : Nat.ble pre.length 24 = true) (h : vc_law01_DifferRows (Tz g) pre a0 r post) : MeetsH (Tz g) f_law01_DifferRows pre [a0] (.ret r) post :=
  meetsH_of_vc (C := Tz g) ann_law01_DifferRows hf_law01_DifferRows ok_law01_DifferRows nt_law01_DifferRows hk (pn := false) (Eq.mpr (vc_law01_DifferRows_eq g pre a0 r post) h)
theorem meets_law01_DifferRows {g : GG} {a0 : D} {r : Res} (h : vc_law01_DifferRows (Tz g) [] (.d a0) r.val (r.bl.map .upd)) : Meets (Tz g) f_law01_DifferRows [a0] r := meetsH_law01_DifferRows rfl h
end Go.Vc

namespace Go.Vc
open Go Go.Proofs
variable {g : GG}
theorem rows_meets (hg : GOK g) (p : Plan) : Meets (Tz g) f_law01_DifferRows [p.d] ⟨.d (.bool true), []⟩ := by
  refine meets_law01_DifferRows ?_
  unfold vc_law01_DifferRows
  simp [Plan.d, spans]
  refine CALL.val [p.d] _ rfl (law01_short_meets p) (.inl rfl) ?_
  simp
  constructor
  · intro h
    exact known_call hg (by simp)
  · intro h
    have hl : p.starts.length ≤ 1000 := by omega
    cases hok : p.ok with
    | false =>
      refine CALL.mk [p.d] _ rfl (differ_Rows_meets p hl) (.inl rfl) (by simp [hok]) ?_
      simp [hok]
      refine CALL.mk [p.d] _ rfl (differ_Printed_meets p hl) (.inl rfl) (by simp [hok]) ?_
      simp [hok]
      refine CALL.val [p.d] _ rfl (ref01_Plan_meets p hl) (.inl rfl) ?_
      simp [hok]
      exact known_call hg (by simp)
    | true =>
      obtain ⟨a1, a2, a3, a4, a5⟩ := Plan.ok_len hok
      obtain ⟨n, hn⟩ : ∃ n : Nat, p.rows = n := ⟨p.rows.toNat, by omega⟩
      have hr := rowsL_len p n hn
      have hpl : (printedL p).length = n := by simp [printedL, hr]
      refine CALL.mk [p.d] _ rfl (differ_Rows_meets p hl) (.inl rfl) (by simp [hok]) ?_
      simp [hok]
      refine CALL.mk [p.d] _ rfl (differ_Printed_meets p hl) (.inl rfl) (by simp [hok]) ?_
      simp [hok]
      refine CALL.val [p.d] _ rfl (ref01_Plan_meets p hl) (.inl rfl) ?_
      simp [hok]
      refine CALL.mk [p.d] _ rfl (ref01_Rows_meets p hok) (.inl rfl) (by simp) ?_
      simp
      refine CALL.val [spans (rowsL p), spans (rowsL p)] _ (by simp [spans]) (ref01_SameSpans_meets _ _ (by omega) (by omega)) (.inr rfl) ?_
      simp
      refine CALL.mk [p.d] _ rfl (ref01_Printed_meets p hok) (.inl rfl) (by simp) ?_
      simp
      refine CALL.val [spans (printedL p), spans (printedL p)] _ (by simp [spans]) (ref01_SameSpans_meets _ _ (by omega) (by omega)) (.inr rfl) ?_
      simp
      exact known_call hg (by simp)
end Go.Vc

set_option profiler true
set_option profiler.threshold 500
namespace Go.Vc
open Go Go.RowKit Go.ChangeShapes Go.WideShapes Go.ChangeAt Go.Proofs Go.Proofs.YtknbgegcnfdnkaaGreatDoor
theorem rows_calls {H : Type} {enc : TypeId × Value → H} (W : World) (base : Nat) (args : Array Value) (ds : List (DataW H)) (ps : List MemPlace) (hval : ∀ (j : Nat) t v, Tryz.f4.params[j]? = some t → args[j]? = some v → Value.okWide Tryz.prog W .any base t v)
    (hA : DataW.TrodAll enc Tryz.prog W 0 (fun _ => true) true Tryz.f4.params.toList args.toList ds ps) (hL : laidMetH Tryz.prog laidL W) (hsh : W.ShapedOpen Tryz.prog) : Calls Tryz.prog 4 args W fun e W' => e = .returned (.bool true) ∧ Below W.heap.size W W' := by
  rw [Tryz.params4] at hA hval
  obtain ⟨v0, d0, rfl, rfl, h0⟩ := trodAll_one hA
  obtain ⟨x0, g0⟩ := open_plan (hval 0 24 v0 rfl rfl) h0
  exact law_calls (C := Tz (gW W)) (rows_meets (gok hL hsh) x0) rfl (Below.refl _ _) (us := [v0]) rfl (fun i d u hd hu => by
    match i, hd, hu with
    | 0, hd, hu => simp at hd hu; subst hd; subst hu; exact g0
    | i + 1, hd, hu => simp at hd)
theorem rows_lifted (os : Os) (started : os.Started) (H : Type) (enc : TypeId × Value → H) :
    ReturnsInHanded {} Tryz.checked os 4 .any (fun w args => (Rows.differRowsSpec.pre enc Tryz.prog Tryz.f4 [] false w args ∧ laidMetH Tryz.prog laidL w) ∧ sizedMet enc Tryz.prog Tryz.f4 (OpenSpec.ofChange Rows.differRowsSpec) false w args)
      (Rows.differRowsSpec.post enc Tryz.prog Tryz.f4 false true false false) :=
  law_lifted (C := Tryz.checked) (tb := 4) (n := 1) started own (by kernel_rfl) Tryz.func4
    (ChangeSpec.witness_shaped (enc := enc) (C := Tryz.checked) (os := os) (X := fun w _ => laidMetH Tryz.prog laidL w) false (World.laidAll Tryz.prog os laidL) #[.agg #[.slice none 0 0, .int .i64 0, .int .i64 0]] 8 (World.laidAll_os _ _ _)
      (World.shaped_of_ZipB (by kernel_rfl) (by kernel_rfl)) (by kernel_rfl) (by kernel_rfl) (by kernel_rfl)
      (by rw [MakeChecks.laidMetH_plain _ _ _ (by kernel_rfl)]; exact laidMet_laidAll _ (by kernel_rfl) (by kernel_rfl)))
    laidOut (by kernel_rfl) (by kernel_rfl) Tryz.underlying4 rfl (by kernel_rfl) (fun ds hl => by
      match ds, hl with
      | [a], _ => rfl) rows_calls
theorem rows_holds : Rows.DifferRowsSaid :=
  OpenClaim.holds_of_wide 4 Tryz.f4 rfl rfl rfl rfl rfl rfl rfl ⟨rfl, rfl, rfl, rfl, rfl⟩ rfl rfl rfl rfl rfl (by kernel_rfl) Tryz.func4 (by kernel_rfl)
    (of_decide_eq_true (by kernel_rfl)) (by unfold Func.isWrapper; first | (rw [if_pos (by decide +kernel)]; kernel_rfl) | (rw [if_neg (by decide +kernel)]; exact ⟨rfl, rfl⟩))
    (fun os started H enc _ => rows_lifted os started H enc)
theorem rows_card : Rows.DifferRowsCardSaid :=
  Claim7.holds_tied_plain_at .later [] [.data, .data, .data, .data, .pinned] true (true, "d10b68e6a0c25b14fab4c5b71042fa3c3e8e84e3c7cd95ea514fc863592e91e4") true rows_holds (fun _ h => by cases h) (by kernel_rfl) (fun _ h => by cases h) differRows_row_tie rfl ⟨rfl, rfl⟩ (by kernel_rfl) rfl
    (fun f fn hf hfn => by
      obtain rfl : f = 4 := Option.some.inj ((show Tryz.prog.funcNamed "ephemerist/ephemeristlaw01.DifferRows" = some 4 by kernel_rfl).symm.trans hf) |>.symm
      obtain rfl : fn = Tryz.f4 := (Option.some.inj (Tryz.func4.symm.trans hfn)).symm
      exact ⟨by kernel_rfl, fun j t ht => by
        rw [Tryz.params4] at ht
        have hm : t ∈ [24] := by simpa using Array.mem_of_getElem? ht
        have hall : ([24].all fun u => !Tryz.prog.wantsStandIn u) = true := by kernel_rfl
        exact (show Tryz.prog.wantsStandIn t = false by simpa using List.all_eq_true.1 hall t hm)⟩)
    (by kernel_rfl)
end Go.Vc

namespace Go.Proofs.YtknbgegcnfdnkaaGreatDoor
theorem law_DifferRowsCardSaid : Rows.DifferRowsCardSaid := Go.Vc.rows_card
end Go.Proofs.YtknbgegcnfdnkaaGreatDoor
