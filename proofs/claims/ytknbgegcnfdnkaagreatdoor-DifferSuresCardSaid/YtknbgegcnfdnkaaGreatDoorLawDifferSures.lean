/- Proves that the statement DifferSuresCardSaid holds of the given program: for every input the law returns true and leaves its arguments as they were; under the row's own conditions, that the listed tables are laid as the program's text has them. -/
import Derived.Test.YtknbgegcnfdnkaaGreatDoorVz
import Derived.Test.YtknbgegcnfdnkaaGreatDoorDa
import Derived.Test.YtknbgegcnfdnkaaGreatDoorDd
import Derived.Test.YtknbgegcnfdnkaaGreatDoorVc27
set_option maxRecDepth 100000
namespace Go.Vc
open Go Go.Proofs Go.RowKit
def ann_law01_DifferSures : Nat → List Nat := fun n => match n with | 11 => [1, 5, 6, 7, 8] | _ => []
def vc_law01_DifferSures_k0 (P : Ctx) (pre : List ABlk) (r : AV) (post : List PB) (v62 : AV) (vs18 : List AV) (h20 : Heap) (next18 : List AV → Heap → Prop) : Prop :=
  NOT v62 fun v63 =>
  COND v63
  (BIN 0 .eql (nth vs18 2) (.d (.num .i64 0)) fun v65 =>
  CONDG v65
  (BIN 0 .eql (nth vs18 1) (nth vs18 4) fun v69 =>
  CONDG v69
  (CALL P f_law01_known [] 432 h20 (fun _rd23 v72 h22 =>
  POST v72 h22 pre r post)
  (fun _ _ _ => False))
  (POST (.d (.bool false)) h20 pre r post))
  (POST (.d (.bool false)) h20 pre r post))
  (BIN 0 .add (nth vs18 4) (.d (.num .i64 1)) fun v59 =>
  next18 [(nth vs18 0), (nth vs18 1), (nth vs18 2), (nth vs18 3), v59] h20)
def vc_law01_DifferSures_k1 (P : Ctx) (pre : List ABlk) (r : AV) (post : List PB) (vs18 : List AV) (h19 : Heap) (next18 : List AV → Heap → Prop) : Prop :=
  FADDR 1 (nth vs18 0) h19 fun v55 =>
  LOAD false 1 v55 h19 fun v56 =>
  BIN 0 .lss (nth vs18 4) v56 fun v57 =>
  COND v57
  (CALL P f_ref01_Listed [(nth vs18 3), (nth vs18 4)] 352 h19 (fun _rd21 v62 h20 =>
  vc_law01_DifferSures_k0 P pre r post v62 vs18 h20 next18)
  (fun _ _ _ => False))
  (BIN 0 .eql (nth vs18 2) (.d (.num .i64 5)) fun v75 =>
  CONDG v75
  (BIN 0 .eql (nth vs18 1) (.d (.num .i64 0)) fun v78 =>
  CONDG v78
  (CALL P f_law01_known [] 392 h19 (fun _rd25 v81 h24 =>
  POST v81 h24 pre r post)
  (fun _ _ _ => False))
  (POST (.d (.bool false)) h19 pre r post))
  (POST (.d (.bool false)) h19 pre r post))
def vc_law01_DifferSures_k2 (P : Ctx) (pre : List ABlk) (r : AV) (post : List PB) (v17 : AV) (h14 : Heap) (v16 : AV) (v45 : AV) (v1 : AV) (v21 : AV) (v22 : AV) : Prop :=
  BIN 0 .neq v17 (.d (.num .i64 0)) fun v47 =>
  CONDG v47
  (POST (.d (.bool false)) h14 pre r post)
  (CALL P f_ref01_Same [v16, v45] 264 h14 (fun _rd17 v51 h16 =>
  NOT v51 fun v52 =>
  COND v52
  (POST (.d (.bool false)) h16 pre r post)
  (LOOP [v1, v21, v22, v45, (.d (.num .i64 0))] h16 296 fun vs18 h19 next18 =>
  vc_law01_DifferSures_k1 P pre r post vs18 h19 next18))
  (fun _ _ _ => False))
def vc_law01_DifferSures_k3 (P : Ctx) (pre : List ABlk) (r : AV) (post : List PB) (v24 : AV) (v17 : AV) (v16 : AV) (h10 : Heap) (v22 : AV) (v21 : AV) (v1 : AV) : Prop :=
  NOT v24 fun v25 =>
  COND v25
  (BIN 0 .eql v17 (.d (.num .i64 2)) fun v27 =>
  CONDG v27
  (LEN false v16 h10 fun v30 =>
  BIN 0 .eql v30 (.d (.num .i64 0)) fun v31 =>
  CONDG v31
  (BIN 0 .eql v22 (.d (.num .i64 2)) fun v35 =>
  CONDG v35
  (BIN 0 .eql v21 (.d (.num .i64 0)) fun v39 =>
  CONDG v39
  (CALL P f_law01_known [] 328 h10 (fun _rd13 v42 h12 =>
  POST v42 h12 pre r post)
  (fun _ _ _ => False))
  (POST (.d (.bool false)) h10 pre r post))
  (POST (.d (.bool false)) h10 pre r post))
  (POST (.d (.bool false)) h10 pre r post))
  (POST (.d (.bool false)) h10 pre r post))
  (LOAD true 3 v1 h10 fun v44 =>
  CALL P f_ref01_Sure [v44] 208 h10 (fun _rd15 v45 h14 =>
  vc_law01_DifferSures_k2 P pre r post v17 h14 v16 v45 v1 v21 v22)
  (fun _ _ _ => False))
def vc_law01_DifferSures_k4 (P : Ctx) (pre : List ABlk) (r : AV) (post : List PB) (v15 : AV) (v1 : AV) (h6 : Heap) : Prop :=
  EXT v15 0 fun v16 =>
  EXT v15 1 fun v17 =>
  LOAD true 3 v1 h6 fun v19 =>
  CALL P f_differ_Doubt [v19] 128 h6 (fun _rd9 v20 h8 =>
  EXT v20 0 fun v21 =>
  EXT v20 1 fun v22 =>
  LOAD true 3 v1 h8 fun v23 =>
  CALL P f_ref01_Plan [v23] 184 h8 (fun _rd11 v24 h10 =>
  vc_law01_DifferSures_k3 P pre r post v24 v17 v16 h10 v22 v21 v1)
  (fun _ _ _ => False))
  (fun _ _ _ => False)
def vc_law01_DifferSures_k5 (P : Ctx) (pre : List ABlk) (r : AV) (post : List PB) (v10 : AV) (h2 : Heap) (v1 : AV) : Prop :=
  NOT v10 fun v11 =>
  COND v11
  (CALL P f_law01_known [] 64 h2 (fun _rd5 v12 h4 =>
  POST v12 h4 pre r post)
  (fun _ _ _ => False))
  (LOAD true 3 v1 h2 fun v14 =>
  CALL P f_differ_Sure [v14] 72 h2 (fun _rd7 v15 h6 =>
  vc_law01_DifferSures_k4 P pre r post v15 v1 h6)
  (fun _ _ _ => False))
def vc_law01_DifferSures (P : Ctx) (pre : List ABlk) (a0 : AV) (r : AV) (post : List PB) : Prop :=
  let h0 : Heap := numbered 0 pre
  BOX T_api_DifferPlan a0 24 h0 fun v1 h1 =>
  LOAD true 3 v1 h1 fun v9 =>
  CALL P f_law01_short [v9] 48 h1 (fun _rd3 v10 h2 =>
  vc_law01_DifferSures_k5 P pre r post v10 h2 v1)
  (fun _ _ _ => False)
theorem vc_law01_DifferSures_eq (g : GG) (pre : List ABlk) (a0 : AV) (r : AV) (post : List PB) : vcFn2 (Tz g) false ann_law01_DifferSures Tryz.f6 pre [a0] (.ret r) post = vc_law01_DifferSures (Tz g) pre a0 r post := by kernel_rfl
theorem hf_law01_DifferSures : Tryz.prog.funcs[f_law01_DifferSures]? = some Tryz.f6 := by kernel_rfl
theorem ok_law01_DifferSures : fnVcOK Tryz.prog Tryz.f6 = true := by kernel_rfl
theorem nt_law01_DifferSures : Nat.ble 1 Tryz.f6.ntmps = true := by kernel_rfl
theorem meetsH_law01_DifferSures {g : GG} {pre : List ABlk} {a0 : AV} {r : AV} {post : List PB} (hk : Nat.ble pre.length 24 = true) (h : vc_law01_DifferSures (Tz g) pre a0 r post) : MeetsH (Tz g) f_law01_DifferSures pre [a0] (.ret r) post :=
  meetsH_of_vc (C := Tz g) ann_law01_DifferSures hf_law01_DifferSures ok_law01_DifferSures nt_law01_DifferSures hk (pn := false) (Eq.mpr ((vcFn2_eq _ _ _ _ _ _ _ _).trans (vc_law01_DifferSures_eq g pre a0 r post)) h)
theorem meets_law01_DifferSures {g : GG} {a0 : D} {r : Res} (h : vc_law01_DifferSures (Tz g) [] (.d a0) r.val (r.bl.map .upd)) : Meets (Tz g) f_law01_DifferSures [a0] r := meetsH_law01_DifferSures rfl h
end Go.Vc

namespace Go.Vc
open Go Go.Proofs
variable {g : GG}
attribute [local simp] and_assoc
theorem sures_meets (hg : GOK g) (p : Plan) : Meets (Tz g) f_law01_DifferSures [p.d] ⟨.d (.bool true), []⟩ := by
  refine meets_law01_DifferSures ?_
  unfold vc_law01_DifferSures
  simp [Plan.d, spans]
  refine CALL.val [p.d] _ rfl (law01_short_meets p) (.inl rfl) ?_
  simp [vc_law01_DifferSures_k5]
  constructor
  · intro h
    exact known_call hg (by simp)
  · intro h
    have hl : p.starts.length ≤ 1000 := by omega
    cases hok : p.ok with
    | false =>
      refine CALL.mk [p.d] _ rfl (differ_Sure_bad p hl hok) (.inl rfl) (by simp) ?_
      simp [vc_law01_DifferSures_k4]
      refine CALL.mk [p.d] _ rfl (differ_Doubt_bad p hl hok) (.inl rfl) (by simp) ?_
      simp
      refine CALL.val [p.d] _ rfl (ref01_Plan_meets p hl) (.inl rfl) ?_
      simp [hok, vc_law01_DifferSures_k3]
      exact known_call hg (by simp)
    | true =>
      obtain ⟨a1, a2, a3, a4, a5⟩ := Plan.ok_len hok
      obtain ⟨n, hn⟩ : ∃ n : Nat, p.rows = n := ⟨p.rows.toNat, by omega⟩
      have hr := printedL_len p n hn
      have hsl := sureL_len p n hn
      refine CALL.mk [p.d] _ rfl (differ_Sure_meets p hok) (.inl rfl) (by simp) ?_
      simp [vc_law01_DifferSures_k4]
      refine CALL.mk [p.d] _ rfl (differ_Doubt_meets p hok) (.inl rfl) (by simp) ?_
      simp
      refine CALL.val [p.d] _ rfl (ref01_Plan_meets p hl) (.inl rfl) ?_
      simp [hok, vc_law01_DifferSures_k3]
      refine CALL.mk [p.d] _ rfl (ref01_Sure_meets p hok) (.inl rfl) (by simp) ?_
      simp [vc_law01_DifferSures_k2]
      refine CALL.val [ints (sureL p), ints (sureL p)] _ (by simp [ints]) (ref01_Same_meets _ _ (by omega) (by omega)) (.inr rfl) ?_
      simp
      refine LOOP.mk Nat (fun k => [.ptr 24 0 0 0, .d (int (if doubtL p < 0 then 0 else doubtL p)), .d (int (if doubtL p < 0 then 5 else 0)), .own 208 0, .d (int k)]) (fun k => [(208, some ⟨0, T_int, .lst ((sureL p).map int)⟩), (24, some ⟨0, T_api_DifferPlan, .box [.d (spans p.starts), .d (int n), .d (int p.guard)]⟩)]) (fun k => k ≤ n ∧ doubtL p = idx apart ((printedL p).drop k) k) (fun k => n - k) [] (by simp) 0 (by simp [doubtL]) (by simp [WEAK, spans, hn]) (fun _ _ => rfl) ?_
      rintro k ⟨hk, he⟩
      simp [vc_law01_DifferSures_k1]
      constructor
      · intro hlt
        have hg2 : (printedL p)[k]? = some (printedL p)[k] := List.getElem?_eq_getElem (by omega)
        generalize (printedL p)[k] = s at hg2
        rw [idx_drop _ _ _ _ hg2] at he
        have hm := sureF_mem (printedL p) 0 k s hg2
        simp only [Int.zero_add] at hm
        refine CALL.val [ints (sureL p), int k] _ (by simp [ints]) (ref01_Listed_meets _ _ (by omega)) (.inr rfl) ?_
        simp [vc_law01_DifferSures_k0]
        have hm : (k : Int) ∈ sureL p ↔ apart s = false := hm
        constructor
        · intro hnot
          have ha : apart s = true := by
            cases ha : apart s with
            | true => rfl
            | false => exact absurd (hm.2 ha) hnot
          simp [ha] at he
          have hk0 : ¬ (k : Int) < 0 := by omega
          simp [he, hk0]
          exact known_call hg (by simp)
        · intro hin
          have ha := hm.1 hin
          simp [ha] at he
          rw [wrap_id (n := (k : Int) + 1) (by omega) (by omega)]
          exact ⟨k + 1, by omega, by simpa using he, by simp [WEAK], by omega⟩
      · intro hge
        rw [List.drop_eq_nil_of_le (by omega)] at he
        simp [idx] at he
        simp [he]
        exact known_call hg (by simp)
end Go.Vc

namespace Go.Vc
open Go Go.RowKit Go.ChangeShapes Go.WideShapes Go.ChangeAt Go.Proofs Go.Proofs.YtknbgegcnfdnkaaGreatDoor
theorem sures_calls {H : Type} {enc : TypeId × Value → H} (W : World) (base : Nat) (args : Array Value) (ds : List (DataW H)) (ps : List MemPlace) (hval : ∀ (j : Nat) t v, Tryz.f6.params[j]? = some t → args[j]? = some v → Value.okWide Tryz.prog W .any base t v)
    (hA : DataW.TrodAll enc Tryz.prog W 0 (fun _ => true) true Tryz.f6.params.toList args.toList ds ps) (hL : laidMetH Tryz.prog laidL W) (hsh : W.ShapedOpen Tryz.prog) : Calls Tryz.prog 6 args W fun e W' => e = .returned (.bool true) ∧ Below W.heap.size W W' := by
  rw [Tryz.params6] at hA hval
  obtain ⟨v0, d0, rfl, rfl, h0⟩ := trodAll_one hA
  obtain ⟨x0, g0⟩ := open_plan (hval 0 24 v0 rfl rfl) h0
  exact law_calls (C := Tz (gW W)) (sures_meets (gok hL hsh) x0) rfl (Below.refl _ _) (us := [v0]) rfl (fun i d u hd hu => by
    match i, hd, hu with
    | 0, hd, hu => simp at hd hu; subst hd; subst hu; exact g0
    | i + 1, hd, hu => simp at hd)
theorem sures_lifted (os : Os) (started : os.Started) (H : Type) (enc : TypeId × Value → H) :
    ReturnsInHanded {} Tryz.checked os 6 .any (fun w args => (Rows.differSuresSpec.pre enc Tryz.prog Tryz.f6 [] false w args ∧ laidMetH Tryz.prog laidL w) ∧ sizedMet enc Tryz.prog Tryz.f6 (OpenSpec.ofChange Rows.differSuresSpec) false w args)
      (Rows.differSuresSpec.post enc Tryz.prog Tryz.f6 false true false false) :=
  law_lifted (C := Tryz.checked) (tb := 4) (n := 1) started own (by kernel_rfl) Tryz.func6
    (ChangeSpec.witness_shaped (enc := enc) (C := Tryz.checked) (os := os) (X := fun w _ => laidMetH Tryz.prog laidL w) false (World.laidAll Tryz.prog os laidL) #[.agg #[.slice none 0 0, .int .i64 0, .int .i64 0]] 8 (World.laidAll_os _ _ _)
      (World.shaped_of_ZipB (by kernel_rfl) (by kernel_rfl)) (by kernel_rfl) (by kernel_rfl) (by kernel_rfl)
      (by rw [MakeChecks.laidMetH_plain _ _ _ (by kernel_rfl)]; exact laidMet_laidAll _ (by kernel_rfl) (by kernel_rfl)))
    laidOut (by kernel_rfl) (by kernel_rfl) Tryz.underlying4 rfl (by kernel_rfl) (fun ds hl => by
      match ds, hl with
      | [a], _ => rfl) sures_calls
theorem sures_holds : Rows.DifferSuresSaid :=
  OpenClaim.holds_of_wide 6 Tryz.f6 rfl rfl rfl rfl rfl rfl rfl ⟨rfl, rfl, rfl, rfl, rfl⟩ rfl rfl rfl rfl rfl (by kernel_rfl) Tryz.func6 (by kernel_rfl)
    (of_decide_eq_true (by kernel_rfl)) (by unfold Func.isWrapper; first | (rw [if_pos (by decide +kernel)]; kernel_rfl) | (rw [if_neg (by decide +kernel)]; exact ⟨rfl, rfl⟩))
    (fun os started H enc _ => sures_lifted os started H enc)
theorem sures_card : Rows.DifferSuresCardSaid :=
  Claim7.holds_tied_plain_at .later [] [.data, .data, .data, .data, .pinned] true (true, "d10b68e6a0c25b14fab4c5b71042fa3c3e8e84e3c7cd95ea514fc863592e91e4") true sures_holds (fun _ h => by cases h) (by kernel_rfl) (fun _ h => by cases h) differSures_row_tie rfl ⟨rfl, rfl⟩ (by kernel_rfl) rfl
    (fun f fn hf hfn => by
      obtain rfl : f = 6 := Option.some.inj ((show Tryz.prog.funcNamed "ephemerist/ephemeristlaw01.DifferSures" = some 6 by kernel_rfl).symm.trans hf) |>.symm
      obtain rfl : fn = Tryz.f6 := (Option.some.inj (Tryz.func6.symm.trans hfn)).symm
      exact ⟨by kernel_rfl, fun j t ht => by
        rw [Tryz.params6] at ht
        have hm : t ∈ [24] := by simpa using Array.mem_of_getElem? ht
        have hall : ([24].all fun u => !Tryz.prog.wantsStandIn u) = true := by kernel_rfl
        exact (show Tryz.prog.wantsStandIn t = false by simpa using List.all_eq_true.1 hall t hm)⟩)
    (by kernel_rfl)
end Go.Vc

namespace Go.Proofs.YtknbgegcnfdnkaaGreatDoor
theorem law_DifferSuresCardSaid : Rows.DifferSuresCardSaid := Go.Vc.sures_card
end Go.Proofs.YtknbgegcnfdnkaaGreatDoor
