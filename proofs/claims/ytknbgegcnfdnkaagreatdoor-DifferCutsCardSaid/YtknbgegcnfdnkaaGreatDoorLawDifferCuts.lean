/- Proves that the statement DifferCutsCardSaid holds of the given program: for every input the law returns true and leaves its arguments as they were; under the row's own conditions, that the listed tables are laid as the program's text has them. -/
import Derived.Test.YtknbgegcnfdnkaaGreatDoorVz
import Derived.Test.YtknbgegcnfdnkaaGreatDoorDi
import Derived.Test.YtknbgegcnfdnkaaGreatDoorDj
import Derived.Test.YtknbgegcnfdnkaaGreatDoorVc27
set_option maxRecDepth 100000
namespace Go.Vc
open Go Go.Proofs Go.RowKit
def ann_law01_DifferCuts : Nat → List Nat := fun n => match n with  | _ => []
def vc_law01_DifferCuts_k0 (P : Ctx) (pre : List ABlk) (r : AV) (post : List PB) (v0 : AV) (v2 : AV) (h3 : Heap) : Prop :=
  BIN 0 .eql v0 (.d (.num .i64 2)) fun v1 =>
  CONDG v1
  (LEN false v2 h3 fun v4 =>
  BIN 0 .eql v4 (.d (.num .i64 0)) fun v5 =>
  CONDG v5
  (CALL P f_law01_known [] 552 h3 (fun _rd6 v7 h8 =>
  POST v7 h8 pre r post)
  (fun _ _ _ => False))
  (POST (.d (.bool false)) h3 pre r post))
  (POST (.d (.bool false)) h3 pre r post)
def vc_law01_DifferCuts_k1 (P : Ctx) (pre : List ABlk) (r : AV) (post : List PB) (v0 : AV) (a2 : AV) (a3 : AV) (h4 : Heap) (v8 : AV) : Prop :=
  BIN 0 .eql v0 (.d (.num .i64 0)) fun v1 =>
  CONDG v1
  (CALL P f_ref01_Joins [a2, a3] 536 h4 (fun _rd5 v6 h7 =>
  CALL P f_ref01_Same [v8, v6] 544 h7 (fun _rd9 v10 h11 =>
  CONDG v10
  (CALL P f_law01_known [] 568 h11 (fun _rd12 v13 h14 =>
  POST v13 h14 pre r post)
  (fun _ _ _ => False))
  (POST (.d (.bool false)) h11 pre r post))
  (fun _ _ _ => False))
  (fun _ _ _ => False))
  (POST (.d (.bool false)) h4 pre r post)
def vc_law01_DifferCuts_k2 (P : Ctx) (pre : List ABlk) (r : AV) (post : List PB) (v0 : AV) (v2 : AV) (h3 : Heap) : Prop :=
  BIN 0 .eql v0 (.d (.num .i64 2)) fun v1 =>
  CONDG v1
  (LEN false v2 h3 fun v4 =>
  BIN 0 .eql v4 (.d (.num .i64 0)) fun v5 =>
  CONDG v5
  (CALL P f_law01_known [] 584 h3 (fun _rd6 v7 h8 =>
  POST v7 h8 pre r post)
  (fun _ _ _ => False))
  (POST (.d (.bool false)) h3 pre r post))
  (POST (.d (.bool false)) h3 pre r post)
def vc_law01_DifferCuts_k3 (P : Ctx) (pre : List ABlk) (r : AV) (post : List PB) (v0 : AV) (a2 : AV) (a3 : AV) (h4 : Heap) (v8 : AV) : Prop :=
  BIN 0 .eql v0 (.d (.num .i64 0)) fun v1 =>
  CONDG v1
  (CALL P f_ref01_Joins [a2, a3] 568 h4 (fun _rd5 v6 h7 =>
  CALL P f_ref01_Same [v8, v6] 576 h7 (fun _rd9 v10 h11 =>
  CONDG v10
  (CALL P f_law01_known [] 600 h11 (fun _rd12 v13 h14 =>
  POST v13 h14 pre r post)
  (fun _ _ _ => False))
  (POST (.d (.bool false)) h11 pre r post))
  (fun _ _ _ => False))
  (fun _ _ _ => False))
  (POST (.d (.bool false)) h4 pre r post)
def vc_law01_DifferCuts_k4 (P : Ctx) (pre : List ABlk) (r : AV) (post : List PB) (v0 : AV) (h2 : Heap) (v3 : AV) (a5 : AV) (a6 : AV) (v11 : AV) (v12 : AV) : Prop :=
  NOT v0 fun v1 =>
  COND v1
  (POST (.d (.bool false)) h2 pre r post)
  (LOAD true 3 v3 h2 fun v4 =>
  CALL P f_ref01_Firsts [v4, a5, a6] 504 h2 (fun _rd7 v8 h9 =>
  NOT v8 fun v10 =>
  COND v10
  (vc_law01_DifferCuts_k2 P pre r post v11 v12 h9)
  (vc_law01_DifferCuts_k3 P pre r post v11 a5 a6 h9 v12))
  (fun _ _ _ => False))
def vc_law01_DifferCuts_k5 (P : Ctx) (pre : List ABlk) (r : AV) (post : List PB) (v0 : AV) (h2 : Heap) (v3 : AV) (v6 : AV) (a8 : AV) (a9 : AV) (v14 : AV) (v15 : AV) : Prop :=
  BIN 0 .neq v0 (.d (.num .i64 2)) fun v1 =>
  CONDG v1
  (POST (.d (.bool false)) h2 pre r post)
  (LEN false v3 h2 fun v4 =>
  BIN 0 .neq v4 (.d (.num .i64 0)) fun v5 =>
  COND v5
  (POST (.d (.bool false)) h2 pre r post)
  (LOAD true 3 v6 h2 fun v7 =>
  CALL P f_ref01_Firsts [v7, a8, a9] 472 h2 (fun _rd10 v11 h12 =>
  NOT v11 fun v13 =>
  COND v13
  (vc_law01_DifferCuts_k0 P pre r post v14 v15 h12)
  (vc_law01_DifferCuts_k1 P pre r post v14 a8 a9 h12 v15))
  (fun _ _ _ => False)))
def vc_law01_DifferCuts_k6 (P : Ctx) (pre : List ABlk) (r : AV) (post : List PB) (v0 : AV) (h2 : Heap) (v3 : AV) (a5 : AV) (a6 : AV) (v10 : AV) (a14 : AV) (v15 : AV) (v16 : AV) : Prop :=
  BIN 0 .neq v0 (.d (.num .i64 0)) fun v1 =>
  CONDG v1
  (POST (.d (.bool false)) h2 pre r post)
  (LOAD true 3 v3 h2 fun v4 =>
  CALL P f_ref01_Cut [v4, a5, a6] 448 h2 (fun _rd7 v8 h9 =>
  CALL P f_ref01_SameLists [v10, v8] 456 h9 (fun _rd11 v12 h13 =>
  vc_law01_DifferCuts_k4 P pre r post v12 h13 v3 a14 a6 v15 v16)
  (fun _ _ _ => False))
  (fun _ _ _ => False))
def vc_law01_DifferCuts_k7 (P : Ctx) (pre : List ABlk) (r : AV) (post : List PB) (v0 : AV) (v2 : AV) (h3 : Heap) (v6 : AV) (v8 : AV) : Prop :=
  BIN 0 .eql v0 (.d (.num .i64 2)) fun v1 =>
  CONDG v1
  (LEN false v2 h3 fun v4 =>
  BIN 0 .eql v4 (.d (.num .i64 0)) fun v5 =>
  CONDG v5
  (BIN 0 .eql v6 (.d (.num .i64 2)) fun v7 =>
  CONDG v7
  (LEN false v8 h3 fun v9 =>
  BIN 0 .eql v9 (.d (.num .i64 0)) fun v10 =>
  CONDG v10
  (CALL P f_law01_known [] 496 h3 (fun _rd11 v12 h13 =>
  POST v12 h13 pre r post)
  (fun _ _ _ => False))
  (POST (.d (.bool false)) h3 pre r post))
  (POST (.d (.bool false)) h3 pre r post))
  (POST (.d (.bool false)) h3 pre r post))
  (POST (.d (.bool false)) h3 pre r post)
def vc_law01_DifferCuts_k8 (P : Ctx) (pre : List ABlk) (r : AV) (post : List PB) (v0 : AV) (h1 : Heap) (a3 : AV) (v8 : AV) (v9 : AV) (a10 : AV) (a11 : AV) (v12 : AV) (v13 : AV) : Prop :=
  LOAD true 3 v0 h1 fun v2 =>
  CALL P f_ref01_Truth [v2, a3] 376 h1 (fun _rd4 v5 h6 =>
  NOT v5 fun v7 =>
  COND v7
  (vc_law01_DifferCuts_k5 P pre r post v8 h6 v9 v0 a10 a11 v12 v13)
  (vc_law01_DifferCuts_k6 P pre r post v8 h6 v0 a3 a11 v9 a10 v12 v13))
  (fun _ _ _ => False)
def vc_law01_DifferCuts_k9 (P : Ctx) (pre : List ABlk) (r : AV) (post : List PB) (v0 : AV) (h1 : Heap) (a3 : AV) (v8 : AV) (v9 : AV) (v10 : AV) (v11 : AV) (a12 : AV) (a13 : AV) : Prop :=
  LOAD true 3 v0 h1 fun v2 =>
  CALL P f_ref01_Size [v2, a3] 336 h1 (fun _rd4 v5 h6 =>
  NOT v5 fun v7 =>
  COND v7
  (vc_law01_DifferCuts_k7 P pre r post v8 v9 h6 v10 v11)
  (vc_law01_DifferCuts_k8 P pre r post v0 h6 a12 v8 v9 a13 a3 v10 v11))
  (fun _ _ _ => False)
def vc_law01_DifferCuts_k10 (P : Ctx) (pre : List ABlk) (r : AV) (post : List PB) (v0 : AV) (v3 : AV) (h4 : Heap) (v10 : AV) (v11 : AV) (a12 : AV) (a13 : AV) (a14 : AV) : Prop :=
  EXT v0 0 fun v1 =>
  EXT v0 1 fun v2 =>
  LOAD true 3 v3 h4 fun v5 =>
  CALL P f_ref01_Plan [v5] 296 h4 (fun _rd6 v7 h8 =>
  NOT v7 fun v9 =>
  CONDG v9
  (vc_law01_DifferCuts_k7 P pre r post v10 v11 h8 v2 v1)
  (vc_law01_DifferCuts_k9 P pre r post v3 h8 a12 v10 v11 v2 v1 a13 a14))
  (fun _ _ _ => False)
def vc_law01_DifferCuts_k11 (P : Ctx) (pre : List ABlk) (r : AV) (post : List PB) (v0 : AV) (h2 : Heap) (v6 : AV) (a8 : AV) (a9 : AV) (a16 : AV) : Prop :=
  NOT v0 fun v1 =>
  COND v1
  (CALL P f_law01_known [] 144 h2 (fun _rd3 v4 h5 =>
  POST v4 h5 pre r post)
  (fun _ _ _ => False))
  (LOAD true 3 v6 h2 fun v7 =>
  CALL P f_differ_Cut [v7, a8, a9] 168 h2 (fun _rd10 v11 h12 =>
  EXT v11 0 fun v13 =>
  EXT v11 1 fun v14 =>
  LOAD true 3 v6 h12 fun v15 =>
  CALL P f_differ_Joins [v15, a16, a9] 240 h12 (fun _rd17 v18 h19 =>
  vc_law01_DifferCuts_k10 P pre r post v18 v6 h19 v14 v13 a9 a8 a16)
  (fun _ _ _ => False))
  (fun _ _ _ => False))
def vc_law01_DifferCuts_k12 (P : Ctx) (pre : List ABlk) (r : AV) (post : List PB) (v0 : AV) (h2 : Heap) (a6 : AV) (a11 : AV) (v15 : AV) (a16 : AV) : Prop :=
  NOT v0 fun v1 =>
  CONDG v1
  (CALL P f_law01_known [] 144 h2 (fun _rd3 v4 h5 =>
  POST v4 h5 pre r post)
  (fun _ _ _ => False))
  (LEN false a6 h2 fun v7 =>
  BIN 0 .gtr v7 (.d (.num .i64 6)) fun v8 =>
  CONDG v8
  (CALL P f_law01_known [] 144 h2 (fun _rd9 v4 h10 =>
  POST v4 h10 pre r post)
  (fun _ _ _ => False))
  (CALL P f_law01_few [a11] 120 h2 (fun _rd12 v13 h14 =>
  vc_law01_DifferCuts_k11 P pre r post v13 h14 v15 a6 a16 a11)
  (fun _ _ _ => False)))
def vc_law01_DifferCuts (P : Ctx) (pre : List ABlk) (a0 a1 a2 a3 : AV) (r : AV) (post : List PB) : Prop :=
  let h0 : Heap := numbered 0 pre
  BOX T_api_DifferPlan a0 24 h0 fun v4 h1 =>
  LOAD true 3 v4 h1 fun v13 =>
  CALL P f_law01_short [v13] 48 h1 (fun _rd3 v14 h2 =>
  vc_law01_DifferCuts_k12 P pre r post v14 h2 a1 a2 v4 a3)
  (fun _ _ _ => False)
theorem vc_law01_DifferCuts_eq (g : GG) (pre : List ABlk) (a0 a1 a2 a3 : AV) (r : AV) (post : List PB) : vcFn2 (Tz g) false ann_law01_DifferCuts Tryz.f12 pre [a0, a1, a2, a3] (.ret r) post = vc_law01_DifferCuts (Tz g) pre a0 a1 a2 a3 r post := by kernel_rfl
theorem hf_law01_DifferCuts : Tryz.prog.funcs[f_law01_DifferCuts]? = some Tryz.f12 := by kernel_rfl
theorem ok_law01_DifferCuts : fnVcOK Tryz.prog Tryz.f12 = true := by kernel_rfl
theorem nt_law01_DifferCuts : Nat.ble 4 Tryz.f12.ntmps = true := by kernel_rfl
theorem meetsH_law01_DifferCuts {g : GG} {pre : List ABlk} {a0 a1 a2 a3 : AV} {r : AV} {post : List PB} (hk : Nat.ble pre.length 24 = true) (h : vc_law01_DifferCuts (Tz g) pre a0 a1 a2 a3 r post) : MeetsH (Tz g) f_law01_DifferCuts pre [a0, a1, a2, a3] (.ret r) post :=
  meetsH_of_vc (C := Tz g) ann_law01_DifferCuts hf_law01_DifferCuts ok_law01_DifferCuts nt_law01_DifferCuts hk (pn := false) (Eq.mpr ((vcFn2_eq _ _ _ _ _ _ _ _).trans (vc_law01_DifferCuts_eq g pre a0 a1 a2 a3 r post)) h)
theorem meets_law01_DifferCuts {g : GG} {a0 a1 a2 a3 : D} {r : Res} (h : vc_law01_DifferCuts (Tz g) [] (.d a0) (.d a1) (.d a2) (.d a3) r.val (r.bl.map .upd)) : Meets (Tz g) f_law01_DifferCuts [a0, a1, a2, a3] r := meetsH_law01_DifferCuts rfl h
end Go.Vc

namespace Go.Vc
open Go Go.Proofs
variable {g : GG}
attribute [local simp] and_assoc
attribute [local simp] ints_cells
set_option maxHeartbeats 2000000 in
theorem cuts_meets (hg : GOK g) (p : Plan) (t : List Int) (ls : List (List Int)) (size : Int) (_ : ∀ n, n ∈ t → -9223372036854775808 ≤ n ∧ n ≤ 9223372036854775807) (_ : -9223372036854775808 ≤ size ∧ size ≤ 9223372036854775807) : Meets (Tz g) f_law01_DifferCuts [p.d, ints t, listsD ls, int size] ⟨.d (.bool true), []⟩ := by
  refine meets_law01_DifferCuts ?_
  unfold vc_law01_DifferCuts
  simp [Plan.d, spans, ints, listsD]
  refine CALL.val [p.d] _ rfl (law01_short_meets p) (.inl rfl) ?_
  simp [vc_law01_DifferCuts_k12]
  constructor
  · intro h
    exact known_call hg (by simp)
  · intro hl
    constructor
    · intro h
      exact known_call hg (by simp)
    · intro hl2
      refine CALL.val [listsD ls] _ rfl (law01_few_meets ls) (.inl rfl) ?_
      simp [vc_law01_DifferCuts_k11]
      constructor
      · intro h
        exact known_call hg (by simp)
      · intro hfew
        simp [fewB] at hfew
        obtain ⟨hf1, hf2⟩ := hfew
        have hl : p.starts.length ≤ 1000 := by omega
        have hl2 : t.length ≤ 1000 := by omega
        have hl3 : ls.length ≤ 1000 := by omega
        cases hok : p.ok with
        | false =>
          refine CALL.mk [p.d, ints t, int size] _ rfl (differ_Cut_bad p t size hl hl2 (by simp [hok])) (.inl rfl) (by simp) ?_
          simp
          refine CALL.mk [p.d, listsD ls, int size] _ rfl (differ_Joins_bad p ls size hl hl3 (.inl hok)) (.inl rfl) (by simp) ?_
          simp [vc_law01_DifferCuts_k10]
          refine CALL.val [p.d] _ rfl (ref01_Plan_meets p hl) (.inl rfl) ?_
          simp [hok, vc_law01_DifferCuts_k7]
          exact known_call hg (by simp)
        | true =>
          obtain ⟨a1, a2, a3, a4, a5⟩ := Plan.ok_len hok
          cases hs : inB size 1 p.rows with
          | false =>
            refine CALL.mk [p.d, ints t, int size] _ rfl (differ_Cut_bad p t size hl hl2 (by simp [hs])) (.inl rfl) (by simp) ?_
            simp
            refine CALL.mk [p.d, listsD ls, int size] _ rfl (differ_Joins_bad p ls size hl hl3 (.inr ⟨hok, .inl hs⟩)) (.inl rfl) (by simp) ?_
            simp [vc_law01_DifferCuts_k10]
            refine CALL.val [p.d] _ rfl (ref01_Plan_meets p hl) (.inl rfl) ?_
            simp [hok, vc_law01_DifferCuts_k9]
            refine CALL.val [p.d, int size] _ rfl (ref01_Size_meets p size) (.inl rfl) ?_
            simp [hs, vc_law01_DifferCuts_k7]
            exact known_call hg (by simp)
          | true =>
            have hs2 := hs
            simp [inB] at hs2
            obtain ⟨s, rfl⟩ : ∃ s : Nat, size = s := ⟨size.toNat, by omega⟩
            obtain ⟨n, hn⟩ : ∃ n : Nat, p.rows = n := ⟨p.rows.toNat, by omega⟩
            have hs1 : 1 ≤ s := by omega
            have hsn : s ≤ n := by omega
            have hsh := sheets_le n s hs1
            have hcl := cutL_len t n s
            have hll : ∀ l, l ∈ ls → l.length ≤ 1000 := fun l hl => by have := hf2 l hl; omega
            have hFirsts : Meets (Tz g) f_ref01_Firsts [p.d, listsD ls, int s] ⟨.d (.bool (firstsB p ls s)), []⟩ := ref01_Firsts_meets p ls s hok (by omega) hl3 hll
            cases hw : within p.starts t with
            | false =>
              refine CALL.mk [p.d, ints t, int s] _ rfl (differ_Cut_bad p t s hl hl2 (by simp [hw])) (.inl rfl) (by simp) ?_
              cases hF : firstsB p ls s with
              | false =>
                simp
                refine CALL.mk [p.d, listsD ls, int s] _ rfl (differ_Joins_bad p ls s hl hl3 (.inr ⟨hok, .inr ⟨hs, hF⟩⟩)) (.inl rfl) (by simp) ?_
                simp [vc_law01_DifferCuts_k10]
                refine CALL.val [p.d] _ rfl (ref01_Plan_meets p hl) (.inl rfl) ?_
                simp [hok, vc_law01_DifferCuts_k9]
                refine CALL.val [p.d, int s] _ rfl (ref01_Size_meets p s) (.inl rfl) ?_
                simp [hs, vc_law01_DifferCuts_k8]
                refine CALL.val [p.d, ints t] _ rfl (ref01_Truth_meets p t hl hl2) (.inl rfl) ?_
                simp [hw, vc_law01_DifferCuts_k5]
                refine CALL.val [p.d, listsD ls, int s] _ rfl hFirsts (.inl rfl) ?_
                simp [hF, vc_law01_DifferCuts_k0]
                exact known_call hg (by simp)
              | true =>
                have hall : ∀ l, l ∈ ls → stateB l = true := by
                  intro l hl
                  simp only [firstsB, Bool.and_eq_true, List.all_eq_true] at hF
                  exact (hF.2 l hl).2
                have hls1 : 1 ≤ ls.length := by
                  simp only [firstsB, Bool.and_eq_true, decide_eq_true_eq] at hF
                  have := hF.1
                  rw [Int.tdiv_eq_ediv_of_nonneg (by omega)] at this
                  have h1 : 1 ≤ (p.rows + (s : Int) - 1) / (s : Int) := by
                    rw [Int.le_ediv_iff_mul_le (by omega)]
                    omega
                  omega
                have hjl := joinK_len ls s ls.length
                simp
                refine CALL.mk [p.d, listsD ls, int s] _ rfl (differ_Joins_ok p ls n s hok hn hs1 hsn (by omega) hF) (.inl rfl) (by simp) ?_
                simp [vc_law01_DifferCuts_k10]
                refine CALL.val [p.d] _ rfl (ref01_Plan_meets p hl) (.inl rfl) ?_
                simp [hok, vc_law01_DifferCuts_k9]
                refine CALL.val [p.d, int s] _ rfl (ref01_Size_meets p s) (.inl rfl) ?_
                simp [hs, vc_law01_DifferCuts_k8]
                refine CALL.val [p.d, ints t] _ rfl (ref01_Truth_meets p t hl hl2) (.inl rfl) ?_
                simp [hw, vc_law01_DifferCuts_k5]
                refine CALL.val [p.d, listsD ls, int s] _ rfl hFirsts (.inl rfl) ?_
                simp [hF, vc_law01_DifferCuts_k1]
                refine CALL.mk [listsD ls, int s] _ rfl (ref01_Joins_meets ls s (by omega) (by omega) hall) (.inl rfl) (by simp) ?_
                simp
                refine CALL.val [ints (joinsL ls s), ints (joinsL ls s)] _ (by simp [ints]) (ref01_Same_meets _ _ (by unfold joinsL; omega) (by unfold joinsL; omega)) (.inr rfl) ?_
                simp
                exact known_call hg (by simp)
            | true =>
              have hlen := within_length hw
              have hbd : ∀ x, x ∈ t → -1000000000 ≤ x ∧ x ≤ 1000000000 := far_of (within_bound a5 hw)
              have hcll : ∀ x, x ∈ cutL t n s → x.length ≤ 1000 := by
                intro x hx
                simp only [cutL, List.mem_map] at hx
                obtain ⟨i, _, rfl⟩ := hx
                rw [afterL_length]; omega
              refine CALL.mk [p.d, ints t, int s] _ rfl (differ_Cut_ok p t n s hok hw hn hs1 hsn) (.inl rfl) (by simp) ?_
              cases hF : firstsB p ls s with
              | false =>
                simp
                refine CALL.mk [p.d, listsD ls, int s] _ rfl (differ_Joins_bad p ls s hl hl3 (.inr ⟨hok, .inr ⟨hs, hF⟩⟩)) (.inl rfl) (by simp) ?_
                simp [vc_law01_DifferCuts_k10]
                refine CALL.val [p.d] _ rfl (ref01_Plan_meets p hl) (.inl rfl) ?_
                simp [hok, vc_law01_DifferCuts_k9]
                refine CALL.val [p.d, int s] _ rfl (ref01_Size_meets p s) (.inl rfl) ?_
                simp [hs, vc_law01_DifferCuts_k8]
                refine CALL.val [p.d, ints t] _ rfl (ref01_Truth_meets p t hl hl2) (.inl rfl) ?_
                simp [hw, vc_law01_DifferCuts_k6]
                refine CALL.mk [p.d, ints t, int s] _ rfl (ref01_Cut_meets p t n s hn (by omega) (by omega) hbd hs1 hsn) (.inl rfl) (by simp) ?_
                simp
                refine CALL.val [listsD (cutL t n s), listsD (cutL t n s)] _ (by simp [listsD]) (ref01_SameLists_meets _ _ (by omega) (by omega) hcll hcll) (.inr rfl) ?_
                simp [vc_law01_DifferCuts_k4]
                refine CALL.val [p.d, listsD ls, int s] _ rfl hFirsts (.inl rfl) ?_
                simp [hF, vc_law01_DifferCuts_k2]
                exact known_call hg (by simp)
              | true =>
                have hall : ∀ l, l ∈ ls → stateB l = true := by
                  intro l hl
                  simp only [firstsB, Bool.and_eq_true, List.all_eq_true] at hF
                  exact (hF.2 l hl).2
                have hls1 : 1 ≤ ls.length := by
                  simp only [firstsB, Bool.and_eq_true, decide_eq_true_eq] at hF
                  have := hF.1
                  rw [Int.tdiv_eq_ediv_of_nonneg (by omega)] at this
                  have h1 : 1 ≤ (p.rows + (s : Int) - 1) / (s : Int) := by
                    rw [Int.le_ediv_iff_mul_le (by omega)]
                    omega
                  omega
                have hjl := joinK_len ls s ls.length
                simp
                refine CALL.mk [p.d, listsD ls, int s] _ rfl (differ_Joins_ok p ls n s hok hn hs1 hsn (by omega) hF) (.inl rfl) (by simp) ?_
                simp [vc_law01_DifferCuts_k10]
                refine CALL.val [p.d] _ rfl (ref01_Plan_meets p hl) (.inl rfl) ?_
                simp [hok, vc_law01_DifferCuts_k9]
                refine CALL.val [p.d, int s] _ rfl (ref01_Size_meets p s) (.inl rfl) ?_
                simp [hs, vc_law01_DifferCuts_k8]
                refine CALL.val [p.d, ints t] _ rfl (ref01_Truth_meets p t hl hl2) (.inl rfl) ?_
                simp [hw, vc_law01_DifferCuts_k6]
                refine CALL.mk [p.d, ints t, int s] _ rfl (ref01_Cut_meets p t n s hn (by omega) (by omega) hbd hs1 hsn) (.inl rfl) (by simp) ?_
                simp
                refine CALL.val [listsD (cutL t n s), listsD (cutL t n s)] _ (by simp [listsD]) (ref01_SameLists_meets _ _ (by omega) (by omega) hcll hcll) (.inr rfl) ?_
                simp [vc_law01_DifferCuts_k4]
                refine CALL.val [p.d, listsD ls, int s] _ rfl hFirsts (.inl rfl) ?_
                simp [hF, vc_law01_DifferCuts_k3]
                refine CALL.mk [listsD ls, int s] _ rfl (ref01_Joins_meets ls s (by omega) (by omega) hall) (.inl rfl) (by simp) ?_
                simp
                refine CALL.val [ints (joinsL ls s), ints (joinsL ls s)] _ (by simp [ints]) (ref01_Same_meets _ _ (by unfold joinsL; omega) (by unfold joinsL; omega)) (.inr rfl) ?_
                simp
                exact known_call hg (by simp)
end Go.Vc

namespace Go.Vc
open Go Go.RowKit Go.ChangeShapes Go.WideShapes Go.ChangeAt Go.Proofs Go.Proofs.YtknbgegcnfdnkaaGreatDoor
theorem cuts_calls {H : Type} {enc : TypeId × Value → H} (W : World) (base : Nat) (args : Array Value) (ds : List (DataW H)) (ps : List MemPlace) (hval : ∀ (j : Nat) t v, Tryz.f12.params[j]? = some t → args[j]? = some v → Value.okWide Tryz.prog W .any base t v)
    (hA : DataW.TrodAll enc Tryz.prog W 0 (fun _ => true) true Tryz.f12.params.toList args.toList ds ps) (hL : laidMetH Tryz.prog laidL W) (hsh : W.ShapedOpen Tryz.prog) : Calls Tryz.prog 12 args W fun e W' => e = .returned (.bool true) ∧ Below W.heap.size W W' := by
  rw [Tryz.params12] at hA hval
  obtain ⟨v0, v1, v2, v3, d0, d1, d2, d3, p0, p1, p2, p3, rfl, rfl, rfl, h0, h1, h2, h3⟩ := trodAll_four hA
  obtain ⟨x0, g0⟩ := open_plan (hval 0 24 v0 rfl rfl) h0
  obtain ⟨x1, g1, b1⟩ := open_ints' (hval 1 25 v1 rfl rfl) h1
  obtain ⟨x2, g2⟩ := open_lists (hval 2 58 v2 rfl rfl) h2
  obtain ⟨x3, g3, b3⟩ := open_int' (hval 3 3 v3 rfl rfl) h3
  exact law_calls (C := Tz (gW W)) (cuts_meets (gok hL hsh) x0 x1 x2 x3 b1 b3) rfl (Below.refl _ _) (us := [v0, v1, v2, v3]) rfl (fun i d u hd hu => by
    match i, hd, hu with
    | 0, hd, hu => simp at hd hu; subst hd; subst hu; exact g0
    | 1, hd, hu => simp at hd hu; subst hd; subst hu; exact g1
    | 2, hd, hu => simp at hd hu; subst hd; subst hu; exact g2
    | 3, hd, hu => simp at hd hu; subst hd; subst hu; exact g3
    | i + 4, hd, hu => simp at hd)
theorem cuts_lifted (os : Os) (started : os.Started) (H : Type) (enc : TypeId × Value → H) :
    ReturnsInHanded {} Tryz.checked os 12 .any (fun w args => (Rows.differCutsSpec.pre enc Tryz.prog Tryz.f12 [] false w args ∧ laidMetH Tryz.prog laidL w) ∧ sizedMet enc Tryz.prog Tryz.f12 (OpenSpec.ofChange Rows.differCutsSpec) false w args)
      (Rows.differCutsSpec.post enc Tryz.prog Tryz.f12 false true false false) :=
  law_lifted (C := Tryz.checked) (tb := 4) (n := 4) started own (by kernel_rfl) Tryz.func12
    (ChangeSpec.witness_shaped (enc := enc) (C := Tryz.checked) (os := os) (X := fun w _ => laidMetH Tryz.prog laidL w) false (World.laidAll Tryz.prog os laidL) #[.agg #[.slice none 0 0, .int .i64 0, .int .i64 0], .slice none 0 0, .slice none 0 0, .int .i64 0] 8 (World.laidAll_os _ _ _)
      (World.shaped_of_ZipB (by kernel_rfl) (by kernel_rfl)) (by kernel_rfl) (by kernel_rfl) (by kernel_rfl)
      (by rw [MakeChecks.laidMetH_plain _ _ _ (by kernel_rfl)]; exact laidMet_laidAll _ (by kernel_rfl) (by kernel_rfl)))
    laidOut (by kernel_rfl) (by kernel_rfl) Tryz.underlying4 rfl (by kernel_rfl) (fun ds hl => by
      match ds, hl with
      | [a, b, c, d], _ => rfl) cuts_calls
theorem cuts_holds : Rows.DifferCutsSaid :=
  OpenClaim.holds_of_wide 12 Tryz.f12 rfl rfl rfl rfl rfl rfl rfl ⟨rfl, rfl, rfl, rfl, rfl⟩ rfl rfl rfl rfl rfl (by kernel_rfl) Tryz.func12 (by kernel_rfl)
    (of_decide_eq_true (by kernel_rfl)) (by unfold Func.isWrapper; first | (rw [if_pos (by decide +kernel)]; kernel_rfl) | (rw [if_neg (by decide +kernel)]; exact ⟨rfl, rfl⟩))
    (fun os started H enc _ => cuts_lifted os started H enc)
theorem cuts_card : Rows.DifferCutsCardSaid :=
  Claim7.holds_tied_plain_at .later [] [.data, .data, .data, .data, .pinned] true (true, "d10b68e6a0c25b14fab4c5b71042fa3c3e8e84e3c7cd95ea514fc863592e91e4") true cuts_holds (fun _ h => by cases h) (by kernel_rfl) (fun _ h => by cases h) differCuts_row_tie rfl ⟨rfl, rfl⟩ (by kernel_rfl) rfl
    (fun f fn hf hfn => by
      obtain rfl : f = 12 := Option.some.inj ((show Tryz.prog.funcNamed "ephemerist/ephemeristlaw01.DifferCuts" = some 12 by kernel_rfl).symm.trans hf) |>.symm
      obtain rfl : fn = Tryz.f12 := (Option.some.inj (Tryz.func12.symm.trans hfn)).symm
      exact ⟨by kernel_rfl, fun j t ht => by
        rw [Tryz.params12] at ht
        have hm : t ∈ [24, 25, 58, 3] := by simpa using Array.mem_of_getElem? ht
        have hall : ([24, 25, 58, 3].all fun u => !Tryz.prog.wantsStandIn u) = true := by kernel_rfl
        exact (show Tryz.prog.wantsStandIn t = false by simpa using List.all_eq_true.1 hall t hm)⟩)
    (by kernel_rfl)
end Go.Vc

namespace Go.Proofs.YtknbgegcnfdnkaaGreatDoor
theorem law_DifferCutsCardSaid : Rows.DifferCutsCardSaid := Go.Vc.cuts_card
end Go.Proofs.YtknbgegcnfdnkaaGreatDoor
