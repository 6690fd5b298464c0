/- Proves that the statement DifferWidestsCardSaid holds of the given program: for every input the law returns true and leaves its arguments as they were; under the row's own conditions, that the listed tables are laid as the program's text has them. -/
import Derived.Test.YtknbgegcnfdnkaaGreatDoorVz
import Derived.Test.YtknbgegcnfdnkaaGreatDoorDa
import Derived.Test.YtknbgegcnfdnkaaGreatDoorDf
import Derived.Test.YtknbgegcnfdnkaaGreatDoorVc27
set_option maxRecDepth 100000
namespace Go.Vc
open Go Go.Proofs Go.RowKit
def ann_law01_DifferWidests : Nat → List Nat := fun n => match n with  | _ => []
def vc_law01_DifferWidests_k0 (P : Ctx) (pre : List ABlk) (r : AV) (post : List PB) (v0 : AV) (v2 : AV) (h4 : Heap) : Prop :=
  BIN 0 .eql v0 (.d (.num .i64 5)) fun v1 =>
  CONDG v1
  (BIN 0 .eql v2 (.d (.num .i64 0)) fun v3 =>
  CONDG v3
  (CALL P f_law01_known [] 464 h4 (fun _rd5 v6 h7 =>
  POST v6 h7 pre r post)
  (fun _ _ _ => False))
  (POST (.d (.bool false)) h4 pre r post))
  (POST (.d (.bool false)) h4 pre r post)
def vc_law01_DifferWidests_k1 (P : Ctx) (pre : List ABlk) (r : AV) (post : List PB) (v0 : AV) (v2 : AV) (v3 : AV) (h5 : Heap) : Prop :=
  BIN 0 .eql v0 (.d (.num .i64 0)) fun v1 =>
  CONDG v1
  (BIN 0 .eql v2 v3 fun v4 =>
  CONDG v4
  (CALL P f_law01_known [] 472 h5 (fun _rd6 v7 h8 =>
  POST v7 h8 pre r post)
  (fun _ _ _ => False))
  (POST (.d (.bool false)) h5 pre r post))
  (POST (.d (.bool false)) h5 pre r post)
def vc_law01_DifferWidests_k2 (P : Ctx) (pre : List ABlk) (r : AV) (post : List PB) (v0 : AV) (v2 : AV) (h4 : Heap) : Prop :=
  BIN 0 .eql v0 (.d (.num .i64 2)) fun v1 =>
  CONDG v1
  (BIN 0 .eql v2 (.d (.num .i64 0)) fun v3 =>
  CONDG v3
  (CALL P f_law01_known [] 384 h4 (fun _rd5 v6 h7 =>
  POST v6 h7 pre r post)
  (fun _ _ _ => False))
  (POST (.d (.bool false)) h4 pre r post))
  (POST (.d (.bool false)) h4 pre r post)
def vc_law01_DifferWidests_k3 (P : Ctx) (pre : List ABlk) (r : AV) (post : List PB) (v0 : AV) (h1 : Heap) (a3 : AV) (v10 : AV) (v11 : AV) : Prop :=
  LOAD true 3 v0 h1 fun v2 =>
  CALL P f_ref01_Blame [v2, a3] 344 h1 (fun _rd4 v5 h6 =>
  EXT v5 0 fun v7 =>
  EXT v5 1 fun v8 =>
  NOT v8 fun v9 =>
  COND v9
  (vc_law01_DifferWidests_k0 P pre r post v10 v11 h6)
  (vc_law01_DifferWidests_k1 P pre r post v10 v11 v7 h6))
  (fun _ _ _ => False)
def vc_law01_DifferWidests_k4 (P : Ctx) (pre : List ABlk) (r : AV) (post : List PB) (v0 : AV) (v2 : AV) (h4 : Heap) : Prop :=
  BIN 0 .eql v0 (.d (.num .i64 5)) fun v1 =>
  CONDG v1
  (BIN 0 .eql v2 (.d (.num .i64 0)) fun v3 =>
  CONDG v3
  (CALL P f_law01_known [] 656 h4 (fun _rd5 v6 h7 =>
  POST v6 h7 pre r post)
  (fun _ _ _ => False))
  (POST (.d (.bool false)) h4 pre r post))
  (POST (.d (.bool false)) h4 pre r post)
def vc_law01_DifferWidests_k5 (P : Ctx) (pre : List ABlk) (r : AV) (post : List PB) (v0 : AV) (v2 : AV) (v3 : AV) (h5 : Heap) : Prop :=
  BIN 0 .eql v0 (.d (.num .i64 0)) fun v1 =>
  CONDG v1
  (BIN 0 .eql v2 v3 fun v4 =>
  CONDG v4
  (CALL P f_law01_known [] 664 h5 (fun _rd6 v7 h8 =>
  POST v7 h8 pre r post)
  (fun _ _ _ => False))
  (POST (.d (.bool false)) h5 pre r post))
  (POST (.d (.bool false)) h5 pre r post)
def vc_law01_DifferWidests_k6 (P : Ctx) (pre : List ABlk) (r : AV) (post : List PB) (v0 : AV) (v2 : AV) (h4 : Heap) : Prop :=
  BIN 0 .eql v0 (.d (.num .i64 2)) fun v1 =>
  CONDG v1
  (BIN 0 .eql v2 (.d (.num .i64 0)) fun v3 =>
  CONDG v3
  (CALL P f_law01_known [] 576 h4 (fun _rd5 v6 h7 =>
  POST v6 h7 pre r post)
  (fun _ _ _ => False))
  (POST (.d (.bool false)) h4 pre r post))
  (POST (.d (.bool false)) h4 pre r post)
def vc_law01_DifferWidests_k7 (P : Ctx) (pre : List ABlk) (r : AV) (post : List PB) (v0 : AV) (h1 : Heap) (a3 : AV) (v10 : AV) (v11 : AV) : Prop :=
  LOAD true 3 v0 h1 fun v2 =>
  CALL P f_ref01_Blame [v2, a3] 536 h1 (fun _rd4 v5 h6 =>
  EXT v5 0 fun v7 =>
  EXT v5 1 fun v8 =>
  NOT v8 fun v9 =>
  COND v9
  (vc_law01_DifferWidests_k4 P pre r post v10 v11 h6)
  (vc_law01_DifferWidests_k5 P pre r post v10 v11 v7 h6))
  (fun _ _ _ => False)
def vc_law01_DifferWidests_k8 (P : Ctx) (pre : List ABlk) (r : AV) (post : List PB) (v0 : AV) (h2 : Heap) (v3 : AV) (v4 : AV) (v6 : AV) (a8 : AV) (v13 : AV) (v14 : AV) : Prop :=
  BIN 0 .neq v0 (.d (.num .i64 0)) fun v1 =>
  CONDG v1
  (POST (.d (.bool false)) h2 pre r post)
  (BIN 0 .neq v3 v4 fun v5 =>
  COND v5
  (POST (.d (.bool false)) h2 pre r post)
  (LOAD true 3 v6 h2 fun v7 =>
  CALL P f_ref01_Line [v7, a8] 504 h2 (fun _rd9 v10 h11 =>
  NOT v10 fun v12 =>
  COND v12
  (vc_law01_DifferWidests_k6 P pre r post v13 v14 h11)
  (vc_law01_DifferWidests_k7 P pre r post v6 h11 a8 v13 v14))
  (fun _ _ _ => False)))
def vc_law01_DifferWidests_k9 (P : Ctx) (pre : List ABlk) (r : AV) (post : List PB) (v0 : AV) (h1 : Heap) (a3 : AV) (v8 : AV) (v9 : AV) : Prop :=
  LOAD true 3 v0 h1 fun v2 =>
  CALL P f_ref01_Line [v2, a3] 504 h1 (fun _rd4 v5 h6 =>
  NOT v5 fun v7 =>
  COND v7
  (vc_law01_DifferWidests_k6 P pre r post v8 v9 h6)
  (vc_law01_DifferWidests_k7 P pre r post v0 h6 a3 v8 v9))
  (fun _ _ _ => False)
def vc_law01_DifferWidests_k10 (P : Ctx) (pre : List ABlk) (r : AV) (post : List PB) (v0 : AV) (v4 : AV) (h6 : Heap) (v7 : AV) (v9 : AV) (a10 : AV) (v11 : AV) (v12 : AV) : Prop :=
  EXT v0 0 fun v1 =>
  EXT v0 1 fun v2 =>
  NOT v2 fun v3 =>
  CONDG v3
  (BIN 0 .neq v4 (.d (.num .i64 5)) fun v5 =>
  CONDG v5
  (POST (.d (.bool false)) h6 pre r post)
  (BIN 0 .neq v7 (.d (.num .i64 0)) fun v8 =>
  CONDG v8
  (POST (.d (.bool false)) h6 pre r post)
  (CONDG v2
  (vc_law01_DifferWidests_k8 P pre r post v4 h6 v7 v1 v9 a10 v11 v12)
  (vc_law01_DifferWidests_k9 P pre r post v9 h6 a10 v11 v12))))
  (CONDG v2
  (vc_law01_DifferWidests_k8 P pre r post v4 h6 v7 v1 v9 a10 v11 v12)
  (vc_law01_DifferWidests_k9 P pre r post v9 h6 a10 v11 v12))
def vc_law01_DifferWidests_k11 (P : Ctx) (pre : List ABlk) (r : AV) (post : List PB) (v0 : AV) (v2 : AV) (h4 : Heap) (v5 : AV) (v7 : AV) (a9 : AV) (v14 : AV) (v15 : AV) (a17 : AV) : Prop :=
  NOT v0 fun v1 =>
  COND v1
  (BIN 0 .neq v2 (.d (.num .i64 2)) fun v3 =>
  CONDG v3
  (POST (.d (.bool false)) h4 pre r post)
  (BIN 0 .neq v5 (.d (.num .i64 0)) fun v6 =>
  COND v6
  (POST (.d (.bool false)) h4 pre r post)
  (LOAD true 3 v7 h4 fun v8 =>
  CALL P f_ref01_Line [v8, a9] 312 h4 (fun _rd10 v11 h12 =>
  NOT v11 fun v13 =>
  COND v13
  (vc_law01_DifferWidests_k2 P pre r post v14 v15 h12)
  (vc_law01_DifferWidests_k3 P pre r post v7 h12 a9 v14 v15))
  (fun _ _ _ => False))))
  (LOAD true 3 v7 h4 fun v16 =>
  CALL P f_ref01_Widest [v16, a17] 264 h4 (fun _rd18 v19 h20 =>
  vc_law01_DifferWidests_k10 P pre r post v19 v2 h20 v5 v7 a9 v14 v15)
  (fun _ _ _ => False))
def vc_law01_DifferWidests_k12 (P : Ctx) (pre : List ABlk) (r : AV) (post : List PB) (v0 : AV) (v2 : AV) (v4 : AV) (v6 : AV) (v8 : AV) (h10 : Heap) (v14 : AV) (a16 : AV) (a20 : AV) : Prop :=
  NOT v0 fun v1 =>
  COND v1
  (BIN 0 .eql v2 (.d (.num .i64 2)) fun v3 =>
  CONDG v3
  (BIN 0 .eql v4 (.d (.num .i64 0)) fun v5 =>
  CONDG v5
  (BIN 0 .eql v6 (.d (.num .i64 2)) fun v7 =>
  CONDG v7
  (BIN 0 .eql v8 (.d (.num .i64 0)) fun v9 =>
  CONDG v9
  (CALL P f_law01_known [] 336 h10 (fun _rd11 v12 h13 =>
  POST v12 h13 pre r post)
  (fun _ _ _ => False))
  (POST (.d (.bool false)) h10 pre r post))
  (POST (.d (.bool false)) h10 pre r post))
  (POST (.d (.bool false)) h10 pre r post))
  (POST (.d (.bool false)) h10 pre r post))
  (LOAD true 3 v14 h10 fun v15 =>
  CALL P f_ref01_Begin [v15, a16] 232 h10 (fun _rd17 v18 h19 =>
  vc_law01_DifferWidests_k11 P pre r post v18 v2 h19 v4 v14 a20 v6 v8 a16)
  (fun _ _ _ => False))
def vc_law01_DifferWidests_k13 (P : Ctx) (pre : List ABlk) (r : AV) (post : List PB) (v0 : AV) (v3 : AV) (h4 : Heap) (a6 : AV) (a16 : AV) : Prop :=
  EXT v0 0 fun v1 =>
  EXT v0 1 fun v2 =>
  LOAD true 3 v3 h4 fun v5 =>
  CALL P f_differ_Blame [v5, a6] 144 h4 (fun _rd7 v8 h9 =>
  EXT v8 0 fun v10 =>
  EXT v8 1 fun v11 =>
  LOAD true 3 v3 h9 fun v12 =>
  CALL P f_ref01_Plan [v12] 200 h9 (fun _rd13 v14 h15 =>
  vc_law01_DifferWidests_k12 P pre r post v14 v2 v1 v11 v10 h15 v3 a16 a6)
  (fun _ _ _ => False))
  (fun _ _ _ => False)
def vc_law01_DifferWidests_k14 (P : Ctx) (pre : List ABlk) (r : AV) (post : List PB) (v0 : AV) (h2 : Heap) (v6 : AV) (a8 : AV) (a12 : AV) : Prop :=
  NOT v0 fun v1 =>
  COND v1
  (CALL P f_law01_known [] 64 h2 (fun _rd3 v4 h5 =>
  POST v4 h5 pre r post)
  (fun _ _ _ => False))
  (LOAD true 3 v6 h2 fun v7 =>
  CALL P f_differ_Widest [v7, a8] 80 h2 (fun _rd9 v10 h11 =>
  vc_law01_DifferWidests_k13 P pre r post v10 v6 h11 a12 a8)
  (fun _ _ _ => False))
def vc_law01_DifferWidests (P : Ctx) (pre : List ABlk) (a0 a1 a2 : AV) (r : AV) (post : List PB) : Prop :=
  let h0 : Heap := numbered 0 pre
  BOX T_api_DifferPlan a0 24 h0 fun v3 h1 =>
  LOAD true 3 v3 h1 fun v15 =>
  CALL P f_law01_short [v15] 48 h1 (fun _rd3 v16 h2 =>
  vc_law01_DifferWidests_k14 P pre r post v16 h2 v3 a1 a2)
  (fun _ _ _ => False)
theorem vc_law01_DifferWidests_eq (g : GG) (pre : List ABlk) (a0 a1 a2 : AV) (r : AV) (post : List PB) : vcFn2 (Tz g) false ann_law01_DifferWidests Tryz.f8 pre [a0, a1, a2] (.ret r) post = vc_law01_DifferWidests (Tz g) pre a0 a1 a2 r post := by kernel_rfl
theorem hf_law01_DifferWidests : Tryz.prog.funcs[f_law01_DifferWidests]? = some Tryz.f8 := by kernel_rfl
theorem ok_law01_DifferWidests : fnVcOK Tryz.prog Tryz.f8 = true := by kernel_rfl
theorem nt_law01_DifferWidests : Nat.ble 3 Tryz.f8.ntmps = true := by kernel_rfl
theorem meetsH_law01_DifferWidests {g : GG} {pre : List ABlk} {a0 a1 a2 : AV} {r : AV} {post : List PB} (hk : Nat.ble pre.length 24 = true) (h : vc_law01_DifferWidests (Tz g) pre a0 a1 a2 r post) : MeetsH (Tz g) f_law01_DifferWidests pre [a0, a1, a2] (.ret r) post :=
  meetsH_of_vc (C := Tz g) ann_law01_DifferWidests hf_law01_DifferWidests ok_law01_DifferWidests nt_law01_DifferWidests hk (pn := false) (Eq.mpr ((vcFn2_eq _ _ _ _ _ _ _ _).trans (vc_law01_DifferWidests_eq g pre a0 a1 a2 r post)) h)
theorem meets_law01_DifferWidests {g : GG} {a0 a1 a2 : D} {r : Res} (h : vc_law01_DifferWidests (Tz g) [] (.d a0) (.d a1) (.d a2) r.val (r.bl.map .upd)) : Meets (Tz g) f_law01_DifferWidests [a0, a1, a2] r := meetsH_law01_DifferWidests rfl h
end Go.Vc

namespace Go.Vc
open Go Go.Proofs
variable {g : GG}
attribute [local simp] and_assoc
set_option maxHeartbeats 2000000 in
theorem widests_meets (hg : GOK g) (p : Plan) (i row : Int) (_ : -9223372036854775808 ≤ i ∧ i ≤ 9223372036854775807) (_ : -9223372036854775808 ≤ row ∧ row ≤ 9223372036854775807) : Meets (Tz g) f_law01_DifferWidests [p.d, int i, int row] ⟨.d (.bool true), []⟩ := by
  refine meets_law01_DifferWidests ?_
  unfold vc_law01_DifferWidests
  simp [Plan.d, spans]
  refine CALL.val [p.d] _ rfl (law01_short_meets p) (.inl rfl) ?_
  simp [vc_law01_DifferWidests_k14]
  constructor
  · intro h
    exact known_call hg (by simp)
  · intro h
    have hl : p.starts.length ≤ 1000 := by omega
    refine CALL.mk [p.d, int i] _ rfl (differ_Widest_meets p i hl) (.inl rfl) (by simp) ?_
    simp [vc_law01_DifferWidests_k13]
    refine CALL.mk [p.d, int row] _ rfl (differ_Blame_meets p row hl) (.inl rfl) (by simp) ?_
    simp
    refine CALL.val [p.d] _ rfl (ref01_Plan_meets p hl) (.inl rfl) ?_
    cases hok : p.ok with
    | false =>
      simp [vc_law01_DifferWidests_k12, widestV, blameV, hok]
      exact known_call hg (by simp)
    | true =>
      obtain ⟨a1, a2, a3, a4, a5⟩ := Plan.ok_len hok
      simp [vc_law01_DifferWidests_k12]
      refine CALL.val [p.d, int i] _ rfl (ref01_Begin_meets p i hl) (.inl rfl) ?_
      simp [vc_law01_DifferWidests_k11]
      constructor
      · intro hi
        have hW : widestV p i = (0, 2) := by simp [widestV, hi]
        simp [hW]
        refine CALL.val [p.d, int row] _ rfl (ref01_Line_meets p row ⟨a3, a4⟩) (.inl rfl) ?_
        simp
        constructor
        · intro hr
          have hB : blameV p row = (0, 2) := by simp [blameV, hr]
          simp [vc_law01_DifferWidests_k2, hB]
          exact known_call hg (by simp)
        · intro hr
          obtain ⟨k, rfl, hk⟩ := inB_nat hr
          have hB : blameV p (k : Int) = if (blameO p k).2 ≤ 0 then (0, 5) else ((blameO p k).1, 0) := by simp [blameV, hr, hok]
          simp [vc_law01_DifferWidests_k3]
          refine CALL.mk [p.d, int k] _ rfl (ref01_Blame_meets p k hok (by omega)) (.inl rfl) (by simp [blamT]) ?_
          by_cases hm : (blameO p k).2 ≤ 0
          · have hm' : ¬ 0 < (blameO p k).2 := by omega
            simp [blamT, hB, hm, hm', vc_law01_DifferWidests_k0]
            exact known_call hg (by simp)
          · have hm' : 0 < (blameO p k).2 := by omega
            simp [blamT, hB, hm, hm', vc_law01_DifferWidests_k1]
            exact known_call hg (by simp)
      · intro hi
        obtain ⟨j, rfl, hj⟩ := inB_nat hi
        have hgj : p.starts[j]? = some p.starts[j] := List.getElem?_eq_getElem (by omega)
        have hW : widestV p (j : Int) = match widestO p j p.starts[j].low with | some h => (h, 0) | none => (0, 5) := by
          simp only [widestV, hok, hi, Bool.and_self, if_true, Int.toNat_natCast, hgj]
          cases widestO p j p.starts[j].low <;> rfl
        refine CALL.mk [p.d, int j] _ rfl (ref01_Widest_meets p j _ hok hgj) (.inl rfl) (by unfold widT; split <;> simp) ?_
        cases hw : widestO p j p.starts[j].low with
        | none =>
          simp [hW, hw, widT, vc_law01_DifferWidests_k10, vc_law01_DifferWidests_k9]
          refine CALL.val [p.d, int row] _ rfl (ref01_Line_meets p row ⟨a3, a4⟩) (.inl rfl) ?_
          simp
          constructor
          · intro hr
            have hB : blameV p row = (0, 2) := by simp [blameV, hr]
            simp [vc_law01_DifferWidests_k6, hB]
            exact known_call hg (by simp)
          · intro hr
            obtain ⟨k, rfl, hk⟩ := inB_nat hr
            have hB : blameV p (k : Int) = if (blameO p k).2 ≤ 0 then (0, 5) else ((blameO p k).1, 0) := by simp [blameV, hr, hok]
            simp [vc_law01_DifferWidests_k7]
            refine CALL.mk [p.d, int k] _ rfl (ref01_Blame_meets p k hok (by omega)) (.inl rfl) (by simp [blamT]) ?_
            by_cases hm : (blameO p k).2 ≤ 0
            · have hm' : ¬ 0 < (blameO p k).2 := by omega
              simp [blamT, hB, hm, hm', vc_law01_DifferWidests_k4]
              exact known_call hg (by simp)
            · have hm' : 0 < (blameO p k).2 := by omega
              simp [blamT, hB, hm, hm', vc_law01_DifferWidests_k5]
              exact known_call hg (by simp)
        | some x =>
          simp [hW, hw, widT, vc_law01_DifferWidests_k10, vc_law01_DifferWidests_k8]
          refine CALL.val [p.d, int row] _ rfl (ref01_Line_meets p row ⟨a3, a4⟩) (.inl rfl) ?_
          simp
          constructor
          · intro hr
            have hB : blameV p row = (0, 2) := by simp [blameV, hr]
            simp [vc_law01_DifferWidests_k6, hB]
            exact known_call hg (by simp)
          · intro hr
            obtain ⟨k, rfl, hk⟩ := inB_nat hr
            have hB : blameV p (k : Int) = if (blameO p k).2 ≤ 0 then (0, 5) else ((blameO p k).1, 0) := by simp [blameV, hr, hok]
            simp [vc_law01_DifferWidests_k7]
            refine CALL.mk [p.d, int k] _ rfl (ref01_Blame_meets p k hok (by omega)) (.inl rfl) (by simp [blamT]) ?_
            by_cases hm : (blameO p k).2 ≤ 0
            · have hm' : ¬ 0 < (blameO p k).2 := by omega
              simp [blamT, hB, hm, hm', vc_law01_DifferWidests_k4]
              exact known_call hg (by simp)
            · have hm' : 0 < (blameO p k).2 := by omega
              simp [blamT, hB, hm, hm', vc_law01_DifferWidests_k5]
              exact known_call hg (by simp)
end Go.Vc

namespace Go.Vc
open Go Go.RowKit Go.ChangeShapes Go.WideShapes Go.ChangeAt Go.Proofs Go.Proofs.YtknbgegcnfdnkaaGreatDoor
theorem widests_calls {H : Type} {enc : TypeId × Value → H} (W : World) (base : Nat) (args : Array Value) (ds : List (DataW H)) (ps : List MemPlace) (hval : ∀ (j : Nat) t v, Tryz.f8.params[j]? = some t → args[j]? = some v → Value.okWide Tryz.prog W .any base t v)
    (hA : DataW.TrodAll enc Tryz.prog W 0 (fun _ => true) true Tryz.f8.params.toList args.toList ds ps) (hL : laidMetH Tryz.prog laidL W) (hsh : W.ShapedOpen Tryz.prog) : Calls Tryz.prog 8 args W fun e W' => e = .returned (.bool true) ∧ Below W.heap.size W W' := by
  rw [Tryz.params8] at hA hval
  obtain ⟨v0, v1, v2, d0, d1, d2, p0, p1, p2, rfl, rfl, rfl, h0, h1, h2⟩ := trodAll_three hA
  obtain ⟨x0, g0⟩ := open_plan (hval 0 24 v0 rfl rfl) h0
  obtain ⟨x1, g1, b1⟩ := open_int' (hval 1 3 v1 rfl rfl) h1
  obtain ⟨x2, g2, b2⟩ := open_int' (hval 2 3 v2 rfl rfl) h2
  exact law_calls (C := Tz (gW W)) (widests_meets (gok hL hsh) x0 x1 x2 b1 b2) rfl (Below.refl _ _) (us := [v0, v1, v2]) rfl (fun i d u hd hu => by
    match i, hd, hu with
    | 0, hd, hu => simp at hd hu; subst hd; subst hu; exact g0
    | 1, hd, hu => simp at hd hu; subst hd; subst hu; exact g1
    | 2, hd, hu => simp at hd hu; subst hd; subst hu; exact g2
    | i + 3, hd, hu => simp at hd)
theorem widests_lifted (os : Os) (started : os.Started) (H : Type) (enc : TypeId × Value → H) :
    ReturnsInHanded {} Tryz.checked os 8 .any (fun w args => (Rows.differWidestsSpec.pre enc Tryz.prog Tryz.f8 [] false w args ∧ laidMetH Tryz.prog laidL w) ∧ sizedMet enc Tryz.prog Tryz.f8 (OpenSpec.ofChange Rows.differWidestsSpec) false w args)
      (Rows.differWidestsSpec.post enc Tryz.prog Tryz.f8 false true false false) :=
  law_lifted (C := Tryz.checked) (tb := 4) (n := 3) started own (by kernel_rfl) Tryz.func8
    (ChangeSpec.witness_shaped (enc := enc) (C := Tryz.checked) (os := os) (X := fun w _ => laidMetH Tryz.prog laidL w) false (World.laidAll Tryz.prog os laidL) #[.agg #[.slice none 0 0, .int .i64 0, .int .i64 0], .int .i64 0, .int .i64 0] 8 (World.laidAll_os _ _ _)
      (World.shaped_of_ZipB (by kernel_rfl) (by kernel_rfl)) (by kernel_rfl) (by kernel_rfl) (by kernel_rfl)
      (by rw [MakeChecks.laidMetH_plain _ _ _ (by kernel_rfl)]; exact laidMet_laidAll _ (by kernel_rfl) (by kernel_rfl)))
    laidOut (by kernel_rfl) (by kernel_rfl) Tryz.underlying4 rfl (by kernel_rfl) (fun ds hl => by
      match ds, hl with
      | [a, b, c], _ => rfl) widests_calls
theorem widests_holds : Rows.DifferWidestsSaid :=
  OpenClaim.holds_of_wide 8 Tryz.f8 rfl rfl rfl rfl rfl rfl rfl ⟨rfl, rfl, rfl, rfl, rfl⟩ rfl rfl rfl rfl rfl (by kernel_rfl) Tryz.func8 (by kernel_rfl)
    (of_decide_eq_true (by kernel_rfl)) (by unfold Func.isWrapper; first | (rw [if_pos (by decide +kernel)]; kernel_rfl) | (rw [if_neg (by decide +kernel)]; exact ⟨rfl, rfl⟩))
    (fun os started H enc _ => widests_lifted os started H enc)
theorem widests_card : Rows.DifferWidestsCardSaid :=
  Claim7.holds_tied_plain_at .later [] [.data, .data, .data, .data, .pinned] true (true, "d10b68e6a0c25b14fab4c5b71042fa3c3e8e84e3c7cd95ea514fc863592e91e4") true widests_holds (fun _ h => by cases h) (by kernel_rfl) (fun _ h => by cases h) differWidests_row_tie rfl ⟨rfl, rfl⟩ (by kernel_rfl) rfl
    (fun f fn hf hfn => by
      obtain rfl : f = 8 := Option.some.inj ((show Tryz.prog.funcNamed "ephemerist/ephemeristlaw01.DifferWidests" = some 8 by kernel_rfl).symm.trans hf) |>.symm
      obtain rfl : fn = Tryz.f8 := (Option.some.inj (Tryz.func8.symm.trans hfn)).symm
      exact ⟨by kernel_rfl, fun j t ht => by
        rw [Tryz.params8] at ht
        have hm : t ∈ [24, 3, 3] := by simpa using Array.mem_of_getElem? ht
        have hall : ([24, 3, 3].all fun u => !Tryz.prog.wantsStandIn u) = true := by kernel_rfl
        exact (show Tryz.prog.wantsStandIn t = false by simpa using List.all_eq_true.1 hall t hm)⟩)
    (by kernel_rfl)
end Go.Vc

namespace Go.Proofs.YtknbgegcnfdnkaaGreatDoor
theorem law_DifferWidestsCardSaid : Rows.DifferWidestsCardSaid := Go.Vc.widests_card
end Go.Proofs.YtknbgegcnfdnkaaGreatDoor
