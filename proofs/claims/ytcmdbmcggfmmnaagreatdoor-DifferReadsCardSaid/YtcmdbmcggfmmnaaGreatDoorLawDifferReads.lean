/- Proves that the statement DifferReadsCardSaid holds of the given program: for every input the law returns true and leaves its arguments as they were; under the row's own conditions, that the listed tables are laid as the program's text has them. -/
import Derived.Test.YtcmdbmcggfmmnaaGreatDoorVc22
import Derived.Test.YtcmdbmcggfmmnaaGreatDoorVc11
import Derived.Test.YtcmdbmcggfmmnaaGreatDoorVc36
import Derived.Test.YtcmdbmcggfmmnaaGreatDoorVc25
import Derived.Test.YtcmdbmcggfmmnaaGreatDoorVc38
set_option maxRecDepth 100000
namespace Go.Vc
open Go Go.Proofs Go.RowKit
def ann_law01_DifferReads : Nat → List Nat := fun n => match n with  | _ => []
def vc_law01_DifferReads_k0 (P : Ctx) (pre : List ABlk) (r : AV) (post : List PB) (v0 : AV) (v1 : AV) (v3 : AV) (a4 : AV) (h6 : Heap) : Prop :=
  CONDG v0
  (BIN 0 .eql v1 (.d (.num .i64 0)) fun v2 =>
  CONDG v2
  (BIN 0 .eql v3 a4 fun v5 =>
  CONDG v5
  (CALL P f_law01_known [] 432 h6 (fun _ v8 h9 =>
  POST v8 h9 pre r post)
  (fun _ _ _ => False))
  (POST (.d (.bool false)) h6 pre r post))
  (POST (.d (.bool false)) h6 pre r post))
  (POST (.d (.bool false)) h6 pre r post)
def vc_law01_DifferReads_k1 (P : Ctx) (pre : List ABlk) (r : AV) (post : List PB) (v0 : AV) (v3 : AV) (v5 : AV) (h6 : Heap) (v8 : AV) (a13 : AV) : Prop :=
  EXT v0 0 fun v1 =>
  EXT v0 1 fun v2 =>
  BIN 0 .eql v3 (.d (.num .i64 0)) fun v4 =>
  CONDG v4
  (LOAD true 3 v5 h6 fun v7 =>
  LOAD true 3 v8 h6 fun v9 =>
  CALL P f_ref01_SamePlans [v7, v9] 336 h6 (fun _ v11 h12 =>
  vc_law01_DifferReads_k0 P pre r post v11 v2 v1 a13 h12)
  (fun _ _ _ => False))
  (POST (.d (.bool false)) h6 pre r post)
def vc_law01_DifferReads_k2 (P : Ctx) (pre : List ABlk) (r : AV) (post : List PB) (v0 : AV) (v1 : AV) (v3 : AV) (a4 : AV) (h6 : Heap) : Prop :=
  CONDG v0
  (BIN 0 .eql v1 (.d (.num .i64 0)) fun v2 =>
  CONDG v2
  (BIN 0 .eql v3 a4 fun v5 =>
  CONDG v5
  (CALL P f_law01_known [] 448 h6 (fun _ v8 h9 =>
  POST v8 h9 pre r post)
  (fun _ _ _ => False))
  (POST (.d (.bool false)) h6 pre r post))
  (POST (.d (.bool false)) h6 pre r post))
  (POST (.d (.bool false)) h6 pre r post)
def vc_law01_DifferReads_k3 (P : Ctx) (pre : List ABlk) (r : AV) (post : List PB) (v0 : AV) (v3 : AV) (v5 : AV) (h6 : Heap) (v8 : AV) (a13 : AV) : Prop :=
  EXT v0 0 fun v1 =>
  EXT v0 1 fun v2 =>
  BIN 0 .eql v3 (.d (.num .i64 0)) fun v4 =>
  CONDG v4
  (LOAD true 3 v5 h6 fun v7 =>
  LOAD true 3 v8 h6 fun v9 =>
  CALL P f_ref01_SamePlans [v7, v9] 352 h6 (fun _ v11 h12 =>
  vc_law01_DifferReads_k2 P pre r post v11 v2 v1 a13 h12)
  (fun _ _ _ => False))
  (POST (.d (.bool false)) h6 pre r post)
def vc_law01_DifferReads_k4 (P : Ctx) (pre : List ABlk) (r : AV) (post : List PB) (v0 : AV) (v1 : AV) (v3 : AV) (a4 : AV) (h6 : Heap) : Prop :=
  CONDG v0
  (BIN 0 .eql v1 (.d (.num .i64 0)) fun v2 =>
  CONDG v2
  (BIN 0 .eql v3 a4 fun v5 =>
  CONDG v5
  (CALL P f_law01_known [] 472 h6 (fun _ v8 h9 =>
  POST v8 h9 pre r post)
  (fun _ _ _ => False))
  (POST (.d (.bool false)) h6 pre r post))
  (POST (.d (.bool false)) h6 pre r post))
  (POST (.d (.bool false)) h6 pre r post)
def vc_law01_DifferReads_k5 (P : Ctx) (pre : List ABlk) (r : AV) (post : List PB) (v0 : AV) (v3 : AV) (v5 : AV) (h6 : Heap) (v8 : AV) (a13 : AV) : Prop :=
  EXT v0 0 fun v1 =>
  EXT v0 1 fun v2 =>
  BIN 0 .eql v3 (.d (.num .i64 0)) fun v4 =>
  CONDG v4
  (LOAD true 3 v5 h6 fun v7 =>
  LOAD true 3 v8 h6 fun v9 =>
  CALL P f_ref01_SamePlans [v7, v9] 376 h6 (fun _ v11 h12 =>
  vc_law01_DifferReads_k4 P pre r post v11 v2 v1 a13 h12)
  (fun _ _ _ => False))
  (POST (.d (.bool false)) h6 pre r post)
def vc_law01_DifferReads_k6 (P : Ctx) (pre : List ABlk) (r : AV) (post : List PB) (v0 : AV) (v1 : AV) (v3 : AV) (a4 : AV) (h6 : Heap) : Prop :=
  CONDG v0
  (BIN 0 .eql v1 (.d (.num .i64 0)) fun v2 =>
  CONDG v2
  (BIN 0 .eql v3 a4 fun v5 =>
  CONDG v5
  (CALL P f_law01_known [] 464 h6 (fun _ v8 h9 =>
  POST v8 h9 pre r post)
  (fun _ _ _ => False))
  (POST (.d (.bool false)) h6 pre r post))
  (POST (.d (.bool false)) h6 pre r post))
  (POST (.d (.bool false)) h6 pre r post)
def vc_law01_DifferReads_k7 (P : Ctx) (pre : List ABlk) (r : AV) (post : List PB) (v0 : AV) (v3 : AV) (v5 : AV) (h6 : Heap) (v8 : AV) (a13 : AV) : Prop :=
  EXT v0 0 fun v1 =>
  EXT v0 1 fun v2 =>
  BIN 0 .eql v3 (.d (.num .i64 0)) fun v4 =>
  CONDG v4
  (LOAD true 3 v5 h6 fun v7 =>
  LOAD true 3 v8 h6 fun v9 =>
  CALL P f_ref01_SamePlans [v7, v9] 368 h6 (fun _ v11 h12 =>
  vc_law01_DifferReads_k6 P pre r post v11 v2 v1 a13 h12)
  (fun _ _ _ => False))
  (POST (.d (.bool false)) h6 pre r post)
def vc_law01_DifferReads_k8 (P : Ctx) (pre : List ABlk) (r : AV) (post : List PB) (v1 : AV) (v3 : AV) (h4 : Heap) (v17 : AV) (a18 : AV) : Prop :=
  BIN 0 .neq (.d (.num .i64 2)) (.d (.num .i64 0)) fun v0 =>
  COND v0
  (BIN 0 .eql v1 (.d (.num .i64 2)) fun v2 =>
  CONDG v2
  (LOAD true 3 v3 h4 fun v5 =>
  BUILD [(0, 1), (1, 1), (2, 1)] [.zc, .d (.num .i64 0), .d (.num .i64 0)] [] fun v6 =>
  CALL P f_ref01_SamePlans [v5, v6] 328 h4 (fun _ v8 h9 =>
  CONDG v8
  (CALL P f_law01_known [] 352 h9 (fun _ v11 h12 =>
  POST v11 h12 pre r post)
  (fun _ _ _ => False))
  (POST (.d (.bool false)) h9 pre r post))
  (fun _ _ _ => False))
  (POST (.d (.bool false)) h4 pre r post))
  (LOAD true 3 v3 h4 fun v13 =>
  CALL P f_differ_Print [v13] 288 h4 (fun _ v15 h16 =>
  vc_law01_DifferReads_k5 P pre r post v15 v1 v3 h16 v17 a18)
  (fun _ _ _ => False))
def vc_law01_DifferReads_k9 (P : Ctx) (pre : List ABlk) (r : AV) (post : List PB) (v1 : AV) (v3 : AV) (h4 : Heap) (v17 : AV) (a18 : AV) : Prop :=
  BIN 0 .neq (.d (.num .i64 0)) (.d (.num .i64 0)) fun v0 =>
  COND v0
  (BIN 0 .eql v1 (.d (.num .i64 0)) fun v2 =>
  CONDG v2
  (LOAD true 3 v3 h4 fun v5 =>
  BUILD [(0, 1), (1, 1), (2, 1)] [.zc, .d (.num .i64 0), .d (.num .i64 0)] [] fun v6 =>
  CALL P f_ref01_SamePlans [v5, v6] 320 h4 (fun _ v8 h9 =>
  CONDG v8
  (CALL P f_law01_known [] 344 h9 (fun _ v11 h12 =>
  POST v11 h12 pre r post)
  (fun _ _ _ => False))
  (POST (.d (.bool false)) h9 pre r post))
  (fun _ _ _ => False))
  (POST (.d (.bool false)) h4 pre r post))
  (LOAD true 3 v3 h4 fun v13 =>
  CALL P f_differ_Print [v13] 280 h4 (fun _ v15 h16 =>
  vc_law01_DifferReads_k7 P pre r post v15 v1 v3 h16 v17 a18)
  (fun _ _ _ => False))
def vc_law01_DifferReads_k10 (P : Ctx) (pre : List ABlk) (r : AV) (post : List PB) (v1 : AV) (v3 : AV) (h4 : Heap) (v17 : AV) (a18 : AV) : Prop :=
  BIN 0 .neq (.d (.num .i64 3)) (.d (.num .i64 0)) fun v0 =>
  COND v0
  (BIN 0 .eql v1 (.d (.num .i64 3)) fun v2 =>
  CONDG v2
  (LOAD true 3 v3 h4 fun v5 =>
  BUILD [(0, 1), (1, 1), (2, 1)] [.zc, .d (.num .i64 0), .d (.num .i64 0)] [] fun v6 =>
  CALL P f_ref01_SamePlans [v5, v6] 288 h4 (fun _ v8 h9 =>
  CONDG v8
  (CALL P f_law01_known [] 312 h9 (fun _ v11 h12 =>
  POST v11 h12 pre r post)
  (fun _ _ _ => False))
  (POST (.d (.bool false)) h9 pre r post))
  (fun _ _ _ => False))
  (POST (.d (.bool false)) h4 pre r post))
  (LOAD true 3 v3 h4 fun v13 =>
  CALL P f_differ_Print [v13] 248 h4 (fun _ v15 h16 =>
  vc_law01_DifferReads_k1 P pre r post v15 v1 v3 h16 v17 a18)
  (fun _ _ _ => False))
def vc_law01_DifferReads_k11 (P : Ctx) (pre : List ABlk) (r : AV) (post : List PB) (v0 : AV) (v3 : AV) (v5 : AV) (h6 : Heap) (v19 : AV) (a20 : AV) : Prop :=
  NOT v0 fun v1 =>
  COND v1
  (BIN 0 .neq (.d (.num .i64 4)) (.d (.num .i64 0)) fun v2 =>
  COND v2
  (BIN 0 .eql v3 (.d (.num .i64 4)) fun v4 =>
  CONDG v4
  (LOAD true 3 v5 h6 fun v7 =>
  BUILD [(0, 1), (1, 1), (2, 1)] [.zc, .d (.num .i64 0), .d (.num .i64 0)] [] fun v8 =>
  CALL P f_ref01_SamePlans [v7, v8] 304 h6 (fun _ v10 h11 =>
  CONDG v10
  (CALL P f_law01_known [] 328 h11 (fun _ v13 h14 =>
  POST v13 h14 pre r post)
  (fun _ _ _ => False))
  (POST (.d (.bool false)) h11 pre r post))
  (fun _ _ _ => False))
  (POST (.d (.bool false)) h6 pre r post))
  (LOAD true 3 v5 h6 fun v15 =>
  CALL P f_differ_Print [v15] 264 h6 (fun _ v17 h18 =>
  vc_law01_DifferReads_k3 P pre r post v17 v3 v5 h18 v19 a20)
  (fun _ _ _ => False)))
  (LOAD true 3 v19 h6 fun v21 =>
  CALL P f_ref01_Plan [v21] 240 h6 (fun _ v23 h24 =>
  NOT v23 fun v25 =>
  COND v25
  (vc_law01_DifferReads_k8 P pre r post v3 v5 h24 v19 a20)
  (vc_law01_DifferReads_k9 P pre r post v3 v5 h24 v19 a20))
  (fun _ _ _ => False))
def vc_law01_DifferReads_k12 (P : Ctx) (pre : List ABlk) (r : AV) (post : List PB) (v0 : AV) (h3 : Heap) (a7 : AV) (v10 : AV) (v11 : AV) : Prop :=
  EXT v0 0 fun v1 =>
  EXT v0 1 fun v2 =>
  ALLOC T_api_DifferPlan [.zc, .d (.num .i64 0), .d (.num .i64 0)] 160 h3 fun v4 h5 =>
  STORE 3 v4 v1 h5 fun h6 =>
  LEN true a7 h6 fun v8 =>
  BIN 0 .gtr v8 (.d (.num .i64 110)) fun v9 =>
  COND v9
  (vc_law01_DifferReads_k10 P pre r post v10 v11 h6 v4 a7)
  (vc_law01_DifferReads_k11 P pre r post v2 v10 v11 h6 v4 a7)
def vc_law01_DifferReads_k13 (P : Ctx) (pre : List ABlk) (r : AV) (post : List PB) (v0 : AV) (h3 : Heap) (a7 : AV) : Prop :=
  EXT v0 0 fun v1 =>
  EXT v0 1 fun v2 =>
  ALLOC T_api_DifferPlan [.zc, .d (.num .i64 0), .d (.num .i64 0)] 96 h3 fun v4 h5 =>
  STORE 3 v4 v1 h5 fun h6 =>
  CALL P f_ref01_Read [a7] 128 h6 (fun _ v9 h10 =>
  vc_law01_DifferReads_k12 P pre r post v9 h10 a7 v2 v4)
  (fun _ _ _ => False)
def vc_law01_DifferReads (P : Ctx) (pre : List ABlk) (a0 : AV) (r : AV) (post : List PB) : Prop :=
  let h0 : Heap := numbered 0 pre
  LEN true a0 h0 fun v11 =>
  BIN 0 .gtr v11 (.d (.num .i64 210)) fun v12 =>
  COND v12
  (CALL P f_law01_known [] 56 h0 (fun _ v13 h1 =>
  POST v13 h1 pre r post)
  (fun _ _ _ => False))
  (CALL P f_differ_Read [a0] 64 h0 (fun _ v16 h3 =>
  vc_law01_DifferReads_k13 P pre r post v16 h3 a0)
  (fun _ _ _ => False))
theorem vc_law01_DifferReads_eq (g : GG) (pre : List ABlk) (a0 : AV) (r : AV) (post : List PB) : vcFn2 (Tz g) false ann_law01_DifferReads Tryz.f3 pre [a0] (.ret r) post = vc_law01_DifferReads (Tz g) pre a0 r post := by kernel_rfl
theorem hf_law01_DifferReads : Tryz.prog.funcs[f_law01_DifferReads]? = some Tryz.f3 := by kernel_rfl
theorem ok_law01_DifferReads : fnVcOK Tryz.prog Tryz.f3 = true := by kernel_rfl
theorem nt_law01_DifferReads : Nat.ble 1 Tryz.f3.ntmps = true := by kernel_rfl
theorem meetsH_law01_DifferReads {g : GG} {pre : List ABlk} {a0 : AV} {r : AV} {post : List PB} (hk : Nat.ble pre.length 24 = true) (h : vc_law01_DifferReads (Tz g) pre a0 r post) : MeetsH (Tz g) f_law01_DifferReads pre [a0] (.ret r) post :=
  meetsH_of_vc (C := Tz g) ann_law01_DifferReads hf_law01_DifferReads ok_law01_DifferReads nt_law01_DifferReads hk (pn := false) (Eq.mpr ((vcFn2_eq _ _ _ _ _ _ _ _).trans (vc_law01_DifferReads_eq g pre a0 r post)) h)
theorem meets_law01_DifferReads {g : GG} {a0 : D} {r : Res} (h : vc_law01_DifferReads (Tz g) [] (.d a0) r.val (r.bl.map .upd)) : Meets (Tz g) f_law01_DifferReads [a0] r := meetsH_law01_DifferReads rfl h
end Go.Vc

namespace Go.Vc
open Go Go.Proofs
variable {g : GG}
attribute [local simp] and_assoc
theorem known_call (hg : GOK g) {new : Nat} {h : Heap} {K KP : List Nat → AV → Heap → Prop} (h3 : K [] (.d (.bool true)) h) : CALL (Tz g) f_law01_known [] new h K KP :=
  CALL.val [] _ rfl (known_meets hg) (.inl rfl) h3
theorem same_zero : Meets (Tz g) f_ref01_SamePlans [zeroP.d, zeroP.d] ⟨.d (.bool true), []⟩ :=
  samePlans_meets zeroP zeroP (by simp [zeroP]) (by simp [zeroP])
theorem samePlans_self (p : Plan) (h : p.starts.length ≤ 1000) : Meets (Tz g) f_ref01_SamePlans [p.d, p.d] ⟨.d (.bool true), []⟩ := by
  have := samePlans_meets (g := g) p p (by omega) (by omega)
  simpa using this
set_option maxHeartbeats 4000000 in
theorem reads_meets (hg : GOK g) (t : Str) (_hm : t.length ≤ maxLen) : Meets (Tz g) f_law01_DifferReads [.str t] ⟨.d (.bool true), []⟩ := by
  refine meets_law01_DifferReads ?_
  unfold vc_law01_DifferReads
  simp
  refine ⟨fun _ => known_call hg (by simp), fun h210 => ?_⟩
  have h210 : t.length ≤ 210 := by omega
  have hR := differ_Read_meets hg t (by omega)
  have hF := ref01_Read_meets (g := g) t (by omega)
  by_cases h110 : t.length ≤ 110
  · have hn110 : ¬ (110 < (t.length : Int)) := by omega
    cases hq : readQ t with
    | none =>
      have e1 : readV t = (zeroP, 4) := by unfold readV; rw [decide_eq_true h110, hq]
      have e2 : refV t = (zeroP, false) := by unfold refV; rw [hq]
      rw [e1] at hR
      rw [e2] at hF
      refine CALL.mk [.str t] _ rfl hR (.inl rfl) (by simp) ?_
      simp [vc_law01_DifferReads_k13, zeroP, Plan.d, spans]
      refine CALL.mk [.str t] _ rfl hF (.inl rfl) (by simp) ?_
      simp [vc_law01_DifferReads_k12, zeroP, Plan.d, spans, lookH]
      refine ⟨fun h => absurd h (by omega), fun _ => ?_⟩
      simp [vc_law01_DifferReads_k11, lookH]
      refine CALL.val [zeroP.d, zeroP.d] _ (by simp [argsD, argD, toD, zeroP, Plan.d, spans]) same_zero (.inl rfl) ?_
      simp
      exact known_call hg (by simp)
    | some p =>
      have hTx := TxOK_read hq (by omega)
      have hT : textP p = t := by
        obtain ⟨_, _, _, _, _, _, _, _, _, hT⟩ := readQ_some hq
        exact hT
      have n1 := hTx.nl
      have e2 : refV t = (p, true) := by unfold refV; rw [hq]
      rw [e2] at hF
      cases hok : p.ok with
      | true =>
        have e1 : readV t = (p, 0) := by unfold readV; rw [decide_eq_true h110, hq]; simp only [hok]
        rw [e1] at hR
        refine CALL.mk [.str t] _ rfl hR (.inl rfl) (by simp) ?_
        simp [vc_law01_DifferReads_k13, Plan.d, spans]
        refine CALL.mk [.str t] _ rfl hF (.inl rfl) (by simp) ?_
        simp [vc_law01_DifferReads_k12, Plan.d, spans, lookH]
        refine ⟨fun h => absurd h (by omega), fun _ => ?_⟩
        simp [vc_law01_DifferReads_k11, lookH]
        refine CALL.val [p.d] _ rfl (ref01_Plan_meets p (by omega)) (.inl rfl) ?_
        simp [hok, vc_law01_DifferReads_k9, lookH]
        refine CALL.mk [p.d] _ rfl (differ_Print_data hg p hok hTx) (.inl rfl) (by simp) ?_
        simp [vc_law01_DifferReads_k7, lookH]
        refine CALL.val [p.d, p.d] _ rfl (samePlans_self p (by omega)) (.inl rfl) ?_
        simp [vc_law01_DifferReads_k6, hT]
        exact known_call hg (by simp)
      | false =>
        have e1 : readV t = (zeroP, 2) := by unfold readV; rw [decide_eq_true h110, hq]; simp only [hok]
        rw [e1] at hR
        refine CALL.mk [.str t] _ rfl hR (.inl rfl) (by simp) ?_
        simp [vc_law01_DifferReads_k13, zeroP, Plan.d, spans]
        refine CALL.mk [.str t] _ rfl hF (.inl rfl) (by simp) ?_
        simp [vc_law01_DifferReads_k12, Plan.d, spans, lookH]
        refine ⟨fun h => absurd h (by omega), fun _ => ?_⟩
        simp [vc_law01_DifferReads_k11, lookH]
        refine CALL.val [p.d] _ rfl (ref01_Plan_meets p (by omega)) (.inl rfl) ?_
        simp [hok, vc_law01_DifferReads_k8, lookH]
        refine CALL.val [zeroP.d, zeroP.d] _ (by simp [argsD, argD, toD, zeroP, Plan.d, spans]) same_zero (.inl rfl) ?_
        simp
        exact known_call hg (by simp)
  · have e1 : readV t = (zeroP, 3) := by unfold readV; rw [decide_eq_false h110]
    rw [e1] at hR
    generalize refV t = v at hF
    obtain ⟨q, b⟩ := v
    refine CALL.mk [.str t] _ rfl hR (.inl rfl) (by simp) ?_
    simp [vc_law01_DifferReads_k13, zeroP, Plan.d, spans]
    refine CALL.mk [.str t] _ rfl hF (.inl rfl) (by simp) ?_
    simp [vc_law01_DifferReads_k12, Plan.d, spans, lookH]
    refine ⟨fun _ => ?_, fun h => absurd h (by omega)⟩
    simp [vc_law01_DifferReads_k10, lookH]
    refine CALL.val [zeroP.d, zeroP.d] _ (by simp [argsD, argD, toD, zeroP, Plan.d, spans]) same_zero (.inl rfl) ?_
    simp
    exact known_call hg (by simp)
end Go.Vc

namespace Go.Vc
open Go Go.RowKit Go.ChangeShapes Go.WideShapes Go.ChangeAt Go.Proofs Go.Proofs.YtcmdbmcggfmmnaaGreatDoor
theorem reads_calls {H : Type} {enc : TypeId × Value → H} (W : World) (base : Nat) (args : Array Value) (ds : List (DataW H)) (ps : List MemPlace) (hval : ∀ (j : Nat) t v, Tryz.f3.params[j]? = some t → args[j]? = some v → Value.okWide Tryz.prog W .any base t v)
    (hA : DataW.TrodAll enc Tryz.prog W 0 (fun _ => true) true Tryz.f3.params.toList args.toList ds ps) (hL : laidMetH Tryz.prog laidL W) (hsh : W.ShapedOpen Tryz.prog) : Calls Tryz.prog 3 args W fun e W' => e = .returned (.bool true) ∧ Below W.heap.size W W' := by
  rw [Tryz.params3] at hA hval
  obtain ⟨v0, d0, rfl, rfl, h0⟩ := trodAll_one hA
  obtain ⟨x0, g0, b0⟩ := open_text (hval 0 9 v0 rfl rfl) h0
  exact law_calls (C := Tz (gW W)) (reads_meets (gok hL hsh) x0 b0) rfl (Below.refl _ _) (us := [v0]) rfl (fun i d u hd hu => by
    match i, hd, hu with
    | 0, hd, hu => simp at hd hu; subst hd; subst hu; exact g0
    | i + 1, hd, hu => simp at hd)
theorem reads_lifted (os : Os) (started : os.Started) (H : Type) (enc : TypeId × Value → H) :
    ReturnsInHanded {} Tryz.checked os 3 .any (fun w args => (Rows.differReadsSpec.pre enc Tryz.prog Tryz.f3 [] false w args ∧ laidMetH Tryz.prog laidL w) ∧ sizedMet enc Tryz.prog Tryz.f3 (OpenSpec.ofChange Rows.differReadsSpec) false w args)
      (Rows.differReadsSpec.post enc Tryz.prog Tryz.f3 false true false false) :=
  law_lifted (C := Tryz.checked) (tb := 4) (n := 1) started own (by kernel_rfl) Tryz.func3
    (ChangeSpec.witness_shaped (enc := enc) (C := Tryz.checked) (os := os) (X := fun w _ => laidMetH Tryz.prog laidL w) false (World.laidAll Tryz.prog os laidL) #[.string ⟨#[]⟩] 8 (World.laidAll_os _ _ _)
      (World.shaped_of_ZipB (by kernel_rfl) (by kernel_rfl)) (by kernel_rfl) (by kernel_rfl) (by kernel_rfl)
      (by rw [MakeChecks.laidMetH_plain _ _ _ (by kernel_rfl)]; exact laidMet_laidAll _ (by kernel_rfl) (by kernel_rfl)))
    laidOut (by kernel_rfl) (by kernel_rfl) Tryz.underlying4 rfl (by kernel_rfl) (fun ds hl => by
      match ds, hl with
      | [a], _ => rfl) reads_calls
theorem reads_holds : Rows.DifferReadsSaid :=
  OpenClaim.holds_of_wide 3 Tryz.f3 rfl rfl rfl rfl rfl rfl rfl ⟨rfl, rfl, rfl, rfl, rfl⟩ rfl rfl rfl rfl rfl (by kernel_rfl) Tryz.func3 (by kernel_rfl)
    (of_decide_eq_true (by kernel_rfl)) (by unfold Func.isWrapper; first | (rw [if_pos (by decide +kernel)]; kernel_rfl) | (rw [if_neg (by decide +kernel)]; exact ⟨rfl, rfl⟩))
    (fun os started H enc _ => reads_lifted os started H enc)
theorem reads_card : Rows.DifferReadsCardSaid :=
  Claim7.holds_tied_plain_at .later [] [.data, .data, .data, .data, .pinned] true (true, "15cb5935d4d8ef802efdc98496c82d79824b630dbcd1602acbb72c8493dcdd90") true reads_holds (fun _ h => by cases h) (by kernel_rfl) (fun _ h => by cases h) differReads_row_tie rfl ⟨rfl, rfl⟩ (by kernel_rfl) rfl
    (fun f fn hf hfn => by
      obtain rfl : f = 3 := Option.some.inj ((show Tryz.prog.funcNamed "ephemerist/ephemeristlaw01.DifferReads" = some 3 by kernel_rfl).symm.trans hf) |>.symm
      obtain rfl : fn = Tryz.f3 := (Option.some.inj (Tryz.func3.symm.trans hfn)).symm
      exact ⟨by kernel_rfl, fun j t ht => by
        rw [Tryz.params3] at ht
        have hm : t ∈ [9] := by simpa using Array.mem_of_getElem? ht
        have hall : ([9].all fun u => !Tryz.prog.wantsStandIn u) = true := by kernel_rfl
        exact (show Tryz.prog.wantsStandIn t = false by simpa using List.all_eq_true.1 hall t hm)⟩)
    (by kernel_rfl)
end Go.Vc

namespace Go.Proofs.YtcmdbmcggfmmnaaGreatDoor
theorem law_DifferReadsCardSaid : Rows.DifferReadsCardSaid := Go.Vc.reads_card
end Go.Proofs.YtcmdbmcggfmmnaaGreatDoor
