/- Proves that the statement ProofBestCardSaid holds of the given program: for every input the law returns true and leaves its arguments as they were; under the row's own conditions, that the listed tables are laid as the program's text has them. -/
import Derived.Test.YtjdgidaoknlnlaaGreatDoorVc23
import Derived.Test.YtjdgidaoknlnlaaGreatDoorVc11
import Derived.Test.YtjdgidaoknlnlaaGreatDoorVc53
import Derived.Test.YtjdgidaoknlnlaaGreatDoorVc26
import Derived.Test.YtjdgidaoknlnlaaGreatDoorVc30
set_option maxRecDepth 100000
namespace Go.Vc
open Go Go.Proofs Go.RowKit
def ann_law09_ProofBest : Nat → List Nat := fun n => match n with  | _ => []
def vc_law09_ProofBest_k0 (P : Ctx) (pre : List ABlk) (r : AV) (post : List PB) (v0 : AV) (h1 : Heap) (v4 : AV) (v6 : AV) (v10 : AV) : Prop :=
  LEN false v0 h1 fun v2 =>
  BIN 0 .eql v2 (.d (.num .i64 1)) fun v3 =>
  NOT v4 fun v5 =>
  CONDG v5
  (FADDR 1 v6 h1 fun v7 =>
  LOAD false 1 v7 h1 fun v8 =>
  LEN false v8 h1 fun v9 =>
  BIN 0 .eql v10 v9 fun v11 =>
  BIN 999 .eql v3 v11 fun v12 =>
  CONDG v12
  (CALL P f_law09_known [] 1272 h1 (fun _ v14 h15 =>
  POST v14 h15 pre r post)
  (fun _ _ _ => False))
  (POST (.d (.bool false)) h1 pre r post))
  (BIN 999 .eql v3 (.d (.bool false)) fun v12 =>
  CONDG v12
  (CALL P f_law09_known [] 1272 h1 (fun _ v14 h17 =>
  POST v14 h17 pre r post)
  (fun _ _ _ => False))
  (POST (.d (.bool false)) h1 pre r post))
def vc_law09_ProofBest_k1 (P : Ctx) (pre : List ABlk) (r : AV) (post : List PB) (v0 : AV) (v2 : AV) (h3 : Heap) (v7 : AV) : Prop :=
  NOT v0 fun v1 =>
  CONDG v1
  (FADDR 1 v2 h3 fun v4 =>
  LOAD false 1 v4 h3 fun v5 =>
  LEN false v5 h3 fun v6 =>
  BIN 0 .eql v7 v6 fun v8 =>
  BIN 999 .eql (.d (.bool false)) v8 fun v9 =>
  CONDG v9
  (CALL P f_law09_known [] 1272 h3 (fun _ v11 h12 =>
  POST v11 h12 pre r post)
  (fun _ _ _ => False))
  (POST (.d (.bool false)) h3 pre r post))
  (BIN 999 .eql (.d (.bool false)) (.d (.bool false)) fun v9 =>
  CONDG v9
  (CALL P f_law09_known [] 1272 h3 (fun _ v11 h14 =>
  POST v11 h14 pre r post)
  (fun _ _ _ => False))
  (POST (.d (.bool false)) h3 pre r post))
def vc_law09_ProofBest_k2 (P : Ctx) (pre : List ABlk) (r : AV) (post : List PB) (v0 : AV) (h1 : Heap) (v4 : AV) (v6 : AV) (v8 : AV) (v9 : AV) : Prop :=
  LEN false v0 h1 fun v2 =>
  BIN 0 .eql v2 (.d (.num .i64 0)) fun v3 =>
  BIN 999 .eql v3 v4 fun v5 =>
  CONDG v5
  (BIN 0 .eql v6 (.d (.num .i64 0)) fun v7 =>
  CONDG v7
  (vc_law09_ProofBest_k0 P pre r post v0 h1 v4 v8 v9)
  (vc_law09_ProofBest_k1 P pre r post v4 v8 h1 v9))
  (POST (.d (.bool false)) h1 pre r post)
def vc_law09_ProofBest_k3 (P : Ctx) (pre : List ABlk) (r : AV) (post : List PB) (v0 : AV) (v2 : AV) (v4 : AV) (h5 : Heap) (v6 : AV) (v7 : AV) : Prop :=
  BIN 999 .eql (.d (.bool false)) v0 fun v1 =>
  CONDG v1
  (BIN 0 .eql v2 (.d (.num .i64 0)) fun v3 =>
  CONDG v3
  (vc_law09_ProofBest_k0 P pre r post v4 h5 v0 v6 v7)
  (vc_law09_ProofBest_k1 P pre r post v0 v6 h5 v7))
  (POST (.d (.bool false)) h5 pre r post)
def vc_law09_ProofBest_k4 (P : Ctx) (pre : List ABlk) (r : AV) (post : List PB) (v0 : AV) (h3 : Heap) (v4 : AV) (h5 : Heap) (rd6 : List Nat) (h7 : Heap) (rd8 : List Nat) (h9 : Heap) (rd10 : List Nat) (v11 : AV) (v14 : AV) (v16 : AV) (a22 : AV) (v23 : AV) (a26 : AV) (v27 : AV) (v29 : AV) (v31 : AV) (v32 : AV) : Prop :=
  EXT v0 0 fun v1 =>
  EXT v0 1 fun v2 =>
  ORDX [] [0, 0, 0, 0, 14, 31, 63, 127, 255, 255, 511, 2047] [(0, wr h3 h3, (ids v4)), (1, wr h3 h3, (ids v4)), (4, wr h3 h5, rd6), (5, wr h5 h7, rd8), (6, wr h7 h9, rd10)] ∧
  BIN 0 .neq v11 (.d (.num .i64 0)) fun v12 =>
  CONDG v12
  (POST (.d (.bool false)) h9 pre r post)
  (BIN 0 .neq v2 (.d (.num .i64 0)) fun v13 =>
  CONDG v13
  (POST (.d (.bool false)) h9 pre r post)
  (LEN false v14 h9 fun v15 =>
  BIN 0 .neq v15 v16 fun v17 =>
  CONDG v17
  (POST (.d (.bool false)) h9 pre r post)
  (LEN false v1 h9 fun v18 =>
  BIN 0 .gtr v18 v16 fun v19 =>
  CONDG v19
  (POST (.d (.bool false)) h9 pre r post)
  (LEN false v1 h9 fun v20 =>
  BIN 0 .eql v20 v16 fun v21 =>
  CONDG v21
  (BIN 0 .lss a22 v23 fun v24 =>
  CONDG v24
  (POST (.d (.bool false)) h9 pre r post)
  (BIN 0 .eql a22 v23 fun v25 =>
  CONDG v25
  (BIN 0 .lss a26 v27 fun v28 =>
  COND v28
  (POST (.d (.bool false)) h9 pre r post)
  (BIN 0 .eql v29 (.d (.num .i64 0)) fun v30 =>
  CONDG v30
  (vc_law09_ProofBest_k2 P pre r post v31 h9 v32 v29 v4 v16)
  (vc_law09_ProofBest_k3 P pre r post v32 v29 v31 h9 v4 v16)))
  (BIN 0 .eql v29 (.d (.num .i64 0)) fun v30 =>
  CONDG v30
  (vc_law09_ProofBest_k2 P pre r post v31 h9 v32 v29 v4 v16)
  (vc_law09_ProofBest_k3 P pre r post v32 v29 v31 h9 v4 v16))))
  (BIN 0 .eql v29 (.d (.num .i64 0)) fun v30 =>
  CONDG v30
  (vc_law09_ProofBest_k2 P pre r post v31 h9 v32 v29 v4 v16)
  (vc_law09_ProofBest_k3 P pre r post v32 v29 v31 h9 v4 v16))))))
def vc_law09_ProofBest_k5 (P : Ctx) (pre : List ABlk) (r : AV) (post : List PB) (v0 : AV) (v1 : AV) (h2 : Heap) (h9 : Heap) (v10 : AV) (rd11 : List Nat) (v12 : AV) (v13 : AV) (v14 : AV) (a15 : AV) (v16 : AV) (a17 : AV) (v18 : AV) (v19 : AV) (v20 : AV) (v21 : AV) : Prop :=
  CALL P f_ref09_With [v0, v1] 672 h2 (fun rd3 v4 h5 =>
  CALL P f_proof_Passes [v4] 680 h5 (fun rd6 v7 h8 =>
  vc_law09_ProofBest_k4 P pre r post v7 h9 v10 h2 rd11 h5 rd3 h8 rd6 v12 v13 v14 a15 v16 a17 v18 v19 v20 v21)
  (fun _ _ _ => False))
  (fun _ _ _ => False)
def vc_law09_ProofBest_k6 (P : Ctx) (pre : List ABlk) (r : AV) (post : List PB) (v0 : AV) (h3 : Heap) (v4 : AV) (h5 : Heap) (rd6 : List Nat) (h7 : Heap) (rd8 : List Nat) (h9 : Heap) (rd10 : List Nat) (a13 : AV) (a14 : AV) (v18 : AV) (v19 : AV) (v20 : AV) (v21 : AV) (v22 : AV) (v23 : AV) : Prop :=
  EXT v0 0 fun v1 =>
  EXT v0 1 fun v2 =>
  ORDX [] [0, 0, 0, 0, 14, 31, 63, 127, 255, 255, 511, 2047] [(0, wr h3 h3, (ids v4)), (1, wr h3 h3, (ids v4)), (4, wr h3 h5, rd6), (5, wr h5 h7, rd8), (6, wr h7 h9, rd10)] ∧
  LOAD true 3 v4 h9 fun v11 =>
  LOAD true 3 v4 h9 fun v12 =>
  CALL P f_ref09_Whole [v12, a13, a14] 664 h9 (fun rd15 v16 h17 =>
  vc_law09_ProofBest_k5 P pre r post v11 v16 h17 h9 v4 rd15 v2 v1 v18 a13 v19 a14 v20 v21 v22 v23)
  (fun _ _ _ => False)
def vc_law09_ProofBest_k7 (P : Ctx) (pre : List ABlk) (r : AV) (post : List PB) (v0 : AV) (v1 : AV) (h2 : Heap) (h9 : Heap) (v10 : AV) (rd11 : List Nat) (a12 : AV) (a13 : AV) (v14 : AV) (v15 : AV) (v16 : AV) (v17 : AV) (v18 : AV) (v19 : AV) : Prop :=
  CALL P f_ref09_With [v0, v1] 576 h2 (fun rd3 v4 h5 =>
  CALL P f_proof_Passes [v4] 584 h5 (fun rd6 v7 h8 =>
  vc_law09_ProofBest_k6 P pre r post v7 h9 v10 h2 rd11 h5 rd3 h8 rd6 a12 a13 v14 v15 v16 v17 v18 v19)
  (fun _ _ _ => False))
  (fun _ _ _ => False)
def vc_law09_ProofBest_k8 (P : Ctx) (pre : List ABlk) (r : AV) (post : List PB) (v0 : AV) (h2 : Heap) (v3 : AV) (v6 : AV) (v7 : AV) (a11 : AV) (a12 : AV) (v13 : AV) (v14 : AV) (v15 : AV) (v16 : AV) : Prop :=
  NOT v0 fun v1 =>
  COND v1
  (POST (.d (.bool false)) h2 pre r post)
  (LOAD true 3 v3 h2 fun v4 =>
  LOAD true 3 v3 h2 fun v5 =>
  CALL P f_ref09_Whole [v5, v6, v7] 568 h2 (fun rd8 v9 h10 =>
  vc_law09_ProofBest_k7 P pre r post v4 v9 h10 h2 v3 rd8 a11 a12 v13 v6 v7 v14 v15 v16)
  (fun _ _ _ => False))
def vc_law09_ProofBest_k9 (P : Ctx) (pre : List ABlk) (r : AV) (post : List PB) (v0 : AV) (v3 : AV) (h5 : Heap) (v6 : AV) (v10 : AV) (v12 : AV) (v13 : AV) (a17 : AV) (a18 : AV) (v19 : AV) (v20 : AV) : Prop :=
  EXT v0 0 fun v1 =>
  EXT v0 1 fun v2 =>
  BIN 0 .neq v3 (.d (.num .i64 0)) fun v4 =>
  CONDG v4
  (POST (.d (.bool false)) h5 pre r post)
  (BIN 0 .neq v6 (.d (.num .i64 0)) fun v7 =>
  CONDG v7
  (POST (.d (.bool false)) h5 pre r post)
  (BIN 0 .neq v2 (.d (.num .i64 0)) fun v8 =>
  CONDG v8
  (BIN 0 .neq v2 (.d (.num .i64 5)) fun v9 =>
  CONDG v9
  (POST (.d (.bool false)) h5 pre r post)
  (LOAD true 3 v10 h5 fun v11 =>
  CALL P f_ref09_Pair [v11, v12, v13] 512 h5 (fun _ v15 h16 =>
  vc_law09_ProofBest_k8 P pre r post v15 h16 v10 v12 v13 a17 a18 v19 v2 v1 v20)
  (fun _ _ _ => False)))
  (LOAD true 3 v10 h5 fun v11 =>
  CALL P f_ref09_Pair [v11, v12, v13] 512 h5 (fun _ v15 h22 =>
  vc_law09_ProofBest_k8 P pre r post v15 h22 v10 v12 v13 a17 a18 v19 v2 v1 v20)
  (fun _ _ _ => False))))
def vc_law09_ProofBest_k10 (P : Ctx) (pre : List ABlk) (r : AV) (post : List PB) (v0 : AV) (v5 : AV) (h6 : Heap) (a17 : AV) (a18 : AV) : Prop :=
  EXT v0 0 fun v1 =>
  EXT v0 1 fun v2 =>
  EXT v0 2 fun v3 =>
  EXT v0 3 fun v4 =>
  LOAD true 3 v5 h6 fun v7 =>
  CALL P f_proof_Pass [v7] 264 h6 (fun _ v9 h10 =>
  EXT v9 0 fun v11 =>
  EXT v9 1 fun v12 =>
  LOAD true 3 v5 h10 fun v13 =>
  CALL P f_proof_Fewest [v13] 320 h10 (fun _ v15 h16 =>
  vc_law09_ProofBest_k9 P pre r post v15 v4 h16 v12 v5 v1 v2 a17 a18 v3 v11)
  (fun _ _ _ => False))
  (fun _ _ _ => False)
def vc_law09_ProofBest_k11 (P : Ctx) (pre : List ABlk) (r : AV) (post : List PB) (v0 : AV) (h2 : Heap) (v6 : AV) (a11 : AV) (a12 : AV) : Prop :=
  NOT v0 fun v1 =>
  COND v1
  (CALL P f_law09_known [] 168 h2 (fun _ v4 h5 =>
  POST v4 h5 pre r post)
  (fun _ _ _ => False))
  (LOAD true 3 v6 h2 fun v7 =>
  CALL P f_proof_Best [v7] 176 h2 (fun _ v9 h10 =>
  vc_law09_ProofBest_k10 P pre r post v9 v6 h10 a11 a12)
  (fun _ _ _ => False))
def vc_law09_ProofBest_k12 (P : Ctx) (pre : List ABlk) (r : AV) (post : List PB) (v0 : AV) (h2 : Heap) (v6 : AV) (a14 : AV) (a15 : AV) : Prop :=
  NOT v0 fun v1 =>
  CONDG v1
  (CALL P f_law09_known [] 168 h2 (fun _ v4 h5 =>
  POST v4 h5 pre r post)
  (fun _ _ _ => False))
  (FADDR 2 v6 h2 fun v7 =>
  LOAD false 1 v7 h2 fun v8 =>
  LEN false v8 h2 fun v9 =>
  BIN 0 .geq v9 (.d (.num .i64 10)) fun v10 =>
  CONDG v10
  (CALL P f_law09_known [] 168 h2 (fun _ v4 h12 =>
  POST v4 h12 pre r post)
  (fun _ _ _ => False))
  (LOAD true 3 v6 h2 fun v13 =>
  CALL P f_ref09_Pair [v13, a14, a15] 144 h2 (fun _ v17 h18 =>
  vc_law09_ProofBest_k11 P pre r post v17 h18 v6 a14 a15)
  (fun _ _ _ => False)))
def vc_law09_ProofBest (P : Ctx) (pre : List ABlk) (a0 a1 a2 : AV) (r : AV) (post : List PB) : Prop :=
  let h0 : Heap := numbered 0 pre
  BOX T_api_ProofPage a0 24 h0 fun v3 h1 =>
  LOAD true 3 v3 h1 fun v19 =>
  CALL P f_law09_right [v19] 48 h1 (fun _ v20 h2 =>
  vc_law09_ProofBest_k12 P pre r post v20 h2 v3 a1 a2)
  (fun _ _ _ => False)
theorem vc_law09_ProofBest_eq (g : GG) (pre : List ABlk) (a0 a1 a2 : AV) (r : AV) (post : List PB) : vcFn2 (Tz g) false ann_law09_ProofBest Tryz.f8 pre [a0, a1, a2] (.ret r) post = vc_law09_ProofBest (Tz g) pre a0 a1 a2 r post := by kernel_rfl
theorem hf_law09_ProofBest : Tryz.prog.funcs[f_law09_ProofBest]? = some Tryz.f8 := by kernel_rfl
theorem ok_law09_ProofBest : fnVcOK Tryz.prog Tryz.f8 = true := by kernel_rfl
theorem nt_law09_ProofBest : Nat.ble 3 Tryz.f8.ntmps = true := by kernel_rfl
theorem meetsH_law09_ProofBest {g : GG} {pre : List ABlk} {a0 a1 a2 : AV} {r : AV} {post : List PB} (hk : Nat.ble pre.length 24 = true) (h : vc_law09_ProofBest (Tz g) pre a0 a1 a2 r post) : MeetsH (Tz g) f_law09_ProofBest pre [a0, a1, a2] (.ret r) post :=
  meetsH_of_vc (C := Tz g) ann_law09_ProofBest hf_law09_ProofBest ok_law09_ProofBest nt_law09_ProofBest hk (pn := false) (Eq.mpr ((vcFn2_eq _ _ _ _ _ _ _ _).trans (vc_law09_ProofBest_eq g pre a0 a1 a2 r post)) h)
theorem meets_law09_ProofBest {g : GG} {a0 a1 a2 : D} {r : Res} (h : vc_law09_ProofBest (Tz g) [] (.d a0) (.d a1) (.d a2) r.val (r.bl.map .upd)) : Meets (Tz g) f_law09_ProofBest [a0, a1, a2] r := meetsH_law09_ProofBest rfl h
end Go.Vc

namespace Go.Vc
open Go Go.Proofs
variable {g : GG}
attribute [local simp] and_assoc
theorem lookH_one {i : Nat} {b : Option ABlk} : lookH [(i, b)] i = b := by simp
def fewC (o : Option Prs) : Int := match o with | some _ => 0 | none => 5
theorem best_end (hk : MeetsH (Tz g) f_law09_known [] [] (.ret (.d (.bool true))) []) (p : Pg) (hok : p.ok = true) (W : Nat) (hW : W = passN p [bestX p]) (h : Heap) (hp : lookH h 24 = some ⟨0, T_api_ProofPage, .box [.d (int p.people), .d (.list (p.lines.map Ln.d)), .d (.list (p.log.map Nt.d))]⟩) :
    (fewC (fewP p) = 0 → vc_law09_ProofBest_k2 (Tz g) [] (.d (.bool true)) [] (.d (prsD ((fewP p).getD []))) h (.d (.bool (allP p))) (.d (int (fewC (fewP p)))) (.ptr 24 0 0 0) (.d (int W))) ∧
    (¬ fewC (fewP p) = 0 → vc_law09_ProofBest_k3 (Tz g) [] (.d (.bool true)) [] (.d (.bool (allP p))) (.d (int (fewC (fewP p)))) (.d (prsD ((fewP p).getD []))) h (.ptr 24 0 0 0) (.d (int W))) := by
  have h0 := few_zero p
  have h1 := few_one hok
  rw [← hW] at h1
  have hle := passN_le p [bestX p]
  cases hf : fewP p with
  | none =>
    rw [hf] at h0 h1
    have h0 : false = allP p := h0
    have h1 : false = (!allP p && decide (W = p.lines.length)) := h1
    rw [← h0] at h1 ⊢
    have hd : ¬ ((W : Int) = (p.lines.length : Int)) := by
      intro e
      rw [decide_eq_true (show W = p.lines.length by omega)] at h1
      cases h1
    refine ⟨fun h => by simp [fewC] at h, fun _ => ?_⟩
    simp [vc_law09_ProofBest_k3, fewC, vc_law09_ProofBest_k1, prsD, hp, hd]
    exact known_call hk (by simp)
  | some x =>
    rw [hf] at h0 h1
    have h0 : decide (x.length = 0) = allP p := h0
    have h1 : decide (x.length = 1) = (!allP p && decide (W = p.lines.length)) := h1
    refine ⟨fun _ => ?_, fun h => by simp [fewC] at h⟩
    cases ha : allP p with
    | true =>
      rw [ha] at h0
      have hx : x = [] := List.length_eq_zero_iff.1 (of_decide_eq_true h0)
      subst hx
      simp [vc_law09_ProofBest_k2, vc_law09_ProofBest_k0, fewC, prsD]
      exact known_call hk (by simp)
    | false =>
      rw [ha] at h0 h1
      have hx0 : ¬ x.length = 0 := of_decide_eq_false h0
      have hxn : ¬ x = [] := fun e => hx0 (by rw [e]; rfl)
      by_cases hWl : W = p.lines.length
      · rw [decide_eq_true hWl] at h1
        have hx1 : x.length = 1 := of_decide_eq_true h1
        simp [vc_law09_ProofBest_k2, vc_law09_ProofBest_k0, fewC, prsD, hx1, hWl, hp]
        exact known_call hk (by simp)
      · rw [decide_eq_false hWl] at h1
        have hx1 : ¬ x.length = 1 := of_decide_eq_false h1
        have hx1' : ¬ ((x.length : Int) = 1) := by omega
        have hWl' : ¬ ((W : Int) = (p.lines.length : Int)) := by omega
        simp [vc_law09_ProofBest_k2, vc_law09_ProofBest_k0, fewC, prsD, hx1', hWl', hp, hxn]
        exact known_call hk (by simp)
set_option maxHeartbeats 16000000 in
theorem best_meets (hg : GOK g) (p : Pg) (one other : Int) (_ : -9223372036854775808 ≤ one ∧ one ≤ 9223372036854775807) (_ : -9223372036854775808 ≤ other ∧ other ≤ 9223372036854775807) : Meets (Tz g) f_law09_ProofBest [p.d, int one, int other] ⟨.d (.bool true), []⟩ := by
  have hk := known_meets hg
  refine meets_law09_ProofBest ?_
  unfold vc_law09_ProofBest
  simp [Pg.d, lns, ents]
  refine CALL.val [p.d] _ rfl (law09_right_meets p) (.inl rfl) ?_
  cases hr : rightB p with
  | false =>
    simp [vc_law09_ProofBest_k12]
    exact known_call hk (by simp)
  | true =>
    have hok : p.ok = true := by
      simp only [rightB, Bool.and_eq_true] at hr
      exact hr.2
    obtain ⟨a1, a2, a3, a4, a5, a6, a7⟩ := Pg.ok_len hok
    simp [vc_law09_ProofBest_k12]
    refine ⟨fun _ => known_call hk (by simp), fun hlog => ?_⟩
    refine CALL.val [p.d, int one, int other] _ rfl (ref09_Pair_meets p one other (by omega)) (.inl rfl) ?_
    cases hpr : pairB p one other with
    | false =>
      simp [vc_law09_ProofBest_k11]
      exact known_call hk (by simp)
    | true =>
      have hbo := bestX_ok hok
      obtain ⟨b1, b2⟩ := best_law hok (x := (one, other)) hpr
      have hend := best_end hk p hok (passN p [bestX p]) rfl
      have hF : Meets (Tz g) f_proof_Fewest [p.d] ⟨.tup [.d (prsD ((fewP p).getD [])), .d (int (fewC (fewP p)))], []⟩ := by
        have h := proof_Fewest_data (g := g) p hok
        cases hf : fewP p <;> (rw [hf] at h; exact h)
      have hB := proof_Best_data (g := g) p hok
      have hfv : fewC (fewP p) = 0 ∨ fewC (fewP p) = 5 := by cases fewP p <;> simp [fewC]
      have hok1 : (withE p (readE p (bestX p))).ok = true := withE_ok hok (readE_ok hok hbo) (by omega)
      have hok2 : (withE p (readE p (one, other))).ok = true := withE_ok hok (readE_ok hok (x := (one, other)) hpr) (by omega)
      have hWh1 := ref09_Whole_meets (g := g) p (bestX p) (by omega)
      have hWi1 := ref09_With_meets (g := g) p (readE p (bestX p)) (by omega)
      have hP1 := proof_Passes_data (g := g) _ hok1
      have hWh2 := ref09_Whole_meets (g := g) p (one, other) (by omega)
      have hWi2 := ref09_With_meets (g := g) p (readE p (one, other)) (by omega)
      have hP2 := proof_Passes_data (g := g) _ hok2
      have hn1 : (passP (withE p (readE p (bestX p)))).length = passN p [bestX p] := rfl
      have hn2 : (passP (withE p (readE p (one, other)))).length = passN p [(one, other)] := rfl
      have hlt : passN p [(one, other)] = passN p [bestX p] → ¬ (one < (bestX p).1) ∧ (one = (bestX p).1 → ¬ (other < (bestX p).2)) := fun h => by
        have := b2 h
        refine ⟨fun h1 => ?_, fun h1 h2 => ?_⟩
        · simp [ltB, h1] at this
        · simp [ltB, h1, h2] at this
      have hwl := passN_le p [bestX p]
      generalize passP (withE p (readE p (bestX p))) = L1 at *
      generalize passP (withE p (readE p (one, other))) = L2 at *
      generalize passN p [bestX p] = W at *
      generalize passN p [(one, other)] = V at *
      generalize withE p (readE p (bestX p)) = q1 at *
      generalize withE p (readE p (one, other)) = q2 at *
      simp [vc_law09_ProofBest_k11]
      refine CALL.mk [p.d] _ rfl hB (.inl rfl) (by simp) ?_
      simp [vc_law09_ProofBest_k10]
      refine CALL.mk [p.d] _ rfl (proof_Pass_data p hok) (.inl rfl) (by simp) ?_
      simp
      refine CALL.mk [p.d] _ rfl hF (.inl rfl) (by simp) ?_
      unfold vc_law09_ProofBest_k9
      simp
      have hneg : fewC (fewP p) = 5 → ¬ fewC (fewP p) = 0 := fun h => by rw [h]; omega
      have key : vc_law09_ProofBest_k8 (Tz g) [] (.d (.bool true)) [] (.d (.bool true)) [(24, some ⟨0, T_api_ProofPage, .box [.d (int p.people), .d (.list (p.lines.map Ln.d)), .d (.list (p.log.map Nt.d))]⟩)] (.ptr 24 0 0 0) (.d (int (bestX p).1)) (.d (int (bestX p).2)) (.d (int one)) (.d (int other)) (.d (int W)) (.d (int (fewC (fewP p)))) (.d (prsD ((fewP p).getD []))) (.d (.bool (allP p))) := by
        have hend := hend _ (lookH_one (b := some ⟨0, T_api_ProofPage, .box [.d (int p.people), .d (.list (p.lines.map Ln.d)), .d (.list (p.log.map Nt.d))]⟩))
        simp [vc_law09_ProofBest_k8]
        refine CALL.val [p.d, int (bestX p).1, int (bestX p).2] _ (by simp [Pg.d, lns, ents]) hWh1 (.inl rfl) ?_
        simp only [vc_law09_ProofBest_k7]
        refine CALL.val [p.d, (readE p (bestX p)).d] _ (by simp [Pg.d, lns, ents]) hWi1 (.inl rfl) ?_
        refine CALL.mk [q1.d] _ rfl hP1 (.inl rfl) (by simp) ?_
        simp [vc_law09_ProofBest_k6]
        refine ⟨rfl, ?_⟩
        refine CALL.val [p.d, int one, int other] _ (by simp [Pg.d, lns, ents]) hWh2 (.inl rfl) ?_
        simp only [vc_law09_ProofBest_k5]
        refine CALL.val [p.d, (readE p (one, other)).d] _ (by simp [Pg.d, lns, ents]) hWi2 (.inl rfl) ?_
        refine CALL.mk [q2.d] _ rfl hP2 (.inl rfl) (by simp) ?_
        have hVW : ¬ (W < V) := by omega
        have hVW' : ¬ ((W : Int) < (V : Int)) := by omega
        simp [vc_law09_ProofBest_k4, ints, hn1, hn2]
        refine ⟨rfl, by omega, fun _ => ⟨fun hVe => ?_, fun _ => ⟨fun h0 => hend.1 h0, fun h0 => hend.2 h0⟩⟩⟩
        obtain ⟨g1, g2⟩ := hlt (by omega)
        refine ⟨by omega, fun _ => ⟨fun he => ⟨by have := g2 he; omega, fun _ => ⟨fun h0 => hend.1 h0, fun h0 => hend.2 h0⟩⟩, fun _ => ⟨fun h0 => hend.1 h0, fun h0 => hend.2 h0⟩⟩⟩
      have hPair : ∀ new, CALL (Tz g) f_ref09_Pair [.d (.agg [int p.people, .list (p.lines.map Ln.d), .list (p.log.map Nt.d)]), .d (int (bestX p).1), .d (int (bestX p).2)] new [(24, some ⟨0, T_api_ProofPage, .box [.d (int p.people), .d (.list (p.lines.map Ln.d)), .d (.list (p.log.map Nt.d))]⟩)] (fun rd14 v15 h16 => vc_law09_ProofBest_k8 (Tz g) [] (.d (.bool true)) [] v15 h16 (.ptr 24 0 0 0) (.d (int (bestX p).1)) (.d (int (bestX p).2)) (.d (int one)) (.d (int other)) (.d (int W)) (.d (int (fewC (fewP p)))) (.d (prsD ((fewP p).getD []))) (.d (.bool (allP p)))) (fun _ _ _ => False) := fun new => by
        refine CALL.val [p.d, int (bestX p).1, int (bestX p).2] _ (by simp [Pg.d, lns, ents]) (ref09_Pair_meets p _ _ (by omega)) (.inl rfl) ?_
        rw [hbo]
        exact key
      refine ⟨fun h5 => ⟨hfv.resolve_left h5, fun _ => hPair _⟩, fun _ => hPair _⟩
end Go.Vc

namespace Go.Vc
open Go Go.RowKit Go.ChangeShapes Go.WideShapes Go.ChangeAt Go.Proofs Go.Proofs.YtjdgidaoknlnlaaGreatDoor
theorem best_calls {H : Type} {enc : TypeId × Value → H} (W : World) (base : Nat) (args : Array Value) (ds : List (DataW H)) (ps : List MemPlace) (hval : ∀ (j : Nat) t v, Tryz.f8.params[j]? = some t → args[j]? = some v → Value.okWide Tryz.prog W .any base t v)
    (hA : DataW.TrodAll enc Tryz.prog W 0 (fun _ => true) true Tryz.f8.params.toList args.toList ds ps) (hL : laidMetH Tryz.prog laidL W) (hsh : W.ShapedOpen Tryz.prog) : Calls Tryz.prog 8 args W fun e W' => e = .returned (.bool true) ∧ Below W.heap.size W W' := by
  rw [Tryz.params8] at hA hval
  obtain ⟨v0, v1, v2, d0, d1, d2, p0, p1, p2, rfl, rfl, rfl, h0, h1, h2⟩ := trodAll_three hA
  obtain ⟨x0, g0⟩ := open_page (hval 0 25 v0 rfl rfl) h0
  obtain ⟨x1, g1, b1⟩ := open_int' (hval 1 3 v1 rfl rfl) h1
  obtain ⟨x2, g2, b2⟩ := open_int' (hval 2 3 v2 rfl rfl) h2
  exact law_calls (C := Tz (gW W)) (best_meets (gok hL hsh) x0 x1 x2 b1 b2) rfl (Below.refl _ _) (us := [v0, v1, v2]) rfl (fun i d u hd hu => by
    match i, hd, hu with
    | 0, hd, hu => simp at hd hu; subst hd; subst hu; exact g0
    | 1, hd, hu => simp at hd hu; subst hd; subst hu; exact g1
    | 2, hd, hu => simp at hd hu; subst hd; subst hu; exact g2
    | i + 3, hd, hu => simp at hd)
theorem best_lifted (os : Os) (started : os.Started) (H : Type) (enc : TypeId × Value → H) :
    ReturnsInHanded {} Tryz.checked os 8 .any (fun w args => (Rows.proofBestSpec.pre enc Tryz.prog Tryz.f8 [] false w args ∧ laidMetH Tryz.prog laidL w) ∧ sizedMet enc Tryz.prog Tryz.f8 (OpenSpec.ofChange Rows.proofBestSpec) false w args)
      (Rows.proofBestSpec.post enc Tryz.prog Tryz.f8 false true false false) :=
  law_lifted (C := Tryz.checked) (tb := 4) (n := 3) started own (by kernel_rfl) Tryz.func8
    (ChangeSpec.witness_shaped (enc := enc) (C := Tryz.checked) (os := os) (X := fun w _ => laidMetH Tryz.prog laidL w) false (World.laidAll Tryz.prog os laidL) #[.agg #[.int .i64 0, .slice none 0 0, .slice none 0 0], .int .i64 0, .int .i64 0] 8 (World.laidAll_os _ _ _)
      (World.shaped_of_ZipB (by kernel_rfl) (by kernel_rfl)) (by kernel_rfl) (by kernel_rfl) (by kernel_rfl)
      (by rw [MakeChecks.laidMetH_plain _ _ _ (by kernel_rfl)]; exact laidMet_laidAll _ (by kernel_rfl) (by kernel_rfl)))
    laidOut (by kernel_rfl) (by kernel_rfl) Tryz.underlying4 rfl (by kernel_rfl) (fun ds hl => by
      match ds, hl with
      | [a, b, c], _ => rfl) best_calls
theorem best_holds : Rows.ProofBestSaid :=
  OpenClaim.holds_of_wide 8 Tryz.f8 rfl rfl rfl rfl rfl rfl rfl ⟨rfl, rfl, rfl, rfl, rfl⟩ rfl rfl rfl rfl rfl (by kernel_rfl) Tryz.func8 (by kernel_rfl)
    (of_decide_eq_true (by kernel_rfl)) (by unfold Func.isWrapper; first | (rw [if_pos (by decide +kernel)]; kernel_rfl) | (rw [if_neg (by decide +kernel)]; exact ⟨rfl, rfl⟩))
    (fun os started H enc _ => best_lifted os started H enc)
theorem best_card : Rows.ProofBestCardSaid :=
  Claim7.holds_tied_plain_at .later [] [.data, .data, .data, .data, .pinned] true (true, "495f881b3e202b99a64ff79fc2e3da44c1da7b54a021e43e5cad857e0faeda86") true best_holds (fun _ h => by cases h) (by kernel_rfl) (fun _ h => by cases h) proofBest_row_tie rfl ⟨rfl, rfl⟩ (by kernel_rfl) rfl
    (fun f fn hf hfn => by
      obtain rfl : f = 8 := Option.some.inj ((show Tryz.prog.funcNamed "ephemerist/ephemeristlaw09.ProofBest" = some 8 by kernel_rfl).symm.trans hf) |>.symm
      obtain rfl : fn = Tryz.f8 := (Option.some.inj (Tryz.func8.symm.trans hfn)).symm
      exact ⟨by kernel_rfl, fun j t ht => by
        rw [Tryz.params8] at ht
        have hm : t ∈ [25, 3, 3] := by simpa using Array.mem_of_getElem? ht
        have hall : ([25, 3, 3].all fun u => !Tryz.prog.wantsStandIn u) = true := by kernel_rfl
        exact (show Tryz.prog.wantsStandIn t = false by simpa using List.all_eq_true.1 hall t hm)⟩)
    (by kernel_rfl)
end Go.Vc

namespace Go.Proofs.YtjdgidaoknlnlaaGreatDoor
theorem law_ProofBestCardSaid : Rows.ProofBestCardSaid := Go.Vc.best_card
end Go.Proofs.YtjdgidaoknlnlaaGreatDoor
