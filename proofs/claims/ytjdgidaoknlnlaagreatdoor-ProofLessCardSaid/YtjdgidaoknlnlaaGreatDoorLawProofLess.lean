/- Proves that the statement ProofLessCardSaid holds of the given program: for every input the law returns true and leaves its arguments as they were; under the row's own conditions, that the listed tables are laid as the program's text has them. -/
import Derived.Test.YtjdgidaoknlnlaaGreatDoorVc23
import Derived.Test.YtjdgidaoknlnlaaGreatDoorVc11
import Derived.Test.YtjdgidaoknlnlaaGreatDoorVc51
import Derived.Test.YtjdgidaoknlnlaaGreatDoorVc26
import Derived.Test.YtjdgidaoknlnlaaGreatDoorVc30
set_option maxRecDepth 100000
namespace Go.Vc
open Go Go.Proofs Go.RowKit
def ann_law09_ProofLess : Nat → List Nat := fun n => match n with | 11 => [2, 3, 7, 9, 11] | 21 => [2, 3, 7, 12, 14] | _ => []
def vc_law09_ProofLess_k0 (P : Ctx) (pre : List ABlk) (r : AV) (post : List PB) (vs0 : List AV) (h1 : Heap) (v5 : AV) (next8 : List AV → Heap → Prop) : Prop :=
  CALL P f_ref01_Listed [(nth vs0 3), (nth vs0 4)] 952 h1 (fun _ v3 h4 =>
  BIN 999 .neq v5 v3 fun v6 =>
  COND v6
  (POST (.d (.bool false)) h4 pre r post)
  (BIN 0 .add (nth vs0 4) (.d (.num .i64 1)) fun v7 =>
  next8 [(nth vs0 0), (nth vs0 1), (nth vs0 2), (nth vs0 3), v7] h4))
  (fun _ _ _ => False)
def vc_law09_ProofLess_k1 (P : Ctx) (pre : List ABlk) (r : AV) (post : List PB) (vs0 : List AV) (h1 : Heap) (next10 : List AV → Heap → Prop) : Prop :=
  FADDR 1 (nth vs0 1) h1 fun v2 =>
  LOAD false 1 v2 h1 fun v3 =>
  LEN false v3 h1 fun v4 =>
  BIN 0 .lss (nth vs0 4) v4 fun v5 =>
  COND v5
  (BIN 0 .neq (nth vs0 4) (nth vs0 0) fun v6 =>
  CONDG v6
  (CALL P f_ref01_Listed [(nth vs0 2), (nth vs0 4)] 928 h1 (fun _ v8 h9 =>
  vc_law09_ProofLess_k0 P pre r post vs0 h9 v8 next10)
  (fun _ _ _ => False))
  (BIN 0 .add (nth vs0 4) (.d (.num .i64 1)) fun v11 =>
  next10 [(nth vs0 0), (nth vs0 1), (nth vs0 2), (nth vs0 3), v11] h1))
  (CALL P f_law09_known [] 880 h1 (fun _ v13 h14 =>
  POST v13 h14 pre r post)
  (fun _ _ _ => False))
def vc_law09_ProofLess_k2 (P : Ctx) (pre : List ABlk) (r : AV) (post : List PB) (v0 : AV) (h3 : Heap) (vs4 : List AV) (h5 : Heap) (rd6 : List Nat) (h7 : Heap) (rd8 : List Nat) (h9 : Heap) (rd10 : List Nat) : Prop :=
  EXT v0 0 fun v1 =>
  EXT v0 1 fun v2 =>
  ORDX [] [0, 0, 2, 7, 15, 31, 63, 63, 127, 511] [(0, wr h3 h3, (ids (nth vs4 1))), (2, wr h3 h5, rd6), (3, wr h5 h7, rd8), (4, wr h7 h9, rd10)] ∧
  BIN 0 .neq v2 (.d (.num .i64 0)) fun v11 =>
  CONDG v11
  (POST (.d (.bool false)) h9 pre r post)
  (LEN false v1 h9 fun v12 =>
  FADDR 1 (nth vs4 1) h9 fun v13 =>
  LOAD false 1 v13 h9 fun v14 =>
  LEN false v14 h9 fun v15 =>
  BIN 0 .gtr v12 v15 fun v16 =>
  CONDG v16
  (POST (.d (.bool false)) h9 pre r post)
  (CALL P f_ref01_Listed [v1, (nth vs4 0)] 808 h9 (fun _ v18 h19 =>
  COND v18
  (POST (.d (.bool false)) h19 pre r post)
  (LOOP [(nth vs4 0), (nth vs4 1), (nth vs4 2), v1, (.d (.num .i64 0))] h19 832 fun vs20 h21 next22 =>
  vc_law09_ProofLess_k1 P pre r post vs20 h21 next22))
  (fun _ _ _ => False)))
def vc_law09_ProofLess_k3 (P : Ctx) (pre : List ABlk) (r : AV) (post : List PB) (vs0 : List AV) (h1 : Heap) (next9 : List AV → Heap → Prop) : Prop :=
  IADDR 1 T_int (nth vs0 3) (nth vs0 4) h1 fun v2 =>
  LOAD false 1 v2 h1 fun v3 =>
  CALL P f_ref01_Listed [(nth vs0 2), v3] 632 h1 (fun _ v5 h6 =>
  NOT v5 fun v7 =>
  COND v7
  (POST (.d (.bool false)) h6 pre r post)
  (BIN 0 .add (nth vs0 4) (.d (.num .i64 1)) fun v8 =>
  next9 [(nth vs0 0), (nth vs0 1), (nth vs0 2), (nth vs0 3), v8] h6))
  (fun _ _ _ => False)
def vc_law09_ProofLess_k4 (P : Ctx) (pre : List ABlk) (r : AV) (post : List PB) (vs0 : List AV) (h1 : Heap) : Prop :=
  FADDR 2 (nth vs0 1) h1 fun v2 =>
  LOAD false 1 v2 h1 fun v3 =>
  LEN false v3 h1 fun v4 =>
  BIN 0 .geq v4 (.d (.num .i64 10)) fun v5 =>
  COND v5
  (CALL P f_law09_known [] 624 h1 (fun _ v7 h8 =>
  POST v7 h8 pre r post)
  (fun _ _ _ => False))
  (LOAD true 3 (nth vs0 1) h1 fun v9 =>
  CALL P f_law09_fall [(nth vs0 0)] 640 h1 (fun rd10 v11 h12 =>
  CALL P f_ref09_With [v9, v11] 648 h12 (fun rd13 v14 h15 =>
  CALL P f_proof_Passes [v14] 656 h15 (fun rd16 v17 h18 =>
  vc_law09_ProofLess_k2 P pre r post v17 h1 vs0 h12 rd10 h15 rd13 h18 rd16)
  (fun _ _ _ => False))
  (fun _ _ _ => False))
  (fun _ _ _ => False))
def vc_law09_ProofLess_k5 (P : Ctx) (pre : List ABlk) (r : AV) (post : List PB) (v0 : AV) (h4 : Heap) (v6 : AV) (a9 : AV) (v10 : AV) : Prop :=
  EXT v0 0 fun v1 =>
  EXT v0 1 fun v2 =>
  BIN 0 .neq v2 (.d (.num .i64 0)) fun v3 =>
  CONDG v3
  (POST (.d (.bool false)) h4 pre r post)
  (LEN false v1 h4 fun v5 =>
  LEN false v6 h4 fun v7 =>
  BIN 0 .gtr v5 v7 fun v8 =>
  COND v8
  (POST (.d (.bool false)) h4 pre r post)
  (LOOP [a9, v10, v6, v1, (.d (.num .i64 0))] h4 552 fun vs11 h12 next13 =>
  LEN false (nth vs11 3) h12 fun v14 =>
  BIN 0 .lss (nth vs11 4) v14 fun v15 =>
  COND v15
  (vc_law09_ProofLess_k3 P pre r post vs11 h12 next13)
  (vc_law09_ProofLess_k4 P pre r post vs11 h12)))
def vc_law09_ProofLess_k6 (P : Ctx) (pre : List ABlk) (r : AV) (post : List PB) (vs0 : List AV) (h1 : Heap) (v5 : AV) (next8 : List AV → Heap → Prop) : Prop :=
  CALL P f_ref01_Listed [(nth vs0 3), (nth vs0 4)] 752 h1 (fun _ v3 h4 =>
  BIN 999 .neq v5 v3 fun v6 =>
  COND v6
  (POST (.d (.bool false)) h4 pre r post)
  (BIN 0 .add (nth vs0 4) (.d (.num .i64 1)) fun v7 =>
  next8 [(nth vs0 0), (nth vs0 1), (nth vs0 2), (nth vs0 3), v7] h4))
  (fun _ _ _ => False)
def vc_law09_ProofLess_k7 (P : Ctx) (pre : List ABlk) (r : AV) (post : List PB) (vs0 : List AV) (h1 : Heap) (next10 : List AV → Heap → Prop) : Prop :=
  FADDR 1 (nth vs0 1) h1 fun v2 =>
  LOAD false 1 v2 h1 fun v3 =>
  LEN false v3 h1 fun v4 =>
  BIN 0 .lss (nth vs0 4) v4 fun v5 =>
  COND v5
  (BIN 0 .neq (nth vs0 4) (nth vs0 0) fun v6 =>
  CONDG v6
  (CALL P f_ref01_Listed [(nth vs0 2), (nth vs0 4)] 728 h1 (fun _ v8 h9 =>
  vc_law09_ProofLess_k6 P pre r post vs0 h9 v8 next10)
  (fun _ _ _ => False))
  (BIN 0 .add (nth vs0 4) (.d (.num .i64 1)) fun v11 =>
  next10 [(nth vs0 0), (nth vs0 1), (nth vs0 2), (nth vs0 3), v11] h1))
  (CALL P f_law09_known [] 680 h1 (fun _ v13 h14 =>
  POST v13 h14 pre r post)
  (fun _ _ _ => False))
def vc_law09_ProofLess_k8 (P : Ctx) (pre : List ABlk) (r : AV) (post : List PB) (v0 : AV) (h3 : Heap) (v4 : AV) (h5 : Heap) (rd6 : List Nat) (h7 : Heap) (rd8 : List Nat) (h9 : Heap) (rd10 : List Nat) (a17 : AV) (v21 : AV) : Prop :=
  EXT v0 0 fun v1 =>
  EXT v0 1 fun v2 =>
  ORDX [] [0, 0, 2, 7, 15, 31, 63, 63, 127, 511] [(0, wr h3 h3, (ids v4)), (2, wr h3 h5, rd6), (3, wr h5 h7, rd8), (4, wr h7 h9, rd10)] ∧
  BIN 0 .neq v2 (.d (.num .i64 0)) fun v11 =>
  CONDG v11
  (POST (.d (.bool false)) h9 pre r post)
  (LEN false v1 h9 fun v12 =>
  FADDR 1 v4 h9 fun v13 =>
  LOAD false 1 v13 h9 fun v14 =>
  LEN false v14 h9 fun v15 =>
  BIN 0 .gtr v12 v15 fun v16 =>
  CONDG v16
  (POST (.d (.bool false)) h9 pre r post)
  (CALL P f_ref01_Listed [v1, a17] 608 h9 (fun _ v19 h20 =>
  COND v19
  (POST (.d (.bool false)) h20 pre r post)
  (LOOP [a17, v4, v21, v1, (.d (.num .i64 0))] h20 632 fun vs22 h23 next24 =>
  vc_law09_ProofLess_k7 P pre r post vs22 h23 next24))
  (fun _ _ _ => False)))
def vc_law09_ProofLess_k9 (P : Ctx) (pre : List ABlk) (r : AV) (post : List PB) (v0 : AV) (h1 : Heap) (a3 : AV) (v12 : AV) (a13 : AV) : Prop :=
  LOAD true 3 v0 h1 fun v2 =>
  MKS T_int 1 [a3] 408 h1 fun v4 h5 =>
  CALL P f_ref09_Without [v2, v4] 416 h5 (fun _ v7 h8 =>
  CALL P f_proof_Passes [v7] 424 h8 (fun _ v10 h11 =>
  vc_law09_ProofLess_k5 P pre r post v10 h11 v12 a13 v0)
  (fun _ _ _ => False))
  (fun _ _ _ => False)
def vc_law09_ProofLess_k10 (P : Ctx) (pre : List ABlk) (r : AV) (post : List PB) (v0 : AV) (h1 : Heap) (a10 : AV) (v20 : AV) : Prop :=
  FADDR 2 v0 h1 fun v2 =>
  LOAD false 1 v2 h1 fun v3 =>
  LEN false v3 h1 fun v4 =>
  BIN 0 .geq v4 (.d (.num .i64 10)) fun v5 =>
  COND v5
  (CALL P f_law09_known [] 424 h1 (fun _ v7 h8 =>
  POST v7 h8 pre r post)
  (fun _ _ _ => False))
  (LOAD true 3 v0 h1 fun v9 =>
  CALL P f_law09_fall [a10] 440 h1 (fun rd11 v12 h13 =>
  CALL P f_ref09_With [v9, v12] 448 h13 (fun rd14 v15 h16 =>
  CALL P f_proof_Passes [v15] 456 h16 (fun rd17 v18 h19 =>
  vc_law09_ProofLess_k8 P pre r post v18 h1 v0 h13 rd11 h16 rd14 h19 rd17 a10 v20)
  (fun _ _ _ => False))
  (fun _ _ _ => False))
  (fun _ _ _ => False))
def vc_law09_ProofLess_k11 (P : Ctx) (pre : List ABlk) (r : AV) (post : List PB) (v0 : AV) (h4 : Heap) (v6 : AV) (a13 : AV) (a18 : AV) : Prop :=
  EXT v0 0 fun v1 =>
  EXT v0 1 fun v2 =>
  BIN 0 .neq v2 (.d (.num .i64 0)) fun v3 =>
  CONDG v3
  (POST (.d (.bool false)) h4 pre r post)
  (LEN false v1 h4 fun v5 =>
  FADDR 1 v6 h4 fun v7 =>
  LOAD false 1 v7 h4 fun v8 =>
  LEN false v8 h4 fun v9 =>
  BIN 0 .gtr v5 v9 fun v10 =>
  COND v10
  (POST (.d (.bool false)) h4 pre r post)
  (FADDR 2 v6 h4 fun v11 =>
  LOAD false 1 v11 h4 fun v12 =>
  IADDR 2 T_api_ProofEntry v12 a13 h4 fun v14 =>
  FADDR 0 v14 h4 fun v15 =>
  LOAD false 1 v15 h4 fun v16 =>
  BIN 0 .eql v16 (.d (.num .i64 1)) fun v17 =>
  COND v17
  (vc_law09_ProofLess_k9 P pre r post v6 h4 a13 v1 a18)
  (vc_law09_ProofLess_k10 P pre r post v6 h4 a18 v1)))
def vc_law09_ProofLess_k12 (P : Ctx) (pre : List ABlk) (r : AV) (post : List PB) (v0 : AV) (h2 : Heap) (v6 : AV) (a11 : AV) (a12 : AV) : Prop :=
  NOT v0 fun v1 =>
  COND v1
  (CALL P f_law09_known [] 200 h2 (fun _ v4 h5 =>
  POST v4 h5 pre r post)
  (fun _ _ _ => False))
  (LOAD true 3 v6 h2 fun v7 =>
  CALL P f_proof_Passes [v7] 208 h2 (fun _ v9 h10 =>
  vc_law09_ProofLess_k11 P pre r post v9 h10 v6 a11 a12)
  (fun _ _ _ => False))
def vc_law09_ProofLess_k13 (P : Ctx) (pre : List ABlk) (r : AV) (post : List PB) (v0 : AV) (h2 : Heap) (a6 : AV) (v10 : AV) (a18 : AV) : Prop :=
  NOT v0 fun v1 =>
  CONDG v1
  (CALL P f_law09_known [] 200 h2 (fun _ v4 h5 =>
  POST v4 h5 pre r post)
  (fun _ _ _ => False))
  (BIN 0 .lss a6 (.d (.num .i64 0)) fun v7 =>
  CONDG v7
  (CALL P f_law09_known [] 200 h2 (fun _ v4 h9 =>
  POST v4 h9 pre r post)
  (fun _ _ _ => False))
  (FADDR 2 v10 h2 fun v11 =>
  LOAD false 1 v11 h2 fun v12 =>
  LEN false v12 h2 fun v13 =>
  BIN 0 .geq a6 v13 fun v14 =>
  CONDG v14
  (CALL P f_law09_known [] 200 h2 (fun _ v4 h16 =>
  POST v4 h16 pre r post)
  (fun _ _ _ => False))
  (LOAD true 3 v10 h2 fun v17 =>
  CALL P f_ref09_Line [v17, a18] 176 h2 (fun _ v20 h21 =>
  vc_law09_ProofLess_k12 P pre r post v20 h21 v10 a6 a18)
  (fun _ _ _ => False))))
def vc_law09_ProofLess (P : Ctx) (pre : List ABlk) (a0 a1 a2 : AV) (r : AV) (post : List PB) : Prop :=
  let h0 : Heap := numbered 0 pre
  BOX T_api_ProofPage a0 24 h0 fun v3 h1 =>
  LOAD true 3 v3 h1 fun v15 =>
  CALL P f_law09_right [v15] 48 h1 (fun _ v16 h2 =>
  vc_law09_ProofLess_k13 P pre r post v16 h2 a1 v3 a2)
  (fun _ _ _ => False)
theorem vc_law09_ProofLess_eq (g : GG) (pre : List ABlk) (a0 a1 a2 : AV) (r : AV) (post : List PB) : vcFn2 (Tz g) false ann_law09_ProofLess Tryz.f10 pre [a0, a1, a2] (.ret r) post = vc_law09_ProofLess (Tz g) pre a0 a1 a2 r post := by kernel_rfl
theorem hf_law09_ProofLess : Tryz.prog.funcs[f_law09_ProofLess]? = some Tryz.f10 := by kernel_rfl
theorem ok_law09_ProofLess : fnVcOK Tryz.prog Tryz.f10 = true := by kernel_rfl
theorem nt_law09_ProofLess : Nat.ble 3 Tryz.f10.ntmps = true := by kernel_rfl
theorem meetsH_law09_ProofLess {g : GG} {pre : List ABlk} {a0 a1 a2 : AV} {r : AV} {post : List PB} (hk : Nat.ble pre.length 24 = true) (h : vc_law09_ProofLess (Tz g) pre a0 a1 a2 r post) : MeetsH (Tz g) f_law09_ProofLess pre [a0, a1, a2] (.ret r) post :=
  meetsH_of_vc (C := Tz g) ann_law09_ProofLess hf_law09_ProofLess ok_law09_ProofLess nt_law09_ProofLess hk (pn := false) (Eq.mpr ((vcFn2_eq _ _ _ _ _ _ _ _).trans (vc_law09_ProofLess_eq g pre a0 a1 a2 r post)) h)
theorem meets_law09_ProofLess {g : GG} {a0 a1 a2 : D} {r : Res} (h : vc_law09_ProofLess (Tz g) [] (.d a0) (.d a1) (.d a2) r.val (r.bl.map .upd)) : Meets (Tz g) f_law09_ProofLess [a0, a1, a2] r := meetsH_law09_ProofLess rfl h
end Go.Vc

namespace Go.Vc
open Go Go.Proofs
variable {g : GG}
attribute [local simp] and_assoc
def pgCl (p : Pg) : Option ABlk := some ⟨0, T_api_ProofPage, .box [.d (int p.people), .d (.list (p.lines.map Ln.d)), .d (.list (p.log.map Nt.d))]⟩
theorem kind_rd' {p : Pg} {e : Nt} (he : entB p e = true) : e.kind = 1 ↔ isRd e = true := by
  rcases entB_cases he with ⟨a, rfl, ha⟩ | ⟨a, b, c, rfl, ha, hb, hc⟩ | ⟨a, b, c, n, rfl, ha, hb, hab, hcn, hn⟩
  · simp [isRd]
  · simp [isRd]
  · simp [isRd]
theorem mem_passP {p : Pg} {j : Nat} (hj : j < p.lines.length) : decide ((j : Int) ∈ passP p) = passB p (stN p p.log.length) j := by
  have := in_fltL (f := passB p (stN p p.log.length)) (m := p.lines.length) (k := j)
  unfold passP passL
  cases hd : passB p (stN p p.log.length) j with
  | true => exact decide_eq_true (this.2 ⟨hj, hd⟩)
  | false => exact decide_eq_false (fun h => by rw [hd] at this; exact absurd (this.1 h).2 (by simp))
theorem less_k7 (hk : MeetsH (Tz g) f_law09_known [] [] (.ret (.d (.bool true))) []) (p : Pg) (a3 : 1 ≤ p.lines.length) (a4 : p.lines.length ≤ 6) (k : Nat) (l m : List Int) (h : Heap) (hp : lookH h 24 = pgCl p) (hl : l.length ≤ 6) (hm : m.length ≤ 6)
    (hmem : ∀ j : Nat, j < p.lines.length → decide ((j : Int) ∈ m) = (!decide (j = k) && decide ((j : Int) ∈ l))) :
    LOOP [.d (int k), .ptr 24 0 0 0, .d (ints l), .d (ints m), .d (int 0)] h 632 fun vs22 h23 next24 => vc_law09_ProofLess_k7 (Tz g) [] (.d (.bool true)) [] vs22 h23 next24 := by
  refine LOOP.mk Nat (fun j => [.d (int k), .ptr 24 0 0 0, .d (ints l), .d (ints m), .d (int j)]) (fun _ => [(24, pgCl p)]) (fun j => j ≤ p.lines.length) (fun j => p.lines.length - j) [] (by simp) 0 (by omega) (by simp [WEAK, hp, ints]) (fun _ _ => rfl) ?_
  intro j hj
  have hw := wrap_id (n := (j : Int) + 1) (by omega) (by omega)
  simp [vc_law09_ProofLess_k7, lookH, pgCl]
  refine ⟨fun hlt => ⟨fun hne => ?_, fun heq => ?_⟩, fun hge => known_call hk (by simp)⟩
  · refine CALL.val [ints l, int j] _ rfl (ref01_Listed_meets _ _ (by omega)) (.inl rfl) ?_
    simp only [vc_law09_ProofLess_k6]
    refine CALL.val [ints m, int j] _ rfl (ref01_Listed_meets _ _ (by omega)) (.inl rfl) ?_
    rw [hmem j hlt, decide_eq_false (show ¬ j = k by omega)]
    simp [hw]
    exact ⟨j + 1, by omega, by simp [WEAK, lookH], by omega⟩
  · simp [hw]
    exact ⟨j + 1, by omega, by simp [WEAK, lookH], by omega⟩
theorem less_k1 (hk : MeetsH (Tz g) f_law09_known [] [] (.ret (.d (.bool true))) []) (p : Pg) (a3 : 1 ≤ p.lines.length) (a4 : p.lines.length ≤ 6) (k : Nat) (l m : List Int) (h : Heap) (hp : lookH h 24 = pgCl p) (hl : l.length ≤ 6) (hm : m.length ≤ 6)
    (hmem : ∀ j : Nat, j < p.lines.length → decide ((j : Int) ∈ m) = (!decide (j = k) && decide ((j : Int) ∈ l))) :
    LOOP [.d (int k), .ptr 24 0 0 0, .d (ints l), .d (ints m), .d (int 0)] h 832 fun vs22 h23 next24 => vc_law09_ProofLess_k1 (Tz g) [] (.d (.bool true)) [] vs22 h23 next24 := by
  refine LOOP.mk Nat (fun j => [.d (int k), .ptr 24 0 0 0, .d (ints l), .d (ints m), .d (int j)]) (fun _ => [(24, pgCl p)]) (fun j => j ≤ p.lines.length) (fun j => p.lines.length - j) [] (by simp) 0 (by omega) (by simp [WEAK, hp, ints]) (fun _ _ => rfl) ?_
  intro j hj
  have hw := wrap_id (n := (j : Int) + 1) (by omega) (by omega)
  simp [vc_law09_ProofLess_k1, lookH, pgCl]
  refine ⟨fun hlt => ⟨fun hne => ?_, fun heq => ?_⟩, fun hge => known_call hk (by simp)⟩
  · refine CALL.val [ints l, int j] _ rfl (ref01_Listed_meets _ _ (by omega)) (.inl rfl) ?_
    simp only [vc_law09_ProofLess_k0]
    refine CALL.val [ints m, int j] _ rfl (ref01_Listed_meets _ _ (by omega)) (.inl rfl) ?_
    rw [hmem j hlt, decide_eq_false (show ¬ j = k by omega)]
    simp [hw]
    exact ⟨j + 1, by omega, by simp [WEAK, lookH], by omega⟩
  · simp [hw]
    exact ⟨j + 1, by omega, by simp [WEAK, lookH], by omega⟩
set_option maxHeartbeats 8000000 in
theorem less_meets (hg : GOK g) (p : Pg) (entry line : Int) (_ : -9223372036854775808 ≤ entry ∧ entry ≤ 9223372036854775807) (_ : -9223372036854775808 ≤ line ∧ line ≤ 9223372036854775807) : Meets (Tz g) f_law09_ProofLess [p.d, int entry, int line] ⟨.d (.bool true), []⟩ := by
  have hk := known_meets hg
  refine meets_law09_ProofLess ?_
  unfold vc_law09_ProofLess
  simp [Pg.d, lns, ents]
  refine CALL.val [p.d] _ rfl (law09_right_meets p) (.inl rfl) ?_
  cases hr : rightB p with
  | false =>
    simp [vc_law09_ProofLess_k13]
    exact known_call hk (by simp)
  | true =>
    have hok : p.ok = true := by
      simp only [rightB, Bool.and_eq_true] at hr
      exact hr.2
    obtain ⟨a1, a2, a3, a4, a5, a6, a7⟩ := Pg.ok_len hok
    simp [vc_law09_ProofLess_k13]
    refine ⟨fun _ => known_call hk (by simp), fun he0 => ⟨fun _ => known_call hk (by simp), fun he1 => ?_⟩⟩
    obtain ⟨i, rfl⟩ : ∃ i : Nat, entry = i := ⟨entry.toNat, by omega⟩
    have hil : i < p.log.length := by omega
    refine CALL.val [p.d, int line] _ rfl (ref09_Line_meets p line (by omega)) (.inl rfl) ?_
    cases hl : lineB p line with
    | false =>
      simp [vc_law09_ProofLess_k12]
      exact known_call hk (by simp)
    | true =>
      obtain ⟨k, rfl, hk2⟩ := inB_nat hl
      have hkl : k < p.lines.length := by omega
      obtain ⟨e, hge⟩ : ∃ e, p.log[i]? = some e := ⟨_, List.getElem?_eq_getElem hil⟩
      have hee := a7 e (List.mem_of_getElem? hge)
      have hpl := passP_len p
      have hent : entB p ⟨3, [(k : Int)]⟩ = true := by simp [entB, hl]
      have hmem : ∀ j : Nat, j < p.lines.length → decide ((j : Int) ∈ passP (withE p ⟨3, [(k : Int)]⟩)) = (!decide (j = k) && decide ((j : Int) ∈ passP p)) := fun j hj => by
        rw [mem_passP hj, mem_passP (p := withE p ⟨3, [(k : Int)]⟩) hj, fall_law hok hkl hj]
      have hW := ref09_With_meets (g := g) p ⟨3, [(k : Int)]⟩ (by omega)
      have hwok : p.log.length < 10 → (withE p ⟨3, [(k : Int)]⟩).ok = true := fun h => withE_ok hok hent h
      have hpl2 : (passP (withE p ⟨3, [(k : Int)]⟩)).length ≤ p.lines.length := passP_len _
      have hPW := fun h => proof_Passes_data (g := g) _ (hwok h)
      have hnk : decide ((k : Int) ∈ passP (withE p ⟨3, [(k : Int)]⟩)) = false := by rw [hmem k hkl]; simp
      generalize passP (withE p ⟨3, [(k : Int)]⟩) = M at *
      simp [vc_law09_ProofLess_k12]
      refine CALL.mk [p.d] _ rfl (proof_Passes_data p hok) (.inl rfl) (by simp) ?_
      simp [vc_law09_ProofLess_k11, ints, hge, Nt.d]
      refine ⟨hpl, fun _ => ⟨fun hk1 => ?_, fun hk1 => ?_⟩⟩
      · obtain ⟨q1, q2⟩ := less_law hok hge ((kind_rd' hee).1 hk1)
        have hWo := ref09_Without_meets (g := g) p [(i : Int)] (by omega) (by simp)
        have hsub : ∀ j : Nat, (j : Int) ∈ passP (logE p (dropI [(i : Int)] p.log 0)) → (j : Int) ∈ passP p := fun j hj => by
          have h1 := in_fltL.1 hj
          exact in_fltL.2 ⟨h1.1, q2 j h1.1 h1.2⟩
        have hle : (passP (logE p (dropI [(i : Int)] p.log 0))).length ≤ (passP p).length := fltL_le (fun j hj h => q2 j hj h)
        have hget : ∀ (t : Nat) x, (passP (logE p (dropI [(i : Int)] p.log 0)))[t]? = some x → ∃ n : Nat, x = n := fun t x h => by
          obtain ⟨n, h1, _⟩ := fltL_get h
          exact ⟨n, h1⟩
        have hPo := proof_Passes_data (g := g) _ q1
        generalize passP (logE p (dropI [(i : Int)] p.log 0)) = R at *
        simp [vc_law09_ProofLess_k9]
        refine CALL.data [p.d, ints [(i : Int)]] _ (by simp [Pg.d, lns, ents, ints]) hWo ?_
        refine CALL.mk [(logE p (dropI [(i : Int)] p.log 0)).d] _ rfl hPo (.inl rfl) (by simp) ?_
        simp [vc_law09_ProofLess_k5, ints]
        refine ⟨by omega, fun _ => ?_⟩
        refine LOOP.mk Nat (fun t => [.d (int k), .ptr 24 0 0 0, .d (ints (passP p)), .d (ints R), .d (int t)]) (fun _ => [(24, pgCl p)]) (fun t => t ≤ R.length) (fun t => R.length - t) [] (by simp) 0 (by omega) (by simp [WEAK, lookH, ints, pgCl]) (fun _ _ => rfl) ?_
        intro t ht
        have hw := wrap_id (n := (t : Int) + 1) (by omega) (by omega)
        simp [ints]
        refine ⟨fun hlt => ?_, fun hge2 => ?_⟩
        · obtain ⟨x, hgx⟩ : ∃ x, R[t]? = some x := ⟨_, List.getElem?_eq_getElem hlt⟩
          obtain ⟨n, rfl⟩ := hget t x hgx
          have hmn := hsub n (List.mem_of_getElem? hgx)
          simp [vc_law09_ProofLess_k3, hgx]
          refine CALL.val [ints (passP p), int n] _ rfl (ref01_Listed_meets _ _ (by omega)) (.inl rfl) ?_
          rw [decide_eq_true hmn]
          simp [hw]
          exact ⟨t + 1, by omega, by simp [WEAK, lookH], by omega⟩
        · simp [vc_law09_ProofLess_k4, lookH, pgCl]
          refine ⟨fun _ => known_call hk (by simp), fun hlog => ?_⟩
          refine CALL.val [int k] _ rfl (law09_fall_meets _) (.inl rfl) ?_
          refine CALL.val [p.d, (⟨3, [(k : Int)]⟩ : Nt).d] _ (by simp [Nt.d, ints, Pg.d, lns, ents]) hW (.inl rfl) ?_
          refine CALL.mk [(withE p ⟨3, [(k : Int)]⟩).d] _ rfl (hPW (by omega)) (.inl rfl) (by simp) ?_
          simp [vc_law09_ProofLess_k2, ints]
          refine ⟨rfl, by omega, fun _ => ?_⟩
          refine CALL.val [ints M, int k] _ rfl (ref01_Listed_meets _ _ (by omega)) (.inl rfl) ?_
          rw [hnk]
          simp
          exact less_k1 hk p a3 a4 k _ _ _ (by simp [lookH, pgCl]) (by omega) (by omega) hmem
      · simp [vc_law09_ProofLess_k10]
        refine ⟨fun _ => known_call hk (by simp), fun hlog => ?_⟩
        refine CALL.val [int k] _ rfl (law09_fall_meets _) (.inl rfl) ?_
        refine CALL.val [p.d, (⟨3, [(k : Int)]⟩ : Nt).d] _ (by simp [Nt.d, ints, Pg.d, lns, ents]) hW (.inl rfl) ?_
        refine CALL.mk [(withE p ⟨3, [(k : Int)]⟩).d] _ rfl (hPW (by omega)) (.inl rfl) (by simp) ?_
        simp [vc_law09_ProofLess_k8, ints]
        refine ⟨rfl, by omega, fun _ => ?_⟩
        refine CALL.val [ints M, int k] _ rfl (ref01_Listed_meets _ _ (by omega)) (.inl rfl) ?_
        rw [hnk]
        simp
        exact less_k7 hk p a3 a4 k _ _ _ (by simp [lookH, pgCl]) (by omega) (by omega) hmem
end Go.Vc

namespace Go.Vc
open Go Go.RowKit Go.ChangeShapes Go.WideShapes Go.ChangeAt Go.Proofs Go.Proofs.YtjdgidaoknlnlaaGreatDoor
theorem less_calls {H : Type} {enc : TypeId × Value → H} (W : World) (base : Nat) (args : Array Value) (ds : List (DataW H)) (ps : List MemPlace) (hval : ∀ (j : Nat) t v, Tryz.f10.params[j]? = some t → args[j]? = some v → Value.okWide Tryz.prog W .any base t v)
    (hA : DataW.TrodAll enc Tryz.prog W 0 (fun _ => true) true Tryz.f10.params.toList args.toList ds ps) (hL : laidMetH Tryz.prog laidL W) (hsh : W.ShapedOpen Tryz.prog) : Calls Tryz.prog 10 args W fun e W' => e = .returned (.bool true) ∧ Below W.heap.size W W' := by
  rw [Tryz.params10] at hA hval
  obtain ⟨v0, v1, v2, d0, d1, d2, p0, p1, p2, rfl, rfl, rfl, h0, h1, h2⟩ := trodAll_three hA
  obtain ⟨x0, g0⟩ := open_page (hval 0 25 v0 rfl rfl) h0
  obtain ⟨x1, g1, b1⟩ := open_int' (hval 1 3 v1 rfl rfl) h1
  obtain ⟨x2, g2, b2⟩ := open_int' (hval 2 3 v2 rfl rfl) h2
  exact law_calls (C := Tz (gW W)) (less_meets (gok hL hsh) x0 x1 x2 b1 b2) rfl (Below.refl _ _) (us := [v0, v1, v2]) rfl (fun i d u hd hu => by
    match i, hd, hu with
    | 0, hd, hu => simp at hd hu; subst hd; subst hu; exact g0
    | 1, hd, hu => simp at hd hu; subst hd; subst hu; exact g1
    | 2, hd, hu => simp at hd hu; subst hd; subst hu; exact g2
    | i + 3, hd, hu => simp at hd)
theorem less_lifted (os : Os) (started : os.Started) (H : Type) (enc : TypeId × Value → H) :
    ReturnsInHanded {} Tryz.checked os 10 .any (fun w args => (Rows.proofLessSpec.pre enc Tryz.prog Tryz.f10 [] false w args ∧ laidMetH Tryz.prog laidL w) ∧ sizedMet enc Tryz.prog Tryz.f10 (OpenSpec.ofChange Rows.proofLessSpec) false w args)
      (Rows.proofLessSpec.post enc Tryz.prog Tryz.f10 false true false false) :=
  law_lifted (C := Tryz.checked) (tb := 4) (n := 3) started own (by kernel_rfl) Tryz.func10
    (ChangeSpec.witness_shaped (enc := enc) (C := Tryz.checked) (os := os) (X := fun w _ => laidMetH Tryz.prog laidL w) false (World.laidAll Tryz.prog os laidL) #[.agg #[.int .i64 0, .slice none 0 0, .slice none 0 0], .int .i64 0, .int .i64 0] 8 (World.laidAll_os _ _ _)
      (World.shaped_of_ZipB (by kernel_rfl) (by kernel_rfl)) (by kernel_rfl) (by kernel_rfl) (by kernel_rfl)
      (by rw [MakeChecks.laidMetH_plain _ _ _ (by kernel_rfl)]; exact laidMet_laidAll _ (by kernel_rfl) (by kernel_rfl)))
    laidOut (by kernel_rfl) (by kernel_rfl) Tryz.underlying4 rfl (by kernel_rfl) (fun ds hl => by
      match ds, hl with
      | [a, b, c], _ => rfl) less_calls
theorem less_holds : Rows.ProofLessSaid :=
  OpenClaim.holds_of_wide 10 Tryz.f10 rfl rfl rfl rfl rfl rfl rfl ⟨rfl, rfl, rfl, rfl, rfl⟩ rfl rfl rfl rfl rfl (by kernel_rfl) Tryz.func10 (by kernel_rfl)
    (of_decide_eq_true (by kernel_rfl)) (by unfold Func.isWrapper; first | (rw [if_pos (by decide +kernel)]; kernel_rfl) | (rw [if_neg (by decide +kernel)]; exact ⟨rfl, rfl⟩))
    (fun os started H enc _ => less_lifted os started H enc)
theorem less_card : Rows.ProofLessCardSaid :=
  Claim7.holds_tied_plain_at .later [] [.data, .data, .data, .data, .pinned] true (true, "495f881b3e202b99a64ff79fc2e3da44c1da7b54a021e43e5cad857e0faeda86") true less_holds (fun _ h => by cases h) (by kernel_rfl) (fun _ h => by cases h) proofLess_row_tie rfl ⟨rfl, rfl⟩ (by kernel_rfl) rfl
    (fun f fn hf hfn => by
      obtain rfl : f = 10 := Option.some.inj ((show Tryz.prog.funcNamed "ephemerist/ephemeristlaw09.ProofLess" = some 10 by kernel_rfl).symm.trans hf) |>.symm
      obtain rfl : fn = Tryz.f10 := (Option.some.inj (Tryz.func10.symm.trans hfn)).symm
      exact ⟨by kernel_rfl, fun j t ht => by
        rw [Tryz.params10] at ht
        have hm : t ∈ [25, 3, 3] := by simpa using Array.mem_of_getElem? ht
        have hall : ([25, 3, 3].all fun u => !Tryz.prog.wantsStandIn u) = true := by kernel_rfl
        exact (show Tryz.prog.wantsStandIn t = false by simpa using List.all_eq_true.1 hall t hm)⟩)
    (by kernel_rfl)
end Go.Vc

namespace Go.Proofs.YtjdgidaoknlnlaaGreatDoor
theorem law_ProofLessCardSaid : Rows.ProofLessCardSaid := Go.Vc.less_card
end Go.Proofs.YtjdgidaoknlnlaaGreatDoor
