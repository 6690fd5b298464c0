/- Proves that the statement ProofReadsCardSaid holds of the given program: for every input the law returns true and leaves its arguments as they were; under the row's own conditions, that the listed tables are laid as the program's text has them. -/
import Derived.Test.YtjdgidaoknlnlaaGreatDoorVc30
import Derived.Test.YtjdgidaoknlnlaaGreatDoorVc32
import Derived.Test.YtjdgidaoknlnlaaGreatDoorVc23
import Derived.Test.YtjdgidaoknlnlaaGreatDoorVc11
import Derived.Test.YtjdgidaoknlnlaaGreatDoorVc59
import Derived.Test.YtjdgidaoknlnlaaGreatDoorVc26
set_option maxRecDepth 100000
namespace Go.Vc
open Go Go.RowKit Go.ChangeShapes Go.WideShapes Go.ChangeAt Go.Proofs
theorem sh_pair {k : Nat} {ds : List D} (h : Sh Tryz.prog (k + 2) 76 ds) : ∃ s : Int × Int, .agg ds = missD s := by
  unfold Sh at h
  rw [Tryz.underlying76] at h
  obtain ⟨d1, _, rfl, h1, d2, _, rfl, h2, rfl⟩ := h
  obtain ⟨a, rfl, _⟩ := sh_int h1
  obtain ⟨b, rfl, _⟩ := sh_int h2
  exact ⟨(a, b), rfl⟩
theorem open_pair {W : World} {H : Type} {enc : TypeId × Value → H} {base : Nat} {v : Value} {d : DataW H} {ps : List MemPlace} (hval : Value.okWide Tryz.prog W .any base 76 v) (h : DataW.Trod enc Tryz.prog W 0 (fun _ => true) true 76 v d ps) : ∃ s : Int × Int, DRel W (fun b => b < W.heap.size) (missD s) v := by
  obtain ⟨ds, h1, h2⟩ := rd_value (k := 6) (by kernel_rfl) hval h
  obtain ⟨s, hs⟩ := sh_pair (k := 4) h1
  have ha : isAg Tryz.prog 76 = true := by kernel_rfl
  rw [ha] at h2
  exact ⟨s, by rw [← hs]; exact h2⟩
theorem open_text {W : World} {H : Type} {enc : TypeId × Value → H} {base : Nat} {v : Value} {d : DataW H} {ps : List MemPlace} (hval : Value.okWide Tryz.prog W .any base 9 v) (h : DataW.Trod enc Tryz.prog W 0 (fun _ => true) true 9 v d ps) : ∃ s : List UInt8, DRel W (fun b => b < W.heap.size) (.str s) v ∧ s.length ≤ maxLen := by
  obtain ⟨ds, h1, h2⟩ := rd_value (k := 6) (by kernel_rfl) hval h
  have ha : isAg Tryz.prog 9 = false := by kernel_rfl
  rw [ha] at h2
  unfold Sh at h1
  have hu : Tryz.prog.underlying 9 = some .string := by kernel_rfl
  rw [hu] at h1
  obtain ⟨s, rfl, hl⟩ := h1
  exact ⟨s, h2, hl⟩
end Go.Vc

namespace Go.Vc
open Go Go.Proofs Go.RowKit
def ann_law09_ProofReads : Nat → List Nat := fun n => match n with  | _ => []
def vc_law09_ProofReads_k0 (P : Ctx) (pre : List ABlk) (r : AV) (post : List PB) (v0 : AV) (v1 : AV) (v3 : AV) (a4 : AV) (h6 : Heap) : Prop :=
  CONDG v0
  (BIN 0 .eql v1 (.d (.num .i64 0)) fun v2 =>
  CONDG v2
  (BIN 0 .eql v3 a4 fun v5 =>
  CONDG v5
  (CALL P f_law09_known [] 432 h6 (fun _ v8 h9 =>
  POST v8 h9 pre r post)
  (fun _ _ _ => False))
  (POST (.d (.bool false)) h6 pre r post))
  (POST (.d (.bool false)) h6 pre r post))
  (POST (.d (.bool false)) h6 pre r post)
def vc_law09_ProofReads_k1 (P : Ctx) (pre : List ABlk) (r : AV) (post : List PB) (v0 : AV) (v3 : AV) (v5 : AV) (h6 : Heap) (v8 : AV) (a13 : AV) : Prop :=
  EXT v0 0 fun v1 =>
  EXT v0 1 fun v2 =>
  BIN 0 .eql v3 (.d (.num .i64 0)) fun v4 =>
  CONDG v4
  (LOAD true 3 v5 h6 fun v7 =>
  LOAD true 3 v8 h6 fun v9 =>
  CALL P f_ref09_SamePages [v7, v9] 336 h6 (fun _ v11 h12 =>
  vc_law09_ProofReads_k0 P pre r post v11 v2 v1 a13 h12)
  (fun _ _ _ => False))
  (POST (.d (.bool false)) h6 pre r post)
def vc_law09_ProofReads_k2 (P : Ctx) (pre : List ABlk) (r : AV) (post : List PB) (v0 : AV) (v1 : AV) (v3 : AV) (a4 : AV) (h6 : Heap) : Prop :=
  CONDG v0
  (BIN 0 .eql v1 (.d (.num .i64 0)) fun v2 =>
  CONDG v2
  (BIN 0 .eql v3 a4 fun v5 =>
  CONDG v5
  (CALL P f_law09_known [] 448 h6 (fun _ v8 h9 =>
  POST v8 h9 pre r post)
  (fun _ _ _ => False))
  (POST (.d (.bool false)) h6 pre r post))
  (POST (.d (.bool false)) h6 pre r post))
  (POST (.d (.bool false)) h6 pre r post)
def vc_law09_ProofReads_k3 (P : Ctx) (pre : List ABlk) (r : AV) (post : List PB) (v0 : AV) (v3 : AV) (v5 : AV) (h6 : Heap) (v8 : AV) (a13 : AV) : Prop :=
  EXT v0 0 fun v1 =>
  EXT v0 1 fun v2 =>
  BIN 0 .eql v3 (.d (.num .i64 0)) fun v4 =>
  CONDG v4
  (LOAD true 3 v5 h6 fun v7 =>
  LOAD true 3 v8 h6 fun v9 =>
  CALL P f_ref09_SamePages [v7, v9] 352 h6 (fun _ v11 h12 =>
  vc_law09_ProofReads_k2 P pre r post v11 v2 v1 a13 h12)
  (fun _ _ _ => False))
  (POST (.d (.bool false)) h6 pre r post)
def vc_law09_ProofReads_k4 (P : Ctx) (pre : List ABlk) (r : AV) (post : List PB) (v0 : AV) (v1 : AV) (v3 : AV) (a4 : AV) (h6 : Heap) : Prop :=
  CONDG v0
  (BIN 0 .eql v1 (.d (.num .i64 0)) fun v2 =>
  CONDG v2
  (BIN 0 .eql v3 a4 fun v5 =>
  CONDG v5
  (CALL P f_law09_known [] 472 h6 (fun _ v8 h9 =>
  POST v8 h9 pre r post)
  (fun _ _ _ => False))
  (POST (.d (.bool false)) h6 pre r post))
  (POST (.d (.bool false)) h6 pre r post))
  (POST (.d (.bool false)) h6 pre r post)
def vc_law09_ProofReads_k5 (P : Ctx) (pre : List ABlk) (r : AV) (post : List PB) (v0 : AV) (v3 : AV) (v5 : AV) (h6 : Heap) (v8 : AV) (a13 : AV) : Prop :=
  EXT v0 0 fun v1 =>
  EXT v0 1 fun v2 =>
  BIN 0 .eql v3 (.d (.num .i64 0)) fun v4 =>
  CONDG v4
  (LOAD true 3 v5 h6 fun v7 =>
  LOAD true 3 v8 h6 fun v9 =>
  CALL P f_ref09_SamePages [v7, v9] 376 h6 (fun _ v11 h12 =>
  vc_law09_ProofReads_k4 P pre r post v11 v2 v1 a13 h12)
  (fun _ _ _ => False))
  (POST (.d (.bool false)) h6 pre r post)
def vc_law09_ProofReads_k6 (P : Ctx) (pre : List ABlk) (r : AV) (post : List PB) (v0 : AV) (v1 : AV) (v3 : AV) (a4 : AV) (h6 : Heap) : Prop :=
  CONDG v0
  (BIN 0 .eql v1 (.d (.num .i64 0)) fun v2 =>
  CONDG v2
  (BIN 0 .eql v3 a4 fun v5 =>
  CONDG v5
  (CALL P f_law09_known [] 464 h6 (fun _ v8 h9 =>
  POST v8 h9 pre r post)
  (fun _ _ _ => False))
  (POST (.d (.bool false)) h6 pre r post))
  (POST (.d (.bool false)) h6 pre r post))
  (POST (.d (.bool false)) h6 pre r post)
def vc_law09_ProofReads_k7 (P : Ctx) (pre : List ABlk) (r : AV) (post : List PB) (v0 : AV) (v3 : AV) (v5 : AV) (h6 : Heap) (v8 : AV) (a13 : AV) : Prop :=
  EXT v0 0 fun v1 =>
  EXT v0 1 fun v2 =>
  BIN 0 .eql v3 (.d (.num .i64 0)) fun v4 =>
  CONDG v4
  (LOAD true 3 v5 h6 fun v7 =>
  LOAD true 3 v8 h6 fun v9 =>
  CALL P f_ref09_SamePages [v7, v9] 368 h6 (fun _ v11 h12 =>
  vc_law09_ProofReads_k6 P pre r post v11 v2 v1 a13 h12)
  (fun _ _ _ => False))
  (POST (.d (.bool false)) h6 pre r post)
def vc_law09_ProofReads_k8 (P : Ctx) (pre : List ABlk) (r : AV) (post : List PB) (v1 : AV) (v3 : AV) (h4 : Heap) (v17 : AV) (a18 : AV) : Prop :=
  BIN 0 .neq (.d (.num .i64 2)) (.d (.num .i64 0)) fun v0 =>
  COND v0
  (BIN 0 .eql v1 (.d (.num .i64 2)) fun v2 =>
  CONDG v2
  (LOAD true 3 v3 h4 fun v5 =>
  BUILD [(0, 1), (1, 1), (2, 1)] [.d (.num .i64 0), .zc, .zc] [] fun v6 =>
  CALL P f_ref09_SamePages [v5, v6] 328 h4 (fun _ v8 h9 =>
  CONDG v8
  (CALL P f_law09_known [] 352 h9 (fun _ v11 h12 =>
  POST v11 h12 pre r post)
  (fun _ _ _ => False))
  (POST (.d (.bool false)) h9 pre r post))
  (fun _ _ _ => False))
  (POST (.d (.bool false)) h4 pre r post))
  (LOAD true 3 v3 h4 fun v13 =>
  CALL P f_proof_Print [v13] 288 h4 (fun _ v15 h16 =>
  vc_law09_ProofReads_k5 P pre r post v15 v1 v3 h16 v17 a18)
  (fun _ _ _ => False))
def vc_law09_ProofReads_k9 (P : Ctx) (pre : List ABlk) (r : AV) (post : List PB) (v1 : AV) (v3 : AV) (h4 : Heap) (v17 : AV) (a18 : AV) : Prop :=
  BIN 0 .neq (.d (.num .i64 0)) (.d (.num .i64 0)) fun v0 =>
  COND v0
  (BIN 0 .eql v1 (.d (.num .i64 0)) fun v2 =>
  CONDG v2
  (LOAD true 3 v3 h4 fun v5 =>
  BUILD [(0, 1), (1, 1), (2, 1)] [.d (.num .i64 0), .zc, .zc] [] fun v6 =>
  CALL P f_ref09_SamePages [v5, v6] 320 h4 (fun _ v8 h9 =>
  CONDG v8
  (CALL P f_law09_known [] 344 h9 (fun _ v11 h12 =>
  POST v11 h12 pre r post)
  (fun _ _ _ => False))
  (POST (.d (.bool false)) h9 pre r post))
  (fun _ _ _ => False))
  (POST (.d (.bool false)) h4 pre r post))
  (LOAD true 3 v3 h4 fun v13 =>
  CALL P f_proof_Print [v13] 280 h4 (fun _ v15 h16 =>
  vc_law09_ProofReads_k7 P pre r post v15 v1 v3 h16 v17 a18)
  (fun _ _ _ => False))
def vc_law09_ProofReads_k10 (P : Ctx) (pre : List ABlk) (r : AV) (post : List PB) (v1 : AV) (v3 : AV) (h4 : Heap) (v17 : AV) (a18 : AV) : Prop :=
  BIN 0 .neq (.d (.num .i64 3)) (.d (.num .i64 0)) fun v0 =>
  COND v0
  (BIN 0 .eql v1 (.d (.num .i64 3)) fun v2 =>
  CONDG v2
  (LOAD true 3 v3 h4 fun v5 =>
  BUILD [(0, 1), (1, 1), (2, 1)] [.d (.num .i64 0), .zc, .zc] [] fun v6 =>
  CALL P f_ref09_SamePages [v5, v6] 288 h4 (fun _ v8 h9 =>
  CONDG v8
  (CALL P f_law09_known [] 312 h9 (fun _ v11 h12 =>
  POST v11 h12 pre r post)
  (fun _ _ _ => False))
  (POST (.d (.bool false)) h9 pre r post))
  (fun _ _ _ => False))
  (POST (.d (.bool false)) h4 pre r post))
  (LOAD true 3 v3 h4 fun v13 =>
  CALL P f_proof_Print [v13] 248 h4 (fun _ v15 h16 =>
  vc_law09_ProofReads_k1 P pre r post v15 v1 v3 h16 v17 a18)
  (fun _ _ _ => False))
def vc_law09_ProofReads_k11 (P : Ctx) (pre : List ABlk) (r : AV) (post : List PB) (v0 : AV) (v3 : AV) (v5 : AV) (h6 : Heap) (v19 : AV) (a20 : AV) : Prop :=
  NOT v0 fun v1 =>
  COND v1
  (BIN 0 .neq (.d (.num .i64 4)) (.d (.num .i64 0)) fun v2 =>
  COND v2
  (BIN 0 .eql v3 (.d (.num .i64 4)) fun v4 =>
  CONDG v4
  (LOAD true 3 v5 h6 fun v7 =>
  BUILD [(0, 1), (1, 1), (2, 1)] [.d (.num .i64 0), .zc, .zc] [] fun v8 =>
  CALL P f_ref09_SamePages [v7, v8] 304 h6 (fun _ v10 h11 =>
  CONDG v10
  (CALL P f_law09_known [] 328 h11 (fun _ v13 h14 =>
  POST v13 h14 pre r post)
  (fun _ _ _ => False))
  (POST (.d (.bool false)) h11 pre r post))
  (fun _ _ _ => False))
  (POST (.d (.bool false)) h6 pre r post))
  (LOAD true 3 v5 h6 fun v15 =>
  CALL P f_proof_Print [v15] 264 h6 (fun _ v17 h18 =>
  vc_law09_ProofReads_k3 P pre r post v17 v3 v5 h18 v19 a20)
  (fun _ _ _ => False)))
  (LOAD true 3 v19 h6 fun v21 =>
  CALL P f_ref09_Page [v21] 240 h6 (fun _ v23 h24 =>
  NOT v23 fun v25 =>
  COND v25
  (vc_law09_ProofReads_k8 P pre r post v3 v5 h24 v19 a20)
  (vc_law09_ProofReads_k9 P pre r post v3 v5 h24 v19 a20))
  (fun _ _ _ => False))
def vc_law09_ProofReads_k12 (P : Ctx) (pre : List ABlk) (r : AV) (post : List PB) (v0 : AV) (h3 : Heap) (a7 : AV) (v10 : AV) (v11 : AV) : Prop :=
  EXT v0 0 fun v1 =>
  EXT v0 1 fun v2 =>
  ALLOC T_api_ProofPage [.d (.num .i64 0), .zc, .zc] 160 h3 fun v4 h5 =>
  STORE 3 v4 v1 h5 fun h6 =>
  LEN true a7 h6 fun v8 =>
  BIN 0 .gtr v8 (.d (.num .i64 270)) fun v9 =>
  COND v9
  (vc_law09_ProofReads_k10 P pre r post v10 v11 h6 v4 a7)
  (vc_law09_ProofReads_k11 P pre r post v2 v10 v11 h6 v4 a7)
def vc_law09_ProofReads_k13 (P : Ctx) (pre : List ABlk) (r : AV) (post : List PB) (v0 : AV) (h3 : Heap) (a7 : AV) : Prop :=
  EXT v0 0 fun v1 =>
  EXT v0 1 fun v2 =>
  ALLOC T_api_ProofPage [.d (.num .i64 0), .zc, .zc] 96 h3 fun v4 h5 =>
  STORE 3 v4 v1 h5 fun h6 =>
  CALL P f_ref09_Read [a7] 128 h6 (fun _ v9 h10 =>
  vc_law09_ProofReads_k12 P pre r post v9 h10 a7 v2 v4)
  (fun _ _ _ => False)
def vc_law09_ProofReads (P : Ctx) (pre : List ABlk) (a0 : AV) (r : AV) (post : List PB) : Prop :=
  let h0 : Heap := numbered 0 pre
  LEN true a0 h0 fun v11 =>
  BIN 0 .gtr v11 (.d (.num .i64 370)) fun v12 =>
  COND v12
  (CALL P f_law09_known [] 56 h0 (fun _ v13 h1 =>
  POST v13 h1 pre r post)
  (fun _ _ _ => False))
  (CALL P f_proof_Read [a0] 64 h0 (fun _ v16 h3 =>
  vc_law09_ProofReads_k13 P pre r post v16 h3 a0)
  (fun _ _ _ => False))
theorem vc_law09_ProofReads_eq (g : GG) (pre : List ABlk) (a0 : AV) (r : AV) (post : List PB) : vcFn2 (Tz g) false ann_law09_ProofReads Tryz.f12 pre [a0] (.ret r) post = vc_law09_ProofReads (Tz g) pre a0 r post := by kernel_rfl
theorem hf_law09_ProofReads : Tryz.prog.funcs[f_law09_ProofReads]? = some Tryz.f12 := by kernel_rfl
theorem ok_law09_ProofReads : fnVcOK Tryz.prog Tryz.f12 = true := by kernel_rfl
theorem nt_law09_ProofReads : Nat.ble 1 Tryz.f12.ntmps = true := by kernel_rfl
theorem meetsH_law09_ProofReads {g : GG} {pre : List ABlk} {a0 : AV} {r : AV} {post : List PB} (hk : Nat.ble pre.length 24 = true) (h : vc_law09_ProofReads (Tz g) pre a0 r post) : MeetsH (Tz g) f_law09_ProofReads pre [a0] (.ret r) post :=
  meetsH_of_vc (C := Tz g) ann_law09_ProofReads hf_law09_ProofReads ok_law09_ProofReads nt_law09_ProofReads hk (pn := false) (Eq.mpr ((vcFn2_eq _ _ _ _ _ _ _ _).trans (vc_law09_ProofReads_eq g pre a0 r post)) h)
theorem meets_law09_ProofReads {g : GG} {a0 : D} {r : Res} (h : vc_law09_ProofReads (Tz g) [] (.d a0) r.val (r.bl.map .upd)) : Meets (Tz g) f_law09_ProofReads [a0] r := meetsH_law09_ProofReads rfl h
end Go.Vc

namespace Go.Vc
open Go Go.Proofs
variable {g : GG}
attribute [local simp] and_assoc
theorem same_zero : Meets (Tz g) f_ref09_SamePages [zeroP.d, zeroP.d] ⟨.d (.bool true), []⟩ :=
  samePages_self zeroP (by simp [zeroP]) (by simp [zeroP]) (fun e he => by simp [zeroP] at he)
set_option maxHeartbeats 4000000 in
theorem readsT_meets (hg : GOK g) (t : Str) (_hm : t.length ≤ maxLen) : Meets (Tz g) f_law09_ProofReads [.str t] ⟨.d (.bool true), []⟩ := by
  have hk := known_meets hg
  refine meets_law09_ProofReads ?_
  unfold vc_law09_ProofReads
  simp
  refine ⟨fun _ => known_call hk (by simp), fun h370 => ?_⟩
  have h370 : t.length ≤ 370 := by omega
  have hR := proof_Read_meets hg t (by omega)
  have hF := ref09_Read_meets (g := g) t (by omega)
  have hz := same_zero (g := g)
  simp only [zeroP, Pg.d, lns, ents, List.map_nil] at hz
  by_cases h270 : t.length ≤ 270
  · have hn270 : ¬ (270 < (t.length : Int)) := by omega
    cases hq : readQ t with
    | none =>
      have e1 : readV t = (zeroP, 4) := by unfold readV; rw [decide_eq_true h270, hq]
      have e2 : refV t = (zeroP, false) := by unfold refV; rw [hq]
      rw [e1] at hR
      rw [e2] at hF
      refine CALL.mk [.str t] _ rfl hR (.inl rfl) (by simp) ?_
      simp [vc_law09_ProofReads_k13, zeroP, Pg.d, lns, ents]
      refine CALL.mk [.str t] _ rfl hF (.inl rfl) (by simp) ?_
      simp [vc_law09_ProofReads_k12, zeroP, Pg.d, lns, ents, lookH]
      refine ⟨fun h => absurd h (by omega), fun _ => ?_⟩
      simp [vc_law09_ProofReads_k11, lookH]
      refine CALL.val [zeroP.d, zeroP.d] _ (by simp [argsD, argD, toD, zeroP, Pg.d, lns, ents]) same_zero (.inl rfl) ?_
      simp
      exact known_call hk (by simp)
    | some p =>
      obtain ⟨hTx, hT⟩ := readQ_tx hq (by omega)
      have n1 := hTx.nl
      have n2 := hTx.ng
      have e2 : refV t = (p, true) := by unfold refV; rw [hq]
      rw [e2] at hF
      cases hok : p.ok with
      | true =>
        have e1 : readV t = (p, 0) := by unfold readV; rw [decide_eq_true h270, hq]; simp only [hok]
        rw [e1] at hR
        refine CALL.mk [.str t] _ rfl hR (.inl rfl) (by simp) ?_
        simp [vc_law09_ProofReads_k13, Pg.d, lns, ents]
        refine CALL.mk [.str t] _ rfl hF (.inl rfl) (by simp) ?_
        simp [vc_law09_ProofReads_k12, Pg.d, lns, ents, lookH]
        refine ⟨fun h => absurd h (by omega), fun _ => ?_⟩
        simp [vc_law09_ProofReads_k11, lookH]
        refine CALL.val [p.d] _ rfl (ref09_Page_meets p (by omega) (by omega)) (.inl rfl) ?_
        simp [hok, vc_law09_ProofReads_k9, lookH]
        refine CALL.mk [p.d] _ rfl (proof_Print_data hg p hok hTx) (.inl rfl) (by simp) ?_
        simp [vc_law09_ProofReads_k7, lookH]
        refine CALL.val [p.d, p.d] _ rfl (samePages_self p (by omega) (by omega) (fun e he => by have := (hTx.log e he).2.1; omega)) (.inl rfl) ?_
        simp [vc_law09_ProofReads_k6, hT]
        exact known_call hk (by simp)
      | false =>
        have e1 : readV t = (zeroP, 2) := by unfold readV; rw [decide_eq_true h270, hq]; simp only [hok]
        rw [e1] at hR
        refine CALL.mk [.str t] _ rfl hR (.inl rfl) (by simp) ?_
        simp [vc_law09_ProofReads_k13, zeroP, Pg.d, lns, ents]
        refine CALL.mk [.str t] _ rfl hF (.inl rfl) (by simp) ?_
        simp [vc_law09_ProofReads_k12, Pg.d, lns, ents, lookH]
        refine ⟨fun h => absurd h (by omega), fun _ => ?_⟩
        simp [vc_law09_ProofReads_k11, lookH]
        refine CALL.val [p.d] _ rfl (ref09_Page_meets p (by omega) (by omega)) (.inl rfl) ?_
        simp [hok, vc_law09_ProofReads_k8, lookH]
        refine CALL.val [zeroP.d, zeroP.d] _ (by simp [argsD, argD, toD, zeroP, Pg.d, lns, ents]) same_zero (.inl rfl) ?_
        simp
        exact known_call hk (by simp)
  · have e1 : readV t = (zeroP, 3) := by unfold readV; rw [decide_eq_false h270]
    rw [e1] at hR
    generalize refV t = v at hF
    obtain ⟨q, b⟩ := v
    refine CALL.mk [.str t] _ rfl hR (.inl rfl) (by simp) ?_
    simp [vc_law09_ProofReads_k13, zeroP, Pg.d, lns, ents]
    refine CALL.mk [.str t] _ rfl hF (.inl rfl) (by simp) ?_
    simp [vc_law09_ProofReads_k12, Pg.d, lns, ents, lookH]
    refine ⟨fun _ => ?_, fun h => absurd h (by omega)⟩
    simp [vc_law09_ProofReads_k10, lookH]
    refine CALL.val [zeroP.d, zeroP.d] _ (by simp [argsD, argD, toD, zeroP, Pg.d, lns, ents]) same_zero (.inl rfl) ?_
    simp
    exact known_call hk (by simp)
end Go.Vc

namespace Go.Vc
open Go Go.RowKit Go.ChangeShapes Go.WideShapes Go.ChangeAt Go.Proofs Go.Proofs.YtjdgidaoknlnlaaGreatDoor
theorem readsT_calls {H : Type} {enc : TypeId × Value → H} (W : World) (base : Nat) (args : Array Value) (ds : List (DataW H)) (ps : List MemPlace) (hval : ∀ (j : Nat) t v, Tryz.f12.params[j]? = some t → args[j]? = some v → Value.okWide Tryz.prog W .any base t v)
    (hA : DataW.TrodAll enc Tryz.prog W 0 (fun _ => true) true Tryz.f12.params.toList args.toList ds ps) (hL : laidMetH Tryz.prog laidL W) (hsh : W.ShapedOpen Tryz.prog) : Calls Tryz.prog 12 args W fun e W' => e = .returned (.bool true) ∧ Below W.heap.size W W' := by
  rw [Tryz.params12] at hA hval
  obtain ⟨v0, d0, rfl, rfl, h0⟩ := trodAll_one hA
  obtain ⟨x0, g0, b0⟩ := open_text (hval 0 9 v0 rfl rfl) h0
  exact law_calls (C := Tz (gW W)) (readsT_meets (gok hL hsh) x0 b0) rfl (Below.refl _ _) (us := [v0]) rfl (fun i d u hd hu => by
    match i, hd, hu with
    | 0, hd, hu => simp at hd hu; subst hd; subst hu; exact g0
    | i + 1, hd, hu => simp at hd)
theorem readsT_lifted (os : Os) (started : os.Started) (H : Type) (enc : TypeId × Value → H) :
    ReturnsInHanded {} Tryz.checked os 12 .any (fun w args => (Rows.proofReadsSpec.pre enc Tryz.prog Tryz.f12 [] false w args ∧ laidMetH Tryz.prog laidL w) ∧ sizedMet enc Tryz.prog Tryz.f12 (OpenSpec.ofChange Rows.proofReadsSpec) false w args)
      (Rows.proofReadsSpec.post enc Tryz.prog Tryz.f12 false true false false) :=
  law_lifted (C := Tryz.checked) (tb := 4) (n := 1) started own (by kernel_rfl) Tryz.func12
    (ChangeSpec.witness_shaped (enc := enc) (C := Tryz.checked) (os := os) (X := fun w _ => laidMetH Tryz.prog laidL w) false (World.laidAll Tryz.prog os laidL) #[.string ⟨#[]⟩] 8 (World.laidAll_os _ _ _)
      (World.shaped_of_ZipB (by kernel_rfl) (by kernel_rfl)) (by kernel_rfl) (by kernel_rfl) (by kernel_rfl)
      (by rw [MakeChecks.laidMetH_plain _ _ _ (by kernel_rfl)]; exact laidMet_laidAll _ (by kernel_rfl) (by kernel_rfl)))
    laidOut (by kernel_rfl) (by kernel_rfl) Tryz.underlying4 rfl (by kernel_rfl) (fun ds hl => by
      match ds, hl with
      | [a], _ => rfl) readsT_calls
theorem readsT_holds : Rows.ProofReadsSaid :=
  OpenClaim.holds_of_wide 12 Tryz.f12 rfl rfl rfl rfl rfl rfl rfl ⟨rfl, rfl, rfl, rfl, rfl⟩ rfl rfl rfl rfl rfl (by kernel_rfl) Tryz.func12 (by kernel_rfl)
    (of_decide_eq_true (by kernel_rfl)) (by unfold Func.isWrapper; first | (rw [if_pos (by decide +kernel)]; kernel_rfl) | (rw [if_neg (by decide +kernel)]; exact ⟨rfl, rfl⟩))
    (fun os started H enc _ => readsT_lifted os started H enc)
theorem readsT_card : Rows.ProofReadsCardSaid :=
  Claim7.holds_tied_plain_at .later [] [.data, .data, .data, .data, .pinned] true (true, "495f881b3e202b99a64ff79fc2e3da44c1da7b54a021e43e5cad857e0faeda86") true readsT_holds (fun _ h => by cases h) (by kernel_rfl) (fun _ h => by cases h) proofReads_row_tie rfl ⟨rfl, rfl⟩ (by kernel_rfl) rfl
    (fun f fn hf hfn => by
      obtain rfl : f = 12 := Option.some.inj ((show Tryz.prog.funcNamed "ephemerist/ephemeristlaw09.ProofReads" = some 12 by kernel_rfl).symm.trans hf) |>.symm
      obtain rfl : fn = Tryz.f12 := (Option.some.inj (Tryz.func12.symm.trans hfn)).symm
      exact ⟨by kernel_rfl, fun j t ht => by
        rw [Tryz.params12] at ht
        have hm : t ∈ [9] := by simpa using Array.mem_of_getElem? ht
        have hall : ([9].all fun u => !Tryz.prog.wantsStandIn u) = true := by kernel_rfl
        exact (show Tryz.prog.wantsStandIn t = false by simpa using List.all_eq_true.1 hall t hm)⟩)
    (by kernel_rfl)
end Go.Vc

namespace Go.Proofs.YtjdgidaoknlnlaaGreatDoor
theorem law_ProofReadsCardSaid : Rows.ProofReadsCardSaid := Go.Vc.readsT_card
end Go.Proofs.YtjdgidaoknlnlaaGreatDoor
