/- A part of the proof: general laws of a reading of the model by abstract data, or contracts of the functions that the law calls. -/
import Derived.Test.YtjdgidaoknlnlaaGreatDoorVc23
import Derived.Test.YtjdgidaoknlnlaaGreatDoorVc11
import Derived.Test.YtjdgidaoknlnlaaGreatDoorVc49
import Derived.Test.YtjdgidaoknlnlaaGreatDoorVc42
set_option maxRecDepth 100000
namespace Go.Vc
open Go Go.Proofs Go.RowKit
def ann_ref09_Without : Nat → List Nat := fun n => match n with | 4 => [1, 2, 4, 5, 6] | _ => []
def vc_ref09_Without_k0 (_P : Ctx) (_pre : List ABlk) (_r : AV) (_post : List PB) (v0 : AV) (vs2 : List AV) (h3 : Heap) (next15 : List AV → Heap → Prop) : Prop :=
  NOT v0 fun v1 =>
  COND v1
  (FADDR 2 (nth vs2 1) h3 fun v4 =>
  LOAD false 1 v4 h3 fun v5 =>
  IADDR 2 T_api_ProofEntry (nth vs2 3) (nth vs2 4) h3 fun v6 =>
  LOAD true 2 v6 h3 fun v7 =>
  MKS T_api_ProofEntry 2 [v7] 208 h3 fun v8 h9 =>
  APP T_api_ProofEntry 2 v5 v8 216 h9 fun v10 h11 =>
  FADDR 2 (nth vs2 1) h11 fun v12 =>
  STORE 1 v12 v10 h11 fun h13 =>
  ORDX [] [0, 1, 0, 0, 12, 28, 60, 127, 255, 511] [(0, wr h3 h3, (ids (nth vs2 1))), (1, wr h3 h3, (ids v4)), (4, wr h3 h3, (ids (nth vs2 3))), (5, wr h3 h3, (ids v6)), (6, wr h3 h9, (ids.idsL [v7])), (7, wr h9 h11, (ids.idsL [v5, v8])), (8, wr h11 h11, (ids (nth vs2 1))), (9, wr h11 h13, (ids v12))] ∧
  BIN 0 .add (nth vs2 4) (.d (.num .i64 1)) fun v14 =>
  next15 [(nth vs2 0), (nth vs2 1), (nth vs2 2), (nth vs2 3), v14] h13)
  (BIN 0 .add (nth vs2 4) (.d (.num .i64 1)) fun v14 =>
  next15 [(nth vs2 0), (nth vs2 1), (nth vs2 2), (nth vs2 3), v14] h3)
def vc_ref09_Without_k1 (P : Ctx) (pre : List ABlk) (r : AV) (post : List PB) (vs0 : List AV) (h1 : Heap) (next7 : List AV → Heap → Prop) : Prop :=
  LEN false (nth vs0 3) h1 fun v2 =>
  BIN 0 .lss (nth vs0 4) v2 fun v3 =>
  COND v3
  (CALL P f_ref01_Listed [(nth vs0 0), (nth vs0 4)] 144 h1 (fun _rd4 v5 h6 =>
  vc_ref09_Without_k0 P pre r post v5 vs0 h6 next7)
  (fun _ _ _ => False))
  (LOAD true 3 (nth vs0 1) h1 fun v8 =>
  STORE 3 (nth vs0 2) v8 h1 fun h9 =>
  LOAD true 3 (nth vs0 2) h9 fun r12 =>
  POST r12 h9 pre r post)
def vc_ref09_Without (P : Ctx) (pre : List ABlk) (a0 a1 : AV) (r : AV) (post : List PB) : Prop :=
  let h0 : Heap := numbered 0 pre
  BOX T_api_ProofPage a0 24 h0 fun v2 h1 =>
  ALLOC T_api_ProofPage [.d (.num .i64 0), .zc, .zc] 32 h1 fun v4 h2 =>
  FADDR 2 v2 h2 fun v7 =>
  LOAD false 1 v7 h2 fun v8 =>
  FADDR 2 v2 h2 fun v9 =>
  STORE 1 v9 .zc h2 fun h3 =>
  LOOP [a1, v2, v4, v8, (.d (.num .i64 0))] h3 88 fun vs4 h5 next4 =>
  vc_ref09_Without_k1 P pre r post vs4 h5 next4
theorem vc_ref09_Without_eq (g : GG) (pre : List ABlk) (a0 a1 : AV) (r : AV) (post : List PB) : vcFn2 (Tz g) false ann_ref09_Without Tryz.f35 pre [a0, a1] (.ret r) post = vc_ref09_Without (Tz g) pre a0 a1 r post := by kernel_rfl
theorem hf_ref09_Without : Tryz.prog.funcs[f_ref09_Without]? = some Tryz.f35 := by kernel_rfl
theorem ok_ref09_Without : fnVcOK Tryz.prog Tryz.f35 = true := by kernel_rfl
theorem nt_ref09_Without : Nat.ble 2 Tryz.f35.ntmps = true := by kernel_rfl
theorem meetsH_ref09_Without {g : GG} {pre : List ABlk} {a0 a1 : AV} {r : AV} {post : List PB} (hk : Nat.ble pre.length 24 = true) (h : vc_ref09_Without (Tz g) pre a0 a1 r post) : MeetsH (Tz g) f_ref09_Without pre [a0, a1] (.ret r) post :=
  meetsH_of_vc (C := Tz g) ann_ref09_Without hf_ref09_Without ok_ref09_Without nt_ref09_Without hk (pn := false) (Eq.mpr ((vcFn2_eq _ _ _ _ _ _ _ _).trans (vc_ref09_Without_eq g pre a0 a1 r post)) h)
theorem meets_ref09_Without {g : GG} {a0 a1 : D} {r : Res} (h : vc_ref09_Without (Tz g) [] (.d a0) (.d a1) r.val (r.bl.map .upd)) : Meets (Tz g) f_ref09_Without [a0, a1] r := meetsH_ref09_Without rfl h
end Go.Vc

namespace Go.Vc
open Go Go.Proofs
variable {g : GG}
attribute [local simp] and_assoc
theorem dropI_step {l : List Int} {L : List Nt} {k : Nat} {x : Nt} (h : L[k]? = some x) : dropI l (L.take (k + 1)) 0 = dropI l (L.take k) 0 ++ (match decide ((k : Int) ∈ l) with | true => [] | false => [x]) := by
  have hk := (List.getElem?_eq_some_iff.1 h).1
  rw [take_next h, dropI_snoc]
  have : 0 + (L.take k).length = k := by rw [List.length_take]; omega
  rw [this]; rfl
set_option maxHeartbeats 4000000 in
theorem ref09_Without_meets (p : Pg) (l : List Int) (hl : p.log.length ≤ 100) (hl2 : l.length ≤ 1000) : Meets (Tz g) f_ref09_Without [p.d, ints l] ⟨.d (logE p (dropI l p.log 0)).d, []⟩ := by
  refine meets_ref09_Without ?_
  unfold vc_ref09_Without
  simp [Pg.d, lns, ents, lookH]
  refine LOOP.mkB Nat (fun k => [.d (ints l), .ptr 24 0 0 0, .ptr 32 0 0 0, .d (.list (p.log.map Nt.d)), .d (int k)])
    (fun k => [(24, some ⟨0, T_api_ProofPage, .box [.d (int p.people), .d (.list (p.lines.map Ln.d)), .own 88 (dropI l (p.log.take k) 0).length]⟩), (88, some ⟨(dropI l (p.log.take k) 0).length, T_api_ProofEntry, .lst ((dropI l (p.log.take k) 0).map Nt.d)⟩), (32, some ⟨0, T_api_ProofPage, .box [.d (int 0), .zc, .zc]⟩)])
    (fun k => k ≤ p.log.length) (fun k => p.log.length - k) [] [(24, 2, T_api_ProofEntry)] (by simp) 0 (by omega) (by simp [WEAK, lookH, dropI]) (fun _ _ => rfl) ?_
  intro k hk
  have hw := wrap_id (n := (k : Int) + 1) (by omega) (by omega)
  have hdl := dropI_len l (p.log.take k) 0
  have htl := List.length_take_le k p.log
  simp [vc_ref09_Without_k1, lookH]
  refine ⟨fun hlt => ?_, fun hge => ?_⟩
  · have hg : p.log[k]? = some p.log[k] := List.getElem?_eq_getElem hlt
    have hst := dropI_step (l := l) hg
    generalize p.log[k] = x at hg hst
    refine CALL.val [ints l, int k] _ rfl (ref01_Listed_meets l k (by omega)) (.inl rfl) ?_
    cases hd : decide ((k : Int) ∈ l) with
    | true =>
      rw [hd] at hst
      simp [vc_ref09_Without_k0, hw]
      exact ⟨k + 1, by omega, by simp [WEAK, lookH, hst], by omega⟩
    | false =>
      rw [hd] at hst
      simp [vc_ref09_Without_k0, hw, hg, Nt.d, lookH]
      exact ⟨by omega, rfl, k + 1, by omega, by simp [WEAK, lookH, hst, Nt.d], by omega⟩
  · have : k = p.log.length := by omega
    subst this
    simp [logE]
end Go.Vc
