/- Proves that the statement ProofChangedCardSaid holds of the given program: for every input the law returns true and leaves its arguments as they were; under the row's own conditions, that the listed tables are laid as the program's text has them. -/
import Derived.Test.YthdjndbnnajpoaaGreatDoorVc23
import Derived.Test.YthdjndbnnajpoaaGreatDoorVc11
import Derived.Test.YthdjndbnnajpoaaGreatDoorVc35
import Derived.Test.YthdjndbnnajpoaaGreatDoorVc26
import Derived.Test.YthdjndbnnajpoaaGreatDoorVc30
set_option maxRecDepth 100000
namespace Go.Vc
open Go Go.Proofs Go.RowKit
def ann_law09_ProofChanged : Nat → List Nat := fun n => match n with  | _ => []
def vc_law09_ProofChanged_k0 (P : Ctx) (pre : List ABlk) (r : AV) (post : List PB) (v0 : AV) (v2 : AV) (a3 : AV) (h4 : Heap) (v8 : AV) (v11 : AV) : Prop :=
  BIN 0 .quo v0 (.d (.num .i64 10)) fun v1 =>
  IADDR 1 T_int v2 a3 h4 fun v5 =>
  LOAD false 1 v5 h4 fun v6 =>
  BIN 0 .eql v6 v1 fun v7 =>
  CONDG v7
  (IADDR 1 T_int v8 a3 h4 fun v9 =>
  LOAD false 1 v9 h4 fun v10 =>
  BIN 0 .eql v10 v11 fun v12 =>
  CONDG v12
  (CALL P f_law09_known [] 1232 h4 (fun _ v14 h15 =>
  POST v14 h15 pre r post)
  (fun _ _ _ => False))
  (POST (.d (.bool false)) h4 pre r post))
  (POST (.d (.bool false)) h4 pre r post)
def vc_law09_ProofChanged_k1 (P : Ctx) (pre : List ABlk) (r : AV) (post : List PB) (v0 : AV) (a1 : AV) (h2 : Heap) (v5 : AV) (v7 : AV) (v10 : AV) : Prop :=
  IADDR 1 T_int v0 a1 h2 fun v3 =>
  LOAD false 1 v3 h2 fun v4 =>
  BIN 0 .eql v4 v5 fun v6 =>
  CONDG v6
  (IADDR 1 T_int v7 a1 h2 fun v8 =>
  LOAD false 1 v8 h2 fun v9 =>
  BIN 0 .eql v9 v10 fun v11 =>
  CONDG v11
  (CALL P f_law09_known [] 1208 h2 (fun _ v13 h14 =>
  POST v13 h14 pre r post)
  (fun _ _ _ => False))
  (POST (.d (.bool false)) h2 pre r post))
  (POST (.d (.bool false)) h2 pre r post)
def vc_law09_ProofChanged_k2 (P : Ctx) (pre : List ABlk) (r : AV) (post : List PB) (v0 : AV) (h1 : Heap) (a6 : AV) (v8 : AV) (v9 : AV) (v10 : AV) (v11 : AV) : Prop :=
  FADDR 1 v0 h1 fun v2 =>
  LOAD false 1 v2 h1 fun v3 =>
  IADDR 1 T_int v3 (.d (.num .i64 0)) h1 fun v4 =>
  LOAD false 1 v4 h1 fun v5 =>
  BIN 0 .eql v5 a6 fun v7 =>
  COND v7
  (vc_law09_ProofChanged_k0 P pre r post v8 v9 a6 h1 v10 v11)
  (vc_law09_ProofChanged_k1 P pre r post v9 a6 h1 v8 v10 v11)
def vc_law09_ProofChanged_k3 (P : Ctx) (pre : List ABlk) (r : AV) (post : List PB) (v0 : AV) (v2 : AV) (a3 : AV) (h4 : Heap) (v8 : AV) (v11 : AV) : Prop :=
  BIN 0 .quo v0 (.d (.num .i64 10)) fun v1 =>
  IADDR 1 T_int v2 a3 h4 fun v5 =>
  LOAD false 1 v5 h4 fun v6 =>
  BIN 0 .eql v6 v1 fun v7 =>
  CONDG v7
  (IADDR 1 T_int v8 a3 h4 fun v9 =>
  LOAD false 1 v9 h4 fun v10 =>
  BIN 0 .eql v10 v11 fun v12 =>
  CONDG v12
  (CALL P f_law09_known [] 1152 h4 (fun _ v14 h15 =>
  POST v14 h15 pre r post)
  (fun _ _ _ => False))
  (POST (.d (.bool false)) h4 pre r post))
  (POST (.d (.bool false)) h4 pre r post)
def vc_law09_ProofChanged_k4 (P : Ctx) (pre : List ABlk) (r : AV) (post : List PB) (v0 : AV) (a1 : AV) (h2 : Heap) (v5 : AV) (v7 : AV) (v10 : AV) : Prop :=
  IADDR 1 T_int v0 a1 h2 fun v3 =>
  LOAD false 1 v3 h2 fun v4 =>
  BIN 0 .eql v4 v5 fun v6 =>
  CONDG v6
  (IADDR 1 T_int v7 a1 h2 fun v8 =>
  LOAD false 1 v8 h2 fun v9 =>
  BIN 0 .eql v9 v10 fun v11 =>
  CONDG v11
  (CALL P f_law09_known [] 1128 h2 (fun _ v13 h14 =>
  POST v13 h14 pre r post)
  (fun _ _ _ => False))
  (POST (.d (.bool false)) h2 pre r post))
  (POST (.d (.bool false)) h2 pre r post)
def vc_law09_ProofChanged_k5 (P : Ctx) (pre : List ABlk) (r : AV) (post : List PB) (v0 : AV) (h1 : Heap) (a6 : AV) (v8 : AV) (v9 : AV) (v10 : AV) (v11 : AV) : Prop :=
  FADDR 1 v0 h1 fun v2 =>
  LOAD false 1 v2 h1 fun v3 =>
  IADDR 1 T_int v3 (.d (.num .i64 0)) h1 fun v4 =>
  LOAD false 1 v4 h1 fun v5 =>
  BIN 0 .eql v5 a6 fun v7 =>
  COND v7
  (vc_law09_ProofChanged_k3 P pre r post v8 v9 a6 h1 v10 v11)
  (vc_law09_ProofChanged_k4 P pre r post v9 a6 h1 v8 v10 v11)
def vc_law09_ProofChanged_k6 (P : Ctx) (pre : List ABlk) (r : AV) (post : List PB) (v0 : AV) (h1 : Heap) (a13 : AV) (v14 : AV) (v15 : AV) : Prop :=
  FADDR 1 v0 h1 fun v2 =>
  LOAD false 1 v2 h1 fun v3 =>
  IADDR 1 T_int v3 (.d (.num .i64 2)) h1 fun v4 =>
  LOAD false 1 v4 h1 fun v5 =>
  FADDR 1 v0 h1 fun v6 =>
  LOAD false 1 v6 h1 fun v7 =>
  IADDR 1 T_int v7 (.d (.num .i64 0)) h1 fun v8 =>
  LOAD false 1 v8 h1 fun v9 =>
  ORDX [] [0, 1, 3, 7, 0, 16, 48, 112, 15, 511] [(0, wr h1 h1, (ids v0)), (1, wr h1 h1, (ids v2)), (2, wr h1 h1, (ids v3)), (3, wr h1 h1, (ids v4)), (4, wr h1 h1, (ids v0)), (5, wr h1 h1, (ids v6)), (6, wr h1 h1, (ids v7)), (7, wr h1 h1, (ids v8))] ∧
  FADDR 0 v0 h1 fun v10 =>
  LOAD false 1 v10 h1 fun v11 =>
  BIN 0 .eql v11 (.d (.num .i64 3)) fun v12 =>
  CONDG v12
  (vc_law09_ProofChanged_k2 P pre r post v0 h1 a13 v5 v14 v15 v9)
  (vc_law09_ProofChanged_k1 P pre r post v14 a13 h1 v5 v15 v9)
def vc_law09_ProofChanged_k7 (P : Ctx) (pre : List ABlk) (r : AV) (post : List PB) (v0 : AV) (h1 : Heap) (a5 : AV) (v6 : AV) (v7 : AV) (v8 : AV) (v9 : AV) : Prop :=
  FADDR 0 v0 h1 fun v2 =>
  LOAD false 1 v2 h1 fun v3 =>
  BIN 0 .eql v3 (.d (.num .i64 3)) fun v4 =>
  CONDG v4
  (vc_law09_ProofChanged_k5 P pre r post v0 h1 a5 v6 v7 v8 v9)
  (vc_law09_ProofChanged_k4 P pre r post v7 a5 h1 v6 v8 v9)
def vc_law09_ProofChanged_k8 (P : Ctx) (pre : List ABlk) (r : AV) (post : List PB) (v0 : AV) (h1 : Heap) (a6 : AV) (v8 : AV) (v9 : AV) (v10 : AV) (v11 : AV) : Prop :=
  FADDR 1 v0 h1 fun v2 =>
  LOAD false 1 v2 h1 fun v3 =>
  IADDR 1 T_int v3 (.d (.num .i64 1)) h1 fun v4 =>
  LOAD false 1 v4 h1 fun v5 =>
  BIN 0 .eql v5 a6 fun v7 =>
  COND v7
  (vc_law09_ProofChanged_k6 P pre r post v0 h1 a6 v8 v9)
  (vc_law09_ProofChanged_k7 P pre r post v0 h1 a6 v10 v8 v9 v11)
def vc_law09_ProofChanged_k9 (P : Ctx) (pre : List ABlk) (r : AV) (post : List PB) (v0 : AV) (v3 : AV) (h5 : Heap) (v6 : AV) (v8 : AV) (v11 : AV) (v13 : AV) (v18 : AV) (v24 : AV) (a35 : AV) (v40 : AV) : Prop :=
  EXT v0 0 fun v1 =>
  EXT v0 1 fun v2 =>
  BIN 0 .neq v3 (.d (.num .i64 0)) fun v4 =>
  CONDG v4
  (POST (.d (.bool false)) h5 pre r post)
  (BIN 0 .neq v6 (.d (.num .i64 0)) fun v7 =>
  CONDG v7
  (POST (.d (.bool false)) h5 pre r post)
  (BIN 0 .neq v8 (.d (.num .i64 0)) fun v9 =>
  CONDG v9
  (POST (.d (.bool false)) h5 pre r post)
  (BIN 0 .neq v2 (.d (.num .i64 0)) fun v10 =>
  CONDG v10
  (POST (.d (.bool false)) h5 pre r post)
  (LEN false v11 h5 fun v12 =>
  FADDR 1 v13 h5 fun v14 =>
  LOAD false 1 v14 h5 fun v15 =>
  LEN false v15 h5 fun v16 =>
  BIN 0 .neq v12 v16 fun v17 =>
  CONDG v17
  (POST (.d (.bool false)) h5 pre r post)
  (LEN false v18 h5 fun v19 =>
  FADDR 1 v13 h5 fun v20 =>
  LOAD false 1 v20 h5 fun v21 =>
  LEN false v21 h5 fun v22 =>
  BIN 0 .neq v19 v22 fun v23 =>
  CONDG v23
  (POST (.d (.bool false)) h5 pre r post)
  (LEN false v24 h5 fun v25 =>
  FADDR 1 v13 h5 fun v26 =>
  LOAD false 1 v26 h5 fun v27 =>
  LEN false v27 h5 fun v28 =>
  BIN 0 .neq v25 v28 fun v29 =>
  CONDG v29
  (POST (.d (.bool false)) h5 pre r post)
  (LEN false v1 h5 fun v30 =>
  FADDR 1 v13 h5 fun v31 =>
  LOAD false 1 v31 h5 fun v32 =>
  LEN false v32 h5 fun v33 =>
  BIN 0 .neq v30 v33 fun v34 =>
  COND v34
  (POST (.d (.bool false)) h5 pre r post)
  (IADDR 1 T_int v11 a35 h5 fun v36 =>
  LOAD false 1 v36 h5 fun v37 =>
  IADDR 1 T_int v18 a35 h5 fun v38 =>
  LOAD false 1 v38 h5 fun v39 =>
  ORDX [] [0, 0, 3, 7, 0, 0, 48, 112, 15, 511] [(2, wr h5 h5, (ids v11)), (3, wr h5 h5, (ids v36)), (6, wr h5 h5, (ids v18)), (7, wr h5 h5, (ids v38))] ∧
  FADDR 0 v40 h5 fun v41 =>
  LOAD false 1 v41 h5 fun v42 =>
  BIN 0 .eql v42 (.d (.num .i64 2)) fun v43 =>
  CONDG v43
  (vc_law09_ProofChanged_k8 P pre r post v40 h5 a35 v24 v1 v37 v39)
  (vc_law09_ProofChanged_k7 P pre r post v40 h5 a35 v37 v24 v1 v39)))))))))
def vc_law09_ProofChanged_k10 (P : Ctx) (pre : List ABlk) (r : AV) (post : List PB) (v0 : AV) (v3 : AV) (h4 : Heap) (v6 : AV) (v14 : AV) (v15 : AV) (v16 : AV) (v17 : AV) (a18 : AV) : Prop :=
  EXT v0 0 fun v1 =>
  EXT v0 1 fun v2 =>
  LOAD true 3 v3 h4 fun v5 =>
  LOAD true 2 v6 h4 fun v7 =>
  CALL P f_ref09_With [v5, v7] 328 h4 (fun _ v9 h10 =>
  CALL P f_proof_Setters [v9] 336 h10 (fun _ v12 h13 =>
  vc_law09_ProofChanged_k9 P pre r post v12 v14 h13 v15 v2 v16 v3 v17 v1 a18 v6)
  (fun _ _ _ => False))
  (fun _ _ _ => False)
def vc_law09_ProofChanged_k11 (P : Ctx) (pre : List ABlk) (r : AV) (post : List PB) (v0 : AV) (v3 : AV) (h4 : Heap) (v6 : AV) (v14 : AV) (v15 : AV) (a16 : AV) : Prop :=
  EXT v0 0 fun v1 =>
  EXT v0 1 fun v2 =>
  LOAD true 3 v3 h4 fun v5 =>
  LOAD true 2 v6 h4 fun v7 =>
  CALL P f_ref09_With [v5, v7] 256 h4 (fun _ v9 h10 =>
  CALL P f_proof_Now [v9] 264 h10 (fun _ v12 h13 =>
  vc_law09_ProofChanged_k10 P pre r post v12 v3 h13 v6 v14 v2 v15 v1 a16)
  (fun _ _ _ => False))
  (fun _ _ _ => False)
def vc_law09_ProofChanged_k12 (P : Ctx) (pre : List ABlk) (r : AV) (post : List PB) (v0 : AV) (h2 : Heap) (v6 : AV) (v17 : AV) (a18 : AV) : Prop :=
  NOT v0 fun v1 =>
  COND v1
  (CALL P f_law09_known [] 128 h2 (fun _ v4 h5 =>
  POST v4 h5 pre r post)
  (fun _ _ _ => False))
  (LOAD true 3 v6 h2 fun v7 =>
  CALL P f_proof_Now [v7] 136 h2 (fun _ v9 h10 =>
  EXT v9 0 fun v11 =>
  EXT v9 1 fun v12 =>
  LOAD true 3 v6 h10 fun v13 =>
  CALL P f_proof_Setters [v13] 192 h10 (fun _ v15 h16 =>
  vc_law09_ProofChanged_k11 P pre r post v15 v6 h16 v17 v12 v11 a18)
  (fun _ _ _ => False))
  (fun _ _ _ => False))
def vc_law09_ProofChanged_k13 (P : Ctx) (pre : List ABlk) (r : AV) (post : List PB) (v0 : AV) (h2 : Heap) (v6 : AV) (a8 : AV) (v12 : AV) : Prop :=
  NOT v0 fun v1 =>
  CONDG v1
  (CALL P f_law09_known [] 128 h2 (fun _ v4 h5 =>
  POST v4 h5 pre r post)
  (fun _ _ _ => False))
  (LOAD true 3 v6 h2 fun v7 =>
  CALL P f_ref09_Line [v7, a8] 104 h2 (fun _ v10 h11 =>
  vc_law09_ProofChanged_k12 P pre r post v10 h11 v6 v12 a8)
  (fun _ _ _ => False))
def vc_law09_ProofChanged (P : Ctx) (pre : List ABlk) (a0 a1 a2 : AV) (r : AV) (post : List PB) : Prop :=
  let h0 : Heap := numbered 0 pre
  BOX T_api_ProofPage a0 24 h0 fun v3 h1 =>
  BOX T_api_ProofEntry a1 32 h1 fun v4 h2 =>
  LOAD true 3 v3 h2 fun v17 =>
  LOAD true 2 v4 h2 fun v18 =>
  CALL P f_law09_room [v17, v18] 64 h2 (fun _ v19 h3 =>
  vc_law09_ProofChanged_k13 P pre r post v19 h3 v3 a2 v4)
  (fun _ _ _ => False)
theorem vc_law09_ProofChanged_eq (g : GG) (pre : List ABlk) (a0 a1 a2 : AV) (r : AV) (post : List PB) : vcFn2 (Tz g) false ann_law09_ProofChanged Tryz.f3 pre [a0, a1, a2] (.ret r) post = vc_law09_ProofChanged (Tz g) pre a0 a1 a2 r post := by kernel_rfl
theorem hf_law09_ProofChanged : Tryz.prog.funcs[f_law09_ProofChanged]? = some Tryz.f3 := by kernel_rfl
theorem ok_law09_ProofChanged : fnVcOK Tryz.prog Tryz.f3 = true := by kernel_rfl
theorem nt_law09_ProofChanged : Nat.ble 3 Tryz.f3.ntmps = true := by kernel_rfl
theorem meetsH_law09_ProofChanged {g : GG} {pre : List ABlk} {a0 a1 a2 : AV} {r : AV} {post : List PB} (hk : Nat.ble pre.length 24 = true) (h : vc_law09_ProofChanged (Tz g) pre a0 a1 a2 r post) : MeetsH (Tz g) f_law09_ProofChanged pre [a0, a1, a2] (.ret r) post :=
  meetsH_of_vc (C := Tz g) ann_law09_ProofChanged hf_law09_ProofChanged ok_law09_ProofChanged nt_law09_ProofChanged hk (pn := false) (Eq.mpr ((vcFn2_eq _ _ _ _ _ _ _ _).trans (vc_law09_ProofChanged_eq g pre a0 a1 a2 r post)) h)
theorem meets_law09_ProofChanged {g : GG} {a0 a1 a2 : D} {r : Res} (h : vc_law09_ProofChanged (Tz g) [] (.d a0) (.d a1) (.d a2) r.val (r.bl.map .upd)) : Meets (Tz g) f_law09_ProofChanged [a0, a1, a2] r := meetsH_law09_ProofChanged rfl h
end Go.Vc

namespace Go.Vc
open Go Go.Proofs
variable {g : GG}
attribute [local simp] and_assoc
set_option maxHeartbeats 4000000 in
theorem changed_meets (hg : GOK g) (p : Pg) (x : Nt) (line : Int) (_ : -9223372036854775808 ≤ line ∧ line ≤ 9223372036854775807) : Meets (Tz g) f_law09_ProofChanged [p.d, x.d, int line] ⟨.d (.bool true), []⟩ := by
  have hk := known_meets hg
  refine meets_law09_ProofChanged ?_
  unfold vc_law09_ProofChanged
  simp [Pg.d, lns, ents, Nt.d, ints]
  refine CALL.val [p.d, x.d] _ rfl (law09_room_meets p x) (.inl rfl) ?_
  cases hr : roomB p x with
  | false =>
    simp [vc_law09_ProofChanged_k13]
    exact known_call hk (by simp)
  | true =>
    simp [roomB, rightB] at hr
    obtain ⟨b1, b2, b3, b4, b5⟩ := hr
    obtain ⟨a1, a2, a3, a4, a5, a6, a7⟩ := Pg.ok_len b2
    simp [vc_law09_ProofChanged_k13]
    refine CALL.val [p.d, int line] _ rfl (ref09_Line_meets p line (by omega)) (.inl rfl) ?_
    cases hl : lineB p line with
    | false =>
      simp [vc_law09_ProofChanged_k12]
      exact known_call hk (by simp)
    | true =>
      obtain ⟨k, rfl, hk2⟩ := inB_nat hl
      have hkl : k < p.lines.length := by omega
      have hwok := withE_ok b2 b5 b4
      have hW := ref09_With_meets (g := g) p x (by omega)
      simp [vc_law09_ProofChanged_k12]
      refine CALL.mk [p.d] _ rfl (proof_Now_data p b2) (.inl rfl) (by simp) ?_
      simp
      refine CALL.mk [p.d] _ rfl (proof_Setters_data p b2) (.inl rfl) (by simp) ?_
      simp [vc_law09_ProofChanged_k11]
      refine CALL.val [p.d, x.d] _ rfl hW (.inl rfl) ?_
      refine CALL.mk [(withE p x).d] _ rfl (proof_Now_data (withE p x) hwok) (.inl rfl) (by simp) ?_
      simp [vc_law09_ProofChanged_k10]
      refine CALL.val [p.d, x.d] _ rfl hW (.inl rfl) ?_
      refine CALL.mk [(withE p x).d] _ rfl (proof_Setters_data (withE p x) hwok) (.inl rfl) (by simp) ?_
      have e1 := nowL_len b2
      have e2 := settersL_len b2
      have e3 : (nowL (withE p x)).length = p.lines.length := nowL_len hwok
      have e4 : (settersL (withE p x)).length = p.lines.length := settersL_len hwok
      have e5 : nowL (withE p x) = (stepS p p.log.length x (stN p p.log.length)).now := by unfold nowL; rw [stN_last]
      have e6 : settersL (withE p x) = (stepS p p.log.length x (stN p p.log.length)).setters := by unfold settersL; rw [stN_last]
      have e7 : nowL p = (stN p p.log.length).now := rfl
      have e8 : settersL p = (stN p p.log.length).setters := rfl
      have hps := (stN_ok b2 _ (Nat.le_refl _)).1
      rw [e7] at e1
      rw [e8] at e2
      rw [e5] at e3
      rw [e6] at e4
      rw [e5, e6, e7, e8]
      generalize stN p p.log.length = s at *
      obtain ⟨n, hn⟩ : ∃ n, s.now[k]? = some n := ⟨_, List.getElem?_eq_getElem (by omega)⟩
      obtain ⟨q, hq⟩ : ∃ q, s.setters[k]? = some q := ⟨_, List.getElem?_eq_getElem (by omega)⟩
      have hnb := hps.num n (List.mem_of_getElem? hn)
      rcases entB_cases b5 with ⟨a, rfl, ha⟩ | ⟨a, b, c, rfl, ha, hb, hc⟩ | ⟨a, b, c, m, rfl, ha, hb, hab, hcn, hm⟩
      · have hN : (stepS p p.log.length ⟨3, [(a : Int)]⟩ s).now[k]? = some (if a = k then n.tdiv 10 else n) := by
          simp only [stepS, changeS, Int.toNat_natCast]
          rw [List.getElem?_set]
          by_cases hak : a = k
          · subst hak
            have e9 : s.now.getD a 0 = n := by rw [List.getD_eq_getElem?_getD, hn]; rfl
            rw [e9, if_pos rfl, if_pos (by omega), if_pos rfl]
          · rw [if_neg hak, if_neg hak, hn]
        have hS : (stepS p p.log.length ⟨3, [(a : Int)]⟩ s).setters[k]? = some q := by simp [stepS, changeS, hq]
        have hq10 := tdiv10 n hnb
        generalize (stepS p p.log.length ⟨3, [(a : Int)]⟩ s).now = nw at *
        generalize (stepS p p.log.length ⟨3, [(a : Int)]⟩ s).setters = sw at *
        simp [vc_law09_ProofChanged_k9, ints, e1, e2, e3, e4, hn, hq]
        refine ⟨rfl, ?_⟩
        simp [vc_law09_ProofChanged_k7]
        simp [vc_law09_ProofChanged_k5]
        by_cases hak : a = k
        · subst hak
          rw [if_pos rfl] at hN
          have hw := wrap_id (n := n.tdiv 10) (by omega) (by omega)
          have hz : True := trivial
          simp [vc_law09_ProofChanged_k3, hN, hS, hw]
          exact known_call hk (by simp)
        · rw [if_neg hak] at hN
          have hz : ¬ ((a : Int) = (k : Int)) := by omega
          simp [vc_law09_ProofChanged_k4, hN, hS]
          exact ⟨fun h => absurd h hz, fun _ => known_call hk (by simp)⟩
      · have hN : (stepS p p.log.length ⟨2, [a, (b : Int), c]⟩ s).now[k]? = some (if b = k then c else n) := by
          simp only [stepS, changeS, Int.toNat_natCast]
          rw [List.getElem?_set]
          by_cases hak : b = k
          · rw [if_pos hak, if_pos (by omega), if_pos hak]
          · rw [if_neg hak, if_neg hak, hn]
        have hS : (stepS p p.log.length ⟨2, [a, (b : Int), c]⟩ s).setters[k]? = some (if b = k then a else q) := by
          simp only [stepS, changeS, Int.toNat_natCast]
          rw [List.getElem?_set]
          by_cases hak : b = k
          · rw [if_pos hak, if_pos (by omega), if_pos hak]
          · rw [if_neg hak, if_neg hak, hq]
        generalize (stepS p p.log.length ⟨2, [a, (b : Int), c]⟩ s).now = nw at *
        generalize (stepS p p.log.length ⟨2, [a, (b : Int), c]⟩ s).setters = sw at *
        simp [vc_law09_ProofChanged_k9, ints, e1, e2, e3, e4, hn, hq]
        refine ⟨rfl, ?_⟩
        simp [vc_law09_ProofChanged_k8]
        by_cases hak : b = k
        · subst hak
          rw [if_pos rfl] at hN hS
          simp [vc_law09_ProofChanged_k6]
          refine ⟨rfl, ?_⟩
          simp [vc_law09_ProofChanged_k1, hN, hS]
          exact known_call hk (by simp)
        · rw [if_neg hak] at hN hS
          have hz : ¬ ((b : Int) = (k : Int)) := by omega
          simp [vc_law09_ProofChanged_k7, vc_law09_ProofChanged_k4, hN, hS]
          exact ⟨fun h => absurd h hz, fun _ => known_call hk (by simp)⟩
      · have hnow : ∀ (j c2 : Nat) (s2 : Ps), (readN p p.log.length a b j c2 s2).now = s2.now ∧ (readN p p.log.length a b j c2 s2).setters = s2.setters := by
          intro j
          induction j with
          | zero => intro c2 s2; exact ⟨rfl, rfl⟩
          | succ j ih => intro c2 s2; exact ih (c2 + 1) _
        have e0 : ((c : Int) + m - 1 - c + 1).toNat = m := by omega
        have hN : (stepS p p.log.length ⟨1, [a, b, (c : Int), (c : Int) + m - 1]⟩ s).now[k]? = some n := by
          simp only [stepS, Int.toNat_natCast, e0, (hnow m c s).1, hn]
        have hS : (stepS p p.log.length ⟨1, [a, b, (c : Int), (c : Int) + m - 1]⟩ s).setters[k]? = some q := by
          simp only [stepS, Int.toNat_natCast, e0, (hnow m c s).2, hq]
        generalize (stepS p p.log.length ⟨1, [a, b, (c : Int), (c : Int) + m - 1]⟩ s).now = nw at *
        generalize (stepS p p.log.length ⟨1, [a, b, (c : Int), (c : Int) + m - 1]⟩ s).setters = sw at *
        simp [vc_law09_ProofChanged_k9, ints, e1, e2, e3, e4, hn, hq]
        refine ⟨rfl, ?_⟩
        simp [vc_law09_ProofChanged_k7, vc_law09_ProofChanged_k4, hN, hS]
        exact known_call hk (by simp)
end Go.Vc

namespace Go.Vc
open Go Go.RowKit Go.ChangeShapes Go.WideShapes Go.ChangeAt Go.Proofs Go.Proofs.YthdjndbnnajpoaaGreatDoor
theorem changed_calls {H : Type} {enc : TypeId × Value → H} (W : World) (base : Nat) (args : Array Value) (ds : List (DataW H)) (ps : List MemPlace) (hval : ∀ (j : Nat) t v, Tryz.f3.params[j]? = some t → args[j]? = some v → Value.okWide Tryz.prog W .any base t v)
    (hA : DataW.TrodAll enc Tryz.prog W 0 (fun _ => true) true Tryz.f3.params.toList args.toList ds ps) (hL : laidMetH Tryz.prog laidL W) (hsh : W.ShapedOpen Tryz.prog) : Calls Tryz.prog 3 args W fun e W' => e = .returned (.bool true) ∧ Below W.heap.size W W' := by
  rw [Tryz.params3] at hA hval
  obtain ⟨v0, v1, v2, d0, d1, d2, p0, p1, p2, rfl, rfl, rfl, h0, h1, h2⟩ := trodAll_three hA
  obtain ⟨x0, g0⟩ := open_page (hval 0 25 v0 rfl rfl) h0
  obtain ⟨x1, g1⟩ := open_entry (hval 1 29 v1 rfl rfl) h1
  obtain ⟨x2, g2, b2⟩ := open_int' (hval 2 3 v2 rfl rfl) h2
  exact law_calls (C := Tz (gW W)) (changed_meets (gok hL hsh) x0 x1 x2 b2) rfl (Below.refl _ _) (us := [v0, v1, v2]) rfl (fun i d u hd hu => by
    match i, hd, hu with
    | 0, hd, hu => simp at hd hu; subst hd; subst hu; exact g0
    | 1, hd, hu => simp at hd hu; subst hd; subst hu; exact g1
    | 2, hd, hu => simp at hd hu; subst hd; subst hu; exact g2
    | i + 3, hd, hu => simp at hd)
theorem changed_lifted (os : Os) (started : os.Started) (H : Type) (enc : TypeId × Value → H) :
    ReturnsInHanded {} Tryz.checked os 3 .any (fun w args => (Rows.proofChangedSpec.pre enc Tryz.prog Tryz.f3 [] false w args ∧ laidMetH Tryz.prog laidL w) ∧ sizedMet enc Tryz.prog Tryz.f3 (OpenSpec.ofChange Rows.proofChangedSpec) false w args)
      (Rows.proofChangedSpec.post enc Tryz.prog Tryz.f3 false true false false) :=
  law_lifted (C := Tryz.checked) (tb := 4) (n := 3) started own (by kernel_rfl) Tryz.func3
    (ChangeSpec.witness_shaped (enc := enc) (C := Tryz.checked) (os := os) (X := fun w _ => laidMetH Tryz.prog laidL w) false (World.laidAll Tryz.prog os laidL) #[.agg #[.int .i64 0, .slice none 0 0, .slice none 0 0], .agg #[.int .i64 0, .slice none 0 0], .int .i64 0] 8 (World.laidAll_os _ _ _)
      (World.shaped_of_ZipB (by kernel_rfl) (by kernel_rfl)) (by kernel_rfl) (by kernel_rfl) (by kernel_rfl)
      (by rw [MakeChecks.laidMetH_plain _ _ _ (by kernel_rfl)]; exact laidMet_laidAll _ (by kernel_rfl) (by kernel_rfl)))
    laidOut (by kernel_rfl) (by kernel_rfl) Tryz.underlying4 rfl (by kernel_rfl) (fun ds hl => by
      match ds, hl with
      | [a, b, c], _ => rfl) changed_calls
theorem changed_holds : Rows.ProofChangedSaid :=
  OpenClaim.holds_of_wide 3 Tryz.f3 rfl rfl rfl rfl rfl rfl rfl ⟨rfl, rfl, rfl, rfl, rfl⟩ rfl rfl rfl rfl rfl (by kernel_rfl) Tryz.func3 (by kernel_rfl)
    (of_decide_eq_true (by kernel_rfl)) (by unfold Func.isWrapper; first | (rw [if_pos (by decide +kernel)]; kernel_rfl) | (rw [if_neg (by decide +kernel)]; exact ⟨rfl, rfl⟩))
    (fun os started H enc _ => changed_lifted os started H enc)
theorem changed_card : Rows.ProofChangedCardSaid :=
  Claim7.holds_tied_plain_at .later [] [.data, .data, .data, .data, .pinned] true (true, "37bfc3ba26a816bdd744f413de7fa5ad01d8f38205d20d0bea52d9922db35776") true changed_holds (fun _ h => by cases h) (by kernel_rfl) (fun _ h => by cases h) proofChanged_row_tie rfl ⟨rfl, rfl⟩ (by kernel_rfl) rfl
    (fun f fn hf hfn => by
      obtain rfl : f = 3 := Option.some.inj ((show Tryz.prog.funcNamed "ephemerist/ephemeristlaw09.ProofChanged" = some 3 by kernel_rfl).symm.trans hf) |>.symm
      obtain rfl : fn = Tryz.f3 := (Option.some.inj (Tryz.func3.symm.trans hfn)).symm
      exact ⟨by kernel_rfl, fun j t ht => by
        rw [Tryz.params3] at ht
        have hm : t ∈ [25, 29, 3] := by simpa using Array.mem_of_getElem? ht
        have hall : ([25, 29, 3].all fun u => !Tryz.prog.wantsStandIn u) = true := by kernel_rfl
        exact (show Tryz.prog.wantsStandIn t = false by simpa using List.all_eq_true.1 hall t hm)⟩)
    (by kernel_rfl)
end Go.Vc

namespace Go.Proofs.YthdjndbnnajpoaaGreatDoor
theorem law_ProofChangedCardSaid : Rows.ProofChangedCardSaid := Go.Vc.changed_card
end Go.Proofs.YthdjndbnnajpoaaGreatDoor
