/- Proves that the statement ProofTwoCardSaid holds of the given program: for every input the law returns true and leaves its arguments as they were; under the row's own conditions, that the listed tables are laid as the program's text has them. -/
import Derived.Test.YthdjndbnnajpoaaGreatDoorVc23
import Derived.Test.YthdjndbnnajpoaaGreatDoorVc11
import Derived.Test.YthdjndbnnajpoaaGreatDoorVc42
import Derived.Test.YthdjndbnnajpoaaGreatDoorVc26
import Derived.Test.YthdjndbnnajpoaaGreatDoorVc30
set_option maxRecDepth 100000
namespace Go.Vc
open Go Go.Proofs Go.RowKit
def ann_law09_ProofTwo : Nat → List Nat := fun n => match n with  | _ => []
def vc_law09_ProofTwo_k0 (P : Ctx) (pre : List ABlk) (r : AV) (post : List PB) (v0 : AV) (h1 : Heap) (v2 : AV) (a3 : AV) (v6 : AV) (v11 : AV) (v16 : AV) : Prop :=
  CONDG v0
  (POST (.d (.bool false)) h1 pre r post)
  (IADDR 1 T_int v2 a3 h1 fun v4 =>
  LOAD false 1 v4 h1 fun v5 =>
  LEN false v6 h1 fun v7 =>
  BIN 0 .sub (.d (.num .i64 2)) v7 fun v8 =>
  MAXK (.d (.num .i64 0)) v8 fun v9 =>
  BIN 0 .neq v5 v9 fun v10 =>
  COND v10
  (POST (.d (.bool false)) h1 pre r post)
  (NOT v11 fun v12 =>
  CONDG v12
  (CALL P f_law09_known [] 1384 h1 (fun _ v14 h15 =>
  POST v14 h15 pre r post)
  (fun _ _ _ => False))
  (CALL P f_ref01_Listed [v16, a3] 1360 h1 (fun _ v18 h19 =>
  CONDG v18
  (CALL P f_law09_known [] 1384 h19 (fun _ v14 h21 =>
  POST v14 h21 pre r post)
  (fun _ _ _ => False))
  (POST (.d (.bool false)) h19 pre r post))
  (fun _ _ _ => False))))
def vc_law09_ProofTwo_k1 (P : Ctx) (pre : List ABlk) (r : AV) (post : List PB) (v0 : AV) (h1 : Heap) (v4 : AV) (v6 : AV) (a7 : AV) (v13 : AV) (v14 : AV) : Prop :=
  LEN false v0 h1 fun v2 =>
  BIN 0 .geq v2 (.d (.num .i64 2)) fun v3 =>
  BIN 999 .neq v4 v3 fun v5 =>
  CONDG v5
  (POST (.d (.bool false)) h1 pre r post)
  (IADDR 1 T_int v6 a7 h1 fun v8 =>
  LOAD false 1 v8 h1 fun v9 =>
  CALL P f_ref01_Listed [v0, v9] 1216 h1 (fun _ v11 h12 =>
  vc_law09_ProofTwo_k0 P pre r post v11 h12 v13 a7 v0 v4 v14)
  (fun _ _ _ => False))
def vc_law09_ProofTwo_k2 (P : Ctx) (pre : List ABlk) (r : AV) (post : List PB) (v0 : AV) (v3 : AV) (h5 : Heap) (v6 : AV) (v8 : AV) (v10 : AV) (v12 : AV) (v15 : AV) (v17 : AV) (v22 : AV) (v27 : AV) (v33 : AV) (v49 : AV) (a51 : AV) : Prop :=
  EXT v0 0 fun v1 =>
  EXT v0 1 fun v2 =>
  BIN 0 .neq v3 (.d (.num .i64 0)) fun v4 =>
  CONDG v4
  (POST (.d (.bool false)) h5 pre r post)
  (BIN 0 .neq v6 (.d (.num .i64 0)) fun v7 =>
  CONDG v7
  (POST (.d (.bool false)) h5 pre r post)
  (BIN 0 .neq v8 (.d (.num .i64 0)) fun v9 =>
  CONDG v9
  (POST (.d (.bool false)) h5 pre r post)
  (BIN 0 .neq v10 (.d (.num .i64 0)) fun v11 =>
  CONDG v11
  (POST (.d (.bool false)) h5 pre r post)
  (BIN 0 .neq v12 (.d (.num .i64 0)) fun v13 =>
  CONDG v13
  (POST (.d (.bool false)) h5 pre r post)
  (BIN 0 .neq v2 (.d (.num .i64 0)) fun v14 =>
  CONDG v14
  (POST (.d (.bool false)) h5 pre r post)
  (LEN false v15 h5 fun v16 =>
  FADDR 1 v17 h5 fun v18 =>
  LOAD false 1 v18 h5 fun v19 =>
  LEN false v19 h5 fun v20 =>
  BIN 0 .gtr v16 v20 fun v21 =>
  CONDG v21
  (POST (.d (.bool false)) h5 pre r post)
  (LEN false v22 h5 fun v23 =>
  FADDR 0 v17 h5 fun v24 =>
  LOAD false 1 v24 h5 fun v25 =>
  BIN 0 .gtr v23 v25 fun v26 =>
  CONDG v26
  (POST (.d (.bool false)) h5 pre r post)
  (LEN false v27 h5 fun v28 =>
  FADDR 1 v17 h5 fun v29 =>
  LOAD false 1 v29 h5 fun v30 =>
  LEN false v30 h5 fun v31 =>
  BIN 0 .neq v28 v31 fun v32 =>
  CONDG v32
  (POST (.d (.bool false)) h5 pre r post)
  (LEN false v33 h5 fun v34 =>
  FADDR 1 v17 h5 fun v35 =>
  LOAD false 1 v35 h5 fun v36 =>
  LEN false v36 h5 fun v37 =>
  BIN 0 .neq v34 v37 fun v38 =>
  CONDG v38
  (POST (.d (.bool false)) h5 pre r post)
  (LEN false v1 h5 fun v39 =>
  FADDR 1 v17 h5 fun v40 =>
  LOAD false 1 v40 h5 fun v41 =>
  LEN false v41 h5 fun v42 =>
  BIN 0 .gtr v39 v42 fun v43 =>
  CONDG v43
  (POST (.d (.bool false)) h5 pre r post)
  (LEN false v15 h5 fun v44 =>
  FADDR 1 v17 h5 fun v45 =>
  LOAD false 1 v45 h5 fun v46 =>
  LEN false v46 h5 fun v47 =>
  BIN 0 .eql v44 v47 fun v48 =>
  BIN 999 .neq v49 v48 fun v50 =>
  COND v50
  (POST (.d (.bool false)) h5 pre r post)
  (CALL P f_ref01_Listed [v15, a51] 1112 h5 (fun _ v53 h54 =>
  vc_law09_ProofTwo_k1 P pre r post v22 h54 v53 v33 a51 v27 v1)
  (fun _ _ _ => False)))))))))))))
def vc_law09_ProofTwo_k3 (P : Ctx) (pre : List ABlk) (r : AV) (post : List PB) (v0 : AV) (v3 : AV) (h4 : Heap) (v6 : AV) (v14 : AV) (v15 : AV) (v16 : AV) (v17 : AV) (v18 : AV) (v19 : AV) (v20 : AV) (v21 : AV) (a22 : AV) : Prop :=
  EXT v0 0 fun v1 =>
  EXT v0 1 fun v2 =>
  LOAD true 3 v3 h4 fun v5 =>
  LOAD true 2 v6 h4 fun v7 =>
  CALL P f_ref09_With [v5, v7] 472 h4 (fun _ v9 h10 =>
  CALL P f_proof_Passes [v9] 480 h10 (fun _ v12 h13 =>
  vc_law09_ProofTwo_k2 P pre r post v12 v14 h13 v15 v16 v17 v2 v18 v3 v19 v20 v1 v21 a22)
  (fun _ _ _ => False))
  (fun _ _ _ => False)
def vc_law09_ProofTwo_k4 (P : Ctx) (pre : List ABlk) (r : AV) (post : List PB) (v0 : AV) (v3 : AV) (h4 : Heap) (v15 : AV) (v16 : AV) (v17 : AV) (v18 : AV) (v19 : AV) (a20 : AV) : Prop :=
  EXT v0 0 fun v1 =>
  EXT v0 1 fun v2 =>
  LOAD true 3 v3 h4 fun v5 =>
  CALL P f_proof_Short [v5] 352 h4 (fun _ v7 h8 =>
  EXT v7 0 fun v9 =>
  EXT v7 1 fun v10 =>
  LOAD true 3 v3 h8 fun v11 =>
  CALL P f_proof_Setters [v11] 408 h8 (fun _ v13 h14 =>
  vc_law09_ProofTwo_k3 P pre r post v13 v3 h14 v15 v16 v17 v2 v10 v18 v1 v9 v19 a20)
  (fun _ _ _ => False))
  (fun _ _ _ => False)
def vc_law09_ProofTwo_k5 (P : Ctx) (pre : List ABlk) (r : AV) (post : List PB) (v0 : AV) (v3 : AV) (h4 : Heap) (a12 : AV) (v16 : AV) : Prop :=
  EXT v0 0 fun v1 =>
  EXT v0 1 fun v2 =>
  LOAD true 3 v3 h4 fun v5 =>
  CALL P f_proof_Pass [v5] 232 h4 (fun _ v7 h8 =>
  EXT v7 0 fun v9 =>
  EXT v7 1 fun v10 =>
  LOAD true 3 v3 h8 fun v11 =>
  CALL P f_proof_Readers [v11, a12] 296 h8 (fun _ v14 h15 =>
  vc_law09_ProofTwo_k4 P pre r post v14 v3 h15 v16 v2 v10 v1 v9 a12)
  (fun _ _ _ => False))
  (fun _ _ _ => False)
def vc_law09_ProofTwo_k6 (P : Ctx) (pre : List ABlk) (r : AV) (post : List PB) (v0 : AV) (h2 : Heap) (v6 : AV) (v12 : AV) (a17 : AV) : Prop :=
  NOT v0 fun v1 =>
  CONDG v1
  (CALL P f_law09_known [] 168 h2 (fun _ v4 h5 =>
  POST v4 h5 pre r post)
  (fun _ _ _ => False))
  (FADDR 0 v6 h2 fun v7 =>
  LOAD false 1 v7 h2 fun v8 =>
  BIN 0 .neq v8 (.d (.num .i64 1)) fun v9 =>
  COND v9
  (CALL P f_law09_known [] 168 h2 (fun _ v4 h11 =>
  POST v4 h11 pre r post)
  (fun _ _ _ => False))
  (LOAD true 3 v12 h2 fun v13 =>
  CALL P f_proof_Passes [v13] 176 h2 (fun _ v15 h16 =>
  vc_law09_ProofTwo_k5 P pre r post v15 v12 h16 a17 v6)
  (fun _ _ _ => False)))
def vc_law09_ProofTwo_k7 (P : Ctx) (pre : List ABlk) (r : AV) (post : List PB) (v0 : AV) (h2 : Heap) (v6 : AV) (a8 : AV) (v12 : AV) : Prop :=
  NOT v0 fun v1 =>
  CONDG v1
  (CALL P f_law09_known [] 168 h2 (fun _ v4 h5 =>
  POST v4 h5 pre r post)
  (fun _ _ _ => False))
  (LOAD true 3 v6 h2 fun v7 =>
  CALL P f_ref09_Line [v7, a8] 104 h2 (fun _ v10 h11 =>
  vc_law09_ProofTwo_k6 P pre r post v10 h11 v12 v6 a8)
  (fun _ _ _ => False))
def vc_law09_ProofTwo (P : Ctx) (pre : List ABlk) (a0 a1 a2 : AV) (r : AV) (post : List PB) : Prop :=
  let h0 : Heap := numbered 0 pre
  BOX T_api_ProofPage a0 24 h0 fun v3 h1 =>
  BOX T_api_ProofEntry a1 32 h1 fun v4 h2 =>
  LOAD true 3 v3 h2 fun v20 =>
  LOAD true 2 v4 h2 fun v21 =>
  CALL P f_law09_room [v20, v21] 64 h2 (fun _ v22 h3 =>
  vc_law09_ProofTwo_k7 P pre r post v22 h3 v3 a2 v4)
  (fun _ _ _ => False)
theorem vc_law09_ProofTwo_eq (g : GG) (pre : List ABlk) (a0 a1 a2 : AV) (r : AV) (post : List PB) : vcFn2 (Tz g) false ann_law09_ProofTwo Tryz.f7 pre [a0, a1, a2] (.ret r) post = vc_law09_ProofTwo (Tz g) pre a0 a1 a2 r post := by kernel_rfl
theorem hf_law09_ProofTwo : Tryz.prog.funcs[f_law09_ProofTwo]? = some Tryz.f7 := by kernel_rfl
theorem ok_law09_ProofTwo : fnVcOK Tryz.prog Tryz.f7 = true := by kernel_rfl
theorem nt_law09_ProofTwo : Nat.ble 3 Tryz.f7.ntmps = true := by kernel_rfl
theorem meetsH_law09_ProofTwo {g : GG} {pre : List ABlk} {a0 a1 a2 : AV} {r : AV} {post : List PB} (hk : Nat.ble pre.length 24 = true) (h : vc_law09_ProofTwo (Tz g) pre a0 a1 a2 r post) : MeetsH (Tz g) f_law09_ProofTwo pre [a0, a1, a2] (.ret r) post :=
  meetsH_of_vc (C := Tz g) ann_law09_ProofTwo hf_law09_ProofTwo ok_law09_ProofTwo nt_law09_ProofTwo hk (pn := false) (Eq.mpr ((vcFn2_eq _ _ _ _ _ _ _ _).trans (vc_law09_ProofTwo_eq g pre a0 a1 a2 r post)) h)
theorem meets_law09_ProofTwo {g : GG} {a0 a1 a2 : D} {r : Res} (h : vc_law09_ProofTwo (Tz g) [] (.d a0) (.d a1) (.d a2) r.val (r.bl.map .upd)) : Meets (Tz g) f_law09_ProofTwo [a0, a1, a2] r := meetsH_law09_ProofTwo rfl h
end Go.Vc

namespace Go.Vc
open Go Go.Proofs
variable {g : GG}
attribute [local simp] and_assoc
theorem mem_fltL {f : Nat → Bool} {m k : Nat} : (k : Int) ∈ fltL f m ↔ k < m ∧ f k = true := by
  simp only [fltL, List.mem_map, List.mem_filter, List.mem_range]
  constructor
  · rintro ⟨n, ⟨h1, h2⟩, h3⟩
    have : n = k := by omega
    subst this
    exact ⟨h1, h2⟩
  · intro h
    exact ⟨k, h, rfl⟩
theorem fltL_mono {f h : Nat → Bool} {m : Nat} (hi : ∀ k, k < m → f k = true → h k = true) : (fltL f m).length ≤ (fltL h m).length := by
  simp only [fltL, List.length_map, ← List.countP_eq_length_filter]
  exact List.countP_mono_left (fun x hx => hi x (List.mem_range.1 hx))
theorem rdN_read {p : Pg} {s : Ps} {a b : Int} {c j : Nat} (line : Nat) : rdN p s line ≤ rdN p (readN p p.log.length a b j c s) line := by
  unfold rdN readersL
  have := fltL_mono (f := rdB s line) (h := rdB (readN p p.log.length a b j c s) line) (m := p.people.toNat) (fun k hk h => by
    simp only [rdB, Bool.and_eq_true] at h ⊢
    rw [hasK_readN, (readN_now p p.log.length a b j c s).2.1, h.1]
    exact ⟨by simp, h.2⟩)
  simpa [fltL] using this
set_option maxHeartbeats 4000000 in
theorem two_meets (hg : GOK g) (p : Pg) (x : Nt) (line : Int) (_ : -9223372036854775808 ≤ line ∧ line ≤ 9223372036854775807) : Meets (Tz g) f_law09_ProofTwo [p.d, x.d, int line] ⟨.d (.bool true), []⟩ := by
  have hk := known_meets hg
  refine meets_law09_ProofTwo ?_
  unfold vc_law09_ProofTwo
  simp [Pg.d, lns, ents, Nt.d, ints]
  refine CALL.val [p.d, x.d] _ rfl (law09_room_meets p x) (.inl rfl) ?_
  cases hr : roomB p x with
  | false =>
    simp [vc_law09_ProofTwo_k7]
    exact known_call hk (by simp)
  | true =>
    simp [roomB, rightB] at hr
    obtain ⟨b1, b2, b3, b4, b5⟩ := hr
    obtain ⟨a1, a2, a3, a4, a5, a6, a7⟩ := Pg.ok_len b2
    simp [vc_law09_ProofTwo_k7]
    refine CALL.val [p.d, int line] _ rfl (ref09_Line_meets p line (by omega)) (.inl rfl) ?_
    cases hl : lineB p line with
    | false =>
      simp [vc_law09_ProofTwo_k6]
      exact known_call hk (by simp)
    | true =>
      obtain ⟨k, rfl, hk2⟩ := inB_nat hl
      have hkl : k < p.lines.length := by omega
      have hwok := withE_ok b2 b5 b4
      have hW := ref09_With_meets (g := g) p x (by omega)
      rcases entB_cases b5 with ⟨a, rfl, ha⟩ | ⟨a, b, c, rfl, ha, hb, hc⟩ | ⟨a, b, c, j, rfl, ha, hb, hab, hcn, hj⟩
      · simp [vc_law09_ProofTwo_k6]
        exact known_call hk (by simp)
      · simp [vc_law09_ProofTwo_k6]
        exact known_call hk (by simp)
      · have hpl := passP_len p
        have hpl2 : (passP (withE p ⟨1, [a, b, (c : Int), (c : Int) + j - 1]⟩)).length ≤ p.lines.length := passP_len _
        have hrl := readersP_len p k
        have hsl := settersL_len b2
        have hshl : (shortL p).length = p.lines.length := by simp [shortL]
        have hall : allP p = decide ((passP p).length = p.lines.length) := rfl
        have hown : decide ((k : Int) ∈ passP p) = decide (2 ≤ (readersP p k).length) := decide_eq_decide.2 (by
          unfold passP passL
          rw [mem_fltL]
          have : passB p (stN p p.log.length) k = decide (2 ≤ (readersP p k).length) := rfl
          rw [this]
          simp [hkl])
        obtain ⟨q, hq⟩ : ∃ q, (settersL p)[k]? = some q := ⟨_, List.getElem?_eq_getElem (by omega)⟩
        have hnot : q ∉ readersP p k := fun h => by
          have := (mem_readersL.1 h).2.2.2
          have h2 : (stN p p.log.length).setters.getD k 0 = q := by
            rw [List.getD_eq_getElem?_getD]
            have : (stN p p.log.length).setters[k]? = some q := hq
            rw [this]; rfl
          exact this h2.symm
        have hsh : (shortL p)[k]? = some (shortOf (readersP p k).length) := by simp [shortL, hkl]
        have hlater : 2 ≤ (readersP p k).length → (k : Int) ∈ passP (withE p ⟨1, [a, b, (c : Int), (c : Int) + j - 1]⟩) := fun h => by
          unfold passP passL
          rw [mem_fltL]
          refine ⟨hkl, decide_eq_true ?_⟩
          rw [stN_last]
          have e0 : ((c : Int) + j - 1 - c + 1).toNat = j := by omega
          have hst : stepS p p.log.length ⟨1, [a, b, (c : Int), (c : Int) + j - 1]⟩ (stN p p.log.length) = readN p p.log.length a b j c (stN p p.log.length) := by
            simp only [stepS, Int.toNat_natCast, e0]
          rw [hst]
          have := rdN_read (p := p) (s := stN p p.log.length) (a := a) (b := b) (c := c) (j := j) k
          exact Nat.le_trans h this
        simp [vc_law09_ProofTwo_k6]
        refine CALL.mk [p.d] _ rfl (proof_Passes_data p b2) (.inl rfl) (by simp) ?_
        simp [vc_law09_ProofTwo_k5]
        refine CALL.mk [p.d] _ rfl (proof_Pass_data p b2) (.inl rfl) (by simp) ?_
        simp
        refine CALL.mk [p.d, int k] _ rfl (proof_Readers_data p k b2 hkl) (.inl rfl) (by simp) ?_
        simp [vc_law09_ProofTwo_k4]
        refine CALL.mk [p.d] _ rfl (proof_Short_data p b2) (.inl rfl) (by simp) ?_
        simp
        refine CALL.mk [p.d] _ rfl (proof_Setters_data p b2) (.inl rfl) (by simp) ?_
        simp [vc_law09_ProofTwo_k3]
        refine CALL.val [p.d, (⟨1, [a, b, (c : Int), (c : Int) + j - 1]⟩ : Nt).d] _ (by simp [Nt.d, ints, Pg.d, lns, ents]) hW (.inl rfl) ?_
        refine CALL.mk [(withE p ⟨1, [a, b, (c : Int), (c : Int) + j - 1]⟩).d] _ rfl (proof_Passes_data _ hwok) (.inl rfl) (by simp) ?_
        simp [vc_law09_ProofTwo_k2, ints]
        refine ⟨hpl, fun _ => ⟨by omega, fun _ => ⟨by omega, fun _ => ⟨by omega, fun _ => ⟨hpl2, fun _ => ⟨?_, fun _ => ?_⟩⟩⟩⟩⟩⟩
        · rw [hall]; exact decide_eq_decide.2 (by omega)
        refine CALL.val [ints (passP p), int k] _ rfl (ref01_Listed_meets _ _ (by omega)) (.inl rfl) ?_
        rw [hown]
        generalize hR : readersP p k = R at *
        simp [vc_law09_ProofTwo_k1]
        have hd : decide (2 ≤ R.length) = decide ((2 : Int) ≤ (R.length : Int)) := decide_eq_decide.2 (by omega)
        refine ⟨by omega, fun _ => ?_⟩
        simp [hq, hsl]
        refine CALL.val [ints R, int q] _ rfl (ref01_Listed_meets _ _ (by omega)) (.inl rfl) ?_
        rw [decide_eq_false hnot]
        simp [vc_law09_ProofTwo_k0, hsh, hshl]
        rw [wrap_id (n := 2 - (R.length : Int)) (by omega) (by omega)]
        refine ⟨rfl, fun _ => ⟨fun _ => known_call hk (by simp), fun h2 => ?_⟩⟩
        refine CALL.val [ints (passP (withE p ⟨1, [a, b, (c : Int), (c : Int) + j - 1]⟩)), int k] _ rfl (ref01_Listed_meets _ _ (by omega)) (.inl rfl) ?_
        rw [decide_eq_true (hlater h2)]
        simp
        exact known_call hk (by simp)
end Go.Vc

namespace Go.Vc
open Go Go.RowKit Go.ChangeShapes Go.WideShapes Go.ChangeAt Go.Proofs Go.Proofs.YthdjndbnnajpoaaGreatDoor
theorem two_calls {H : Type} {enc : TypeId × Value → H} (W : World) (base : Nat) (args : Array Value) (ds : List (DataW H)) (ps : List MemPlace) (hval : ∀ (j : Nat) t v, Tryz.f7.params[j]? = some t → args[j]? = some v → Value.okWide Tryz.prog W .any base t v)
    (hA : DataW.TrodAll enc Tryz.prog W 0 (fun _ => true) true Tryz.f7.params.toList args.toList ds ps) (hL : laidMetH Tryz.prog laidL W) (hsh : W.ShapedOpen Tryz.prog) : Calls Tryz.prog 7 args W fun e W' => e = .returned (.bool true) ∧ Below W.heap.size W W' := by
  rw [Tryz.params7] at hA hval
  obtain ⟨v0, v1, v2, d0, d1, d2, p0, p1, p2, rfl, rfl, rfl, h0, h1, h2⟩ := trodAll_three hA
  obtain ⟨x0, g0⟩ := open_page (hval 0 25 v0 rfl rfl) h0
  obtain ⟨x1, g1⟩ := open_entry (hval 1 29 v1 rfl rfl) h1
  obtain ⟨x2, g2, b2⟩ := open_int' (hval 2 3 v2 rfl rfl) h2
  exact law_calls (C := Tz (gW W)) (two_meets (gok hL hsh) x0 x1 x2 b2) rfl (Below.refl _ _) (us := [v0, v1, v2]) rfl (fun i d u hd hu => by
    match i, hd, hu with
    | 0, hd, hu => simp at hd hu; subst hd; subst hu; exact g0
    | 1, hd, hu => simp at hd hu; subst hd; subst hu; exact g1
    | 2, hd, hu => simp at hd hu; subst hd; subst hu; exact g2
    | i + 3, hd, hu => simp at hd)
theorem two_lifted (os : Os) (started : os.Started) (H : Type) (enc : TypeId × Value → H) :
    ReturnsInHanded {} Tryz.checked os 7 .any (fun w args => (Rows.proofTwoSpec.pre enc Tryz.prog Tryz.f7 [] false w args ∧ laidMetH Tryz.prog laidL w) ∧ sizedMet enc Tryz.prog Tryz.f7 (OpenSpec.ofChange Rows.proofTwoSpec) false w args)
      (Rows.proofTwoSpec.post enc Tryz.prog Tryz.f7 false true false false) :=
  law_lifted (C := Tryz.checked) (tb := 4) (n := 3) started own (by kernel_rfl) Tryz.func7
    (ChangeSpec.witness_shaped (enc := enc) (C := Tryz.checked) (os := os) (X := fun w _ => laidMetH Tryz.prog laidL w) false (World.laidAll Tryz.prog os laidL) #[.agg #[.int .i64 0, .slice none 0 0, .slice none 0 0], .agg #[.int .i64 0, .slice none 0 0], .int .i64 0] 8 (World.laidAll_os _ _ _)
      (World.shaped_of_ZipB (by kernel_rfl) (by kernel_rfl)) (by kernel_rfl) (by kernel_rfl) (by kernel_rfl)
      (by rw [MakeChecks.laidMetH_plain _ _ _ (by kernel_rfl)]; exact laidMet_laidAll _ (by kernel_rfl) (by kernel_rfl)))
    laidOut (by kernel_rfl) (by kernel_rfl) Tryz.underlying4 rfl (by kernel_rfl) (fun ds hl => by
      match ds, hl with
      | [a, b, c], _ => rfl) two_calls
theorem two_holds : Rows.ProofTwoSaid :=
  OpenClaim.holds_of_wide 7 Tryz.f7 rfl rfl rfl rfl rfl rfl rfl ⟨rfl, rfl, rfl, rfl, rfl⟩ rfl rfl rfl rfl rfl (by kernel_rfl) Tryz.func7 (by kernel_rfl)
    (of_decide_eq_true (by kernel_rfl)) (by unfold Func.isWrapper; first | (rw [if_pos (by decide +kernel)]; kernel_rfl) | (rw [if_neg (by decide +kernel)]; exact ⟨rfl, rfl⟩))
    (fun os started H enc _ => two_lifted os started H enc)
theorem two_card : Rows.ProofTwoCardSaid :=
  Claim7.holds_tied_plain_at .later [] [.data, .data, .data, .data, .pinned] true (true, "37bfc3ba26a816bdd744f413de7fa5ad01d8f38205d20d0bea52d9922db35776") true two_holds (fun _ h => by cases h) (by kernel_rfl) (fun _ h => by cases h) proofTwo_row_tie rfl ⟨rfl, rfl⟩ (by kernel_rfl) rfl
    (fun f fn hf hfn => by
      obtain rfl : f = 7 := Option.some.inj ((show Tryz.prog.funcNamed "ephemerist/ephemeristlaw09.ProofTwo" = some 7 by kernel_rfl).symm.trans hf) |>.symm
      obtain rfl : fn = Tryz.f7 := (Option.some.inj (Tryz.func7.symm.trans hfn)).symm
      exact ⟨by kernel_rfl, fun j t ht => by
        rw [Tryz.params7] at ht
        have hm : t ∈ [25, 29, 3] := by simpa using Array.mem_of_getElem? ht
        have hall : ([25, 29, 3].all fun u => !Tryz.prog.wantsStandIn u) = true := by kernel_rfl
        exact (show Tryz.prog.wantsStandIn t = false by simpa using List.all_eq_true.1 hall t hm)⟩)
    (by kernel_rfl)
end Go.Vc

namespace Go.Proofs.YthdjndbnnajpoaaGreatDoor
theorem law_ProofTwoCardSaid : Rows.ProofTwoCardSaid := Go.Vc.two_card
end Go.Proofs.YthdjndbnnajpoaaGreatDoor
