/- Proves that the statement DifferTablesCardSaid holds of the given program: for every input the law returns true and leaves its arguments as they were; under the row's own conditions, that the listed tables are laid as the program's text has them. -/
import Derived.Test.YtflbianfhogdjaaGreatDoorVc22
import Derived.Test.YtflbianfhogdjaaGreatDoorVc11
import Derived.Test.YtflbianfhogdjaaGreatDoorVc38
import Derived.Test.YtflbianfhogdjaaGreatDoorVc38
import Derived.Test.YtflbianfhogdjaaGreatDoorVc28
set_option maxRecDepth 100000
namespace Go.Vc
open Go Go.Proofs Go.RowKit
def ann_law01_DifferTables : Nat → List Nat := fun n => match n with  | _ => []
def vc_law01_DifferTables_k0 (P : Ctx) (pre : List ABlk) (r : AV) (post : List PB) (v0 : AV) (v2 : AV) (h3 : Heap) : Prop :=
  BIN 0 .eql v0 (.d (.num .i64 2)) fun v1 =>
  CONDG v1
  (LEN false v2 h3 fun v4 =>
  BIN 0 .eql v4 (.d (.num .i64 0)) fun v5 =>
  CONDG v5
  (CALL P f_law01_known [] 512 h3 (fun _rd6 v7 h8 =>
  POST v7 h8 pre r post)
  (fun _ _ _ => False))
  (POST (.d (.bool false)) h3 pre r post))
  (POST (.d (.bool false)) h3 pre r post)
def vc_law01_DifferTables_k1 (P : Ctx) (pre : List ABlk) (r : AV) (post : List PB) (v0 : AV) (a2 : AV) (a3 : AV) (h4 : Heap) (v8 : AV) : Prop :=
  BIN 0 .eql v0 (.d (.num .i64 0)) fun v1 =>
  CONDG v1
  (CALL P f_ref01_At [a2, a3] 496 h4 (fun _rd5 v6 h7 =>
  CALL P f_ref01_Same [v8, v6] 504 h7 (fun _rd9 v10 h11 =>
  CONDG v10
  (CALL P f_law01_known [] 528 h11 (fun _rd12 v13 h14 =>
  POST v13 h14 pre r post)
  (fun _ _ _ => False))
  (POST (.d (.bool false)) h11 pre r post))
  (fun _ _ _ => False))
  (fun _ _ _ => False))
  (POST (.d (.bool false)) h4 pre r post)
def vc_law01_DifferTables_k2 (P : Ctx) (pre : List ABlk) (r : AV) (post : List PB) (v0 : AV) (h2 : Heap) (v3 : AV) (a5 : AV) (v10 : AV) (v11 : AV) (a12 : AV) : Prop :=
  NOT v0 fun v1 =>
  COND v1
  (POST (.d (.bool false)) h2 pre r post)
  (LOAD true 3 v3 h2 fun v4 =>
  CALL P f_ref01_Line [v4, a5] 432 h2 (fun _rd6 v7 h8 =>
  NOT v7 fun v9 =>
  COND v9
  (vc_law01_DifferTables_k0 P pre r post v10 v11 h8)
  (vc_law01_DifferTables_k1 P pre r post v10 a12 a5 h8 v11))
  (fun _ _ _ => False))
def vc_law01_DifferTables_k3 (P : Ctx) (pre : List ABlk) (r : AV) (post : List PB) (v0 : AV) (v2 : AV) (h3 : Heap) (v6 : AV) (v8 : AV) : Prop :=
  BIN 0 .eql v0 (.d (.num .i64 2)) fun v1 =>
  CONDG v1
  (LEN false v2 h3 fun v4 =>
  BIN 0 .eql v4 (.d (.num .i64 0)) fun v5 =>
  CONDG v5
  (BIN 0 .eql v6 (.d (.num .i64 2)) fun v7 =>
  CONDG v7
  (LEN false v8 h3 fun v9 =>
  BIN 0 .eql v9 (.d (.num .i64 0)) fun v10 =>
  CONDG v10
  (CALL P f_law01_known [] 472 h3 (fun _rd11 v12 h13 =>
  POST v12 h13 pre r post)
  (fun _ _ _ => False))
  (POST (.d (.bool false)) h3 pre r post))
  (POST (.d (.bool false)) h3 pre r post))
  (POST (.d (.bool false)) h3 pre r post))
  (POST (.d (.bool false)) h3 pre r post)
def vc_law01_DifferTables_k4 (P : Ctx) (pre : List ABlk) (r : AV) (post : List PB) (v0 : AV) (h2 : Heap) (v3 : AV) (a5 : AV) (v9 : AV) (a13 : AV) (v14 : AV) (v15 : AV) : Prop :=
  BIN 0 .neq v0 (.d (.num .i64 0)) fun v1 =>
  CONDG v1
  (POST (.d (.bool false)) h2 pre r post)
  (LOAD true 3 v3 h2 fun v4 =>
  CALL P f_ref01_Table [v4, a5] 384 h2 (fun _rd6 v7 h8 =>
  CALL P f_ref01_Same [v9, v7] 392 h8 (fun _rd10 v11 h12 =>
  vc_law01_DifferTables_k2 P pre r post v11 h12 v3 a13 v14 v15 a5)
  (fun _ _ _ => False))
  (fun _ _ _ => False))
def vc_law01_DifferTables_k5 (P : Ctx) (pre : List ABlk) (r : AV) (post : List PB) (v0 : AV) (v2 : AV) (v4 : AV) (h5 : Heap) (v8 : AV) (v10 : AV) : Prop :=
  BIN 0 .eql v0 (.d (.num .i64 2)) fun v1 =>
  CONDG v1
  (BIN 0 .eql v2 (.d (.num .i64 2)) fun v3 =>
  CONDG v3
  (LEN false v4 h5 fun v6 =>
  BIN 0 .eql v6 (.d (.num .i64 0)) fun v7 =>
  CONDG v7
  (BIN 0 .eql v8 (.d (.num .i64 2)) fun v9 =>
  CONDG v9
  (LEN false v10 h5 fun v11 =>
  BIN 0 .eql v11 (.d (.num .i64 0)) fun v12 =>
  CONDG v12
  (CALL P f_law01_known [] 456 h5 (fun _rd13 v14 h15 =>
  POST v14 h15 pre r post)
  (fun _ _ _ => False))
  (POST (.d (.bool false)) h5 pre r post))
  (POST (.d (.bool false)) h5 pre r post))
  (POST (.d (.bool false)) h5 pre r post))
  (POST (.d (.bool false)) h5 pre r post))
  (POST (.d (.bool false)) h5 pre r post)
def vc_law01_DifferTables_k6 (P : Ctx) (pre : List ABlk) (r : AV) (post : List PB) (v0 : AV) (h2 : Heap) (v3 : AV) (a5 : AV) (v10 : AV) (v11 : AV) (v12 : AV) (v13 : AV) (a14 : AV) : Prop :=
  BIN 0 .neq v0 (.d (.num .i64 0)) fun v1 =>
  COND v1
  (POST (.d (.bool false)) h2 pre r post)
  (LOAD true 3 v3 h2 fun v4 =>
  CALL P f_ref01_Truth [v4, a5] 320 h2 (fun _rd6 v7 h8 =>
  NOT v7 fun v9 =>
  COND v9
  (vc_law01_DifferTables_k3 P pre r post v10 v11 h8 v12 v13)
  (vc_law01_DifferTables_k4 P pre r post v10 h8 v3 a5 v11 a14 v12 v13))
  (fun _ _ _ => False))
def vc_law01_DifferTables_k7 (P : Ctx) (pre : List ABlk) (r : AV) (post : List PB) (v0 : AV) (v3 : AV) (h4 : Heap) (v10 : AV) (v11 : AV) (v12 : AV) (a13 : AV) (a14 : AV) : Prop :=
  EXT v0 0 fun v1 =>
  EXT v0 1 fun v2 =>
  LOAD true 3 v3 h4 fun v5 =>
  CALL P f_ref01_Plan [v5] 272 h4 (fun _rd6 v7 h8 =>
  NOT v7 fun v9 =>
  COND v9
  (vc_law01_DifferTables_k5 P pre r post v10 v11 v12 h8 v2 v1)
  (vc_law01_DifferTables_k6 P pre r post v10 h8 v3 a13 v11 v12 v2 v1 a14))
  (fun _ _ _ => False)
def vc_law01_DifferTables_k8 (P : Ctx) (pre : List ABlk) (r : AV) (post : List PB) (v0 : AV) (h1 : Heap) (a3 : AV) (a10 : AV) (v14 : AV) : Prop :=
  LOAD true 3 v0 h1 fun v2 =>
  CALL P f_differ_Table [v2, a3] 144 h1 (fun _rd4 v5 h6 =>
  EXT v5 0 fun v7 =>
  EXT v5 1 fun v8 =>
  LOAD true 3 v0 h6 fun v9 =>
  CALL P f_differ_State [v9, a3, a10] 216 h6 (fun _rd11 v12 h13 =>
  vc_law01_DifferTables_k7 P pre r post v12 v0 h13 v14 v8 v7 a3 a10)
  (fun _ _ _ => False))
  (fun _ _ _ => False)
def vc_law01_DifferTables_k9 (P : Ctx) (pre : List ABlk) (r : AV) (post : List PB) (v0 : AV) (h2 : Heap) (a6 : AV) (v11 : AV) (a16 : AV) : Prop :=
  NOT v0 fun v1 =>
  CONDG v1
  (CALL P f_law01_known [] 104 h2 (fun _rd3 v4 h5 =>
  POST v4 h5 pre r post)
  (fun _ _ _ => False))
  (LEN false a6 h2 fun v7 =>
  BIN 0 .gtr v7 (.d (.num .i64 6)) fun v8 =>
  COND v8
  (CALL P f_law01_known [] 104 h2 (fun _rd9 v4 h10 =>
  POST v4 h10 pre r post)
  (fun _ _ _ => False))
  (LOAD true 3 v11 h2 fun v12 =>
  CALL P f_differ_Check [v12] 112 h2 (fun _rd13 v14 h15 =>
  vc_law01_DifferTables_k8 P pre r post v11 h15 a6 a16 v14)
  (fun _ _ _ => False)))
def vc_law01_DifferTables (P : Ctx) (pre : List ABlk) (a0 a1 a2 : AV) (r : AV) (post : List PB) : Prop :=
  let h0 : Heap := numbered 0 pre
  BOX T_api_DifferPlan a0 24 h0 fun v3 h1 =>
  LOAD true 3 v3 h1 fun v12 =>
  CALL P f_law01_short [v12] 48 h1 (fun _rd3 v13 h2 =>
  vc_law01_DifferTables_k9 P pre r post v13 h2 a1 v3 a2)
  (fun _ _ _ => False)
theorem vc_law01_DifferTables_eq (g : GG) (pre : List ABlk) (a0 a1 a2 : AV) (r : AV) (post : List PB) : vcFn2 (Tz g) false ann_law01_DifferTables Tryz.f9 pre [a0, a1, a2] (.ret r) post = vc_law01_DifferTables (Tz g) pre a0 a1 a2 r post := by kernel_rfl
theorem hf_law01_DifferTables : Tryz.prog.funcs[f_law01_DifferTables]? = some Tryz.f9 := by kernel_rfl
theorem ok_law01_DifferTables : fnVcOK Tryz.prog Tryz.f9 = true := by kernel_rfl
theorem nt_law01_DifferTables : Nat.ble 3 Tryz.f9.ntmps = true := by kernel_rfl
theorem meetsH_law01_DifferTables {g : GG} {pre : List ABlk} {a0 a1 a2 : AV} {r : AV} {post : List PB} (hk : Nat.ble pre.length 24 = true) (h : vc_law01_DifferTables (Tz g) pre a0 a1 a2 r post) : MeetsH (Tz g) f_law01_DifferTables pre [a0, a1, a2] (.ret r) post :=
  meetsH_of_vc (C := Tz g) ann_law01_DifferTables hf_law01_DifferTables ok_law01_DifferTables nt_law01_DifferTables hk (pn := false) (Eq.mpr ((vcFn2_eq _ _ _ _ _ _ _ _).trans (vc_law01_DifferTables_eq g pre a0 a1 a2 r post)) h)
theorem meets_law01_DifferTables {g : GG} {a0 a1 a2 : D} {r : Res} (h : vc_law01_DifferTables (Tz g) [] (.d a0) (.d a1) (.d a2) r.val (r.bl.map .upd)) : Meets (Tz g) f_law01_DifferTables [a0, a1, a2] r := meetsH_law01_DifferTables rfl h
def ann_differ_Check : Nat → List Nat := fun n => match n with  | _ => []
def vc_differ_Check (P : Ctx) (pre : List ABlk) (a0 : AV) (r : AV) (post : List PB) : Prop :=
  let h0 : Heap := numbered 0 pre
  BOX T_api_DifferPlan a0 24 h0 fun v1 h1 =>
  LOAD true 3 v1 h1 fun v3 =>
  CALL P f_differ_isPlan [v3] 48 h1 (fun _rd3 v4 h2 =>
  NOT v4 fun v5 =>
  COND v5
  (POST (.d (.num .i64 2)) h2 pre r post)
  (POST (.d (.num .i64 0)) h2 pre r post))
  (fun _ _ _ => False)
theorem vc_differ_Check_eq (g : GG) (pre : List ABlk) (a0 : AV) (r : AV) (post : List PB) : vcFn2 (Tz g) false ann_differ_Check Tryz.f37 pre [a0] (.ret r) post = vc_differ_Check (Tz g) pre a0 r post := by kernel_rfl
theorem hf_differ_Check : Tryz.prog.funcs[f_differ_Check]? = some Tryz.f37 := by kernel_rfl
theorem ok_differ_Check : fnVcOK Tryz.prog Tryz.f37 = true := by kernel_rfl
theorem nt_differ_Check : Nat.ble 1 Tryz.f37.ntmps = true := by kernel_rfl
theorem meetsH_differ_Check {g : GG} {pre : List ABlk} {a0 : AV} {r : AV} {post : List PB} (hk : Nat.ble pre.length 24 = true) (h : vc_differ_Check (Tz g) pre a0 r post) : MeetsH (Tz g) f_differ_Check pre [a0] (.ret r) post :=
  meetsH_of_vc (C := Tz g) ann_differ_Check hf_differ_Check ok_differ_Check nt_differ_Check hk (pn := false) (Eq.mpr ((vcFn2_eq _ _ _ _ _ _ _ _).trans (vc_differ_Check_eq g pre a0 r post)) h)
theorem meets_differ_Check {g : GG} {a0 : D} {r : Res} (h : vc_differ_Check (Tz g) [] (.d a0) r.val (r.bl.map .upd)) : Meets (Tz g) f_differ_Check [a0] r := meetsH_differ_Check rfl h
end Go.Vc

namespace Go.Vc
open Go Go.Proofs
variable {g : GG}
attribute [local simp] and_assoc
attribute [local simp] ints_cells
theorem differ_Check_meets (p : Plan) (hl : p.starts.length ≤ 1000) : Meets (Tz g) f_differ_Check [p.d] ⟨.d (int (match p.ok with | true => 0 | false => 2)), []⟩ := by
  refine meets_differ_Check ?_
  unfold vc_differ_Check
  simp [Plan.d, spans]
  refine CALL.val [p.d] _ rfl (differ_isPlan_meets p hl) (.inl rfl) ?_
  cases p.ok <;> simp
set_option maxHeartbeats 2000000 in
theorem tables_meets (hg : GOK g) (p : Plan) (t : List Int) (row : Int) (_ : ∀ n, n ∈ t → -9223372036854775808 ≤ n ∧ n ≤ 9223372036854775807) (_ : -9223372036854775808 ≤ row ∧ row ≤ 9223372036854775807) : Meets (Tz g) f_law01_DifferTables [p.d, ints t, int row] ⟨.d (.bool true), []⟩ := by
  refine meets_law01_DifferTables ?_
  unfold vc_law01_DifferTables
  simp [Plan.d, spans, ints]
  refine CALL.val [p.d] _ rfl (law01_short_meets p) (.inl rfl) ?_
  simp [vc_law01_DifferTables_k9]
  constructor
  · intro h
    exact known_call hg (by simp)
  · intro h
    constructor
    · intro h2
      exact known_call hg (by simp)
    · intro h2
      have hl : p.starts.length ≤ 1000 := by omega
      have hl2 : t.length ≤ 1000 := by omega
      refine CALL.val [p.d] _ rfl (differ_Check_meets p hl) (.inl rfl) ?_
      simp [vc_law01_DifferTables_k8]
      cases hok : p.ok with
      | false =>
        refine CALL.mk [p.d, ints t] _ rfl (differ_Table_bad p t hl hl2 (by simp [hok])) (.inl rfl) (by simp) ?_
        simp
        refine CALL.mk [p.d, ints t, int row] _ rfl (differ_State_bad p t row hl hl2 (by simp [hok])) (.inl rfl) (by simp) ?_
        simp [vc_law01_DifferTables_k7]
        refine CALL.val [p.d] _ rfl (ref01_Plan_meets p hl) (.inl rfl) ?_
        simp [hok, vc_law01_DifferTables_k5]
        exact known_call hg (by simp)
      | true =>
        obtain ⟨a1, a2, a3, a4, a5⟩ := Plan.ok_len hok
        cases hw : within p.starts t with
        | false =>
          refine CALL.mk [p.d, ints t] _ rfl (differ_Table_bad p t hl hl2 (by simp [hw])) (.inl rfl) (by simp) ?_
          simp
          refine CALL.mk [p.d, ints t, int row] _ rfl (differ_State_bad p t row hl hl2 (by simp [hw])) (.inl rfl) (by simp) ?_
          simp [vc_law01_DifferTables_k7]
          refine CALL.val [p.d] _ rfl (ref01_Plan_meets p hl) (.inl rfl) ?_
          simp [hok, vc_law01_DifferTables_k6]
          refine CALL.val [p.d, ints t] _ rfl (ref01_Truth_meets p t hl hl2) (.inl rfl) ?_
          simp [hw, vc_law01_DifferTables_k3]
          exact known_call hg (by simp)
        | true =>
          have hlen := within_length hw
          have hbd := within_bound a5 hw
          obtain ⟨n, hn⟩ : ∃ n : Nat, p.rows = n := ⟨p.rows.toNat, by omega⟩
          have hhl : (heads t n).length = n := by simp [heads]
          have hbd9 : ∀ x, x ∈ t → -1000000000 ≤ x ∧ x ≤ 1000000000 := fun x hx => by have := hbd x hx; omega
          refine CALL.mk [p.d, ints t] _ rfl (differ_Table_data p t n hok hw hn) (.inl rfl) (by simp) ?_
          simp
          cases hr : inB row 0 (p.rows - 1) with
          | false =>
            refine CALL.mk [p.d, ints t, int row] _ rfl (differ_State_bad p t row hl hl2 (by simp [hr])) (.inl rfl) (by simp) ?_
            simp [vc_law01_DifferTables_k7]
            refine CALL.val [p.d] _ rfl (ref01_Plan_meets p hl) (.inl rfl) ?_
            simp [hok, vc_law01_DifferTables_k6]
            refine CALL.val [p.d, ints t] _ rfl (ref01_Truth_meets p t hl hl2) (.inl rfl) ?_
            simp [hw, vc_law01_DifferTables_k4]
            refine CALL.mk [p.d, ints t] _ rfl (ref01_Table_meets p t n hn (by omega) (by omega) (by omega) hbd9) (.inl rfl) (by simp) ?_
            simp
            refine CALL.val [ints (heads t n), ints (heads t n)] _ (by simp [ints]) (ref01_Same_meets _ _ (by omega) (by omega)) (.inr rfl) ?_
            simp [vc_law01_DifferTables_k2]
            refine CALL.val [p.d, int row] _ rfl (ref01_Line_meets p row ⟨a3, a4⟩) (.inl rfl) ?_
            simp [hr, vc_law01_DifferTables_k0]
            exact known_call hg (by simp)
          | true =>
            obtain ⟨k, rfl, hk⟩ := inB_nat hr
            have hak := afterL_length t k
            refine CALL.mk [p.d, ints t, int k] _ rfl (differ_State_ok p t k hok hw (by omega)) (.inl rfl) (by simp) ?_
            simp [vc_law01_DifferTables_k7]
            refine CALL.val [p.d] _ rfl (ref01_Plan_meets p hl) (.inl rfl) ?_
            simp [hok, vc_law01_DifferTables_k6]
            refine CALL.val [p.d, ints t] _ rfl (ref01_Truth_meets p t hl hl2) (.inl rfl) ?_
            simp [hw, vc_law01_DifferTables_k4]
            refine CALL.mk [p.d, ints t] _ rfl (ref01_Table_meets p t n hn (by omega) (by omega) (by omega) hbd9) (.inl rfl) (by simp) ?_
            simp
            refine CALL.val [ints (heads t n), ints (heads t n)] _ (by simp [ints]) (ref01_Same_meets _ _ (by omega) (by omega)) (.inr rfl) ?_
            simp [vc_law01_DifferTables_k2]
            refine CALL.val [p.d, int k] _ rfl (ref01_Line_meets p k ⟨a3, a4⟩) (.inl rfl) ?_
            simp [hr, vc_law01_DifferTables_k1]
            refine CALL.mk [ints t, int k] _ rfl (ref01_At_meets t k (by omega) (by omega) hbd9) (.inl rfl) (by simp) ?_
            simp
            refine CALL.val [ints (afterL k t), ints (afterL k t)] _ (by simp [ints]) (ref01_Same_meets _ _ (by omega) (by omega)) (.inr rfl) ?_
            simp
            exact known_call hg (by simp)
end Go.Vc

namespace Go.Vc
open Go Go.RowKit Go.ChangeShapes Go.WideShapes Go.ChangeAt Go.Proofs Go.Proofs.YtflbianfhogdjaaGreatDoor
theorem tables_calls {H : Type} {enc : TypeId × Value → H} (W : World) (base : Nat) (args : Array Value) (ds : List (DataW H)) (ps : List MemPlace) (hval : ∀ (j : Nat) t v, Tryz.f9.params[j]? = some t → args[j]? = some v → Value.okWide Tryz.prog W .any base t v)
    (hA : DataW.TrodAll enc Tryz.prog W 0 (fun _ => true) true Tryz.f9.params.toList args.toList ds ps) (hL : laidMetH Tryz.prog laidL W) (hsh : W.ShapedOpen Tryz.prog) : Calls Tryz.prog 9 args W fun e W' => e = .returned (.bool true) ∧ Below W.heap.size W W' := by
  rw [Tryz.params9] at hA hval
  obtain ⟨v0, v1, v2, d0, d1, d2, p0, p1, p2, rfl, rfl, rfl, h0, h1, h2⟩ := trodAll_three hA
  obtain ⟨x0, g0⟩ := open_plan (hval 0 24 v0 rfl rfl) h0
  obtain ⟨x1, g1, b1⟩ := open_ints' (hval 1 25 v1 rfl rfl) h1
  obtain ⟨x2, g2, b2⟩ := open_int' (hval 2 3 v2 rfl rfl) h2
  exact law_calls (C := Tz (gW W)) (tables_meets (gok hL hsh) x0 x1 x2 b1 b2) rfl (Below.refl _ _) (us := [v0, v1, v2]) rfl (fun i d u hd hu => by
    match i, hd, hu with
    | 0, hd, hu => simp at hd hu; subst hd; subst hu; exact g0
    | 1, hd, hu => simp at hd hu; subst hd; subst hu; exact g1
    | 2, hd, hu => simp at hd hu; subst hd; subst hu; exact g2
    | i + 3, hd, hu => simp at hd)
theorem tables_lifted (os : Os) (started : os.Started) (H : Type) (enc : TypeId × Value → H) :
    ReturnsInHanded {} Tryz.checked os 9 .any (fun w args => (Rows.differTablesSpec.pre enc Tryz.prog Tryz.f9 [] false w args ∧ laidMetH Tryz.prog laidL w) ∧ sizedMet enc Tryz.prog Tryz.f9 (OpenSpec.ofChange Rows.differTablesSpec) false w args)
      (Rows.differTablesSpec.post enc Tryz.prog Tryz.f9 false true false false) :=
  law_lifted (C := Tryz.checked) (tb := 4) (n := 3) started own (by kernel_rfl) Tryz.func9
    (ChangeSpec.witness_shaped (enc := enc) (C := Tryz.checked) (os := os) (X := fun w _ => laidMetH Tryz.prog laidL w) false (World.laidAll Tryz.prog os laidL) #[.agg #[.slice none 0 0, .int .i64 0, .int .i64 0], .slice none 0 0, .int .i64 0] 8 (World.laidAll_os _ _ _)
      (World.shaped_of_ZipB (by kernel_rfl) (by kernel_rfl)) (by kernel_rfl) (by kernel_rfl) (by kernel_rfl)
      (by rw [MakeChecks.laidMetH_plain _ _ _ (by kernel_rfl)]; exact laidMet_laidAll _ (by kernel_rfl) (by kernel_rfl)))
    laidOut (by kernel_rfl) (by kernel_rfl) Tryz.underlying4 rfl (by kernel_rfl) (fun ds hl => by
      match ds, hl with
      | [a, b, c], _ => rfl) tables_calls
theorem tables_holds : Rows.DifferTablesSaid :=
  OpenClaim.holds_of_wide 9 Tryz.f9 rfl rfl rfl rfl rfl rfl rfl ⟨rfl, rfl, rfl, rfl, rfl⟩ rfl rfl rfl rfl rfl (by kernel_rfl) Tryz.func9 (by kernel_rfl)
    (of_decide_eq_true (by kernel_rfl)) (by unfold Func.isWrapper; first | (rw [if_pos (by decide +kernel)]; kernel_rfl) | (rw [if_neg (by decide +kernel)]; exact ⟨rfl, rfl⟩))
    (fun os started H enc _ => tables_lifted os started H enc)
theorem tables_card : Rows.DifferTablesCardSaid :=
  Claim7.holds_tied_plain_at .later [] [.data, .data, .data, .data, .pinned] true (true, "9a542ac743afd7edcb6f3cbd989ac5534e57cf4118a8820287a37bb09b5416c8") true tables_holds (fun _ h => by cases h) (by kernel_rfl) (fun _ h => by cases h) differTables_row_tie rfl ⟨rfl, rfl⟩ (by kernel_rfl) rfl
    (fun f fn hf hfn => by
      obtain rfl : f = 9 := Option.some.inj ((show Tryz.prog.funcNamed "ephemerist/ephemeristlaw01.DifferTables" = some 9 by kernel_rfl).symm.trans hf) |>.symm
      obtain rfl : fn = Tryz.f9 := (Option.some.inj (Tryz.func9.symm.trans hfn)).symm
      exact ⟨by kernel_rfl, fun j t ht => by
        rw [Tryz.params9] at ht
        have hm : t ∈ [24, 25, 3] := by simpa using Array.mem_of_getElem? ht
        have hall : ([24, 25, 3].all fun u => !Tryz.prog.wantsStandIn u) = true := by kernel_rfl
        exact (show Tryz.prog.wantsStandIn t = false by simpa using List.all_eq_true.1 hall t hm)⟩)
    (by kernel_rfl)
end Go.Vc

namespace Go.Proofs.YtflbianfhogdjaaGreatDoor
theorem law_DifferTablesCardSaid : Rows.DifferTablesCardSaid := Go.Vc.tables_card
end Go.Proofs.YtflbianfhogdjaaGreatDoor
