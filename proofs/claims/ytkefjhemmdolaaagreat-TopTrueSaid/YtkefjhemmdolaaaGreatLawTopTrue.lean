/- Proves that the statement TopTrueSaid holds of the given program: for every input the law returns true and leaves its arguments as they were; no further condition. -/
import Derived.Test.YtkefjhemmdolaaaGreatVc23
import Derived.Test.YtkefjhemmdolaaaGreatVc11
import Derived.Test.YtkefjhemmdolaaaGreatVc44
import Derived.Test.YtkefjhemmdolaaaGreatVc49
import Derived.Test.YtkefjhemmdolaaaGreatVc50
import Derived.Test.YtkefjhemmdolaaaGreatVc39
import Derived.Test.YtkefjhemmdolaaaGreatVc31
set_option maxRecDepth 100000
namespace Go.Vc
open Go Go.Proofs Go.RowKit
def ann_top_TopTrue : Nat → List Nat := fun n => match n with | 17 => [3, 13, 18, 22, 24] | _ => []
def vc_top_TopTrue_k0 (_P : Ctx) (pre : List ABlk) (r : AV) (post : List PB) (v0 : AV) (h2 : Heap) (vs3 : List AV) (v4 : AV) (v5 : AV) (h6 : Heap) (rd7 : List Nat) (next9 : List AV → Heap → Prop) : Prop :=
  NOT v0 fun v1 =>
  ORDX [] [0, 0, 3, 7, 0, 0, 48, 112, 255, 0, 1023, 2047, 4095, 4095, 16383, 32767, 4095, 4095, 200703, 462847, 1048575, 4095, 4194303, 8388607, 16777215, 33554431, 33554431, 134217727, 268435455, 536870911] [(2, wr h2 h2, (ids (nth vs3 3))), (3, wr h2 h2, (ids v4)), (6, wr h2 h2, (ids (nth vs3 1))), (7, wr h2 h2, (ids v5)), (27, wr h2 h6, rd7)] ∧
  COND v1
  (POST (.d (.bool false)) h6 pre r post)
  (BIN 0 .add (nth vs3 4) (.d (.num .i64 1)) fun v8 =>
  next9 [(nth vs3 0), (nth vs3 1), (nth vs3 2), (nth vs3 3), v8] h6)
def vc_top_TopTrue_k1 (_P : Ctx) (pre : List ABlk) (r : AV) (post : List PB) (v0 : AV) (h2 : Heap) (vs3 : List AV) (v4 : AV) (v5 : AV) (v6 : AV) (v7 : AV) (h8 : Heap) (rd9 : List Nat) (next11 : List AV → Heap → Prop) : Prop :=
  NOT v0 fun v1 =>
  ORDX [] [0, 0, 3, 7, 0, 0, 48, 112, 255, 0, 1023, 2047, 4095, 4095, 16383, 32767, 4095, 4095, 200703, 462847, 1048575, 4095, 4194303, 8388607, 16777215, 33554431, 33554431, 134217727, 268435455, 536870911] [(2, wr h2 h2, (ids (nth vs3 3))), (3, wr h2 h2, (ids v4)), (6, wr h2 h2, (ids (nth vs3 1))), (7, wr h2 h2, (ids v5)), (14, wr h2 h2, (ids (nth vs3 1))), (15, wr h2 h2, (ids v6)), (18, wr h2 h2, (ids (nth vs3 3))), (19, wr h2 h2, (ids v7)), (27, wr h2 h8, rd9)] ∧
  COND v1
  (POST (.d (.bool false)) h8 pre r post)
  (BIN 0 .add (nth vs3 4) (.d (.num .i64 1)) fun v10 =>
  next11 [(nth vs3 0), (nth vs3 1), (nth vs3 2), (nth vs3 3), v10] h8)
def vc_top_TopTrue_k2 (P : Ctx) (pre : List ABlk) (r : AV) (post : List PB) (vs0 : List AV) (h1 : Heap) (next19 : List AV → Heap → Prop) : Prop :=
  LEN false (nth vs0 3) h1 fun v2 =>
  BIN 0 .lss (nth vs0 4) v2 fun v3 =>
  COND v3
  (IADDR 1 T_int (nth vs0 3) (nth vs0 4) h1 fun v4 =>
  LOAD false 1 v4 h1 fun v5 =>
  BIN 0 .lss v5 (.d (.num .i64 (-9999))) fun v6 =>
  CONDG v6
  (POST (.d (.bool false)) h1 pre r post)
  (IADDR 1 T_int (nth vs0 3) (nth vs0 4) h1 fun v7 =>
  LOAD false 1 v7 h1 fun v8 =>
  BIN 0 .gtr v8 (.d (.num .i64 9999)) fun v9 =>
  COND v9
  (POST (.d (.bool false)) h1 pre r post)
  (IADDR 1 T_int (nth vs0 3) (nth vs0 4) h1 fun v10 =>
  LOAD false 1 v10 h1 fun v11 =>
  IADDR 1 T_int (nth vs0 1) (nth vs0 4) h1 fun v12 =>
  LOAD false 1 v12 h1 fun v13 =>
  BIN 0 .sub v11 v13 fun v14 =>
  BIN 0 .gtr v14 (nth vs0 0) fun v15 =>
  CONDG v15
  (CALL P f_ref01_Listed [(nth vs0 2), (nth vs0 4)] 1560 h1 (fun rd16 v17 h18 =>
  vc_top_TopTrue_k0 P pre r post v17 h1 vs0 v10 v12 h18 rd16 next19)
  (fun _ _ _ => False))
  (IADDR 1 T_int (nth vs0 1) (nth vs0 4) h1 fun v20 =>
  LOAD false 1 v20 h1 fun v21 =>
  IADDR 1 T_int (nth vs0 3) (nth vs0 4) h1 fun v22 =>
  LOAD false 1 v22 h1 fun v23 =>
  BIN 0 .sub v21 v23 fun v24 =>
  BIN 0 .gtr v24 (nth vs0 0) fun v25 =>
  CONDG v25
  (CALL P f_ref01_Listed [(nth vs0 2), (nth vs0 4)] 1560 h1 (fun rd26 v17 h27 =>
  vc_top_TopTrue_k1 P pre r post v17 h1 vs0 v10 v12 v20 v22 h27 rd26 next19)
  (fun _ _ _ => False))
  (ORDX [] [0, 0, 3, 7, 0, 0, 48, 112, 255, 0, 1023, 2047, 4095, 4095, 16383, 32767, 4095, 4095, 200703, 462847, 1048575, 4095, 4194303, 8388607, 16777215, 33554431, 33554431, 134217727, 268435455, 536870911] [(2, wr h1 h1, (ids (nth vs0 3))), (3, wr h1 h1, (ids v10)), (6, wr h1 h1, (ids (nth vs0 1))), (7, wr h1 h1, (ids v12)), (14, wr h1 h1, (ids (nth vs0 1))), (15, wr h1 h1, (ids v20)), (18, wr h1 h1, (ids (nth vs0 3))), (19, wr h1 h1, (ids v22))] ∧
  BIN 0 .add (nth vs0 4) (.d (.num .i64 1)) fun v28 =>
  next19 [(nth vs0 0), (nth vs0 1), (nth vs0 2), (nth vs0 3), v28] h1)))))
  (CALL P f_top_known11 [] 1248 h1 (fun _ v30 h31 =>
  POST v30 h31 pre r post)
  (fun _ _ _ => False))
def vc_top_TopTrue_k3 (P : Ctx) (pre : List ABlk) (r : AV) (post : List PB) (v0 : AV) (v3 : AV) (h5 : Heap) (v6 : AV) (v8 : AV) (v11 : AV) (v13 : AV) (v21 : AV) (v23 : AV) (a25 : AV) (v26 : AV) : Prop :=
  EXT v0 0 fun v1 =>
  EXT v0 1 fun v2 =>
  BIN 0 .neq v3 (.d (.num .i64 0)) fun v4 =>
  CONDG v4
  (POST (.d (.bool false)) h5 pre r post)
  (BIN 0 .neq v6 (.d (.num .i64 0)) fun v7 =>
  CONDG v7
  (POST (.d (.bool false)) h5 pre r post)
  (BIN 0 .neq v8 (.d (.num .i64 0)) fun v9 =>
  CONDG v9
  (POST (.d (.bool false)) h5 pre r post)
  (BIN 0 .neq v2 (.d (.num .i64 0)) fun v10 =>
  CONDG v10
  (POST (.d (.bool false)) h5 pre r post)
  (LEN false v11 h5 fun v12 =>
  FADDR 1 v13 h5 fun v14 =>
  LOAD false 1 v14 h5 fun v15 =>
  BIN 0 .gtr v12 v15 fun v16 =>
  CONDG v16
  (POST (.d (.bool false)) h5 pre r post)
  (LEN false v1 h5 fun v17 =>
  FADDR 1 v13 h5 fun v18 =>
  LOAD false 1 v18 h5 fun v19 =>
  BIN 0 .neq v17 v19 fun v20 =>
  CONDG v20
  (POST (.d (.bool false)) h5 pre r post)
  (BIN 0 .eql v21 (.d (.num .i64 3)) fun v22 =>
  CONDG v22
  (NOT v23 fun v24 =>
  COND v24
  (POST (.d (.bool false)) h5 pre r post)
  (LOOP [a25, v26, v11, v1, (.d (.num .i64 0))] h5 1208 fun vs27 h28 next29 =>
  vc_top_TopTrue_k2 P pre r post vs27 h28 next29))
  (LOOP [a25, v26, v11, v1, (.d (.num .i64 0))] h5 1208 fun vs30 h31 next32 =>
  vc_top_TopTrue_k2 P pre r post vs30 h31 next32)))))))
def vc_top_TopTrue_k4 (P : Ctx) (pre : List ABlk) (r : AV) (post : List PB) (v0 : AV) (v3 : AV) (h4 : Heap) (a6 : AV) (v7 : AV) (v17 : AV) (v18 : AV) (v19 : AV) (a20 : AV) : Prop :=
  EXT v0 0 fun v1 =>
  EXT v0 1 fun v2 =>
  LOAD true 3 v3 h4 fun v5 =>
  CALL P f_step_Right [v5, a6, v7] 792 h4 (fun _ v9 h10 =>
  EXT v9 0 fun v11 =>
  EXT v9 1 fun v12 =>
  LOAD true 3 v3 h10 fun v13 =>
  CALL P f_step_Figures [v13, a6, v7] 864 h10 (fun _ v15 h16 =>
  vc_top_TopTrue_k3 P pre r post v15 v17 h16 v2 v12 v1 v18 v19 v11 a20 v7)
  (fun _ _ _ => False))
  (fun _ _ _ => False)
def vc_top_TopTrue_k5 (P : Ctx) (pre : List ABlk) (r : AV) (post : List PB) (v0 : AV) (h2 : Heap) (v6 : AV) (a8 : AV) (v18 : AV) (v19 : AV) (a20 : AV) : Prop :=
  NOT v0 fun v1 =>
  COND v1
  (CALL P f_top_known11 [] 640 h2 (fun _ v4 h5 =>
  POST v4 h5 pre r post)
  (fun _ _ _ => False))
  (LOAD true 3 v6 h2 fun v7 =>
  CALL P f_step_Word [v7, a8] 656 h2 (fun _ v10 h11 =>
  EXT v10 0 fun v12 =>
  EXT v10 1 fun v13 =>
  LOAD true 3 v6 h11 fun v14 =>
  CALL P f_step_Doubts [v14, a8] 720 h11 (fun _ v16 h17 =>
  vc_top_TopTrue_k4 P pre r post v16 v6 h17 a8 v18 v13 v19 v12 a20)
  (fun _ _ _ => False))
  (fun _ _ _ => False))
def vc_top_TopTrue_k6 (P : Ctx) (pre : List ABlk) (r : AV) (post : List PB) (v0 : AV) (h2 : Heap) (v6 : AV) (a8 : AV) (v12 : AV) (v13 : AV) (a14 : AV) : Prop :=
  NOT v0 fun v1 =>
  CONDG v1
  (CALL P f_top_known11 [] 640 h2 (fun _ v4 h5 =>
  POST v4 h5 pre r post)
  (fun _ _ _ => False))
  (LOAD true 3 v6 h2 fun v7 =>
  CALL P f_ref05_Kept [v7, a8] 616 h2 (fun _ v10 h11 =>
  vc_top_TopTrue_k5 P pre r post v10 h11 v6 a8 v12 v13 a14)
  (fun _ _ _ => False))
def vc_top_TopTrue_k7 (P : Ctx) (pre : List ABlk) (r : AV) (post : List PB) (v0 : AV) (v3 : AV) (h5 : Heap) (v7 : AV) (v9 : AV) (a17 : AV) (a18 : AV) (a27 : AV) : Prop :=
  EXT v0 0 fun v1 =>
  EXT v0 1 fun v2 =>
  BIN 0 .neq v3 (.d (.num .i64 0)) fun v4 =>
  CONDG v4
  (POST (.d (.bool false)) h5 pre r post)
  (BIN 0 .neq v2 (.d (.num .i64 0)) fun v6 =>
  CONDG v6
  (POST (.d (.bool false)) h5 pre r post)
  (LEN false v7 h5 fun v8 =>
  FADDR 1 v9 h5 fun v10 =>
  LOAD false 1 v10 h5 fun v11 =>
  BIN 0 .neq v8 v11 fun v12 =>
  CONDG v12
  (POST (.d (.bool false)) h5 pre r post)
  (LEN false v1 h5 fun v13 =>
  FADDR 1 v9 h5 fun v14 =>
  LOAD false 1 v14 h5 fun v15 =>
  BIN 0 .neq v13 v15 fun v16 =>
  COND v16
  (POST (.d (.bool false)) h5 pre r post)
  (BUILD [(0, 1), (1, 1), (2, 1)] [.zc, .d (.num .i64 0), .d (.num .i64 0)] [(0, v7), (1, a17), (2, a18)] fun v19 =>
  ALLOC T_api_StepTable [.zc, .d (.num .i64 0), .d (.num .i64 0)] 552 h5 fun v20 h21 =>
  STORE 3 v20 v19 h21 fun h22 =>
  LOAD true 3 v20 h22 fun v23 =>
  CALL P f_ref05_Table [v23] 576 h22 (fun _ v25 h26 =>
  vc_top_TopTrue_k6 P pre r post v25 h26 v20 a27 v1 v9 a18)
  (fun _ _ _ => False)))))
def vc_top_TopTrue_k8 (P : Ctx) (pre : List ABlk) (r : AV) (post : List PB) (v0 : AV) (h2 : Heap) (v6 : AV) (a14 : AV) (a18 : AV) (a19 : AV) (a20 : AV) : Prop :=
  NOT v0 fun v1 =>
  COND v1
  (CALL P f_top_known11 [] 240 h2 (fun _ v4 h5 =>
  POST v4 h5 pre r post)
  (fun _ _ _ => False))
  (LOAD true 3 v6 h2 fun v7 =>
  CALL P f_differ_Rows [v7] 248 h2 (fun _ v9 h10 =>
  EXT v9 0 fun v11 =>
  EXT v9 1 fun v12 =>
  LOAD true 3 v6 h10 fun v13 =>
  CALL P f_differ_Table [v13, a14] 312 h10 (fun _ v16 h17 =>
  vc_top_TopTrue_k7 P pre r post v16 v12 h17 v11 v6 a18 a19 a20)
  (fun _ _ _ => False))
  (fun _ _ _ => False))
def vc_top_TopTrue_k9 (P : Ctx) (pre : List ABlk) (r : AV) (post : List PB) (v0 : AV) (h2 : Heap) (v6 : AV) (a8 : AV) (a12 : AV) (a13 : AV) (a14 : AV) : Prop :=
  NOT v0 fun v1 =>
  CONDG v1
  (CALL P f_top_known11 [] 240 h2 (fun _ v4 h5 =>
  POST v4 h5 pre r post)
  (fun _ _ _ => False))
  (LOAD true 3 v6 h2 fun v7 =>
  CALL P f_ref01_Truth [v7, a8] 216 h2 (fun _ v10 h11 =>
  vc_top_TopTrue_k8 P pre r post v10 h11 v6 a8 a12 a13 a14)
  (fun _ _ _ => False))
def vc_top_TopTrue (P : Ctx) (pre : List ABlk) (a0 a1 a2 a3 a4 : AV) (r : AV) (post : List PB) : Prop :=
  let h0 : Heap := numbered 0 pre
  BOX T_api_DifferPlan a0 24 h0 fun v5 h1 =>
  FADDR 0 v5 h1 fun v25 =>
  LOAD false 1 v25 h1 fun v26 =>
  LEN false v26 h1 fun v27 =>
  BIN 0 .gtr v27 (.d (.num .i64 6)) fun v28 =>
  CONDG v28
  (CALL P f_top_known11 [] 240 h1 (fun _ v50 h2 =>
  POST v50 h2 pre r post)
  (fun _ _ _ => False))
  (LEN false a1 h1 fun v31 =>
  BIN 0 .gtr v31 (.d (.num .i64 6)) fun v32 =>
  CONDG v32
  (CALL P f_top_known11 [] 240 h1 (fun _ v50 h4 =>
  POST v50 h4 pre r post)
  (fun _ _ _ => False))
  (LEN false a4 h1 fun v36 =>
  BIN 0 .gtr v36 (.d (.num .i64 16)) fun v37 =>
  CONDG v37
  (CALL P f_top_known11 [] 240 h1 (fun _ v50 h6 =>
  POST v50 h6 pre r post)
  (fun _ _ _ => False))
  (LOAD true 3 v5 h1 fun v40 =>
  CALL P f_ref01_Plan [v40] 168 h1 (fun _ v41 h8 =>
  vc_top_TopTrue_k9 P pre r post v41 h8 v5 a1 a2 a3 a4)
  (fun _ _ _ => False))))
theorem vc_top_TopTrue_eq (g : GG) (pre : List ABlk) (a0 a1 a2 a3 a4 : AV) (r : AV) (post : List PB) : vcFn2 (Tz g) false ann_top_TopTrue Tryz.f6 pre [a0, a1, a2, a3, a4] (.ret r) post = vc_top_TopTrue (Tz g) pre a0 a1 a2 a3 a4 r post := by kernel_rfl
theorem hf_top_TopTrue : Tryz.prog.funcs[f_top_TopTrue]? = some Tryz.f6 := by kernel_rfl
theorem ok_top_TopTrue : fnVcOK Tryz.prog Tryz.f6 = true := by kernel_rfl
theorem nt_top_TopTrue : Nat.ble 5 Tryz.f6.ntmps = true := by kernel_rfl
theorem meetsH_top_TopTrue {g : GG} {pre : List ABlk} {a0 a1 a2 a3 a4 : AV} {r : AV} {post : List PB} (hk : Nat.ble pre.length 24 = true) (h : vc_top_TopTrue (Tz g) pre a0 a1 a2 a3 a4 r post) : MeetsH (Tz g) f_top_TopTrue pre [a0, a1, a2, a3, a4] (.ret r) post :=
  meetsH_of_vc (C := Tz g) ann_top_TopTrue hf_top_TopTrue ok_top_TopTrue nt_top_TopTrue hk (pn := false) (Eq.mpr ((vcFn2_eq _ _ _ _ _ _ _ _).trans (vc_top_TopTrue_eq g pre a0 a1 a2 a3 a4 r post)) h)
theorem meets_top_TopTrue {g : GG} {a0 a1 a2 a3 a4 : D} {r : Res} (h : vc_top_TopTrue (Tz g) [] (.d a0) (.d a1) (.d a2) (.d a3) (.d a4) r.val (r.bl.map .upd)) : Meets (Tz g) f_top_TopTrue [a0, a1, a2, a3, a4] r := meetsH_top_TopTrue rfl h
end Go.Vc

namespace Go.Vc
open Go Go.Proofs
variable {g : GG}
attribute [local simp] and_assoc
theorem known_call {new : Nat} {h : Heap} {K KP : List Nat → AV → Heap → Prop} (h3 : K [] (.d (.bool true)) h) : CALL (Tz g) f_top_known11 [] new h K KP :=
  CALL.val [] _ rfl known_meets (.inl rfl) h3
theorem heads_len (t : List Int) (n : Nat) : (heads t n).length = n := by simp [heads]
theorem ref01_Listed_meets (l : List Int) (x : Int) (hl : l.length ≤ 1000000) : Meets (Tz g) f_ref01_Listed [ints l, int x] ⟨.d (.bool (decide (x ∈ l))), []⟩ := by
  refine meets_ref01_Listed ?_
  unfold vc_ref01_Listed
  simp [ints]
  refine LOOP.mk Nat (fun k => [.d (ints l), .d (int x), .d (int k)]) (fun k => []) (fun k => k ≤ l.length ∧ (x ∈ l ↔ x ∈ l.drop k)) (fun k => l.length - k) [] (by simp) 0 (by simp) (by simp [WEAK, ints]) (fun _ _ => rfl) ?_
  rintro k ⟨hk, he⟩
  simp [ints]
  constructor
  · intro hlt
    have hg : l[k]? = some l[k] := List.getElem?_eq_getElem (by omega)
    rw [List.drop_eq_getElem_cons hlt] at he
    generalize l[k] = y at hg he
    simp [hg]
    constructor
    · intro hq
      rw [he, hq]; simp
    · intro hq
      rw [wrap_id (n := (k : Int) + 1) (by omega) (by omega)]
      refine ⟨k + 1, by omega, ?_, by simp [WEAK], by omega⟩
      rw [he]
      simp only [List.mem_cons]
      exact ⟨fun h => h.resolve_left (fun e => hq e.symm), .inr⟩
  · intro hge
    rw [List.drop_eq_nil_of_le (by omega)] at he
    simpa using he
theorem RowsD (p : Plan) (hl : p.starts.length ≤ 1000) (h : p.ok = true) : Meets (Tz g) f_differ_Rows [p.d] ⟨.tup [.d (spans (rowsL p)), .d (int 0)], []⟩ := by
  refine meets_differ_Rows ?_
  unfold vc_differ_Rows
  simp [Plan.d, spans]
  refine CALL.val _ _ rfl (differ_isPlan_meets p (by omega)) (.inl rfl) ?_
  simp [h]
  refine CALL.val [p.d] _ rfl (Meets.frz (differ_rows_meets p h)) (.inl rfl) ?_
  simp
set_option maxHeartbeats 8000000 in
theorem true_loop (h : Heap) (t : Tb) (k own : List Int) (hok : t.ok = true) (hK : KeptOK t.vals.length k) (hw : within t.vals own = true) :
    LOOP [.d (int t.off), .d (ints own), .d (ints (dbL t k own.length)), .d (ints (fgs t k own own.length)), .d (int 0)] h 1208 fun vs h2 next => vc_top_TopTrue_k2 (Tz g) [] (.d (.bool true)) [] vs h2 next := by
  obtain ⟨f1, f2, f3, f4⟩ := Tb.ok_facts hok
  have hl := within_length hw
  have hdl := dbL_len t k own.length
  refine LOOP.mk Nat (fun i => [.d (int t.off), .d (ints own), .d (ints (dbL t k own.length)), .d (ints (fgs t k own own.length)), .d (int i)]) (fun i => []) (fun i => i ≤ own.length) (fun i => own.length - i) [] (by simp) 0 (by omega) (by simp [WEAK, ints]) (fun _ _ => rfl) ?_
  intro i hi
  have w1 := wrap_id (n := (i : Int) + 1) (by omega) (by omega)
  simp [vc_top_TopTrue_k2, ints, fgs_len]
  refine ⟨fun hlt => ?_, fun hge => known_call (by simp)⟩
  have hlt : i < own.length := by omega
  obtain ⟨⟨s1, s2⟩, s3⟩ := steps_law hok hK hw i hlt
  obtain ⟨gx, bx1, bx2⟩ := get_bnd (own_bnd hok hw) i hlt
  have gf : (fgs t k own own.length)[i]? = some (fgv t k own i) := by simp [fgs, hlt]
  have hm : ((i : Int) ∉ dbL t k own.length) → max (fgv t k own i - own.getD i 0) (own.getD i 0 - fgv t k own i) ≤ t.off := s3
  generalize fgv t k own i = y at *
  generalize own.getD i 0 = x at *
  have w2 := wrap_id (n := y - x) (by omega) (by omega)
  have w3 := wrap_id (n := x - y) (by omega) (by omega)
  simp [gx, gf, w1, w2, w3]
  have inb : t.off < y - x ∨ t.off < x - y → (i : Int) ∈ dbL t k own.length := fun h => Classical.byContradiction fun hn => by
    have := hm hn
    omega
  have nxt : ∃ s' : Nat, s' ≤ own.length ∧ WEAK [.d (int t.off), .d (ints own), .d (ints (dbL t k own.length)), .d (ints (fgs t k own own.length)), .d (int ((i : Int) + 1))] [] [.d (int t.off), .d (ints own), .d (ints (dbL t k own.length)), .d (ints (fgs t k own own.length)), .d (int (s' : Int))] [] ∧ own.length - s' < own.length - i :=
    ⟨i + 1, by omega, by simp [WEAK, ints], by omega⟩
  refine ⟨s1, fun _ => ⟨s2, fun _ => ⟨fun h => ?_, fun h => ⟨fun h' => ?_, fun h' => ⟨rfl, nxt⟩⟩⟩⟩⟩
  · refine CALL.val [ints (dbL t k own.length), int i] _ rfl (ref01_Listed_meets _ _ (by omega)) (.inl rfl) ?_
    rw [decide_eq_true (inb (.inl h))]
    simp [vc_top_TopTrue_k0, w1]
    exact ⟨rfl, nxt⟩
  · refine CALL.val [ints (dbL t k own.length), int i] _ rfl (ref01_Listed_meets _ _ (by omega)) (.inl rfl) ?_
    rw [decide_eq_true (inb (.inr h'))]
    simp [vc_top_TopTrue_k1, w1]
    exact ⟨rfl, nxt⟩
set_option maxHeartbeats 8000000 in
theorem true_meets (p : Plan) (truth : List Int) (rule off : Int) (kept : List Int) (_ : ∀ n, n ∈ truth → -9223372036854775808 ≤ n ∧ n ≤ 9223372036854775807) (_ : -9223372036854775808 ≤ rule ∧ rule ≤ 9223372036854775807) (_ : -9223372036854775808 ≤ off ∧ off ≤ 9223372036854775807) (_ : ∀ n, n ∈ kept → -9223372036854775808 ≤ n ∧ n ≤ 9223372036854775807) :
    Meets (Tz g) f_top_TopTrue [p.d, ints truth, int rule, int off, ints kept] ⟨.d (.bool true), []⟩ := by
  refine meets_top_TopTrue ?_
  unfold vc_top_TopTrue
  simp [Plan.d, spans, ints, lookH]
  refine ⟨fun _ => known_call (by simp), fun b1 => ⟨fun _ => known_call (by simp), fun b2 => ⟨fun _ => known_call (by simp), fun b3 => ?_⟩⟩⟩
  refine CALL.val [p.d] _ rfl (ref01_Plan_meets p (by omega)) (.inl rfl) ?_
  cases hp : p.ok with
  | false =>
    simp [vc_top_TopTrue_k9]
    exact known_call (by simp)
  | true =>
    obtain ⟨a1, a2, a3, a4, a5⟩ := Plan.ok_len hp
    simp [vc_top_TopTrue_k9, lookH]
    refine CALL.val [p.d, ints truth] _ rfl (ref01_Truth_meets p truth (by omega) (by omega)) (.inl rfl) ?_
    cases hw : within p.starts truth with
    | false =>
      simp [vc_top_TopTrue_k8]
      exact known_call (by simp)
    | true =>
      obtain ⟨n, hn⟩ : ∃ n : Nat, p.rows = n := ⟨p.rows.toNat, by omega⟩
      have hrl := rowsL_len p n hn
      have hT := TableD (g := g) p truth hp hw
      have how := own_rows hp hw
      have hn2 : p.rows.toNat = n := by omega
      rw [hn2] at hT how
      have hol := heads_len truth n
      generalize heads truth n = own at hT how hol
      simp [vc_top_TopTrue_k8, lookH]
      refine CALL.mk [p.d] _ rfl (RowsD p (by omega) hp) (.inl rfl) (by simp) ?_
      simp [lookH]
      refine CALL.mk [p.d, ints truth] _ rfl hT (.inl rfl) (by simp) ?_
      generalize htt : (⟨rowsL p, rule, off⟩ : Tb) = t
      have ht1 : t.vals = rowsL p := by rw [← htt]
      have ht2 : t.rule = rule := by rw [← htt]
      have ht3 : t.off = off := by rw [← htt]
      have htl : t.vals.length = n := by rw [ht1, hrl]
      simp [vc_top_TopTrue_k7, lookH, spans, ints, hrl, hol, hn]
      rw [← ht1, ← ht2, ← ht3]
      refine CALL.val [t.d] _ rfl (ref05_Table_meets t (by omega)) (.inl rfl) ?_
      cases hok : t.ok with
      | false =>
        simp [vc_top_TopTrue_k6]
        exact known_call (by simp)
      | true =>
        simp [vc_top_TopTrue_k6, lookH]
        refine CALL.val [t.d, ints kept] _ rfl (ref05_Kept_meets t kept (by omega) (by omega)) (.inl rfl) ?_
        cases hkb : keptB t.vals.length kept with
        | false =>
          simp [vc_top_TopTrue_k5]
          exact known_call (by simp)
        | true =>
          have hK := kept_iff.1 hkb
          have hw2 : within t.vals own = true := by rw [ht1]; exact how
          have hob : ∀ x, x ∈ own → -20000 ≤ x ∧ x ≤ 20000 := fun x hx => by have := own_bnd hok hw2 x hx; omega
          obtain ⟨w, hW, hw3⟩ := Word_meets (g := g) t kept hok hK
          have hdl := dbL_len t kept t.vals.length
          have hR := Right_meets (g := g) t kept own hok hK hw2 hob
          have hsr := steps_right hok hK hw2
          have hlp := fun h => true_loop (g := g) h t kept own hok hK hw2
          have hol2 : own.length = t.vals.length := by omega
          have hfl := fgs_len t kept own own.length
          rw [hol2] at hsr hR hlp hfl
          have hF := Figures_meets (g := g) t kept own hok hK hw2 hob
          rw [hol2] at hF
          simp [vc_top_TopTrue_k5, lookH]
          refine CALL.mk [t.d, ints kept] _ rfl hW (.inl rfl) (by simp) ?_
          simp [lookH]
          refine CALL.mk [t.d, ints kept] _ rfl (Doubts_meets t kept hok hK) (.inl rfl) (by simp) ?_
          simp [vc_top_TopTrue_k4, lookH]
          refine CALL.mk [t.d, ints kept, ints own] _ rfl hR (.inl rfl) (by simp) ?_
          simp [lookH]
          refine CALL.mk [t.d, ints kept, ints own] _ rfl hF (.inl rfl) (by simp) ?_
          simp [vc_top_TopTrue_k3, lookH, ints, hfl, hn]
          exact ⟨by omega, fun _ => ⟨by omega, fun _ => ⟨fun h3 => ⟨hsr (hw3 h3), fun _ => hlp _⟩, fun _ => hlp _⟩⟩⟩
end Go.Vc

namespace Go.Vc
open Go Go.RowKit Go.ChangeShapes Go.WideShapes Go.ChangeAt Go.Proofs Go.Proofs.YtkefjhemmdolaaaGreat
theorem true_calls {H : Type} {enc : TypeId × Value → H} (W : World) (base : Nat) (args : Array Value) (ds : List (DataW H)) (ps : List MemPlace) (hval : ∀ (j : Nat) t v, Tryz.f6.params[j]? = some t → args[j]? = some v → Value.okWide Tryz.prog W .any base t v)
    (hA : DataW.TrodAll enc Tryz.prog W 0 (fun _ => true) true Tryz.f6.params.toList args.toList ds ps) (hsh : W.ShapedOpen Tryz.prog) : Calls Tryz.prog 6 args W fun e W' => e = .returned (.bool true) ∧ Below W.heap.size W W' := by
  rw [Tryz.params6] at hA hval
  obtain ⟨v0, v1, v2, v3, v4, d0, d1, d2, d3, d4, p0, p1, p2, p3, p4, rfl, rfl, rfl, h0, h1, h2, h3, h4⟩ := trodAll_n5 hA
  obtain ⟨x0, g0⟩ := open_plan (hval 0 28 v0 rfl rfl) h0
  obtain ⟨x1, g1, b1⟩ := open_ints' (hval 1 29 v1 rfl rfl) h1
  obtain ⟨x2, g2, b2⟩ := open_rule' (hval 2 22 v2 rfl rfl) h2
  obtain ⟨x3, g3, b3⟩ := open_int' (hval 3 3 v3 rfl rfl) h3
  obtain ⟨x4, g4, b4⟩ := open_ints' (hval 4 29 v4 rfl rfl) h4
  exact law_calls (C := Tz (gW W)) (true_meets (g := gW W) x0 x1 x2 x3 x4 b1 b2 b3 b4) rfl (Below.refl _ _) (us := [v0, v1, v2, v3, v4]) rfl (fun i d u hd hu => by
    match i, hd, hu with
    | 0, hd, hu => simp at hd hu; subst hd; subst hu; exact g0
    | 1, hd, hu => simp at hd hu; subst hd; subst hu; exact g1
    | 2, hd, hu => simp at hd hu; subst hd; subst hu; exact g2
    | 3, hd, hu => simp at hd hu; subst hd; subst hu; exact g3
    | 4, hd, hu => simp at hd hu; subst hd; subst hu; exact g4
    | i + 5, hd, hu => simp at hd)
theorem true_lifted (os : Os) (started : os.Started) (H : Type) (enc : TypeId × Value → H) :
    ReturnsInHanded {} Tryz.checked os 6 .any (fun w args => (Rows.topTrueSpec.pre enc Tryz.prog Tryz.f6 [] false w args ∧ laidMetH Tryz.prog [] w) ∧ sizedMet enc Tryz.prog Tryz.f6 (OpenSpec.ofChange Rows.topTrueSpec) false w args)
      (Rows.topTrueSpec.post enc Tryz.prog Tryz.f6 false true false false) :=
  law_lifted (C := Tryz.checked) (tb := 4) (n := 5) started own (by kernel_rfl) Tryz.func6
    (ChangeSpec.witness_shaped (enc := enc) (C := Tryz.checked) (os := os) (X := fun w _ => laidMetH Tryz.prog [] w) false (World.laidAll Tryz.prog os []) #[.agg #[.slice none 0 0, .int .i64 0, .int .i64 0], .slice none 0 0, .int .i64 0, .int .i64 0, .slice none 0 0] 8 (World.laidAll_os _ _ _)
      (World.shaped_of_ZipB (by kernel_rfl) (by kernel_rfl)) (by kernel_rfl) (by kernel_rfl) (by kernel_rfl)
      ((laid0 _ _).2 trivial))
    laidOut (by kernel_rfl) (by kernel_rfl) Tryz.underlying4 rfl (by kernel_rfl) (fun ds hl => by
      match ds, hl with
      | [a, b, c, d, e], _ => rfl) (fun W base args ds ps hval hA _ hsh => true_calls W base args ds ps hval hA hsh)
theorem true_holds : Rows.TopTrueSaid :=
  OpenClaim.holds_of_wide 6 Tryz.f6 rfl rfl rfl rfl rfl rfl rfl ⟨rfl, rfl, rfl, rfl, rfl⟩ rfl rfl rfl rfl rfl (by kernel_rfl) Tryz.func6 (by kernel_rfl)
    (of_decide_eq_true (by kernel_rfl)) (by unfold Func.isWrapper; first | (rw [if_pos (by decide +kernel)]; kernel_rfl) | (rw [if_neg (by decide +kernel)]; exact ⟨rfl, rfl⟩))
    (fun os started H enc _ => by
      have h := true_lifted os started H enc
      simp only [laid0, and_true] at h
      exact h)
end Go.Vc

namespace Go.Proofs.YtkefjhemmdolaaaGreat
theorem law_TopTrueSaid : Rows.TopTrueSaid := Go.Vc.true_holds
end Go.Proofs.YtkefjhemmdolaaaGreat
