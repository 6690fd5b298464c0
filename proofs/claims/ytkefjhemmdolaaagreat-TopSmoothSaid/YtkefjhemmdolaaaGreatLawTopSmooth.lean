/- Proves that the statement TopSmoothSaid holds of the given program: for every input the law returns true and leaves its arguments as they were; no further condition. -/
import Derived.Test.YtkefjhemmdolaaaGreatVc23
import Derived.Test.YtkefjhemmdolaaaGreatVc11
import Derived.Test.YtkefjhemmdolaaaGreatVc51
import Derived.Test.YtkefjhemmdolaaaGreatVc39
import Derived.Test.YtkefjhemmdolaaaGreatVc31
set_option maxRecDepth 100000
namespace Go.Vc
open Go Go.Proofs Go.RowKit
def ann_top_TopSmooth : Nat → List Nat := fun n => match n with | 15 => [8, 14, 16] | _ => []
def vc_top_TopSmooth_k0 (P : Ctx) (pre : List ABlk) (r : AV) (post : List PB) (vs0 : List AV) (h1 : Heap) (next12 : List AV → Heap → Prop) : Prop :=
  LEN false (nth vs0 1) h1 fun v2 =>
  BIN 0 .lss (nth vs0 2) v2 fun v3 =>
  COND v3
  (IADDR 1 T_int (nth vs0 1) (nth vs0 2) h1 fun v4 =>
  LOAD false 1 v4 h1 fun v5 =>
  BIN 0 .sub v5 (.d (.num .i64 1)) fun v6 =>
  CALL P f_ref01_Listed [(nth vs0 0), v6] 976 h1 (fun _ v8 h9 =>
  NOT v8 fun v10 =>
  COND v10
  (POST (.d (.bool false)) h9 pre r post)
  (BIN 0 .add (nth vs0 2) (.d (.num .i64 1)) fun v11 =>
  next12 [(nth vs0 0), (nth vs0 1), v11] h9))
  (fun _ _ _ => False))
  (CALL P f_top_known11 [] 928 h1 (fun _ v14 h15 =>
  POST v14 h15 pre r post)
  (fun _ _ _ => False))
def vc_top_TopSmooth_k1 (P : Ctx) (pre : List ABlk) (r : AV) (post : List PB) (v0 : AV) (v3 : AV) (h5 : Heap) (a8 : AV) (v11 : AV) (v14 : AV) : Prop :=
  EXT v0 0 fun v1 =>
  EXT v0 1 fun v2 =>
  BIN 0 .neq v3 (.d (.num .i64 0)) fun v4 =>
  CONDG v4
  (POST (.d (.bool false)) h5 pre r post)
  (BIN 0 .neq v2 (.d (.num .i64 0)) fun v6 =>
  CONDG v6
  (POST (.d (.bool false)) h5 pre r post)
  (LEN false v1 h5 fun v7 =>
  LEN false a8 h5 fun v9 =>
  BIN 0 .gtr v7 v9 fun v10 =>
  CONDG v10
  (POST (.d (.bool false)) h5 pre r post)
  (LEN false v11 h5 fun v12 =>
  BIN 0 .eql v12 (.d (.num .i64 0)) fun v13 =>
  CONDG v13
  (BIN 0 .neq v14 (.d (.num .i64 3)) fun v15 =>
  COND v15
  (POST (.d (.bool false)) h5 pre r post)
  (LOOP [v11, v1, (.d (.num .i64 0))] h5 888 fun vs16 h17 next18 =>
  vc_top_TopSmooth_k0 P pre r post vs16 h17 next18))
  (LOOP [v11, v1, (.d (.num .i64 0))] h5 888 fun vs19 h20 next21 =>
  vc_top_TopSmooth_k0 P pre r post vs19 h20 next21))))
def vc_top_TopSmooth_k2 (P : Ctx) (pre : List ABlk) (r : AV) (post : List PB) (v0 : AV) (h2 : Heap) (v3 : AV) (v5 : AV) (a15 : AV) (v16 : AV) : Prop :=
  NOT v0 fun v1 =>
  COND v1
  (POST (.d (.bool false)) h2 pre r post)
  (LOAD true 3 v3 h2 fun v4 =>
  CALL P f_step_Word [v4, v5] 592 h2 (fun _ v7 h8 =>
  EXT v7 0 fun v9 =>
  EXT v7 1 fun v10 =>
  LOAD true 3 v3 h8 fun v11 =>
  CALL P f_step_Doubts [v11, v5] 656 h8 (fun _ v13 h14 =>
  vc_top_TopSmooth_k1 P pre r post v13 v10 h14 a15 v16 v9)
  (fun _ _ _ => False))
  (fun _ _ _ => False))
def vc_top_TopSmooth_k3 (P : Ctx) (pre : List ABlk) (r : AV) (post : List PB) (v0 : AV) (v3 : AV) (h5 : Heap) (v7 : AV) (a9 : AV) (v15 : AV) : Prop :=
  EXT v0 0 fun v1 =>
  EXT v0 1 fun v2 =>
  BIN 0 .neq v3 (.d (.num .i64 0)) fun v4 =>
  CONDG v4
  (POST (.d (.bool false)) h5 pre r post)
  (BIN 0 .neq v2 (.d (.num .i64 0)) fun v6 =>
  CONDG v6
  (POST (.d (.bool false)) h5 pre r post)
  (LEN false v7 h5 fun v8 =>
  LEN false a9 h5 fun v10 =>
  BIN 0 .gtr v8 v10 fun v11 =>
  CONDG v11
  (POST (.d (.bool false)) h5 pre r post)
  (LEN false v1 h5 fun v12 =>
  LEN false a9 h5 fun v13 =>
  BIN 0 .gtr v12 v13 fun v14 =>
  CONDG v14
  (POST (.d (.bool false)) h5 pre r post)
  (LOAD true 3 v15 h5 fun v16 =>
  CALL P f_ref05_Kept [v16, v1] 552 h5 (fun _ v18 h19 =>
  vc_top_TopSmooth_k2 P pre r post v18 h19 v15 v1 a9 v7)
  (fun _ _ _ => False)))))
def vc_top_TopSmooth_k4 (P : Ctx) (pre : List ABlk) (r : AV) (post : List PB) (v0 : AV) (h2 : Heap) (a6 : AV) (a11 : AV) (v21 : AV) : Prop :=
  NOT v0 fun v1 =>
  CONDG v1
  (CALL P f_top_known11 [] 208 h2 (fun _ v4 h5 =>
  POST v4 h5 pre r post)
  (fun _ _ _ => False))
  (LEN false a6 h2 fun v7 =>
  BIN 0 .lss v7 (.d (.num .i64 3)) fun v8 =>
  COND v8
  (CALL P f_top_known11 [] 208 h2 (fun _ v4 h10 =>
  POST v4 h10 pre r post)
  (fun _ _ _ => False))
  (BIN 0 .mul (.d (.num .i64 (-2))) a11 fun v12 =>
  BIN 0 .mul (.d (.num .i64 2)) a11 fun v13 =>
  BUILD [(0, 1), (1, 1)] [.d (.num .i64 0), .d (.num .i64 0)] [(0, v12), (1, v13)] fun v14 =>
  BUILD [(0, 1), (1, 1), (2, 2)] [.zc, .d (.num .i64 0), .d (.num .i64 0), .d (.num .i64 0)] [(0, a6), (1, (.d (.num .i64 2))), (2, v14)] fun v15 =>
  CALL P f_column_Jumps [v15] 264 h2 (fun _ v17 h18 =>
  EXT v17 0 fun v19 =>
  EXT v17 1 fun v20 =>
  LOAD true 3 v21 h18 fun v22 =>
  CALL P f_step_Keep [v22, (.d (.num .i64 2))] 320 h18 (fun _ v24 h25 =>
  vc_top_TopSmooth_k3 P pre r post v24 v20 h25 v19 a6 v21)
  (fun _ _ _ => False))
  (fun _ _ _ => False)))
def vc_top_TopSmooth_k5 (P : Ctx) (pre : List ABlk) (r : AV) (post : List PB) (h0 : Heap) (v3 : AV) (a9 : AV) (a10 : AV) : Prop :=
  ALLOC T_api_StepTable [.zc, .d (.num .i64 0), .d (.num .i64 0)] 128 h0 fun v1 h2 =>
  STORE 3 v1 v3 h2 fun h4 =>
  LOAD true 3 v1 h4 fun v5 =>
  CALL P f_ref05_Table [v5] 152 h4 (fun _ v7 h8 =>
  vc_top_TopSmooth_k4 P pre r post v7 h8 a9 a10 v1)
  (fun _ _ _ => False)
def vc_top_TopSmooth_k6 (P : Ctx) (pre : List ABlk) (r : AV) (post : List PB) (v0 : AV) (h2 : Heap) (a6 : AV) (a7 : AV) (a8 : AV) : Prop :=
  NOT v0 fun v1 =>
  COND v1
  (CALL P f_top_known11 [] 96 h2 (fun _ v4 h5 =>
  POST v4 h5 pre r post)
  (fun _ _ _ => False))
  (CALL P f_top_of11 [a6, a7, a8] 120 h2 (fun _ v10 h11 =>
  vc_top_TopSmooth_k5 P pre r post h11 v10 a6 a8)
  (fun _ _ _ => False))
def vc_top_TopSmooth (P : Ctx) (pre : List ABlk) (a0 a1 a2 : AV) (r : AV) (post : List PB) : Prop :=
  let h0 : Heap := numbered 0 pre
  LEN false a0 h0 fun v18 =>
  BIN 0 .gtr v18 (.d (.num .i64 14)) fun v19 =>
  CONDG v19
  (CALL P f_top_known11 [] 96 h0 (fun _ v25 h1 =>
  POST v25 h1 pre r post)
  (fun _ _ _ => False))
  (CALL P f_ref05_Off [a2] 72 h0 (fun _ v22 h3 =>
  vc_top_TopSmooth_k6 P pre r post v22 h3 a0 a1 a2)
  (fun _ _ _ => False))
theorem vc_top_TopSmooth_eq (g : GG) (pre : List ABlk) (a0 a1 a2 : AV) (r : AV) (post : List PB) : vcFn2 (Tz g) false ann_top_TopSmooth Tryz.f5 pre [a0, a1, a2] (.ret r) post = vc_top_TopSmooth (Tz g) pre a0 a1 a2 r post := by kernel_rfl
theorem hf_top_TopSmooth : Tryz.prog.funcs[f_top_TopSmooth]? = some Tryz.f5 := by kernel_rfl
theorem ok_top_TopSmooth : fnVcOK Tryz.prog Tryz.f5 = true := by kernel_rfl
theorem nt_top_TopSmooth : Nat.ble 3 Tryz.f5.ntmps = true := by kernel_rfl
theorem meetsH_top_TopSmooth {g : GG} {pre : List ABlk} {a0 a1 a2 : AV} {r : AV} {post : List PB} (hk : Nat.ble pre.length 24 = true) (h : vc_top_TopSmooth (Tz g) pre a0 a1 a2 r post) : MeetsH (Tz g) f_top_TopSmooth pre [a0, a1, a2] (.ret r) post :=
  meetsH_of_vc (C := Tz g) ann_top_TopSmooth hf_top_TopSmooth ok_top_TopSmooth nt_top_TopSmooth hk (pn := false) (Eq.mpr ((vcFn2_eq _ _ _ _ _ _ _ _).trans (vc_top_TopSmooth_eq g pre a0 a1 a2 r post)) h)
theorem meets_top_TopSmooth {g : GG} {a0 a1 a2 : D} {r : Res} (h : vc_top_TopSmooth (Tz g) [] (.d a0) (.d a1) (.d a2) r.val (r.bl.map .upd)) : Meets (Tz g) f_top_TopSmooth [a0, a1, a2] r := meetsH_top_TopSmooth rfl h
end Go.Vc

namespace Go.Vc
open Go Go.Proofs
variable {g : GG}
attribute [local simp] and_assoc
theorem known_call {new : Nat} {h : Heap} {K KP : List Nat → AV → Heap → Prop} (h3 : K [] (.d (.bool true)) h) : CALL (Tz g) f_top_known11 [] new h K KP :=
  CALL.val [] _ rfl known_meets (.inl rfl) h3
theorem ref01_Listed_meets (l : List Int) (x : Int) (hl : l.length ≤ 1000000) : Meets (Tz g) f_ref01_Listed [ints l, int x] ⟨.d (.bool (decide (x ∈ l))), []⟩ := by
  refine meets_ref01_Listed ?_
  unfold vc_ref01_Listed
  simp [ints]
  refine LOOP.mk Nat (fun k => [.d (ints l), .d (int x), .d (int k)]) (fun k => []) (fun k => k ≤ l.length ∧ (x ∈ l ↔ x ∈ l.drop k)) (fun k => l.length - k) [] (by simp) 0 (by simp) (by simp [WEAK, ints]) (fun _ _ => rfl) ?_
  rintro k ⟨hk, he⟩
  simp [ints]
  constructor
  · intro hlt
    have hg : l[k]? = some l[k] := List.getElem?_eq_getElem (by omega)
    rw [List.drop_eq_getElem_cons hlt] at he
    generalize l[k] = y at hg he
    simp [hg]
    constructor
    · intro hq
      rw [he, hq]; simp
    · intro hq
      rw [wrap_id (n := (k : Int) + 1) (by omega) (by omega)]
      refine ⟨k + 1, by omega, ?_, by simp [WEAK], by omega⟩
      rw [he]
      simp only [List.mem_cons]
      exact ⟨fun h => h.resolve_left (fun e => hq e.symm), .inr⟩
  · intro hge
    rw [List.drop_eq_nil_of_le (by omega)] at he
    simpa using he
set_option maxHeartbeats 8000000 in
theorem smooth_loop (h : Heap) (js ds : List Int) (hj : js.length ≤ 1000) (hd : ds.length ≤ 1000) (hb : ∀ x, x ∈ ds → -1000 ≤ x ∧ x ≤ 1000) (hm : ∀ x, x ∈ ds → x - 1 ∈ js) :
    LOOP [.d (ints js), .d (ints ds), .d (int 0)] h 888 fun vs h2 next => vc_top_TopSmooth_k0 (Tz g) [] (.d (.bool true)) [] vs h2 next := by
  refine LOOP.mk Nat (fun i => [.d (ints js), .d (ints ds), .d (int i)]) (fun i => []) (fun i => i ≤ ds.length) (fun i => ds.length - i) [] (by simp) 0 (by omega) (by simp [WEAK, ints]) (fun _ _ => rfl) ?_
  intro i hi
  have w1 := wrap_id (n := (i : Int) + 1) (by omega) (by omega)
  simp [vc_top_TopSmooth_k0, ints]
  refine ⟨fun hlt => ?_, fun hge => known_call (by simp)⟩
  have hlt : i < ds.length := by omega
  have gx : ds[i]? = some ds[i] := List.getElem?_eq_getElem hlt
  have mx := hm _ (List.getElem_mem hlt)
  have bx := hb _ (List.getElem_mem hlt)
  generalize ds[i] = x at gx mx bx
  have w2 := wrap_id (n := x - 1) (by omega) (by omega)
  simp [gx, w2]
  refine CALL.val [ints js, int (x - 1)] _ rfl (ref01_Listed_meets _ _ (by omega)) (.inl rfl) ?_
  rw [decide_eq_true mx]
  simp [w1]
  exact ⟨i + 1, by omega, by simp [WEAK, ints], by omega⟩
set_option maxHeartbeats 8000000 in
theorem smooth_meets (numbers : List Int) (rule off : Int) (_ : ∀ n, n ∈ numbers → -9223372036854775808 ≤ n ∧ n ≤ 9223372036854775807) (_ : -9223372036854775808 ≤ rule ∧ rule ≤ 9223372036854775807) (_ : -9223372036854775808 ≤ off ∧ off ≤ 9223372036854775807) :
    Meets (Tz g) f_top_TopSmooth [ints numbers, int rule, int off] ⟨.d (.bool true), []⟩ := by
  refine meets_top_TopSmooth ?_
  unfold vc_top_TopSmooth
  simp [ints, lookH]
  refine ⟨fun _ => known_call (by simp), fun b1 => ?_⟩
  refine CALL.val [int off] _ rfl (ref05_Off_meets off) (.inl rfl) ?_
  cases ho : inB off 0 100 with
  | false =>
    simp [vc_top_TopSmooth_k6]
    exact known_call (by simp)
  | true =>
    simp [inB] at ho
    simp [vc_top_TopSmooth_k6]
    refine CALL.val [ints numbers, int rule, int off] _ rfl (of11_meets numbers rule off (by omega)) (.inl rfl) ?_
    have hsm := smooth_law numbers rule off
    have hdl0 : (diag numbers).length = numbers.length := by simp [diag]
    have hva : ∀ x, x ∈ numbers → (⟨x, x⟩ : Sp) ∈ diag numbers := fun x hx => List.mem_map.2 ⟨x, hx, rfl⟩
    generalize htt : (⟨diag numbers, rule, off⟩ : Tb) = t at *
    have ht1 : t.vals = diag numbers := by rw [← htt]
    have ht2 : t.rule = rule := by rw [← htt]
    have htl : t.vals.length = numbers.length := by rw [ht1, hdl0]
    simp [vc_top_TopSmooth_k5, lookH, Tb.d]
    refine CALL.val [t.d] _ rfl (ref05_Table_meets t (by omega)) (.inl rfl) ?_
    cases hok : t.ok with
    | false =>
      simp [vc_top_TopSmooth_k4]
      exact known_call (by simp)
    | true =>
      obtain ⟨f1, f2, f3, f4⟩ := Tb.ok_facts hok
      have w1 := wrap_id (n := -2 * off) (by omega) (by omega)
      have w2 := wrap_id (n := 2 * off) (by omega) (by omega)
      simp [vc_top_TopSmooth_k4, ints, w1, w2]
      refine ⟨fun _ => known_call (by simp), fun b3 => ?_⟩
      have hbn : ∀ x, x ∈ numbers → -9999 ≤ x ∧ x ≤ 9999 := fun x hx => by
        have := valB_facts (f1 _ (by rw [ht1]; exact hva x hx))
        simp only at this
        omega
      have hJ := Jumps_meets (g := g) numbers (-2 * off) (2 * off) (by omega) (by omega) hbn (by omega) (by omega) (by omega)
      have hjl := jmpL_len (dN numbers 2) (-2 * off) (2 * off) (dN numbers 2).length
      have hdn := dN_len numbers 2
      have hsm := hsm (by omega) (by omega)
      generalize jmpL (dN numbers 2) (-2 * off) (2 * off) (dN numbers 2).length = js at *
      refine CALL.mk [shD numbers (-2 * off) (2 * off)] _ rfl hJ (.inl rfl) (by simp) ?_
      simp [lookH]
      have hKD := KeepD (g := g) t hok (by omega)
      have hK := keep_ok (n := numbers.length) (by omega)
      have hkl := keep_len numbers.length
      rw [htl] at hKD
      refine CALL.mk [t.d, int 2] _ rfl hKD (.inl rfl) (by simp) ?_
      simp [vc_top_TopSmooth_k3, lookH, ints, hkl]
      generalize keepP numbers.length = kept at *
      have hkb : keptB t.vals.length kept = true := by rw [htl]; exact kept_iff.2 hK
      rw [← htl] at hK
      refine ⟨by omega, fun _ => ⟨by omega, fun _ => ?_⟩⟩
      refine CALL.val [t.d, ints kept] _ rfl (ref05_Kept_meets t kept (by omega) (by omega)) (.inl rfl) ?_
      rw [hkb]
      obtain ⟨w, hW, hw1, hw2⟩ := Word_meets (g := g) t kept hok hK
      have hdl := dbL_len t kept t.vals.length
      have hdb : ∀ x, x ∈ dbL t kept t.vals.length → -1000 ≤ x ∧ x ≤ 1000 := fun x hx => by
        obtain ⟨i, rfl, h2, _⟩ := db_inv t kept _ x hx
        omega
      have hD := Doubts_meets (g := g) t kept hok hK
      rw [← htl] at hsm
      generalize dbL t kept t.vals.length = ds at *
      have hlp := fun h => smooth_loop (g := g) h js ds (by omega) (by omega) hdb hsm
      simp [vc_top_TopSmooth_k2, lookH]
      refine CALL.mk [t.d, ints kept] _ rfl hW (.inl rfl) (by simp) ?_
      simp [lookH]
      refine CALL.mk [t.d, ints kept] _ rfl hD (.inl rfl) (by simp) ?_
      simp [vc_top_TopSmooth_k1, lookH, ints]
      refine ⟨by omega, fun _ => ⟨fun hj => ⟨hw2 ?_, fun _ => hlp _⟩, fun _ => hlp _⟩⟩
      cases ds with
      | nil => rfl
      | cons x r =>
        have := hsm x List.mem_cons_self
        rw [hj] at this
        cases this
end Go.Vc

namespace Go.Vc
open Go Go.RowKit Go.ChangeShapes Go.WideShapes Go.ChangeAt Go.Proofs Go.Proofs.YtkefjhemmdolaaaGreat
theorem smooth_calls {H : Type} {enc : TypeId × Value → H} (W : World) (base : Nat) (args : Array Value) (ds : List (DataW H)) (ps : List MemPlace) (hval : ∀ (j : Nat) t v, Tryz.f5.params[j]? = some t → args[j]? = some v → Value.okWide Tryz.prog W .any base t v)
    (hA : DataW.TrodAll enc Tryz.prog W 0 (fun _ => true) true Tryz.f5.params.toList args.toList ds ps) (hsh : W.ShapedOpen Tryz.prog) : Calls Tryz.prog 5 args W fun e W' => e = .returned (.bool true) ∧ Below W.heap.size W W' := by
  rw [Tryz.params5] at hA hval
  obtain ⟨v0, v1, v2, d0, d1, d2, p0, p1, p2, rfl, rfl, rfl, h0, h1, h2⟩ := trodAll_three hA
  obtain ⟨x0, g0, b0⟩ := open_ints' (hval 0 29 v0 rfl rfl) h0
  obtain ⟨x1, g1, b1⟩ := open_rule' (hval 1 22 v1 rfl rfl) h1
  obtain ⟨x2, g2, b2⟩ := open_int' (hval 2 3 v2 rfl rfl) h2
  exact law_calls (C := Tz (gW W)) (smooth_meets (g := gW W) x0 x1 x2 b0 b1 b2) rfl (Below.refl _ _) (us := [v0, v1, v2]) rfl (fun i d u hd hu => by
    match i, hd, hu with
    | 0, hd, hu => simp at hd hu; subst hd; subst hu; exact g0
    | 1, hd, hu => simp at hd hu; subst hd; subst hu; exact g1
    | 2, hd, hu => simp at hd hu; subst hd; subst hu; exact g2
    | i + 3, hd, hu => simp at hd)
theorem smooth_lifted (os : Os) (started : os.Started) (H : Type) (enc : TypeId × Value → H) :
    ReturnsInHanded {} Tryz.checked os 5 .any (fun w args => (Rows.topSmoothSpec.pre enc Tryz.prog Tryz.f5 [] false w args ∧ laidMetH Tryz.prog [] w) ∧ sizedMet enc Tryz.prog Tryz.f5 (OpenSpec.ofChange Rows.topSmoothSpec) false w args)
      (Rows.topSmoothSpec.post enc Tryz.prog Tryz.f5 false true false false) :=
  law_lifted (C := Tryz.checked) (tb := 4) (n := 3) started own (by kernel_rfl) Tryz.func5
    (ChangeSpec.witness_shaped (enc := enc) (C := Tryz.checked) (os := os) (X := fun w _ => laidMetH Tryz.prog [] w) false (World.laidAll Tryz.prog os []) #[.slice none 0 0, .int .i64 0, .int .i64 0] 8 (World.laidAll_os _ _ _)
      (World.shaped_of_ZipB (by kernel_rfl) (by kernel_rfl)) (by kernel_rfl) (by kernel_rfl) (by kernel_rfl)
      ((laid0 _ _).2 trivial))
    laidOut (by kernel_rfl) (by kernel_rfl) Tryz.underlying4 rfl (by kernel_rfl) (fun ds hl => by
      match ds, hl with
      | [a, b, c], _ => rfl) (fun W base args ds ps hval hA _ hsh => smooth_calls W base args ds ps hval hA hsh)
theorem smooth_holds : Rows.TopSmoothSaid :=
  OpenClaim.holds_of_wide 5 Tryz.f5 rfl rfl rfl rfl rfl rfl rfl ⟨rfl, rfl, rfl, rfl, rfl⟩ rfl rfl rfl rfl rfl (by kernel_rfl) Tryz.func5 (by kernel_rfl)
    (of_decide_eq_true (by kernel_rfl)) (by unfold Func.isWrapper; first | (rw [if_pos (by decide +kernel)]; kernel_rfl) | (rw [if_neg (by decide +kernel)]; exact ⟨rfl, rfl⟩))
    (fun os started H enc _ => by
      have h := smooth_lifted os started H enc
      simp only [laid0, and_true] at h
      exact h)
end Go.Vc

namespace Go.Proofs.YtkefjhemmdolaaaGreat
theorem law_TopSmoothSaid : Rows.TopSmoothSaid := Go.Vc.smooth_holds
end Go.Proofs.YtkefjhemmdolaaaGreat
