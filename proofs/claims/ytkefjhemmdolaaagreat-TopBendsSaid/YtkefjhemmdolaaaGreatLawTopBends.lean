/- Proves that the statement TopBendsSaid holds of the given program: for every input the law returns true and leaves its arguments as they were; no further condition. -/
import Derived.Test.YtkefjhemmdolaaaGreatVc23
import Derived.Test.YtkefjhemmdolaaaGreatVc11
import Derived.Test.YtkefjhemmdolaaaGreatVc44
import Derived.Test.YtkefjhemmdolaaaGreatVc39
import Derived.Test.YtkefjhemmdolaaaGreatVc31
set_option maxRecDepth 100000
namespace Go.Vc
open Go Go.Proofs Go.RowKit
def ann_top_TopBends : Nat → List Nat := fun n => match n with  | _ => []
def vc_top_TopBends_k0 (P : Ctx) (pre : List ABlk) (r : AV) (post : List PB) (v0 : AV) (v3 : AV) (h5 : Heap) (a9 : AV) (v14 : AV) : Prop :=
  EXT v0 0 fun v1 =>
  EXT v0 1 fun v2 =>
  BIN 0 .neq v3 (.d (.num .i64 0)) fun v4 =>
  CONDG v4
  (POST (.d (.bool false)) h5 pre r post)
  (BIN 0 .neq v2 (.d (.num .i64 0)) fun v6 =>
  CONDG v6
  (POST (.d (.bool false)) h5 pre r post)
  (BIN 0 .lss v1 (.d (.num .i64 (-50))) fun v7 =>
  CONDG v7
  (POST (.d (.bool false)) h5 pre r post)
  (BIN 0 .gtr v1 (.d (.num .i64 50)) fun v8 =>
  COND v8
  (POST (.d (.bool false)) h5 pre r post)
  (BIN 0 .eql a9 (.d (.num .i64 4)) fun v10 =>
  COND v10
  (NEG v1 fun v11 =>
  MAXK v1 v11 fun v12 =>
  BIN 0 .sub v12 (.d (.num .i64 1)) fun v13 =>
  BIN 0 .geq v14 v13 fun v15 =>
  CONDG v15
  (NEG v1 fun v16 =>
  MAXK v1 v16 fun v17 =>
  BIN 0 .add v17 (.d (.num .i64 1)) fun v18 =>
  BIN 0 .leq v14 v18 fun v19 =>
  CONDG v19
  (CALL P f_top_known11 [] 1224 h5 (fun _ v21 h22 =>
  POST v21 h22 pre r post)
  (fun _ _ _ => False))
  (POST (.d (.bool false)) h5 pre r post))
  (POST (.d (.bool false)) h5 pre r post))
  (NEG v1 fun v23 =>
  MAXK v1 v23 fun v24 =>
  BIN 0 .eql v14 v24 fun v25 =>
  CONDG v25
  (CALL P f_top_known11 [] 1144 h5 (fun _ v27 h28 =>
  POST v27 h28 pre r post)
  (fun _ _ _ => False))
  (POST (.d (.bool false)) h5 pre r post))))))
def vc_top_TopBends_k1 (P : Ctx) (pre : List ABlk) (r : AV) (post : List PB) (v0 : AV) (h2 : Heap) (v3 : AV) (v5 : AV) (a11 : AV) (a12 : AV) : Prop :=
  NOT v0 fun v1 =>
  COND v1
  (POST (.d (.bool false)) h2 pre r post)
  (LOAD true 3 v3 h2 fun v4 =>
  CALL P f_step_Least [v4, v5] 848 h2 (fun _ v7 h8 =>
  EXT v7 0 fun v9 =>
  EXT v7 1 fun v10 =>
  CALL P f_round_To [a11, (.d (.num .i64 2)), a12] 912 h8 (fun _ v14 h15 =>
  vc_top_TopBends_k0 P pre r post v14 v10 h15 a12 v9)
  (fun _ _ _ => False))
  (fun _ _ _ => False))
def vc_top_TopBends_k2 (P : Ctx) (pre : List ABlk) (r : AV) (post : List PB) (v0 : AV) (h4 : Heap) (a6 : AV) (v8 : AV) (a13 : AV) (a14 : AV) : Prop :=
  EXT v0 0 fun v1 =>
  EXT v0 1 fun v2 =>
  BIN 0 .neq v2 (.d (.num .i64 0)) fun v3 =>
  CONDG v3
  (POST (.d (.bool false)) h4 pre r post)
  (LEN false v1 h4 fun v5 =>
  BIN 0 .gtr v5 a6 fun v7 =>
  CONDG v7
  (POST (.d (.bool false)) h4 pre r post)
  (LOAD true 3 v8 h4 fun v9 =>
  CALL P f_ref05_Kept [v9, v1] 808 h4 (fun _ v11 h12 =>
  vc_top_TopBends_k1 P pre r post v11 h12 v8 v1 a13 a14)
  (fun _ _ _ => False)))
def vc_top_TopBends_k3 (P : Ctx) (pre : List ABlk) (r : AV) (post : List PB) (v0 : AV) (h2 : Heap) (v6 : AV) (a11 : AV) (a12 : AV) (a13 : AV) : Prop :=
  NOT v0 fun v1 =>
  COND v1
  (CALL P f_top_known11 [] 664 h2 (fun _ v4 h5 =>
  POST v4 h5 pre r post)
  (fun _ _ _ => False))
  (LOAD true 3 v6 h2 fun v7 =>
  CALL P f_step_Keep [v7, (.d (.num .i64 2))] 672 h2 (fun _ v9 h10 =>
  vc_top_TopBends_k2 P pre r post v9 h10 a11 v6 a12 a13)
  (fun _ _ _ => False))
def vc_top_TopBends_k4 (P : Ctx) (pre : List ABlk) (r : AV) (post : List PB) (h0 : Heap) (v3 : AV) (a9 : AV) (a10 : AV) (a11 : AV) : Prop :=
  ALLOC T_api_StepTable [.zc, .d (.num .i64 0), .d (.num .i64 0)] 624 h0 fun v1 h2 =>
  STORE 3 v1 v3 h2 fun h4 =>
  LOAD true 3 v1 h4 fun v5 =>
  CALL P f_ref05_Table [v5] 648 h4 (fun _ v7 h8 =>
  vc_top_TopBends_k3 P pre r post v7 h8 v1 a9 a10 a11)
  (fun _ _ _ => False)
def vc_top_TopBends_k5 (P : Ctx) (pre : List ABlk) (r : AV) (post : List PB) (v0 : AV) (h4 : Heap) (a6 : AV) (a8 : AV) (a12 : AV) : Prop :=
  EXT v0 0 fun v1 =>
  EXT v0 1 fun v2 =>
  BIN 0 .neq v2 (.d (.num .i64 0)) fun v3 =>
  CONDG v3
  (POST (.d (.bool false)) h4 pre r post)
  (LEN false v1 h4 fun v5 =>
  BIN 0 .neq v5 a6 fun v7 =>
  COND v7
  (POST (.d (.bool false)) h4 pre r post)
  (CALL P f_top_of11 [v1, a8, (.d (.num .i64 0))] 616 h4 (fun _ v10 h11 =>
  vc_top_TopBends_k4 P pre r post h11 v10 a6 a12 a8)
  (fun _ _ _ => False)))
def vc_top_TopBends (P : Ctx) (pre : List ABlk) (a0 a1 a2 a3 a4 : AV) (r : AV) (post : List PB) : Prop :=
  let h0 : Heap := numbered 0 pre
  BIN 0 .lss a0 (.d (.num .i64 (-2000))) fun v22 =>
  CONDG v22
  (CALL P f_top_known11 [] 336 h0 (fun _ v59 h1 =>
  POST v59 h1 pre r post)
  (fun _ _ _ => False))
  (BIN 0 .gtr a0 (.d (.num .i64 2000)) fun v25 =>
  CONDG v25
  (CALL P f_top_known11 [] 336 h0 (fun _ v59 h3 =>
  POST v59 h3 pre r post)
  (fun _ _ _ => False))
  (BIN 0 .lss a1 (.d (.num .i64 (-300))) fun v29 =>
  CONDG v29
  (CALL P f_top_known11 [] 336 h0 (fun _ v59 h5 =>
  POST v59 h5 pre r post)
  (fun _ _ _ => False))
  (BIN 0 .gtr a1 (.d (.num .i64 300)) fun v33 =>
  CONDG v33
  (CALL P f_top_known11 [] 336 h0 (fun _ v59 h7 =>
  POST v59 h7 pre r post)
  (fun _ _ _ => False))
  (BIN 0 .lss a2 (.d (.num .i64 (-50))) fun v37 =>
  CONDG v37
  (CALL P f_top_known11 [] 336 h0 (fun _ v59 h9 =>
  POST v59 h9 pre r post)
  (fun _ _ _ => False))
  (BIN 0 .gtr a2 (.d (.num .i64 50)) fun v41 =>
  CONDG v41
  (CALL P f_top_known11 [] 336 h0 (fun _ v59 h11 =>
  POST v59 h11 pre r post)
  (fun _ _ _ => False))
  (BIN 0 .lss a3 (.d (.num .i64 3)) fun v45 =>
  CONDG v45
  (CALL P f_top_known11 [] 336 h0 (fun _ v59 h13 =>
  POST v59 h13 pre r post)
  (fun _ _ _ => False))
  (BIN 0 .gtr a3 (.d (.num .i64 12)) fun v49 =>
  CONDG v49
  (CALL P f_top_known11 [] 336 h0 (fun _ v59 h15 =>
  POST v59 h15 pre r post)
  (fun _ _ _ => False))
  (BIN 0 .lss a4 (.d (.num .i64 1)) fun v53 =>
  CONDG v53
  (CALL P f_top_known11 [] 336 h0 (fun _ v59 h17 =>
  POST v59 h17 pre r post)
  (fun _ _ _ => False))
  (BIN 0 .gtr a4 (.d (.num .i64 4)) fun v57 =>
  COND v57
  (CALL P f_top_known11 [] 336 h0 (fun _ v59 h19 =>
  POST v59 h19 pre r post)
  (fun _ _ _ => False))
  (BUILD [(0, 1), (1, 1)] [.d (.num .i64 0), .d (.num .i64 0)] [(0, a0), (1, a0)] fun v63 =>
  BUILD [(0, 1), (1, 1)] [.d (.num .i64 0), .d (.num .i64 0)] [(0, a1), (1, a1)] fun v66 =>
  BUILD [(0, 1), (1, 1)] [.d (.num .i64 0), .d (.num .i64 0)] [(0, a2), (1, a2)] fun v69 =>
  MKS T_api_Span 2 [v63, v66, v69] 416 h0 fun v70 h21 =>
  BUILD [(0, 1), (1, 1), (2, 1)] [.zc, .d (.num .i64 0), .d (.num .i64 0)] [(1, a3), (0, v70)] fun v71 =>
  ALLOC T_api_DifferPlan [.zc, .d (.num .i64 0), .d (.num .i64 0)] 432 h21 fun v11 h22 =>
  STORE 3 v11 v71 h22 fun h23 =>
  LOAD true 3 v11 h23 fun v73 =>
  MKS T_int 1 [a0, a1, a2] 480 h23 fun v77 h24 =>
  CALL P f_differ_Table [v73, v77] 488 h24 (fun _ v78 h25 =>
  vc_top_TopBends_k5 P pre r post v78 h25 a3 a4 a2)
  (fun _ _ _ => False)))))))))))
theorem vc_top_TopBends_eq (g : GG) (pre : List ABlk) (a0 a1 a2 a3 a4 : AV) (r : AV) (post : List PB) : vcFn2 (Tz g) false ann_top_TopBends Tryz.f3 pre [a0, a1, a2, a3, a4] (.ret r) post = vc_top_TopBends (Tz g) pre a0 a1 a2 a3 a4 r post := by kernel_rfl
theorem hf_top_TopBends : Tryz.prog.funcs[f_top_TopBends]? = some Tryz.f3 := by kernel_rfl
theorem ok_top_TopBends : fnVcOK Tryz.prog Tryz.f3 = true := by kernel_rfl
theorem nt_top_TopBends : Nat.ble 5 Tryz.f3.ntmps = true := by kernel_rfl
theorem meetsH_top_TopBends {g : GG} {pre : List ABlk} {a0 a1 a2 a3 a4 : AV} {r : AV} {post : List PB} (hk : Nat.ble pre.length 24 = true) (h : vc_top_TopBends (Tz g) pre a0 a1 a2 a3 a4 r post) : MeetsH (Tz g) f_top_TopBends pre [a0, a1, a2, a3, a4] (.ret r) post :=
  meetsH_of_vc (C := Tz g) ann_top_TopBends hf_top_TopBends ok_top_TopBends nt_top_TopBends hk (pn := false) (Eq.mpr ((vcFn2_eq _ _ _ _ _ _ _ _).trans (vc_top_TopBends_eq g pre a0 a1 a2 a3 a4 r post)) h)
theorem meets_top_TopBends {g : GG} {a0 a1 a2 a3 a4 : D} {r : Res} (h : vc_top_TopBends (Tz g) [] (.d a0) (.d a1) (.d a2) (.d a3) (.d a4) r.val (r.bl.map .upd)) : Meets (Tz g) f_top_TopBends [a0, a1, a2, a3, a4] r := meetsH_top_TopBends rfl h
end Go.Vc

namespace Go.Vc
open Go Go.Proofs
variable {g : GG}
attribute [local simp] and_assoc
theorem known_call {new : Nat} {h : Heap} {K KP : List Nat → AV → Heap → Prop} (h3 : K [] (.d (.bool true)) h) : CALL (Tz g) f_top_known11 [] new h K KP :=
  CALL.val [] _ rfl known_meets (.inl rfl) h3
theorem heads_len (t : List Int) (n : Nat) : (heads t n).length = n := by simp [heads]
set_option maxHeartbeats 8000000 in
theorem bends_meets (value first second rows rule : Int) (_ : -9223372036854775808 ≤ value ∧ value ≤ 9223372036854775807) (_ : -9223372036854775808 ≤ first ∧ first ≤ 9223372036854775807) (_ : -9223372036854775808 ≤ second ∧ second ≤ 9223372036854775807) (_ : -9223372036854775808 ≤ rows ∧ rows ≤ 9223372036854775807) (_ : -9223372036854775808 ≤ rule ∧ rule ≤ 9223372036854775807) :
    Meets (Tz g) f_top_TopBends [int value, int first, int second, int rows, int rule] ⟨.d (.bool true), []⟩ := by
  refine meets_top_TopBends ?_
  unfold vc_top_TopBends
  simp
  refine ⟨fun _ => known_call (by simp), fun b1 => ⟨fun _ => known_call (by simp), fun b2 => ⟨fun _ => known_call (by simp), fun b3 => ⟨fun _ => known_call (by simp), fun b4 => ⟨fun _ => known_call (by simp), fun b5 => ⟨fun _ => known_call (by simp), fun b6 => ⟨fun _ => known_call (by simp), fun b7 => ⟨fun _ => known_call (by simp), fun b8 => ⟨fun _ => known_call (by simp), fun b9 => ⟨fun _ => known_call (by simp), fun b10 => ?_⟩⟩⟩⟩⟩⟩⟩⟩⟩⟩
  obtain ⟨n, rfl⟩ : ∃ n : Nat, rows = n := ⟨rows.toNat, by omega⟩
  let p : Plan := ⟨[⟨value, value⟩, ⟨first, first⟩, ⟨second, second⟩], n, 0⟩
  have hp : p.ok = true := by simp [p, Plan.ok, inB, startB]; omega
  have hw : within p.starts [value, first, second] = true := by simp [p, within, inB]
  have hT := differ_Table_ok (g := g) p [value, first, second] hp hw
  have hn : p.rows.toNat = n := by simp [p]
  rw [hn] at hT
  have hl := heads_len [value, first, second] n
  have hbn := fun A B => bends_law value first second rule n (by omega) (by omega) A B
  generalize hown : heads [value, first, second] n = own at hT hl hbn
  refine CALL.mk [p.d, ints [value, first, second]] _ rfl hT (.inr ⟨rfl, fun d hd => by obtain ⟨m, _, rfl⟩ := List.mem_map.1 hd; rfl, trivial⟩) (by simp) ?_
  simp [vc_top_TopBends_k5, ints, hl]
  refine CALL.data [ints own, int rule, int 0] _ (by simp [argsD, argD, toD, lookH, bodyOf, ints]) (of11_meets own rule 0 (by omega)) ?_
  have hdl : (diag own).length = n := by simp [diag, hl]
  generalize htt : (⟨diag own, rule, 0⟩ : Tb) = t at hbn
  have htl : t.vals.length = n := by subst htt; exact hdl
  simp [vc_top_TopBends_k4, lookH, Tb.d]
  refine CALL.val [t.d] _ rfl (ref05_Table_meets t (by omega)) (.inl rfl) ?_
  cases hok : t.ok with
  | false =>
    simp [vc_top_TopBends_k3]
    exact known_call (by simp)
  | true =>
    have hK := keep_ok (n := n) (by omega)
    have hKD := KeepD (g := g) t hok (by omega)
    rw [htl] at hKD
    have hkl := keep_len n
    simp [vc_top_TopBends_k3, lookH]
    refine CALL.mk [t.d, int 2] _ rfl hKD (.inl rfl) (by simp) ?_
    simp [vc_top_TopBends_k2, ints, hkl, lookH]
    refine ⟨by omega, fun _ => ?_⟩
    have hkb : keptB t.vals.length (keepP n) = true := by rw [htl]; exact kept_iff.2 hK
    refine CALL.val [t.d, ints (keepP n)] _ rfl (ref05_Kept_meets t (keepP n) (by omega) (by omega)) (.inl rfl) ?_
    rw [hkb]
    simp [vc_top_TopBends_k1, lookH]
    have hL := Least_meets (g := g) t (keepP n) hok (by rw [htl]; exact hK)
    rw [htl] at hL
    refine CALL.mk [t.d, ints (keepP n)] _ rfl hL (.inr ⟨rfl, trivial⟩) (by simp) ?_
    simp
    have hb := half_bnd rule second (by omega) (by omega) (by omega)
    refine CALL.mk [int second, int 2, int rule] _ rfl (To_meets second 2 rule (by omega) (by omega) (by omega) (by omega) (by omega) (by omega)) (.inl rfl) (by simp) ?_
    generalize hH : rdV rule second 2 = H at hb
    generalize hLs : lsN t (keepP n) n = L at hbn
    have w1 := wrap_id (n := -H) (by omega) (by omega)
    have w2 := wrap_id (n := max H (-H) - 1) (by omega) (by omega)
    have w3 := wrap_id (n := max H (-H) + 1) (by omega) (by omega)
    have near : (rule = 1 ∨ rule = 2 ∨ rule = 3) → L = max H (-H) := fun hr => by
      have := hbn (max H (-H)) (max H (-H)) (by omega) (by omega) (fun x => by
        rw [half_near rule x second hr, hH]
        omega)
      omega
    have evn : rule = 4 → max H (-H) - 1 ≤ L ∧ L ≤ max H (-H) + 1 := fun hr => by
      subst hr
      exact hbn (max H (-H) - 1) (max H (-H) + 1) (by omega) (by omega) (fun x => by
        have := half_even x second
        rw [hH] at this
        omega)
    simp [vc_top_TopBends_k0, w1, w2, w3]
    refine ⟨by omega, fun _ => ⟨by omega, fun _ => ⟨fun h4 => ?_, fun h4 => ?_⟩⟩⟩
    · have := evn h4
      refine ⟨fun _ => ⟨fun _ => known_call (by simp), by omega⟩, by omega⟩
    · have := near (by omega)
      refine ⟨fun _ => known_call (by simp), this⟩
end Go.Vc

namespace Go.Vc
open Go Go.RowKit Go.ChangeShapes Go.WideShapes Go.ChangeAt Go.Proofs Go.Proofs.YtkefjhemmdolaaaGreat
theorem bends_calls {H : Type} {enc : TypeId × Value → H} (W : World) (base : Nat) (args : Array Value) (ds : List (DataW H)) (ps : List MemPlace) (hval : ∀ (j : Nat) t v, Tryz.f3.params[j]? = some t → args[j]? = some v → Value.okWide Tryz.prog W .any base t v)
    (hA : DataW.TrodAll enc Tryz.prog W 0 (fun _ => true) true Tryz.f3.params.toList args.toList ds ps) (hsh : W.ShapedOpen Tryz.prog) : Calls Tryz.prog 3 args W fun e W' => e = .returned (.bool true) ∧ Below W.heap.size W W' := by
  rw [Tryz.params3] at hA hval
  obtain ⟨v0, v1, v2, v3, v4, d0, d1, d2, d3, d4, p0, p1, p2, p3, p4, rfl, rfl, rfl, h0, h1, h2, h3, h4⟩ := trodAll_n5 hA
  obtain ⟨x0, g0, b0⟩ := open_int' (hval 0 3 v0 rfl rfl) h0
  obtain ⟨x1, g1, b1⟩ := open_int' (hval 1 3 v1 rfl rfl) h1
  obtain ⟨x2, g2, b2⟩ := open_int' (hval 2 3 v2 rfl rfl) h2
  obtain ⟨x3, g3, b3⟩ := open_int' (hval 3 3 v3 rfl rfl) h3
  obtain ⟨x4, g4, b4⟩ := open_rule' (hval 4 22 v4 rfl rfl) h4
  exact law_calls (C := Tz (gW W)) (bends_meets (g := gW W) x0 x1 x2 x3 x4 b0 b1 b2 b3 b4) rfl (Below.refl _ _) (us := [v0, v1, v2, v3, v4]) rfl (fun i d u hd hu => by
    match i, hd, hu with
    | 0, hd, hu => simp at hd hu; subst hd; subst hu; exact g0
    | 1, hd, hu => simp at hd hu; subst hd; subst hu; exact g1
    | 2, hd, hu => simp at hd hu; subst hd; subst hu; exact g2
    | 3, hd, hu => simp at hd hu; subst hd; subst hu; exact g3
    | 4, hd, hu => simp at hd hu; subst hd; subst hu; exact g4
    | i + 5, hd, hu => simp at hd)
theorem bends_lifted (os : Os) (started : os.Started) (H : Type) (enc : TypeId × Value → H) :
    ReturnsInHanded {} Tryz.checked os 3 .any (fun w args => (Rows.topBendsSpec.pre enc Tryz.prog Tryz.f3 [] false w args ∧ laidMetH Tryz.prog [] w) ∧ sizedMet enc Tryz.prog Tryz.f3 (OpenSpec.ofChange Rows.topBendsSpec) false w args)
      (Rows.topBendsSpec.post enc Tryz.prog Tryz.f3 false true false false) :=
  law_lifted (C := Tryz.checked) (tb := 4) (n := 5) started own (by kernel_rfl) Tryz.func3
    (ChangeSpec.witness_shaped (enc := enc) (C := Tryz.checked) (os := os) (X := fun w _ => laidMetH Tryz.prog [] w) false (World.laidAll Tryz.prog os []) #[.int .i64 0, .int .i64 0, .int .i64 0, .int .i64 0, .int .i64 0] 8 (World.laidAll_os _ _ _)
      (World.shaped_of_ZipB (by kernel_rfl) (by kernel_rfl)) (by kernel_rfl) (by kernel_rfl) (by kernel_rfl)
      ((laid0 _ _).2 trivial))
    laidOut (by kernel_rfl) (by kernel_rfl) Tryz.underlying4 rfl (by kernel_rfl) (fun ds hl => by
      match ds, hl with
      | [a, b, c, d, e], _ => rfl) (fun W base args ds ps hval hA _ hsh => bends_calls W base args ds ps hval hA hsh)
theorem bends_holds : Rows.TopBendsSaid :=
  OpenClaim.holds_of_wide 3 Tryz.f3 rfl rfl rfl rfl rfl rfl rfl ⟨rfl, rfl, rfl, rfl, rfl⟩ rfl rfl rfl rfl rfl (by kernel_rfl) Tryz.func3 (by kernel_rfl)
    (of_decide_eq_true (by kernel_rfl)) (by unfold Func.isWrapper; first | (rw [if_pos (by decide +kernel)]; kernel_rfl) | (rw [if_neg (by decide +kernel)]; exact ⟨rfl, rfl⟩))
    (fun os started H enc _ => by
      have h := bends_lifted os started H enc
      simp only [laid0, and_true] at h
      exact h)
end Go.Vc

namespace Go.Proofs.YtkefjhemmdolaaaGreat
theorem law_TopBendsSaid : Rows.TopBendsSaid := Go.Vc.bends_holds
end Go.Proofs.YtkefjhemmdolaaaGreat
