/- A part of the proof: general laws of a reading of the model by abstract data, or contracts of the functions that the law calls. -/
import Derived.Test.YtcmdbmcggfmmnaaGreatDoorVc18
import Derived.Test.YtcmdbmcggfmmnaaGreatDoorVc22
import Derived.Test.YtcmdbmcggfmmnaaGreatDoorVc11
import Derived.Test.YtcmdbmcggfmmnaaGreatDoorVc27
set_option maxRecDepth 100000
namespace Go.Vc
open Go Go.RowKit
theorem MeetsH.frz {C : Ctx} {f : FuncId} {args : List AV} {T : TypeId} {xs : List D} (h : MeetsH C f [] args (.ret (.own 0 0)) [.upd ⟨0, T, .lst xs⟩]) : MeetsH C f [] args (.ret (.d (.list xs))) [] := by
  refine ⟨h.1, fun E us hst hr => ?_⟩
  refine Calls.mono (h.2 E us hst hr) (fun e w' hq => ?_)
  obtain ⟨E1, rfl, hf, ho⟩ := hq
  cases e with
  | panicked ch => cases ho
  | outgrown => cases ho
  | returned u =>
    have ho : VRel E1 (.own 0 0) u := ho
    have hH : E1.H 0 = some ⟨0, T, .lst xs⟩ := by rw [hf.H]; rfl
    have hB : BE E1 0 0 = some (T, .lst xs) := by unfold BE; rw [hH]; rfl
    let E2 : Env := { P := E1.P, top := fun _ => none, m := E1.m, H := fun _ => none, w := E1.w, S := fun b => E1.S b ∨ E1.m 0 = some b }
    have hgo : E.Go E2 := by
      have g := hf.go
      refine ⟨⟨g.step.P, fun b hb => .inl (g.step.S b hb), g.step.w, fun i t ht => ?_, fun i t b' ht => ?_⟩, g.os, g.tape, g.output, g.size, g.only, fun b hb => ?_, fun b hb => ?_⟩
      · rw [start_top hst] at ht; cases ht
      · rw [start_top hst] at ht; cases ht
      · obtain ⟨i, h1, _⟩ := hb
        exact absurd rfl h1
      · rcases hb with hb | hb
        · exact g.st b hb
        · exact .inr (g.own b ⟨0, by rw [hH]; simp, hb⟩)
    have hhr : HR C.N E2 := by
      refine ⟨fun b hb => ⟨?_, fun i hi => absurd rfl hi⟩, fun i b hb => ?_, fun i j g hi => absurd rfl hi⟩
      · rcases hb with hb | hb
        · exact (hf.hr.st b hb).1
        · obtain ⟨_, _, k3⟩ := hf.hr.blk 0 _ hH
          obtain ⟨_, o, k4, _⟩ := k3 b hb
          rcases Nat.lt_or_ge b E1.w.heap.size with h1 | h1
          · exact h1
          · rw [Array.getElem?_eq_none h1] at k4; cases k4
      · have hb : (none : Option ABlk) = some b := hb
        cases hb
    refine ⟨E2, rfl, ⟨hgo, hhr, fun i => ?_, fun i t ht => ?_⟩, ?_⟩
    · show none = postH [] [] i
      simp [postH]
    · have ht : (none : Option Nat) = some t := ht
      cases ht
    · show VRel E2 (.d (.list xs)) u
      exact .d _ _ (own_data hf.hr hB ho E2.S (fun b hb => .inl hb) (fun b hb => .inr hb))
theorem Meets.frz {C : Ctx} {f : FuncId} {ds : List D} {T : TypeId} {xs : List D} (h : Meets C f ds ⟨.own 0 0, [⟨0, T, .lst xs⟩]⟩) : Meets C f ds ⟨.d (.list xs), []⟩ := MeetsH.frz h
end Go.Vc

namespace Go.Vc
open Go Go.Proofs Go.RowKit
def ann_differ_words : Nat → List Nat := fun n => match n with  | _ => []
def vc_differ_words (_P : Ctx) (pre : List ABlk) (r : AV) (post : List PB) : Prop :=
  let h0 : Heap := numbered 0 pre
  ALLOC T_2_string [.d (.str []), .d (.str [])] 24 h0 fun v0 h1 =>
  BUILD [(0, 1), (1, 1)] [.d (.str []), .d (.str [])] [(0, (.d (.str [112, 108, 97, 110]))), (1, (.d (.str [115, 116, 97, 114, 116])))] fun v1 =>
  STORE 2 v0 v1 h1 fun h2 =>
  LOAD true 2 v0 h2 fun r3 =>
  POST r3 h2 pre r post
theorem vc_differ_words_eq (g : GG) (pre : List ABlk) (r : AV) (post : List PB) : vcFn2 (Tz g) false ann_differ_words Tryz.f101 pre [] (.ret r) post = vc_differ_words (Tz g) pre  r post := by kernel_rfl
theorem hf_differ_words : Tryz.prog.funcs[f_differ_words]? = some Tryz.f101 := by kernel_rfl
theorem ok_differ_words : fnVcOK Tryz.prog Tryz.f101 = true := by kernel_rfl
theorem nt_differ_words : Nat.ble 0 Tryz.f101.ntmps = true := by kernel_rfl
theorem meetsH_differ_words {g : GG} {pre : List ABlk} {r : AV} {post : List PB} (hk : Nat.ble pre.length 24 = true) (h : vc_differ_words (Tz g) pre  r post) : MeetsH (Tz g) f_differ_words pre [] (.ret r) post :=
  meetsH_of_vc (C := Tz g) ann_differ_words hf_differ_words ok_differ_words nt_differ_words hk (pn := false) (Eq.mpr ((vcFn2_eq _ _ _ _ _ _ _ _).trans (vc_differ_words_eq g pre  r post)) h)
theorem meets_differ_words {g : GG} {r : Res} (h : vc_differ_words (Tz g) []  r.val (r.bl.map .upd)) : Meets (Tz g) f_differ_words [] r := meetsH_differ_words rfl h
def ann_differ_told : Nat → List Nat := fun n => match n with | 6 => [3, 15, 16, 17] | _ => []
def vc_differ_told_k0 (P : Ctx) (pre : List ABlk) (r : AV) (post : List PB) (vs0 : List AV) (h2 : Heap) (next11 : List AV → Heap → Prop) : Prop :=
  BIN 0 .lss (nth vs0 3) (nth vs0 2) fun v1 =>
  COND v1
  (IADDR 1 T_int (nth vs0 1) (nth vs0 3) h2 fun v3 =>
  LOAD false 1 v3 h2 fun v4 =>
  CALL P f_strconv_Itoa [v4] 200 h2 (fun _ v6 h7 =>
  BIN 0 .add (.d (.str [32])) v6 fun v8 =>
  BIN 0 .add (nth vs0 0) v8 fun v9 =>
  BIN 0 .add (nth vs0 3) (.d (.num .i64 1)) fun v10 =>
  next11 [v9, (nth vs0 1), (nth vs0 2), v10] h7)
  (fun _ _ _ => False))
  (POST (nth vs0 0) h2 pre r post)
def vc_differ_told_k1 (P : Ctx) (pre : List ABlk) (r : AV) (post : List PB) (v0 : AV) (a2 : AV) (h3 : Heap) : Prop :=
  AIDX false 1 2 v0 (.d (.num .i64 1)) fun v1 =>
  INVK P "ephemerist/differ.numbers" a2 [] 120 h3 (fun _ v5 h6 =>
  LEN false v5 h6 fun v7 =>
  LOOP [v1, v5, v7, (.d (.num .i64 0))] h6 144 fun vs8 h9 next10 =>
  vc_differ_told_k0 P pre r post vs8 h9 next10)
  (fun _ _ _ => False)
def vc_differ_told_k2 (P : Ctx) (pre : List ABlk) (r : AV) (post : List PB) (vs0 : List AV) (h2 : Heap) (next11 : List AV → Heap → Prop) : Prop :=
  BIN 0 .lss (nth vs0 3) (nth vs0 2) fun v1 =>
  COND v1
  (IADDR 1 T_int (nth vs0 1) (nth vs0 3) h2 fun v3 =>
  LOAD false 1 v3 h2 fun v4 =>
  CALL P f_strconv_Itoa [v4] 176 h2 (fun _ v6 h7 =>
  BIN 0 .add (.d (.str [32])) v6 fun v8 =>
  BIN 0 .add (nth vs0 0) v8 fun v9 =>
  BIN 0 .add (nth vs0 3) (.d (.num .i64 1)) fun v10 =>
  next11 [v9, (nth vs0 1), (nth vs0 2), v10] h7)
  (fun _ _ _ => False))
  (POST (nth vs0 0) h2 pre r post)
def vc_differ_told_k3 (P : Ctx) (pre : List ABlk) (r : AV) (post : List PB) (v0 : AV) (a2 : AV) (h6 : Heap) : Prop :=
  AIDX false 1 2 v0 (.d (.num .i64 0)) fun v1 =>
  TASS T_differ_start (mkAgg [.d (.num .i64 0), .d (.num .i64 0)]) a2 fun v3 =>
  EXT v3 1 fun v4 =>
  EXT v3 0 fun _ =>
  COND v4
  (CALL P f_differ_words [] 88 h6 (fun _ v8 h9 =>
  vc_differ_told_k1 P pre r post v8 a2 h9)
  (fun _ _ _ => False))
  (INVK P "ephemerist/differ.numbers" a2 [] 96 h6 (fun _ v11 h12 =>
  LEN false v11 h12 fun v13 =>
  LOOP [v1, v11, v13, (.d (.num .i64 0))] h12 120 fun vs14 h15 next16 =>
  vc_differ_told_k2 P pre r post vs14 h15 next16)
  (fun _ _ _ => False))
def vc_differ_told (P : Ctx) (pre : List ABlk) (a0 : AV) (r : AV) (post : List PB) : Prop :=
  let h0 : Heap := numbered 0 pre
  CALL P f_differ_words [] 32 h0 (fun _ v6 h1 =>
  vc_differ_told_k3 P pre r post v6 a0 h1)
  (fun _ _ _ => False)
theorem vc_differ_told_eq (g : GG) (pre : List ABlk) (a0 : AV) (r : AV) (post : List PB) : vcFn2 (Tz g) false ann_differ_told Tryz.f83 pre [a0] (.ret r) post = vc_differ_told (Tz g) pre a0 r post := by kernel_rfl
theorem hf_differ_told : Tryz.prog.funcs[f_differ_told]? = some Tryz.f83 := by kernel_rfl
theorem ok_differ_told : fnVcOK Tryz.prog Tryz.f83 = true := by kernel_rfl
theorem nt_differ_told : Nat.ble 1 Tryz.f83.ntmps = true := by kernel_rfl
theorem meetsH_differ_told {g : GG} {pre : List ABlk} {a0 : AV} {r : AV} {post : List PB} (hk : Nat.ble pre.length 24 = true) (h : vc_differ_told (Tz g) pre a0 r post) : MeetsH (Tz g) f_differ_told pre [a0] (.ret r) post :=
  meetsH_of_vc (C := Tz g) ann_differ_told hf_differ_told ok_differ_told nt_differ_told hk (pn := false) (Eq.mpr ((vcFn2_eq _ _ _ _ _ _ _ _).trans (vc_differ_told_eq g pre a0 r post)) h)
theorem meets_differ_told {g : GG} {a0 : D} {r : Res} (h : vc_differ_told (Tz g) [] (.d a0) r.val (r.bl.map .upd)) : Meets (Tz g) f_differ_told [a0] r := meetsH_differ_told rfl h
def ann_differ_head_numbers : Nat → List Nat := fun n => match n with  | _ => []
def vc_differ_head_numbers (_P : Ctx) (pre : List ABlk) (a0 : AV) (r : AV) (post : List PB) : Prop :=
  let h0 : Heap := numbered 0 pre
  BOX T_differ_head a0 24 h0 fun v1 h1 =>
  FADDR 0 v1 h1 fun v3 =>
  FADDR 1 v3 h1 fun v4 =>
  LOAD false 1 v4 h1 fun v5 =>
  FADDR 0 v1 h1 fun v6 =>
  FADDR 2 v6 h1 fun v7 =>
  LOAD false 1 v7 h1 fun v8 =>
  MKS T_int 1 [v5, v8] 88 h1 fun v9 h2 =>
  POST v9 h2 pre r post
theorem vc_differ_head_numbers_eq (g : GG) (pre : List ABlk) (a0 : AV) (r : AV) (post : List PB) : vcFn2 (Tz g) false ann_differ_head_numbers Tryz.f161 pre [a0] (.ret r) post = vc_differ_head_numbers (Tz g) pre a0 r post := by kernel_rfl
theorem hf_differ_head_numbers : Tryz.prog.funcs[f_differ_head_numbers]? = some Tryz.f161 := by kernel_rfl
theorem ok_differ_head_numbers : fnVcOK Tryz.prog Tryz.f161 = true := by kernel_rfl
theorem nt_differ_head_numbers : Nat.ble 1 Tryz.f161.ntmps = true := by kernel_rfl
theorem meetsH_differ_head_numbers {g : GG} {pre : List ABlk} {a0 : AV} {r : AV} {post : List PB} (hk : Nat.ble pre.length 24 = true) (h : vc_differ_head_numbers (Tz g) pre a0 r post) : MeetsH (Tz g) f_differ_head_numbers pre [a0] (.ret r) post :=
  meetsH_of_vc (C := Tz g) ann_differ_head_numbers hf_differ_head_numbers ok_differ_head_numbers nt_differ_head_numbers hk (pn := false) (Eq.mpr ((vcFn2_eq _ _ _ _ _ _ _ _).trans (vc_differ_head_numbers_eq g pre a0 r post)) h)
theorem meets_differ_head_numbers {g : GG} {a0 : D} {r : Res} (h : vc_differ_head_numbers (Tz g) [] (.d a0) r.val (r.bl.map .upd)) : Meets (Tz g) f_differ_head_numbers [a0] r := meetsH_differ_head_numbers rfl h
def ann_differ_start_numbers : Nat → List Nat := fun n => match n with  | _ => []
def vc_differ_start_numbers (_P : Ctx) (pre : List ABlk) (a0 : AV) (r : AV) (post : List PB) : Prop :=
  let h0 : Heap := numbered 0 pre
  BOX T_differ_start a0 24 h0 fun v1 h1 =>
  FADDR 0 v1 h1 fun v3 =>
  LOAD false 1 v3 h1 fun v4 =>
  FADDR 1 v1 h1 fun v5 =>
  LOAD false 1 v5 h1 fun v6 =>
  MKS T_int 1 [v4, v6] 72 h1 fun v7 h2 =>
  POST v7 h2 pre r post
theorem vc_differ_start_numbers_eq (g : GG) (pre : List ABlk) (a0 : AV) (r : AV) (post : List PB) : vcFn2 (Tz g) false ann_differ_start_numbers Tryz.f162 pre [a0] (.ret r) post = vc_differ_start_numbers (Tz g) pre a0 r post := by kernel_rfl
theorem hf_differ_start_numbers : Tryz.prog.funcs[f_differ_start_numbers]? = some Tryz.f162 := by kernel_rfl
theorem ok_differ_start_numbers : fnVcOK Tryz.prog Tryz.f162 = true := by kernel_rfl
theorem nt_differ_start_numbers : Nat.ble 1 Tryz.f162.ntmps = true := by kernel_rfl
theorem meetsH_differ_start_numbers {g : GG} {pre : List ABlk} {a0 : AV} {r : AV} {post : List PB} (hk : Nat.ble pre.length 24 = true) (h : vc_differ_start_numbers (Tz g) pre a0 r post) : MeetsH (Tz g) f_differ_start_numbers pre [a0] (.ret r) post :=
  meetsH_of_vc (C := Tz g) ann_differ_start_numbers hf_differ_start_numbers ok_differ_start_numbers nt_differ_start_numbers hk (pn := false) (Eq.mpr ((vcFn2_eq _ _ _ _ _ _ _ _).trans (vc_differ_start_numbers_eq g pre a0 r post)) h)
theorem meets_differ_start_numbers {g : GG} {a0 : D} {r : Res} (h : vc_differ_start_numbers (Tz g) [] (.d a0) r.val (r.bl.map .upd)) : Meets (Tz g) f_differ_start_numbers [a0] r := meetsH_differ_start_numbers rfl h
def ann_differ_text : Nat → List Nat := fun n => match n with | 3 => [3, 16, 17, 18] | 9 => [3, 6, 29, 30, 31] | 12 => [3, 6, 7, 8, 29, 30, 31, 37, 38] | _ => []
def vc_differ_text_k0 (_P : Ctx) (_pre : List ABlk) (_r : AV) (_post : List PB) (vs0 : List AV) (next10 : List AV → Heap → Prop) (h11 : Heap) (next13 : List AV → Heap → Prop) : Prop :=
  BIN 0 .lss (nth vs0 8) (nth vs0 7) fun v1 =>
  COND v1
  (SIDX (nth vs0 3) (nth vs0 8) fun v2 =>
  CONVI .i64 v2 fun v3 =>
  BIN 0 .add (nth vs0 8) (.d (.num .i64 1)) fun v4 =>
  BIN 0 .mul v3 v4 fun v5 =>
  BIN 0 .add (nth vs0 2) (.d (.num .i64 1)) fun v6 =>
  BIN 0 .mul v5 v6 fun v7 =>
  BIN 0 .add (nth vs0 1) v7 fun v8 =>
  BIN 0 .add (nth vs0 8) (.d (.num .i64 1)) fun v9 =>
  next10 [(nth vs0 0), v8, (nth vs0 2), (nth vs0 3), (nth vs0 4), (nth vs0 5), (nth vs0 6), (nth vs0 7), v9] h11)
  (BIN 0 .add (nth vs0 6) (.d (.num .i64 1)) fun v12 =>
  next13 [(nth vs0 0), (nth vs0 1), (nth vs0 4), (nth vs0 5), v12] h11)
def vc_differ_text_k1 (P : Ctx) (pre : List ABlk) (r : AV) (post : List PB) (v0 : AV) (v1 : AV) (h3 : Heap) (vs6 : List AV) : Prop :=
  BIN 0 .add v0 v1 fun v2 =>
  MKS T_string 1 [v2] 320 h3 fun v4 h5 =>
  APP T_string 1 (nth vs6 0) v4 328 h5 fun v7 h8 =>
  CALL P f_strings_Join [v7, (.d (.str [10]))] 352 h8 (fun _ v10 h11 =>
  BIN 0 .add v10 (.d (.str [10])) fun v12 =>
  POST v12 h11 pre r post)
  (fun _ _ _ => False)
def vc_differ_text_k2 (P : Ctx) (pre : List ABlk) (r : AV) (post : List PB) (v0 : AV) (v2 : AV) (h5 : Heap) (vs14 : List AV) : Prop :=
  BIN 0 .add (.d (.str [101, 110, 100, 32])) v0 fun v1 =>
  BIN 0 .quo v2 (.d (.num .i64 10)) fun v3 =>
  BIN 0 .rem v3 (.d (.num .i64 10)) fun v4 =>
  CALL P f_strconv_Itoa [v4] 272 h5 (fun _ v7 h8 =>
  BIN 0 .add v1 v7 fun v9 =>
  BIN 0 .rem v2 (.d (.num .i64 10)) fun v10 =>
  CALL P f_strconv_Itoa [v10] 304 h8 (fun _ v12 h13 =>
  vc_differ_text_k1 P pre r post v9 v12 h13 vs14)
  (fun _ _ _ => False))
  (fun _ _ _ => False)
def vc_differ_text_k3 (P : Ctx) (pre : List ABlk) (r : AV) (post : List PB) (vs0 : List AV) (h2 : Heap) (next9 : List AV → Heap → Prop) : Prop :=
  BIN 0 .lss (nth vs0 4) (nth vs0 3) fun v1 =>
  COND v1
  (IADDR 1 T_string (nth vs0 2) (nth vs0 4) h2 fun v3 =>
  LOAD false 1 v3 h2 fun v4 =>
  LEN true v4 h2 fun v5 =>
  LOOP [(nth vs0 0), (nth vs0 1), (nth vs0 4), v4, (nth vs0 2), (nth vs0 3), (nth vs0 4), v5, (.d (.num .i64 0))] h2 248 fun vs6 h7 next8 =>
  vc_differ_text_k0 P pre r post vs6 next8 h7 next9)
  (BIN 0 .rem (nth vs0 1) (.d (.num .i64 227)) fun v10 =>
  BIN 0 .quo v10 (.d (.num .i64 100)) fun v11 =>
  CALL P f_strconv_Itoa [v11] 232 h2 (fun _ v13 h14 =>
  vc_differ_text_k2 P pre r post v13 v10 h14 vs0)
  (fun _ _ _ => False))
def vc_differ_text_k4 (P : Ctx) (pre : List ABlk) (r : AV) (post : List PB) (vs0 : List AV) (h2 : Heap) (next17 : List AV → Heap → Prop) : Prop :=
  BIN 0 .lss (nth vs0 3) (nth vs0 2) fun v1 =>
  COND v1
  (IADDR 2 T_api_Span (nth vs0 1) (nth vs0 3) h2 fun v3 =>
  LOAD true 2 v3 h2 fun v4 =>
  ALLOC T_api_Span [.d (.num .i64 0), .d (.num .i64 0)] 152 h2 fun v5 h6 =>
  STORE 2 v5 v4 h6 fun h7 =>
  LOAD true 2 v5 h7 fun v8 =>
  CALL P f_differ_told [(.iface T_differ_start v8)] 192 h7 (fun _ v10 h11 =>
  MKS T_string 1 [v10] 200 h11 fun v12 h13 =>
  APP T_string 1 (nth vs0 0) v12 208 h13 fun v14 h15 =>
  BIN 0 .add (nth vs0 3) (.d (.num .i64 1)) fun v16 =>
  next17 [v14, (nth vs0 1), (nth vs0 2), v16] h15)
  (fun _ _ _ => False))
  (LEN false (nth vs0 0) h2 fun v18 =>
  LOOP [(nth vs0 0), (.d (.num .i64 0)), (nth vs0 0), v18, (.d (.num .i64 0))] h2 168 fun vs19 h20 next21 =>
  vc_differ_text_k3 P pre r post vs19 h20 next21)
def vc_differ_text (P : Ctx) (pre : List ABlk) (a0 : AV) (r : AV) (post : List PB) : Prop :=
  let h0 : Heap := numbered 0 pre
  BOX T_api_DifferPlan a0 24 h0 fun v1 h1 =>
  LOAD true 3 v1 h1 fun v10 =>
  BUILD [(0, 3)] [.zc, .d (.num .i64 0), .d (.num .i64 0)] [(0, v10)] fun v11 =>
  CALL P f_differ_told [(.iface T_differ_head v11)] 64 h1 (fun _ v13 h2 =>
  MKS T_string 1 [v13] 72 h2 fun v14 h4 =>
  FADDR 0 v1 h4 fun v15 =>
  LOAD false 1 v15 h4 fun v16 =>
  LEN false v16 h4 fun v17 =>
  LOOP [v14, v16, v17, (.d (.num .i64 0))] h4 120 fun vs5 h6 next5 =>
  vc_differ_text_k4 P pre r post vs5 h6 next5)
  (fun _ _ _ => False)
theorem vc_differ_text_eq (g : GG) (pre : List ABlk) (a0 : AV) (r : AV) (post : List PB) : vcFn2 (Tz g) false ann_differ_text Tryz.f44 pre [a0] (.ret r) post = vc_differ_text (Tz g) pre a0 r post := by kernel_rfl
theorem hf_differ_text : Tryz.prog.funcs[f_differ_text]? = some Tryz.f44 := by kernel_rfl
theorem ok_differ_text : fnVcOK Tryz.prog Tryz.f44 = true := by kernel_rfl
theorem nt_differ_text : Nat.ble 1 Tryz.f44.ntmps = true := by kernel_rfl
theorem meetsH_differ_text {g : GG} {pre : List ABlk} {a0 : AV} {r : AV} {post : List PB} (hk : Nat.ble pre.length 24 = true) (h : vc_differ_text (Tz g) pre a0 r post) : MeetsH (Tz g) f_differ_text pre [a0] (.ret r) post :=
  meetsH_of_vc (C := Tz g) ann_differ_text hf_differ_text ok_differ_text nt_differ_text hk (pn := false) (Eq.mpr ((vcFn2_eq _ _ _ _ _ _ _ _).trans (vc_differ_text_eq g pre a0 r post)) h)
theorem meets_differ_text {g : GG} {a0 : D} {r : Res} (h : vc_differ_text (Tz g) [] (.d a0) r.val (r.bl.map .upd)) : Meets (Tz g) f_differ_text [a0] r := meetsH_differ_text rfl h
def ann_differ_Print : Nat → List Nat := fun n => match n with  | _ => []
def vc_differ_Print (P : Ctx) (pre : List ABlk) (a0 : AV) (r : AV) (post : List PB) : Prop :=
  let h0 : Heap := numbered 0 pre
  BOX T_api_DifferPlan a0 24 h0 fun v1 h1 =>
  LOAD true 3 v1 h1 fun v4 =>
  CALL P f_differ_isPlan [v4] 56 h1 (fun _ v5 h2 =>
  NOT v5 fun v6 =>
  COND v6
  (POST (.tup [(.d (.str [])), (.d (.num .i64 2))]) h2 pre r post)
  (LOAD true 3 v1 h2 fun v7 =>
  CALL P f_differ_text [v7] 80 h2 (fun _ v8 h4 =>
  POST (.tup [v8, (.d (.num .i64 0))]) h4 pre r post)
  (fun _ _ _ => False)))
  (fun _ _ _ => False)
theorem vc_differ_Print_eq (g : GG) (pre : List ABlk) (a0 : AV) (r : AV) (post : List PB) : vcFn2 (Tz g) false ann_differ_Print Tryz.f11 pre [a0] (.ret r) post = vc_differ_Print (Tz g) pre a0 r post := by kernel_rfl
theorem hf_differ_Print : Tryz.prog.funcs[f_differ_Print]? = some Tryz.f11 := by kernel_rfl
theorem ok_differ_Print : fnVcOK Tryz.prog Tryz.f11 = true := by kernel_rfl
theorem nt_differ_Print : Nat.ble 1 Tryz.f11.ntmps = true := by kernel_rfl
theorem meetsH_differ_Print {g : GG} {pre : List ABlk} {a0 : AV} {r : AV} {post : List PB} (hk : Nat.ble pre.length 24 = true) (h : vc_differ_Print (Tz g) pre a0 r post) : MeetsH (Tz g) f_differ_Print pre [a0] (.ret r) post :=
  meetsH_of_vc (C := Tz g) ann_differ_Print hf_differ_Print ok_differ_Print nt_differ_Print hk (pn := false) (Eq.mpr ((vcFn2_eq _ _ _ _ _ _ _ _).trans (vc_differ_Print_eq g pre a0 r post)) h)
theorem meets_differ_Print {g : GG} {a0 : D} {r : Res} (h : vc_differ_Print (Tz g) [] (.d a0) r.val (r.bl.map .upd)) : Meets (Tz g) f_differ_Print [a0] r := meetsH_differ_Print rfl h
def ann_ref01_Row : Nat → List Nat := fun n => match n with | 2 => [0, 1, 5] | _ => []
def vc_ref01_Row_k0 (P : Ctx) (pre : List ABlk) (r : AV) (post : List PB) (vs0 : List AV) (h1 : Heap) (next12 : List AV → Heap → Prop) : Prop :=
  LEN false (nth vs0 1) h1 fun v2 =>
  BIN 0 .lss (nth vs0 2) v2 fun v3 =>
  COND v3
  (BIN 0 .add (nth vs0 0) (.d (.str [32])) fun v4 =>
  IADDR 1 T_int (nth vs0 1) (nth vs0 2) h1 fun v5 =>
  LOAD false 1 v5 h1 fun v6 =>
  CALL P f_ref01_Decimal [v6] 128 h1 (fun _ v8 h9 =>
  BIN 0 .add v4 v8 fun v10 =>
  BIN 0 .add (nth vs0 2) (.d (.num .i64 1)) fun v11 =>
  next12 [v10, (nth vs0 1), v11] h9)
  (fun _ _ _ => False))
  (POST (nth vs0 0) h1 pre r post)
def vc_ref01_Row (P : Ctx) (pre : List ABlk) (a0 a1 : AV) (r : AV) (post : List PB) : Prop :=
  let h0 : Heap := numbered 0 pre
  LOOP [a0, a1, (.d (.num .i64 0))] h0 40 fun vs1 h2 next1 =>
  vc_ref01_Row_k0 P pre r post vs1 h2 next1
theorem vc_ref01_Row_eq (g : GG) (pre : List ABlk) (a0 a1 : AV) (r : AV) (post : List PB) : vcFn2 (Tz g) false ann_ref01_Row Tryz.f72 pre [a0, a1] (.ret r) post = vc_ref01_Row (Tz g) pre a0 a1 r post := by kernel_rfl
theorem hf_ref01_Row : Tryz.prog.funcs[f_ref01_Row]? = some Tryz.f72 := by kernel_rfl
theorem ok_ref01_Row : fnVcOK Tryz.prog Tryz.f72 = true := by kernel_rfl
theorem nt_ref01_Row : Nat.ble 2 Tryz.f72.ntmps = true := by kernel_rfl
theorem meetsH_ref01_Row {g : GG} {pre : List ABlk} {a0 a1 : AV} {r : AV} {post : List PB} (hk : Nat.ble pre.length 24 = true) (h : vc_ref01_Row (Tz g) pre a0 a1 r post) : MeetsH (Tz g) f_ref01_Row pre [a0, a1] (.ret r) post :=
  meetsH_of_vc (C := Tz g) ann_ref01_Row hf_ref01_Row ok_ref01_Row nt_ref01_Row hk (pn := false) (Eq.mpr ((vcFn2_eq _ _ _ _ _ _ _ _).trans (vc_ref01_Row_eq g pre a0 a1 r post)) h)
theorem meets_ref01_Row {g : GG} {a0 a1 : D} {r : Res} (h : vc_ref01_Row (Tz g) [] (.d a0) (.d a1) r.val (r.bl.map .upd)) : Meets (Tz g) f_ref01_Row [a0, a1] r := meetsH_ref01_Row rfl h
def ann_ref01_Decimal : Nat → List Nat := fun n => match n with  | _ => []
def vc_ref01_Decimal_k0 (_P : Ctx) (pre : List ABlk) (r : AV) (post : List PB) (a0 : AV) (h4 : Heap) (v8 : AV) (h10 : Heap) (rd11 : List Nat) : Prop :=
  BIN 0 .rem a0 (.d (.num .i64 10)) fun v1 =>
  BIN 0 .sub (.d (.num .i64 48)) v1 fun v2 =>
  CONVI .u8 v2 fun v3 =>
  MKS T_uint8 1 [v3] 152 h4 fun v5 h6 =>
  CONVS v5 h6 fun v7 =>
  BIN 0 .add v8 v7 fun v9 =>
  ORDX [] [0, 1, 3, 0, 8, 24, 56, 120, 248, 511, 1023] [(2, wr h10 h4, rd11), (6, wr h4 h4, (ids v2)), (7, wr h4 h6, (ids.idsL [v3])), (8, wr h6 h6, (ids v5))] ∧
  POST v9 h6 pre r post
def vc_ref01_Decimal_k1 (_P : Ctx) (pre : List ABlk) (r : AV) (post : List PB) (a0 : AV) (h4 : Heap) (v8 : AV) (h10 : Heap) (rd11 : List Nat) : Prop :=
  BIN 0 .rem a0 (.d (.num .i64 10)) fun v1 =>
  BIN 0 .add (.d (.num .i64 48)) v1 fun v2 =>
  CONVI .u8 v2 fun v3 =>
  MKS T_uint8 1 [v3] 168 h4 fun v5 h6 =>
  CONVS v5 h6 fun v7 =>
  BIN 0 .add v8 v7 fun v9 =>
  ORDX [] [0, 1, 3, 0, 8, 24, 56, 120, 248, 511, 1023] [(2, wr h10 h4, rd11), (6, wr h4 h4, (ids v2)), (7, wr h4 h6, (ids.idsL [v3])), (8, wr h6 h6, (ids v5))] ∧
  POST v9 h6 pre r post
def vc_ref01_Decimal_k2 (P : Ctx) (pre : List ABlk) (r : AV) (post : List PB) (a0 : AV) (h4 : Heap) : Prop :=
  BIN 0 .lss a0 (.d (.num .i64 0)) fun v1 =>
  COND v1
  (BIN 0 .sub (.d (.num .i64 48)) a0 fun v2 =>
  CONVI .u8 v2 fun v3 =>
  MKS T_uint8 1 [v3] 104 h4 fun v5 h6 =>
  CONVS v5 h6 fun v7 =>
  BIN 0 .add (.d (.str [45])) v7 fun v8 =>
  POST v8 h6 pre r post)
  (BIN 0 .lss a0 (.d (.num .i64 0)) fun v9 =>
  COND v9
  (BIN 0 .quo a0 (.d (.num .i64 10)) fun v10 =>
  CALL P f_ref01_Decimal [v10] 112 h4 (fun rd11 v12 h13 =>
  vc_ref01_Decimal_k0 P pre r post a0 h13 v12 h4 rd11)
  (fun _ _ _ => False))
  (BIN 0 .lss a0 (.d (.num .i64 10)) fun v14 =>
  COND v14
  (BIN 0 .add (.d (.num .i64 48)) a0 fun v15 =>
  CONVI .u8 v15 fun v16 =>
  MKS T_uint8 1 [v16] 136 h4 fun v17 h18 =>
  CONVS v17 h18 fun v19 =>
  POST v19 h18 pre r post)
  (BIN 0 .quo a0 (.d (.num .i64 10)) fun v20 =>
  CALL P f_ref01_Decimal [v20] 128 h4 (fun rd21 v22 h23 =>
  vc_ref01_Decimal_k1 P pre r post a0 h23 v22 h4 rd21)
  (fun _ _ _ => False))))
def vc_ref01_Decimal_k3 (P : Ctx) (pre : List ABlk) (r : AV) (post : List PB) (a0 : AV) (h3 : Heap) : Prop :=
  BIN 0 .lss a0 (.d (.num .i64 0)) fun v1 =>
  COND v1
  (BIN 0 .quo a0 (.d (.num .i64 10)) fun v2 =>
  CALL P f_ref01_Decimal [v2] 112 h3 (fun rd4 v5 h6 =>
  vc_ref01_Decimal_k0 P pre r post a0 h6 v5 h3 rd4)
  (fun _ _ _ => False))
  (BIN 0 .lss a0 (.d (.num .i64 10)) fun v7 =>
  COND v7
  (BIN 0 .add (.d (.num .i64 48)) a0 fun v8 =>
  CONVI .u8 v8 fun v9 =>
  MKS T_uint8 1 [v9] 136 h3 fun v10 h11 =>
  CONVS v10 h11 fun v12 =>
  POST v12 h11 pre r post)
  (BIN 0 .quo a0 (.d (.num .i64 10)) fun v13 =>
  CALL P f_ref01_Decimal [v13] 128 h3 (fun rd14 v15 h16 =>
  vc_ref01_Decimal_k1 P pre r post a0 h16 v15 h3 rd14)
  (fun _ _ _ => False)))
def vc_ref01_Decimal (P : Ctx) (pre : List ABlk) (a0 : AV) (r : AV) (post : List PB) : Prop :=
  let h0 : Heap := numbered 0 pre
  BIN 0 .gtr a0 (.d (.num .i64 (-10))) fun v4 =>
  CONDG v4
  (vc_ref01_Decimal_k2 P pre r post a0 h0)
  (vc_ref01_Decimal_k3 P pre r post a0 h0)
theorem vc_ref01_Decimal_eq (g : GG) (pre : List ABlk) (a0 : AV) (r : AV) (post : List PB) : vcFn2 (Tz g) false ann_ref01_Decimal Tryz.f97 pre [a0] (.ret r) post = vc_ref01_Decimal (Tz g) pre a0 r post := by kernel_rfl
theorem hf_ref01_Decimal : Tryz.prog.funcs[f_ref01_Decimal]? = some Tryz.f97 := by kernel_rfl
theorem ok_ref01_Decimal : fnVcOK Tryz.prog Tryz.f97 = true := by kernel_rfl
theorem nt_ref01_Decimal : Nat.ble 1 Tryz.f97.ntmps = true := by kernel_rfl
theorem meetsH_ref01_Decimal {g : GG} {pre : List ABlk} {a0 : AV} {r : AV} {post : List PB} (hk : Nat.ble pre.length 24 = true) (h : vc_ref01_Decimal (Tz g) pre a0 r post) : MeetsH (Tz g) f_ref01_Decimal pre [a0] (.ret r) post :=
  meetsH_of_vc (C := Tz g) ann_ref01_Decimal hf_ref01_Decimal ok_ref01_Decimal nt_ref01_Decimal hk (pn := false) (Eq.mpr ((vcFn2_eq _ _ _ _ _ _ _ _).trans (vc_ref01_Decimal_eq g pre a0 r post)) h)
theorem meets_ref01_Decimal {g : GG} {a0 : D} {r : Res} (h : vc_ref01_Decimal (Tz g) [] (.d a0) r.val (r.bl.map .upd)) : Meets (Tz g) f_ref01_Decimal [a0] r := meetsH_ref01_Decimal rfl h
def ann_ref01_Sealed : Nat → List Nat := fun n => match n with | 3 => [0, 1, 5, 6, 7] | 6 => [0, 1, 5, 6, 7, 8] | _ => []
def vc_ref01_Sealed_k0 (_P : Ctx) (_pre : List ABlk) (_r : AV) (_post : List PB) (vs0 : List AV) (h1 : Heap) (next12 : List AV → Heap → Prop) : Prop :=
  IADDR 1 T_string (nth vs0 0) (nth vs0 4) h1 fun v2 =>
  LOAD false 1 v2 h1 fun v3 =>
  SIDX v3 (nth vs0 5) fun v4 =>
  CONVI .i64 v4 fun v5 =>
  BIN 0 .add (nth vs0 5) (.d (.num .i64 1)) fun v6 =>
  BIN 0 .mul v5 v6 fun v7 =>
  BIN 0 .add (nth vs0 4) (.d (.num .i64 1)) fun v8 =>
  BIN 0 .mul v7 v8 fun v9 =>
  BIN 0 .add (nth vs0 3) v9 fun v10 =>
  BIN 0 .add (nth vs0 5) (.d (.num .i64 1)) fun v11 =>
  next12 [(nth vs0 0), (nth vs0 1), (nth vs0 2), v10, (nth vs0 4), v11] h1
def vc_ref01_Sealed_k1 (_P : Ctx) (_pre : List ABlk) (_r : AV) (_post : List PB) (vs0 : List AV) (h1 : Heap) (next7 : List AV → Heap → Prop) : Prop :=
  IADDR 1 T_string (nth vs0 0) (nth vs0 4) h1 fun v2 =>
  LOAD false 1 v2 h1 fun v3 =>
  BIN 0 .add (nth vs0 2) v3 fun v4 =>
  BIN 0 .add v4 (.d (.str [10])) fun v5 =>
  BIN 0 .add (nth vs0 4) (.d (.num .i64 1)) fun v6 =>
  next7 [(nth vs0 0), (nth vs0 1), v5, (nth vs0 3), v6] h1
def vc_ref01_Sealed_k2 (P : Ctx) (pre : List ABlk) (r : AV) (post : List PB) (vs0 : List AV) (h1 : Heap) (next6 : List AV → Heap → Prop) (next7 : List AV → Heap → Prop) : Prop :=
  IADDR 1 T_string (nth vs0 0) (nth vs0 4) h1 fun v2 =>
  LOAD false 1 v2 h1 fun v3 =>
  LEN true v3 h1 fun v4 =>
  BIN 0 .lss (nth vs0 5) v4 fun v5 =>
  COND v5
  (vc_ref01_Sealed_k0 P pre r post vs0 h1 next6)
  (vc_ref01_Sealed_k1 P pre r post vs0 h1 next7)
def vc_ref01_Sealed_k3 (P : Ctx) (pre : List ABlk) (r : AV) (post : List PB) (v0 : AV) (v1 : AV) (v3 : AV) (h6 : Heap) : Prop :=
  BIN 0 .add v0 v1 fun v2 =>
  BIN 0 .quo v3 (.d (.num .i64 10)) fun v4 =>
  BIN 0 .rem v4 (.d (.num .i64 10)) fun v5 =>
  CALL P f_ref01_Decimal [v5] 200 h6 (fun _ v8 h9 =>
  BIN 0 .add v2 v8 fun v10 =>
  BIN 0 .rem v3 (.d (.num .i64 10)) fun v11 =>
  CALL P f_ref01_Decimal [v11] 232 h9 (fun _ v13 h14 =>
  BIN 0 .add v10 v13 fun v15 =>
  BIN 0 .add v15 (.d (.str [10])) fun v16 =>
  POST v16 h14 pre r post)
  (fun _ _ _ => False))
  (fun _ _ _ => False)
def vc_ref01_Sealed_k4 (P : Ctx) (pre : List ABlk) (r : AV) (post : List PB) (vs0 : List AV) (h1 : Heap) (next7 : List AV → Heap → Prop) : Prop :=
  LEN false (nth vs0 0) h1 fun v2 =>
  BIN 0 .lss (nth vs0 4) v2 fun v3 =>
  COND v3
  (LOOP [(nth vs0 0), (nth vs0 1), (nth vs0 2), (nth vs0 3), (nth vs0 4), (.d (.num .i64 0))] h1 104 fun vs4 h5 next6 =>
  vc_ref01_Sealed_k2 P pre r post vs4 h5 next6 next7)
  (BIN 0 .rem (nth vs0 3) (nth vs0 1) fun v8 =>
  BIN 0 .add (nth vs0 2) (.d (.str [101, 110, 100, 32])) fun v9 =>
  BIN 0 .quo v8 (.d (.num .i64 100)) fun v10 =>
  CALL P f_ref01_Decimal [v10] 160 h1 (fun _ v12 h13 =>
  vc_ref01_Sealed_k3 P pre r post v9 v12 v8 h13)
  (fun _ _ _ => False))
def vc_ref01_Sealed (P : Ctx) (pre : List ABlk) (a0 a1 : AV) (r : AV) (post : List PB) : Prop :=
  let h0 : Heap := numbered 0 pre
  LOOP [a0, a1, (.d (.str [])), (.d (.num .i64 0)), (.d (.num .i64 0))] h0 56 fun vs1 h2 next1 =>
  vc_ref01_Sealed_k4 P pre r post vs1 h2 next1
theorem vc_ref01_Sealed_eq (g : GG) (pre : List ABlk) (a0 a1 : AV) (r : AV) (post : List PB) : vcFn2 (Tz g) false ann_ref01_Sealed Tryz.f73 pre [a0, a1] (.ret r) post = vc_ref01_Sealed (Tz g) pre a0 a1 r post := by kernel_rfl
theorem hf_ref01_Sealed : Tryz.prog.funcs[f_ref01_Sealed]? = some Tryz.f73 := by kernel_rfl
theorem ok_ref01_Sealed : fnVcOK Tryz.prog Tryz.f73 = true := by kernel_rfl
theorem nt_ref01_Sealed : Nat.ble 2 Tryz.f73.ntmps = true := by kernel_rfl
theorem meetsH_ref01_Sealed {g : GG} {pre : List ABlk} {a0 a1 : AV} {r : AV} {post : List PB} (hk : Nat.ble pre.length 24 = true) (h : vc_ref01_Sealed (Tz g) pre a0 a1 r post) : MeetsH (Tz g) f_ref01_Sealed pre [a0, a1] (.ret r) post :=
  meetsH_of_vc (C := Tz g) ann_ref01_Sealed hf_ref01_Sealed ok_ref01_Sealed nt_ref01_Sealed hk (pn := false) (Eq.mpr ((vcFn2_eq _ _ _ _ _ _ _ _).trans (vc_ref01_Sealed_eq g pre a0 a1 r post)) h)
theorem meets_ref01_Sealed {g : GG} {a0 a1 : D} {r : Res} (h : vc_ref01_Sealed (Tz g) [] (.d a0) (.d a1) r.val (r.bl.map .upd)) : Meets (Tz g) f_ref01_Sealed [a0, a1] r := meetsH_ref01_Sealed rfl h
def ann_ref01_Split : Nat → List Nat := fun n => match n with | 4 => [0, 1, 5, 6, 7] | _ => []
def vc_ref01_Split_k0 (_P : Ctx) (pre : List ABlk) (r : AV) (post : List PB) (vs0 : List AV) (h1 : Heap) (next13 : List AV → Heap → Prop) : Prop :=
  LEN true (nth vs0 0) h1 fun v2 =>
  BIN 0 .lss (nth vs0 4) v2 fun v3 =>
  COND v3
  (SIDX (nth vs0 0) (nth vs0 4) fun v4 =>
  BIN 0 .eql v4 (nth vs0 1) fun v5 =>
  COND v5
  (SLICE 0 (nth vs0 0) (some (nth vs0 3)) (some (nth vs0 4)) none fun v6 =>
  MKS T_string 1 [v6] 176 h1 fun v7 h8 =>
  APP T_string 1 (nth vs0 2) v7 184 h8 fun v9 h10 =>
  BIN 0 .add (nth vs0 4) (.d (.num .i64 1)) fun v11 =>
  BIN 0 .add (nth vs0 4) (.d (.num .i64 1)) fun v12 =>
  next13 [(nth vs0 0), (nth vs0 1), v9, v11, v12] h10)
  (BIN 0 .add (nth vs0 4) (.d (.num .i64 1)) fun v12 =>
  next13 [(nth vs0 0), (nth vs0 1), (nth vs0 2), (nth vs0 3), v12] h1))
  (SLICE 0 (nth vs0 0) (some (nth vs0 3)) none none fun v14 =>
  MKS T_string 1 [v14] 128 h1 fun v15 h16 =>
  APP T_string 1 (nth vs0 2) v15 136 h16 fun v17 h18 =>
  POST v17 h18 pre r post)
def vc_ref01_Split (P : Ctx) (pre : List ABlk) (a0 a1 : AV) (r : AV) (post : List PB) : Prop :=
  let h0 : Heap := numbered 0 pre
  LOOP [a0, a1, .zc, (.d (.num .i64 0)), (.d (.num .i64 0))] h0 56 fun vs1 h2 next1 =>
  vc_ref01_Split_k0 P pre r post vs1 h2 next1
theorem vc_ref01_Split_eq (g : GG) (pre : List ABlk) (a0 a1 : AV) (r : AV) (post : List PB) : vcFn2 (Tz g) false ann_ref01_Split Tryz.f40 pre [a0, a1] (.ret r) post = vc_ref01_Split (Tz g) pre a0 a1 r post := by kernel_rfl
theorem hf_ref01_Split : Tryz.prog.funcs[f_ref01_Split]? = some Tryz.f40 := by kernel_rfl
theorem ok_ref01_Split : fnVcOK Tryz.prog Tryz.f40 = true := by kernel_rfl
theorem nt_ref01_Split : Nat.ble 2 Tryz.f40.ntmps = true := by kernel_rfl
theorem meetsH_ref01_Split {g : GG} {pre : List ABlk} {a0 a1 : AV} {r : AV} {post : List PB} (hk : Nat.ble pre.length 24 = true) (h : vc_ref01_Split (Tz g) pre a0 a1 r post) : MeetsH (Tz g) f_ref01_Split pre [a0, a1] (.ret r) post :=
  meetsH_of_vc (C := Tz g) ann_ref01_Split hf_ref01_Split ok_ref01_Split nt_ref01_Split hk (pn := false) (Eq.mpr ((vcFn2_eq _ _ _ _ _ _ _ _).trans (vc_ref01_Split_eq g pre a0 a1 r post)) h)
theorem meets_ref01_Split {g : GG} {a0 a1 : D} {r : Res} (h : vc_ref01_Split (Tz g) [] (.d a0) (.d a1) r.val (r.bl.map .upd)) : Meets (Tz g) f_ref01_Split [a0, a1] r := meetsH_ref01_Split rfl h
def ann_ref01_number : Nat → List Nat := fun n => match n with | 8 => [0, 6, 7, 8, 9] | _ => []
def vc_ref01_number_k0 (P : Ctx) (pre : List ABlk) (r : AV) (post : List PB) (vs0 : List AV) (h1 : Heap) (next14 : List AV → Heap → Prop) : Prop :=
  LEN true (nth vs0 2) h1 fun v2 =>
  BIN 0 .lss (nth vs0 4) v2 fun v3 =>
  COND v3
  (SIDX (nth vs0 2) (nth vs0 4) fun v4 =>
  BIN 0 .lss v4 (.d (.num .u8 48)) fun v5 =>
  CONDG v5
  (POST (.tup [(.d (.num .i64 0)), (.d (.bool false))]) h1 pre r post)
  (SIDX (nth vs0 2) (nth vs0 4) fun v6 =>
  BIN 0 .gtr v6 (.d (.num .u8 57)) fun v7 =>
  COND v7
  (POST (.tup [(.d (.num .i64 0)), (.d (.bool false))]) h1 pre r post)
  (BIN 0 .mul (.d (.num .i64 10)) (nth vs0 3) fun v8 =>
  SIDX (nth vs0 2) (nth vs0 4) fun v9 =>
  BIN 0 .sub v9 (.d (.num .u8 48)) fun v10 =>
  CONVI .i64 v10 fun v11 =>
  BIN 0 .add v8 v11 fun v12 =>
  BIN 0 .add (nth vs0 4) (.d (.num .i64 1)) fun v13 =>
  next14 [(nth vs0 0), (nth vs0 1), (nth vs0 2), v12, v13] h1)))
  (BIN 0 .mul (nth vs0 1) (nth vs0 3) fun v15 =>
  BIN 0 .mul (nth vs0 1) (nth vs0 3) fun v16 =>
  CALL P f_ref01_Decimal [v16] 336 h1 (fun _ v18 h19 =>
  BIN 0 .eql v18 (nth vs0 0) fun v20 =>
  POST (.tup [v15, v20]) h19 pre r post)
  (fun _ _ _ => False))
def vc_ref01_number_k1 (P : Ctx) (pre : List ABlk) (r : AV) (post : List PB) (vs0 : List AV) (h1 : Heap) (next14 : List AV → Heap → Prop) : Prop :=
  LEN true (nth vs0 2) h1 fun v2 =>
  BIN 0 .lss (nth vs0 4) v2 fun v3 =>
  COND v3
  (SIDX (nth vs0 2) (nth vs0 4) fun v4 =>
  BIN 0 .lss v4 (.d (.num .u8 48)) fun v5 =>
  CONDG v5
  (POST (.tup [(.d (.num .i64 0)), (.d (.bool false))]) h1 pre r post)
  (SIDX (nth vs0 2) (nth vs0 4) fun v6 =>
  BIN 0 .gtr v6 (.d (.num .u8 57)) fun v7 =>
  COND v7
  (POST (.tup [(.d (.num .i64 0)), (.d (.bool false))]) h1 pre r post)
  (BIN 0 .mul (.d (.num .i64 10)) (nth vs0 3) fun v8 =>
  SIDX (nth vs0 2) (nth vs0 4) fun v9 =>
  BIN 0 .sub v9 (.d (.num .u8 48)) fun v10 =>
  CONVI .i64 v10 fun v11 =>
  BIN 0 .add v8 v11 fun v12 =>
  BIN 0 .add (nth vs0 4) (.d (.num .i64 1)) fun v13 =>
  next14 [(nth vs0 0), (nth vs0 1), (nth vs0 2), v12, v13] h1)))
  (BIN 0 .mul (nth vs0 1) (nth vs0 3) fun v15 =>
  BIN 0 .mul (nth vs0 1) (nth vs0 3) fun v16 =>
  CALL P f_ref01_Decimal [v16] 304 h1 (fun _ v18 h19 =>
  BIN 0 .eql v18 (nth vs0 0) fun v20 =>
  POST (.tup [v15, v20]) h19 pre r post)
  (fun _ _ _ => False))
def vc_ref01_number_k2 (P : Ctx) (pre : List ABlk) (r : AV) (post : List PB) (a0 : AV) (h2 : Heap) (a6 : AV) : Prop :=
  SLICE 0 a0 (some (.d (.num .i64 1))) none none fun v1 =>
  ORDX [] [0, 1, 0, 7] [] ∧
  LEN true v1 h2 fun v3 =>
  BIN 0 .lss v3 (.d (.num .i64 1)) fun v4 =>
  CONDG v4
  (POST (.tup [(.d (.num .i64 0)), (.d (.bool false))]) h2 pre r post)
  (LEN true v1 h2 fun v5 =>
  BIN 0 .gtr v5 a6 fun v7 =>
  COND v7
  (POST (.tup [(.d (.num .i64 0)), (.d (.bool false))]) h2 pre r post)
  (LOOP [a0, (.d (.num .i64 (-1))), v1, (.d (.num .i64 0)), (.d (.num .i64 0))] h2 248 fun vs8 h9 next10 =>
  vc_ref01_number_k0 P pre r post vs8 h9 next10))
def vc_ref01_number_k3 (P : Ctx) (pre : List ABlk) (r : AV) (post : List PB) (a0 : AV) (h1 : Heap) (a5 : AV) : Prop :=
  LEN true a0 h1 fun v2 =>
  BIN 0 .lss v2 (.d (.num .i64 1)) fun v3 =>
  CONDG v3
  (POST (.tup [(.d (.num .i64 0)), (.d (.bool false))]) h1 pre r post)
  (LEN true a0 h1 fun v4 =>
  BIN 0 .gtr v4 a5 fun v6 =>
  COND v6
  (POST (.tup [(.d (.num .i64 0)), (.d (.bool false))]) h1 pre r post)
  (LOOP [a0, (.d (.num .i64 1)), a0, (.d (.num .i64 0)), (.d (.num .i64 0))] h1 216 fun vs7 h8 next9 =>
  vc_ref01_number_k1 P pre r post vs7 h8 next9))
def vc_ref01_number (P : Ctx) (pre : List ABlk) (a0 a1 : AV) (r : AV) (post : List PB) : Prop :=
  let h0 : Heap := numbered 0 pre
  LEN true a0 h0 fun v12 =>
  BIN 0 .gtr v12 (.d (.num .i64 0)) fun v13 =>
  CONDG v13
  (SIDX a0 (.d (.num .i64 0)) fun v16 =>
  BIN 0 .eql v16 (.d (.num .u8 45)) fun v17 =>
  COND v17
  (vc_ref01_number_k2 P pre r post a0 h0 a1)
  (vc_ref01_number_k3 P pre r post a0 h0 a1))
  (LEN true a0 h0 fun v22 =>
  BIN 0 .lss v22 (.d (.num .i64 1)) fun v23 =>
  CONDG v23
  (POST (.tup [(.d (.num .i64 0)), (.d (.bool false))]) h0 pre r post)
  (LEN true a0 h0 fun v26 =>
  BIN 0 .gtr v26 a1 fun v28 =>
  COND v28
  (POST (.tup [(.d (.num .i64 0)), (.d (.bool false))]) h0 pre r post)
  (LOOP [a0, (.d (.num .i64 1)), a0, (.d (.num .i64 0)), (.d (.num .i64 0))] h0 216 fun vs9 h10 next9 =>
  vc_ref01_number_k1 P pre r post vs9 h10 next9)))
theorem vc_ref01_number_eq (g : GG) (pre : List ABlk) (a0 a1 : AV) (r : AV) (post : List PB) : vcFn2 (Tz g) false ann_ref01_number Tryz.f82 pre [a0, a1] (.ret r) post = vc_ref01_number (Tz g) pre a0 a1 r post := by kernel_rfl
theorem hf_ref01_number : Tryz.prog.funcs[f_ref01_number]? = some Tryz.f82 := by kernel_rfl
theorem ok_ref01_number : fnVcOK Tryz.prog Tryz.f82 = true := by kernel_rfl
theorem nt_ref01_number : Nat.ble 2 Tryz.f82.ntmps = true := by kernel_rfl
theorem meetsH_ref01_number {g : GG} {pre : List ABlk} {a0 a1 : AV} {r : AV} {post : List PB} (hk : Nat.ble pre.length 24 = true) (h : vc_ref01_number (Tz g) pre a0 a1 r post) : MeetsH (Tz g) f_ref01_number pre [a0, a1] (.ret r) post :=
  meetsH_of_vc (C := Tz g) ann_ref01_number hf_ref01_number ok_ref01_number nt_ref01_number hk (pn := false) (Eq.mpr ((vcFn2_eq _ _ _ _ _ _ _ _).trans (vc_ref01_number_eq g pre a0 a1 r post)) h)
theorem meets_ref01_number {g : GG} {a0 a1 : D} {r : Res} (h : vc_ref01_number (Tz g) [] (.d a0) (.d a1) r.val (r.bl.map .upd)) : Meets (Tz g) f_ref01_number [a0, a1] r := meetsH_ref01_number rfl h
def ann_ref01_Numbers : Nat → List Nat := fun n => match n with | 3 => [0, 1, 6, 7] | _ => []
def vc_ref01_Numbers_k0 (_P : Ctx) (pre : List ABlk) (r : AV) (post : List PB) (v0 : AV) (h4 : Heap) (vs7 : List AV) (next11 : List AV → Heap → Prop) : Prop :=
  EXT v0 0 fun v1 =>
  EXT v0 1 fun v2 =>
  NOT v2 fun v3 =>
  COND v3
  (POST (.tup [.zc, (.d (.bool false))]) h4 pre r post)
  (MKS T_int 1 [v1] 216 h4 fun v5 h6 =>
  APP T_int 1 (nth vs7 2) v5 224 h6 fun v8 h9 =>
  BIN 0 .add (nth vs7 3) (.d (.num .i64 1)) fun v10 =>
  next11 [(nth vs7 0), (nth vs7 1), v8, v10] h9)
def vc_ref01_Numbers_k1 (P : Ctx) (pre : List ABlk) (r : AV) (post : List PB) (vs0 : List AV) (h1 : Heap) (next9 : List AV → Heap → Prop) : Prop :=
  LEN false (nth vs0 0) h1 fun v2 =>
  BIN 0 .lss (nth vs0 3) v2 fun v3 =>
  COND v3
  (IADDR 1 T_string (nth vs0 0) (nth vs0 3) h1 fun v4 =>
  LOAD false 1 v4 h1 fun v5 =>
  CALL P f_ref01_number [v5, (nth vs0 1)] 136 h1 (fun _ v7 h8 =>
  vc_ref01_Numbers_k0 P pre r post v7 h8 vs0 next9)
  (fun _ _ _ => False))
  (POST (.tup [(nth vs0 2), (.d (.bool true))]) h1 pre r post)
def vc_ref01_Numbers (P : Ctx) (pre : List ABlk) (a0 a1 : AV) (r : AV) (post : List PB) : Prop :=
  let h0 : Heap := numbered 0 pre
  LOOP [a0, a1, .zc, (.d (.num .i64 0))] h0 56 fun vs1 h2 next1 =>
  vc_ref01_Numbers_k1 P pre r post vs1 h2 next1
theorem vc_ref01_Numbers_eq (g : GG) (pre : List ABlk) (a0 a1 : AV) (r : AV) (post : List PB) : vcFn2 (Tz g) false ann_ref01_Numbers Tryz.f41 pre [a0, a1] (.ret r) post = vc_ref01_Numbers (Tz g) pre a0 a1 r post := by kernel_rfl
theorem hf_ref01_Numbers : Tryz.prog.funcs[f_ref01_Numbers]? = some Tryz.f41 := by kernel_rfl
theorem ok_ref01_Numbers : fnVcOK Tryz.prog Tryz.f41 = true := by kernel_rfl
theorem nt_ref01_Numbers : Nat.ble 2 Tryz.f41.ntmps = true := by kernel_rfl
theorem meetsH_ref01_Numbers {g : GG} {pre : List ABlk} {a0 a1 : AV} {r : AV} {post : List PB} (hk : Nat.ble pre.length 24 = true) (h : vc_ref01_Numbers (Tz g) pre a0 a1 r post) : MeetsH (Tz g) f_ref01_Numbers pre [a0, a1] (.ret r) post :=
  meetsH_of_vc (C := Tz g) ann_ref01_Numbers hf_ref01_Numbers ok_ref01_Numbers nt_ref01_Numbers hk (pn := false) (Eq.mpr ((vcFn2_eq _ _ _ _ _ _ _ _).trans (vc_ref01_Numbers_eq g pre a0 a1 r post)) h)
theorem meets_ref01_Numbers {g : GG} {a0 a1 : D} {r : Res} (h : vc_ref01_Numbers (Tz g) [] (.d a0) (.d a1) r.val (r.bl.map .upd)) : Meets (Tz g) f_ref01_Numbers [a0, a1] r := meetsH_ref01_Numbers rfl h
def ann_ref01_Print : Nat → List Nat := fun n => match n with | 3 => [1, 3, 4] | _ => []
def vc_ref01_Print_k0 (_P : Ctx) (_pre : List ABlk) (_r : AV) (_post : List PB) (v0 : AV) (h1 : Heap) (vs4 : List AV) (h7 : Heap) (v8 : AV) (v9 : AV) (v10 : AV) (v11 : AV) (v12 : AV) (v13 : AV) (v14 : AV) (v15 : AV) (h16 : Heap) (v17 : AV) (v18 : AV) (rd19 : List Nat) (next21 : List AV → Heap → Prop) : Prop :=
  MKS T_string 1 [v0] 280 h1 fun v2 h3 =>
  APP T_string 1 (nth vs4 1) v2 288 h3 fun v5 h6 =>
  ORDX [] [0, 0, 2, 0, 14, 30, 62, 0, 128, 0, 896, 1920, 3968, 8190, 16382, 32766, 65535, 131071] [(1, wr h7 h7, (ids (nth vs4 0))), (2, wr h7 h7, (ids v8)), (4, wr h7 h7, (ids v9)), (5, wr h7 h7, (ids v10)), (6, wr h7 h7, (ids v11)), (7, wr h7 h7, (ids (nth vs4 0))), (8, wr h7 h7, (ids v12)), (10, wr h7 h7, (ids v13)), (11, wr h7 h7, (ids v14)), (12, wr h7 h7, (ids v15)), (13, wr h7 h16, (ids.idsL [v17, v18])), (14, wr h16 h1, rd19), (15, wr h1 h3, (ids.idsL [v0])), (16, wr h3 h6, (ids.idsL [(nth vs4 1), v2]))] ∧
  BIN 0 .add (nth vs4 2) (.d (.num .i64 1)) fun v20 =>
  next21 [(nth vs4 0), v5, v20] h6
def vc_ref01_Print_k1 (P : Ctx) (pre : List ABlk) (r : AV) (post : List PB) (vs0 : List AV) (h1 : Heap) (next21 : List AV → Heap → Prop) : Prop :=
  FADDR 0 (nth vs0 0) h1 fun v2 =>
  LOAD false 1 v2 h1 fun v3 =>
  LEN false v3 h1 fun v4 =>
  BIN 0 .lss (nth vs0 2) v4 fun v5 =>
  COND v5
  (FADDR 0 (nth vs0 0) h1 fun v6 =>
  LOAD false 1 v6 h1 fun v7 =>
  IADDR 2 T_api_Span v7 (nth vs0 2) h1 fun v8 =>
  FADDR 0 v8 h1 fun v9 =>
  LOAD false 1 v9 h1 fun v10 =>
  FADDR 0 (nth vs0 0) h1 fun v11 =>
  LOAD false 1 v11 h1 fun v12 =>
  IADDR 2 T_api_Span v12 (nth vs0 2) h1 fun v13 =>
  FADDR 1 v13 h1 fun v14 =>
  LOAD false 1 v14 h1 fun v15 =>
  MKS T_int 1 [v10, v15] 264 h1 fun v16 h17 =>
  CALL P f_ref01_Row [(.d (.str [115, 116, 97, 114, 116])), v16] 272 h17 (fun rd18 v19 h20 =>
  vc_ref01_Print_k0 P pre r post v19 h20 vs0 h1 v6 v7 v8 v9 v11 v12 v13 v14 h17 v10 v15 rd18 next21)
  (fun _ _ _ => False))
  (CALL P f_ref01_Sealed [(nth vs0 1), (.d (.num .i64 227))] 168 h1 (fun _ v23 h24 =>
  POST v23 h24 pre r post)
  (fun _ _ _ => False))
def vc_ref01_Print (P : Ctx) (pre : List ABlk) (a0 : AV) (r : AV) (post : List PB) : Prop :=
  let h0 : Heap := numbered 0 pre
  BOX T_api_DifferPlan a0 24 h0 fun v1 h1 =>
  FADDR 1 v1 h1 fun v5 =>
  LOAD false 1 v5 h1 fun v6 =>
  FADDR 2 v1 h1 fun v7 =>
  LOAD false 1 v7 h1 fun v8 =>
  MKS T_int 1 [v6, v8] 72 h1 fun v9 h2 =>
  CALL P f_ref01_Row [(.d (.str [112, 108, 97, 110])), v9] 80 h2 (fun _ v10 h3 =>
  MKS T_string 1 [v10] 88 h3 fun v11 h5 =>
  LOOP [v1, v11, (.d (.num .i64 0))] h5 112 fun vs6 h7 next6 =>
  vc_ref01_Print_k1 P pre r post vs6 h7 next6)
  (fun _ _ _ => False)
theorem vc_ref01_Print_eq (g : GG) (pre : List ABlk) (a0 : AV) (r : AV) (post : List PB) : vcFn2 (Tz g) false ann_ref01_Print Tryz.f35 pre [a0] (.ret r) post = vc_ref01_Print (Tz g) pre a0 r post := by kernel_rfl
theorem hf_ref01_Print : Tryz.prog.funcs[f_ref01_Print]? = some Tryz.f35 := by kernel_rfl
theorem ok_ref01_Print : fnVcOK Tryz.prog Tryz.f35 = true := by kernel_rfl
theorem nt_ref01_Print : Nat.ble 1 Tryz.f35.ntmps = true := by kernel_rfl
theorem meetsH_ref01_Print {g : GG} {pre : List ABlk} {a0 : AV} {r : AV} {post : List PB} (hk : Nat.ble pre.length 24 = true) (h : vc_ref01_Print (Tz g) pre a0 r post) : MeetsH (Tz g) f_ref01_Print pre [a0] (.ret r) post :=
  meetsH_of_vc (C := Tz g) ann_ref01_Print hf_ref01_Print ok_ref01_Print nt_ref01_Print hk (pn := false) (Eq.mpr ((vcFn2_eq _ _ _ _ _ _ _ _).trans (vc_ref01_Print_eq g pre a0 r post)) h)
theorem meets_ref01_Print {g : GG} {a0 : D} {r : Res} (h : vc_ref01_Print (Tz g) [] (.d a0) r.val (r.bl.map .upd)) : Meets (Tz g) f_ref01_Print [a0] r := meetsH_ref01_Print rfl h
def ann_ref01_SamePlans : Nat → List Nat := fun n => match n with  | _ => []
def vc_ref01_SamePlans (P : Ctx) (pre : List ABlk) (a0 a1 : AV) (r : AV) (post : List PB) : Prop :=
  let h0 : Heap := numbered 0 pre
  BOX T_api_DifferPlan a0 24 h0 fun v2 h1 =>
  BOX T_api_DifferPlan a1 32 h1 fun v3 h2 =>
  FADDR 1 v2 h2 fun v5 =>
  LOAD false 1 v5 h2 fun v6 =>
  FADDR 1 v3 h2 fun v7 =>
  LOAD false 1 v7 h2 fun v8 =>
  BIN 0 .eql v6 v8 fun v9 =>
  CONDG v9
  (FADDR 2 v2 h2 fun v11 =>
  LOAD false 1 v11 h2 fun v12 =>
  FADDR 2 v3 h2 fun v13 =>
  LOAD false 1 v13 h2 fun v14 =>
  BIN 0 .eql v12 v14 fun v15 =>
  CONDG v15
  (FADDR 0 v2 h2 fun v18 =>
  LOAD false 1 v18 h2 fun v19 =>
  FADDR 0 v3 h2 fun v20 =>
  LOAD false 1 v20 h2 fun v21 =>
  CALL P f_ref01_SameSpans [v19, v21] 184 h2 (fun _ v22 h3 =>
  POST v22 h3 pre r post)
  (fun _ _ _ => False))
  (POST (.d (.bool false)) h2 pre r post))
  (POST (.d (.bool false)) h2 pre r post)
theorem vc_ref01_SamePlans_eq (g : GG) (pre : List ABlk) (a0 a1 : AV) (r : AV) (post : List PB) : vcFn2 (Tz g) false ann_ref01_SamePlans Tryz.f10 pre [a0, a1] (.ret r) post = vc_ref01_SamePlans (Tz g) pre a0 a1 r post := by kernel_rfl
theorem hf_ref01_SamePlans : Tryz.prog.funcs[f_ref01_SamePlans]? = some Tryz.f10 := by kernel_rfl
theorem ok_ref01_SamePlans : fnVcOK Tryz.prog Tryz.f10 = true := by kernel_rfl
theorem nt_ref01_SamePlans : Nat.ble 2 Tryz.f10.ntmps = true := by kernel_rfl
theorem meetsH_ref01_SamePlans {g : GG} {pre : List ABlk} {a0 a1 : AV} {r : AV} {post : List PB} (hk : Nat.ble pre.length 24 = true) (h : vc_ref01_SamePlans (Tz g) pre a0 a1 r post) : MeetsH (Tz g) f_ref01_SamePlans pre [a0, a1] (.ret r) post :=
  meetsH_of_vc (C := Tz g) ann_ref01_SamePlans hf_ref01_SamePlans ok_ref01_SamePlans nt_ref01_SamePlans hk (pn := false) (Eq.mpr ((vcFn2_eq _ _ _ _ _ _ _ _).trans (vc_ref01_SamePlans_eq g pre a0 a1 r post)) h)
theorem meets_ref01_SamePlans {g : GG} {a0 a1 : D} {r : Res} (h : vc_ref01_SamePlans (Tz g) [] (.d a0) (.d a1) r.val (r.bl.map .upd)) : Meets (Tz g) f_ref01_SamePlans [a0, a1] r := meetsH_ref01_SamePlans rfl h
end Go.Vc

namespace Go.Vc
open Go
abbrev Str := List UInt8
theorem digs_small {u : Nat} (h : u < 10) : Lib.decDigits u = [UInt8.ofNat (48 + u)] := by rw [Lib.decDigits, dif_pos h]
theorem digs_step {u : Nat} (h : ¬ u < 10) : Lib.decDigits u = Lib.decDigits (u / 10) ++ [UInt8.ofNat (48 + u % 10)] := by rw [Lib.decDigits, dif_neg h]
def isD (c : UInt8) : Bool := decide (48 ≤ c.toNat) && decide (c.toNat ≤ 57)
def valS (s : Str) : Nat := s.foldl (fun n c => 10 * n + (c.toNat - 48)) 0
theorem digs_len : ∀ (k u : Nat), u < 10 ^ (k + 1) → (Lib.decDigits u).length ≤ k + 1
  | 0, u, h => by rw [digs_small (by omega)]; simp
  | k + 1, u, h => by
    by_cases hu : u < 10
    · rw [digs_small hu]; simp
    · have := digs_len k (u / 10) (by rw [Nat.pow_succ] at h; omega)
      rw [digs_step hu]; simp; omega
theorem valS_lt : ∀ (s : Str) (n : Nat), s.all isD = true → s.foldl (fun n c => 10 * n + (c.toNat - 48)) n < (n + 1) * 10 ^ s.length
  | [], n, _ => by simp
  | c :: r, n, h => by
    simp only [List.all_cons, Bool.and_eq_true] at h
    have ih := valS_lt r (10 * n + (c.toNat - 48)) h.2
    simp only [isD, Bool.and_eq_true, decide_eq_true_eq] at h
    refine Nat.lt_of_lt_of_le ih ?_
    simp only [List.length_cons, Nat.pow_succ]
    rw [Nat.mul_comm (10 ^ r.length) 10, ← Nat.mul_assoc]
    exact Nat.mul_le_mul_right _ (by omega)
theorem itoaX_nonneg (n : Nat) (h : n ≤ 1000000000) : itoaX (n : Int) = Lib.decDigits n := by
  rw [itoaX_eq (by omega) (by omega)]
  unfold Lib.itoa
  rw [if_neg (by omega)]
  simp
theorem itoaX_neg (n : Nat) (h0 : 0 < n) (h : n ≤ 1000000000) : itoaX (-(n : Int)) = 45 :: Lib.decDigits n := by
  rw [itoaX_eq (by omega) (by omega)]
  unfold Lib.itoa
  rw [if_pos (by omega)]
  have : (-(n : Int)).natAbs = n := by omega
  rw [this]
def cutM (w : Str) : Bool × Str := match w with
  | [] => (false, [])
  | c :: r => match decide (c = 45) with | true => (true, r) | false => (false, c :: r)
def goodD (d : Nat) (s : Str) : Bool := decide (1 ≤ s.length) && (decide (s.length ≤ d) && s.all isD)
def sgnI (m : Bool) (n : Nat) : Int := match m with | true => -(n : Int) | false => (n : Int)
def numR (d : Nat) (w : Str) : Option Int := match goodD d (cutM w).2 && decide (itoaX (sgnI (cutM w).1 (valS (cutM w).2)) = w) with | true => some (sgnI (cutM w).1 (valS (cutM w).2)) | false => none
theorem valS_bound {d : Nat} {s : Str} (h : goodD d s = true) : valS s < 10 ^ d := by
  simp only [goodD, Bool.and_eq_true, decide_eq_true_eq] at h
  have := valS_lt s 0 h.2.2
  simp only [Nat.zero_add, Nat.one_mul] at this
  exact Nat.lt_of_lt_of_le this (Nat.pow_le_pow_right (by omega) h.2.1)
theorem numR_some {d : Nat} (_hd : d ≤ 9) {w : Str} {n : Int} (h : numR d w = some n) : itoaX n = w ∧ -((10 ^ d : Nat) : Int) < n ∧ n < ((10 ^ d : Nat) : Int) := by
  unfold numR at h
  split at h
  · rename_i hc
    simp only [Bool.and_eq_true, decide_eq_true_eq] at hc
    injection h with h
    have hb := valS_bound hc.1
    rw [← h]
    refine ⟨hc.2, ?_⟩
    cases (cutM w).1 <;> simp only [sgnI] <;> omega
  · cases h
theorem dig_not45 {c : UInt8} (h : isD c = true) : c ≠ 45 := by
  rintro rfl
  simp [isD] at h
theorem cutM_digs {s : Str} (h : s.all isD = true) : cutM s = (false, s) := by
  cases s with
  | nil => rfl
  | cons c r =>
    simp only [List.all_cons, Bool.and_eq_true] at h
    simp only [cutM, decide_eq_false (dig_not45 h.1)]
def givB (d : Nat) (sign : Bool) (w : Str) : Bool := match numR d w with | some n => sign || decide (0 ≤ n) | none => false
theorem given_iff {d : Nat} (hd : d ≤ 9) (w : Str) (sign : Bool) : (goodD d (cutM w).2 && (decide (itoaX (valS (cutM w).2 : Int) = (cutM w).2) && (!(cutM w).1 || (sign && decide (0 < valS (cutM w).2))))) = givB d sign w ∧ (∀ n, numR d w = some n → n = sgnI (cutM w).1 (valS (cutM w).2)) := by
  have hn : ∀ n, numR d w = some n → n = sgnI (cutM w).1 (valS (cutM w).2) := fun n h => by
    unfold numR at h
    split at h
    · injection h with h; exact h.symm
    · cases h
  refine ⟨?_, hn⟩
  unfold givB
  have hpow : 10 ^ d ≤ 10 ^ 9 := Nat.pow_le_pow_right (by omega) hd
  cases hg : goodD d (cutM w).2 with
  | false =>
    have : numR d w = none := by unfold numR; rw [hg]; rfl
    rw [this]; rfl
  | true =>
    have hb := valS_bound hg
    rw [Bool.true_and]
    have hw : w = (match (cutM w).1 with | true => 45 :: (cutM w).2 | false => (cutM w).2) := by
      unfold cutM
      cases w with
      | nil => rfl
      | cons c r =>
        by_cases hc : c = 45
        · subst hc; rfl
        · simp only [decide_eq_false hc]
    have hR : numR d w = match decide (itoaX (sgnI (cutM w).1 (valS (cutM w).2)) = w) with | true => some (sgnI (cutM w).1 (valS (cutM w).2)) | false => none := by
      unfold numR; rw [hg, Bool.true_and]
    rw [hR]
    generalize (cutM w).2 = s at *
    cases hm : (cutM w).1 with
    | false =>
      rw [hm] at hw
      have hw : w = s := hw
      simp only [sgnI, hw, Bool.not_false, Bool.true_or, Bool.and_true]
      cases decide (itoaX (valS s : Int) = s) with
      | false => rfl
      | true =>
        have : decide (0 ≤ (valS s : Int)) = true := decide_eq_true (by omega)
        simp
    | true =>
      rw [hm] at hw
      have hw : w = 45 :: s := hw
      simp only [sgnI, hw, Bool.not_true, Bool.false_or]
      by_cases hv : valS s = 0
      · have e1 : decide (itoaX (-(valS s : Int)) = 45 :: s) = false := by
          apply decide_eq_false
          rw [hv]
          intro h
          have : itoaX (-((0 : Nat) : Int)) = [48] := rfl
          rw [this] at h
          injection h with h
          cases h
        rw [e1, decide_eq_false (show ¬ 0 < valS s by omega)]
        simp
      · have e1 : decide (itoaX (-(valS s : Int)) = 45 :: s) = decide (itoaX (valS s : Int) = s) := by
          rw [itoaX_neg _ (by omega) (by omega), itoaX_nonneg _ (by omega)]
          simp
        rw [e1, decide_eq_true (show 0 < valS s by omega)]
        cases decide (itoaX (valS s : Int) = s) with
        | false => rfl
        | true =>
          have : decide (0 ≤ (-(valS s : Int))) = false := decide_eq_false (by omega)
          show (sign && true) = (sign || decide (0 ≤ (-(valS s : Int))))
          rw [this, Bool.and_true, Bool.or_false]
def rowT (w : Str) (l : List Int) : Str := w ++ l.flatMap fun n => 32 :: itoaX n
def bigI (n : Int) : Bool := decide (-1000000000 ≤ n) && decide (n ≤ 1000000000)
def bodyT (rows : List Str) : Str := rows.flatMap fun r => r ++ [10]
def chkRow (i : Nat) : Nat → Str → Nat
  | _, [] => 0
  | k, c :: r => c.toNat * (k + 1) * (i + 1) + chkRow i (k + 1) r
def chkRows : Nat → List Str → Nat
  | _, [] => 0
  | i, r :: rs => chkRow i 0 r + chkRows (i + 1) rs
def endT (c : Nat) : Str := [101, 110, 100, 32] ++ (itoaX ((c / 100 : Nat) : Int) ++ (itoaX ((c / 10 % 10 : Nat) : Int) ++ itoaX ((c % 10 : Nat) : Int)))
def sealT (m : Nat) (rows : List Str) : Str := bodyT rows ++ (endT (chkRows 0 rows % m) ++ [10])
theorem one_dig {k : Nat} (h : k < 10) : itoaX (k : Int) = [UInt8.ofNat (48 + k)] := by
  rw [itoaX_nonneg k (by omega), digs_small h]
theorem endT_eq {c : Nat} (h : c < 1000) : endT c = [101, 110, 100, 32, UInt8.ofNat (48 + c / 100), UInt8.ofNat (48 + c / 10 % 10), UInt8.ofNat (48 + c % 10)] := by
  unfold endT
  rw [one_dig (by omega), one_dig (by omega), one_dig (by omega)]
  rfl
end Go.Vc

namespace Go.Vc
open Go Go.Proofs
variable {g : GG}
attribute [local simp] and_assoc
theorem take_next {α : Type} {L : List α} {k : Nat} {x : α} (h : L[k]? = some x) : L.take (k + 1) = L.take k ++ [x] := by
  rw [List.take_add_one, h]; rfl
theorem take_all {α : Type} {L : List α} {k : Nat} (h : L.length ≤ k) : L.take k = L := List.take_of_length_le h
theorem BIN_d0 {K : AV → Prop} (op : BinOp) (a b : D) : BIN 0 op (.d a) (.d b) K = ∃ r, binD 0 op a b = some r ∧ K (.d r) := rfl
@[simp high] theorem BIN_Sp (a b : Sp) (K : AV → Prop) : BIN 1002 .neq (.d (.agg [int a.low, int a.high])) (.d (.agg [int b.low, int b.high])) K = K (.d (.bool !decide (a = b))) := by
  have e : binD 1002 .neq (.agg [int a.low, int a.high]) (.agg [int b.low, int b.high]) = some (.bool !decide (a = b)) := by
    obtain ⟨a1, a2⟩ := a
    obtain ⟨b1, b2⟩ := b
    by_cases h1 : a1 = b1 <;> by_cases h2 : a2 = b2 <;> simp [h1, h2]
  show (∃ r, binD 1002 .neq _ _ = some r ∧ K (.d r)) = _
  rw [e]
  simp
theorem ref01_SameSpans_meets (l m : List Sp) (hl : l.length ≤ 1000000) (_hm : m.length ≤ 1000000) : Meets (Tz g) f_ref01_SameSpans [spans l, spans m] ⟨.d (.bool (decide (l = m))), []⟩ := by
  refine meets_ref01_SameSpans ?_
  unfold vc_ref01_SameSpans
  simp [spans]
  constructor
  · intro h
    have : l ≠ m := fun e => h (by rw [e])
    simpa using this
  · intro h
    have h : l.length = m.length := by omega
    refine LOOP.mk Nat (fun k => [.d (spans l), .d (spans m), .d (int k)]) (fun k => []) (fun k => k ≤ l.length ∧ (l = m ↔ l.drop k = m.drop k)) (fun k => l.length - k) [] (by simp) 0 (by simp) (by simp [WEAK, spans]) (fun _ _ => rfl) ?_
    rintro k ⟨hk, he⟩
    simp [spans, -BIN_d, BIN_d0]
    constructor
    · intro hlt
      have hlt : k < l.length := by omega
      have h1 : l[k]? = some l[k] := List.getElem?_eq_getElem hlt
      have h2 : m[k]? = some m[k] := List.getElem?_eq_getElem (by omega)
      rw [List.drop_eq_getElem_cons hlt, List.drop_eq_getElem_cons (show k < m.length by omega)] at he
      simp [h1, h2, Sp.d, -BIN_d]
      refine ⟨rfl, ?_, ?_⟩
      · intro hq e
        exact hq (List.cons.inj (he.1 e)).1
      · intro hq
        rw [wrap_id (n := (k : Int) + 1) (by omega) (by omega)]
        refine ⟨k + 1, by omega, ?_, by simp [WEAK], by omega⟩
        exact he.trans ⟨fun h' => (List.cons.inj h').2, fun h' => by rw [hq, h']⟩
    · intro hge
      have : k = l.length := by omega
      subst this
      exact he.2 (by rw [List.drop_eq_nil_of_le (by omega), List.drop_eq_nil_of_le (by omega)])
theorem samePlans_meets (p q : Plan) (hp : p.starts.length ≤ 1000000) (hq : q.starts.length ≤ 1000000) : Meets (Tz g) f_ref01_SamePlans [p.d, q.d] ⟨.d (.bool (decide (p.rows = q.rows) && (decide (p.guard = q.guard) && decide (p.starts = q.starts)))), []⟩ := by
  refine meets_ref01_SamePlans ?_
  unfold vc_ref01_SamePlans
  simp [Plan.d, spans]
  refine ⟨fun h1 => ⟨fun h2 => ?_, fun h2 => by simp [h1, h2]⟩, fun h1 => by simp [h1]⟩
  refine CALL.val [spans p.starts, spans q.starts] _ rfl (ref01_SameSpans_meets _ _ hp hq) (.inl rfl) ?_
  simp [h1, h2]
end Go.Vc

namespace Go.Vc
open Go Go.Proofs
variable {g : GG}
attribute [local simp] and_assoc
def strsD (l : List Str) : D := .list (l.map .str)
theorem wrap_u8 {n : Int} (h1 : 0 ≤ n) (h2 : n ≤ 255) : IntKind.u8.wrap n = n := by
  simp only [IntKind.wrap, IntKind.bits, IntKind.signed]
  simp
  omega
theorem tdiv10n (u : Nat) : (-(u : Int)).tdiv 10 = -((u / 10 : Nat) : Int) := by
  rw [Int.neg_tdiv]; rfl
theorem tmod10n (u : Nat) : (-(u : Int)).tmod 10 = -((u % 10 : Nat) : Int) := by
  rw [Int.neg_tmod]; rfl
theorem itoaX_len (n : Int) (h1 : -1000000000 ≤ n) (h2 : n ≤ 1000000000) : (itoaX n).length ≤ 20 := by
  rcases (by omega : 0 ≤ n ∨ n < 0) with h0 | h0
  · obtain ⟨u, rfl⟩ : ∃ u : Nat, n = u := ⟨n.toNat, by omega⟩
    rw [itoaX_nonneg u (by omega)]
    have := digs_len 9 u (by omega)
    omega
  · obtain ⟨u, rfl⟩ : ∃ u : Nat, n = -(u : Int) := ⟨n.natAbs, by omega⟩
    rw [itoaX_neg u (by omega) (by omega)]
    have := digs_len 9 u (by omega)
    simp
    omega
set_option maxHeartbeats 1000000 in
theorem ref01_Decimal_meets : ∀ (k u : Nat), u ≤ k → u ≤ 1000000000 → (Meets (Tz g) f_ref01_Decimal [int (u : Int)] ⟨.d (.str (itoaX (u : Int))), []⟩ ∧ (0 < u → Meets (Tz g) f_ref01_Decimal [int (-(u : Int))] ⟨.d (.str (itoaX (-(u : Int)))), []⟩)) := by
  intro k
  induction k with
  | zero =>
    intro u hu hb
    have : u = 0 := by omega
    subst this
    refine ⟨?_, fun h => absurd h (by omega)⟩
    refine meets_ref01_Decimal ?_
    unfold vc_ref01_Decimal
    simp [vc_ref01_Decimal_k2, wrap_id, wrap_u8]
    rfl
  | succ k ih =>
    intro u hu hb
    by_cases h10 : u < 10
    · refine ⟨?_, fun h0 => ?_⟩
      · refine meets_ref01_Decimal ?_
        unfold vc_ref01_Decimal
        have w1 := wrap_id (n := 48 + (u : Int)) (by omega) (by omega)
        have w2 := wrap_u8 (n := 48 + (u : Int)) (by omega) (by omega)
        have c1 : (-10 : Int) < (u : Int) := by omega
        have c2 : ¬ ((u : Int) < 0) := by omega
        have c3 : (u : Int) < 10 := by omega
        have e : (48 + (u : Int)).toNat = 48 + u := by omega
        have hS : itoaX (u : Int) = [UInt8.ofNat (48 + u)] := by rw [itoaX_nonneg u (by omega), digs_small h10]
        generalize itoaX (u : Int) = S at hS ⊢
        simp [vc_ref01_Decimal_k2, c1, c2, c3, w1, w2, e, hS]
      · refine meets_ref01_Decimal ?_
        unfold vc_ref01_Decimal
        have hS : itoaX (-(u : Int)) = [45, UInt8.ofNat (48 + u)] := by rw [itoaX_neg u (by omega) (by omega), digs_small h10]
        obtain ⟨n, hn⟩ : ∃ n, n = -(u : Int) := ⟨_, rfl⟩
        rw [← hn] at hS ⊢
        have w1 := wrap_id (n := 48 - n) (by omega) (by omega)
        have w2 := wrap_u8 (n := 48 - n) (by omega) (by omega)
        have c1 : (-10 : Int) < n := by omega
        have c2 : n < 0 := by omega
        have e : (48 - n).toNat = 48 + u := by omega
        generalize itoaX n = S at hS ⊢
        simp [vc_ref01_Decimal_k2, c1, c2, w1, w2, e, hS]
    · obtain ⟨i1, i2⟩ := ih (u / 10) (by omega) (by omega)
      refine ⟨?_, fun h0 => ?_⟩
      · refine meets_ref01_Decimal ?_
        unfold vc_ref01_Decimal
        have w1 := wrap_id (n := 48 + ((u % 10 : Nat) : Int)) (by omega) (by omega)
        have w2 := wrap_u8 (n := 48 + ((u % 10 : Nat) : Int)) (by omega) (by omega)
        have w3 := wrap_id (n := ((u / 10 : Nat) : Int)) (by omega) (by omega)
        have c1 : (-10 : Int) < (u : Int) := by omega
        have c2 : ¬ ((u : Int) < 0) := by omega
        have c3 : ¬ (u : Int) < 10 := by omega
        have e1 : (u : Int).tdiv 10 = ((u / 10 : Nat) : Int) := rfl
        have e2 : (u : Int).tmod 10 = ((u % 10 : Nat) : Int) := rfl
        have e : (48 + ((u % 10 : Nat) : Int)).toNat = 48 + u % 10 := by omega
        have hS : itoaX (u : Int) = itoaX ((u / 10 : Nat) : Int) ++ [UInt8.ofNat (48 + u % 10)] := by rw [itoaX_nonneg u (by omega), digs_step h10, itoaX_nonneg (u / 10) (by omega)]
        have hL := itoaX_len ((u / 10 : Nat) : Int) (by omega) (by omega)
        generalize itoaX (u : Int) = S at hS ⊢
        generalize itoaX ((u / 10 : Nat) : Int) = S1 at hS hL i1
        generalize ((u / 10 : Nat) : Int) = q at *
        generalize hr : ((u % 10 : Nat) : Int) = r at *
        generalize (u : Int) = n at *
        simp only [vc_ref01_Decimal_k2]
        simp [c1, c2, c3, e1, w3]
        refine CALL.val [int q] _ rfl i1 (.inl rfl) ?_
        simp [vc_ref01_Decimal_k1, e2, w1, w2, e, hS]
        exact ⟨by omega, rfl⟩
      · refine meets_ref01_Decimal ?_
        unfold vc_ref01_Decimal
        have w1 := wrap_id (n := 48 + ((u % 10 : Nat) : Int)) (by omega) (by omega)
        have w2 := wrap_u8 (n := 48 + ((u % 10 : Nat) : Int)) (by omega) (by omega)
        have w3 := wrap_id (n := -((u / 10 : Nat) : Int)) (by omega) (by omega)
        have e1 := tdiv10n u
        have e2 := tmod10n u
        have e : (48 + ((u % 10 : Nat) : Int)).toNat = 48 + u % 10 := by omega
        have hS : itoaX (-(u : Int)) = itoaX (-((u / 10 : Nat) : Int)) ++ [UInt8.ofNat (48 + u % 10)] := by rw [itoaX_neg u (by omega) (by omega), digs_step h10, itoaX_neg (u / 10) (by omega) (by omega)]; rfl
        have hL := itoaX_len (-((u / 10 : Nat) : Int)) (by omega) (by omega)
        have i2 := i2 (by omega)
        have e3 : (48 : Int) - -((u % 10 : Nat) : Int) = 48 + ((u % 10 : Nat) : Int) := by omega
        have c1 : ¬ (-10 : Int) < -(u : Int) := by omega
        have c2 : -(u : Int) < 0 := by omega
        generalize itoaX (-(u : Int)) = S at hS ⊢
        generalize itoaX (-((u / 10 : Nat) : Int)) = S1 at hS hL i2
        generalize -((u / 10 : Nat) : Int) = q at *
        generalize ((u % 10 : Nat) : Int) = r at *
        rw [e3.symm] at w1 w2 e
        generalize -(u : Int) = n at *
        generalize hr : -r = r' at *
        simp only [vc_ref01_Decimal_k3]
        simp [c1, c2, e1, w3]
        refine CALL.val [int q] _ rfl i2 (.inl rfl) ?_
        simp [vc_ref01_Decimal_k0, e2, w1, w2, e, hS]
        exact ⟨by omega, rfl⟩
theorem Decimal_meets (n : Int) (h1 : -1000000000 ≤ n) (h2 : n ≤ 1000000000) : Meets (Tz g) f_ref01_Decimal [int n] ⟨.d (.str (itoaX n)), []⟩ := by
  rcases (by omega : 0 ≤ n ∨ n < 0) with h0 | h0
  · obtain ⟨u, rfl⟩ : ∃ u : Nat, n = u := ⟨n.toNat, by omega⟩
    exact (ref01_Decimal_meets u u (Nat.le_refl _) (by omega)).1
  · obtain ⟨u, rfl⟩ : ∃ u : Nat, n = -(u : Int) := ⟨n.natAbs, by omega⟩
    exact (ref01_Decimal_meets u u (Nat.le_refl _) (by omega)).2 (by omega)
theorem rowT_next {w : Str} {l : List Int} {k : Nat} {n : Int} (h : l[k]? = some n) : rowT w (l.take (k + 1)) = rowT w (l.take k) ++ (32 :: itoaX n) := by
  unfold rowT
  rw [take_next h]
  simp
theorem rowT_len (w : Str) : ∀ l : List Int, l.all bigI = true → (rowT w l).length ≤ w.length + 21 * l.length
  | [], _ => by simp [rowT]
  | n :: r, h => by
    simp only [List.all_cons, Bool.and_eq_true, bigI, decide_eq_true_eq] at h
    have ih := rowT_len w r h.2
    have hn := itoaX_len n h.1.1 h.1.2
    simp only [rowT, List.flatMap_cons, List.length_append, List.length_cons] at ih ⊢
    omega
theorem all_take {α : Type} {f : α → Bool} {l : List α} (h : l.all f = true) (k : Nat) : (l.take k).all f = true := by
  rw [List.all_eq_true] at h ⊢
  exact fun x hx => h x (List.mem_of_mem_take hx)
theorem ref01_Row_meets (w : Str) (l : List Int) (hw : w.length ≤ 1000) (hl : l.length ≤ 10000) (hb : l.all bigI = true) : Meets (Tz g) f_ref01_Row [.str w, ints l] ⟨.d (.str (rowT w l)), []⟩ := by
  refine meets_ref01_Row ?_
  unfold vc_ref01_Row
  simp [ints]
  refine LOOP.mk Nat (fun k => [.d (.str (rowT w (l.take k))), .d (ints l), .d (int k)]) (fun _ => []) (fun k => k ≤ l.length) (fun k => l.length - k) [] (by simp) 0 (by omega) (by simp [WEAK, rowT, ints]) (fun _ _ => rfl) ?_
  intro k hk
  have hwk := wrap_id (n := (k : Int) + 1) (by omega) (by omega)
  have hlen := rowT_len w (l.take k) (all_take hb k)
  have htk := List.length_take_le k l
  simp [vc_ref01_Row_k0, ints]
  refine ⟨fun hlt => ?_, fun hge => ?_⟩
  · have hg : l[k]? = some l[k] := List.getElem?_eq_getElem hlt
    have hn := List.all_eq_true.1 hb _ (List.getElem_mem hlt)
    generalize l[k] = n at hg hn
    simp only [bigI, Bool.and_eq_true, decide_eq_true_eq] at hn
    have hnx := rowT_next (w := w) hg
    have hil := itoaX_len n hn.1 hn.2
    simp [hg]
    refine ⟨by omega, ?_⟩
    refine CALL.val [int n] _ rfl (Decimal_meets n hn.1 hn.2) (.inl rfl) ?_
    simp [hwk]
    refine ⟨by omega, k + 1, by omega, by simp [WEAK, hnx], by omega⟩
  · have : k = l.length := by omega
    subst this
    rw [take_all (Nat.le_refl _)]
theorem chkRow_le (i : Nat) : ∀ (r : Str) (k : Nat), chkRow i k r ≤ r.length * (255 * (k + r.length) * (i + 1))
  | [], k => by simp [chkRow]
  | c :: r, k => by
    have ih := chkRow_le i r (k + 1)
    have hc : c.toNat ≤ 255 := by have := c.toNat_lt; omega
    have h1 : c.toNat * (k + 1) * (i + 1) ≤ 255 * (k + (r.length + 1)) * (i + 1) := Nat.mul_le_mul_right _ (Nat.mul_le_mul hc (by omega))
    have e : k + 1 + r.length = k + (r.length + 1) := by omega
    rw [e] at ih
    simp only [chkRow, List.length_cons]
    generalize 255 * (k + (r.length + 1)) * (i + 1) = X at *
    rw [Nat.succ_mul]
    omega
theorem chkRow_bound {i : Nat} {r : Str} (hi : i ≤ 1000) (hr : r.length ≤ 1000) : chkRow i 0 r ≤ 255255000000 := by
  have h := chkRow_le i r 0
  rw [Nat.zero_add] at h
  have h2 : r.length * (255 * r.length * (i + 1)) ≤ 1000 * (255 * 1000 * 1001) := Nat.mul_le_mul hr (Nat.mul_le_mul (Nat.mul_le_mul_left _ hr) (by omega))
  omega
theorem chkRows_le : ∀ (rows : List Str) (i : Nat), (∀ r, r ∈ rows → r.length ≤ 1000) → i + rows.length ≤ 1000 → chkRows i rows ≤ rows.length * 255255000000
  | [], i, _, _ => by simp [chkRows]
  | r :: rs, i, h, hl => by
    have ih := chkRows_le rs (i + 1) (fun x hx => h x (List.mem_cons_of_mem _ hx)) (by simp at hl; omega)
    have h1 := chkRow_bound (i := i) (r := r) (by simp at hl; omega) (h r List.mem_cons_self)
    simp only [chkRows, List.length_cons, Nat.succ_mul]
    omega
theorem chkRow_next (i : Nat) : ∀ (r : Str) (k j : Nat) (c : UInt8), r[j]? = some c → chkRow i k (r.take (j + 1)) = chkRow i k (r.take j) + c.toNat * (k + j + 1) * (i + 1)
  | [], k, j, c, h => by simp at h
  | b :: r, k, 0, c, h => by
    simp at h; subst h
    simp [chkRow]
  | b :: r, k, j + 1, c, h => by
    have ih := chkRow_next i r (k + 1) j c (by simpa using h)
    have e : k + 1 + j + 1 = k + (j + 1) + 1 := by omega
    rw [e] at ih
    simp only [List.take_succ_cons, chkRow, ih]
    omega
theorem chkRow_mono (i : Nat) : ∀ (r : Str) (k j : Nat), chkRow i k (r.take j) ≤ chkRow i k r
  | [], k, j => by simp
  | b :: r, k, 0 => by simp [chkRow]
  | b :: r, k, j + 1 => by
    have ih := chkRow_mono i r (k + 1) j
    simp only [List.take_succ_cons, chkRow]
    omega
theorem chkRows_next : ∀ (rows : List Str) (i j : Nat) (r : Str), rows[j]? = some r → chkRows i (rows.take (j + 1)) = chkRows i (rows.take j) + chkRow (i + j) 0 r
  | [], i, j, r, h => by simp at h
  | b :: rs, i, 0, r, h => by
    simp at h; subst h
    simp [chkRows]
  | b :: rs, i, j + 1, r, h => by
    have ih := chkRows_next rs (i + 1) j r (by simpa using h)
    have e : i + 1 + j = i + (j + 1) := by omega
    rw [e] at ih
    simp only [List.take_succ_cons, chkRows, ih]
    omega
theorem bodyT_next {rows : List Str} {j : Nat} {r : Str} (h : rows[j]? = some r) : bodyT (rows.take (j + 1)) = bodyT (rows.take j) ++ (r ++ [10]) := by
  unfold bodyT
  rw [take_next h]
  simp
theorem bodyT_len : ∀ (rows : List Str), (∀ r, r ∈ rows → r.length ≤ 1000) → (bodyT rows).length ≤ rows.length * 1001
  | [], _ => by simp [bodyT]
  | r :: rs, h => by
    have ih := bodyT_len rs (fun x hx => h x (List.mem_cons_of_mem _ hx))
    have := h r List.mem_cons_self
    simp only [bodyT, List.flatMap_cons, List.length_append, List.length_cons, List.length_nil, Nat.succ_mul] at ih ⊢
    omega
set_option maxHeartbeats 4000000 in
theorem ref01_Sealed_meets (rows : List Str) (m : Nat) (hm0 : 0 < m) (hm : m ≤ 1000) (hl : rows.length ≤ 500) (hr : ∀ r, r ∈ rows → r.length ≤ 1000) : Meets (Tz g) f_ref01_Sealed [strsD rows, int m] ⟨.d (.str (sealT m rows)), []⟩ := by
  refine meets_ref01_Sealed ?_
  unfold vc_ref01_Sealed
  simp [strsD]
  refine LOOP.mk Nat (fun j => [.d (strsD rows), .d (int m), .d (.str (bodyT (rows.take j))), .d (int (chkRows 0 (rows.take j) : Nat)), .d (int j)]) (fun _ => []) (fun j => j ≤ rows.length) (fun j => rows.length - j) [] (by simp) 0 (by omega) (by simp [WEAK, strsD, bodyT, chkRows]) (fun _ _ => rfl) ?_
  intro j hj
  have hwj := wrap_id (n := (j : Int) + 1) (by omega) (by omega)
  have hrt : ∀ j, ∀ r, r ∈ rows.take j → r.length ≤ 1000 := fun j r h => hr r (List.mem_of_mem_take h)
  have hcb := chkRows_le (rows.take j) 0 (hrt j) (by have := List.length_take_le j rows; omega)
  have hbl := bodyT_len (rows.take j) (hrt j)
  have htl : (rows.take j).length ≤ 500 := by have := List.length_take_le' j rows; omega
  simp [vc_ref01_Sealed_k4, strsD]
  refine ⟨fun hlt => ?_, fun hge => ?_⟩
  · obtain ⟨r, hg⟩ : ∃ r, rows[j]? = some r := ⟨_, List.getElem?_eq_getElem hlt⟩
    have hrl := hr r (List.mem_of_getElem? hg)
    have hbn := bodyT_next hg
    have hcn := chkRows_next rows 0 j r hg
    have hrb := chkRow_bound (i := j) (r := r) (by omega) hrl
    rw [Nat.zero_add] at hcn
    generalize hB : bodyT (rows.take j) = B at *
    generalize hC : chkRows 0 (rows.take j) = C at *
    refine LOOP.mk Nat (fun k => [.d (strsD rows), .d (int m), .d (.str B), .d (int (C + chkRow j 0 (r.take k) : Nat)), .d (int j), .d (int k)]) (fun _ => []) (fun k => k ≤ r.length) (fun k => r.length - k) [] (by simp) 0 (by omega) (by simp [WEAK, strsD, chkRow]) (fun _ _ => rfl) ?_
    intro k hk
    have hwk := wrap_id (n := (k : Int) + 1) (by omega) (by omega)
    have hmo := chkRow_mono j r 0 k
    simp [vc_ref01_Sealed_k2, strsD, hg]
    refine ⟨fun hlt2 => ?_, fun hge2 => ?_⟩
    · have hgk : r[k]? = some r[k] := List.getElem?_eq_getElem hlt2
      generalize r[k] = c at hgk
      have hnx := chkRow_next j r 0 k c hgk
      have hmo2 := chkRow_mono j r 0 (k + 1)
      rw [Nat.zero_add] at hnx
      have hc : c.toNat ≤ 255 := by have := c.toNat_lt; omega
      have p1 : c.toNat * (k + 1) ≤ 255 * 1001 := Nat.mul_le_mul hc (by omega)
      have p2 : c.toNat * (k + 1) * (j + 1) ≤ 255 * 1001 * 1001 := Nat.mul_le_mul p1 (by omega)
      have q1 : (c.toNat : Int) * ((k : Int) + 1) = ((c.toNat * (k + 1) : Nat) : Int) := by push_cast; rfl
      have q2 : ((c.toNat * (k + 1) : Nat) : Int) * ((j : Int) + 1) = ((c.toNat * (k + 1) * (j + 1) : Nat) : Int) := by push_cast; rfl
      generalize hP : c.toNat * (k + 1) = P1 at *
      generalize hQ : P1 * (j + 1) = P2 at *
      generalize hR1 : chkRow j 0 (r.take k) = R1 at *
      have w0 := wrap_id (n := (c.toNat : Int)) (by omega) (by omega)
      have w1 := wrap_id (n := (P1 : Int)) (by omega) (by omega)
      have w2 := wrap_id (n := (P2 : Int)) (by omega) (by omega)
      have w3 := wrap_id (n := (C : Int) + (R1 : Int) + (P2 : Int)) (by omega) (by omega)
      simp [vc_ref01_Sealed_k0, hg, hgk, hwk, hwj, w0, q1, w1, q2, w2, w3]
      refine ⟨k + 1, by omega, ?_, by omega⟩
      simp [WEAK, hnx, Int.add_assoc]
    · have : k = r.length := by omega
      subst this
      rw [take_all (Nat.le_refl _)]
      simp [vc_ref01_Sealed_k1, hg, hwj]
      refine ⟨by omega, by omega, j + 1, by omega, ?_, by omega⟩
      simp [WEAK, hbn, hcn]
  · have : j = rows.length := by omega
    subst this
    rw [take_all (Nat.le_refl _)] at hcb hbl ⊢
    have hcm := Nat.mod_lt (chkRows 0 rows) hm0
    have e1 : ((chkRows 0 rows : Nat) : Int).tmod (m : Int) = ((chkRows 0 rows % m : Nat) : Int) := rfl
    have hsl : sealT m rows = bodyT rows ++ (endT (chkRows 0 rows % m) ++ [10]) := rfl
    rw [hsl]
    generalize chkRows 0 rows % m = c at *
    have e2 : (c : Int).tdiv 100 = ((c / 100 : Nat) : Int) := rfl
    have e3 : (c : Int).tdiv 10 = ((c / 10 : Nat) : Int) := rfl
    have e4 : (c : Int).tmod 10 = ((c % 10 : Nat) : Int) := rfl
    have e5 : ((c / 10 : Nat) : Int).tmod 10 = ((c / 10 % 10 : Nat) : Int) := rfl
    have v2 := wrap_id (n := ((c / 100 : Nat) : Int)) (by omega) (by omega)
    have v3 := wrap_id (n := ((c / 10 : Nat) : Int)) (by omega) (by omega)
    have d1 := Decimal_meets (g := g) ((c / 100 : Nat) : Int) (by omega) (by omega)
    have d2 := Decimal_meets (g := g) ((c / 10 % 10 : Nat) : Int) (by omega) (by omega)
    have d3 := Decimal_meets (g := g) ((c % 10 : Nat) : Int) (by omega) (by omega)
    have l1 := itoaX_len ((c / 100 : Nat) : Int) (by omega) (by omega)
    have l2 := itoaX_len ((c / 10 % 10 : Nat) : Int) (by omega) (by omega)
    have l3 := itoaX_len ((c % 10 : Nat) : Int) (by omega) (by omega)
    have he : endT c = [101, 110, 100, 32] ++ (itoaX ((c / 100 : Nat) : Int) ++ (itoaX ((c / 10 % 10 : Nat) : Int) ++ itoaX ((c % 10 : Nat) : Int))) := rfl
    rw [he]
    generalize ((c / 100 : Nat) : Int) = n1 at *
    generalize ((c / 10 % 10 : Nat) : Int) = n2 at *
    generalize ((c % 10 : Nat) : Int) = n3 at *
    generalize ((c / 10 : Nat) : Int) = n4 at *
    simp [e1, e2, v2]
    refine ⟨by omega, by omega, ?_⟩
    refine CALL.val [int n1] _ rfl d1 (.inl rfl) ?_
    simp [vc_ref01_Sealed_k3, e3, v3, e5]
    refine ⟨by omega, ?_⟩
    refine CALL.val [int n2] _ rfl d2 (.inl rfl) ?_
    simp [e4]
    refine ⟨by omega, ?_⟩
    refine CALL.val [int n3] _ rfl d3 (.inl rfl) ?_
    simp
    exact ⟨by omega, by omega⟩
end Go.Vc

namespace Go.Vc
open Go Go.Proofs
variable {g : GG}
attribute [local simp] and_assoc
theorem splX_split (c : UInt8) (s : Str) : splX c s [] = splL c s := by
  rw [splX_eq]
  cases hs : splL c s with
  | nil => exact absurd hs (splL_ne c s)
  | cons x xs => simp
theorem splL_le (c : UInt8) : ∀ s : Str, (splL c s).length ≤ s.length + 1
  | [] => by simp [splL]
  | b :: r => by
    have ih := splL_le c r
    simp only [splL]
    split
    · simp; omega
    · split
      · simp
      · rename_i x xs h
        rw [h] at ih
        simp at ih ⊢
        omega
structure SpS where
  i : Nat
  fr : Nat
  out : List Str
def SpS.ok (c : UInt8) (s : Str) (x : SpS) : Prop := x.fr ≤ x.i ∧ x.i ≤ s.length ∧ x.out.length ≤ x.i ∧ x.out ++ splX c (s.drop x.i) ((s.take x.i).drop x.fr).reverse = splL c s
theorem SpS.step {c : UInt8} {s : Str} {x : SpS} (h : x.ok c s) {b : UInt8} (hg : s[x.i]? = some b) : (b = c → SpS.ok c s ⟨x.i + 1, x.i + 1, x.out ++ [(s.take x.i).drop x.fr]⟩) ∧ (b ≠ c → SpS.ok c s ⟨x.i + 1, x.fr, x.out⟩) := by
  obtain ⟨h1, h2, h3, h4⟩ := h
  have hlt := (List.getElem?_eq_some_iff.1 hg).1
  have hd : s.drop x.i = b :: s.drop (x.i + 1) := by
    obtain ⟨g1, g2⟩ := List.getElem?_eq_some_iff.1 hg
    rw [List.drop_eq_getElem_cons g1, g2]
  rw [hd] at h4
  refine ⟨fun hb => ⟨Nat.le_refl _, hlt, by simp; exact h3, ?_⟩, fun hb => ⟨by show x.fr ≤ x.i + 1; omega, hlt, by show x.out.length ≤ x.i + 1; omega, ?_⟩⟩
  · simp only [splX, decide_eq_true hb, List.reverse_reverse] at h4
    have e : (s.take (x.i + 1)).drop (x.i + 1) = [] := List.drop_eq_nil_of_le (by simp; omega)
    show (x.out ++ [(s.take x.i).drop x.fr]) ++ splX c (s.drop (x.i + 1)) ((s.take (x.i + 1)).drop (x.i + 1)).reverse = _
    rw [e, List.append_assoc]
    exact h4
  · simp only [splX, decide_eq_false hb] at h4
    show x.out ++ splX c (s.drop (x.i + 1)) ((s.take (x.i + 1)).drop x.fr).reverse = _
    have e : ((s.take (x.i + 1)).drop x.fr).reverse = b :: ((s.take x.i).drop x.fr).reverse := by
      rw [take_next hg, List.drop_append_of_le_length (by simp; omega), List.reverse_append]
      rfl
    rw [e]
    exact h4
set_option maxHeartbeats 2000000 in
theorem ref01_Split_meets (s : Str) (c : UInt8) (hs : s.length ≤ 10000) : Meets (Tz g) f_ref01_Split [.str s, .num .u8 c.toNat] ⟨.d (strsD (splL c s)), []⟩ := by
  refine meets_ref01_Split ?_
  unfold vc_ref01_Split
  refine LOOP.mk SpS (fun x => [.d (.str s), .d (.num .u8 c.toNat), .own 56 x.out.length, .d (int x.fr), .d (int x.i)]) (fun x => [(56, some ⟨x.out.length, T_string, .lst (x.out.map .str)⟩)]) (fun x => x.ok c s) (fun x => s.length - x.i) [(2, T_string)] (by simp) ⟨0, 0, []⟩ ⟨by simp, by simp, by simp, by simp [splX_split]⟩ (by simp [WEAK]) (fun _ _ => rfl) ?_
  intro x hx
  obtain ⟨h1, h2, h3, h4⟩ := hx
  have hw := wrap_id (n := (x.i : Int) + 1) (by omega) (by omega)
  simp [vc_ref01_Split_k0]
  refine ⟨fun hlt => ?_, fun hge => ?_⟩
  · obtain ⟨b, hg⟩ : ∃ b, s[x.i]? = some b := ⟨_, List.getElem?_eq_getElem hlt⟩
    obtain ⟨s1, s2⟩ := SpS.step ⟨h1, h2, h3, h4⟩ hg
    have hbc : ((b.toNat : Int) = (c.toNat : Int)) ↔ b = c := by
      constructor
      · intro h
        exact UInt8.toNat_inj.1 (by omega)
      · rintro rfl; rfl
    simp [hg, hw]
    refine ⟨fun hb => ?_, fun hb => ?_⟩
    · have hb : b = c := by
        first
          | exact hb
          | exact UInt8.toNat_inj.1 hb
          | exact hbc.1 (by omega)
      refine ⟨by omega, by omega, by omega, ⟨x.i + 1, x.i + 1, x.out ++ [(s.take x.i).drop x.fr]⟩, s1 hb, ?_, by show s.length - (x.i + 1) < s.length - x.i; omega⟩
      simp [WEAK, lookH]
    · have hb : b ≠ c := fun e => hb (by first | exact e | (rw [e]))
      refine ⟨⟨x.i + 1, x.fr, x.out⟩, s2 hb, ?_, by show s.length - (x.i + 1) < s.length - x.i; omega⟩
      simp [WEAK, lookH]
  · have hi : x.i = s.length := by omega
    have hd : s.drop x.i = [] := List.drop_eq_nil_of_le (by omega)
    have ht : s.take x.i = s := List.take_of_length_le (by omega)
    rw [hd, ht] at h4
    simp only [splX, List.reverse_reverse] at h4
    rw [← h4]
    simp [strsD]
    exact ⟨by omega, by omega⟩
theorem allD_snoc (s : Str) (k : Nat) (c : UInt8) (h : s[k]? = some c) : (s.take (k + 1)).all isD = ((s.take k).all isD && isD c) := by
  rw [take_next h, List.all_append]; simp
theorem valS_snoc (s : Str) (k : Nat) (c : UInt8) (h : s[k]? = some c) : valS (s.take (k + 1)) = 10 * valS (s.take k) + (c.toNat - 48) := by
  unfold valS
  rw [take_next h, List.foldl_append]; rfl
def sgN (m : Bool) : Int := match m with | true => -1 | false => 1
def numW (m : Bool) (w s : Str) : Int × Bool := match s.all isD with | true => (sgnI m (valS s), decide (itoaX (sgnI m (valS s)) = w)) | false => (0, false)
set_option maxHeartbeats 2000000 in
theorem number_loop_m (w s : Str) (m : Bool) (hl : s.length ≤ 9) :
    LOOP [.d (.str w), .d (int (sgN m)), .d (.str s), .d (int 0), .d (int 0)] [] 248 fun vs8 h9 next10 => vc_ref01_number_k0 (Tz g) [] (.tup [.d (int (numW m w s).1), .d (.bool (numW m w s).2)]) [] vs8 h9 next10 := by
  refine LOOP.mk Nat (fun i => [.d (.str w), .d (int (sgN m)), .d (.str s), .d (int (valS (s.take i) : Nat)), .d (int i)]) (fun _ => []) (fun i => i ≤ s.length ∧ (s.take i).all isD = true) (fun i => s.length - i) [] (by simp) 0 ⟨by omega, rfl⟩ (by simp [WEAK, valS]) (fun _ _ => rfl) ?_
  rintro i ⟨hi, hall⟩
  have hw := wrap_id (n := (i : Int) + 1) (by omega) (by omega)
  have hv := valS_lt (s.take i) 0 hall
  have hv : valS (s.take i) < 10 ^ 9 := by
    simp only [Nat.zero_add, Nat.one_mul] at hv
    exact Nat.lt_of_lt_of_le hv (Nat.pow_le_pow_right (by omega) (by simp; omega))
  simp [vc_ref01_number_k0]
  refine ⟨fun hlt => ?_, fun hge => ?_⟩
  · obtain ⟨c, hg⟩ : ∃ c, s[i]? = some c := ⟨_, List.getElem?_eq_getElem hlt⟩
    have hc := c.toNat_lt
    have ha := allD_snoc s i c hg
    have hvs := valS_snoc s i c hg
    have hdd : isD c = true → ¬ ((c.toNat : Int) < 48) ∧ ¬ (57 < (c.toNat : Int)) := fun h => by
      simp only [isD, Bool.and_eq_true, decide_eq_true_eq] at h
      omega
    cases hd : isD c with
    | false =>
      have hbad : s.all isD = false := by
        cases h : s.all isD with
        | false => rfl
        | true =>
          rw [List.all_eq_true] at h
          rw [h c (List.mem_of_getElem? hg)] at hd
          cases hd
      have hW : numW m w s = (0, false) := by unfold numW; rw [hbad]
      rw [hW]
      have hor : (c.toNat : Int) < 48 ∨ 57 < (c.toNat : Int) := by
        simp only [isD, Bool.and_eq_false_iff, decide_eq_false_iff_not] at hd
        omega
      simp [hg]
      intro g1 g2
      omega
    | true =>
      obtain ⟨d1, d2⟩ := hdd hd
      rw [hall, hd] at ha
      simp only [isD, Bool.and_eq_true, decide_eq_true_eq] at hd
      have w1 := wrap_id (n := 10 * (valS (s.take i) : Int)) (by omega) (by omega)
      have w2 : IntKind.u8.wrap ((c.toNat : Int) - 48) = (c.toNat : Int) - 48 := wrap_u8 (by omega) (by omega)
      have w3 := wrap_id (n := (c.toNat : Int) - 48) (by omega) (by omega)
      have w4 := wrap_id (n := 10 * (valS (s.take i) : Int) + ((c.toNat : Int) - 48)) (by omega) (by omega)
      generalize valS (s.take i) = V at *
      simp [hg, hw, w1, w2, w3, w4]
      refine ⟨fun h => absurd h d1, fun _ => ⟨fun h => absurd h d2, fun _ => ⟨i + 1, by omega, ?_, ?_, by omega⟩⟩⟩
      · have ha : (s.take (i + 1)).all isD = true := by rw [ha]; rfl
        exact List.all_eq_true.1 ha
      · have e : ((10 * V + (c.toNat - 48) : Nat) : Int) = 10 * (V : Int) + ((c.toNat : Int) - 48) := by omega
        simp only [hvs, e]
        simp [WEAK]
  · have : i = s.length := by omega
    subst this
    rw [take_all (Nat.le_refl _)] at hall hv ⊢
    have hW : numW m w s = (sgnI m (valS s), decide (itoaX (sgnI m (valS s)) = w)) := by unfold numW; rw [hall]
    rw [hW]
    have hm : sgN m * (valS s : Int) = sgnI m (valS s) := by cases m <;> simp [sgN, sgnI]
    have hwm := wrap_id (n := sgnI m (valS s)) (by cases m <;> simp [sgnI] <;> omega) (by cases m <;> simp [sgnI] <;> omega)
    have hD := Decimal_meets (g := g) (sgnI m (valS s)) (by cases m <;> simp [sgnI] <;> omega) (by cases m <;> simp [sgnI] <;> omega)
    generalize sgnI m (valS s) = n at *
    simp [hm, hwm]
    refine CALL.val [int n] _ rfl hD (.inl rfl) ?_
    simp
set_option maxHeartbeats 2000000 in
theorem number_loop_p (w s : Str) (m : Bool) (hl : s.length ≤ 9) :
    LOOP [.d (.str w), .d (int (sgN m)), .d (.str s), .d (int 0), .d (int 0)] [] 216 fun vs8 h9 next10 => vc_ref01_number_k1 (Tz g) [] (.tup [.d (int (numW m w s).1), .d (.bool (numW m w s).2)]) [] vs8 h9 next10 := by
  refine LOOP.mk Nat (fun i => [.d (.str w), .d (int (sgN m)), .d (.str s), .d (int (valS (s.take i) : Nat)), .d (int i)]) (fun _ => []) (fun i => i ≤ s.length ∧ (s.take i).all isD = true) (fun i => s.length - i) [] (by simp) 0 ⟨by omega, rfl⟩ (by simp [WEAK, valS]) (fun _ _ => rfl) ?_
  rintro i ⟨hi, hall⟩
  have hw := wrap_id (n := (i : Int) + 1) (by omega) (by omega)
  have hv := valS_lt (s.take i) 0 hall
  have hv : valS (s.take i) < 10 ^ 9 := by
    simp only [Nat.zero_add, Nat.one_mul] at hv
    exact Nat.lt_of_lt_of_le hv (Nat.pow_le_pow_right (by omega) (by simp; omega))
  simp [vc_ref01_number_k1]
  refine ⟨fun hlt => ?_, fun hge => ?_⟩
  · obtain ⟨c, hg⟩ : ∃ c, s[i]? = some c := ⟨_, List.getElem?_eq_getElem hlt⟩
    have hc := c.toNat_lt
    have ha := allD_snoc s i c hg
    have hvs := valS_snoc s i c hg
    have hdd : isD c = true → ¬ ((c.toNat : Int) < 48) ∧ ¬ (57 < (c.toNat : Int)) := fun h => by
      simp only [isD, Bool.and_eq_true, decide_eq_true_eq] at h
      omega
    cases hd : isD c with
    | false =>
      have hbad : s.all isD = false := by
        cases h : s.all isD with
        | false => rfl
        | true =>
          rw [List.all_eq_true] at h
          rw [h c (List.mem_of_getElem? hg)] at hd
          cases hd
      have hW : numW m w s = (0, false) := by unfold numW; rw [hbad]
      rw [hW]
      have hor : (c.toNat : Int) < 48 ∨ 57 < (c.toNat : Int) := by
        simp only [isD, Bool.and_eq_false_iff, decide_eq_false_iff_not] at hd
        omega
      simp [hg]
      intro g1 g2
      omega
    | true =>
      obtain ⟨d1, d2⟩ := hdd hd
      rw [hall, hd] at ha
      simp only [isD, Bool.and_eq_true, decide_eq_true_eq] at hd
      have w1 := wrap_id (n := 10 * (valS (s.take i) : Int)) (by omega) (by omega)
      have w2 : IntKind.u8.wrap ((c.toNat : Int) - 48) = (c.toNat : Int) - 48 := wrap_u8 (by omega) (by omega)
      have w3 := wrap_id (n := (c.toNat : Int) - 48) (by omega) (by omega)
      have w4 := wrap_id (n := 10 * (valS (s.take i) : Int) + ((c.toNat : Int) - 48)) (by omega) (by omega)
      generalize valS (s.take i) = V at *
      simp [hg, hw, w1, w2, w3, w4]
      refine ⟨fun h => absurd h d1, fun _ => ⟨fun h => absurd h d2, fun _ => ⟨i + 1, by omega, ?_, ?_, by omega⟩⟩⟩
      · have ha : (s.take (i + 1)).all isD = true := by rw [ha]; rfl
        exact List.all_eq_true.1 ha
      · have e : ((10 * V + (c.toNat - 48) : Nat) : Int) = 10 * (V : Int) + ((c.toNat : Int) - 48) := by omega
        simp only [hvs, e]
        simp [WEAK]
  · have : i = s.length := by omega
    subst this
    rw [take_all (Nat.le_refl _)] at hall hv ⊢
    have hW : numW m w s = (sgnI m (valS s), decide (itoaX (sgnI m (valS s)) = w)) := by unfold numW; rw [hall]
    rw [hW]
    have hm : sgN m * (valS s : Int) = sgnI m (valS s) := by cases m <;> simp [sgN, sgnI]
    have hwm := wrap_id (n := sgnI m (valS s)) (by cases m <;> simp [sgnI] <;> omega) (by cases m <;> simp [sgnI] <;> omega)
    have hD := Decimal_meets (g := g) (sgnI m (valS s)) (by cases m <;> simp [sgnI] <;> omega) (by cases m <;> simp [sgnI] <;> omega)
    generalize sgnI m (valS s) = n at *
    simp [hm, hwm]
    refine CALL.val [int n] _ rfl hD (.inl rfl) ?_
    simp
theorem cutM_cases (w : Str) : (w = [] ∧ cutM w = (false, [])) ∨ (∃ r, w = 45 :: r ∧ cutM w = (true, r)) ∨ (∃ c r, w = c :: r ∧ c ≠ 45 ∧ cutM w = (false, w)) := by
  cases w with
  | nil => exact .inl ⟨rfl, rfl⟩
  | cons c r =>
    by_cases h : c = 45
    · subst h; exact .inr (.inl ⟨r, rfl, rfl⟩)
    · exact .inr (.inr ⟨c, r, rfl, h, by simp only [cutM, decide_eq_false h]⟩)
def numV (d : Nat) (w : Str) : Int × Bool := match decide (1 ≤ (cutM w).2.length) && decide ((cutM w).2.length ≤ d) with | true => numW (cutM w).1 w (cutM w).2 | false => (0, false)
theorem numR_numV (d : Nat) (w : Str) : numR d w = match (numV d w).2 with | true => some (numV d w).1 | false => none := by
  unfold numR numV goodD numW
  cases decide (1 ≤ (cutM w).2.length) with
  | false => rfl
  | true =>
    cases decide ((cutM w).2.length ≤ d) with
    | false => rfl
    | true =>
      cases (cutM w).2.all isD with
      | false => rfl
      | true =>
        simp only [Bool.true_and] <;> cases decide (itoaX (sgnI (cutM w).1 (valS (cutM w).2)) = w) <;> rfl
set_option maxHeartbeats 2000000 in
theorem ref01_number_meets (w : Str) (d : Nat) (hd : d ≤ 9) (hw : w.length ≤ 10000) : Meets (Tz g) f_ref01_number [.str w, int d] ⟨.tup [.d (int (numV d w).1), .d (.bool (numV d w).2)], []⟩ := by
  refine meets_ref01_number ?_
  unfold vc_ref01_number
  rcases cutM_cases w with ⟨rfl, hc⟩ | ⟨r, rfl, hc⟩ | ⟨c, r, rfl, h45, hc⟩
  · have hV : numV d [] = (0, false) := rfl
    rw [hV]
    simp
  · have hV : numV d (45 :: r) = match decide (1 ≤ r.length) && decide (r.length ≤ d) with | true => numW true (45 :: r) r | false => (0, false) := by unfold numV; rw [hc]
    simp
    simp [vc_ref01_number_k2]
    refine ⟨by omega, rfl, fun h => ?_, fun h => ⟨fun h2 => ?_, fun h2 => ?_⟩⟩
    · rw [hV, decide_eq_false (show ¬ 1 ≤ r.length by omega)]
      exact ⟨rfl, rfl⟩
    · rw [hV, decide_eq_false (show ¬ r.length ≤ d by omega), Bool.and_false]
      exact ⟨rfl, rfl⟩
    · have e : numV d (45 :: r) = numW true (45 :: r) r := by rw [hV, decide_eq_true (show 1 ≤ r.length by omega), decide_eq_true h2]; rfl
      rw [e]
      exact number_loop_m (45 :: r) r true (by omega)
  · have hV : numV d (c :: r) = match decide (1 ≤ (c :: r).length) && decide ((c :: r).length ≤ d) with | true => numW false (c :: r) (c :: r) | false => (0, false) := by unfold numV; rw [hc]
    have hcn : ¬ ((c.toNat : Int) = 45) := fun e => h45 (UInt8.toNat_inj.1 (by have e2 : (45 : UInt8).toNat = 45 := rfl; omega))
    simp
    simp [vc_ref01_number_k3]
    refine ⟨fun h => absurd h hcn, fun _ => ⟨fun h => by omega, fun _ => ⟨fun h2 => ?_, fun h2 => ?_⟩⟩⟩
    · have e : numV d (c :: r) = (0, false) := by rw [hV, decide_eq_false (show ¬ (c :: r).length ≤ d by simp; omega), Bool.and_false]
      rw [e]
      exact ⟨rfl, rfl⟩
    · have e : numV d (c :: r) = numW false (c :: r) (c :: r) := by rw [hV, decide_eq_true (show 1 ≤ (c :: r).length by simp), decide_eq_true (show (c :: r).length ≤ d by simp; omega)]; rfl
      rw [e]
      exact number_loop_p (c :: r) (c :: r) false (by simp; omega)
def numsR (d : Nat) : List Str → Option (List Int)
  | [] => some []
  | w :: r => match numR d w with
    | some n => (match numsR d r with | some l => some (n :: l) | none => none)
    | none => none
theorem numsR_len {d : Nat} : ∀ {ws : List Str} {l : List Int}, numsR d ws = some l → l.length = ws.length
  | [], l, h => by simp [numsR] at h; subst h; rfl
  | w :: r, l, h => by
    simp only [numsR] at h
    cases hn : numR d w with
    | none => rw [hn] at h; cases h
    | some n =>
      rw [hn] at h
      cases hr : numsR d r with
      | none => rw [hr] at h; cases h
      | some l2 =>
        rw [hr] at h
        injection h with h
        subst h
        simp [numsR_len hr]
theorem numsR_take {d : Nat} : ∀ (ws : List Str) (k : Nat) (w : Str), ws[k]? = some w → numsR d (ws.take (k + 1)) = match numsR d (ws.take k) with | some l => (match numR d w with | some n => some (l ++ [n]) | none => none) | none => none
  | [], k, w, h => by simp at h
  | v :: r, 0, w, h => by
    simp at h; subst h
    simp only [List.take_succ_cons, List.take_zero, numsR]
    cases numR d v <;> rfl
  | v :: r, k + 1, w, h => by
    have ih := numsR_take (d := d) r k w (by simpa using h)
    simp only [List.take_succ_cons, numsR, ih]
    cases numR d v with
    | none => rfl
    | some n =>
      cases numsR d (r.take k) with
      | none => rfl
      | some l =>
        cases numR d w <;> rfl
theorem numsR_bad {d : Nat} : ∀ (ws : List Str) (w : Str), w ∈ ws → numR d w = none → numsR d ws = none
  | [], w, h, _ => by cases h
  | v :: r, w, h, hn => by
    rcases List.mem_cons.1 h with rfl | h
    · simp only [numsR, hn]
    · have ih := numsR_bad r w h hn
      simp only [numsR, ih]
      cases numR d v <;> rfl
structure NmS where
  i : Nat
  out : List Int
set_option maxHeartbeats 2000000 in
theorem ref01_Numbers_meets (ws : List Str) (d : Nat) (hd : d ≤ 9) (hl : ws.length ≤ 10000) (hw : ∀ w, w ∈ ws → w.length ≤ 10000) : Meets (Tz g) f_ref01_Numbers [strsD ws, int d] ⟨.tup [.d (ints ((numsR d ws).getD [])), .d (.bool (numsR d ws).isSome)], []⟩ := by
  refine meets_ref01_Numbers ?_
  unfold vc_ref01_Numbers
  simp [strsD]
  refine LOOP.mk NmS (fun x => [.d (strsD ws), .d (int d), .own 56 x.out.length, .d (int x.i)]) (fun x => [(56, some ⟨x.out.length, T_int, .lst (x.out.map int)⟩)]) (fun x => x.i ≤ ws.length ∧ x.out.length = x.i ∧ numsR d (ws.take x.i) = some x.out) (fun x => ws.length - x.i) [(2, T_int)] (by simp) ⟨0, []⟩ ⟨by simp, rfl, rfl⟩ (by simp [WEAK, strsD]) (fun _ _ => rfl) ?_
  rintro ⟨k, l⟩ ⟨hk, hlk, hn⟩
  have hk : k ≤ ws.length := hk
  have hlk : l.length = k := hlk
  have hn : numsR d (ws.take k) = some l := hn
  have hwk := wrap_id (n := (k : Int) + 1) (by omega) (by omega)
  simp [vc_ref01_Numbers_k1, strsD]
  refine ⟨fun hlt => ?_, fun hge => ?_⟩
  · obtain ⟨w, hg⟩ : ∃ w, ws[k]? = some w := ⟨_, List.getElem?_eq_getElem hlt⟩
    have hN := ref01_number_meets (g := g) w d hd (hw w (List.mem_of_getElem? hg))
    have hR := numR_numV d w
    have hT := numsR_take (d := d) ws k w hg
    rw [hn] at hT
    generalize numV d w = v at hN hR
    obtain ⟨v1, v2⟩ := v
    simp [hg]
    refine CALL.mk [.str w, int d] _ rfl hN (.inl rfl) (by simp) ?_
    cases v2 with
    | false =>
      have hR : numR d w = none := hR
      have hbad := numsR_bad ws w (List.mem_of_getElem? hg) hR
      rw [hbad]
      simp [vc_ref01_Numbers_k0, ints]
    | true =>
      have hR : numR d w = some v1 := hR
      rw [hR] at hT
      simp [vc_ref01_Numbers_k0, hwk]
      refine ⟨by omega, ⟨k + 1, l ++ [v1]⟩, by show k + 1 ≤ _; omega, by simp; omega, hT, ?_, by show ws.length - (k + 1) < ws.length - k; omega⟩
      simp [WEAK, lookH]
  · have : k = ws.length := by omega
    subst this
    rw [List.take_length] at hn
    rw [hn]
    simp [ints]
end Go.Vc
