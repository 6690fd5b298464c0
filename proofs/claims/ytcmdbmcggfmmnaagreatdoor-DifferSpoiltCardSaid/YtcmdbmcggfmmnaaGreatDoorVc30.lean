/- A part of the proof: general laws of a reading of the model by abstract data, or contracts of the functions that the law calls. -/
import Derived.Test.YtcmdbmcggfmmnaaGreatDoorVc18
import Derived.Test.YtcmdbmcggfmmnaaGreatDoorVc22
import Derived.Test.YtcmdbmcggfmmnaaGreatDoorVc11
import Derived.Test.YtcmdbmcggfmmnaaGreatDoorVc27
set_option maxRecDepth 100000
namespace Go.Vc
open Go Go.RowKit
theorem MeetsH.frz {C : Ctx} {f : FuncId} {args : List AV} {T : TypeId} {xs : List D} (h : MeetsH C f [] args (.ret (.own 0 0)) [.upd ⟨0, T, .lst xs⟩]) : MeetsH C f [] args (.ret (.d (.list xs))) [] := by
  refine ⟨h.1, fun E us hst hr => ?_⟩
  refine Calls.mono (h.2 E us hst hr) (fun e w' hq => ?_)
  obtain ⟨E1, rfl, hf, ho⟩ := hq
  cases e with
  | panicked ch => cases ho
  | outgrown => cases ho
  | returned u =>
    have ho : VRel E1 (.own 0 0) u := ho
    have hH : E1.H 0 = some ⟨0, T, .lst xs⟩ := by rw [hf.H]; rfl
    have hB : BE E1 0 0 = some (T, .lst xs) := by unfold BE; rw [hH]; rfl
    let E2 : Env := { P := E1.P, top := fun _ => none, m := E1.m, H := fun _ => none, w := E1.w, S := fun b => E1.S b ∨ E1.m 0 = some b }
    have hgo : E.Go E2 := by
      have g := hf.go
      refine ⟨⟨g.step.P, fun b hb => .inl (g.step.S b hb), g.step.w, fun i t ht => ?_, fun i t b' ht => ?_⟩, g.os, g.tape, g.output, g.size, g.only, fun b hb => ?_, fun b hb => ?_⟩
      · rw [start_top hst] at ht; cases ht
      · rw [start_top hst] at ht; cases ht
      · obtain ⟨i, h1, _⟩ := hb
        exact absurd rfl h1
      · rcases hb with hb | hb
        · exact g.st b hb
        · exact .inr (g.own b ⟨0, by rw [hH]; simp, hb⟩)
    have hhr : HR C.N E2 := by
      refine ⟨fun b hb => ⟨?_, fun i hi => absurd rfl hi⟩, fun i b hb => ?_, fun i j g hi => absurd rfl hi⟩
      · rcases hb with hb | hb
        · exact (hf.hr.st b hb).1
        · obtain ⟨_, _, k3⟩ := hf.hr.blk 0 _ hH
          obtain ⟨_, o, k4, _⟩ := k3 b hb
          rcases Nat.lt_or_ge b E1.w.heap.size with h1 | h1
          · exact h1
          · rw [Array.getElem?_eq_none h1] at k4; cases k4
      · have hb : (none : Option ABlk) = some b := hb
        cases hb
    refine ⟨E2, rfl, ⟨hgo, hhr, fun i => ?_, fun i t ht => ?_⟩, ?_⟩
    · show none = postH [] [] i
      simp [postH]
    · have ht : (none : Option Nat) = some t := ht
      cases ht
    · show VRel E2 (.d (.list xs)) u
      exact .d _ _ (own_data hf.hr hB ho E2.S (fun b hb => .inl hb) (fun b hb => .inr hb))
theorem Meets.frz {C : Ctx} {f : FuncId} {ds : List D} {T : TypeId} {xs : List D} (h : Meets C f ds ⟨.own 0 0, [⟨0, T, .lst xs⟩]⟩) : Meets C f ds ⟨.d (.list xs), []⟩ := MeetsH.frz h
end Go.Vc

namespace Go.Vc
open Go Go.Proofs Go.RowKit
def ann_differ_words : Nat → List Nat := fun n => match n with  | _ => []
def vc_differ_words (_P : Ctx) (pre : List ABlk) (r : AV) (post : List PB) : Prop :=
  let h0 : Heap := numbered 0 pre
  ALLOC T_2_string [.d (.str []), .d (.str [])] 24 h0 fun v0 h1 =>
  BUILD [(0, 1), (1, 1)] [.d (.str []), .d (.str [])] [(0, (.d (.str [112, 108, 97, 110]))), (1, (.d (.str [115, 116, 97, 114, 116])))] fun v1 =>
  STORE 2 v0 v1 h1 fun h2 =>
  LOAD true 2 v0 h2 fun r3 =>
  POST r3 h2 pre r post
theorem vc_differ_words_eq (g : GG) (pre : List ABlk) (r : AV) (post : List PB) : vcFn2 (Tz g) false ann_differ_words Tryz.f101 pre [] (.ret r) post = vc_differ_words (Tz g) pre  r post := by kernel_rfl
theorem hf_differ_words : Tryz.prog.funcs[f_differ_words]? = some Tryz.f101 := by kernel_rfl
theorem ok_differ_words : fnVcOK Tryz.prog Tryz.f101 = true := by kernel_rfl
theorem nt_differ_words : Nat.ble 0 Tryz.f101.ntmps = true := by kernel_rfl
theorem meetsH_differ_words {g : GG} {pre : List ABlk} {r : AV} {post : List PB} (hk : Nat.ble pre.length 24 = true) (h : vc_differ_words (Tz g) pre  r post) : MeetsH (Tz g) f_differ_words pre [] (.ret r) post :=
  meetsH_of_vc (C := Tz g) ann_differ_words hf_differ_words ok_differ_words nt_differ_words hk (pn := false) (Eq.mpr ((vcFn2_eq _ _ _ _ _ _ _ _).trans (vc_differ_words_eq g pre  r post)) h)
theorem meets_differ_words {g : GG} {r : Res} (h : vc_differ_words (Tz g) []  r.val (r.bl.map .upd)) : Meets (Tz g) f_differ_words [] r := meetsH_differ_words rfl h
def ann_differ_told : Nat → List Nat := fun n => match n with | 6 => [3, 15, 16, 17] | _ => []
def vc_differ_told_k0 (P : Ctx) (pre : List ABlk) (r : AV) (post : List PB) (vs0 : List AV) (h2 : Heap) (next11 : List AV → Heap → Prop) : Prop :=
  BIN 0 .lss (nth vs0 3) (nth vs0 2) fun v1 =>
  COND v1
  (IADDR 1 T_int (nth vs0 1) (nth vs0 3) h2 fun v3 =>
  LOAD false 1 v3 h2 fun v4 =>
  CALL P f_strconv_Itoa [v4] 200 h2 (fun _ v6 h7 =>
  BIN 0 .add (.d (.str [32])) v6 fun v8 =>
  BIN 0 .add (nth vs0 0) v8 fun v9 =>
  BIN 0 .add (nth vs0 3) (.d (.num .i64 1)) fun v10 =>
  next11 [v9, (nth vs0 1), (nth vs0 2), v10] h7)
  (fun _ _ _ => False))
  (POST (nth vs0 0) h2 pre r post)
def vc_differ_told_k1 (P : Ctx) (pre : List ABlk) (r : AV) (post : List PB) (v0 : AV) (a2 : AV) (h3 : Heap) : Prop :=
  AIDX false 1 2 v0 (.d (.num .i64 1)) fun v1 =>
  INVK P "ephemerist/differ.numbers" a2 [] 120 h3 (fun _ v5 h6 =>
  LEN false v5 h6 fun v7 =>
  LOOP [v1, v5, v7, (.d (.num .i64 0))] h6 144 fun vs8 h9 next10 =>
  vc_differ_told_k0 P pre r post vs8 h9 next10)
  (fun _ _ _ => False)
def vc_differ_told_k2 (P : Ctx) (pre : List ABlk) (r : AV) (post : List PB) (vs0 : List AV) (h2 : Heap) (next11 : List AV → Heap → Prop) : Prop :=
  BIN 0 .lss (nth vs0 3) (nth vs0 2) fun v1 =>
  COND v1
  (IADDR 1 T_int (nth vs0 1) (nth vs0 3) h2 fun v3 =>
  LOAD false 1 v3 h2 fun v4 =>
  CALL P f_strconv_Itoa [v4] 176 h2 (fun _ v6 h7 =>
  BIN 0 .add (.d (.str [32])) v6 fun v8 =>
  BIN 0 .add (nth vs0 0) v8 fun v9 =>
  BIN 0 .add (nth vs0 3) (.d (.num .i64 1)) fun v10 =>
  next11 [v9, (nth vs0 1), (nth vs0 2), v10] h7)
  (fun _ _ _ => False))
  (POST (nth vs0 0) h2 pre r post)
def vc_differ_told_k3 (P : Ctx) (pre : List ABlk) (r : AV) (post : List PB) (v0 : AV) (a2 : AV) (h6 : Heap) : Prop :=
  AIDX false 1 2 v0 (.d (.num .i64 0)) fun v1 =>
  TASS T_differ_start (mkAgg [.d (.num .i64 0), .d (.num .i64 0)]) a2 fun v3 =>
  EXT v3 1 fun v4 =>
  EXT v3 0 fun _ =>
  COND v4
  (CALL P f_differ_words [] 88 h6 (fun _ v8 h9 =>
  vc_differ_told_k1 P pre r post v8 a2 h9)
  (fun _ _ _ => False))
  (INVK P "ephemerist/differ.numbers" a2 [] 96 h6 (fun _ v11 h12 =>
  LEN false v11 h12 fun v13 =>
  LOOP [v1, v11, v13, (.d (.num .i64 0))] h12 120 fun vs14 h15 next16 =>
  vc_differ_told_k2 P pre r post vs14 h15 next16)
  (fun _ _ _ => False))
def vc_differ_told (P : Ctx) (pre : List ABlk) (a0 : AV) (r : AV) (post : List PB) : Prop :=
  let h0 : Heap := numbered 0 pre
  CALL P f_differ_words [] 32 h0 (fun _ v6 h1 =>
  vc_differ_told_k3 P pre r post v6 a0 h1)
  (fun _ _ _ => False)
theorem vc_differ_told_eq (g : GG) (pre : List ABlk) (a0 : AV) (r : AV) (post : List PB) : vcFn2 (Tz g) false ann_differ_told Tryz.f83 pre [a0] (.ret r) post = vc_differ_told (Tz g) pre a0 r post := by kernel_rfl
theorem hf_differ_told : Tryz.prog.funcs[f_differ_told]? = some Tryz.f83 := by kernel_rfl
theorem ok_differ_told : fnVcOK Tryz.prog Tryz.f83 = true := by kernel_rfl
theorem nt_differ_told : Nat.ble 1 Tryz.f83.ntmps = true := by kernel_rfl
theorem meetsH_differ_told {g : GG} {pre : List ABlk} {a0 : AV} {r : AV} {post : List PB} (hk : Nat.ble pre.length 24 = true) (h : vc_differ_told (Tz g) pre a0 r post) : MeetsH (Tz g) f_differ_told pre [a0] (.ret r) post :=
  meetsH_of_vc (C := Tz g) ann_differ_told hf_differ_told ok_differ_told nt_differ_told hk (pn := false) (Eq.mpr ((vcFn2_eq _ _ _ _ _ _ _ _).trans (vc_differ_told_eq g pre a0 r post)) h)
theorem meets_differ_told {g : GG} {a0 : D} {r : Res} (h : vc_differ_told (Tz g) [] (.d a0) r.val (r.bl.map .upd)) : Meets (Tz g) f_differ_told [a0] r := meetsH_differ_told rfl h
def ann_differ_head_numbers : Nat → List Nat := fun n => match n with  | _ => []
def vc_differ_head_numbers (_P : Ctx) (pre : List ABlk) (a0 : AV) (r : AV) (post : List PB) : Prop :=
  let h0 : Heap := numbered 0 pre
  BOX T_differ_head a0 24 h0 fun v1 h1 =>
  FADDR 0 v1 h1 fun v3 =>
  FADDR 1 v3 h1 fun v4 =>
  LOAD false 1 v4 h1 fun v5 =>
  FADDR 0 v1 h1 fun v6 =>
  FADDR 2 v6 h1 fun v7 =>
  LOAD false 1 v7 h1 fun v8 =>
  MKS T_int 1 [v5, v8] 88 h1 fun v9 h2 =>
  POST v9 h2 pre r post
theorem vc_differ_head_numbers_eq (g : GG) (pre : List ABlk) (a0 : AV) (r : AV) (post : List PB) : vcFn2 (Tz g) false ann_differ_head_numbers Tryz.f161 pre [a0] (.ret r) post = vc_differ_head_numbers (Tz g) pre a0 r post := by kernel_rfl
theorem hf_differ_head_numbers : Tryz.prog.funcs[f_differ_head_numbers]? = some Tryz.f161 := by kernel_rfl
theorem ok_differ_head_numbers : fnVcOK Tryz.prog Tryz.f161 = true := by kernel_rfl
theorem nt_differ_head_numbers : Nat.ble 1 Tryz.f161.ntmps = true := by kernel_rfl
theorem meetsH_differ_head_numbers {g : GG} {pre : List ABlk} {a0 : AV} {r : AV} {post : List PB} (hk : Nat.ble pre.length 24 = true) (h : vc_differ_head_numbers (Tz g) pre a0 r post) : MeetsH (Tz g) f_differ_head_numbers pre [a0] (.ret r) post :=
  meetsH_of_vc (C := Tz g) ann_differ_head_numbers hf_differ_head_numbers ok_differ_head_numbers nt_differ_head_numbers hk (pn := false) (Eq.mpr ((vcFn2_eq _ _ _ _ _ _ _ _).trans (vc_differ_head_numbers_eq g pre a0 r post)) h)
theorem meets_differ_head_numbers {g : GG} {a0 : D} {r : Res} (h : vc_differ_head_numbers (Tz g) [] (.d a0) r.val (r.bl.map .upd)) : Meets (Tz g) f_differ_head_numbers [a0] r := meetsH_differ_head_numbers rfl h
def ann_differ_start_numbers : Nat → List Nat := fun n => match n with  | _ => []
def vc_differ_start_numbers (_P : Ctx) (pre : List ABlk) (a0 : AV) (r : AV) (post : List PB) : Prop :=
  let h0 : Heap := numbered 0 pre
  BOX T_differ_start a0 24 h0 fun v1 h1 =>
  FADDR 0 v1 h1 fun v3 =>
  LOAD false 1 v3 h1 fun v4 =>
  FADDR 1 v1 h1 fun v5 =>
  LOAD false 1 v5 h1 fun v6 =>
  MKS T_int 1 [v4, v6] 72 h1 fun v7 h2 =>
  POST v7 h2 pre r post
theorem vc_differ_start_numbers_eq (g : GG) (pre : List ABlk) (a0 : AV) (r : AV) (post : List PB) : vcFn2 (Tz g) false ann_differ_start_numbers Tryz.f162 pre [a0] (.ret r) post = vc_differ_start_numbers (Tz g) pre a0 r post := by kernel_rfl
theorem hf_differ_start_numbers : Tryz.prog.funcs[f_differ_start_numbers]? = some Tryz.f162 := by kernel_rfl
theorem ok_differ_start_numbers : fnVcOK Tryz.prog Tryz.f162 = true := by kernel_rfl
theorem nt_differ_start_numbers : Nat.ble 1 Tryz.f162.ntmps = true := by kernel_rfl
theorem meetsH_differ_start_numbers {g : GG} {pre : List ABlk} {a0 : AV} {r : AV} {post : List PB} (hk : Nat.ble pre.length 24 = true) (h : vc_differ_start_numbers (Tz g) pre a0 r post) : MeetsH (Tz g) f_differ_start_numbers pre [a0] (.ret r) post :=
  meetsH_of_vc (C := Tz g) ann_differ_start_numbers hf_differ_start_numbers ok_differ_start_numbers nt_differ_start_numbers hk (pn := false) (Eq.mpr ((vcFn2_eq _ _ _ _ _ _ _ _).trans (vc_differ_start_numbers_eq g pre a0 r post)) h)
theorem meets_differ_start_numbers {g : GG} {a0 : D} {r : Res} (h : vc_differ_start_numbers (Tz g) [] (.d a0) r.val (r.bl.map .upd)) : Meets (Tz g) f_differ_start_numbers [a0] r := meetsH_differ_start_numbers rfl h
def ann_differ_text : Nat → List Nat := fun n => match n with | 3 => [3, 16, 17, 18] | 9 => [3, 6, 29, 30, 31] | 12 => [3, 6, 7, 8, 29, 30, 31, 37, 38] | _ => []
def vc_differ_text_k0 (_P : Ctx) (_pre : List ABlk) (_r : AV) (_post : List PB) (vs0 : List AV) (next10 : List AV → Heap → Prop) (h11 : Heap) (next13 : List AV → Heap → Prop) : Prop :=
  BIN 0 .lss (nth vs0 8) (nth vs0 7) fun v1 =>
  COND v1
  (SIDX (nth vs0 3) (nth vs0 8) fun v2 =>
  CONVI .i64 v2 fun v3 =>
  BIN 0 .add (nth vs0 8) (.d (.num .i64 1)) fun v4 =>
  BIN 0 .mul v3 v4 fun v5 =>
  BIN 0 .add (nth vs0 2) (.d (.num .i64 1)) fun v6 =>
  BIN 0 .mul v5 v6 fun v7 =>
  BIN 0 .add (nth vs0 1) v7 fun v8 =>
  BIN 0 .add (nth vs0 8) (.d (.num .i64 1)) fun v9 =>
  next10 [(nth vs0 0), v8, (nth vs0 2), (nth vs0 3), (nth vs0 4), (nth vs0 5), (nth vs0 6), (nth vs0 7), v9] h11)
  (BIN 0 .add (nth vs0 6) (.d (.num .i64 1)) fun v12 =>
  next13 [(nth vs0 0), (nth vs0 1), (nth vs0 4), (nth vs0 5), v12] h11)
def vc_differ_text_k1 (P : Ctx) (pre : List ABlk) (r : AV) (post : List PB) (v0 : AV) (v1 : AV) (h3 : Heap) (vs6 : List AV) : Prop :=
  BIN 0 .add v0 v1 fun v2 =>
  MKS T_string 1 [v2] 320 h3 fun v4 h5 =>
  APP T_string 1 (nth vs6 0) v4 328 h5 fun v7 h8 =>
  CALL P f_strings_Join [v7, (.d (.str [10]))] 352 h8 (fun _ v10 h11 =>
  BIN 0 .add v10 (.d (.str [10])) fun v12 =>
  POST v12 h11 pre r post)
  (fun _ _ _ => False)
def vc_differ_text_k2 (P : Ctx) (pre : List ABlk) (r : AV) (post : List PB) (v0 : AV) (v2 : AV) (h5 : Heap) (vs14 : List AV) : Prop :=
  BIN 0 .add (.d (.str [101, 110, 100, 32])) v0 fun v1 =>
  BIN 0 .quo v2 (.d (.num .i64 10)) fun v3 =>
  BIN 0 .rem v3 (.d (.num .i64 10)) fun v4 =>
  CALL P f_strconv_Itoa [v4] 272 h5 (fun _ v7 h8 =>
  BIN 0 .add v1 v7 fun v9 =>
  BIN 0 .rem v2 (.d (.num .i64 10)) fun v10 =>
  CALL P f_strconv_Itoa [v10] 304 h8 (fun _ v12 h13 =>
  vc_differ_text_k1 P pre r post v9 v12 h13 vs14)
  (fun _ _ _ => False))
  (fun _ _ _ => False)
def vc_differ_text_k3 (P : Ctx) (pre : List ABlk) (r : AV) (post : List PB) (vs0 : List AV) (h2 : Heap) (next9 : List AV → Heap → Prop) : Prop :=
  BIN 0 .lss (nth vs0 4) (nth vs0 3) fun v1 =>
  COND v1
  (IADDR 1 T_string (nth vs0 2) (nth vs0 4) h2 fun v3 =>
  LOAD false 1 v3 h2 fun v4 =>
  LEN true v4 h2 fun v5 =>
  LOOP [(nth vs0 0), (nth vs0 1), (nth vs0 4), v4, (nth vs0 2), (nth vs0 3), (nth vs0 4), v5, (.d (.num .i64 0))] h2 248 fun vs6 h7 next8 =>
  vc_differ_text_k0 P pre r post vs6 next8 h7 next9)
  (BIN 0 .rem (nth vs0 1) (.d (.num .i64 227)) fun v10 =>
  BIN 0 .quo v10 (.d (.num .i64 100)) fun v11 =>
  CALL P f_strconv_Itoa [v11] 232 h2 (fun _ v13 h14 =>
  vc_differ_text_k2 P pre r post v13 v10 h14 vs0)
  (fun _ _ _ => False))
def vc_differ_text_k4 (P : Ctx) (pre : List ABlk) (r : AV) (post : List PB) (vs0 : List AV) (h2 : Heap) (next17 : List AV → Heap → Prop) : Prop :=
  BIN 0 .lss (nth vs0 3) (nth vs0 2) fun v1 =>
  COND v1
  (IADDR 2 T_api_Span (nth vs0 1) (nth vs0 3) h2 fun v3 =>
  LOAD true 2 v3 h2 fun v4 =>
  ALLOC T_api_Span [.d (.num .i64 0), .d (.num .i64 0)] 152 h2 fun v5 h6 =>
  STORE 2 v5 v4 h6 fun h7 =>
  LOAD true 2 v5 h7 fun v8 =>
  CALL P f_differ_told [(.iface T_differ_start v8)] 192 h7 (fun _ v10 h11 =>
  MKS T_string 1 [v10] 200 h11 fun v12 h13 =>
  APP T_string 1 (nth vs0 0) v12 208 h13 fun v14 h15 =>
  BIN 0 .add (nth vs0 3) (.d (.num .i64 1)) fun v16 =>
  next17 [v14, (nth vs0 1), (nth vs0 2), v16] h15)
  (fun _ _ _ => False))
  (LEN false (nth vs0 0) h2 fun v18 =>
  LOOP [(nth vs0 0), (.d (.num .i64 0)), (nth vs0 0), v18, (.d (.num .i64 0))] h2 168 fun vs19 h20 next21 =>
  vc_differ_text_k3 P pre r post vs19 h20 next21)
def vc_differ_text (P : Ctx) (pre : List ABlk) (a0 : AV) (r : AV) (post : List PB) : Prop :=
  let h0 : Heap := numbered 0 pre
  BOX T_api_DifferPlan a0 24 h0 fun v1 h1 =>
  LOAD true 3 v1 h1 fun v10 =>
  BUILD [(0, 3)] [.zc, .d (.num .i64 0), .d (.num .i64 0)] [(0, v10)] fun v11 =>
  CALL P f_differ_told [(.iface T_differ_head v11)] 64 h1 (fun _ v13 h2 =>
  MKS T_string 1 [v13] 72 h2 fun v14 h4 =>
  FADDR 0 v1 h4 fun v15 =>
  LOAD false 1 v15 h4 fun v16 =>
  LEN false v16 h4 fun v17 =>
  LOOP [v14, v16, v17, (.d (.num .i64 0))] h4 120 fun vs5 h6 next5 =>
  vc_differ_text_k4 P pre r post vs5 h6 next5)
  (fun _ _ _ => False)
theorem vc_differ_text_eq (g : GG) (pre : List ABlk) (a0 : AV) (r : AV) (post : List PB) : vcFn2 (Tz g) false ann_differ_text Tryz.f44 pre [a0] (.ret r) post = vc_differ_text (Tz g) pre a0 r post := by kernel_rfl
theorem hf_differ_text : Tryz.prog.funcs[f_differ_text]? = some Tryz.f44 := by kernel_rfl
theorem ok_differ_text : fnVcOK Tryz.prog Tryz.f44 = true := by kernel_rfl
theorem nt_differ_text : Nat.ble 1 Tryz.f44.ntmps = true := by kernel_rfl
theorem meetsH_differ_text {g : GG} {pre : List ABlk} {a0 : AV} {r : AV} {post : List PB} (hk : Nat.ble pre.length 24 = true) (h : vc_differ_text (Tz g) pre a0 r post) : MeetsH (Tz g) f_differ_text pre [a0] (.ret r) post :=
  meetsH_of_vc (C := Tz g) ann_differ_text hf_differ_text ok_differ_text nt_differ_text hk (pn := false) (Eq.mpr ((vcFn2_eq _ _ _ _ _ _ _ _).trans (vc_differ_text_eq g pre a0 r post)) h)
theorem meets_differ_text {g : GG} {a0 : D} {r : Res} (h : vc_differ_text (Tz g) [] (.d a0) r.val (r.bl.map .upd)) : Meets (Tz g) f_differ_text [a0] r := meetsH_differ_text rfl h
def ann_differ_Print : Nat → List Nat := fun n => match n with  | _ => []
def vc_differ_Print (P : Ctx) (pre : List ABlk) (a0 : AV) (r : AV) (post : List PB) : Prop :=
  let h0 : Heap := numbered 0 pre
  BOX T_api_DifferPlan a0 24 h0 fun v1 h1 =>
  LOAD true 3 v1 h1 fun v4 =>
  CALL P f_differ_isPlan [v4] 56 h1 (fun _ v5 h2 =>
  NOT v5 fun v6 =>
  COND v6
  (POST (.tup [(.d (.str [])), (.d (.num .i64 2))]) h2 pre r post)
  (LOAD true 3 v1 h2 fun v7 =>
  CALL P f_differ_text [v7] 80 h2 (fun _ v8 h4 =>
  POST (.tup [v8, (.d (.num .i64 0))]) h4 pre r post)
  (fun _ _ _ => False)))
  (fun _ _ _ => False)
theorem vc_differ_Print_eq (g : GG) (pre : List ABlk) (a0 : AV) (r : AV) (post : List PB) : vcFn2 (Tz g) false ann_differ_Print Tryz.f11 pre [a0] (.ret r) post = vc_differ_Print (Tz g) pre a0 r post := by kernel_rfl
theorem hf_differ_Print : Tryz.prog.funcs[f_differ_Print]? = some Tryz.f11 := by kernel_rfl
theorem ok_differ_Print : fnVcOK Tryz.prog Tryz.f11 = true := by kernel_rfl
theorem nt_differ_Print : Nat.ble 1 Tryz.f11.ntmps = true := by kernel_rfl
theorem meetsH_differ_Print {g : GG} {pre : List ABlk} {a0 : AV} {r : AV} {post : List PB} (hk : Nat.ble pre.length 24 = true) (h : vc_differ_Print (Tz g) pre a0 r post) : MeetsH (Tz g) f_differ_Print pre [a0] (.ret r) post :=
  meetsH_of_vc (C := Tz g) ann_differ_Print hf_differ_Print ok_differ_Print nt_differ_Print hk (pn := false) (Eq.mpr ((vcFn2_eq _ _ _ _ _ _ _ _).trans (vc_differ_Print_eq g pre a0 r post)) h)
theorem meets_differ_Print {g : GG} {a0 : D} {r : Res} (h : vc_differ_Print (Tz g) [] (.d a0) r.val (r.bl.map .upd)) : Meets (Tz g) f_differ_Print [a0] r := meetsH_differ_Print rfl h
def ann_ref01_SamePlans : Nat → List Nat := fun n => match n with  | _ => []
def vc_ref01_SamePlans (P : Ctx) (pre : List ABlk) (a0 a1 : AV) (r : AV) (post : List PB) : Prop :=
  let h0 : Heap := numbered 0 pre
  BOX T_api_DifferPlan a0 24 h0 fun v2 h1 =>
  BOX T_api_DifferPlan a1 32 h1 fun v3 h2 =>
  FADDR 1 v2 h2 fun v5 =>
  LOAD false 1 v5 h2 fun v6 =>
  FADDR 1 v3 h2 fun v7 =>
  LOAD false 1 v7 h2 fun v8 =>
  BIN 0 .eql v6 v8 fun v9 =>
  CONDG v9
  (FADDR 2 v2 h2 fun v11 =>
  LOAD false 1 v11 h2 fun v12 =>
  FADDR 2 v3 h2 fun v13 =>
  LOAD false 1 v13 h2 fun v14 =>
  BIN 0 .eql v12 v14 fun v15 =>
  CONDG v15
  (FADDR 0 v2 h2 fun v18 =>
  LOAD false 1 v18 h2 fun v19 =>
  FADDR 0 v3 h2 fun v20 =>
  LOAD false 1 v20 h2 fun v21 =>
  CALL P f_ref01_SameSpans [v19, v21] 184 h2 (fun _ v22 h3 =>
  POST v22 h3 pre r post)
  (fun _ _ _ => False))
  (POST (.d (.bool false)) h2 pre r post))
  (POST (.d (.bool false)) h2 pre r post)
theorem vc_ref01_SamePlans_eq (g : GG) (pre : List ABlk) (a0 a1 : AV) (r : AV) (post : List PB) : vcFn2 (Tz g) false ann_ref01_SamePlans Tryz.f10 pre [a0, a1] (.ret r) post = vc_ref01_SamePlans (Tz g) pre a0 a1 r post := by kernel_rfl
theorem hf_ref01_SamePlans : Tryz.prog.funcs[f_ref01_SamePlans]? = some Tryz.f10 := by kernel_rfl
theorem ok_ref01_SamePlans : fnVcOK Tryz.prog Tryz.f10 = true := by kernel_rfl
theorem nt_ref01_SamePlans : Nat.ble 2 Tryz.f10.ntmps = true := by kernel_rfl
theorem meetsH_ref01_SamePlans {g : GG} {pre : List ABlk} {a0 a1 : AV} {r : AV} {post : List PB} (hk : Nat.ble pre.length 24 = true) (h : vc_ref01_SamePlans (Tz g) pre a0 a1 r post) : MeetsH (Tz g) f_ref01_SamePlans pre [a0, a1] (.ret r) post :=
  meetsH_of_vc (C := Tz g) ann_ref01_SamePlans hf_ref01_SamePlans ok_ref01_SamePlans nt_ref01_SamePlans hk (pn := false) (Eq.mpr ((vcFn2_eq _ _ _ _ _ _ _ _).trans (vc_ref01_SamePlans_eq g pre a0 a1 r post)) h)
theorem meets_ref01_SamePlans {g : GG} {a0 a1 : D} {r : Res} (h : vc_ref01_SamePlans (Tz g) [] (.d a0) (.d a1) r.val (r.bl.map .upd)) : Meets (Tz g) f_ref01_SamePlans [a0, a1] r := meetsH_ref01_SamePlans rfl h
end Go.Vc

namespace Go.Vc
open Go
abbrev Str := List UInt8
theorem digs_small {u : Nat} (h : u < 10) : Lib.decDigits u = [UInt8.ofNat (48 + u)] := by rw [Lib.decDigits, dif_pos h]
theorem digs_step {u : Nat} (h : ¬ u < 10) : Lib.decDigits u = Lib.decDigits (u / 10) ++ [UInt8.ofNat (48 + u % 10)] := by rw [Lib.decDigits, dif_neg h]
def isD (c : UInt8) : Bool := decide (48 ≤ c.toNat) && decide (c.toNat ≤ 57)
def valS (s : Str) : Nat := s.foldl (fun n c => 10 * n + (c.toNat - 48)) 0
theorem dig_toNat {k : Nat} (h : k < 10) : (UInt8.ofNat (48 + k)).toNat = 48 + k := by
  rw [UInt8.toNat_ofNat']
  omega
theorem digs_ok : ∀ (n u : Nat), u ≤ n → (Lib.decDigits u).all isD = true ∧ valS (Lib.decDigits u) = u ∧ 1 ≤ (Lib.decDigits u).length
  | 0, u, h => by
    rw [digs_small (by omega)]
    have hd := dig_toNat (k := u) (by omega)
    refine ⟨?_, ?_, by simp⟩
    · simp only [List.all_cons, List.all_nil, Bool.and_true, isD, hd]; simp; omega
    · simp only [valS, List.foldl_cons, List.foldl_nil, hd]; omega
  | n + 1, u, h => by
    by_cases hu : u < 10
    · rw [digs_small hu]
      have hd := dig_toNat (k := u) (by omega)
      refine ⟨?_, ?_, by simp⟩
      · simp only [List.all_cons, List.all_nil, Bool.and_true, isD, hd]; simp; omega
      · simp only [valS, List.foldl_cons, List.foldl_nil, hd]; omega
    · obtain ⟨h1, h2, h3⟩ := digs_ok n (u / 10) (by omega)
      have hd := dig_toNat (k := u % 10) (by omega)
      rw [digs_step hu]
      refine ⟨?_, ?_, by simp⟩
      · rw [List.all_append, h1]
        simp only [List.all_cons, List.all_nil, Bool.and_true, Bool.true_and, isD, hd]; simp; omega
      · unfold valS at h2 ⊢
        rw [List.foldl_append, h2]
        simp only [List.foldl_cons, List.foldl_nil, hd]; omega
theorem digs_len : ∀ (k u : Nat), u < 10 ^ (k + 1) → (Lib.decDigits u).length ≤ k + 1
  | 0, u, h => by rw [digs_small (by omega)]; simp
  | k + 1, u, h => by
    by_cases hu : u < 10
    · rw [digs_small hu]; simp
    · have := digs_len k (u / 10) (by rw [Nat.pow_succ] at h; omega)
      rw [digs_step hu]; simp; omega
theorem valS_lt : ∀ (s : Str) (n : Nat), s.all isD = true → s.foldl (fun n c => 10 * n + (c.toNat - 48)) n < (n + 1) * 10 ^ s.length
  | [], n, _ => by simp
  | c :: r, n, h => by
    simp only [List.all_cons, Bool.and_eq_true] at h
    have ih := valS_lt r (10 * n + (c.toNat - 48)) h.2
    simp only [isD, Bool.and_eq_true, decide_eq_true_eq] at h
    refine Nat.lt_of_lt_of_le ih ?_
    simp only [List.length_cons, Nat.pow_succ]
    rw [Nat.mul_comm (10 ^ r.length) 10, ← Nat.mul_assoc]
    exact Nat.mul_le_mul_right _ (by omega)
theorem itoaX_nonneg (n : Nat) (h : n ≤ 1000000000) : itoaX (n : Int) = Lib.decDigits n := by
  rw [itoaX_eq (by omega) (by omega)]
  unfold Lib.itoa
  rw [if_neg (by omega)]
  simp
theorem itoaX_neg (n : Nat) (h0 : 0 < n) (h : n ≤ 1000000000) : itoaX (-(n : Int)) = 45 :: Lib.decDigits n := by
  rw [itoaX_eq (by omega) (by omega)]
  unfold Lib.itoa
  rw [if_pos (by omega)]
  have : (-(n : Int)).natAbs = n := by omega
  rw [this]
def cutM (w : Str) : Bool × Str := match w with
  | [] => (false, [])
  | c :: r => match decide (c = 45) with | true => (true, r) | false => (false, c :: r)
def goodD (d : Nat) (s : Str) : Bool := decide (1 ≤ s.length) && (decide (s.length ≤ d) && s.all isD)
def sgnI (m : Bool) (n : Nat) : Int := match m with | true => -(n : Int) | false => (n : Int)
def numR (d : Nat) (w : Str) : Option Int := match goodD d (cutM w).2 && decide (itoaX (sgnI (cutM w).1 (valS (cutM w).2)) = w) with | true => some (sgnI (cutM w).1 (valS (cutM w).2)) | false => none
theorem valS_bound {d : Nat} {s : Str} (h : goodD d s = true) : valS s < 10 ^ d := by
  simp only [goodD, Bool.and_eq_true, decide_eq_true_eq] at h
  have := valS_lt s 0 h.2.2
  simp only [Nat.zero_add, Nat.one_mul] at this
  exact Nat.lt_of_lt_of_le this (Nat.pow_le_pow_right (by omega) h.2.1)
theorem numR_some {d : Nat} (_hd : d ≤ 9) {w : Str} {n : Int} (h : numR d w = some n) : itoaX n = w ∧ -((10 ^ d : Nat) : Int) < n ∧ n < ((10 ^ d : Nat) : Int) := by
  unfold numR at h
  split at h
  · rename_i hc
    simp only [Bool.and_eq_true, decide_eq_true_eq] at hc
    injection h with h
    have hb := valS_bound hc.1
    rw [← h]
    refine ⟨hc.2, ?_⟩
    cases (cutM w).1 <;> simp only [sgnI] <;> omega
  · cases h
theorem dig_not45 {c : UInt8} (h : isD c = true) : c ≠ 45 := by
  rintro rfl
  simp [isD] at h
theorem cutM_digs {s : Str} (h : s.all isD = true) : cutM s = (false, s) := by
  cases s with
  | nil => rfl
  | cons c r =>
    simp only [List.all_cons, Bool.and_eq_true] at h
    simp only [cutM, decide_eq_false (dig_not45 h.1)]
def givB (d : Nat) (sign : Bool) (w : Str) : Bool := match numR d w with | some n => sign || decide (0 ≤ n) | none => false
theorem given_iff {d : Nat} (hd : d ≤ 9) (w : Str) (sign : Bool) : (goodD d (cutM w).2 && (decide (itoaX (valS (cutM w).2 : Int) = (cutM w).2) && (!(cutM w).1 || (sign && decide (0 < valS (cutM w).2))))) = givB d sign w ∧ (∀ n, numR d w = some n → n = sgnI (cutM w).1 (valS (cutM w).2)) := by
  have hn : ∀ n, numR d w = some n → n = sgnI (cutM w).1 (valS (cutM w).2) := fun n h => by
    unfold numR at h
    split at h
    · injection h with h; exact h.symm
    · cases h
  refine ⟨?_, hn⟩
  unfold givB
  have hpow : 10 ^ d ≤ 10 ^ 9 := Nat.pow_le_pow_right (by omega) hd
  cases hg : goodD d (cutM w).2 with
  | false =>
    have : numR d w = none := by unfold numR; rw [hg]; rfl
    rw [this]; rfl
  | true =>
    have hb := valS_bound hg
    rw [Bool.true_and]
    have hw : w = (match (cutM w).1 with | true => 45 :: (cutM w).2 | false => (cutM w).2) := by
      unfold cutM
      cases w with
      | nil => rfl
      | cons c r =>
        by_cases hc : c = 45
        · subst hc; rfl
        · simp only [decide_eq_false hc]
    have hR : numR d w = match decide (itoaX (sgnI (cutM w).1 (valS (cutM w).2)) = w) with | true => some (sgnI (cutM w).1 (valS (cutM w).2)) | false => none := by
      unfold numR; rw [hg, Bool.true_and]
    rw [hR]
    generalize (cutM w).2 = s at *
    cases hm : (cutM w).1 with
    | false =>
      rw [hm] at hw
      have hw : w = s := hw
      simp only [sgnI, hw, Bool.not_false, Bool.true_or, Bool.and_true]
      cases decide (itoaX (valS s : Int) = s) with
      | false => rfl
      | true =>
        have : decide (0 ≤ (valS s : Int)) = true := decide_eq_true (by omega)
        simp
    | true =>
      rw [hm] at hw
      have hw : w = 45 :: s := hw
      simp only [sgnI, hw, Bool.not_true, Bool.false_or]
      by_cases hv : valS s = 0
      · have e1 : decide (itoaX (-(valS s : Int)) = 45 :: s) = false := by
          apply decide_eq_false
          rw [hv]
          intro h
          have : itoaX (-((0 : Nat) : Int)) = [48] := rfl
          rw [this] at h
          injection h with h
          cases h
        rw [e1, decide_eq_false (show ¬ 0 < valS s by omega)]
        simp
      · have e1 : decide (itoaX (-(valS s : Int)) = 45 :: s) = decide (itoaX (valS s : Int) = s) := by
          rw [itoaX_neg _ (by omega) (by omega), itoaX_nonneg _ (by omega)]
          simp
        rw [e1, decide_eq_true (show 0 < valS s by omega)]
        cases decide (itoaX (valS s : Int) = s) with
        | false => rfl
        | true =>
          have : decide (0 ≤ (-(valS s : Int))) = false := decide_eq_false (by omega)
          show (sign && true) = (sign || decide (0 ≤ (-(valS s : Int))))
          rw [this, Bool.and_true, Bool.or_false]
theorem splL_cut {c : UInt8} : ∀ {x : Str} (r : Str), c ∉ x → splL c (x ++ c :: r) = x :: splL c r
  | [], r, _ => by simp [splL]
  | b :: x, r, h => by
    have ih := splL_cut (c := c) (x := x) r (fun hm => h (List.mem_cons_of_mem _ hm))
    have hb : ¬ b = c := fun e => h (by rw [e]; exact List.mem_cons_self)
    simp only [List.cons_append, splL, if_neg hb, ih]
def rowT (w : Str) (l : List Int) : Str := w ++ l.flatMap fun n => 32 :: itoaX n
theorem digs_no {c : UInt8} (hc : isD c = false) (u : Nat) : c ∉ Lib.decDigits u := fun h => by
  have := (digs_ok u u (Nat.le_refl _)).1
  rw [List.all_eq_true] at this
  rw [this c h] at hc
  cases hc
theorem itoa_no {c : UInt8} (hc : isD c = false) (h45 : c ≠ 45) {n : Int} (h1 : -1000000000 ≤ n) (h2 : n ≤ 1000000000) : c ∉ itoaX n := by
  rcases (by omega : 0 ≤ n ∨ n < 0) with h0 | h0
  · obtain ⟨u, rfl⟩ : ∃ u : Nat, n = u := ⟨n.toNat, by omega⟩
    rw [itoaX_nonneg u (by omega)]
    exact digs_no hc u
  · obtain ⟨u, rfl⟩ : ∃ u : Nat, n = -(u : Int) := ⟨n.natAbs, by omega⟩
    rw [itoaX_neg u (by omega) (by omega)]
    intro h
    rcases List.mem_cons.1 h with h | h
    · exact h45 h
    · exact digs_no hc u h
def bigI (n : Int) : Bool := decide (-1000000000 ≤ n) && decide (n ≤ 1000000000)
theorem rowT_no {c : UInt8} (hc : isD c = false) (h45 : c ≠ 45) (h32 : c ≠ 32) {w : Str} {l : List Int} (hw : c ∉ w) (hl : l.all bigI = true) : c ∉ rowT w l := by
  intro h
  rcases List.mem_append.1 h with h | h
  · exact hw h
  · obtain ⟨n, hn, h⟩ := List.mem_flatMap.1 h
    rw [List.all_eq_true] at hl
    have := hl n hn
    simp only [bigI, Bool.and_eq_true, decide_eq_true_eq] at this
    rcases List.mem_cons.1 h with h | h
    · exact h32 h
    · exact itoa_no hc h45 this.1 this.2 h
def bodyT (rows : List Str) : Str := rows.flatMap fun r => r ++ [10]
theorem splL_body : ∀ (rows : List Str) (e : Str), (∀ r, r ∈ rows → (10 : UInt8) ∉ r) → (10 : UInt8) ∉ e → splL 10 (bodyT rows ++ (e ++ [10])) = rows ++ [e, []]
  | [], e, _, he => by
    have := splL_cut (c := 10) (x := e) [] he
    simpa [bodyT, splL] using this
  | r :: rs, e, h, he => by
    have ih := splL_body rs e (fun x hx => h x (List.mem_cons_of_mem _ hx)) he
    have e1 : bodyT (r :: rs) ++ (e ++ [10]) = r ++ 10 :: (bodyT rs ++ (e ++ [10])) := by simp [bodyT]
    rw [e1, splL_cut _ (h r List.mem_cons_self), ih]
    rfl
def chkRow (i : Nat) : Nat → Str → Nat
  | _, [] => 0
  | k, c :: r => c.toNat * (k + 1) * (i + 1) + chkRow i (k + 1) r
def chkRows : Nat → List Str → Nat
  | _, [] => 0
  | i, r :: rs => chkRow i 0 r + chkRows (i + 1) rs
def endT (c : Nat) : Str := [101, 110, 100, 32] ++ (itoaX ((c / 100 : Nat) : Int) ++ (itoaX ((c / 10 % 10 : Nat) : Int) ++ itoaX ((c % 10 : Nat) : Int)))
def sealT (m : Nat) (rows : List Str) : Str := bodyT rows ++ (endT (chkRows 0 rows % m) ++ [10])
theorem one_dig {k : Nat} (h : k < 10) : itoaX (k : Int) = [UInt8.ofNat (48 + k)] := by
  rw [itoaX_nonneg k (by omega), digs_small h]
theorem endT_eq {c : Nat} (h : c < 1000) : endT c = [101, 110, 100, 32, UInt8.ofNat (48 + c / 100), UInt8.ofNat (48 + c / 10 % 10), UInt8.ofNat (48 + c % 10)] := by
  unfold endT
  rw [one_dig (by omega), one_dig (by omega), one_dig (by omega)]
  rfl
theorem endT_inj {a b : Nat} (ha : a < 1000) (hb : b < 1000) (h : endT a = endT b) : a = b := by
  rw [endT_eq ha, endT_eq hb] at h
  simp only [List.cons.injEq, true_and, and_true] at h
  have h1 := congrArg UInt8.toNat h.1
  have h2 := congrArg UInt8.toNat h.2.1
  have h3 := congrArg UInt8.toNat h.2.2
  rw [dig_toNat (by omega), dig_toNat (by omega)] at h1 h2 h3
  omega
theorem endT_no {c : Nat} (h : c < 1000) : (10 : UInt8) ∉ endT c := by
  unfold endT
  have hn : ∀ k : Nat, k < 1000 → (10 : UInt8) ∉ itoaX (k : Int) := fun k hk => itoa_no (by decide) (by decide) (by omega) (by omega)
  intro hm
  simp only [List.mem_append] at hm
  rcases hm with hm | hm | hm | hm
  · revert hm; decide
  · exact hn _ (by omega) hm
  · exact hn _ (by omega) hm
  · exact hn _ (by omega) hm
theorem seal_split {m : Nat} (hm0 : 0 < m) (hm : m ≤ 1000) {rows : List Str} (h : ∀ r, r ∈ rows → (10 : UInt8) ∉ r) : splL 10 (sealT m rows) = rows ++ [endT (chkRows 0 rows % m), []] :=
  splL_body rows _ h (endT_no (by have := Nat.mod_lt (chkRows 0 rows) hm0; omega))
end Go.Vc

namespace Go.Vc
open Go Go.Proofs
variable {g : GG}
attribute [local simp] and_assoc
theorem take_next {α : Type} {L : List α} {k : Nat} {x : α} (h : L[k]? = some x) : L.take (k + 1) = L.take k ++ [x] := by
  rw [List.take_add_one, h]; rfl
theorem take_all {α : Type} {L : List α} {k : Nat} (h : L.length ≤ k) : L.take k = L := List.take_of_length_le h
theorem BIN_d0 {K : AV → Prop} (op : BinOp) (a b : D) : BIN 0 op (.d a) (.d b) K = ∃ r, binD 0 op a b = some r ∧ K (.d r) := rfl
@[simp high] theorem BIN_Sp (a b : Sp) (K : AV → Prop) : BIN 1002 .neq (.d (.agg [int a.low, int a.high])) (.d (.agg [int b.low, int b.high])) K = K (.d (.bool !decide (a = b))) := by
  have e : binD 1002 .neq (.agg [int a.low, int a.high]) (.agg [int b.low, int b.high]) = some (.bool !decide (a = b)) := by
    obtain ⟨a1, a2⟩ := a
    obtain ⟨b1, b2⟩ := b
    by_cases h1 : a1 = b1 <;> by_cases h2 : a2 = b2 <;> simp [h1, h2]
  show (∃ r, binD 1002 .neq _ _ = some r ∧ K (.d r)) = _
  rw [e]
  simp
theorem ref01_SameSpans_meets (l m : List Sp) (hl : l.length ≤ 1000000) (_hm : m.length ≤ 1000000) : Meets (Tz g) f_ref01_SameSpans [spans l, spans m] ⟨.d (.bool (decide (l = m))), []⟩ := by
  refine meets_ref01_SameSpans ?_
  unfold vc_ref01_SameSpans
  simp [spans]
  constructor
  · intro h
    have : l ≠ m := fun e => h (by rw [e])
    simpa using this
  · intro h
    have h : l.length = m.length := by omega
    refine LOOP.mk Nat (fun k => [.d (spans l), .d (spans m), .d (int k)]) (fun k => []) (fun k => k ≤ l.length ∧ (l = m ↔ l.drop k = m.drop k)) (fun k => l.length - k) [] (by simp) 0 (by simp) (by simp [WEAK, spans]) (fun _ _ => rfl) ?_
    rintro k ⟨hk, he⟩
    simp [spans, -BIN_d, BIN_d0]
    constructor
    · intro hlt
      have hlt : k < l.length := by omega
      have h1 : l[k]? = some l[k] := List.getElem?_eq_getElem hlt
      have h2 : m[k]? = some m[k] := List.getElem?_eq_getElem (by omega)
      rw [List.drop_eq_getElem_cons hlt, List.drop_eq_getElem_cons (show k < m.length by omega)] at he
      simp [h1, h2, Sp.d, -BIN_d]
      refine ⟨rfl, ?_, ?_⟩
      · intro hq e
        exact hq (List.cons.inj (he.1 e)).1
      · intro hq
        rw [wrap_id (n := (k : Int) + 1) (by omega) (by omega)]
        refine ⟨k + 1, by omega, ?_, by simp [WEAK], by omega⟩
        exact he.trans ⟨fun h' => (List.cons.inj h').2, fun h' => by rw [hq, h']⟩
    · intro hge
      have : k = l.length := by omega
      subst this
      exact he.2 (by rw [List.drop_eq_nil_of_le (by omega), List.drop_eq_nil_of_le (by omega)])
theorem samePlans_meets (p q : Plan) (hp : p.starts.length ≤ 1000000) (hq : q.starts.length ≤ 1000000) : Meets (Tz g) f_ref01_SamePlans [p.d, q.d] ⟨.d (.bool (decide (p.rows = q.rows) && (decide (p.guard = q.guard) && decide (p.starts = q.starts)))), []⟩ := by
  refine meets_ref01_SamePlans ?_
  unfold vc_ref01_SamePlans
  simp [Plan.d, spans]
  refine ⟨fun h1 => ⟨fun h2 => ?_, fun h2 => by simp [h1, h2]⟩, fun h1 => by simp [h1]⟩
  refine CALL.val [spans p.starts, spans q.starts] _ rfl (ref01_SameSpans_meets _ _ hp hq) (.inl rfl) ?_
  simp [h1, h2]
end Go.Vc

namespace Go.Vc
open Go Go.Proofs
variable {g : GG}
attribute [local simp] and_assoc
def strsD (l : List Str) : D := .list (l.map .str)
theorem wrap_u8 {n : Int} (h1 : 0 ≤ n) (h2 : n ≤ 255) : IntKind.u8.wrap n = n := by
  simp only [IntKind.wrap, IntKind.bits, IntKind.signed]
  simp
  omega
theorem itoaX_len (n : Int) (h1 : -1000000000 ≤ n) (h2 : n ≤ 1000000000) : (itoaX n).length ≤ 20 := by
  rcases (by omega : 0 ≤ n ∨ n < 0) with h0 | h0
  · obtain ⟨u, rfl⟩ : ∃ u : Nat, n = u := ⟨n.toNat, by omega⟩
    rw [itoaX_nonneg u (by omega)]
    have := digs_len 9 u (by omega)
    omega
  · obtain ⟨u, rfl⟩ : ∃ u : Nat, n = -(u : Int) := ⟨n.natAbs, by omega⟩
    rw [itoaX_neg u (by omega) (by omega)]
    have := digs_len 9 u (by omega)
    simp
    omega
theorem rowT_next {w : Str} {l : List Int} {k : Nat} {n : Int} (h : l[k]? = some n) : rowT w (l.take (k + 1)) = rowT w (l.take k) ++ (32 :: itoaX n) := by
  unfold rowT
  rw [take_next h]
  simp
theorem rowT_len (w : Str) : ∀ l : List Int, l.all bigI = true → (rowT w l).length ≤ w.length + 21 * l.length
  | [], _ => by simp [rowT]
  | n :: r, h => by
    simp only [List.all_cons, Bool.and_eq_true, bigI, decide_eq_true_eq] at h
    have ih := rowT_len w r h.2
    have hn := itoaX_len n h.1.1 h.1.2
    simp only [rowT, List.flatMap_cons, List.length_append, List.length_cons] at ih ⊢
    omega
theorem all_take {α : Type} {f : α → Bool} {l : List α} (h : l.all f = true) (k : Nat) : (l.take k).all f = true := by
  rw [List.all_eq_true] at h ⊢
  exact fun x hx => h x (List.mem_of_mem_take hx)
theorem chkRow_le (i : Nat) : ∀ (r : Str) (k : Nat), chkRow i k r ≤ r.length * (255 * (k + r.length) * (i + 1))
  | [], k => by simp [chkRow]
  | c :: r, k => by
    have ih := chkRow_le i r (k + 1)
    have hc : c.toNat ≤ 255 := by have := c.toNat_lt; omega
    have h1 : c.toNat * (k + 1) * (i + 1) ≤ 255 * (k + (r.length + 1)) * (i + 1) := Nat.mul_le_mul_right _ (Nat.mul_le_mul hc (by omega))
    have e : k + 1 + r.length = k + (r.length + 1) := by omega
    rw [e] at ih
    simp only [chkRow, List.length_cons]
    generalize 255 * (k + (r.length + 1)) * (i + 1) = X at *
    rw [Nat.succ_mul]
    omega
theorem chkRow_bound {i : Nat} {r : Str} (hi : i ≤ 1000) (hr : r.length ≤ 1000) : chkRow i 0 r ≤ 255255000000 := by
  have h := chkRow_le i r 0
  rw [Nat.zero_add] at h
  have h2 : r.length * (255 * r.length * (i + 1)) ≤ 1000 * (255 * 1000 * 1001) := Nat.mul_le_mul hr (Nat.mul_le_mul (Nat.mul_le_mul_left _ hr) (by omega))
  omega
theorem chkRows_le : ∀ (rows : List Str) (i : Nat), (∀ r, r ∈ rows → r.length ≤ 1000) → i + rows.length ≤ 1000 → chkRows i rows ≤ rows.length * 255255000000
  | [], i, _, _ => by simp [chkRows]
  | r :: rs, i, h, hl => by
    have ih := chkRows_le rs (i + 1) (fun x hx => h x (List.mem_cons_of_mem _ hx)) (by simp at hl; omega)
    have h1 := chkRow_bound (i := i) (r := r) (by simp at hl; omega) (h r List.mem_cons_self)
    simp only [chkRows, List.length_cons, Nat.succ_mul]
    omega
theorem chkRow_next (i : Nat) : ∀ (r : Str) (k j : Nat) (c : UInt8), r[j]? = some c → chkRow i k (r.take (j + 1)) = chkRow i k (r.take j) + c.toNat * (k + j + 1) * (i + 1)
  | [], k, j, c, h => by simp at h
  | b :: r, k, 0, c, h => by
    simp at h; subst h
    simp [chkRow]
  | b :: r, k, j + 1, c, h => by
    have ih := chkRow_next i r (k + 1) j c (by simpa using h)
    have e : k + 1 + j + 1 = k + (j + 1) + 1 := by omega
    rw [e] at ih
    simp only [List.take_succ_cons, chkRow, ih]
    omega
theorem chkRow_mono (i : Nat) : ∀ (r : Str) (k j : Nat), chkRow i k (r.take j) ≤ chkRow i k r
  | [], k, j => by simp
  | b :: r, k, 0 => by simp [chkRow]
  | b :: r, k, j + 1 => by
    have ih := chkRow_mono i r (k + 1) j
    simp only [List.take_succ_cons, chkRow]
    omega
theorem chkRows_next : ∀ (rows : List Str) (i j : Nat) (r : Str), rows[j]? = some r → chkRows i (rows.take (j + 1)) = chkRows i (rows.take j) + chkRow (i + j) 0 r
  | [], i, j, r, h => by simp at h
  | b :: rs, i, 0, r, h => by
    simp at h; subst h
    simp [chkRows]
  | b :: rs, i, j + 1, r, h => by
    have ih := chkRows_next rs (i + 1) j r (by simpa using h)
    have e : i + 1 + j = i + (j + 1) := by omega
    rw [e] at ih
    simp only [List.take_succ_cons, chkRows, ih]
    omega
theorem bodyT_len : ∀ (rows : List Str), (∀ r, r ∈ rows → r.length ≤ 1000) → (bodyT rows).length ≤ rows.length * 1001
  | [], _ => by simp [bodyT]
  | r :: rs, h => by
    have ih := bodyT_len rs (fun x hx => h x (List.mem_cons_of_mem _ hx))
    have := h r List.mem_cons_self
    simp only [bodyT, List.flatMap_cons, List.length_append, List.length_cons, List.length_nil, Nat.succ_mul] at ih ⊢
    omega
end Go.Vc

namespace Go.Vc
open Go Go.Proofs
variable {g : GG}
attribute [local simp] and_assoc
theorem splX_split (c : UInt8) (s : Str) : splX c s [] = splL c s := by
  rw [splX_eq]
  cases hs : splL c s with
  | nil => exact absurd hs (splL_ne c s)
  | cons x xs => simp
theorem splL_le (c : UInt8) : ∀ s : Str, (splL c s).length ≤ s.length + 1
  | [] => by simp [splL]
  | b :: r => by
    have ih := splL_le c r
    simp only [splL]
    split
    · simp; omega
    · split
      · simp
      · rename_i x xs h
        rw [h] at ih
        simp at ih ⊢
        omega
structure SpS where
  i : Nat
  fr : Nat
  out : List Str
def SpS.ok (c : UInt8) (s : Str) (x : SpS) : Prop := x.fr ≤ x.i ∧ x.i ≤ s.length ∧ x.out.length ≤ x.i ∧ x.out ++ splX c (s.drop x.i) ((s.take x.i).drop x.fr).reverse = splL c s
theorem SpS.step {c : UInt8} {s : Str} {x : SpS} (h : x.ok c s) {b : UInt8} (hg : s[x.i]? = some b) : (b = c → SpS.ok c s ⟨x.i + 1, x.i + 1, x.out ++ [(s.take x.i).drop x.fr]⟩) ∧ (b ≠ c → SpS.ok c s ⟨x.i + 1, x.fr, x.out⟩) := by
  obtain ⟨h1, h2, h3, h4⟩ := h
  have hlt := (List.getElem?_eq_some_iff.1 hg).1
  have hd : s.drop x.i = b :: s.drop (x.i + 1) := by
    obtain ⟨g1, g2⟩ := List.getElem?_eq_some_iff.1 hg
    rw [List.drop_eq_getElem_cons g1, g2]
  rw [hd] at h4
  refine ⟨fun hb => ⟨Nat.le_refl _, hlt, by simp; exact h3, ?_⟩, fun hb => ⟨by show x.fr ≤ x.i + 1; omega, hlt, by show x.out.length ≤ x.i + 1; omega, ?_⟩⟩
  · simp only [splX, decide_eq_true hb, List.reverse_reverse] at h4
    have e : (s.take (x.i + 1)).drop (x.i + 1) = [] := List.drop_eq_nil_of_le (by simp; omega)
    show (x.out ++ [(s.take x.i).drop x.fr]) ++ splX c (s.drop (x.i + 1)) ((s.take (x.i + 1)).drop (x.i + 1)).reverse = _
    rw [e, List.append_assoc]
    exact h4
  · simp only [splX, decide_eq_false hb] at h4
    show x.out ++ splX c (s.drop (x.i + 1)) ((s.take (x.i + 1)).drop x.fr).reverse = _
    have e : ((s.take (x.i + 1)).drop x.fr).reverse = b :: ((s.take x.i).drop x.fr).reverse := by
      rw [take_next hg, List.drop_append_of_le_length (by simp; omega), List.reverse_append]
      rfl
    rw [e]
    exact h4
theorem allD_snoc (s : Str) (k : Nat) (c : UInt8) (h : s[k]? = some c) : (s.take (k + 1)).all isD = ((s.take k).all isD && isD c) := by
  rw [take_next h, List.all_append]; simp
theorem valS_snoc (s : Str) (k : Nat) (c : UInt8) (h : s[k]? = some c) : valS (s.take (k + 1)) = 10 * valS (s.take k) + (c.toNat - 48) := by
  unfold valS
  rw [take_next h, List.foldl_append]; rfl
theorem cutM_cases (w : Str) : (w = [] ∧ cutM w = (false, [])) ∨ (∃ r, w = 45 :: r ∧ cutM w = (true, r)) ∨ (∃ c r, w = c :: r ∧ c ≠ 45 ∧ cutM w = (false, w)) := by
  cases w with
  | nil => exact .inl ⟨rfl, rfl⟩
  | cons c r =>
    by_cases h : c = 45
    · subst h; exact .inr (.inl ⟨r, rfl, rfl⟩)
    · exact .inr (.inr ⟨c, r, rfl, h, by simp only [cutM, decide_eq_false h]⟩)
structure NmS where
  i : Nat
  out : List Int
end Go.Vc
