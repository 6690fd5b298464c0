/- A part of the proof: general laws of a reading of the model by abstract data, or contracts of the functions that the law calls. -/
import Derived.Test.YtaacglfaheijaaaGreatDoorVc18
import Derived.Test.YtaacglfaheijaaaGreatDoorVc23
import Derived.Test.YtaacglfaheijaaaGreatDoorVc11
import Derived.Test.YtaacglfaheijaaaGreatDoorVc28
set_option maxRecDepth 100000
namespace Go.Vc
open Go Go.RowKit
theorem MeetsH.frz {C : Ctx} {f : FuncId} {args : List AV} {T : TypeId} {xs : List D} (h : MeetsH C f [] args (.ret (.own 0 0)) [.upd ⟨0, T, .lst xs⟩]) : MeetsH C f [] args (.ret (.d (.list xs))) [] := by
  refine ⟨h.1, fun E us hst hr => ?_⟩
  refine Calls.mono (h.2 E us hst hr) (fun e w' hq => ?_)
  obtain ⟨E1, rfl, hf, ho⟩ := hq
  cases e with
  | panicked ch => cases ho
  | outgrown => cases ho
  | returned u =>
    have ho : VRel E1 (.own 0 0) u := ho
    have hH : E1.H 0 = some ⟨0, T, .lst xs⟩ := by rw [hf.H]; rfl
    have hB : BE E1 0 0 = some (T, .lst xs) := by unfold BE; rw [hH]; rfl
    let E2 : Env := { P := E1.P, top := fun _ => none, m := E1.m, H := fun _ => none, w := E1.w, S := fun b => E1.S b ∨ E1.m 0 = some b }
    have hgo : E.Go E2 := by
      have g := hf.go
      refine ⟨⟨g.step.P, fun b hb => .inl (g.step.S b hb), g.step.w, fun i t ht => ?_, fun i t b' ht => ?_⟩, g.os, g.tape, g.output, g.size, g.only, fun b hb => ?_, fun b hb => ?_⟩
      · rw [start_top hst] at ht; cases ht
      · rw [start_top hst] at ht; cases ht
      · obtain ⟨i, h1, _⟩ := hb
        exact absurd rfl h1
      · rcases hb with hb | hb
        · exact g.st b hb
        · exact .inr (g.own b ⟨0, by rw [hH]; simp, hb⟩)
    have hhr : HR C.N E2 := by
      refine ⟨fun b hb => ⟨?_, fun i hi => absurd rfl hi⟩, fun i b hb => ?_, fun i j g hi => absurd rfl hi⟩
      · rcases hb with hb | hb
        · exact (hf.hr.st b hb).1
        · obtain ⟨_, _, k3⟩ := hf.hr.blk 0 _ hH
          obtain ⟨_, o, k4, _⟩ := k3 b hb
          rcases Nat.lt_or_ge b E1.w.heap.size with h1 | h1
          · exact h1
          · rw [Array.getElem?_eq_none h1] at k4; cases k4
      · have hb : (none : Option ABlk) = some b := hb
        cases hb
    refine ⟨E2, rfl, ⟨hgo, hhr, fun i => ?_, fun i t ht => ?_⟩, ?_⟩
    · show none = postH [] [] i
      simp [postH]
    · have ht : (none : Option Nat) = some t := ht
      cases ht
    · show VRel E2 (.d (.list xs)) u
      exact .d _ _ (own_data hf.hr hB ho E2.S (fun b hb => .inl hb) (fun b hb => .inr hb))
theorem Meets.frz {C : Ctx} {f : FuncId} {ds : List D} {T : TypeId} {xs : List D} (h : Meets C f ds ⟨.own 0 0, [⟨0, T, .lst xs⟩]⟩) : Meets C f ds ⟨.d (.list xs), []⟩ := MeetsH.frz h
end Go.Vc

namespace Go.Vc
open Go Go.Proofs Go.RowKit
def ann_proof_words : Nat → List Nat := fun n => match n with  | _ => []
def vc_proof_words (_P : Ctx) (pre : List ABlk) (r : AV) (post : List PB) : Prop :=
  let h0 : Heap := numbered 0 pre
  ALLOC T_5_string [.d (.str []), .d (.str []), .d (.str []), .d (.str []), .d (.str [])] 24 h0 fun v0 h1 =>
  BUILD [(0, 1), (1, 1), (2, 1), (3, 1), (4, 1)] [.d (.str []), .d (.str []), .d (.str []), .d (.str []), .d (.str [])] [(0, (.d (.str [112, 97, 103, 101]))), (1, (.d (.str [108, 105, 110, 101]))), (2, (.d (.str [114, 101, 97, 100]))), (3, (.d (.str [109, 101, 110, 100]))), (4, (.d (.str [102, 97, 108, 108])))] fun v1 =>
  STORE 5 v0 v1 h1 fun h2 =>
  LOAD true 5 v0 h2 fun r3 =>
  POST r3 h2 pre r post
theorem vc_proof_words_eq (g : GG) (pre : List ABlk) (r : AV) (post : List PB) : vcFn2 (Tz g) false ann_proof_words Tryz.f99 pre [] (.ret r) post = vc_proof_words (Tz g) pre  r post := by kernel_rfl
theorem hf_proof_words : Tryz.prog.funcs[f_proof_words]? = some Tryz.f99 := by kernel_rfl
theorem ok_proof_words : fnVcOK Tryz.prog Tryz.f99 = true := by kernel_rfl
theorem nt_proof_words : Nat.ble 0 Tryz.f99.ntmps = true := by kernel_rfl
theorem meetsH_proof_words {g : GG} {pre : List ABlk} {r : AV} {post : List PB} (hk : Nat.ble pre.length 24 = true) (h : vc_proof_words (Tz g) pre  r post) : MeetsH (Tz g) f_proof_words pre [] (.ret r) post :=
  meetsH_of_vc (C := Tz g) ann_proof_words hf_proof_words ok_proof_words nt_proof_words hk (pn := false) (Eq.mpr ((vcFn2_eq _ _ _ _ _ _ _ _).trans (vc_proof_words_eq g pre  r post)) h)
theorem meets_proof_words {g : GG} {r : Res} (h : vc_proof_words (Tz g) []  r.val (r.bl.map .upd)) : Meets (Tz g) f_proof_words [] r := meetsH_proof_words rfl h
def ann_proof_told : Nat → List Nat := fun n => match n with | 15 => [8, 44, 45, 46] | _ => []
def vc_proof_told_k0 (P : Ctx) (pre : List ABlk) (r : AV) (post : List PB) (vs0 : List AV) (h2 : Heap) (next11 : List AV → Heap → Prop) : Prop :=
  BIN 0 .lss (nth vs0 3) (nth vs0 2) fun v1 =>
  COND v1
  (IADDR 1 T_int (nth vs0 1) (nth vs0 3) h2 fun v3 =>
  LOAD false 1 v3 h2 fun v4 =>
  CALL P f_strconv_Itoa [v4] 224 h2 (fun _ v6 h7 =>
  BIN 0 .add (.d (.str [32])) v6 fun v8 =>
  BIN 0 .add (nth vs0 0) v8 fun v9 =>
  BIN 0 .add (nth vs0 3) (.d (.num .i64 1)) fun v10 =>
  next11 [v9, (nth vs0 1), (nth vs0 2), v10] h7)
  (fun _ _ _ => False))
  (POST (nth vs0 0) h2 pre r post)
def vc_proof_told_k1 (P : Ctx) (pre : List ABlk) (r : AV) (post : List PB) (vs0 : List AV) (h2 : Heap) (next11 : List AV → Heap → Prop) : Prop :=
  BIN 0 .lss (nth vs0 3) (nth vs0 2) fun v1 =>
  COND v1
  (IADDR 1 T_int (nth vs0 1) (nth vs0 3) h2 fun v3 =>
  LOAD false 1 v3 h2 fun v4 =>
  CALL P f_strconv_Itoa [v4] 328 h2 (fun _ v6 h7 =>
  BIN 0 .add (.d (.str [32])) v6 fun v8 =>
  BIN 0 .add (nth vs0 0) v8 fun v9 =>
  BIN 0 .add (nth vs0 3) (.d (.num .i64 1)) fun v10 =>
  next11 [v9, (nth vs0 1), (nth vs0 2), v10] h7)
  (fun _ _ _ => False))
  (POST (nth vs0 0) h2 pre r post)
def vc_proof_told_k2 (P : Ctx) (pre : List ABlk) (r : AV) (post : List PB) (vs0 : List AV) (h2 : Heap) (next11 : List AV → Heap → Prop) : Prop :=
  BIN 0 .lss (nth vs0 3) (nth vs0 2) fun v1 =>
  COND v1
  (IADDR 1 T_int (nth vs0 1) (nth vs0 3) h2 fun v3 =>
  LOAD false 1 v3 h2 fun v4 =>
  CALL P f_strconv_Itoa [v4] 336 h2 (fun _ v6 h7 =>
  BIN 0 .add (.d (.str [32])) v6 fun v8 =>
  BIN 0 .add (nth vs0 0) v8 fun v9 =>
  BIN 0 .add (nth vs0 3) (.d (.num .i64 1)) fun v10 =>
  next11 [v9, (nth vs0 1), (nth vs0 2), v10] h7)
  (fun _ _ _ => False))
  (POST (nth vs0 0) h2 pre r post)
def vc_proof_told_k3 (P : Ctx) (pre : List ABlk) (r : AV) (post : List PB) (vs0 : List AV) (h2 : Heap) (next11 : List AV → Heap → Prop) : Prop :=
  BIN 0 .lss (nth vs0 3) (nth vs0 2) fun v1 =>
  COND v1
  (IADDR 1 T_int (nth vs0 1) (nth vs0 3) h2 fun v3 =>
  LOAD false 1 v3 h2 fun v4 =>
  CALL P f_strconv_Itoa [v4] 240 h2 (fun _ v6 h7 =>
  BIN 0 .add (.d (.str [32])) v6 fun v8 =>
  BIN 0 .add (nth vs0 0) v8 fun v9 =>
  BIN 0 .add (nth vs0 3) (.d (.num .i64 1)) fun v10 =>
  next11 [v9, (nth vs0 1), (nth vs0 2), v10] h7)
  (fun _ _ _ => False))
  (POST (nth vs0 0) h2 pre r post)
def vc_proof_told_k4 (P : Ctx) (pre : List ABlk) (r : AV) (post : List PB) (h0 : Heap) (v3 : AV) : Prop :=
  ALLOC T_proof_noted [.d (.num .i64 0), .zc] 128 h0 fun v1 h2 =>
  STORE 2 v1 v3 h2 fun h4 =>
  FADDR 0 v1 h4 fun v5 =>
  FADDR 0 v5 h4 fun v6 =>
  LOAD false 1 v6 h4 fun v7 =>
  BIN 0 .sub v7 (.d (.num .i64 1)) fun v8 =>
  BIN 0 .add (.d (.num .i64 2)) v8 fun v9 =>
  FADDR 0 v1 h4 fun v10 =>
  FADDR 1 v10 h4 fun v11 =>
  LOAD false 1 v11 h4 fun v12 =>
  ORDX [] [0, 1, 3, 7, 15, 0, 32, 96, 31, 511] [(0, wr h4 h4, (ids v1)), (1, wr h4 h4, (ids v5)), (2, wr h4 h4, (ids v6)), (5, wr h4 h4, (ids v1)), (6, wr h4 h4, (ids v10)), (7, wr h4 h4, (ids v11))] ∧
  CALL P f_proof_words [] 224 h4 (fun _ v14 h15 =>
  AIDX false 1 5 v14 v9 fun v16 =>
  LEN false v12 h15 fun v17 =>
  LOOP [v16, v12, v17, (.d (.num .i64 0))] h15 280 fun vs18 h19 next20 =>
  vc_proof_told_k2 P pre r post vs18 h19 next20)
  (fun _ _ _ => False)
def vc_proof_told_k5 (P : Ctx) (pre : List ABlk) (r : AV) (post : List PB) (h0 : Heap) : Prop :=
  CALL P f_proof_words [] 128 h0 (fun _ v2 h3 =>
  AIDX false 1 5 v2 (.d (.num .i64 0)) fun v4 =>
  LEN false .zc h3 fun v5 =>
  LOOP [v4, .zc, v5, (.d (.num .i64 0))] h3 184 fun vs6 h7 next8 =>
  vc_proof_told_k3 P pre r post vs6 h7 next8)
  (fun _ _ _ => False)
def vc_proof_told_k6 (P : Ctx) (pre : List ABlk) (r : AV) (post : List PB) (v0 : AV) (h1 : Heap) : Prop :=
  MKS T_int 1 [v0] 96 h1 fun v2 h3 =>
  CALL P f_proof_words [] 112 h3 (fun _ v5 h6 =>
  AIDX false 1 5 v5 (.d (.num .i64 0)) fun v7 =>
  LEN false v2 h6 fun v8 =>
  LOOP [v7, v2, v8, (.d (.num .i64 0))] h6 168 fun vs9 h10 next11 =>
  vc_proof_told_k0 P pre r post vs9 h10 next11)
  (fun _ _ _ => False)
def vc_proof_told_k7 (P : Ctx) (pre : List ABlk) (r : AV) (post : List PB) (a0 : AV) (h4 : Heap) : Prop :=
  TASS T_proof_set (mkAgg [.d (.num .i64 0), .d (.num .i64 0), .d (.num .i64 0)]) a0 fun v1 =>
  EXT v1 1 fun v2 =>
  EXT v1 0 fun v3 =>
  COND v2
  (ALLOC T_proof_set [.d (.num .i64 0), .d (.num .i64 0), .d (.num .i64 0)] 104 h4 fun v5 h6 =>
  STORE 3 v5 v3 h6 fun h7 =>
  FADDR 0 v5 h7 fun v8 =>
  FADDR 0 v8 h7 fun v9 =>
  LOAD false 1 v9 h7 fun v10 =>
  FADDR 0 v5 h7 fun v11 =>
  FADDR 1 v11 h7 fun v12 =>
  LOAD false 1 v12 h7 fun v13 =>
  FADDR 0 v5 h7 fun v14 =>
  FADDR 2 v14 h7 fun v15 =>
  LOAD false 1 v15 h7 fun v16 =>
  MKS T_int 1 [v10, v13, v16] 192 h7 fun v17 h18 =>
  ORDX [] [0, 1, 3, 0, 8, 24, 0, 64, 192, 511, 0, 2047] [(0, wr h7 h7, (ids v5)), (1, wr h7 h7, (ids v8)), (2, wr h7 h7, (ids v9)), (3, wr h7 h7, (ids v5)), (4, wr h7 h7, (ids v11)), (5, wr h7 h7, (ids v12)), (6, wr h7 h7, (ids v5)), (7, wr h7 h7, (ids v14)), (8, wr h7 h7, (ids v15)), (9, wr h7 h18, (ids.idsL [v10, v13, v16]))] ∧
  CALL P f_proof_words [] 216 h18 (fun _ v20 h21 =>
  AIDX false 1 5 v20 (.d (.num .i64 1)) fun v22 =>
  LEN false v17 h21 fun v23 =>
  LOOP [v22, v17, v23, (.d (.num .i64 0))] h21 272 fun vs24 h25 next26 =>
  vc_proof_told_k1 P pre r post vs24 h25 next26)
  (fun _ _ _ => False))
  (TASS T_proof_noted (mkAgg [.d (.num .i64 0), .zc]) a0 fun v27 =>
  EXT v27 1 fun v28 =>
  EXT v27 0 fun v29 =>
  COND v28
  (vc_proof_told_k4 P pre r post h4 v29)
  (vc_proof_told_k5 P pre r post h4))
def vc_proof_told (P : Ctx) (pre : List ABlk) (a0 : AV) (r : AV) (post : List PB) : Prop :=
  let h0 : Heap := numbered 0 pre
  TASS T_proof_head (.d (.num .i64 0)) a0 fun v12 =>
  EXT v12 1 fun v13 =>
  EXT v12 0 fun v14 =>
  COND v13
  (vc_proof_told_k6 P pre r post v14 h0)
  (vc_proof_told_k7 P pre r post a0 h0)
theorem vc_proof_told_eq (g : GG) (pre : List ABlk) (a0 : AV) (r : AV) (post : List PB) : vcFn2 (Tz g) false ann_proof_told Tryz.f72 pre [a0] (.ret r) post = vc_proof_told (Tz g) pre a0 r post := by kernel_rfl
theorem hf_proof_told : Tryz.prog.funcs[f_proof_told]? = some Tryz.f72 := by kernel_rfl
theorem ok_proof_told : fnVcOK Tryz.prog Tryz.f72 = true := by kernel_rfl
theorem nt_proof_told : Nat.ble 1 Tryz.f72.ntmps = true := by kernel_rfl
theorem meetsH_proof_told {g : GG} {pre : List ABlk} {a0 : AV} {r : AV} {post : List PB} (hk : Nat.ble pre.length 24 = true) (h : vc_proof_told (Tz g) pre a0 r post) : MeetsH (Tz g) f_proof_told pre [a0] (.ret r) post :=
  meetsH_of_vc (C := Tz g) ann_proof_told hf_proof_told ok_proof_told nt_proof_told hk (pn := false) (Eq.mpr ((vcFn2_eq _ _ _ _ _ _ _ _).trans (vc_proof_told_eq g pre a0 r post)) h)
theorem meets_proof_told {g : GG} {a0 : D} {r : Res} (h : vc_proof_told (Tz g) [] (.d a0) r.val (r.bl.map .upd)) : Meets (Tz g) f_proof_told [a0] r := meetsH_proof_told rfl h
def ann_proof_text : Nat → List Nat := fun n => match n with | 3 => [1, 3, 18, 19, 20] | 8 => [3, 33, 34, 35] | 14 => [3, 8, 47, 48, 49] | 17 => [3, 8, 9, 10, 47, 48, 49, 55, 56] | _ => []
def vc_proof_text_k0 (_P : Ctx) (_pre : List ABlk) (_r : AV) (_post : List PB) (vs0 : List AV) (next10 : List AV → Heap → Prop) (h11 : Heap) (next13 : List AV → Heap → Prop) : Prop :=
  BIN 0 .lss (nth vs0 8) (nth vs0 7) fun v1 =>
  COND v1
  (SIDX (nth vs0 3) (nth vs0 8) fun v2 =>
  CONVI .i64 v2 fun v3 =>
  BIN 0 .add (nth vs0 8) (.d (.num .i64 1)) fun v4 =>
  BIN 0 .mul v3 v4 fun v5 =>
  BIN 0 .add (nth vs0 2) (.d (.num .i64 1)) fun v6 =>
  BIN 0 .mul v5 v6 fun v7 =>
  BIN 0 .add (nth vs0 1) v7 fun v8 =>
  BIN 0 .add (nth vs0 8) (.d (.num .i64 1)) fun v9 =>
  next10 [(nth vs0 0), v8, (nth vs0 2), (nth vs0 3), (nth vs0 4), (nth vs0 5), (nth vs0 6), (nth vs0 7), v9] h11)
  (BIN 0 .add (nth vs0 6) (.d (.num .i64 1)) fun v12 =>
  next13 [(nth vs0 0), (nth vs0 1), (nth vs0 4), (nth vs0 5), v12] h11)
def vc_proof_text_k1 (P : Ctx) (pre : List ABlk) (r : AV) (post : List PB) (v0 : AV) (v1 : AV) (h3 : Heap) (vs6 : List AV) : Prop :=
  BIN 0 .add v0 v1 fun v2 =>
  MKS T_string 1 [v2] 368 h3 fun v4 h5 =>
  APP T_string 1 (nth vs6 0) v4 376 h5 fun v7 h8 =>
  CALL P f_strings_Join [v7, (.d (.str [10]))] 400 h8 (fun _ v10 h11 =>
  BIN 0 .add v10 (.d (.str [10])) fun v12 =>
  POST v12 h11 pre r post)
  (fun _ _ _ => False)
def vc_proof_text_k2 (P : Ctx) (pre : List ABlk) (r : AV) (post : List PB) (v0 : AV) (v2 : AV) (h5 : Heap) (vs14 : List AV) : Prop :=
  BIN 0 .add (.d (.str [101, 110, 100, 32])) v0 fun v1 =>
  BIN 0 .quo v2 (.d (.num .i64 10)) fun v3 =>
  BIN 0 .rem v3 (.d (.num .i64 10)) fun v4 =>
  CALL P f_strconv_Itoa [v4] 320 h5 (fun _ v7 h8 =>
  BIN 0 .add v1 v7 fun v9 =>
  BIN 0 .rem v2 (.d (.num .i64 10)) fun v10 =>
  CALL P f_strconv_Itoa [v10] 352 h8 (fun _ v12 h13 =>
  vc_proof_text_k1 P pre r post v9 v12 h13 vs14)
  (fun _ _ _ => False))
  (fun _ _ _ => False)
def vc_proof_text_k3 (P : Ctx) (pre : List ABlk) (r : AV) (post : List PB) (vs0 : List AV) (h2 : Heap) (next9 : List AV → Heap → Prop) : Prop :=
  BIN 0 .lss (nth vs0 4) (nth vs0 3) fun v1 =>
  COND v1
  (IADDR 1 T_string (nth vs0 2) (nth vs0 4) h2 fun v3 =>
  LOAD false 1 v3 h2 fun v4 =>
  LEN true v4 h2 fun v5 =>
  LOOP [(nth vs0 0), (nth vs0 1), (nth vs0 4), v4, (nth vs0 2), (nth vs0 3), (nth vs0 4), v5, (.d (.num .i64 0))] h2 296 fun vs6 h7 next8 =>
  vc_proof_text_k0 P pre r post vs6 next8 h7 next9)
  (BIN 0 .rem (nth vs0 1) (.d (.num .i64 269)) fun v10 =>
  BIN 0 .quo v10 (.d (.num .i64 100)) fun v11 =>
  CALL P f_strconv_Itoa [v11] 280 h2 (fun _ v13 h14 =>
  vc_proof_text_k2 P pre r post v13 v10 h14 vs0)
  (fun _ _ _ => False))
def vc_proof_text_k4 (P : Ctx) (pre : List ABlk) (r : AV) (post : List PB) (vs0 : List AV) (h2 : Heap) (next18 : List AV → Heap → Prop) : Prop :=
  BIN 0 .lss (nth vs0 3) (nth vs0 2) fun v1 =>
  COND v1
  (IADDR 2 T_api_ProofEntry (nth vs0 1) (nth vs0 3) h2 fun v3 =>
  LOAD true 2 v3 h2 fun v4 =>
  ALLOC T_api_ProofEntry [.d (.num .i64 0), .zc] 200 h2 fun v5 h6 =>
  STORE 2 v5 v4 h6 fun h7 =>
  LOAD true 2 v5 h7 fun v8 =>
  BUILD [(0, 2)] [.d (.num .i64 0), .zc] [(0, v8)] fun v9 =>
  CALL P f_proof_told [(.iface T_proof_noted v9)] 248 h7 (fun _ v11 h12 =>
  MKS T_string 1 [v11] 256 h12 fun v13 h14 =>
  APP T_string 1 (nth vs0 0) v13 264 h14 fun v15 h16 =>
  BIN 0 .add (nth vs0 3) (.d (.num .i64 1)) fun v17 =>
  next18 [v15, (nth vs0 1), (nth vs0 2), v17] h16)
  (fun _ _ _ => False))
  (LEN false (nth vs0 0) h2 fun v19 =>
  LOOP [(nth vs0 0), (.d (.num .i64 0)), (nth vs0 0), v19, (.d (.num .i64 0))] h2 216 fun vs20 h21 next22 =>
  vc_proof_text_k3 P pre r post vs20 h21 next22)
def vc_proof_text_k5 (P : Ctx) (pre : List ABlk) (r : AV) (post : List PB) (vs0 : List AV) (h2 : Heap) (next18 : List AV → Heap → Prop) : Prop :=
  BIN 0 .lss (nth vs0 4) (nth vs0 3) fun v1 =>
  COND v1
  (IADDR 3 T_api_ProofLine (nth vs0 2) (nth vs0 4) h2 fun v3 =>
  LOAD true 3 v3 h2 fun v4 =>
  ALLOC T_api_ProofLine [.d (.num .i64 0), .d (.num .i64 0), .d (.num .i64 0)] 152 h2 fun v5 h6 =>
  STORE 3 v5 v4 h6 fun h7 =>
  LOAD true 3 v5 h7 fun v8 =>
  BUILD [(0, 3)] [.d (.num .i64 0), .d (.num .i64 0), .d (.num .i64 0)] [(0, v8)] fun v9 =>
  CALL P f_proof_told [(.iface T_proof_set v9)] 200 h7 (fun _ v11 h12 =>
  MKS T_string 1 [v11] 208 h12 fun v13 h14 =>
  APP T_string 1 (nth vs0 1) v13 216 h14 fun v15 h16 =>
  BIN 0 .add (nth vs0 4) (.d (.num .i64 1)) fun v17 =>
  next18 [(nth vs0 0), v15, (nth vs0 2), (nth vs0 3), v17] h16)
  (fun _ _ _ => False))
  (FADDR 2 (nth vs0 0) h2 fun v19 =>
  LOAD false 1 v19 h2 fun v20 =>
  LEN false v20 h2 fun v21 =>
  LOOP [(nth vs0 1), v20, v21, (.d (.num .i64 0))] h2 168 fun vs22 h23 next24 =>
  vc_proof_text_k4 P pre r post vs22 h23 next24)
def vc_proof_text (P : Ctx) (pre : List ABlk) (a0 : AV) (r : AV) (post : List PB) : Prop :=
  let h0 : Heap := numbered 0 pre
  BOX T_api_ProofPage a0 24 h0 fun v1 h1 =>
  FADDR 0 v1 h1 fun v12 =>
  LOAD false 1 v12 h1 fun v13 =>
  CALL P f_proof_told [(.iface T_proof_head v13)] 64 h1 (fun _ v15 h2 =>
  MKS T_string 1 [v15] 72 h2 fun v16 h4 =>
  FADDR 1 v1 h4 fun v17 =>
  LOAD false 1 v17 h4 fun v18 =>
  LEN false v18 h4 fun v19 =>
  LOOP [v1, v16, v18, v19, (.d (.num .i64 0))] h4 120 fun vs5 h6 next5 =>
  vc_proof_text_k5 P pre r post vs5 h6 next5)
  (fun _ _ _ => False)
theorem vc_proof_text_eq (g : GG) (pre : List ABlk) (a0 : AV) (r : AV) (post : List PB) : vcFn2 (Tz g) false ann_proof_text Tryz.f33 pre [a0] (.ret r) post = vc_proof_text (Tz g) pre a0 r post := by kernel_rfl
theorem hf_proof_text : Tryz.prog.funcs[f_proof_text]? = some Tryz.f33 := by kernel_rfl
theorem ok_proof_text : fnVcOK Tryz.prog Tryz.f33 = true := by kernel_rfl
theorem nt_proof_text : Nat.ble 1 Tryz.f33.ntmps = true := by kernel_rfl
theorem meetsH_proof_text {g : GG} {pre : List ABlk} {a0 : AV} {r : AV} {post : List PB} (hk : Nat.ble pre.length 24 = true) (h : vc_proof_text (Tz g) pre a0 r post) : MeetsH (Tz g) f_proof_text pre [a0] (.ret r) post :=
  meetsH_of_vc (C := Tz g) ann_proof_text hf_proof_text ok_proof_text nt_proof_text hk (pn := false) (Eq.mpr ((vcFn2_eq _ _ _ _ _ _ _ _).trans (vc_proof_text_eq g pre a0 r post)) h)
theorem meets_proof_text {g : GG} {a0 : D} {r : Res} (h : vc_proof_text (Tz g) [] (.d a0) r.val (r.bl.map .upd)) : Meets (Tz g) f_proof_text [a0] r := meetsH_proof_text rfl h
def ann_proof_Print : Nat → List Nat := fun n => match n with  | _ => []
def vc_proof_Print (P : Ctx) (pre : List ABlk) (a0 : AV) (r : AV) (post : List PB) : Prop :=
  let h0 : Heap := numbered 0 pre
  BOX T_api_ProofPage a0 24 h0 fun v1 h1 =>
  LOAD true 3 v1 h1 fun v4 =>
  CALL P f_proof_isPage [v4] 56 h1 (fun _ v5 h2 =>
  NOT v5 fun v6 =>
  COND v6
  (POST (.tup [(.d (.str [])), (.d (.num .i64 2))]) h2 pre r post)
  (LOAD true 3 v1 h2 fun v7 =>
  CALL P f_proof_text [v7] 80 h2 (fun _ v8 h4 =>
  POST (.tup [v8, (.d (.num .i64 0))]) h4 pre r post)
  (fun _ _ _ => False)))
  (fun _ _ _ => False)
theorem vc_proof_Print_eq (g : GG) (pre : List ABlk) (a0 : AV) (r : AV) (post : List PB) : vcFn2 (Tz g) false ann_proof_Print Tryz.f6 pre [a0] (.ret r) post = vc_proof_Print (Tz g) pre a0 r post := by kernel_rfl
theorem hf_proof_Print : Tryz.prog.funcs[f_proof_Print]? = some Tryz.f6 := by kernel_rfl
theorem ok_proof_Print : fnVcOK Tryz.prog Tryz.f6 = true := by kernel_rfl
theorem nt_proof_Print : Nat.ble 1 Tryz.f6.ntmps = true := by kernel_rfl
theorem meetsH_proof_Print {g : GG} {pre : List ABlk} {a0 : AV} {r : AV} {post : List PB} (hk : Nat.ble pre.length 24 = true) (h : vc_proof_Print (Tz g) pre a0 r post) : MeetsH (Tz g) f_proof_Print pre [a0] (.ret r) post :=
  meetsH_of_vc (C := Tz g) ann_proof_Print hf_proof_Print ok_proof_Print nt_proof_Print hk (pn := false) (Eq.mpr ((vcFn2_eq _ _ _ _ _ _ _ _).trans (vc_proof_Print_eq g pre a0 r post)) h)
theorem meets_proof_Print {g : GG} {a0 : D} {r : Res} (h : vc_proof_Print (Tz g) [] (.d a0) r.val (r.bl.map .upd)) : Meets (Tz g) f_proof_Print [a0] r := meetsH_proof_Print rfl h
def ann_proof_many : Nat → List Nat := fun n => match n with  | _ => []
def vc_proof_many (_P : Ctx) (pre : List ABlk) (a0 : AV) (r : AV) (post : List PB) : Prop :=
  let h0 : Heap := numbered 0 pre
  BIN 0 .eql a0 (.d (.num .i64 1)) fun v6 =>
  COND v6
  (POST (.tup [(.d (.num .i64 3)), (.d (.num .i64 1))]) h0 pre r post)
  (BIN 0 .eql a0 (.d (.num .i64 2)) fun v8 =>
  COND v8
  (POST (.tup [(.d (.num .i64 4)), (.d (.num .i64 4))]) h0 pre r post)
  (BIN 0 .eql a0 (.d (.num .i64 3)) fun v10 =>
  COND v10
  (POST (.tup [(.d (.num .i64 3)), (.d (.num .i64 2))]) h0 pre r post)
  (POST (.tup [(.d (.num .i64 1)), (.d (.num .i64 1))]) h0 pre r post)))
theorem vc_proof_many_eq (g : GG) (pre : List ABlk) (a0 : AV) (r : AV) (post : List PB) : vcFn2 (Tz g) false ann_proof_many Tryz.f105 pre [a0] (.ret r) post = vc_proof_many (Tz g) pre a0 r post := by kernel_rfl
theorem hf_proof_many : Tryz.prog.funcs[f_proof_many]? = some Tryz.f105 := by kernel_rfl
theorem ok_proof_many : fnVcOK Tryz.prog Tryz.f105 = true := by kernel_rfl
theorem nt_proof_many : Nat.ble 1 Tryz.f105.ntmps = true := by kernel_rfl
theorem meetsH_proof_many {g : GG} {pre : List ABlk} {a0 : AV} {r : AV} {post : List PB} (hk : Nat.ble pre.length 24 = true) (h : vc_proof_many (Tz g) pre a0 r post) : MeetsH (Tz g) f_proof_many pre [a0] (.ret r) post :=
  meetsH_of_vc (C := Tz g) ann_proof_many hf_proof_many ok_proof_many nt_proof_many hk (pn := false) (Eq.mpr ((vcFn2_eq _ _ _ _ _ _ _ _).trans (vc_proof_many_eq g pre a0 r post)) h)
theorem meets_proof_many {g : GG} {a0 : D} {r : Res} (h : vc_proof_many (Tz g) [] (.d a0) r.val (r.bl.map .upd)) : Meets (Tz g) f_proof_many [a0] r := meetsH_proof_many rfl h
def ann_ref09_SamePages : Nat → List Nat := fun n => match n with | 4 => [2, 3, 5] | 9 => [2, 3, 6] | _ => []
def vc_ref09_SamePages_k0 (_P : Ctx) (pre : List ABlk) (r : AV) (post : List PB) (v0 : AV) (h2 : Heap) (vs3 : List AV) (v4 : AV) (v5 : AV) (v6 : AV) (v7 : AV) (v8 : AV) (v9 : AV) (v10 : AV) (v11 : AV) (v12 : AV) (v13 : AV) (v14 : AV) (v15 : AV) (v16 : AV) (v17 : AV) (v18 : AV) (v19 : AV) (h20 : Heap) (rd21 : List Nat) (next23 : List AV → Heap → Prop) : Prop :=
  NOT v0 fun v1 =>
  ORDX [] [0, 1, 0, 7, 15, 31, 0, 64, 0, 448, 960, 1984, 4095, 8191, 16383, 32767, 16383, 131071, 262143, 524287, 16383, 1064959, 16383, 7356415, 15745023, 32522239, 67108863, 134217727, 268435455] [(0, wr h2 h2, (ids (nth vs3 0))), (1, wr h2 h2, (ids v4)), (3, wr h2 h2, (ids v5)), (4, wr h2 h2, (ids v6)), (5, wr h2 h2, (ids v7)), (6, wr h2 h2, (ids (nth vs3 1))), (7, wr h2 h2, (ids v8)), (9, wr h2 h2, (ids v9)), (10, wr h2 h2, (ids v10)), (11, wr h2 h2, (ids v11)), (14, wr h2 h2, (ids (nth vs3 0))), (15, wr h2 h2, (ids v12)), (17, wr h2 h2, (ids v13)), (18, wr h2 h2, (ids v14)), (19, wr h2 h2, (ids v15)), (20, wr h2 h2, (ids (nth vs3 1))), (21, wr h2 h2, (ids v16)), (23, wr h2 h2, (ids v17)), (24, wr h2 h2, (ids v18)), (25, wr h2 h2, (ids v19)), (26, wr h2 h20, rd21)] ∧
  COND v1
  (POST (.d (.bool false)) h20 pre r post)
  (BIN 0 .add (nth vs3 2) (.d (.num .i64 1)) fun v22 =>
  next23 [(nth vs3 0), (nth vs3 1), v22] h20)
def vc_ref09_SamePages_k1 (_P : Ctx) (pre : List ABlk) (r : AV) (post : List PB) (h0 : Heap) (vs1 : List AV) (v2 : AV) (v3 : AV) (v4 : AV) (v5 : AV) (v6 : AV) (v7 : AV) (v8 : AV) (v9 : AV) : Prop :=
  ORDX [] [0, 1, 0, 7, 15, 31, 0, 64, 0, 448, 960, 1984, 4095, 8191, 16383, 32767, 16383, 131071, 262143, 524287, 16383, 1064959, 16383, 7356415, 15745023, 32522239, 67108863, 134217727, 268435455] [(0, wr h0 h0, (ids (nth vs1 0))), (1, wr h0 h0, (ids v2)), (3, wr h0 h0, (ids v3)), (4, wr h0 h0, (ids v4)), (5, wr h0 h0, (ids v5)), (6, wr h0 h0, (ids (nth vs1 1))), (7, wr h0 h0, (ids v6)), (9, wr h0 h0, (ids v7)), (10, wr h0 h0, (ids v8)), (11, wr h0 h0, (ids v9))] ∧
  POST (.d (.bool false)) h0 pre r post
def vc_ref09_SamePages_k2 (P : Ctx) (pre : List ABlk) (r : AV) (post : List PB) (vs0 : List AV) (h1 : Heap) (v15 : AV) (v16 : AV) (v17 : AV) (v18 : AV) (v19 : AV) (v20 : AV) (v21 : AV) (v22 : AV) (next23 : List AV → Heap → Prop) : Prop :=
  FADDR 2 (nth vs0 0) h1 fun v2 =>
  LOAD false 1 v2 h1 fun v3 =>
  IADDR 2 T_api_ProofEntry v3 (nth vs0 2) h1 fun v4 =>
  FADDR 1 v4 h1 fun v5 =>
  LOAD false 1 v5 h1 fun v6 =>
  FADDR 2 (nth vs0 1) h1 fun v7 =>
  LOAD false 1 v7 h1 fun v8 =>
  IADDR 2 T_api_ProofEntry v8 (nth vs0 2) h1 fun v9 =>
  FADDR 1 v9 h1 fun v10 =>
  LOAD false 1 v10 h1 fun v11 =>
  CALL P f_ref01_Same [v6, v11] 552 h1 (fun rd12 v13 h14 =>
  vc_ref09_SamePages_k0 P pre r post v13 h1 vs0 v15 v16 v17 v18 v19 v20 v21 v22 v2 v3 v4 v5 v7 v8 v9 v10 h14 rd12 next23)
  (fun _ _ _ => False)
def vc_ref09_SamePages_k3 (P : Ctx) (pre : List ABlk) (r : AV) (post : List PB) (vs0 : List AV) (h1 : Heap) (next17 : List AV → Heap → Prop) : Prop :=
  FADDR 2 (nth vs0 0) h1 fun v2 =>
  LOAD false 1 v2 h1 fun v3 =>
  LEN false v3 h1 fun v4 =>
  BIN 0 .lss (nth vs0 2) v4 fun v5 =>
  COND v5
  (FADDR 2 (nth vs0 0) h1 fun v6 =>
  LOAD false 1 v6 h1 fun v7 =>
  IADDR 2 T_api_ProofEntry v7 (nth vs0 2) h1 fun v8 =>
  FADDR 0 v8 h1 fun v9 =>
  LOAD false 1 v9 h1 fun v10 =>
  FADDR 2 (nth vs0 1) h1 fun v11 =>
  LOAD false 1 v11 h1 fun v12 =>
  IADDR 2 T_api_ProofEntry v12 (nth vs0 2) h1 fun v13 =>
  FADDR 0 v13 h1 fun v14 =>
  LOAD false 1 v14 h1 fun v15 =>
  BIN 0 .neq v10 v15 fun v16 =>
  CONDG v16
  (vc_ref09_SamePages_k1 P pre r post h1 vs0 v6 v7 v8 v9 v11 v12 v13 v14)
  (vc_ref09_SamePages_k2 P pre r post vs0 h1 v6 v7 v8 v9 v11 v12 v13 v14 next17))
  (POST (.d (.bool true)) h1 pre r post)
def vc_ref09_SamePages_k4 (P : Ctx) (pre : List ABlk) (r : AV) (post : List PB) (vs0 : List AV) (h1 : Heap) (next16 : List AV → Heap → Prop) : Prop :=
  FADDR 1 (nth vs0 0) h1 fun v2 =>
  LOAD false 1 v2 h1 fun v3 =>
  LEN false v3 h1 fun v4 =>
  BIN 0 .lss (nth vs0 2) v4 fun v5 =>
  COND v5
  (FADDR 1 (nth vs0 0) h1 fun v6 =>
  LOAD false 1 v6 h1 fun v7 =>
  IADDR 3 T_api_ProofLine v7 (nth vs0 2) h1 fun v8 =>
  LOAD true 3 v8 h1 fun v9 =>
  FADDR 1 (nth vs0 1) h1 fun v10 =>
  LOAD false 1 v10 h1 fun v11 =>
  IADDR 3 T_api_ProofLine v11 (nth vs0 2) h1 fun v12 =>
  LOAD true 3 v12 h1 fun v13 =>
  BIN 1003 .neq v9 v13 fun v14 =>
  ORDX [] [0, 1, 0, 7, 15, 0, 32, 0, 224, 480, 1023] [(0, wr h1 h1, (ids (nth vs0 0))), (1, wr h1 h1, (ids v6)), (3, wr h1 h1, (ids v7)), (4, wr h1 h1, (ids v8)), (5, wr h1 h1, (ids (nth vs0 1))), (6, wr h1 h1, (ids v10)), (8, wr h1 h1, (ids v11)), (9, wr h1 h1, (ids v12))] ∧
  COND v14
  (POST (.d (.bool false)) h1 pre r post)
  (BIN 0 .add (nth vs0 2) (.d (.num .i64 1)) fun v15 =>
  next16 [(nth vs0 0), (nth vs0 1), v15] h1))
  (LOOP [(nth vs0 0), (nth vs0 1), (.d (.num .i64 0))] h1 296 fun vs17 h18 next19 =>
  vc_ref09_SamePages_k3 P pre r post vs17 h18 next19)
def vc_ref09_SamePages (P : Ctx) (pre : List ABlk) (a0 a1 : AV) (r : AV) (post : List PB) : Prop :=
  let h0 : Heap := numbered 0 pre
  BOX T_api_ProofPage a0 24 h0 fun v2 h1 =>
  BOX T_api_ProofPage a1 32 h1 fun v3 h2 =>
  FADDR 0 v2 h2 fun v7 =>
  LOAD false 1 v7 h2 fun v8 =>
  FADDR 0 v3 h2 fun v9 =>
  LOAD false 1 v9 h2 fun v10 =>
  BIN 0 .neq v8 v10 fun v11 =>
  CONDG v11
  (POST (.d (.bool false)) h2 pre r post)
  (FADDR 1 v2 h2 fun v13 =>
  LOAD false 1 v13 h2 fun v14 =>
  LEN false v14 h2 fun v15 =>
  FADDR 1 v3 h2 fun v16 =>
  LOAD false 1 v16 h2 fun v17 =>
  LEN false v17 h2 fun v18 =>
  BIN 0 .neq v15 v18 fun v19 =>
  CONDG v19
  (POST (.d (.bool false)) h2 pre r post)
  (FADDR 2 v2 h2 fun v22 =>
  LOAD false 1 v22 h2 fun v23 =>
  LEN false v23 h2 fun v24 =>
  FADDR 2 v3 h2 fun v25 =>
  LOAD false 1 v25 h2 fun v26 =>
  LEN false v26 h2 fun v27 =>
  BIN 0 .neq v24 v27 fun v28 =>
  COND v28
  (POST (.d (.bool false)) h2 pre r post)
  (LOOP [v2, v3, (.d (.num .i64 0))] h2 240 fun vs3 h4 next3 =>
  vc_ref09_SamePages_k4 P pre r post vs3 h4 next3)))
theorem vc_ref09_SamePages_eq (g : GG) (pre : List ABlk) (a0 a1 : AV) (r : AV) (post : List PB) : vcFn2 (Tz g) false ann_ref09_SamePages Tryz.f8 pre [a0, a1] (.ret r) post = vc_ref09_SamePages (Tz g) pre a0 a1 r post := by kernel_rfl
theorem hf_ref09_SamePages : Tryz.prog.funcs[f_ref09_SamePages]? = some Tryz.f8 := by kernel_rfl
theorem ok_ref09_SamePages : fnVcOK Tryz.prog Tryz.f8 = true := by kernel_rfl
theorem nt_ref09_SamePages : Nat.ble 2 Tryz.f8.ntmps = true := by kernel_rfl
theorem meetsH_ref09_SamePages {g : GG} {pre : List ABlk} {a0 a1 : AV} {r : AV} {post : List PB} (hk : Nat.ble pre.length 24 = true) (h : vc_ref09_SamePages (Tz g) pre a0 a1 r post) : MeetsH (Tz g) f_ref09_SamePages pre [a0, a1] (.ret r) post :=
  meetsH_of_vc (C := Tz g) ann_ref09_SamePages hf_ref09_SamePages ok_ref09_SamePages nt_ref09_SamePages hk (pn := false) (Eq.mpr ((vcFn2_eq _ _ _ _ _ _ _ _).trans (vc_ref09_SamePages_eq g pre a0 a1 r post)) h)
theorem meets_ref09_SamePages {g : GG} {a0 a1 : D} {r : Res} (h : vc_ref09_SamePages (Tz g) [] (.d a0) (.d a1) r.val (r.bl.map .upd)) : Meets (Tz g) f_ref09_SamePages [a0, a1] r := meetsH_ref09_SamePages rfl h
end Go.Vc

namespace Go.Vc
open Go
abbrev Str := List UInt8
theorem digs_small {u : Nat} (h : u < 10) : Lib.decDigits u = [UInt8.ofNat (48 + u)] := by rw [Lib.decDigits, dif_pos h]
theorem digs_step {u : Nat} (h : ¬ u < 10) : Lib.decDigits u = Lib.decDigits (u / 10) ++ [UInt8.ofNat (48 + u % 10)] := by rw [Lib.decDigits, dif_neg h]
def isD (c : UInt8) : Bool := decide (48 ≤ c.toNat) && decide (c.toNat ≤ 57)
def valS (s : Str) : Nat := s.foldl (fun n c => 10 * n + (c.toNat - 48)) 0
theorem dig_toNat {k : Nat} (h : k < 10) : (UInt8.ofNat (48 + k)).toNat = 48 + k := by
  rw [UInt8.toNat_ofNat']
  omega
theorem digs_ok : ∀ (n u : Nat), u ≤ n → (Lib.decDigits u).all isD = true ∧ valS (Lib.decDigits u) = u ∧ 1 ≤ (Lib.decDigits u).length
  | 0, u, h => by
    rw [digs_small (by omega)]
    have hd := dig_toNat (k := u) (by omega)
    refine ⟨?_, ?_, by simp⟩
    · simp only [List.all_cons, List.all_nil, Bool.and_true, isD, hd]; simp; omega
    · simp only [valS, List.foldl_cons, List.foldl_nil, hd]; omega
  | n + 1, u, h => by
    by_cases hu : u < 10
    · rw [digs_small hu]
      have hd := dig_toNat (k := u) (by omega)
      refine ⟨?_, ?_, by simp⟩
      · simp only [List.all_cons, List.all_nil, Bool.and_true, isD, hd]; simp; omega
      · simp only [valS, List.foldl_cons, List.foldl_nil, hd]; omega
    · obtain ⟨h1, h2, h3⟩ := digs_ok n (u / 10) (by omega)
      have hd := dig_toNat (k := u % 10) (by omega)
      rw [digs_step hu]
      refine ⟨?_, ?_, by simp⟩
      · rw [List.all_append, h1]
        simp only [List.all_cons, List.all_nil, Bool.and_true, Bool.true_and, isD, hd]; simp; omega
      · unfold valS at h2 ⊢
        rw [List.foldl_append, h2]
        simp only [List.foldl_cons, List.foldl_nil, hd]; omega
theorem digs_len : ∀ (k u : Nat), u < 10 ^ (k + 1) → (Lib.decDigits u).length ≤ k + 1
  | 0, u, h => by rw [digs_small (by omega)]; simp
  | k + 1, u, h => by
    by_cases hu : u < 10
    · rw [digs_small hu]; simp
    · have := digs_len k (u / 10) (by rw [Nat.pow_succ] at h; omega)
      rw [digs_step hu]; simp; omega
theorem valS_lt : ∀ (s : Str) (n : Nat), s.all isD = true → s.foldl (fun n c => 10 * n + (c.toNat - 48)) n < (n + 1) * 10 ^ s.length
  | [], n, _ => by simp
  | c :: r, n, h => by
    simp only [List.all_cons, Bool.and_eq_true] at h
    have ih := valS_lt r (10 * n + (c.toNat - 48)) h.2
    simp only [isD, Bool.and_eq_true, decide_eq_true_eq] at h
    refine Nat.lt_of_lt_of_le ih ?_
    simp only [List.length_cons, Nat.pow_succ]
    rw [Nat.mul_comm (10 ^ r.length) 10, ← Nat.mul_assoc]
    exact Nat.mul_le_mul_right _ (by omega)
theorem itoaX_nonneg (n : Nat) (h : n ≤ 1000000000) : itoaX (n : Int) = Lib.decDigits n := by
  rw [itoaX_eq (by omega) (by omega)]
  unfold Lib.itoa
  rw [if_neg (by omega)]
  simp
theorem itoaX_neg (n : Nat) (h0 : 0 < n) (h : n ≤ 1000000000) : itoaX (-(n : Int)) = 45 :: Lib.decDigits n := by
  rw [itoaX_eq (by omega) (by omega)]
  unfold Lib.itoa
  rw [if_pos (by omega)]
  have : (-(n : Int)).natAbs = n := by omega
  rw [this]
def cutM (w : Str) : Bool × Str := match w with
  | [] => (false, [])
  | c :: r => match decide (c = 45) with | true => (true, r) | false => (false, c :: r)
def goodD (d : Nat) (s : Str) : Bool := decide (1 ≤ s.length) && (decide (s.length ≤ d) && s.all isD)
def sgnI (m : Bool) (n : Nat) : Int := match m with | true => -(n : Int) | false => (n : Int)
def numR (d : Nat) (w : Str) : Option Int := match goodD d (cutM w).2 && decide (itoaX (sgnI (cutM w).1 (valS (cutM w).2)) = w) with | true => some (sgnI (cutM w).1 (valS (cutM w).2)) | false => none
theorem valS_bound {d : Nat} {s : Str} (h : goodD d s = true) : valS s < 10 ^ d := by
  simp only [goodD, Bool.and_eq_true, decide_eq_true_eq] at h
  have := valS_lt s 0 h.2.2
  simp only [Nat.zero_add, Nat.one_mul] at this
  exact Nat.lt_of_lt_of_le this (Nat.pow_le_pow_right (by omega) h.2.1)
theorem numR_some {d : Nat} (_hd : d ≤ 9) {w : Str} {n : Int} (h : numR d w = some n) : itoaX n = w ∧ -((10 ^ d : Nat) : Int) < n ∧ n < ((10 ^ d : Nat) : Int) := by
  unfold numR at h
  split at h
  · rename_i hc
    simp only [Bool.and_eq_true, decide_eq_true_eq] at hc
    injection h with h
    have hb := valS_bound hc.1
    rw [← h]
    refine ⟨hc.2, ?_⟩
    cases (cutM w).1 <;> simp only [sgnI] <;> omega
  · cases h
theorem dig_not45 {c : UInt8} (h : isD c = true) : c ≠ 45 := by
  rintro rfl
  simp [isD] at h
theorem cutM_digs {s : Str} (h : s.all isD = true) : cutM s = (false, s) := by
  cases s with
  | nil => rfl
  | cons c r =>
    simp only [List.all_cons, Bool.and_eq_true] at h
    simp only [cutM, decide_eq_false (dig_not45 h.1)]
theorem numR_itoa {d : Nat} (hd1 : 1 ≤ d) (hd : d ≤ 9) {n : Int} (h1 : -((10 ^ d : Nat) : Int) < n) (h2 : n < ((10 ^ d : Nat) : Int)) : numR d (itoaX n) = some n := by
  have hpow : 10 ^ d ≤ 10 ^ 9 := Nat.pow_le_pow_right (by omega) hd
  obtain ⟨k, rfl⟩ : ∃ k, d = k + 1 := ⟨d - 1, by omega⟩
  rcases (by omega : 0 ≤ n ∨ n < 0) with h0 | h0
  · obtain ⟨u, rfl⟩ : ∃ u : Nat, n = u := ⟨n.toNat, by omega⟩
    have e := itoaX_nonneg u (by omega)
    obtain ⟨g1, g2, g3⟩ := digs_ok u u (Nat.le_refl _)
    have g4 := digs_len k u (by omega)
    have hc := cutM_digs g1
    unfold numR
    rw [e, hc]
    simp only [g2, sgnI, e, goodD, g1, decide_eq_true g3, decide_eq_true g4, Bool.and_true, decide_true]
  · obtain ⟨u, rfl⟩ : ∃ u : Nat, n = -(u : Int) := ⟨n.natAbs, by omega⟩
    have e := itoaX_neg u (by omega) (by omega)
    obtain ⟨g1, g2, g3⟩ := digs_ok u u (Nat.le_refl _)
    have g4 := digs_len k u (by omega)
    have hc : cutM (45 :: Lib.decDigits u) = (true, Lib.decDigits u) := rfl
    unfold numR
    rw [e, hc]
    simp only [g2, sgnI, e, goodD, g1, decide_eq_true g3, decide_eq_true g4, Bool.and_true, decide_true]
def givB (d : Nat) (sign : Bool) (w : Str) : Bool := match numR d w with | some n => sign || decide (0 ≤ n) | none => false
theorem given_iff {d : Nat} (hd : d ≤ 9) (w : Str) (sign : Bool) : (goodD d (cutM w).2 && (decide (itoaX (valS (cutM w).2 : Int) = (cutM w).2) && (!(cutM w).1 || (sign && decide (0 < valS (cutM w).2))))) = givB d sign w ∧ (∀ n, numR d w = some n → n = sgnI (cutM w).1 (valS (cutM w).2)) := by
  have hn : ∀ n, numR d w = some n → n = sgnI (cutM w).1 (valS (cutM w).2) := fun n h => by
    unfold numR at h
    split at h
    · injection h with h; exact h.symm
    · cases h
  refine ⟨?_, hn⟩
  unfold givB
  have hpow : 10 ^ d ≤ 10 ^ 9 := Nat.pow_le_pow_right (by omega) hd
  cases hg : goodD d (cutM w).2 with
  | false =>
    have : numR d w = none := by unfold numR; rw [hg]; rfl
    rw [this]; rfl
  | true =>
    have hb := valS_bound hg
    rw [Bool.true_and]
    have hw : w = (match (cutM w).1 with | true => 45 :: (cutM w).2 | false => (cutM w).2) := by
      unfold cutM
      cases w with
      | nil => rfl
      | cons c r =>
        by_cases hc : c = 45
        · subst hc; rfl
        · simp only [decide_eq_false hc]
    have hR : numR d w = match decide (itoaX (sgnI (cutM w).1 (valS (cutM w).2)) = w) with | true => some (sgnI (cutM w).1 (valS (cutM w).2)) | false => none := by
      unfold numR; rw [hg, Bool.true_and]
    rw [hR]
    generalize (cutM w).2 = s at *
    cases hm : (cutM w).1 with
    | false =>
      rw [hm] at hw
      have hw : w = s := hw
      simp only [sgnI, hw, Bool.not_false, Bool.true_or, Bool.and_true]
      cases decide (itoaX (valS s : Int) = s) with
      | false => rfl
      | true =>
        have : decide (0 ≤ (valS s : Int)) = true := decide_eq_true (by omega)
        simp
    | true =>
      rw [hm] at hw
      have hw : w = 45 :: s := hw
      simp only [sgnI, hw, Bool.not_true, Bool.false_or]
      by_cases hv : valS s = 0
      · have e1 : decide (itoaX (-(valS s : Int)) = 45 :: s) = false := by
          apply decide_eq_false
          rw [hv]
          intro h
          have : itoaX (-((0 : Nat) : Int)) = [48] := rfl
          rw [this] at h
          injection h with h
          cases h
        rw [e1, decide_eq_false (show ¬ 0 < valS s by omega)]
        simp
      · have e1 : decide (itoaX (-(valS s : Int)) = 45 :: s) = decide (itoaX (valS s : Int) = s) := by
          rw [itoaX_neg _ (by omega) (by omega), itoaX_nonneg _ (by omega)]
          simp
        rw [e1, decide_eq_true (show 0 < valS s by omega)]
        cases decide (itoaX (valS s : Int) = s) with
        | false => rfl
        | true =>
          have : decide (0 ≤ (-(valS s : Int))) = false := decide_eq_false (by omega)
          show (sign && true) = (sign || decide (0 ≤ (-(valS s : Int))))
          rw [this, Bool.and_true, Bool.or_false]
theorem splL_one {c : UInt8} : ∀ {x : Str}, c ∉ x → splL c x = [x]
  | [], _ => rfl
  | b :: r, h => by
    have ih := splL_one (c := c) (x := r) (fun hm => h (List.mem_cons_of_mem _ hm))
    have hb : ¬ b = c := fun e => h (by rw [e]; exact List.mem_cons_self)
    simp only [splL, if_neg hb, ih]
theorem splL_cut {c : UInt8} : ∀ {x : Str} (r : Str), c ∉ x → splL c (x ++ c :: r) = x :: splL c r
  | [], r, _ => by simp [splL]
  | b :: x, r, h => by
    have ih := splL_cut (c := c) (x := x) r (fun hm => h (List.mem_cons_of_mem _ hm))
    have hb : ¬ b = c := fun e => h (by rw [e]; exact List.mem_cons_self)
    simp only [List.cons_append, splL, if_neg hb, ih]
def rowT (w : Str) (l : List Int) : Str := w ++ l.flatMap fun n => 32 :: itoaX n
theorem digs_no {c : UInt8} (hc : isD c = false) (u : Nat) : c ∉ Lib.decDigits u := fun h => by
  have := (digs_ok u u (Nat.le_refl _)).1
  rw [List.all_eq_true] at this
  rw [this c h] at hc
  cases hc
theorem itoa_no {c : UInt8} (hc : isD c = false) (h45 : c ≠ 45) {n : Int} (h1 : -1000000000 ≤ n) (h2 : n ≤ 1000000000) : c ∉ itoaX n := by
  rcases (by omega : 0 ≤ n ∨ n < 0) with h0 | h0
  · obtain ⟨u, rfl⟩ : ∃ u : Nat, n = u := ⟨n.toNat, by omega⟩
    rw [itoaX_nonneg u (by omega)]
    exact digs_no hc u
  · obtain ⟨u, rfl⟩ : ∃ u : Nat, n = -(u : Int) := ⟨n.natAbs, by omega⟩
    rw [itoaX_neg u (by omega) (by omega)]
    intro h
    rcases List.mem_cons.1 h with h | h
    · exact h45 h
    · exact digs_no hc u h
def bigI (n : Int) : Bool := decide (-1000000000 ≤ n) && decide (n ≤ 1000000000)
theorem splL_nums : ∀ (l : List Int) (w : Str), (32 : UInt8) ∉ w → l.all bigI = true → splL 32 (rowT w l) = w :: l.map itoaX
  | [], w, hw, _ => by simp [rowT, splL_one hw]
  | n :: r, w, hw, hl => by
    simp only [List.all_cons, Bool.and_eq_true, bigI, decide_eq_true_eq] at hl
    have hn : (32 : UInt8) ∉ itoaX n := itoa_no (by decide) (by decide) hl.1.1 hl.1.2
    have ih := splL_nums r (itoaX n) hn hl.2
    have e : rowT w (n :: r) = w ++ 32 :: rowT (itoaX n) r := by simp [rowT]
    rw [e, splL_cut _ hw, ih]
    rfl
theorem rowT_no {c : UInt8} (hc : isD c = false) (h45 : c ≠ 45) (h32 : c ≠ 32) {w : Str} {l : List Int} (hw : c ∉ w) (hl : l.all bigI = true) : c ∉ rowT w l := by
  intro h
  rcases List.mem_append.1 h with h | h
  · exact hw h
  · obtain ⟨n, hn, h⟩ := List.mem_flatMap.1 h
    rw [List.all_eq_true] at hl
    have := hl n hn
    simp only [bigI, Bool.and_eq_true, decide_eq_true_eq] at this
    rcases List.mem_cons.1 h with h | h
    · exact h32 h
    · exact itoa_no hc h45 this.1 this.2 h
def bodyT (rows : List Str) : Str := rows.flatMap fun r => r ++ [10]
theorem splL_body : ∀ (rows : List Str) (e : Str), (∀ r, r ∈ rows → (10 : UInt8) ∉ r) → (10 : UInt8) ∉ e → splL 10 (bodyT rows ++ (e ++ [10])) = rows ++ [e, []]
  | [], e, _, he => by
    have := splL_cut (c := 10) (x := e) [] he
    simpa [bodyT, splL] using this
  | r :: rs, e, h, he => by
    have ih := splL_body rs e (fun x hx => h x (List.mem_cons_of_mem _ hx)) he
    have e1 : bodyT (r :: rs) ++ (e ++ [10]) = r ++ 10 :: (bodyT rs ++ (e ++ [10])) := by simp [bodyT]
    rw [e1, splL_cut _ (h r List.mem_cons_self), ih]
    rfl
def chkRow (i : Nat) : Nat → Str → Nat
  | _, [] => 0
  | k, c :: r => c.toNat * (k + 1) * (i + 1) + chkRow i (k + 1) r
def chkRows : Nat → List Str → Nat
  | _, [] => 0
  | i, r :: rs => chkRow i 0 r + chkRows (i + 1) rs
def endT (c : Nat) : Str := [101, 110, 100, 32] ++ (itoaX ((c / 100 : Nat) : Int) ++ (itoaX ((c / 10 % 10 : Nat) : Int) ++ itoaX ((c % 10 : Nat) : Int)))
def sealT (m : Nat) (rows : List Str) : Str := bodyT rows ++ (endT (chkRows 0 rows % m) ++ [10])
theorem one_dig {k : Nat} (h : k < 10) : itoaX (k : Int) = [UInt8.ofNat (48 + k)] := by
  rw [itoaX_nonneg k (by omega), digs_small h]
theorem endT_eq {c : Nat} (h : c < 1000) : endT c = [101, 110, 100, 32, UInt8.ofNat (48 + c / 100), UInt8.ofNat (48 + c / 10 % 10), UInt8.ofNat (48 + c % 10)] := by
  unfold endT
  rw [one_dig (by omega), one_dig (by omega), one_dig (by omega)]
  rfl
theorem endT_inj {a b : Nat} (ha : a < 1000) (hb : b < 1000) (h : endT a = endT b) : a = b := by
  rw [endT_eq ha, endT_eq hb] at h
  simp only [List.cons.injEq, true_and, and_true] at h
  have h1 := congrArg UInt8.toNat h.1
  have h2 := congrArg UInt8.toNat h.2.1
  have h3 := congrArg UInt8.toNat h.2.2
  rw [dig_toNat (by omega), dig_toNat (by omega)] at h1 h2 h3
  omega
theorem endT_no {c : Nat} (h : c < 1000) : (10 : UInt8) ∉ endT c := by
  unfold endT
  have hn : ∀ k : Nat, k < 1000 → (10 : UInt8) ∉ itoaX (k : Int) := fun k hk => itoa_no (by decide) (by decide) (by omega) (by omega)
  intro hm
  simp only [List.mem_append] at hm
  rcases hm with hm | hm | hm | hm
  · revert hm; decide
  · exact hn _ (by omega) hm
  · exact hn _ (by omega) hm
  · exact hn _ (by omega) hm
theorem seal_split {m : Nat} (hm0 : 0 < m) (hm : m ≤ 1000) {rows : List Str} (h : ∀ r, r ∈ rows → (10 : UInt8) ∉ r) : splL 10 (sealT m rows) = rows ++ [endT (chkRows 0 rows % m), []] :=
  splL_body rows _ h (endT_no (by have := Nat.mod_lt (chkRows 0 rows) hm0; omega))
end Go.Vc

namespace Go.Vc
open Go Go.Proofs
variable {g : GG}
attribute [local simp] and_assoc
def strsD (l : List Str) : D := .list (l.map .str)
theorem wrap_u8 {n : Int} (h1 : 0 ≤ n) (h2 : n ≤ 255) : IntKind.u8.wrap n = n := by
  simp only [IntKind.wrap, IntKind.bits, IntKind.signed]
  simp
  omega
theorem itoaX_len (n : Int) (h1 : -1000000000 ≤ n) (h2 : n ≤ 1000000000) : (itoaX n).length ≤ 20 := by
  rcases (by omega : 0 ≤ n ∨ n < 0) with h0 | h0
  · obtain ⟨u, rfl⟩ : ∃ u : Nat, n = u := ⟨n.toNat, by omega⟩
    rw [itoaX_nonneg u (by omega)]
    have := digs_len 9 u (by omega)
    omega
  · obtain ⟨u, rfl⟩ : ∃ u : Nat, n = -(u : Int) := ⟨n.natAbs, by omega⟩
    rw [itoaX_neg u (by omega) (by omega)]
    have := digs_len 9 u (by omega)
    simp
    omega
theorem rowT_next {w : Str} {l : List Int} {k : Nat} {n : Int} (h : l[k]? = some n) : rowT w (l.take (k + 1)) = rowT w (l.take k) ++ (32 :: itoaX n) := by
  unfold rowT
  rw [take_next h]
  simp
theorem rowT_len (w : Str) : ∀ l : List Int, l.all bigI = true → (rowT w l).length ≤ w.length + 21 * l.length
  | [], _ => by simp [rowT]
  | n :: r, h => by
    simp only [List.all_cons, Bool.and_eq_true, bigI, decide_eq_true_eq] at h
    have ih := rowT_len w r h.2
    have hn := itoaX_len n h.1.1 h.1.2
    simp only [rowT, List.flatMap_cons, List.length_append, List.length_cons] at ih ⊢
    omega
theorem all_take {α : Type} {f : α → Bool} {l : List α} (h : l.all f = true) (k : Nat) : (l.take k).all f = true := by
  rw [List.all_eq_true] at h ⊢
  exact fun x hx => h x (List.mem_of_mem_take hx)
theorem chkRow_le (i : Nat) : ∀ (r : Str) (k : Nat), chkRow i k r ≤ r.length * (255 * (k + r.length) * (i + 1))
  | [], k => by simp [chkRow]
  | c :: r, k => by
    have ih := chkRow_le i r (k + 1)
    have hc : c.toNat ≤ 255 := by have := c.toNat_lt; omega
    have h1 : c.toNat * (k + 1) * (i + 1) ≤ 255 * (k + (r.length + 1)) * (i + 1) := Nat.mul_le_mul_right _ (Nat.mul_le_mul hc (by omega))
    have e : k + 1 + r.length = k + (r.length + 1) := by omega
    rw [e] at ih
    simp only [chkRow, List.length_cons]
    generalize 255 * (k + (r.length + 1)) * (i + 1) = X at *
    rw [Nat.succ_mul]
    omega
theorem chkRow_bound {i : Nat} {r : Str} (hi : i ≤ 1000) (hr : r.length ≤ 1000) : chkRow i 0 r ≤ 255255000000 := by
  have h := chkRow_le i r 0
  rw [Nat.zero_add] at h
  have h2 : r.length * (255 * r.length * (i + 1)) ≤ 1000 * (255 * 1000 * 1001) := Nat.mul_le_mul hr (Nat.mul_le_mul (Nat.mul_le_mul_left _ hr) (by omega))
  omega
theorem chkRows_le : ∀ (rows : List Str) (i : Nat), (∀ r, r ∈ rows → r.length ≤ 1000) → i + rows.length ≤ 1000 → chkRows i rows ≤ rows.length * 255255000000
  | [], i, _, _ => by simp [chkRows]
  | r :: rs, i, h, hl => by
    have ih := chkRows_le rs (i + 1) (fun x hx => h x (List.mem_cons_of_mem _ hx)) (by simp at hl; omega)
    have h1 := chkRow_bound (i := i) (r := r) (by simp at hl; omega) (h r List.mem_cons_self)
    simp only [chkRows, List.length_cons, Nat.succ_mul]
    omega
theorem chkRow_next (i : Nat) : ∀ (r : Str) (k j : Nat) (c : UInt8), r[j]? = some c → chkRow i k (r.take (j + 1)) = chkRow i k (r.take j) + c.toNat * (k + j + 1) * (i + 1)
  | [], k, j, c, h => by simp at h
  | b :: r, k, 0, c, h => by
    simp at h; subst h
    simp [chkRow]
  | b :: r, k, j + 1, c, h => by
    have ih := chkRow_next i r (k + 1) j c (by simpa using h)
    have e : k + 1 + j + 1 = k + (j + 1) + 1 := by omega
    rw [e] at ih
    simp only [List.take_succ_cons, chkRow, ih]
    omega
theorem chkRow_mono (i : Nat) : ∀ (r : Str) (k j : Nat), chkRow i k (r.take j) ≤ chkRow i k r
  | [], k, j => by simp
  | b :: r, k, 0 => by simp [chkRow]
  | b :: r, k, j + 1 => by
    have ih := chkRow_mono i r (k + 1) j
    simp only [List.take_succ_cons, chkRow]
    omega
theorem chkRows_next : ∀ (rows : List Str) (i j : Nat) (r : Str), rows[j]? = some r → chkRows i (rows.take (j + 1)) = chkRows i (rows.take j) + chkRow (i + j) 0 r
  | [], i, j, r, h => by simp at h
  | b :: rs, i, 0, r, h => by
    simp at h; subst h
    simp [chkRows]
  | b :: rs, i, j + 1, r, h => by
    have ih := chkRows_next rs (i + 1) j r (by simpa using h)
    have e : i + 1 + j = i + (j + 1) := by omega
    rw [e] at ih
    simp only [List.take_succ_cons, chkRows, ih]
    omega
theorem bodyT_len : ∀ (rows : List Str), (∀ r, r ∈ rows → r.length ≤ 1000) → (bodyT rows).length ≤ rows.length * 1001
  | [], _ => by simp [bodyT]
  | r :: rs, h => by
    have ih := bodyT_len rs (fun x hx => h x (List.mem_cons_of_mem _ hx))
    have := h r List.mem_cons_self
    simp only [bodyT, List.flatMap_cons, List.length_append, List.length_cons, List.length_nil, Nat.succ_mul] at ih ⊢
    omega
end Go.Vc

namespace Go.Vc
open Go Go.Proofs
variable {g : GG}
attribute [local simp] and_assoc
theorem splX_split (c : UInt8) (s : Str) : splX c s [] = splL c s := by
  rw [splX_eq]
  cases hs : splL c s with
  | nil => exact absurd hs (splL_ne c s)
  | cons x xs => simp
theorem splL_le (c : UInt8) : ∀ s : Str, (splL c s).length ≤ s.length + 1
  | [] => by simp [splL]
  | b :: r => by
    have ih := splL_le c r
    simp only [splL]
    split
    · simp; omega
    · split
      · simp
      · rename_i x xs h
        rw [h] at ih
        simp at ih ⊢
        omega
structure SpS where
  i : Nat
  fr : Nat
  out : List Str
def SpS.ok (c : UInt8) (s : Str) (x : SpS) : Prop := x.fr ≤ x.i ∧ x.i ≤ s.length ∧ x.out.length ≤ x.i ∧ x.out ++ splX c (s.drop x.i) ((s.take x.i).drop x.fr).reverse = splL c s
theorem SpS.step {c : UInt8} {s : Str} {x : SpS} (h : x.ok c s) {b : UInt8} (hg : s[x.i]? = some b) : (b = c → SpS.ok c s ⟨x.i + 1, x.i + 1, x.out ++ [(s.take x.i).drop x.fr]⟩) ∧ (b ≠ c → SpS.ok c s ⟨x.i + 1, x.fr, x.out⟩) := by
  obtain ⟨h1, h2, h3, h4⟩ := h
  have hlt := (List.getElem?_eq_some_iff.1 hg).1
  have hd : s.drop x.i = b :: s.drop (x.i + 1) := by
    obtain ⟨g1, g2⟩ := List.getElem?_eq_some_iff.1 hg
    rw [List.drop_eq_getElem_cons g1, g2]
  rw [hd] at h4
  refine ⟨fun hb => ⟨Nat.le_refl _, hlt, by simp; exact h3, ?_⟩, fun hb => ⟨by show x.fr ≤ x.i + 1; omega, hlt, by show x.out.length ≤ x.i + 1; omega, ?_⟩⟩
  · simp only [splX, decide_eq_true hb, List.reverse_reverse] at h4
    have e : (s.take (x.i + 1)).drop (x.i + 1) = [] := List.drop_eq_nil_of_le (by simp; omega)
    show (x.out ++ [(s.take x.i).drop x.fr]) ++ splX c (s.drop (x.i + 1)) ((s.take (x.i + 1)).drop (x.i + 1)).reverse = _
    rw [e, List.append_assoc]
    exact h4
  · simp only [splX, decide_eq_false hb] at h4
    show x.out ++ splX c (s.drop (x.i + 1)) ((s.take (x.i + 1)).drop x.fr).reverse = _
    have e : ((s.take (x.i + 1)).drop x.fr).reverse = b :: ((s.take x.i).drop x.fr).reverse := by
      rw [take_next hg, List.drop_append_of_le_length (by simp; omega), List.reverse_append]
      rfl
    rw [e]
    exact h4
theorem allD_snoc (s : Str) (k : Nat) (c : UInt8) (h : s[k]? = some c) : (s.take (k + 1)).all isD = ((s.take k).all isD && isD c) := by
  rw [take_next h, List.all_append]; simp
theorem valS_snoc (s : Str) (k : Nat) (c : UInt8) (h : s[k]? = some c) : valS (s.take (k + 1)) = 10 * valS (s.take k) + (c.toNat - 48) := by
  unfold valS
  rw [take_next h, List.foldl_append]; rfl
theorem cutM_cases (w : Str) : (w = [] ∧ cutM w = (false, [])) ∨ (∃ r, w = 45 :: r ∧ cutM w = (true, r)) ∨ (∃ c r, w = c :: r ∧ c ≠ 45 ∧ cutM w = (false, w)) := by
  cases w with
  | nil => exact .inl ⟨rfl, rfl⟩
  | cons c r =>
    by_cases h : c = 45
    · subst h; exact .inr (.inl ⟨r, rfl, rfl⟩)
    · exact .inr (.inr ⟨c, r, rfl, h, by simp only [cutM, decide_eq_false h]⟩)
structure NmS where
  i : Nat
  out : List Int
end Go.Vc
