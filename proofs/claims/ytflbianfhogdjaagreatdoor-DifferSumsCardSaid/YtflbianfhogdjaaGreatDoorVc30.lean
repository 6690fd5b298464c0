/- A part of the proof: general laws of a reading of the model by abstract data, or contracts of the functions that the law calls. -/
import Derived.Test.YtflbianfhogdjaaGreatDoorVc22
import Derived.Test.YtflbianfhogdjaaGreatDoorVc11
import Derived.Test.YtflbianfhogdjaaGreatDoorVc29
import Derived.Test.YtflbianfhogdjaaGreatDoorVc25
set_option maxRecDepth 100000
namespace Go.Vc
open Go Go.Proofs Go.RowKit
def ann_differ_start_least : Nat → List Nat := fun n => match n with  | _ => []
def vc_differ_start_least (P : Ctx) (pre : List ABlk) (a0 : AV) (r : AV) (post : List PB) : Prop :=
  let h0 : Heap := numbered 0 pre
  BOX T_differ_start a0 24 h0 fun v1 h1 =>
  FADDR 0 v1 h1 fun v3 =>
  LOAD false 1 v3 h1 fun v4 =>
  POST v4 h1 pre r post
theorem vc_differ_start_least_eq (g : GG) (pre : List ABlk) (a0 : AV) (r : AV) (post : List PB) : vcFn2 (Tz g) false ann_differ_start_least Tryz.f125 pre [a0] (.ret r) post = vc_differ_start_least (Tz g) pre a0 r post := by kernel_rfl
theorem hf_differ_start_least : Tryz.prog.funcs[f_differ_start_least]? = some Tryz.f125 := by kernel_rfl
theorem ok_differ_start_least : fnVcOK Tryz.prog Tryz.f125 = true := by kernel_rfl
theorem nt_differ_start_least : Nat.ble 1 Tryz.f125.ntmps = true := by kernel_rfl
theorem meetsH_differ_start_least {g : GG} {pre : List ABlk} {a0 : AV} {r : AV} {post : List PB} (hk : Nat.ble pre.length 24 = true) (h : vc_differ_start_least (Tz g) pre a0 r post) : MeetsH (Tz g) f_differ_start_least pre [a0] (.ret r) post :=
  meetsH_of_vc (C := Tz g) ann_differ_start_least hf_differ_start_least ok_differ_start_least nt_differ_start_least hk (pn := false) (Eq.mpr ((vcFn2_eq _ _ _ _ _ _ _ _).trans (vc_differ_start_least_eq g pre a0 r post)) h)
theorem meets_differ_start_least {g : GG} {a0 : D} {r : Res} (h : vc_differ_start_least (Tz g) [] (.d a0) r.val (r.bl.map .upd)) : Meets (Tz g) f_differ_start_least [a0] r := meetsH_differ_start_least rfl h
def ann_differ_start_most : Nat → List Nat := fun n => match n with  | _ => []
def vc_differ_start_most (P : Ctx) (pre : List ABlk) (a0 : AV) (r : AV) (post : List PB) : Prop :=
  let h0 : Heap := numbered 0 pre
  BOX T_differ_start a0 24 h0 fun v1 h1 =>
  FADDR 1 v1 h1 fun v3 =>
  LOAD false 1 v3 h1 fun v4 =>
  POST v4 h1 pre r post
theorem vc_differ_start_most_eq (g : GG) (pre : List ABlk) (a0 : AV) (r : AV) (post : List PB) : vcFn2 (Tz g) false ann_differ_start_most Tryz.f126 pre [a0] (.ret r) post = vc_differ_start_most (Tz g) pre a0 r post := by kernel_rfl
theorem hf_differ_start_most : Tryz.prog.funcs[f_differ_start_most]? = some Tryz.f126 := by kernel_rfl
theorem ok_differ_start_most : fnVcOK Tryz.prog Tryz.f126 = true := by kernel_rfl
theorem nt_differ_start_most : Nat.ble 1 Tryz.f126.ntmps = true := by kernel_rfl
theorem meetsH_differ_start_most {g : GG} {pre : List ABlk} {a0 : AV} {r : AV} {post : List PB} (hk : Nat.ble pre.length 24 = true) (h : vc_differ_start_most (Tz g) pre a0 r post) : MeetsH (Tz g) f_differ_start_most pre [a0] (.ret r) post :=
  meetsH_of_vc (C := Tz g) ann_differ_start_most hf_differ_start_most ok_differ_start_most nt_differ_start_most hk (pn := false) (Eq.mpr ((vcFn2_eq _ _ _ _ _ _ _ _).trans (vc_differ_start_most_eq g pre a0 r post)) h)
theorem meets_differ_start_most {g : GG} {a0 : D} {r : Res} (h : vc_differ_start_most (Tz g) [] (.d a0) r.val (r.bl.map .upd)) : Meets (Tz g) f_differ_start_most [a0] r := meetsH_differ_start_most rfl h
def ann_differ_end : Nat → List Nat := fun n => match n with | 4 => [1, 5, 6, 11, 12, 13] | _ => []
def vc_differ_end (P : Ctx) (pre : List ABlk) (a0 a1 : AV) (r : AV) (post : List PB) : Prop :=
  let h0 : Heap := numbered 0 pre
  BOX T_api_DifferPlan a0 24 h0 fun v2 h1 =>
  BUILD [(0, 1), (1, 1)] [.any, .any] [(0, (.d (.fn f_differ_start_least [] []))), (1, (.d (.fn f_differ_start_most [] [])))] fun v9 =>
  ALLOC T_2_func_differ_start_int [.any, .any] 48 h1 fun v5 h2 =>
  STORE 2 v5 v9 h2 fun h3 =>
  FADDR 0 v2 h3 fun v10 =>
  LOAD false 1 v10 h3 fun v11 =>
  LEN false v11 h3 fun v12 =>
  LOOP [a1, v5, .zc, v11, v12, (.d (.num .i64 0))] h3 104 fun vs4 h5 next4 =>
  BIN 0 .lss (nth vs4 5) (nth vs4 4) fun v14 =>
  COND v14
  (IADDR 2 T_api_Span (nth vs4 3) (nth vs4 5) h5 fun v15 =>
  LOAD true 2 v15 h5 fun v16 =>
  ALLOC T_api_Span [.d (.num .i64 0), .d (.num .i64 0)] 136 h5 fun v8 h6 =>
  STORE 2 v8 v16 h6 fun h7 =>
  AADDR 1 2 (nth vs4 1) (nth vs4 0) h7 fun v19 =>
  LOAD false 1 v19 h7 fun v20 =>
  LOAD true 2 v8 h7 fun v21 =>
  CALLV P v20 [v21] 192 h7 (fun rd9 v22 h8 =>
  MKS T_int 1 [v22] 200 h8 fun v23 h10 =>
  APP T_int 1 (nth vs4 2) v23 208 h10 fun v24 h11 =>
  ORDX [] [0, 0, 2, 6, 0, 30, 62, 127, 255] [(2, wr h7 h7, (ids (nth vs4 1))), (3, wr h7 h7, (ids v19)), (4, wr h7 h7, (ids v8)), (5, wr h7 h8, rd9), (6, wr h8 h10, (ids.idsL [v22])), (7, wr h10 h11, (ids.idsL [(nth vs4 2), v23]))] ∧
  BIN 0 .add (nth vs4 5) (.d (.num .i64 1)) fun v25 =>
  next4 [(nth vs4 0), (nth vs4 1), v24, (nth vs4 3), (nth vs4 4), v25] h11)
  (fun _ _ _ => False))
  (POST (nth vs4 2) h5 pre r post)
theorem vc_differ_end_eq (g : GG) (pre : List ABlk) (a0 a1 : AV) (r : AV) (post : List PB) : vcFn2 (Tz g) false ann_differ_end Tryz.f105 pre [a0, a1] (.ret r) post = vc_differ_end (Tz g) pre a0 a1 r post := by kernel_rfl
theorem hf_differ_end : Tryz.prog.funcs[f_differ_end]? = some Tryz.f105 := by kernel_rfl
theorem ok_differ_end : fnVcOK Tryz.prog Tryz.f105 = true := by kernel_rfl
theorem nt_differ_end : Nat.ble 2 Tryz.f105.ntmps = true := by kernel_rfl
theorem meetsH_differ_end {g : GG} {pre : List ABlk} {a0 a1 : AV} {r : AV} {post : List PB} (hk : Nat.ble pre.length 24 = true) (h : vc_differ_end (Tz g) pre a0 a1 r post) : MeetsH (Tz g) f_differ_end pre [a0, a1] (.ret r) post :=
  meetsH_of_vc (C := Tz g) ann_differ_end hf_differ_end ok_differ_end nt_differ_end hk (pn := false) (Eq.mpr ((vcFn2_eq _ _ _ _ _ _ _ _).trans (vc_differ_end_eq g pre a0 a1 r post)) h)
theorem meets_differ_end {g : GG} {a0 a1 : D} {r : Res} (h : vc_differ_end (Tz g) [] (.d a0) (.d a1) r.val (r.bl.map .upd)) : Meets (Tz g) f_differ_end [a0, a1] r := meetsH_differ_end rfl h
def ann_differ_rows : Nat → List Nat := fun n => match n with | 4 => [3, 4, 5, 18, 19] | _ => []
def vc_differ_rows (P : Ctx) (pre : List ABlk) (a0 : AV) (r : AV) (post : List PB) : Prop :=
  let h0 : Heap := numbered 0 pre
  BOX T_api_DifferPlan a0 24 h0 fun v1 h1 =>
  LOAD true 3 v1 h1 fun v7 =>
  LOAD true 3 v1 h1 fun v8 =>
  CALL P f_differ_end [v8, (.d (.num .i64 0))] 56 h1 (fun rd3 v9 h2 =>
  BUILD [(0, 3), (3, 1)] [.zc, .d (.num .i64 0), .d (.num .i64 0), .zc] [(0, v7), (1, v9)] fun v10 =>
  CALL P f_differ_table_values [v10] 72 h2 (fun rd5 v11 h4 =>
  LOAD true 3 v1 h4 fun v12 =>
  LOAD true 3 v1 h4 fun v13 =>
  CALL P f_differ_end [v13, (.d (.num .i64 1))] 96 h4 (fun rd7 v14 h6 =>
  BUILD [(0, 3), (3, 1)] [.zc, .d (.num .i64 0), .d (.num .i64 0), .zc] [(0, v12), (1, v14)] fun v15 =>
  CALL P f_differ_table_values [v15] 112 h6 (fun rd9 v16 h8 =>
  ORDX [] [0, 0, 2, 7, 15, 0, 0, 95, 255, 511, 1023, 2047] [(0, wr h1 h1, (ids v1)), (1, wr h1 h1, (ids v1)), (2, wr h1 h2, rd3), (4, wr h2 h4, rd5), (5, wr h4 h4, (ids v1)), (6, wr h4 h4, (ids v1)), (7, wr h4 h6, rd7), (9, wr h6 h8, rd9)] ∧
  LEN false v11 h8 fun v18 =>
  LOOP [v11, v16, .zc, v18, (.d (.num .i64 0))] h8 168 fun vs10 h11 next10 =>
  BIN 0 .lss (nth vs10 4) (nth vs10 3) fun v20 =>
  COND v20
  (IADDR 1 T_int (nth vs10 0) (nth vs10 4) h11 fun v25 =>
  LOAD false 1 v25 h11 fun v26 =>
  IADDR 1 T_int (nth vs10 1) (nth vs10 4) h11 fun v29 =>
  LOAD false 1 v29 h11 fun v30 =>
  BUILD [(0, 1), (1, 1)] [.d (.num .i64 0), .d (.num .i64 0)] [(0, v26), (1, v30)] fun v31 =>
  MKS T_api_Span 2 [v31] 280 h11 fun v32 h12 =>
  APP T_api_Span 2 (nth vs10 2) v32 288 h12 fun v33 h13 =>
  ORDX [] [0, 0, 0, 6, 14, 0, 0, 96, 224, 510, 1022, 2047, 4095] [(3, wr h11 h11, (ids (nth vs10 0))), (4, wr h11 h11, (ids v25)), (7, wr h11 h11, (ids (nth vs10 1))), (8, wr h11 h11, (ids v29)), (10, wr h11 h12, (ids.idsL [v31])), (11, wr h12 h13, (ids.idsL [(nth vs10 2), v32]))] ∧
  BIN 0 .add (nth vs10 4) (.d (.num .i64 1)) fun v34 =>
  next10 [(nth vs10 0), (nth vs10 1), v33, (nth vs10 3), v34] h13)
  (POST (nth vs10 2) h11 pre r post))
  (fun _ _ _ => False))
  (fun _ _ _ => False))
  (fun _ _ _ => False))
  (fun _ _ _ => False)
theorem vc_differ_rows_eq (g : GG) (pre : List ABlk) (a0 : AV) (r : AV) (post : List PB) : vcFn2 (Tz g) false ann_differ_rows Tryz.f72 pre [a0] (.ret r) post = vc_differ_rows (Tz g) pre a0 r post := by kernel_rfl
theorem hf_differ_rows : Tryz.prog.funcs[f_differ_rows]? = some Tryz.f72 := by kernel_rfl
theorem ok_differ_rows : fnVcOK Tryz.prog Tryz.f72 = true := by kernel_rfl
theorem nt_differ_rows : Nat.ble 1 Tryz.f72.ntmps = true := by kernel_rfl
theorem meetsH_differ_rows {g : GG} {pre : List ABlk} {a0 : AV} {r : AV} {post : List PB} (hk : Nat.ble pre.length 24 = true) (h : vc_differ_rows (Tz g) pre a0 r post) : MeetsH (Tz g) f_differ_rows pre [a0] (.ret r) post :=
  meetsH_of_vc (C := Tz g) ann_differ_rows hf_differ_rows ok_differ_rows nt_differ_rows hk (pn := false) (Eq.mpr ((vcFn2_eq _ _ _ _ _ _ _ _).trans (vc_differ_rows_eq g pre a0 r post)) h)
theorem meets_differ_rows {g : GG} {a0 : D} {r : Res} (h : vc_differ_rows (Tz g) [] (.d a0) r.val (r.bl.map .upd)) : Meets (Tz g) f_differ_rows [a0] r := meetsH_differ_rows rfl h
def ann_differ_Rows : Nat → List Nat := fun n => match n with  | _ => []
def vc_differ_Rows (P : Ctx) (pre : List ABlk) (a0 : AV) (r : AV) (post : List PB) : Prop :=
  let h0 : Heap := numbered 0 pre
  BOX T_api_DifferPlan a0 24 h0 fun v1 h1 =>
  LOAD true 3 v1 h1 fun v4 =>
  CALL P f_differ_isPlan [v4] 56 h1 (fun _ v5 h2 =>
  NOT v5 fun v6 =>
  COND v6
  (POST (.tup [.zc, (.d (.num .i64 2))]) h2 pre r post)
  (LOAD true 3 v1 h2 fun v7 =>
  CALL P f_differ_rows [v7] 80 h2 (fun _ v8 h4 =>
  POST (.tup [v8, (.d (.num .i64 0))]) h4 pre r post)
  (fun _ _ _ => False)))
  (fun _ _ _ => False)
theorem vc_differ_Rows_eq (g : GG) (pre : List ABlk) (a0 : AV) (r : AV) (post : List PB) : vcFn2 (Tz g) false ann_differ_Rows Tryz.f35 pre [a0] (.ret r) post = vc_differ_Rows (Tz g) pre a0 r post := by kernel_rfl
theorem hf_differ_Rows : Tryz.prog.funcs[f_differ_Rows]? = some Tryz.f35 := by kernel_rfl
theorem ok_differ_Rows : fnVcOK Tryz.prog Tryz.f35 = true := by kernel_rfl
theorem nt_differ_Rows : Nat.ble 1 Tryz.f35.ntmps = true := by kernel_rfl
theorem meetsH_differ_Rows {g : GG} {pre : List ABlk} {a0 : AV} {r : AV} {post : List PB} (hk : Nat.ble pre.length 24 = true) (h : vc_differ_Rows (Tz g) pre a0 r post) : MeetsH (Tz g) f_differ_Rows pre [a0] (.ret r) post :=
  meetsH_of_vc (C := Tz g) ann_differ_Rows hf_differ_Rows ok_differ_Rows nt_differ_Rows hk (pn := false) (Eq.mpr ((vcFn2_eq _ _ _ _ _ _ _ _).trans (vc_differ_Rows_eq g pre a0 r post)) h)
theorem meets_differ_Rows {g : GG} {a0 : D} {r : Res} (h : vc_differ_Rows (Tz g) [] (.d a0) r.val (r.bl.map .upd)) : Meets (Tz g) f_differ_Rows [a0] r := meetsH_differ_Rows rfl h
end Go.Vc

namespace Go.Vc
open Go Go.Proofs
variable {g : GG}
theorem take_next {α : Type} {L : List α} {k : Nat} {x : α} (h : L[k]? = some x) : L.take (k + 1) = L.take k ++ [x] := by
  rw [List.take_add_one, h]; rfl
theorem take_all {α : Type} {L : List α} {k : Nat} (h : L.length ≤ k) : L.take k = L := List.take_of_length_le h
end Go.Vc

namespace Go.Vc
open Go Go.Proofs
variable {g : GG}
end Go.Vc

namespace Go.Vc
open Go Go.Proofs
variable {g : GG}
attribute [local simp] and_assoc
theorem start_least_meets (s : Sp) : Meets (Tz g) f_differ_start_least [s.d] ⟨.d (int s.low), []⟩ := by
  refine meets_differ_start_least ?_
  unfold vc_differ_start_least
  simp [Sp.d]
theorem start_most_meets (s : Sp) : Meets (Tz g) f_differ_start_most [s.d] ⟨.d (int s.high), []⟩ := by
  refine meets_differ_start_most ?_
  unfold vc_differ_start_most
  simp [Sp.d]
theorem differ_end_lows (p : Plan) (hl : p.starts.length ≤ 1000) : Meets (Tz g) f_differ_end [p.d, int 0] ⟨.own 0 0, [⟨0, T_int, .lst ((lows p).map int)⟩]⟩ := by
  refine meets_differ_end ?_
  unfold vc_differ_end
  simp [Plan.d, spans]
  refine LOOP.mk Nat (fun k => [.d (int 0), .ptr 48 0 0 0, .own 104 k, .d (spans p.starts), .d (int p.starts.length), .d (int k)]) (fun k => [(104, some ⟨k, T_int, .lst (((lows p).map int).take k)⟩), (48, some ⟨0, T_2_func_differ_start_int, .box [.d (.fn f_differ_start_least [] []), .d (.fn f_differ_start_most [] [])]⟩), (24, some ⟨0, T_api_DifferPlan, .box [.d (spans p.starts), .d (int p.rows), .d (int p.guard)]⟩)]) (fun k => k ≤ p.starts.length) (fun k => p.starts.length - k) [(2, T_int)] (by simp) 0 (by omega) (by simp [WEAK, spans]) (fun _ _ => rfl) ?_
  intro k hk
  simp [spans]
  constructor
  · intro hlt
    have hlt : k < p.starts.length := by omega
    have hg : p.starts[k]? = some p.starts[k] := List.getElem?_eq_getElem hlt
    simp [hg, Sp.d]
    refine CALL.val [(p.starts[k]).d] _ rfl (start_least_meets _) (.inl rfl) ?_
    simp
    rw [wrap_id (n := (k : Int) + 1) (by omega) (by omega)]
    have h7 := take_next (L := (lows p).map int) (k := k) (x := int p.starts[k].low) (by simp [lows, hg])
    refine ⟨by simp [lows]; omega, rfl, k + 1, by omega, ?_, by omega⟩
    simp [WEAK]
    rw [h7]
  · intro hge
    have : k = p.starts.length := by omega
    subst this
    simp [lows]
    exact take_all (by simp)
theorem differ_end_highs (p : Plan) (hl : p.starts.length ≤ 1000) : Meets (Tz g) f_differ_end [p.d, int 1] ⟨.own 0 0, [⟨0, T_int, .lst ((highs p).map int)⟩]⟩ := by
  refine meets_differ_end ?_
  unfold vc_differ_end
  simp [Plan.d, spans]
  refine LOOP.mk Nat (fun k => [.d (int 1), .ptr 48 0 0 0, .own 104 k, .d (spans p.starts), .d (int p.starts.length), .d (int k)]) (fun k => [(104, some ⟨k, T_int, .lst (((highs p).map int).take k)⟩), (48, some ⟨0, T_2_func_differ_start_int, .box [.d (.fn f_differ_start_least [] []), .d (.fn f_differ_start_most [] [])]⟩), (24, some ⟨0, T_api_DifferPlan, .box [.d (spans p.starts), .d (int p.rows), .d (int p.guard)]⟩)]) (fun k => k ≤ p.starts.length) (fun k => p.starts.length - k) [(2, T_int)] (by simp) 0 (by omega) (by simp [WEAK, spans]) (fun _ _ => rfl) ?_
  intro k hk
  simp [spans]
  constructor
  · intro hlt
    have hlt : k < p.starts.length := by omega
    have hg : p.starts[k]? = some p.starts[k] := List.getElem?_eq_getElem hlt
    simp [hg, Sp.d]
    refine CALL.val [(p.starts[k]).d] _ rfl (start_most_meets _) (.inl rfl) ?_
    simp
    rw [wrap_id (n := (k : Int) + 1) (by omega) (by omega)]
    have h7 := take_next (L := (highs p).map int) (k := k) (x := int p.starts[k].high) (by simp [highs, hg])
    refine ⟨by simp [highs]; omega, rfl, k + 1, by omega, ?_, by omega⟩
    simp [WEAK]
    rw [h7]
  · intro hge
    have : k = p.starts.length := by omega
    subst this
    simp [highs]
    exact take_all (by simp)
theorem lows_len (p : Plan) : (lows p).length = p.starts.length := by simp [lows]
theorem highs_len (p : Plan) : (highs p).length = p.starts.length := by simp [highs]
theorem lows_within {p : Plan} (h : p.ok = true) : within p.starts (lows p) = true := within_lows fun s hs => (startB_le ((Plan.ok_len h).2.2.2.2 s hs)).2.1
theorem highs_within {p : Plan} (h : p.ok = true) : within p.starts (highs p) = true := within_highs fun s hs => (startB_le ((Plan.ok_len h).2.2.2.2 s hs)).2.1
theorem far_of {l : List Int} (h : ∀ x, x ∈ l → -99999 ≤ x ∧ x ≤ 99999) : ∀ x, x ∈ l → -1000000000 ≤ x ∧ x ≤ 1000000000 := fun x hx => by have := h x hx; omega
theorem lows_bound {p : Plan} (h : p.ok = true) : ∀ x, x ∈ lows p → -99999 ≤ x ∧ x ≤ 99999 := within_bound (Plan.ok_len h).2.2.2.2 (lows_within h)
theorem highs_bound {p : Plan} (h : p.ok = true) : ∀ x, x ∈ highs p → -99999 ≤ x ∧ x ≤ 99999 := within_bound (Plan.ok_len h).2.2.2.2 (highs_within h)
theorem rowsL_get (p : Plan) (n k : Nat) (hn : p.rows = n) (h : k < n) : (rowsL p)[k]? = some ⟨(afterL k (lows p)).headD 0, (afterL k (highs p)).headD 0⟩ := by
  simp [rowsL, hn, h]
theorem rowsL_len (p : Plan) (n : Nat) (hn : p.rows = n) : (rowsL p).length = n := by simp [rowsL, hn]
theorem differ_rows_meets (p : Plan) (h : p.ok = true) : Meets (Tz g) f_differ_rows [p.d] ⟨.own 0 0, [⟨0, T_api_Span, .lst ((rowsL p).map Sp.d)⟩]⟩ := by
  obtain ⟨a1, a2, a3, a4, a5⟩ := Plan.ok_len h
  obtain ⟨n, hn⟩ : ∃ n : Nat, p.rows = n := ⟨p.rows.toNat, by omega⟩
  have l1 := lows_len p
  have l2 := highs_len p
  refine meets_differ_rows ?_
  unfold vc_differ_rows
  simp [Plan.d, spans]
  refine CALL.mk [p.d, int 0] _ rfl (differ_end_lows p (by omega)) (.inl rfl) (by simp) ?_
  simp
  refine CALL.mk [tabD p (lows p)] _ (by simp [tabD, spans, ints]) (differ_values_meets p (lows p) n hn (by omega) (by omega) (by omega) (far_of (lows_bound h))) (.inr (by simp [Res.flatP, AV.flatB, blksFlat, Body.flatP, D.flatB])) (by simp) ?_
  simp
  refine CALL.mk [p.d, int 1] _ rfl (differ_end_highs p (by omega)) (.inl rfl) (by simp) ?_
  simp
  refine CALL.mk [tabD p (highs p)] _ (by simp [tabD, spans, ints]) (differ_values_meets p (highs p) n hn (by omega) (by omega) (by omega) (far_of (highs_bound h))) (.inr (by simp [Res.flatP, AV.flatB, blksFlat, Body.flatP, D.flatB])) (by simp) ?_
  simp
  refine ⟨rfl, ?_⟩
  have hh : ∀ t : List Int, (heads t n).length = n := fun t => by simp [heads]
  refine LOOP.mk Nat (fun k => [.own 72 0, .own 112 0, .own 168 k, .d (int n), .d (int k)]) (fun k => [(168, some ⟨k, T_api_Span, .lst (((rowsL p).map Sp.d).take k)⟩), (112, some ⟨0, T_int, .lst ((heads (highs p) n).map int)⟩), (72, some ⟨0, T_int, .lst ((heads (lows p) n).map int)⟩)]) (fun k => k ≤ n) (fun k => n - k) [(2, T_api_Span)] (by simp) 0 (by omega) (by simp [WEAK, hh]) (fun _ _ => rfl) ?_
  intro k hk
  simp
  constructor
  · intro hlt
    have g1 : (heads (lows p) n)[k]? = some ((afterL k (lows p)).headD 0) := by simp [heads, hlt]
    have g2 : (heads (highs p) n)[k]? = some ((afterL k (highs p)).headD 0) := by simp [heads, hlt]
    simp [g1, g2, hh]
    have h7 := take_next (L := (rowsL p).map Sp.d) (k := k) (x := Sp.d ⟨(afterL k (lows p)).headD 0, (afterL k (highs p)).headD 0⟩) (by simp [rowsL_get p n k hn hlt])
    rw [wrap_id (n := (k : Int) + 1) (by omega) (by omega)]
    refine ⟨hlt, by omega, rfl, k + 1, by omega, ?_, by omega⟩
    simp [WEAK]
    rw [h7]
    simp [Sp.d]
  · intro hge
    have : k = n := by omega
    subst this
    exact take_all (by simp [rowsL_len p k hn])
theorem differ_Rows_meets (p : Plan) (hl : p.starts.length ≤ 1000) : Meets (Tz g) f_differ_Rows [p.d] (if p.ok = true then ⟨.tup [.own 0 0, .d (int 0)], [⟨0, T_api_Span, .lst ((rowsL p).map Sp.d)⟩]⟩ else ⟨.tup [.d (.list []), .d (int 2)], []⟩) := by
  refine meets_differ_Rows ?_
  unfold vc_differ_Rows
  simp [Plan.d, spans]
  refine CALL.val [p.d] _ rfl (differ_isPlan_meets p hl) (.inl rfl) ?_
  simp
  constructor
  · intro h1
    simp [h1]
  · intro h1
    refine CALL.mk [p.d] _ rfl (differ_rows_meets p h1) (.inl rfl) (by simp) ?_
    simp [h1]
end Go.Vc

namespace Go.Vc
open Go Go.Proofs
variable {g : GG}
attribute [local simp] and_assoc
def turn {α : Type} (a b : List α) (k : Nat) : List α := a.take k ++ b.drop k
@[simp high] theorem BIN_Sp (a b : Sp) (K : AV → Prop) : BIN 1002 .neq (.d (.agg [int a.low, int a.high])) (.d (.agg [int b.low, int b.high])) K = K (.d (.bool !decide (a = b))) := by
  have e : binD 1002 .neq (.agg [int a.low, int a.high]) (.agg [int b.low, int b.high]) = some (.bool !decide (a = b)) := by
    obtain ⟨a1, a2⟩ := a
    obtain ⟨b1, b2⟩ := b
    by_cases h1 : a1 = b1 <;> by_cases h2 : a2 = b2 <;> simp [h1, h2]
  show (∃ r, binD 1002 .neq _ _ = some r ∧ K (.d r)) = _
  rw [e]
  simp
end Go.Vc

namespace Go.Vc
open Go Go.Proofs
variable {g : GG}
theorem known_call (hg : GOK g) {new : Nat} {h : Heap} {K KP : List Nat → AV → Heap → Prop} (h3 : K [] (.d (.bool true)) h) : CALL (Tz g) f_law01_known [] new h K KP :=
  CALL.val [] _ rfl (known_meets hg) (.inl rfl) h3
end Go.Vc
