/- A part of the proof: general laws of a reading of the model by abstract data, or contracts of the functions that the law calls. -/
import Derived.Test.YtflbianfhogdjaaGreatDoorVc45
import Derived.Test.YtflbianfhogdjaaGreatDoorVc36
set_option maxRecDepth 100000
namespace Go.Vc
open Go Go.Proofs
variable {g : GG}
attribute [local simp] and_assoc
attribute [local simp] ints_cells
theorem take_count_succ (vs : List Int) (j : Nat) (w v : Int) (h : vs[j]? = some w) : (vs.take (j + 1)).count v = (vs.take j).count v + (if w = v then 1 else 0) := by
  rw [List.take_add_one, h]
  simp only [Option.toList_some, List.count_append, List.count_cons, List.count_nil, beq_iff_eq, Nat.zero_add]
def cntL (vs : List Int) (i : Nat) (lo : Int) (n : Nat) : List Nat := (List.range n).map fun (k : Nat) => (vs.take i).count (lo + (k : Int))
theorem cntL_len (vs : List Int) (i : Nat) (lo : Int) (n : Nat) : (cntL vs i lo n).length = n := by simp [cntL]
theorem cntL_get (vs : List Int) (i : Nat) (lo : Int) (n : Nat) (w : Int) (k : Nat) (hk : (k : Int) = w - lo) (hn : k < n) : (cntL vs i lo n)[k]? = some ((vs.take i).count w) := by
  have e : lo + (k : Int) = w := by omega
  simp [cntL, hn, e]
theorem cntL_zero (vs : List Int) (lo : Int) (n : Nat) : cntL vs 0 lo n = List.replicate n 0 := by
  apply List.ext_getElem
  · simp [cntL]
  · intro i h1 h2
    simp [cntL]
theorem cntL_set (vs : List Int) (i : Nat) (lo : Int) (n : Nat) (w : Int) (k : Nat) (h : vs[i]? = some w) (hk : (k : Int) = w - lo) : (cntL vs i lo n).set k ((vs.take (i + 1)).count w) = cntL vs (i + 1) lo n := by
  apply List.ext_getElem
  · simp [cntL]
  · intro j h1 h2
    rw [List.getElem_set]
    simp only [cntL, List.getElem_map, List.getElem_range]
    by_cases hj : k = j
    · subst hj
      have e : lo + (k : Int) = w := by omega
      simp [e]
    · rw [if_neg hj, take_count_succ vs i w _ h, if_neg (by omega)]
      rfl
theorem lftN_succ (vs : List Int) (j : Nat) (w : Int) (h : vs[j]? = some w) : lftN vs (j + 1) = max (lftN vs j) ((vs.take (j + 1)).count w) := by
  have e : vs.getD j 0 = w := by rw [List.getD_eq_getElem?_getD, h]; rfl
  rw [lftN, e]
theorem sumL_le (b : Int) : ∀ l : List Int, (∀ w, w ∈ l → w ≤ b) → sumL l ≤ b * (l.length : Int)
  | [], _ => by simp [sumL]
  | x :: r, h => by
    have h1 := h x (by simp)
    have h2 := sumL_le b r (fun w hw => h w (by simp [hw]))
    simp only [sumL, List.length_cons]
    have : b * ((r.length + 1 : Nat) : Int) = b * (r.length : Int) + b := by rw [Int.natCast_add, Int.mul_add]; simp
    omega
theorem row_wide {p : Plan} (hok : p.ok = true) (r : Nat) (hr : r < 12) : valL (highs p) r 0 - valL (lows p) r 0 ≤ 24000 ∧ -23199768 ≤ valL (lows p) r 0 ∧ valL (highs p) r 0 ≤ 23199768 := by
  obtain ⟨a1, a2, a3, a4, a5⟩ := Plan.ok_len hok
  have h1 := val_widths p.starts r 0
  have h2 := sumL_le 6000 (widths p.starts r 0) (fun w hw => (widths_bound r (by omega) p.starts 0 a5 (by omega) w hw).2)
  have h3 := val_232 (lows p) r hr (by rw [lows_len]; omega) (lows_bound hok)
  have h4 := val_232 (highs p) r hr (by rw [highs_len]; omega) (highs_bound hok)
  rw [widths_len] at h2
  have e1 : valL (highs p) r 0 = valL (p.starts.map Sp.high) r 0 := rfl
  have e2 : valL (lows p) r 0 = valL (p.starts.map Sp.low) r 0 := rfl
  omega
set_option maxHeartbeats 2000000 in
theorem ref01_Left_meets (p : Plan) (ts : List (List Int)) (r : Nat) (hok : p.ok = true) (hr : r < 12) (hne : ts ≠ []) (hw : ∀ t, t ∈ ts → within p.starts t = true) (hcnt : ts.length ≤ 2401) : Meets (Tz g) f_ref01_Left [.list (ts.map ints), int r] ⟨.d (int (leftR ts r)), []⟩ := by
  obtain ⟨a1, a2, a3, a4, a5⟩ := Plan.ok_len hok
  obtain ⟨w1, w2, w3⟩ := row_wide hok r hr
  generalize hL : valL (lows p) r 0 = L at w1 w2
  generalize hH : valL (highs p) r 0 = H at w1 w3
  have hval : ∀ t, t ∈ ts → L ≤ valL t r 0 ∧ valL t r 0 ≤ H := fun t ht => ⟨by rw [← hL]; exact val_low (hw t ht) r, by rw [← hH]; exact val_high (hw t ht) r⟩
  have hmeet : ∀ t, t ∈ ts → Meets (Tz g) f_ref01_value [ints t, int r] ⟨.d (int (valL t r 0)), []⟩ := fun t ht => by
    have hl := within_length (hw t ht)
    exact ref01_value_meets t r (by omega) (by omega) (far_of (within_bound a5 (hw t ht)))
  refine meets_ref01_Left ?_
  unfold vc_ref01_Left
  obtain ⟨t0, ht0, htm⟩ : ∃ t0, ts[0]? = some t0 ∧ t0 ∈ ts := by
    cases ts with
    | nil => exact absurd rfl hne
    | cons a b => exact ⟨a, rfl, by simp⟩
  obtain ⟨tabs, htabs⟩ : ∃ tabs, tabs = ts.map ints := ⟨_, rfl⟩
  have htd : tabs[0]? = some (ints t0) := by rw [htabs, List.getElem?_map, ht0]; rfl
  have htl : tabs.length = ts.length := by rw [htabs]; simp
  have hvl : (valsR ts r).length = ts.length := by simp [valsR]
  have hpos : 0 < ts.length := List.length_pos_iff.2 hne
  rw [← htabs]
  simp [htd]
  have hb0 := hval t0 htm
  refine CALL.val [ints t0, int r] _ rfl (hmeet t0 htm) (.inl rfl) ?_
  refine LOOP.mk (Nat × Int × Int) (fun st => [.d (.list tabs), .d (int r), .own 112 st.1, .d (int st.2.1), .d (int st.2.2), .d (int st.1)]) (fun st => [(112, some ⟨st.1, T_int, .lst (((valsR ts r).take st.1).map int)⟩)])
    (fun st => st.1 ≤ ts.length ∧ L ≤ st.2.1 ∧ st.2.2 ≤ H ∧ st.2.1 ≤ st.2.2 ∧ ∀ v, v ∈ (valsR ts r).take st.1 → st.2.1 ≤ v ∧ v ≤ st.2.2) (fun st => ts.length - st.1) [(2, T_int)] (by simp) (0, valL t0 r 0, valL t0 r 0) (by simp; omega) (by simp [WEAK]) (fun _ _ => rfl) ?_
  rintro ⟨k, lo, hi⟩ ⟨hk, hlo, hhi, hlh, hall⟩
  simp only at hk hlo hhi hlh hall
  simp [vc_ref01_Left_k2, htl]
  constructor
  · intro hlt
    have hg : ts[k]? = some ts[k] := List.getElem?_eq_getElem hlt
    have hm := List.getElem_mem hlt
    generalize ts[k] = t at hg hm
    have hgm : tabs[k]? = some (ints t) := by rw [htabs, List.getElem?_map, hg]; rfl
    have hgv : (valsR ts r)[k]? = some (valL t r 0) := by rw [valsR, List.getElem?_map, hg]; rfl
    have htn := take_next hgv
    have hb := hval t hm
    simp [hgm]
    refine CALL.val [ints t, int r] _ rfl (hmeet t hm) (.inl rfl) ?_
    generalize valL t r 0 = v at hb hgv htn
    simp [vc_ref01_Left_k0]
    refine ⟨by omega, ?_⟩
    rw [wrap_id (n := (k : Int) + 1) (by omega) (by omega)]
    refine ⟨k + 1, by omega, min lo v, by omega, max hi v, by omega, by omega, ?_, ?_, by omega⟩
    · intro x hx
      rw [htn] at hx
      rcases List.mem_append.1 hx with hx | hx
      · have := hall x hx
        omega
      · simp at hx
        omega
    · have hgv2 : ((valsR ts r).map int)[k]? = some (int v) := by rw [List.getElem?_map, hgv]; rfl
      rw [take_next hgv2]
      simp [WEAK]
  · intro hge
    have hkt : k = ts.length := by omega
    subst hkt
    have hta : (valsR ts r).take ts.length = valsR ts r := take_all (by omega)
    have hta2 : ((valsR ts r).map int).take ts.length = (valsR ts r).map int := take_all (by simp; omega)
    rw [hta] at hall
    rw [hta2]
    rw [wrap_id (n := hi - lo) (by omega) (by omega), wrap_id (n := hi - lo + 1) (by omega) (by omega)]
    obtain ⟨w, hwn⟩ : ∃ w : Nat, hi - lo + 1 = w := ⟨(hi - lo + 1).toNat, by omega⟩
    rw [hwn]
    simp
    refine ⟨by omega, ?_⟩
    refine LOOP.mk Nat (fun i => [.own 112 ts.length, .d (int lo), .own 184 0, .d (int (lftN (valsR ts r) i)), .d (int i)]) (fun i => [(184, some ⟨0, T_int, .lst ((cntL (valsR ts r) i lo w).map fun (c : Nat) => int c)⟩), (112, some ⟨ts.length, T_int, .lst ((valsR ts r).map int)⟩)])
      (fun i => i ≤ ts.length) (fun i => ts.length - i) [] (by simp) 0 (by omega) (by simp [WEAK, cntL_zero, lftN]) (fun _ _ => rfl) ?_
    intro i hi2
    simp [vc_ref01_Left_k1, hvl]
    constructor
    · intro hlt
      obtain ⟨v, hgv⟩ : ∃ v, (valsR ts r)[i]? = some v := ⟨_, List.getElem?_eq_getElem (by omega)⟩
      have hvm := hall v (List.mem_of_getElem? hgv)
      obtain ⟨k, hk⟩ : ∃ k : Nat, v - lo = k := ⟨(v - lo).toNat, by omega⟩
      have hgc := cntL_get (valsR ts r) i lo w v k hk.symm (by omega)
      have hset := cntL_set (valsR ts r) i lo w v k hgv hk.symm
      have hls := lftN_succ (valsR ts r) i v hgv
      have hts := take_count_succ (valsR ts r) i v v hgv
      rw [if_pos rfl] at hts
      have hcl : ((valsR ts r).take i).count v ≤ ((valsR ts r).take i).length := List.count_le_length
      have hcl2 : ((valsR ts r).take i).length ≤ 2401 := by simp; omega
      simp [hgv]
      rw [wrap_id (n := v - lo) (by omega) (by omega), hk]
      simp [hgc]
      rw [wrap_id (n := ((((valsR ts r).take i).count v : Nat) : Int) + 1) (by omega) (by omega)]
      have hset2 : ((cntL (valsR ts r) i lo w).map fun (c : Nat) => int c).set k (.num .i64 (((((valsR ts r).take i).count v : Nat) : Int) + 1)) = (cntL (valsR ts r) (i + 1) lo w).map fun (c : Nat) => int c := by
        rw [← hset, List.map_set, hts]
        simp
      have hgc2 := cntL_get (valsR ts r) (i + 1) lo w v k hk.symm (by omega)
      have hcl3 : k < (cntL (valsR ts r) i lo w).length := by rw [cntL_len]; omega
      rw [hset2, wrap_id (n := (i : Int) + 1) (by omega) (by omega)]
      refine ⟨hlt, hcl3, by omega, hcl3, int (((valsR ts r).take (i + 1)).count v), by rw [List.getElem?_map, hgc2]; rfl, _, rfl, i + 1, by omega, ?_, by omega⟩
      rw [hls]
      simp [WEAK]
      omega
    · intro hge
      have : i = ts.length := by omega
      subst this
      simp [leftR]
end Go.Vc

namespace Go.Vc
open Go Go.Proofs
variable {g : GG}
attribute [local simp] and_assoc
attribute [local simp] ints_cells
theorem asksL_drop (ts : List (List Int)) (n r : Nat) (h : r < n) : (asksL ts n).drop r = ((r : Int), (leftR ts r : Int)) :: (asksL ts n).drop (r + 1) := by
  have hl : (asksL ts n).length = n := by simp [asksL]
  rw [List.drop_eq_getElem_cons (by omega)]
  simp [asksL]
def askI (ts : List (List Int)) (i r : Nat) : Int × Int := (if i = 0 then 0 else (r : Int), (lftN (valsR ts r) i : Int))
theorem askI_succ (ts : List (List Int)) (i r : Nat) : askI ts (i + 1) r = ((r : Int), (lftN (valsR ts r) (i + 1) : Int)) := by simp [askI]
def rowsI (ts : List (List Int)) (n i q : Nat) : List (Int × Int) := (List.range n).map fun (r : Nat) => if r < q then askI ts (i + 1) r else askI ts i r
theorem rowsI_len (ts : List (List Int)) (n i q : Nat) : (rowsI ts n i q).length = n := by simp [rowsI]
theorem rowsI_get (ts : List (List Int)) (n i q : Nat) (h : q < n) : (rowsI ts n i q)[q]? = some (askI ts i q) := by simp [rowsI, h]
theorem rowsI_set (ts : List (List Int)) (n i q : Nat) : (rowsI ts n i q).set q (askI ts (i + 1) q) = rowsI ts n i (q + 1) := by
  apply List.ext_getElem
  · simp [rowsI]
  · intro j h1 h2
    rw [List.getElem_set]
    simp only [rowsI, List.getElem_map, List.getElem_range]
    by_cases hj : q = j
    · subst hj
      simp
    · rw [if_neg hj]
      by_cases hq : j < q
      · rw [if_pos hq, if_pos (by omega)]
      · rw [if_neg hq, if_neg (by omega)]
theorem rowsI_next (ts : List (List Int)) (n i : Nat) : rowsI ts n i n = rowsI ts n (i + 1) 0 := by
  apply List.ext_getElem
  · simp [rowsI]
  · intro j h1 h2
    have : j < n := by simpa [rowsI] using h1
    simp [rowsI, this]
theorem rowsI_zero (ts : List (List Int)) (n : Nat) : rowsI ts n 0 0 = List.replicate n (0, 0) := by
  apply List.ext_getElem
  · simp [rowsI]
  · intro j h1 h2
    simp [rowsI, askI, lftN]
theorem rowsI_end (ts : List (List Int)) (n i : Nat) (hi : ts.length = i + 1) : rowsI ts n (i + 1) 0 = asksL ts n := by
  apply List.ext_getElem
  · simp [rowsI, asksL]
  · intro j h1 h2
    simp [rowsI, asksL, askI_succ, leftR, hi]
def cntOK (ts : List (List Int)) (n i q : Nat) (l : Ents) : Prop := ∀ (r : Nat) (v : Int), r < n → cntE ⟨r, v⟩ l = ((valsR ts r).take (if r < q then i + 1 else i)).count v
theorem cntOK_zero (ts : List (List Int)) (n : Nat) : cntOK ts n 0 0 [] := by
  intro r v hr
  simp [cntE]
theorem cntOK_next {ts : List (List Int)} {n i : Nat} {l : Ents} (h : cntOK ts n i n l) : cntOK ts n (i + 1) 0 l := by
  intro r v hr
  rw [h r v hr]
  simp [hr]
theorem cntOK_bump {ts : List (List Int)} {n i q : Nat} {l : Ents} {w : Int} (h : cntOK ts n i q l) (hw : (valsR ts q)[i]? = some w) : cntOK ts n i (q + 1) (bump ⟨q, w⟩ l) := by
  intro r v hr
  rw [cntE_bump, h r v hr]
  by_cases hrq : r = q
  · subst hrq
    rw [if_neg (by omega), if_pos (by omega), take_count_succ _ i w v hw]
    by_cases hv : w = v
    · subst hv
      simp [eqS]
    · rw [if_neg hv]
      have : eqS ⟨(r : Int), v⟩ ⟨(r : Int), w⟩ = false := by
        simp [eqS]
        exact fun e => hv e.symm
      rw [this]
  · have : eqS ⟨(r : Int), v⟩ ⟨(q : Int), w⟩ = false := by
      simp [eqS]
      intro e
      exact absurd (by omega) hrq
    rw [this]
    by_cases hlt : r < q
    · rw [if_pos hlt, if_pos (by omega)]
      rfl
    · rw [if_neg hlt, if_neg (by omega)]
      rfl
end Go.Vc

namespace Go.Vc
open Go Go.Proofs
variable {g : GG}
attribute [local simp] and_assoc
attribute [local simp] ints_cells
@[simp] theorem POST_tup3 {h : Heap} {a b c : AV} {x y z : D} : POST (.tup [a, b, c]) h [] (.tup [.d x, .d y, .d z]) [] ↔ argD (bodyOf h) a = some x ∧ argD (bodyOf h) b = some y ∧ argD (bodyOf h) c = some z := by
  constructor
  · rintro ⟨rs, h1, h2, h3, h4, h5, h6, h7⟩
    obtain ⟨g1, g2, g3, _⟩ := h5
    exact ⟨by cases a <;> exact g1, by cases b <;> exact g2, by cases c <;> exact g3⟩
  · rintro ⟨g1, g2, g3⟩
    refine ⟨[], Nat.zero_le _, rfl, rfl, rfl, ⟨by cases a <;> exact g1, by cases b <;> exact g2, by cases c <;> exact g3, trivial⟩, trivial, ?_⟩
    simp [disjB, stay]
theorem truthsL_within : ∀ (rest : List Sp) (now t : List Int), t ∈ truthsL rest now → ∃ u, t = now ++ u ∧ within rest u = true
  | [], now, t, h => by simp [truthsL] at h; exact ⟨[], by simp [h], rfl⟩
  | s :: r, now, t, h => by
    simp only [truthsL, List.mem_flatMap, List.mem_range] at h
    obtain ⟨i, hi, h⟩ := h
    obtain ⟨u, hu, hw⟩ := truthsL_within r _ t h
    refine ⟨(s.low + (i : Int)) :: u, by simp [hu], ?_⟩
    simp only [within, hw, Bool.and_true]
    simp [inB]
    unfold widthN at hi
    omega
theorem fitL_within {p : Plan} {sn : List Sn} {t : List Int} (h : t ∈ fitL p sn) : within p.starts t = true := by
  obtain ⟨u, hu, hw⟩ := truthsL_within p.starts [] t (List.mem_filter.1 h).1
  rw [hu]
  exact hw
def nextR2 (vs0 : List AV) (v6 v16 v17 v18 v19 : AV) (h15 : Heap) (next26 : List AV → Heap → Prop) : Prop :=
  LOOKUP 1002 (.num .i64 0) false (nth vs0 0) v19 h15 fun v20 =>
  MAXK v18 v20 fun v21 =>
  BUILD [(0, 1), (1, 1)] [.d (.num .i64 0), .d (.num .i64 0)] [(0, (nth vs0 7)), (1, v21)] fun v22 =>
  IADDR 2 T_differ_asked (nth vs0 1) (nth vs0 7) h15 fun v23 =>
  STORE 2 v23 v22 h15 fun h24 =>
  ORDX [] [0, 0, 0, 0, 0, 24, 56, 120, 0, 0, 768, 2040, 4092, 8191, 16383] [(5, wr h15 h15, (ids (nth vs0 1))), (6, wr h15 h15, (ids v16)), (7, wr h15 h15, (ids v17)), (9, wr h15 h15, (ids v6)), (10, wr h15 h15, (ids (nth vs0 0))), (13, wr h15 h15, (ids (nth vs0 1))), (14, wr h15 h24, (ids v23))] ∧
  BIN 0 .add (nth vs0 7) (.d (.num .i64 1)) fun v25 =>
  next26 [(nth vs0 0), (nth vs0 1), (nth vs0 2), (nth vs0 3), (nth vs0 4), (nth vs0 5), (nth vs0 6), v25] h24
def nextR (vs0 : List AV) (v6 v9 : AV) (h8 : Heap) (next26 : List AV → Heap → Prop) : Prop :=
  LOOKUP 1002 (.num .i64 0) false (nth vs0 0) v9 h8 fun v10 =>
  BIN 0 .add v10 (.d (.num .i64 1)) fun v11 =>
  MENTRY 1002 (.num .i64 0) (nth vs0 0) v9 h8 fun v12 h13 =>
  EXT v12 1 fun v14 =>
  MSTORE (nth vs0 0) v14 v11 h13 fun h15 =>
  ORDX [(2, 4)] [0, 0, 3, 7, 3, 19, 63] [(1, wr h8 h8, (ids v6)), (2, wr h8 h8, (ids (nth vs0 0))), (4, wr h8 h13, (ids (nth vs0 0))), (6, wr h13 h15, (ids (nth vs0 0)))] ∧
  IADDR 2 T_differ_asked (nth vs0 1) (nth vs0 7) h15 fun v16 =>
  FADDR 1 v16 h15 fun v17 =>
  LOAD false 1 v17 h15 fun v18 =>
  LOAD true 2 v6 h15 fun v19 =>
  nextR2 vs0 v6 v16 v17 v18 v19 h15 next26
theorem next_k0_eq (P : Ctx) (pre : List ABlk) (r : AV) (post : List PB) (vs0 : List AV) (h2 : Heap) (next26 : List AV → Heap → Prop) (next28 : List AV → Heap → Prop) : vc_differ_Next_k0 P pre r post vs0 h2 next26 next28 =
  (BIN 0 .lss (nth vs0 7) (nth vs0 6) fun v1 =>
  COND v1
  (IADDR 1 T_int (nth vs0 5) (nth vs0 7) h2 fun v3 =>
  LOAD false 1 v3 h2 fun v4 =>
  BUILD [(0, 1), (1, 1)] [.d (.num .i64 0), .d (.num .i64 0)] [(0, (nth vs0 7)), (1, v4)] fun v5 =>
  ALLOC T_api_DifferSeen [.d (.num .i64 0), .d (.num .i64 0)] 416 h2 fun v6 h7 =>
  STORE 2 v6 v5 h7 fun h8 =>
  LOAD true 2 v6 h8 fun v9 => nextR vs0 v6 v9 h8 next26)
  (BIN 0 .add (nth vs0 4) (.d (.num .i64 1)) fun v27 =>
  next28 [(nth vs0 0), (nth vs0 1), (nth vs0 2), (nth vs0 3), v27] h2)) := rfl
set_option maxHeartbeats 4000000 in
theorem differ_Next_data (p : Plan) (sn : List Sn) (n : Nat) (hok : p.ok = true) (hn : p.rows = n) (h : seensB p sn = true) (hf : fitL p sn ≠ []) :
    Meets (Tz g) f_differ_Next [p.d, seens sn] ⟨.tup [.d (int (nextA (fitL p sn) n).1), .d (int (nextA (fitL p sn) n).2), .d (int 0)], []⟩ := by
  obtain ⟨a1, a2, a3, a4, a5⟩ := Plan.ok_len hok
  obtain ⟨h1, h2⟩ := seensB_rows hn h
  have hw : ∀ t, t ∈ fitL p sn → within p.starts t = true := fun t ht => fitL_within ht
  have hcnt : (fitL p sn).length ≤ 2401 := fitL_cnt hok
  refine meets_differ_Next ?_
  unfold vc_differ_Next
  simp [Plan.d, spans]
  refine CALL.val [p.d] _ rfl (differ_isPlan_meets p (by omega)) (.inl rfl) ?_
  simp [vc_differ_Next_k5, hok]
  refine CALL.val [p.d, seens sn] _ rfl (differ_areSeen_meets p sn hok (by omega)) (.inl rfl) ?_
  simp [vc_differ_Next_k4, h]
  refine CALL.val [p.d, seens sn] _ rfl (agreeing_fit p sn n hok hn h) (.inl rfl) ?_
  simp [vc_differ_Next_k3, hf, MKMAP, hn]
  generalize fitL p sn = ts at *
  obtain ⟨tabs, htabs⟩ : ∃ tabs, tabs = ts.map (tabD p) := ⟨_, rfl⟩
  have htl : tabs.length = ts.length := by rw [htabs]; simp
  rw [← htabs]
  have hz : List.replicate n (D.agg [int 0, int 0]) = (rowsI ts n 0 0).map askD := by rw [rowsI_zero]; simp [askD]
  refine ⟨by omega, ?_⟩
  refine LOOP.mk (Nat × Ents) (fun st => [.mapv 184, .own 216 0, .d (.list tabs), .d (int ts.length), .d (int st.1)]) (fun st => [(216, some ⟨0, T_differ_asked, .lst ((rowsI ts n st.1 0).map askD)⟩), (184, some ⟨0, 0, .mp (entsM st.2 0) st.2.length⟩)])
    (fun st => st.1 ≤ ts.length ∧ cntOK ts n st.1 0 st.2) (fun st => ts.length - st.1) [] (by simp) (0, []) ⟨by simp, cntOK_zero ts n⟩ (by rw [← hz]; simp [WEAK, entsM]) (fun _ _ => rfl) ?_
  rintro ⟨i, l⟩ ⟨hi, hcl⟩
  simp only at hi hcl
  simp [vc_differ_Next_k2]
  constructor
  · intro hlt
    have hg : ts[i]? = some ts[i] := List.getElem?_eq_getElem hlt
    have hm := List.getElem_mem hlt
    generalize ts[i] = t at hg hm
    have hgm : tabs[i]? = some (tabD p t) := by rw [htabs, List.getElem?_map, hg]; rfl
    have hwt := hw t hm
    have htl2 := within_length hwt
    have hbd := far_of (within_bound a5 hwt)
    have hhl : (heads t n).length = n := by simp [heads]
    have hhv := heads_val t n (by omega)
    simp [hgm, tabD]
    refine CALL.val [tabD p t] _ rfl (differ_values_data p t n hn (by omega) (by omega) (by omega) hbd) (.inl rfl) ?_
    simp [ints, hhl]
    refine LOOP.mk (Nat × Ents) (fun st => [.mapv 184, .own 216 0, .d (.list tabs), .d (int ts.length), .d (int i), .d (.list ((heads t n).map int)), .d (int n), .d (int st.1)]) (fun st => [(216, some ⟨0, T_differ_asked, .lst ((rowsI ts n i st.1).map askD)⟩), (184, some ⟨0, 0, .mp (entsM st.2 0) st.2.length⟩)])
      (fun st => st.1 ≤ n ∧ cntOK ts n i st.1 st.2) (fun st => n - st.1) [] (by simp) (0, l) ⟨by simp, hcl⟩ (by simp [WEAK]) (fun _ _ => rfl) ?_
    rintro ⟨q, l2⟩ ⟨hq, hcl2⟩
    simp only at hq hcl2
    rw [next_k0_eq]
    simp
    constructor
    · intro hqn
      obtain ⟨v, hv⟩ : ∃ v, (heads t n)[q]? = some v := ⟨_, List.getElem?_eq_getElem (by omega)⟩
      have hv2 : v = valL t q 0 := by
        rw [hhv] at hv
        simp [hqn] at hv
        exact hv.symm
      have hgv : (valsR ts q)[i]? = some v := by rw [valsR, List.getElem?_map, hg, hv2]; rfl
      simp [hv]
      obtain ⟨x, hx⟩ : ∃ x : Sn, x = ⟨q, v⟩ := ⟨_, rfl⟩
      have hxd : D.agg [D.num IntKind.i64 (q : Int), D.num IntKind.i64 v] = x.d := by rw [hx]; rfl
      have hcv := hcl2 q v hqn
      rw [if_neg (by omega), ← hx] at hcv
      have hcb : ((valsR ts q).take i).count v ≤ ((valsR ts q).take i).length := List.count_le_length
      have hcb2 : ((valsR ts q).take i).length ≤ 2401 := by simp; omega
      have hbump : cntOK ts n i (q + 1) (bump x l2) := by rw [hx]; exact cntOK_bump hcl2 hgv
      have hcv2 := hbump q v hqn
      rw [if_pos (by omega), ← hx] at hcv2
      have hls := lftN_succ (valsR ts q) i v hgv
      rw [← hcv2] at hls
      have hts := take_count_succ (valsR ts q) i v v hgv
      rw [if_pos rfl, ← hcv, ← hcv2] at hts
      rw [hxd]
      unfold nextR
      refine count_step (e := 0) (l := l2) (x := x) (by simp) (by omega) ?_
      intro b
      refine ⟨rfl, ?_⟩
      simp
      refine ⟨by rw [rowsI_len]; exact hqn, askD (askI ts i q), ⟨_, _, rowsI_get ts n i q hqn, rfl⟩, int (lftN (valsR ts q) i), rfl, ?_⟩
      rw [hxd]
      unfold nextR2
      refine lookup_ents (e := 0) (l := bump x l2) (by simp) ?_
      have hset : ((rowsI ts n i q).map askD).set q (.agg [.num .i64 (q : Int), .num .i64 (max (lftN (valsR ts q) i : Int) (cntE x (bump x l2) : Int))]) = (rowsI ts n i (q + 1)).map askD := by
        rw [← rowsI_set, List.map_set, askI_succ, hls]
        have hmx : ((max (lftN (valsR ts q) i) (cntE x (bump x l2)) : Nat) : Int) = max (lftN (valsR ts q) i : Int) (cntE x (bump x l2) : Int) := by omega
        simp only [askD, hmx]
      have hql : q < (rowsI ts n i q).length := by rw [rowsI_len]; exact hqn
      simp [hql]
      refine ⟨rfl, ?_⟩
      simp only [askD, List.drop]
      rw [hset, wrap_id (n := (q : Int) + 1) (by omega) (by omega)]
      exact ⟨q + 1, by omega, bump x l2, hbump, by simp [WEAK], by omega⟩
    · intro hge
      have : q = n := by omega
      subst this
      rw [wrap_id (n := (i : Int) + 1) (by omega) (by omega)]
      refine ⟨i + 1, by omega, l2, cntOK_next hcl2, ?_, by omega⟩
      rw [rowsI_next]
      simp [WEAK]
  · intro hge
    have : i = ts.length := by omega
    subst this
    obtain ⟨i, hi2⟩ : ∃ i, ts.length = i + 1 := ⟨ts.length - 1, by have := List.length_pos_iff.2 hf; omega⟩
    have hd := asksL_drop ts n 0 (by omega)
    simp only [List.drop_zero] at hd
    have hna : nextA ts n = bestA ((asksL ts n).drop 1) (((0 : Nat) : Int), (leftR ts 0 : Int)) := rfl
    rw [hi2, rowsI_end ts n i hi2, hd, hna]
    have hrl : ((asksL ts n).drop 1).length ≤ 1000 := by simp [asksL]; omega
    have e01 : (asksL ts n).drop (0 + 1) = (asksL ts n).drop 1 := rfl
    rw [e01]
    generalize (asksL ts n).drop 1 = rest at hrl
    refine CALL.val [.list (((((0 : Nat) : Int), (leftR ts 0 : Int)) :: rest).map askD), .fn f_differ_Next_1 [] []] _ (by simp) (best_asked_meets _ rest hrl) (.inr (by simp [askD, D.flatB, D.flatB.flatL])) ?_
    simp [vc_differ_Next_k1, askD]
    rfl
end Go.Vc
