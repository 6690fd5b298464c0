/- A part of the proof: general laws of a reading of the model by abstract data, or contracts of the functions that the law calls. -/
import Derived.Test.YtflbianfhogdjaaGreatDoorVc22
import Derived.Test.YtflbianfhogdjaaGreatDoorVc11
import Derived.Test.YtflbianfhogdjaaGreatDoorVc29
import Derived.Test.YtflbianfhogdjaaGreatDoorVc25
set_option maxRecDepth 100000
namespace Go.Vc
open Go Go.Proofs Go.RowKit
def ann_ref01_Choose : Nat → List Nat := fun n => match n with  | _ => []
def vc_ref01_Choose (P : Ctx) (pre : List ABlk) (a0 a1 : AV) (r : AV) (post : List PB) : Prop :=
  let h0 : Heap := numbered 0 pre
  BIN 0 .eql a1 (.d (.num .i64 0)) fun v6 =>
  COND v6
  (POST (.d (.num .i64 1)) h0 pre r post)
  (BIN 0 .sub a1 (.d (.num .i64 1)) fun v9 =>
  CALL P f_ref01_Choose [a0, v9] 72 h0 (fun _ v10 h1 =>
  BIN 0 .sub a0 a1 fun v13 =>
  BIN 0 .add v13 (.d (.num .i64 1)) fun v14 =>
  BIN 0 .mul v10 v14 fun v15 =>
  BIN 0 .quo v15 a1 fun v17 =>
  POST v17 h1 pre r post)
  (fun _ _ _ => False))
theorem vc_ref01_Choose_eq (g : GG) (pre : List ABlk) (a0 a1 : AV) (r : AV) (post : List PB) : vcFn2 (Tz g) false ann_ref01_Choose Tryz.f74 pre [a0, a1] (.ret r) post = vc_ref01_Choose (Tz g) pre a0 a1 r post := by kernel_rfl
theorem hf_ref01_Choose : Tryz.prog.funcs[f_ref01_Choose]? = some Tryz.f74 := by kernel_rfl
theorem ok_ref01_Choose : fnVcOK Tryz.prog Tryz.f74 = true := by kernel_rfl
theorem nt_ref01_Choose : Nat.ble 2 Tryz.f74.ntmps = true := by kernel_rfl
theorem meetsH_ref01_Choose {g : GG} {pre : List ABlk} {a0 a1 : AV} {r : AV} {post : List PB} (hk : Nat.ble pre.length 24 = true) (h : vc_ref01_Choose (Tz g) pre a0 a1 r post) : MeetsH (Tz g) f_ref01_Choose pre [a0, a1] (.ret r) post :=
  meetsH_of_vc (C := Tz g) ann_ref01_Choose hf_ref01_Choose ok_ref01_Choose nt_ref01_Choose hk (pn := false) (Eq.mpr ((vcFn2_eq _ _ _ _ _ _ _ _).trans (vc_ref01_Choose_eq g pre a0 a1 r post)) h)
theorem meets_ref01_Choose {g : GG} {a0 a1 : D} {r : Res} (h : vc_ref01_Choose (Tz g) [] (.d a0) (.d a1) r.val (r.bl.map .upd)) : Meets (Tz g) f_ref01_Choose [a0, a1] r := meetsH_ref01_Choose rfl h
def ann_ref01_value : Nat → List Nat := fun n => match n with | 3 => [0, 1, 5, 6] | _ => []
def vc_ref01_value (P : Ctx) (pre : List ABlk) (a0 a1 : AV) (r : AV) (post : List PB) : Prop :=
  let h0 : Heap := numbered 0 pre
  LOOP [a0, a1, (.d (.num .i64 0)), (.d (.num .i64 0))] h0 48 fun vs1 h2 next1 =>
  LEN false (nth vs1 0) h2 fun v9 =>
  BIN 0 .lss (nth vs1 3) v9 fun v10 =>
  COND v10
  (IADDR 1 T_int (nth vs1 0) (nth vs1 3) h2 fun v16 =>
  LOAD false 1 v16 h2 fun v17 =>
  CALL P f_ref01_Choose [(nth vs1 1), (nth vs1 3)] 144 h2 (fun rd4 v20 h3 =>
  BIN 0 .mul v17 v20 fun v21 =>
  BIN 0 .add (nth vs1 2) v21 fun v22 =>
  ORDX [] [0, 0, 0, 6, 14, 0, 0, 96, 254, 511, 1023] [(3, wr h2 h2, (ids (nth vs1 0))), (4, wr h2 h2, (ids v16)), (7, wr h2 h3, rd4)] ∧
  BIN 0 .add (nth vs1 3) (.d (.num .i64 1)) fun v12 =>
  next1 [(nth vs1 0), (nth vs1 1), v22, v12] h3)
  (fun _ _ _ => False))
  (POST (nth vs1 2) h2 pre r post)
theorem vc_ref01_value_eq (g : GG) (pre : List ABlk) (a0 a1 : AV) (r : AV) (post : List PB) : vcFn2 (Tz g) false ann_ref01_value Tryz.f71 pre [a0, a1] (.ret r) post = vc_ref01_value (Tz g) pre a0 a1 r post := by kernel_rfl
theorem hf_ref01_value : Tryz.prog.funcs[f_ref01_value]? = some Tryz.f71 := by kernel_rfl
theorem ok_ref01_value : fnVcOK Tryz.prog Tryz.f71 = true := by kernel_rfl
theorem nt_ref01_value : Nat.ble 2 Tryz.f71.ntmps = true := by kernel_rfl
theorem meetsH_ref01_value {g : GG} {pre : List ABlk} {a0 a1 : AV} {r : AV} {post : List PB} (hk : Nat.ble pre.length 24 = true) (h : vc_ref01_value (Tz g) pre a0 a1 r post) : MeetsH (Tz g) f_ref01_value pre [a0, a1] (.ret r) post :=
  meetsH_of_vc (C := Tz g) ann_ref01_value hf_ref01_value ok_ref01_value nt_ref01_value hk (pn := false) (Eq.mpr ((vcFn2_eq _ _ _ _ _ _ _ _).trans (vc_ref01_value_eq g pre a0 a1 r post)) h)
theorem meets_ref01_value {g : GG} {a0 a1 : D} {r : Res} (h : vc_ref01_value (Tz g) [] (.d a0) (.d a1) r.val (r.bl.map .upd)) : Meets (Tz g) f_ref01_value [a0, a1] r := meetsH_ref01_value rfl h
end Go.Vc

namespace Go.Vc
open Go Go.Proofs
variable {g : GG}
theorem take_next {α : Type} {L : List α} {k : Nat} {x : α} (h : L[k]? = some x) : L.take (k + 1) = L.take k ++ [x] := by
  rw [List.take_add_one, h]; rfl
theorem take_all {α : Type} {L : List α} {k : Nat} (h : L.length ≤ k) : L.take k = L := List.take_of_length_le h
theorem ref01_Choose_meets (n : Nat) (hn : n ≤ 12) : ∀ k : Nat, k ≤ 6 → Meets (Tz g) f_ref01_Choose [int n, int k] ⟨.d (int (ch n k)), []⟩
  | 0, _ => by
    refine meets_ref01_Choose ?_
    unfold vc_ref01_Choose
    simp [ch_zero]
  | k + 1, hk => by
    have hf := ch_facts n (by omega) k (by omega)
    refine meets_ref01_Choose ?_
    unfold vc_ref01_Choose
    simp
    constructor
    · intro h; omega
    · intro h
      rw [wrap_id (by omega) (by omega)]
      refine CALL.val _ _ rfl (ref01_Choose_meets n hn k (by omega)) (.inl rfl) ?_
      simp
      rw [wrap_id (n := (n : Int) - ((k : Int) + 1)) (by omega) (by omega)]
      rw [wrap_id (n := (n : Int) - ((k : Int) + 1) + 1) (by omega) (by omega)]
      rw [wrap_id (n := (ch n k : Int) * ((n : Int) - ((k : Int) + 1) + 1)) (by omega) (by omega)]
      rw [hf.2.1]
      have h2 := (ch_facts n (by omega) (k + 1) (by omega)).1
      rw [wrap_id (n := (ch n (k + 1) : Int)) (by omega) (by omega)]
      simp
      exact h
theorem ref01_value_meets (t : List Int) (row : Nat) (hr : row ≤ 12) (hl : t.length ≤ 6) (hb : ∀ x, x ∈ t → -1000000000 ≤ x ∧ x ≤ 1000000000) : Meets (Tz g) f_ref01_value [ints t, int row] ⟨.d (int (valL t row 0)), []⟩ := by
  refine meets_ref01_value ?_
  unfold vc_ref01_value
  simp [ints]
  refine LOOP.mk Nat (fun k => [.d (ints t), .d (int row), .d (int (valL (t.take k) row 0)), .d (int k)]) (fun _ => []) (fun k => k ≤ t.length) (fun k => t.length - k) [] (by simp) 0 (by omega) (by simp [WEAK, ints, valL]) (fun _ _ => rfl) ?_
  intro k hk
  simp [ints]
  constructor
  · intro hlt
    have hlt : k < t.length := by omega
    have hg : t[k]? = some t[k] := List.getElem?_eq_getElem hlt
    simp [hg]
    refine CALL.val _ _ rfl (ref01_Choose_meets row hr k (by omega)) (.inl rfl) ?_
    have h1 := hb t[k] (List.getElem_mem _)
    have h2 := (ch_facts row (by omega) k (by omega)).1
    have h3 := mul_bound t[k] (ch row k : Int) h1.1 h1.2 (by omega) (by omega)
    have h4 := valL_bound row hr (t.take k) 0 (fun x hx => hb x (List.mem_of_mem_take hx)) (by simp; omega)
    have h5 : (t.take k).length = k := by simp; omega
    rw [h5] at h4
    simp
    rw [wrap_id (n := t[k] * (ch row k : Int)) (by omega) (by omega)]
    rw [wrap_id (n := valL (t.take k) row 0 + t[k] * (ch row k : Int)) (by omega) (by omega)]
    rw [wrap_id (n := (k : Int) + 1) (by omega) (by omega)]
    refine ⟨rfl, k + 1, by omega, ?_, by omega⟩
    have h6 := valL_append (t.take k) t[k] row 0
    rw [h5, Nat.zero_add] at h6
    have h7 : t.take (k + 1) = t.take k ++ [t[k]] := by rw [List.take_add_one, hg]; rfl
    have h8 : valL (t.take (k + 1)) row 0 = valL (t.take k) row 0 + t[k] * (ch row k : Int) := by rw [h7, h6]
    simp [WEAK, h8]
  · intro hge
    have : k = t.length := by omega
    subst this
    simp
end Go.Vc

namespace Go.Vc
open Go Go.Proofs
variable {g : GG}
end Go.Vc

namespace Go.Vc
open Go Go.Proofs
variable {g : GG}
attribute [local simp] and_assoc
theorem lows_len (p : Plan) : (lows p).length = p.starts.length := by simp [lows]
theorem highs_len (p : Plan) : (highs p).length = p.starts.length := by simp [highs]
theorem lows_within {p : Plan} (h : p.ok = true) : within p.starts (lows p) = true := within_lows fun s hs => (startB_le ((Plan.ok_len h).2.2.2.2 s hs)).2.1
theorem highs_within {p : Plan} (h : p.ok = true) : within p.starts (highs p) = true := within_highs fun s hs => (startB_le ((Plan.ok_len h).2.2.2.2 s hs)).2.1
theorem far_of {l : List Int} (h : ∀ x, x ∈ l → -99999 ≤ x ∧ x ≤ 99999) : ∀ x, x ∈ l → -1000000000 ≤ x ∧ x ≤ 1000000000 := fun x hx => by have := h x hx; omega
theorem lows_bound {p : Plan} (h : p.ok = true) : ∀ x, x ∈ lows p → -99999 ≤ x ∧ x ≤ 99999 := within_bound (Plan.ok_len h).2.2.2.2 (lows_within h)
theorem highs_bound {p : Plan} (h : p.ok = true) : ∀ x, x ∈ highs p → -99999 ≤ x ∧ x ≤ 99999 := within_bound (Plan.ok_len h).2.2.2.2 (highs_within h)
end Go.Vc

namespace Go.Vc
open Go Go.Proofs
variable {g : GG}
attribute [local simp] and_assoc
def turn {α : Type} (a b : List α) (k : Nat) : List α := a.take k ++ b.drop k
@[simp high] theorem BIN_Sp (a b : Sp) (K : AV → Prop) : BIN 1002 .neq (.d (.agg [int a.low, int a.high])) (.d (.agg [int b.low, int b.high])) K = K (.d (.bool !decide (a = b))) := by
  have e : binD 1002 .neq (.agg [int a.low, int a.high]) (.agg [int b.low, int b.high]) = some (.bool !decide (a = b)) := by
    obtain ⟨a1, a2⟩ := a
    obtain ⟨b1, b2⟩ := b
    by_cases h1 : a1 = b1 <;> by_cases h2 : a2 = b2 <;> simp [h1, h2]
  show (∃ r, binD 1002 .neq _ _ = some r ∧ K (.d r)) = _
  rw [e]
  simp
end Go.Vc

namespace Go.Vc
open Go Go.Proofs
variable {g : GG}
theorem known_call (hg : GOK g) {new : Nat} {h : Heap} {K KP : List Nat → AV → Heap → Prop} (h3 : K [] (.d (.bool true)) h) : CALL (Tz g) f_law01_known [] new h K KP :=
  CALL.val [] _ rfl (known_meets hg) (.inl rfl) h3
end Go.Vc
