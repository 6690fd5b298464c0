/- A part of the proof: general laws of a reading of the model by abstract data, or contracts of the functions that the law calls. -/
import Derived.Test.YtnbdfpppcdgkpaaGreatDoorVc27
import Derived.Test.YtnbdfpppcdgkpaaGreatDoorVc15
import Derived.Test.YtnbdfpppcdgkpaaGreatDoorVc32
set_option maxRecDepth 100000
namespace Go.Vc
open Go Go.Proofs Go.RowKit
def ann_ref01_Size : Nat → List Nat := fun n => match n with  | _ => []
def vc_ref01_Size (P : Ctx) (pre : List ABlk) (a0 a1 : AV) (r : AV) (post : List PB) : Prop :=
  let h0 : Heap := numbered 0 pre
  BOX T_api_DifferPlan a0 24 h0 fun v2 h1 =>
  FADDR 1 v2 h1 fun v6 =>
  LOAD false 1 v6 h1 fun v7 =>
  CALL P f_ref01_in [a1, (.d (.num .i64 1)), v7] 64 h1 (fun _ v8 h2 =>
  POST v8 h2 pre r post)
  (fun _ _ _ => False)
theorem vc_ref01_Size_eq (g : GG) (pre : List ABlk) (a0 a1 : AV) (r : AV) (post : List PB) : vcFn2 (Tz g) false ann_ref01_Size Tryz.f5 pre [a0, a1] (.ret r) post = vc_ref01_Size (Tz g) pre a0 a1 r post := by kernel_rfl
theorem hf_ref01_Size : Tryz.prog.funcs[f_ref01_Size]? = some Tryz.f5 := by kernel_rfl
theorem ok_ref01_Size : fnVcOK Tryz.prog Tryz.f5 = true := by kernel_rfl
theorem nt_ref01_Size : Nat.ble 2 Tryz.f5.ntmps = true := by kernel_rfl
theorem meetsH_ref01_Size {g : GG} {pre : List ABlk} {a0 a1 : AV} {r : AV} {post : List PB} (hk : Nat.ble pre.length 24 = true) (h : vc_ref01_Size (Tz g) pre a0 a1 r post) : MeetsH (Tz g) f_ref01_Size pre [a0, a1] (.ret r) post :=
  meetsH_of_vc (C := Tz g) ann_ref01_Size hf_ref01_Size ok_ref01_Size nt_ref01_Size hk (pn := false) (Eq.mpr ((vcFn2_eq _ _ _ _ _ _ _ _).trans (vc_ref01_Size_eq g pre a0 a1 r post)) h)
theorem meets_ref01_Size {g : GG} {a0 a1 : D} {r : Res} (h : vc_ref01_Size (Tz g) [] (.d a0) (.d a1) r.val (r.bl.map .upd)) : Meets (Tz g) f_ref01_Size [a0, a1] r := meetsH_ref01_Size rfl h
def ann_differ_isState : Nat → List Nat := fun n => match n with  | _ => []
def vc_differ_isState (P : Ctx) (pre : List ABlk) (a0 : AV) (r : AV) (post : List PB) : Prop :=
  let h0 : Heap := numbered 0 pre
  LEN false a0 h0 fun v4 =>
  CALL P f_differ_in [v4, (.d (.num .i64 1)), (.d (.num .i64 4))] 48 h0 (fun _ v5 h1 =>
  CONDG v5
  (CALL P f_slices_ContainsFunc_l_int_int [a0, (.d (.fn f_differ_isState_1 [] []))] 72 h1 (fun _ v8 h3 =>
  NOT v8 fun v9 =>
  POST v9 h3 pre r post)
  (fun _ _ _ => False))
  (POST (.d (.bool false)) h1 pre r post))
  (fun _ _ _ => False)
theorem vc_differ_isState_eq (g : GG) (pre : List ABlk) (a0 : AV) (r : AV) (post : List PB) : vcFn2 (Tz g) false ann_differ_isState Tryz.f55 pre [a0] (.ret r) post = vc_differ_isState (Tz g) pre a0 r post := by kernel_rfl
theorem hf_differ_isState : Tryz.prog.funcs[f_differ_isState]? = some Tryz.f55 := by kernel_rfl
theorem ok_differ_isState : fnVcOK Tryz.prog Tryz.f55 = true := by kernel_rfl
theorem nt_differ_isState : Nat.ble 1 Tryz.f55.ntmps = true := by kernel_rfl
theorem meetsH_differ_isState {g : GG} {pre : List ABlk} {a0 : AV} {r : AV} {post : List PB} (hk : Nat.ble pre.length 24 = true) (h : vc_differ_isState (Tz g) pre a0 r post) : MeetsH (Tz g) f_differ_isState pre [a0] (.ret r) post :=
  meetsH_of_vc (C := Tz g) ann_differ_isState hf_differ_isState ok_differ_isState nt_differ_isState hk (pn := false) (Eq.mpr ((vcFn2_eq _ _ _ _ _ _ _ _).trans (vc_differ_isState_eq g pre a0 r post)) h)
theorem meets_differ_isState {g : GG} {a0 : D} {r : Res} (h : vc_differ_isState (Tz g) [] (.d a0) r.val (r.bl.map .upd)) : Meets (Tz g) f_differ_isState [a0] r := meetsH_differ_isState rfl h
def ann_differ_isState_1 : Nat → List Nat := fun n => match n with  | _ => []
def vc_differ_isState_1 (P : Ctx) (pre : List ABlk) (a0 : AV) (r : AV) (post : List PB) : Prop :=
  let h0 : Heap := numbered 0 pre
  CALL P f_differ_in [a0, (.d (.num .i64 (-1000000000))), (.d (.num .i64 1000000000))] 40 h0 (fun _ v4 h1 =>
  NOT v4 fun v5 =>
  POST v5 h1 pre r post)
  (fun _ _ _ => False)
theorem vc_differ_isState_1_eq (g : GG) (pre : List ABlk) (a0 : AV) (r : AV) (post : List PB) : vcFn2 (Tz g) false ann_differ_isState_1 Tryz.f76 pre [a0] (.ret r) post = vc_differ_isState_1 (Tz g) pre a0 r post := by kernel_rfl
theorem hf_differ_isState_1 : Tryz.prog.funcs[f_differ_isState_1]? = some Tryz.f76 := by kernel_rfl
theorem ok_differ_isState_1 : fnVcOK Tryz.prog Tryz.f76 = true := by kernel_rfl
theorem nt_differ_isState_1 : Nat.ble 1 Tryz.f76.ntmps = true := by kernel_rfl
theorem meetsH_differ_isState_1 {g : GG} {pre : List ABlk} {a0 : AV} {r : AV} {post : List PB} (hk : Nat.ble pre.length 24 = true) (h : vc_differ_isState_1 (Tz g) pre a0 r post) : MeetsH (Tz g) f_differ_isState_1 pre [a0] (.ret r) post :=
  meetsH_of_vc (C := Tz g) ann_differ_isState_1 hf_differ_isState_1 ok_differ_isState_1 nt_differ_isState_1 hk (pn := false) (Eq.mpr ((vcFn2_eq _ _ _ _ _ _ _ _).trans (vc_differ_isState_1_eq g pre a0 r post)) h)
theorem meets_differ_isState_1 {g : GG} {a0 : D} {r : Res} (h : vc_differ_isState_1 (Tz g) [] (.d a0) r.val (r.bl.map .upd)) : Meets (Tz g) f_differ_isState_1 [a0] r := meetsH_differ_isState_1 rfl h
def ann_slices_ContainsFunc_l_int_int : Nat → List Nat := fun n => match n with  | _ => []
def vc_slices_ContainsFunc_l_int_int (P : Ctx) (pre : List ABlk) (a0 a1 : AV) (r : AV) (post : List PB) : Prop :=
  let h0 : Heap := numbered 0 pre
  CALL P f_slices_IndexFunc_l_int_int [a0, a1] 48 h0 (fun _ v7 h1 =>
  BIN 0 .geq v7 (.d (.num .i64 0)) fun v8 =>
  POST v8 h1 pre r post)
  (fun _ _ _ => False)
theorem vc_slices_ContainsFunc_l_int_int_eq (g : GG) (pre : List ABlk) (a0 a1 : AV) (r : AV) (post : List PB) : vcFn2 (Tz g) false ann_slices_ContainsFunc_l_int_int Tryz.f75 pre [a0, a1] (.ret r) post = vc_slices_ContainsFunc_l_int_int (Tz g) pre a0 a1 r post := by kernel_rfl
theorem hf_slices_ContainsFunc_l_int_int : Tryz.prog.funcs[f_slices_ContainsFunc_l_int_int]? = some Tryz.f75 := by kernel_rfl
theorem ok_slices_ContainsFunc_l_int_int : fnVcOK Tryz.prog Tryz.f75 = true := by kernel_rfl
theorem nt_slices_ContainsFunc_l_int_int : Nat.ble 2 Tryz.f75.ntmps = true := by kernel_rfl
theorem meetsH_slices_ContainsFunc_l_int_int {g : GG} {pre : List ABlk} {a0 a1 : AV} {r : AV} {post : List PB} (hk : Nat.ble pre.length 24 = true) (h : vc_slices_ContainsFunc_l_int_int (Tz g) pre a0 a1 r post) : MeetsH (Tz g) f_slices_ContainsFunc_l_int_int pre [a0, a1] (.ret r) post :=
  meetsH_of_vc (C := Tz g) ann_slices_ContainsFunc_l_int_int hf_slices_ContainsFunc_l_int_int ok_slices_ContainsFunc_l_int_int nt_slices_ContainsFunc_l_int_int hk (pn := false) (Eq.mpr ((vcFn2_eq _ _ _ _ _ _ _ _).trans (vc_slices_ContainsFunc_l_int_int_eq g pre a0 a1 r post)) h)
theorem meets_slices_ContainsFunc_l_int_int {g : GG} {a0 a1 : D} {r : Res} (h : vc_slices_ContainsFunc_l_int_int (Tz g) [] (.d a0) (.d a1) r.val (r.bl.map .upd)) : Meets (Tz g) f_slices_ContainsFunc_l_int_int [a0, a1] r := meetsH_slices_ContainsFunc_l_int_int rfl h
def ann_slices_IndexFunc_l_int_int : Nat → List Nat := fun n => match n with | 2 => [0, 1, 7, 8] | _ => []
def vc_slices_IndexFunc_l_int_int (P : Ctx) (pre : List ABlk) (a0 a1 : AV) (r : AV) (post : List PB) : Prop :=
  let h0 : Heap := numbered 0 pre
  LEN false a0 h0 fun v7 =>
  LOOP [a0, a1, v7, (.d (.num .i64 0))] h0 56 fun vs1 h2 next1 =>
  BIN 0 .lss (nth vs1 3) (nth vs1 2) fun v9 =>
  COND v9
  (IADDR 1 T_int (nth vs1 0) (nth vs1 3) h2 fun v14 =>
  LOAD false 1 v14 h2 fun v15 =>
  CALLV P (nth vs1 1) [v15] 128 h2 (fun _ v16 h3 =>
  COND v16
  (POST (nth vs1 3) h3 pre r post)
  (BIN 0 .add (nth vs1 3) (.d (.num .i64 1)) fun v18 =>
  next1 [(nth vs1 0), (nth vs1 1), (nth vs1 2), v18] h3))
  (fun _ _ _ => False))
  (POST (.d (.num .i64 (-1))) h2 pre r post)
theorem vc_slices_IndexFunc_l_int_int_eq (g : GG) (pre : List ABlk) (a0 a1 : AV) (r : AV) (post : List PB) : vcFn2 (Tz g) false ann_slices_IndexFunc_l_int_int Tryz.f92 pre [a0, a1] (.ret r) post = vc_slices_IndexFunc_l_int_int (Tz g) pre a0 a1 r post := by kernel_rfl
theorem hf_slices_IndexFunc_l_int_int : Tryz.prog.funcs[f_slices_IndexFunc_l_int_int]? = some Tryz.f92 := by kernel_rfl
theorem ok_slices_IndexFunc_l_int_int : fnVcOK Tryz.prog Tryz.f92 = true := by kernel_rfl
theorem nt_slices_IndexFunc_l_int_int : Nat.ble 2 Tryz.f92.ntmps = true := by kernel_rfl
theorem meetsH_slices_IndexFunc_l_int_int {g : GG} {pre : List ABlk} {a0 a1 : AV} {r : AV} {post : List PB} (hk : Nat.ble pre.length 24 = true) (h : vc_slices_IndexFunc_l_int_int (Tz g) pre a0 a1 r post) : MeetsH (Tz g) f_slices_IndexFunc_l_int_int pre [a0, a1] (.ret r) post :=
  meetsH_of_vc (C := Tz g) ann_slices_IndexFunc_l_int_int hf_slices_IndexFunc_l_int_int ok_slices_IndexFunc_l_int_int nt_slices_IndexFunc_l_int_int hk (pn := false) (Eq.mpr ((vcFn2_eq _ _ _ _ _ _ _ _).trans (vc_slices_IndexFunc_l_int_int_eq g pre a0 a1 r post)) h)
theorem meets_slices_IndexFunc_l_int_int {g : GG} {a0 a1 : D} {r : Res} (h : vc_slices_IndexFunc_l_int_int (Tz g) [] (.d a0) (.d a1) r.val (r.bl.map .upd)) : Meets (Tz g) f_slices_IndexFunc_l_int_int [a0, a1] r := meetsH_slices_IndexFunc_l_int_int rfl h
end Go.Vc

namespace Go.Vc
open Go Go.Proofs
variable {g : GG}
theorem index_int_meets (l : List Int) (f : FuncId) (q : Int → Bool) (hf : ∀ s, Meets (Tz g) f [int s] ⟨.d (.bool (q s)), []⟩) (hl : l.length ≤ 1000) : Meets (Tz g) f_slices_IndexFunc_l_int_int [ints l, .fn f [] []] ⟨.d (int (idx q l 0)), []⟩ := by
  refine meets_slices_IndexFunc_l_int_int ?_
  unfold vc_slices_IndexFunc_l_int_int
  simp [ints]
  refine LOOP.mk Nat (fun k => [.d (ints l), .d (.fn f [] []), .d (int l.length), .d (int k)]) (fun _ => []) (fun k => k ≤ l.length ∧ idx q l 0 = idx q (l.drop k) k) (fun k => l.length - k) [] (by simp) 0 (by simp) (by simp [WEAK, ints]) (fun _ _ => rfl) ?_
  rintro k ⟨hk, he⟩
  simp [ints]
  constructor
  · intro hlt
    have hlt : k < l.length := by omega
    have hg : l[k]? = some l[k] := List.getElem?_eq_getElem hlt
    simp [hg]
    refine CALL.val _ _ rfl (hf l[k]) (.inl rfl) ?_
    rw [idx_drop q l k _ hg] at he
    simp
    constructor
    · intro hq
      simp [hq] at he
      exact he.symm
    · intro hq
      simp [hq] at he
      rw [wrap_id (by omega) (by omega)]
      exact ⟨k + 1, ⟨by omega, by simpa using he⟩, by simp [WEAK], by omega⟩
  · intro hge
    have : k = l.length := by omega
    subst this
    simp [idx] at he
    exact he.symm
theorem contains_int_meets (l : List Int) (f : FuncId) (q : Int → Bool) (hf : ∀ s, Meets (Tz g) f [int s] ⟨.d (.bool (q s)), []⟩) (hl : l.length ≤ 1000) : Meets (Tz g) f_slices_ContainsFunc_l_int_int [ints l, .fn f [] []] ⟨.d (.bool (l.any q)), []⟩ := by
  refine meets_slices_ContainsFunc_l_int_int ?_
  unfold vc_slices_ContainsFunc_l_int_int
  refine CALL.val _ _ rfl (index_int_meets l f q hf hl) (.inl rfl) ?_
  simp [← idx_any q l 0 (by omega)]
def farB (n : Int) : Bool := inB n (-1000000000) 1000000000
def stateB (l : List Int) : Bool := inB l.length 1 4 && l.all farB
theorem stateB_len {l : List Int} (h : stateB l = true) : 1 ≤ l.length ∧ l.length ≤ 4 ∧ ∀ n, n ∈ l → -1000000000 ≤ n ∧ n ≤ 1000000000 := by
  simp [stateB, farB, inB] at h
  exact ⟨by omega, by omega, h.2⟩
theorem any_not (l : List Int) (q : Int → Bool) : (!l.any fun n => !q n) = l.all q := by
  induction l with
  | nil => rfl
  | cons s r ih => simp only [List.any_cons, List.all_cons, ← ih]; cases q s <;> simp
theorem differ_isState_1_meets (n : Int) : Meets (Tz g) f_differ_isState_1 [int n] ⟨.d (.bool (!farB n)), []⟩ := by
  refine meets_differ_isState_1 ?_
  unfold vc_differ_isState_1
  refine CALL.val _ _ rfl (differ_in_meets _ _ _) (.inl rfl) ?_
  simp [farB]
theorem differ_isState_meets (l : List Int) : Meets (Tz g) f_differ_isState [ints l] ⟨.d (.bool (stateB l)), []⟩ := by
  refine meets_differ_isState ?_
  unfold vc_differ_isState
  simp [ints]
  refine CALL.val _ _ rfl (differ_in_meets _ _ _) (.inl rfl) ?_
  simp [stateB]
  constructor
  · intro h1
    have h2 : l.length ≤ 1000 := by simp [inB] at h1; omega
    refine CALL.val [ints l, .fn f_differ_isState_1 [] []] _ rfl (contains_int_meets l _ _ differ_isState_1_meets h2) (.inl rfl) ?_
    rw [← any_not l farB]
    simp [h1]
  · intro h1; simp [h1]
end Go.Vc

namespace Go.Vc
open Go Go.Proofs
variable {g : GG}
def rv (l : List Int) (i : Nat) : List Int := l.reverse.take i ++ ((l.take (l.length - i)).drop i ++ l.reverse.drop (l.length - i))
end Go.Vc

namespace Go.Vc
open Go Go.Proofs
variable {g : GG}
end Go.Vc
