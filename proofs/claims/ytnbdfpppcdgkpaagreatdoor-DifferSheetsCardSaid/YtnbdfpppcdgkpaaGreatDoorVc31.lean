/- A part of the proof: general laws of a reading of the model by abstract data, or contracts of the functions that the law calls. -/
import Derived.Test.YtnbdfpppcdgkpaaGreatDoorVc14
import Derived.Test.YtnbdfpppcdgkpaaGreatDoorVc27
set_option maxRecDepth 100000
namespace Go.Vc
open Go Go.Proofs
variable {g : GG}
abbrev int (n : Int) : D := .num .i64 n
structure Sp where
  low : Int
  high : Int
  deriving DecidableEq
def Sp.d (s : Sp) : D := .agg [int s.low, int s.high]
structure Plan where
  starts : List Sp
  rows : Int
  guard : Int
def spans (l : List Sp) : D := .list (l.map Sp.d)
def ints (l : List Int) : D := .list (l.map int)
def Plan.d (p : Plan) : D := .agg [spans p.starts, int p.rows, int p.guard]
def inB (x lo hi : Int) : Bool := decide (lo ≤ x) && decide (x ≤ hi)
def startB (s : Sp) : Bool := inB s.low (-99999) 99999 && (inB s.high s.low 99999 && decide (s.high ≤ s.low + 6))
theorem differ_in_meets (x lo hi : Int) : Meets (Tz g) f_differ_in [int x, int lo, int hi] ⟨.d (.bool (inB x lo hi)), []⟩ := by
  refine meets_differ_in ?_
  unfold vc_differ_in
  simp [inB]
  constructor
  · intro h; simp [h]
  · intro h; omega
theorem differ_isStart_meets (s : Sp) : Meets (Tz g) f_differ_isStart [s.d] ⟨.d (.bool (startB s)), []⟩ := by
  refine meets_differ_isStart ?_
  unfold vc_differ_isStart
  simp [Sp.d]
  refine CALL.val _ _ rfl (differ_in_meets _ _ _) (.inl rfl) ?_
  simp [startB]
  constructor
  · intro h
    refine CALL.val _ _ rfl (differ_in_meets _ _ _) (.inl rfl) ?_
    simp [h]
    constructor
    · intro h2
      have h3 := h
      simp [inB] at h3
      rw [wrap_id (by omega) (by omega)]
      simp [h2]
    · intro h2; simp [h2]
  · intro h; simp [h]
theorem differ_isPlan_1_meets (s : Sp) : Meets (Tz g) f_differ_isPlan_1 [s.d] ⟨.d (.bool (!startB s)), []⟩ := by
  refine meets_differ_isPlan_1 ?_
  unfold vc_differ_isPlan_1
  simp [Sp.d]
  refine CALL.val _ _ rfl (differ_isStart_meets s) (.inl rfl) ?_
  simp
def idx {α : Type} (q : α → Bool) : List α → Int → Int
  | [], _ => -1
  | x :: r, i => if q x then i else idx q r (i + 1)
theorem idx_drop {α : Type} (q : α → Bool) (l : List α) (k : Nat) (x : α) (h : l[k]? = some x) : idx q (l.drop k) k = if q x then (k : Int) else idx q (l.drop (k + 1)) ((k + 1 : Nat) : Int) := by
  have hlt := (List.getElem?_eq_some_iff.1 h).1
  have : l.drop k = x :: l.drop (k + 1) := by
    rw [List.drop_eq_getElem_cons hlt]
    congr 1
    rw [List.getElem?_eq_getElem hlt] at h
    exact Option.some.inj h
  rw [this]
  simp [idx]
theorem index_Span_meets (l : List Sp) (f : FuncId) (q : Sp → Bool) (hf : ∀ s, Meets (Tz g) f [s.d] ⟨.d (.bool (q s)), []⟩) (hl : l.length ≤ 1000) : Meets (Tz g) f_slices_IndexFunc_l_api_Span_api_Span [spans l, .fn f [] []] ⟨.d (int (idx q l 0)), []⟩ := by
  refine meets_slices_IndexFunc_l_api_Span_api_Span ?_
  unfold vc_slices_IndexFunc_l_api_Span_api_Span
  simp [spans]
  refine LOOP.mk Nat (fun k => [.d (spans l), .d (.fn f [] []), .d (int l.length), .d (int k)]) (fun _ => []) (fun k => k ≤ l.length ∧ idx q l 0 = idx q (l.drop k) k) (fun k => l.length - k) [] (by simp) 0 (by simp) (by simp [WEAK, spans]) (fun _ _ => rfl) ?_
  rintro k ⟨hk, he⟩
  simp [spans]
  constructor
  · intro hlt
    have hlt : k < l.length := by omega
    have hg : l[k]? = some l[k] := List.getElem?_eq_getElem hlt
    simp [hg, Sp.d]
    refine CALL.val _ _ rfl (hf l[k]) (.inl rfl) ?_
    rw [idx_drop q l k _ hg] at he
    simp
    constructor
    · intro hq
      simp [hq] at he
      exact he.symm
    · intro hq
      simp [hq] at he
      rw [wrap_id (by omega) (by omega)]
      exact ⟨k + 1, ⟨by omega, by simpa using he⟩, by simp [WEAK], by omega⟩
  · intro hge
    have : k = l.length := by omega
    subst this
    simp [idx] at he
    exact he.symm
end Go.Vc
