/- A part of the proof: general laws of a reading of the model by abstract data, or contracts of the functions that the law calls. -/
import Derived.Test.YtonajancjagefaaGreatVc14
import Derived.Test.YtonajancjagefaaGreatVc32
import Derived.Test.YtonajancjagefaaGreatVc32
set_option maxRecDepth 100000
namespace Go.Vc
open Go Go.Proofs
variable {g : GG}
attribute [local simp] and_assoc
abbrev int (n : Int) : D := .num .i64 n
def ints (l : List Int) : D := .list (l.map int)
@[simp] theorem ints_cells (l : List Int) : (ints l).cells = [ints l] := rfl
structure Ln where
  setter : Int
  right : Int
  set : Int
def Ln.d (l : Ln) : D := .agg [int l.setter, int l.right, int l.set]
structure Nt where
  kind : Int
  nums : List Int
def Nt.d (e : Nt) : D := .agg [int e.kind, ints e.nums]
@[simp] theorem Ln.d_cells (l : Ln) : l.d.cells = [int l.setter, int l.right, int l.set] := rfl
@[simp] theorem Nt.d_cells (e : Nt) : e.d.cells = [int e.kind, ints e.nums] := rfl
structure Pg where
  people : Int
  lines : List Ln
  log : List Nt
def lns (l : List Ln) : D := .list (l.map Ln.d)
def ents (l : List Nt) : D := .list (l.map Nt.d)
def Pg.d (p : Pg) : D := .agg [int p.people, lns p.lines, ents p.log]
def inB (x lo hi : Int) : Bool := decide (lo ≤ x) && decide (x ≤ hi)
theorem inB_nat {row n : Int} (h : inB row 0 n = true) : ∃ k : Nat, row = k ∧ (k : Int) ≤ n := by
  simp [inB] at h
  exact ⟨row.toNat, by omega, by omega⟩
theorem take_next {α : Type} {L : List α} {k : Nat} {x : α} (h : L[k]? = some x) : L.take (k + 1) = L.take k ++ [x] := by
  rw [List.take_add_one, h]; rfl
theorem take_all {α : Type} {L : List α} {k : Nat} (h : L.length ≤ k) : L.take k = L := List.take_of_length_le h
def numB (n : Int) : Bool := inB n (-999) 999
def persB (p : Pg) (n : Int) : Bool := inB n 0 (p.people - 1)
def lineB (p : Pg) (n : Int) : Bool := inB n 0 ((p.lines.length : Int) - 1)
def entB (p : Pg) (e : Nt) : Bool := match e.nums with
  | [a] => decide (e.kind = 3) && lineB p a
  | [a, b, c] => decide (e.kind = 2) && (persB p a && (lineB p b && numB c))
  | [a, b, c, d] => decide (e.kind = 1) && (persB p a && (persB p b && (decide (a < b) && (lineB p c && (lineB p d && decide (c ≤ d))))))
  | _ => false
def lnB (p : Pg) (l : Ln) : Bool := persB p l.setter && (numB l.right && numB l.set)
def Pg.ok (p : Pg) : Bool := inB p.people 2 6 && (inB p.lines.length 1 6 && (decide (p.log.length ≤ 10) && (!p.lines.any (fun l => !lnB p l) && !p.log.any (fun e => !entB p e))))
theorem proof_in_meets (x lo hi : Int) : Meets (Tz g) f_proof_in [int x, int lo, int hi] ⟨.d (.bool (inB x lo hi)), []⟩ := by
  refine meets_proof_in ?_
  unfold vc_proof_in
  simp [inB]
  constructor
  · intro h; simp [h]
  · intro h; omega
theorem proof_isNumber_meets (n : Int) : Meets (Tz g) f_proof_isNumber [int n] ⟨.d (.bool (numB n)), []⟩ := by
  refine meets_proof_isNumber ?_
  unfold vc_proof_isNumber
  refine CALL.val [int n, int (-999), int 999] _ rfl (proof_in_meets _ _ _) (.inl rfl) ?_
  simp [numB]
theorem proof_hasLine_meets (p : Pg) (n : Int) (hl : p.lines.length ≤ 1000) : Meets (Tz g) f_proof_hasLine [p.d, int n] ⟨.d (.bool (lineB p n)), []⟩ := by
  refine meets_proof_hasLine ?_
  unfold vc_proof_hasLine
  simp [Pg.d, lns]
  rw [wrap_id (n := (p.lines.length : Int) - 1) (by omega) (by omega)]
  refine CALL.val [int n, int 0, int ((p.lines.length : Int) - 1)] _ rfl (proof_in_meets _ _ _) (.inl rfl) ?_
  simp [lineB]
theorem proof_hasPerson_meets (p : Pg) (n : Int) (hl : -1000 ≤ p.people ∧ p.people ≤ 1000) : Meets (Tz g) f_proof_hasPerson [p.d, int n] ⟨.d (.bool (persB p n)), []⟩ := by
  refine meets_proof_hasPerson ?_
  unfold vc_proof_hasPerson
  simp [Pg.d]
  rw [wrap_id (n := p.people - 1) (by omega) (by omega)]
  refine CALL.val [int n, int 0, int (p.people - 1)] _ rfl (proof_in_meets _ _ _) (.inl rfl) ?_
  simp [persB]
set_option maxHeartbeats 2000000 in
theorem proof_isEntry_meets (p : Pg) (e : Nt) (hl : p.lines.length ≤ 1000) (hp : -1000 ≤ p.people ∧ p.people ≤ 1000) : Meets (Tz g) f_proof_isEntry [p.d, e.d] ⟨.d (.bool (entB p e)), []⟩ := by
  have hL : ∀ n, Meets (Tz g) f_proof_hasLine [p.d, int n] ⟨.d (.bool (lineB p n)), []⟩ := fun n => proof_hasLine_meets p n hl
  have hP : ∀ n, Meets (Tz g) f_proof_hasPerson [p.d, int n] ⟨.d (.bool (persB p n)), []⟩ := fun n => proof_hasPerson_meets p n hp
  have hN : ∀ n, Meets (Tz g) f_proof_isNumber [int n] ⟨.d (.bool (numB n)), []⟩ := fun n => proof_isNumber_meets n
  obtain ⟨k, ns⟩ := e
  refine meets_proof_isEntry ?_
  unfold vc_proof_isEntry
  by_cases k1 : k = 1
  · subst k1
    rcases ns with _ | ⟨a, _ | ⟨b, _ | ⟨c, _ | ⟨d, _ | ⟨f, r⟩⟩⟩⟩⟩
    · simp [Pg.d, lns, Nt.d, ints, entB, vc_proof_isEntry_k30, vc_proof_isEntry_k15]
      rfl
    · simp [Pg.d, lns, Nt.d, ints, entB, vc_proof_isEntry_k30, vc_proof_isEntry_k15]
      rfl
    · simp [Pg.d, lns, Nt.d, ints, entB, vc_proof_isEntry_k30, vc_proof_isEntry_k15]
      rfl
    · simp [Pg.d, lns, Nt.d, ints, entB, vc_proof_isEntry_k30, vc_proof_isEntry_k15]
      rfl
    · simp [Pg.d, lns, Nt.d, ints, entB, vc_proof_isEntry_k30, vc_proof_isEntry_k14]
      refine CALL.val [p.d, int a] _ rfl (hP a) (.inl rfl) ?_
      cases hb6 : persB p a with
      | false => simp [vc_proof_isEntry_k13, vc_proof_isEntry_k12]; rfl
      | true =>
        simp [vc_proof_isEntry_k13, vc_proof_isEntry_k11]
        refine CALL.val [p.d, int b] _ rfl (hP b) (.inl rfl) ?_
        cases hb5 : persB p b with
        | false => simp [vc_proof_isEntry_k10, vc_proof_isEntry_k9]; rfl
        | true =>
          simp [vc_proof_isEntry_k10, vc_proof_isEntry_k8]
          by_cases hab : a < b
          · have hab2 : ¬ b ≤ a := by omega
            simp [hab, hab2, vc_proof_isEntry_k6]
            refine CALL.val [p.d, int c] _ rfl (hL c) (.inl rfl) ?_
            cases hb3 : lineB p c with
            | false => simp [vc_proof_isEntry_k5, vc_proof_isEntry_k4]; rfl
            | true =>
              simp [vc_proof_isEntry_k5, vc_proof_isEntry_k3]
              refine CALL.val [p.d, int d] _ rfl (hL d) (.inl rfl) ?_
              cases hb2 : lineB p d with
              | false => simp [vc_proof_isEntry_k2, vc_proof_isEntry_k1]; rfl
              | true =>
                simp [vc_proof_isEntry_k2, vc_proof_isEntry_k0]
                rfl
          · have hab2 : b ≤ a := by omega
            simp [hab, hab2, vc_proof_isEntry_k7]
            rfl
    · have : ¬ ((r.length : Int) + 1 + 1 + 1 + 1 + 1 = 4) := by omega
      simp [Pg.d, lns, Nt.d, ints, entB, this, vc_proof_isEntry_k30, vc_proof_isEntry_k15]
      rfl
  · by_cases k2 : k = 2
    · subst k2
      rcases ns with _ | ⟨a, _ | ⟨b, _ | ⟨c, _ | ⟨d, r⟩⟩⟩⟩
      · simp [Pg.d, lns, Nt.d, ints, entB, vc_proof_isEntry_k31, vc_proof_isEntry_k28, vc_proof_isEntry_k24]
        rfl
      · simp [Pg.d, lns, Nt.d, ints, entB, vc_proof_isEntry_k31, vc_proof_isEntry_k28, vc_proof_isEntry_k24]
        rfl
      · simp [Pg.d, lns, Nt.d, ints, entB, vc_proof_isEntry_k31, vc_proof_isEntry_k28, vc_proof_isEntry_k24]
        rfl
      · simp [Pg.d, lns, Nt.d, ints, entB, vc_proof_isEntry_k31, vc_proof_isEntry_k28, vc_proof_isEntry_k23]
        refine CALL.val [p.d, int a] _ rfl (hP a) (.inl rfl) ?_
        cases hb3 : persB p a with
        | false => simp [vc_proof_isEntry_k22, vc_proof_isEntry_k21]; rfl
        | true =>
          simp [vc_proof_isEntry_k22, vc_proof_isEntry_k20]
          refine CALL.val [p.d, int b] _ rfl (hL b) (.inl rfl) ?_
          cases hb2 : lineB p b with
          | false => simp [vc_proof_isEntry_k19, vc_proof_isEntry_k18]; rfl
          | true =>
            simp [vc_proof_isEntry_k19, vc_proof_isEntry_k17]
            refine CALL.val [int c] _ rfl (hN c) (.inl rfl) ?_
            simp [vc_proof_isEntry_k16]
            rfl
      · have : ¬ ((r.length : Int) + 1 + 1 + 1 + 1 = 3) := by omega
        have e1 : entB p ⟨2, a :: b :: c :: d :: r⟩ = false := by cases r <;> simp [entB]
        simp [Pg.d, lns, Nt.d, ints, e1, this, vc_proof_isEntry_k31, vc_proof_isEntry_k28, vc_proof_isEntry_k24]
        rfl
    · by_cases k3 : k = 3
      · subst k3
        rcases ns with _ | ⟨a, _ | ⟨b, r⟩⟩
        · simp [Pg.d, lns, Nt.d, ints, entB, vc_proof_isEntry_k31, vc_proof_isEntry_k29, vc_proof_isEntry_k27]
          rfl
        · simp [Pg.d, lns, Nt.d, ints, entB, vc_proof_isEntry_k31, vc_proof_isEntry_k29, vc_proof_isEntry_k26]
          refine CALL.val [p.d, int a] _ rfl (hL a) (.inl rfl) ?_
          simp [vc_proof_isEntry_k25]
          rfl
        · have : ¬ ((r.length : Int) + 1 + 1 = 1) := by omega
          have e1 : entB p ⟨3, a :: b :: r⟩ = false := by
            rcases r with _ | ⟨c, _ | ⟨d, _ | ⟨f, r⟩⟩⟩ <;> simp [entB]
          simp [Pg.d, lns, Nt.d, ints, e1, this, vc_proof_isEntry_k31, vc_proof_isEntry_k29, vc_proof_isEntry_k27]
          rfl
      · have e1 : entB p ⟨k, ns⟩ = false := by
          rcases ns with _ | ⟨a, _ | ⟨b, _ | ⟨c, _ | ⟨d, _ | ⟨f, r⟩⟩⟩⟩⟩ <;> simp [entB, k1, k2, k3]
        simp [Pg.d, lns, Nt.d, ints, e1, k1, k2, k3, vc_proof_isEntry_k31, vc_proof_isEntry_k29]
end Go.Vc

namespace Go.Vc
open Go Go.Proofs
variable {g : GG}
attribute [local simp] and_assoc
def idx {α : Type} (q : α → Bool) : List α → Int → Int
  | [], _ => -1
  | x :: r, i => match q x with | true => i | false => idx q r (i + 1)
theorem idx_any {α : Type} (q : α → Bool) : ∀ (l : List α) (i : Int), 0 ≤ i → decide (0 ≤ idx q l i) = l.any q := by
  intro l
  induction l with
  | nil => intro i hi; simp [idx]
  | cons x r ih =>
    intro i hi
    simp only [idx, List.any_cons]
    by_cases hq : q x = true
    · simp [hq, hi]
    · have := ih (i + 1) (by omega)
      simp [hq]
      simpa using this
def pgBlk (p : Pg) : ABlk := ⟨0, T_api_ProofPage, .box [.d (int p.people), .d (lns p.lines), .d (ents p.log)]⟩
@[simp] theorem POST_same1 {h : Heap} {b : ABlk} {y x : D} : POST (.d y) h [b] (.d x) [.same] ↔ y = x ∧ lookH h 0 = some b := by
  constructor
  · rintro ⟨rs, h1, h2, h3, h4, h5, h6, h7⟩
    obtain ⟨g1, g2, _⟩ := h6
    exact ⟨by simpa [yv, argD, toD] using h5, by simpa using g2⟩
  · rintro ⟨rfl, hb⟩
    exact ⟨[], by simp, rfl, rfl, rfl, by simp [yv, argD, toD], ⟨by simp, by simpa using hb, trivial⟩, by simp [fz, fzH, ids, disjB]⟩
theorem proof_isPage_1_meets (p : Pg) (x : Ln) (hp : -1000 ≤ p.people ∧ p.people ≤ 1000) : MeetsH (Tz g) f_proof_isPage_1 [pgBlk p] [.d x.d, .ptr 0 0 0 0] (.ret (.d (.bool (!lnB p x)))) [.same] := by
  have hP : ∀ n, Meets (Tz g) f_proof_hasPerson [p.d, int n] ⟨.d (.bool (persB p n)), []⟩ := fun n => proof_hasPerson_meets p n hp
  have hN : ∀ n, Meets (Tz g) f_proof_isNumber [int n] ⟨.d (.bool (numB n)), []⟩ := fun n => proof_isNumber_meets n
  refine meetsH_proof_isPage_1 rfl ?_
  unfold vc_proof_isPage_1
  simp [pgBlk, Ln.d, lnB]
  refine CALL.val [p.d, int x.setter] _ rfl (hP x.setter) (.inl rfl) ?_
  cases h1 : persB p x.setter with
  | false =>
    simp [lookH]
  | true =>
    simp
    refine CALL.val [int x.right] _ rfl (hN x.right) (.inl rfl) ?_
    cases h2 : numB x.right with
    | false => simp [lookH]
    | true =>
      simp
      refine CALL.val [int x.set] _ rfl (hN x.set) (.inl rfl) ?_
      simp [lookH]
theorem proof_isPage_2_meets (p : Pg) (x : Nt) (hl : p.lines.length ≤ 1000) (hp : -1000 ≤ p.people ∧ p.people ≤ 1000) : MeetsH (Tz g) f_proof_isPage_2 [pgBlk p] [.d x.d, .ptr 0 0 0 0] (.ret (.d (.bool (!entB p x)))) [.same] := by
  refine meetsH_proof_isPage_2 rfl ?_
  unfold vc_proof_isPage_2
  simp [pgBlk, Nt.d]
  refine CALL.val [p.d, x.d] _ rfl (proof_isEntry_meets p x hl hp) (.inl rfl) ?_
  simp [lookH]
theorem idx_drop {α : Type} (q : α → Bool) (l : List α) (k : Nat) (x : α) (h : l[k]? = some x) : idx q (l.drop k) k = if q x then (k : Int) else idx q (l.drop (k + 1)) ((k + 1 : Nat) : Int) := by
  have hlt := (List.getElem?_eq_some_iff.1 h).1
  have : l.drop k = x :: l.drop (k + 1) := by
    rw [List.drop_eq_getElem_cons hlt]
    congr 1
    rw [List.getElem?_eq_getElem hlt] at h
    exact Option.some.inj h
  rw [this]
  simp only [idx]
  cases q x <;> simp
theorem index_Line_meets (p : Pg) (l : List Ln) (f : FuncId) (q : Ln → Bool) (hf : ∀ x, MeetsH (Tz g) f [pgBlk p] [.d x.d, .ptr 0 0 0 0] (.ret (.d (.bool (q x)))) [.same]) (hl : l.length ≤ 1000) :
    MeetsH (Tz g) f_slices_IndexFunc_l_api_ProofLine_api_ProofLine [pgBlk p] [.d (lns l), .fn f [] [.ptr 0 0 0 0]] (.ret (.d (int (idx q l 0)))) [.same] := by
  refine meetsH_slices_IndexFunc_l_api_ProofLine_api_ProofLine rfl ?_
  unfold vc_slices_IndexFunc_l_api_ProofLine_api_ProofLine
  simp [lns, pgBlk]
  refine LOOP.mk Nat (fun k => [.d (lns l), .fn f [] [.ptr 0 0 0 0], .d (int l.length), .d (int k)]) (fun _ => [(0, some (pgBlk p))]) (fun k => k ≤ l.length ∧ idx q l 0 = idx q (l.drop k) k) (fun k => l.length - k) [] (by simp) 0 (by simp) (by simp [WEAK, lns, pgBlk]) (fun _ _ => rfl) ?_
  rintro k ⟨hk, he⟩
  simp [lns]
  constructor
  · intro hlt
    have hlt : k < l.length := by omega
    have hg : l[k]? = some l[k] := List.getElem?_eq_getElem hlt
    generalize l[k] = x at hg
    simp [hg, Ln.d]
    refine CALL.gen [0] [false, false] [.d x.d, .ptr 0 0 0 0] [pgBlk p] _ _ (hf x) rfl (by simp [argsM, AV.ren, rho, Ln.d]) (by simp [preB, pgBlk, Body.ren, AV.ren, AV.ren.renL, bodyOf, lookH]) (by simp [lowL, ids.idsL, ids, preIds, pgBlk, Body.ids]) (by simp [lentL, disjB]) (by simp) ?_
    rw [idx_drop q l k _ hg] at he
    simp [AV.ren, upsP, lentL, kills]
    constructor
    · intro hq
      rw [if_pos hq] at he
      exact ⟨he.symm, rfl⟩
    · intro hq
      rw [if_neg (by simp [hq])] at he
      rw [wrap_id (by omega) (by omega)]
      exact ⟨k + 1, by omega, by simpa using he, by simp [WEAK], by omega⟩
  · intro hge
    have : k = l.length := by omega
    subst this
    simp [idx] at he
    simp [he, pgBlk, lns]
theorem index_Entry_meets (p : Pg) (l : List Nt) (f : FuncId) (q : Nt → Bool) (hf : ∀ x, MeetsH (Tz g) f [pgBlk p] [.d x.d, .ptr 0 0 0 0] (.ret (.d (.bool (q x)))) [.same]) (hl : l.length ≤ 1000) :
    MeetsH (Tz g) f_slices_IndexFunc_l_api_ProofEntry_api_ProofEntry [pgBlk p] [.d (ents l), .fn f [] [.ptr 0 0 0 0]] (.ret (.d (int (idx q l 0)))) [.same] := by
  refine meetsH_slices_IndexFunc_l_api_ProofEntry_api_ProofEntry rfl ?_
  unfold vc_slices_IndexFunc_l_api_ProofEntry_api_ProofEntry
  simp [ents, pgBlk]
  refine LOOP.mk Nat (fun k => [.d (ents l), .fn f [] [.ptr 0 0 0 0], .d (int l.length), .d (int k)]) (fun _ => [(0, some (pgBlk p))]) (fun k => k ≤ l.length ∧ idx q l 0 = idx q (l.drop k) k) (fun k => l.length - k) [] (by simp) 0 (by simp) (by simp [WEAK, ents, pgBlk]) (fun _ _ => rfl) ?_
  rintro k ⟨hk, he⟩
  simp [ents]
  constructor
  · intro hlt
    have hlt : k < l.length := by omega
    have hg : l[k]? = some l[k] := List.getElem?_eq_getElem hlt
    generalize l[k] = x at hg
    simp [hg, Nt.d]
    refine CALL.gen [0] [false, false] [.d x.d, .ptr 0 0 0 0] [pgBlk p] _ _ (hf x) rfl (by simp [argsM, AV.ren, rho, Nt.d]) (by simp [preB, pgBlk, Body.ren, AV.ren, AV.ren.renL, bodyOf, lookH]) (by simp [lowL, ids.idsL, ids, preIds, pgBlk, Body.ids]) (by simp [lentL, disjB]) (by simp) ?_
    rw [idx_drop q l k _ hg] at he
    simp [AV.ren, upsP, lentL, kills]
    constructor
    · intro hq
      rw [if_pos hq] at he
      exact ⟨he.symm, rfl⟩
    · intro hq
      rw [if_neg (by simp [hq])] at he
      rw [wrap_id (by omega) (by omega)]
      exact ⟨k + 1, by omega, by simpa using he, by simp [WEAK], by omega⟩
  · intro hge
    have : k = l.length := by omega
    subst this
    simp [idx] at he
    simp [he, pgBlk, ents]
theorem contains_Line_meets (p : Pg) (l : List Ln) (f : FuncId) (q : Ln → Bool) (hf : ∀ x, MeetsH (Tz g) f [pgBlk p] [.d x.d, .ptr 0 0 0 0] (.ret (.d (.bool (q x)))) [.same]) (hl : l.length ≤ 1000) :
    MeetsH (Tz g) f_slices_ContainsFunc_l_api_ProofLine_api_ProofLine [pgBlk p] [.d (lns l), .fn f [] [.ptr 0 0 0 0]] (.ret (.d (.bool (l.any q)))) [.same] := by
  refine meetsH_slices_ContainsFunc_l_api_ProofLine_api_ProofLine rfl ?_
  unfold vc_slices_ContainsFunc_l_api_ProofLine_api_ProofLine
  refine CALL.gen [0] [false, false] [.d (lns l), .fn f [] [.ptr 0 0 0 0]] [pgBlk p] _ _ (index_Line_meets p l f q hf hl) rfl (by simp [argsM, AV.ren, AV.ren.renL, rho]) (by simp [preB, pgBlk, Body.ren, AV.ren, AV.ren.renL, bodyOf, numbered]) (by simp [lowL, ids.idsL, ids, preIds, pgBlk, Body.ids]) (by simp [lentL, disjB]) (by simp) ?_
  simp [AV.ren, upsP, lentL, kills, numbered, lookH, ← idx_any q l 0 (by omega)]
theorem contains_Entry_meets (p : Pg) (l : List Nt) (f : FuncId) (q : Nt → Bool) (hf : ∀ x, MeetsH (Tz g) f [pgBlk p] [.d x.d, .ptr 0 0 0 0] (.ret (.d (.bool (q x)))) [.same]) (hl : l.length ≤ 1000) :
    MeetsH (Tz g) f_slices_ContainsFunc_l_api_ProofEntry_api_ProofEntry [pgBlk p] [.d (ents l), .fn f [] [.ptr 0 0 0 0]] (.ret (.d (.bool (l.any q)))) [.same] := by
  refine meetsH_slices_ContainsFunc_l_api_ProofEntry_api_ProofEntry rfl ?_
  unfold vc_slices_ContainsFunc_l_api_ProofEntry_api_ProofEntry
  refine CALL.gen [0] [false, false] [.d (ents l), .fn f [] [.ptr 0 0 0 0]] [pgBlk p] _ _ (index_Entry_meets p l f q hf hl) rfl (by simp [argsM, AV.ren, AV.ren.renL, rho]) (by simp [preB, pgBlk, Body.ren, AV.ren, AV.ren.renL, bodyOf, numbered]) (by simp [lowL, ids.idsL, ids, preIds, pgBlk, Body.ids]) (by simp [lentL, disjB]) (by simp) ?_
  simp [AV.ren, upsP, lentL, kills, numbered, lookH, ← idx_any q l 0 (by omega)]
theorem proof_isPage_meets (p : Pg) (hl : p.lines.length ≤ 1000) (hl2 : p.log.length ≤ 1000) : Meets (Tz g) f_proof_isPage [p.d] ⟨.d (.bool p.ok), []⟩ := by
  refine meets_proof_isPage ?_
  unfold vc_proof_isPage
  simp [Pg.d, lns, ents]
  refine CALL.val [int p.people, int 2, int 6] _ rfl (proof_in_meets _ _ _) (.inl rfl) ?_
  cases h1 : inB p.people 2 6 with
  | false => simp [Pg.ok, h1]
  | true =>
    have h1' := h1
    simp [inB] at h1'
    simp
    refine CALL.val [int p.lines.length, int 1, int 6] _ rfl (proof_in_meets _ _ _) (.inl rfl) ?_
    cases h2 : inB p.lines.length 1 6 with
    | false => simp [Pg.ok, h1, h2]
    | true =>
      simp
      constructor
      · intro h3
        have : ¬ p.log.length ≤ 10 := by omega
        simp [Pg.ok, this]
      · intro h3
        have h3' : p.log.length ≤ 10 := by omega
        have hC1 := contains_Line_meets (g := g) p p.lines _ _ (fun x => proof_isPage_1_meets p x (by omega)) hl
        have hC2 := contains_Entry_meets (g := g) p p.log _ _ (fun x => proof_isPage_2_meets p x hl (by omega)) hl2
        have hok : p.ok = (!p.lines.any (fun l => !lnB p l) && !p.log.any (fun e => !entB p e)) := by simp only [Pg.ok, h1, h2, decide_eq_true h3', Bool.true_and]
        rw [hok]
        generalize p.lines.any (fun l => !lnB p l) = b1 at hC1 ⊢
        generalize p.log.any (fun e => !entB p e) = b2 at hC2 ⊢
        refine CALL.gen [24] [false, false] [.d (lns p.lines), .fn f_proof_isPage_1 [] [.ptr 0 0 0 0]] [pgBlk p] _ _ hC1 rfl (by simp [argsM, AV.ren, AV.ren.renL, rho, lns]) (by simp [preB, pgBlk, Body.ren, AV.ren, AV.ren.renL, bodyOf, lookH, lns, ents]) (by simp [lowL, ids.idsL, ids, preIds, pgBlk, Body.ids]) (by simp [lentL, disjB]) (by simp) ?_
        cases b1 with
        | true => simp [AV.ren, upsP, lentL, kills]
        | false =>
          simp [AV.ren, upsP, lentL, kills]
          refine CALL.gen [24] [false, false] [.d (ents p.log), .fn f_proof_isPage_2 [] [.ptr 0 0 0 0]] [pgBlk p] _ _ hC2 rfl (by simp [argsM, AV.ren, AV.ren.renL, rho, ents]) (by simp [preB, pgBlk, Body.ren, AV.ren, AV.ren.renL, bodyOf, lookH, lns, ents]) (by simp [lowL, ids.idsL, ids, preIds, pgBlk, Body.ids]) (by simp [lentL, disjB]) (by simp) ?_
          simp [AV.ren, upsP, lentL, kills]
theorem Pg.ok_len {p : Pg} (h : p.ok = true) : 2 ≤ p.people ∧ p.people ≤ 6 ∧ 1 ≤ p.lines.length ∧ p.lines.length ≤ 6 ∧ p.log.length ≤ 10 ∧ (∀ l, l ∈ p.lines → lnB p l = true) ∧ ∀ e, e ∈ p.log → entB p e = true := by
  simp [Pg.ok, inB] at h
  exact ⟨by omega, by omega, by omega, by omega, by omega, h.2.2.2.2.2.1, h.2.2.2.2.2.2⟩
end Go.Vc
