/- A part of the proof: general laws of a reading of the model by abstract data, or contracts of the functions that the law calls. -/
import Derived.Lib.ItoaNum
import Derived.Lib.Join
import Derived.Lib.Strings
import Derived.Lib.Split
import Derived.Lib.SplitLaws
import Derived.Deep.Draws
import Derived.Sort.Grow
import Derived.Test.YtnbdfpppcdgkpaaGreatDoorVc21
set_option maxRecDepth 100000
namespace Go.Vc
open Go Go.RowKit
section
variable {C : Ctx}
theorem start_none {E : Env} (hst : StartOK C [] E) (i : Nat) : E.H i = none := by rw [hst.H]; simp
theorem start_top {E : Env} (hst : StartOK C [] E) (i : Nat) : E.top i = none := by
  cases h : E.top i with
  | none => rfl
  | some t => exact absurd (hst.top i t h) (by simp)
theorem meets_pure {f : FuncId} (hok : fnOK C.prog f = true) {args : List AV} {v : AV} (h : ∀ (E : Env) (us : List Value), StartOK C [] E → relL E args us → Calls C.prog f us.toArray E.w fun e w' => Below E.w.heap.size E.w w' ∧ ∃ u, e = .returned u ∧ ∀ E', VRel E' v u) : MeetsH C f [] args (.ret v) [] := by
  refine ⟨hok, fun E us hst hr => ?_⟩
  refine (callsIn_wide (n := 0)).1 (CallsIn.mono ((callsIn_wide (n := 0)).2 (h E us hst hr)) (fun e w' ⟨hb, u, he, hv⟩ => ?_))
  subst he
  have hlt : ∀ b, b < E.w.heap.size → w'.heap[b]? = E.w.heap[b]? := hb.block
  have hS : ∀ b, E.S b → b < E.w.heap.size := fun b hb => (hst.hr.st b hb).1
  refine ⟨{ E with w := w' }, rfl, ⟨⟨⟨rfl, fun _ h => h, fun b hb => hlt b (hS b hb), fun id t h => ⟨t, h, Nat.le_refl _⟩, fun id t b' _ hb' _ => ?_⟩, hb.os, hb.tape, hb.output, hb.size, fun b hb _ => hlt b hb, fun b hb => .inl hb, fun b hb => .inl hb⟩, ⟨fun b hb' => ?_, fun id b hb' => ?_, fun i j g hi _ _ _ => absurd (start_none hst i) hi⟩, fun i => ?_, fun id t ht => ?_⟩, hv _⟩
  · have := start_none hst id
    rw [show E.H id = some b' from hb'] at this
    cases this
  · exact ⟨Nat.lt_of_lt_of_le (hS b hb') hb.size, fun id hid => absurd (start_none hst id) hid⟩
  · have := start_none hst id
    rw [show E.H id = some b from hb'] at this
    cases this
  · show E.H i = _
    rw [start_none hst]; simp [postH]
  · have : E.top id = some t := ht
    rw [start_top hst] at this
    cases this
theorem meets_row {f : FuncId} (hok : fnOK C.prog f = true) {args : List AV} {T : TypeId} {xs : List D} (h : ∀ (E : Env) (us : List Value), StartOK C [] E → relL E args us → Calls C.prog f us.toArray E.w fun e w' => ∃ Cc : Array Value,
      w' = E.w.alloc (.cells Cc T) ∧ xs.length ≤ maxLen ∧ Cc.size = xs.length * tSize C.prog T ∧ e = .returned (.slice (some ⟨E.w.heap.size, 0, none⟩) xs.length xs.length) ∧ (∀ x, x ∈ xs → x.cells.length = tSize C.prog T) ∧ ∀ (i : Nat) (d : D), (flat xs)[i]? = some d → d.one = true ∧ ∃ u, Cc[i]? = some u ∧ ∀ w S, DRel w S d u) : MeetsH C f [] args (.ret (.own 0 0)) [.upd ⟨0, T, .lst xs⟩] := by
  refine ⟨hok, fun E us hst hr => ?_⟩
  refine (callsIn_wide (n := 0)).1 (CallsIn.mono ((callsIn_wide (n := 0)).2 (h E us hst hr)) (fun e w' ⟨Cc, hw, hmx, hsz, he, hx, hc⟩ => ?_))
  subst he; subst hw
  let w' := E.w.alloc (.cells Cc T)
  let blk : ABlk := ⟨0, T, .lst xs⟩
  have hlt : ∀ b, b < E.w.heap.size → w'.heap[b]? = E.w.heap[b]? := fun b hb => push_lt E.w _ b hb
  have hge : E.w.heap.size ≤ w'.heap.size := by show _ ≤ (E.w.heap.push _).size; simp
  have hnew : E.top 0 = none := start_top hst 0
  have hn : w'.heap[E.w.heap.size]? = some (.cells Cc T (0, 0)) := by
    show (E.w.heap.push (Obj.cells Cc T))[E.w.heap.size]? = _
    simp
  have hprog : E.P = C.prog := hst.prog
  let E' := E.news 0 (some E.w.heap.size) blk [] w'
  have hh : HR C.N E' := news_hr hst.hr hnew hlt hge (fun h => by cases h) (fun g hg => by
    injection hg with hg
    subst hg
    exact ⟨hst.hN, Nat.le_refl _, .cells Cc T (0, 0), hn, Cc, (0, 0), rfl, .inl rfl, fun x hx' => by show _ = tSize E.P T; rw [hprog]; exact hx x hx', fun i d hi => let ⟨q1, u, q2, q3⟩ := hc i d hi; ⟨q1, u, q2, q3 _ _⟩⟩)
  refine ⟨E', rfl, ⟨news_go hst.hr hnew hlt hge rfl rfl rfl (fun g hg => by injection hg with hg; omega), hh, fun i => ?_, fun id t ht => ?_⟩, ?_⟩
  · simp only [E', Env.news, postH]
    by_cases hi : i = 0
    · subst hi; simp [blk, PB.get]
    · rw [if_neg hi]
      rw [start_none hst]
      cases i with
      | zero => exact absurd rfl hi
      | succ i => simp
  · simp only [E', Env.news] at ht
    split at ht
    · simp; omega
    · rw [start_top hst] at ht; cases ht
  · refine .own 0 0 0 _ (by simp [E', Env.news, blk]) (Nat.le_refl _) rfl (fun e ys he => ?_) (fun e cs he => by simp [E', Env.news, blk] at he)
    have he' : some blk = some ⟨0, e, .lst ys⟩ := by simpa [E', Env.news] using he
    injection he' with he'
    simp only [blk, ABlk.mk.injEq, Body.lst.injEq, true_and] at he'
    obtain ⟨rfl, rfl⟩ := he'
    refine ⟨fun hm => by simp [E', Env.news] at hm, fun b hb => ?_⟩
    have hb' : E.w.heap.size = b := by simpa [E', Env.news] using hb
    subst hb'
    exact ⟨xs.length, Cc, T, (0, 0), rfl, Nat.le_refl _, hmx, hn, by show Cc.size = xs.length * tSize E.P T; rw [hprog]; exact hsz⟩
theorem rel1 {E : Env} {a : AV} {us : List Value} (h : relL E [a] us) : ∃ u, us = [u] ∧ VRel E a u := by
  obtain ⟨hl, hv⟩ := h
  match us, hl with
  | [u], _ => exact ⟨u, rfl, hv 0 a u rfl rfl⟩
theorem rel2 {E : Env} {a b : AV} {us : List Value} (h : relL E [a, b] us) : ∃ u v, us = [u, v] ∧ VRel E a u ∧ VRel E b v := by
  obtain ⟨hl, hv⟩ := h
  match us, hl with
  | [u, v], _ => exact ⟨u, v, rfl, hv 0 a u rfl rfl, hv 1 b v rfl rfl⟩
end
def digX : Nat → Nat → List UInt8 → List UInt8
  | 0, _, acc => acc
  | k + 1, u, acc => match Nat.blt u 10 with
    | true => UInt8.ofNat (48 + u) :: acc
    | false => digX k (u / 10) (UInt8.ofNat (48 + u % 10) :: acc)
theorem digX_eq : ∀ (k u : Nat) (acc : List UInt8), u < 10 ^ k → 0 < k → digX k u acc = Lib.decDigits u ++ acc := by
  intro k
  induction k with
  | zero => intro u acc _ h; omega
  | succ k ih =>
    intro u acc hu _
    simp only [digX]
    rw [Lib.decDigits]
    split
    · rename_i h
      have h : u < 10 := by simpa [Nat.blt_eq] using h
      rw [dif_pos h]; rfl
    · rename_i h
      have h : ¬ u < 10 := by
        intro h'
        have : Nat.blt u 10 = true := by simpa [Nat.blt_eq] using h'
        rw [this] at h; cases h
      rw [dif_neg h]
      have hk : 0 < k := by
        cases k with
        | zero => simp at hu; omega
        | succ k => omega
      rw [ih (u / 10) _ (by rw [Nat.pow_succ] at hu; omega) hk]
      simp
def itoaX (n : Int) : List UInt8 := match n with
  | .ofNat u => digX 20 u []
  | .negSucc u => 45 :: digX 20 (u + 1) []
theorem itoaX_eq {n : Int} (h0 : -9223372036854775808 ≤ n) (h1 : n ≤ 9223372036854775807) : itoaX n = Lib.itoa n := by
  cases n with
  | ofNat u =>
    simp only [itoaX, Lib.itoa]
    rw [digX_eq 20 u [] (by simp at h1; omega) (by omega), if_neg (by simp)]
    simp
  | negSucc u =>
    simp only [itoaX, Lib.itoa]
    rw [digX_eq 20 (u + 1) [] (by omega) (by omega), if_pos (Int.negSucc_lt_zero u)]
    simp [Int.natAbs]
def splX (c : UInt8) : List UInt8 → List UInt8 → List (List UInt8)
  | [], acc => [acc.reverse]
  | b :: r, acc => match decide (b = c) with
    | true => acc.reverse :: splX c r []
    | false => splX c r (b :: acc)
def splL (c : UInt8) : List UInt8 → List (List UInt8)
  | [] => [[]]
  | b :: r => if b = c then [] :: splL c r else match splL c r with
    | [] => [[b]]
    | x :: xs => (b :: x) :: xs
theorem splL_ne (c : UInt8) (s : List UInt8) : splL c s ≠ [] := by
  cases s with
  | nil => simp [splL]
  | cons b r =>
    simp only [splL]
    split
    · simp
    · split <;> simp
theorem splX_eq (c : UInt8) : ∀ (s acc : List UInt8), splX c s acc = match splL c s with | [] => [] | x :: xs => (acc.reverse ++ x) :: xs := by
  intro s
  induction s with
  | nil => intro acc; simp [splX, splL]
  | cons b r ih =>
    intro acc
    simp only [splX, splL]
    by_cases h : b = c
    · simp only [h, decide_true, if_true, List.append_nil]
      rw [ih]
      cases hs : splL c r with
      | nil => exact absurd hs (splL_ne c r)
      | cons x xs => simp
    · simp only [h, decide_false, if_false]
      rw [ih]
      cases hs : splL c r with
      | nil => exact absurd hs (splL_ne c r)
      | cons x xs => simp
theorem index_one_cons (b c : UInt8) (l : List UInt8) : Lib.index (b :: l) [c] = if b = c then 0 else if Lib.index l [c] == -1 then -1 else Lib.index l [c] + 1 := by
  rw [Lib.index]
  by_cases h : b = c
  · subst h; simp [List.isPrefixOf]
  · have hp : ([c] : List UInt8).isPrefixOf (b :: l) = false := by simp [List.isPrefixOf, Ne.symm h]
    rw [hp, if_neg h]; simp
theorem splitK_one (c : UInt8) : ∀ (s : List UInt8), Lib.splitK [c] 0 (s.count c) s = splL c s := by
  intro s
  induction s with
  | nil => rfl
  | cons b r ih =>
    by_cases h : b = c
    · subst h
      simp only [List.count_cons_self, splL, if_true]
      rw [Lib.splitK, index_one_cons, if_pos rfl]
      simp [ih]
    · rw [List.count_cons_of_ne (by simpa using h)]
      simp only [splL, if_neg h]
      cases hc : r.count c with
      | zero =>
        rw [hc] at ih
        simp only [Lib.splitK] at ih ⊢
        rw [← ih]
      | succ k =>
        rw [hc] at ih
        rw [Lib.splitK] at ih ⊢
        rw [index_one_cons, if_neg h]
        have hge := Lib.index_ge r [c]
        by_cases hm : Lib.index r [c] = -1
        · exfalso
          have := Lib.count_one c r
          rw [Lib.count_miss hm] at this
          omega
        · obtain ⟨j, hj⟩ : ∃ j : Nat, Lib.index r [c] = j := ⟨(Lib.index r [c]).toNat, by omega⟩
          rw [hj] at ih ⊢
          have hne : ¬ ((j : Int) == -1) = true := by
            intro h; have := eq_of_beq h; omega
          rw [if_neg hne] at ih ⊢
          rw [if_neg (by simp; omega)]
          rw [← ih]
          have e1 : ((j : Int) + 1).toNat = j + 1 := by omega
          simp only [e1, Int.toNat_natCast, Nat.add_zero, List.length_singleton, List.take_succ_cons]
          rfl
end Go.Vc

namespace Go.Vc
open Go Go.RowKit
def D.eqB : D → D → Bool
  | .num k n, .num k' n' => decide (k = k') && decide (n = n')
  | .bool a, .bool b => a == b
  | .str a, .str b => decide (a = b)
  | .list a, .list b => eqL a b
  | .agg a, .agg b => eqL a b
  | .nili, .nili => true
  | .nilf, .nilf => true
  | _, _ => false
  where eqL : List D → List D → Bool
  | [], [] => true
  | a :: r, b :: s => D.eqB a b && eqL r s
  | _, _ => false
theorem D.eqB_eq : ∀ {a b : D}, D.eqB a b = true → a = b
  | .num k n, b, h => by
    cases b <;> simp only [D.eqB, Bool.and_eq_true, decide_eq_true_eq] at h <;> try (cases h; done)
    rw [h.1, h.2]
  | .bool x, b, h => by
    cases b <;> simp only [D.eqB] at h <;> try (cases h; done)
    rw [eq_of_beq h]
  | .str x, b, h => by
    cases b <;> simp only [D.eqB, decide_eq_true_eq] at h <;> try (cases h; done)
    rw [h]
  | .list x, b, h => by
    cases b <;> simp only [D.eqB] at h <;> try (cases h; done)
    rw [go h]
  | .agg x, b, h => by
    cases b <;> simp only [D.eqB] at h <;> try (cases h; done)
    rw [go h]
  | .nili, b, h => by cases b <;> simp only [D.eqB] at h <;> first | rfl | cases h
  | .nilf, b, h => by cases b <;> simp only [D.eqB] at h <;> first | rfl | cases h
  | .fn _ _ _, b, h => by simp [D.eqB] at h
  | .cp _, b, h => by simp [D.eqB] at h
  | .iface _ _, b, h => by simp [D.eqB] at h
  where go : ∀ {a b : List D}, D.eqB.eqL a b = true → a = b
  | [], b, h => by cases b <;> simp only [D.eqB.eqL] at h <;> first | rfl | cases h
  | x :: r, b, h => by
    cases b with
    | nil => simp [D.eqB.eqL] at h
    | cons y s =>
      simp only [D.eqB.eqL, Bool.and_eq_true] at h
      rw [D.eqB_eq h.1, go h.2]
def argsB : List AV → List D → Bool
  | [], [] => true
  | .d x :: r, y :: s => D.eqB x y && argsB r s
  | _, _ => false
theorem argsB_eq : ∀ {a : List AV} {b : List D}, argsB a b = true → a = b.map .d
  | [], [], _ => rfl
  | [], _ :: _, h => by simp [argsB] at h
  | x :: r, b, h => by
    cases b with
    | nil => cases x <;> simp [argsB] at h
    | cons y s =>
      cases x <;> simp only [argsB, Bool.and_eq_true] at h <;> try (cases h; done)
      rw [D.eqB_eq h.1, argsB_eq h.2]; rfl
def oneX (ds : List D) (res : Out × List PB) (args : List AV) : Option (Out × List PB) := match argsB args ds with
  | true => some res
  | false => none
theorem oneX_ok {C : Ctx} {f : FuncId} {ds : List D} {out0 : Out} {post0 : List PB} (h : MeetsH C f [] (ds.map .d) out0 post0) (args : List AV) (out : Out) (post : List PB) (he : oneX ds (out0, post0) args = some (out, post)) : MeetsH C f [] args out post := by
  unfold oneX at he
  split at he
  · rename_i hb
    injection he with he
    injection he with h1 h2
    subst h1; subst h2
    rw [argsB_eq hb]; exact h
  · cases he
end Go.Vc
