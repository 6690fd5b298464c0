/- A part of the proof: general laws of a reading of the model by abstract data, or contracts of the functions that the law calls. -/
import Derived.Test.YtjdgidaoknlnlaaGreatDoorVc39
import Derived.Test.YtjdgidaoknlnlaaGreatDoorVc42
import Derived.Test.YtjdgidaoknlnlaaGreatDoorVc44
import Derived.Test.YtjdgidaoknlnlaaGreatDoorVc47
set_option maxRecDepth 100000
namespace Go.Vc
open Go Go.Proofs
variable {g : GG}
def logE (p : Pg) (L : List Nt) : Pg := ⟨p.people, p.lines, L⟩
theorem logE_ok {p : Pg} {L : List Nt} (h : p.ok = true) (hl : L.length ≤ 10) (hL : ∀ e, e ∈ L → entB p e = true) : (logE p L).ok = true := by
  simp only [Pg.ok, Bool.and_eq_true, decide_eq_true_eq] at h ⊢
  obtain ⟨h1, h2, h3, h4, h5⟩ := h
  refine ⟨h1, h2, hl, h4, ?_⟩
  have : (L.any fun e => !entB (logE p L) e) = false := by
    rw [List.any_eq_false]
    intro e he
    have : entB (logE p L) e = entB p e := rfl
    rw [this, hL e he]
    simp
  show (!(L.any fun e => !entB (logE p L) e)) = true
  rw [this]; rfl
end Go.Vc

namespace Go.Vc
open Go Go.Proofs
variable {g : GG}
attribute [local simp] and_assoc
theorem CALL.dataV {P : Ctx} {f : FuncId} {args : List AV} {new : Nat} {h : Heap} {K KP : List Nat → AV → Heap → Prop} (ds : List D) (v : AV) (h1 : argsD (bodyOf h) args = some ds) (h2 : Meets P f ds ⟨v, []⟩) (h3 : K (ids.idsL args) (v.ren (rho [] new)) (kills (lentL (args.map fun _ => true) args) ++ h)) : CALL P f args new h K KP := by
  have hM : ∀ (vs : List AV) (ds : List D), argsD (bodyOf h) vs = some ds → argsM (bodyOf h) (rho [] new) (vs.map fun _ => true) vs (ds.map .d) := by
    intro vs
    induction vs with
    | nil => intro ds hd; simp [argsD] at hd; subst hd; exact trivial
    | cons v r ih =>
      intro ds hd
      simp only [argsD] at hd
      cases hv : argD (bodyOf h) v with
      | none => rw [hv] at hd; cases hd
      | some x =>
        rw [hv] at hd
        simp only [Option.bind_some] at hd
        cases hr : argsD (bodyOf h) r with
        | none => rw [hr] at hd; cases hd
        | some xs =>
          rw [hr] at hd
          simp only [Option.map_some, Option.some.injEq] at hd
          subst hd
          exact ⟨⟨x, hv, rfl⟩, ih xs hr⟩
  have hl : ∀ ds : List D, ids.idsL (ds.map .d) = [] := fun ds => by
    induction ds with
    | nil => rfl
    | cons d r ih => simp [ids.idsL, ids, ih]
  exact ⟨ids.idsL args, .ok (v.ren (rho [] new)) (kills (lentL (args.map fun _ => true) args)), ⟨[], .fnc f, args.map fun _ => true, ds.map .d, [], .ret v, [], true, h2, rfl, rfl, hM _ _ h1, trivial, by simp [Cal.ids, hl, preIds, lowL], by simp [disjB], Nat.zero_le _, Nat.zero_le _, by simp [Cal.ids], fun h => (by cases h), by simp [Out.eff, killsIf, upsP]⟩, h3⟩
theorem readN_logE (p : Pg) (L : List Nt) (i : Nat) (a b : Int) : ∀ (n c : Nat) (s : Ps), readN (logE p L) i a b n c s = readN p i a b n c s
  | 0, _, _ => rfl
  | n + 1, c, s => by
    simp only [readN]
    exact readN_logE p L i a b n (c + 1) _
theorem stepS_logE (p : Pg) (L : List Nt) (i : Nat) (x : Nt) (s : Ps) : stepS (logE p L) i x s = stepS p i x s := by
  obtain ⟨k, ns⟩ := x
  rcases ns with _ | ⟨a, _ | ⟨b, _ | ⟨c, _ | ⟨d, _ | ⟨f, r⟩⟩⟩⟩⟩
  · rfl
  · rfl
  · rfl
  · rfl
  · simp only [stepS, readN_logE]
  · rfl
theorem stN_take (p : Pg) (m : Nat) : ∀ i, i ≤ m → i ≤ p.log.length → stN (logE p (p.log.take m)) i = stN p i
  | 0, _, _ => rfl
  | i + 1, h, hl => by
    have ih := stN_take p m i (by omega) (by omega)
    have hg : (logE p (p.log.take m)).log[i]? = p.log[i]? := by
      simp only [logE]
      rw [List.getElem?_take_of_lt (by omega)]
    simp only [stN, hg, ih]
    cases p.log[i]? with
    | none => rfl
    | some x => exact stepS_logE p _ i x _
theorem mem_rowM {p : Pg} {i k L : Nat} : ((i : Int), (k : Int)) ∈ rowM p i L ↔ k < L ∧ misB p i k = true := by
  simp only [rowM, List.mem_map, List.mem_filter, List.mem_range]
  constructor
  · rintro ⟨n, ⟨h1, h2⟩, h3⟩
    have : n = k := by have := congrArg Prod.snd h3; simp at this; omega
    subst this
    exact ⟨h1, h2⟩
  · intro h
    exact ⟨k, h, rfl⟩
theorem in_missL {p : Pg} {i k : Nat} : ∀ M, ((i : Int), (k : Int)) ∈ missL p M ↔ i < M ∧ k < p.lines.length ∧ misB p i k = true
  | 0 => by simp [missL]
  | M + 1 => by
    have ih := in_missL (p := p) (i := i) (k := k) M
    simp only [missL, List.mem_append, ih]
    have h2 : ((i : Int), (k : Int)) ∈ rowM p M p.lines.length ↔ i = M ∧ k < p.lines.length ∧ misB p i k = true := by
      by_cases h : i = M
      · subst h
        rw [mem_rowM]
        simp
      · constructor
        · intro hm
          simp only [rowM, List.mem_map] at hm
          obtain ⟨n, _, h3⟩ := hm
          have := congrArg Prod.fst h3
          simp at this
          omega
        · rintro ⟨h', _⟩
          exact absurd h' h
    rw [h2]
    constructor
    · rintro (⟨a, b⟩ | ⟨a, b⟩)
      · exact ⟨by omega, b⟩
      · exact ⟨by omega, b⟩
    · rintro ⟨a, b⟩
      by_cases h : i = M
      · exact .inr ⟨h, b⟩
      · exact .inl ⟨by omega, b⟩
theorem take_ok {p : Pg} (h : p.ok = true) (m : Nat) : (logE p (p.log.take m)).ok = true := by
  obtain ⟨a1, a2, a3, a4, a5, a6, a7⟩ := Pg.ok_len h
  refine logE_ok h ?_ (fun e he => a7 e (List.mem_of_mem_take he))
  have := List.length_take_le m p.log
  rw [List.length_take]; omega
theorem in_difL_take {p : Pg} {m k : Nat} (hm : m ≤ p.log.length) : (k : Int) ∈ difL (logE p (p.log.take m)) ↔ k < p.lines.length ∧ difB p (stN p m) k = true := by
  unfold difL
  have hl : (logE p (p.log.take m)).log.length = m := by simp [logE]; omega
  rw [hl, stN_take p m m (Nat.le_refl _) hm, in_fltL]
  exact Iff.rfl
theorem mem_take_succ {l : List (Int × Int)} {i : Nat} {x : Int × Int} (h : l[i]? = some x) (y : Int × Int) : decide (y ∈ l.take (i + 1)) = (decide (y ∈ l.take i) || decide (y = x)) := by
  rw [take_next h, ← Bool.decide_or]
  exact decide_eq_decide.2 (by simp)
end Go.Vc
