/- A part of the proof: general laws of a reading of the model by abstract data, or contracts of the functions that the law calls. -/
import Derived.Test.YtonajancjagefaaGreatVc4
import Derived.Test.YtonajancjagefaaGreatVc5
set_option maxRecDepth 100000
namespace Go.Vc
open Go Go.RowKit
def SoundE (C : Ctx) (ro : Option Nat) (n : Nat) (D0 : List Deferred) (E0 : Env) (U : Nat → Prop) (F : Nat → AV) (E : Env) (a : Act) (o : Oper) (new : Nat) (r : Eff) : Prop :=
  (∀ c, o.op ≠ .defer c) → ∀ (K : Act → World → Prop) (Q : Exit → Act → World → Prop), (match r with
    | .ok v ups => ∀ a' E', Rel C n D0 E0 (fun id => U id ∨ (new ≤ id ∧ id < new + 8)) (setF F o.dst v) E' a' → E'.H = upH E.H ups → K a' E'.w
    | .pan v ups => ∀ E' u, Rel C n D0 E0 (fun id => U id ∨ (new ≤ id ∧ id < new + 8)) F E' a → E'.H = upH E.H ups → VRel E' v u → Q (.panic [{ v := u, recovered := false }]) a E'.w) →
    o.wpIn (Wf ro) 0 C.prog a E.w K Q
theorem argsM_rel {C : Ctx} {E : Env} {ks : List Nat} {new : Nat} {pre : List ABlk} {lent : List Nat} (I : InstOK C E ks new pre lent) : ∀ (cs : List Bool) (vs vs' : List AV) (us : List Value), argsM (BE E) (rho ks new) cs vs vs' → vs.length = us.length →
    (∀ (i : Nat) (v : AV) (u : Value), vs[i]? = some v → us[i]? = some u → VRel E v u) → (∀ i, i ∈ lentL cs vs → i ∈ lent) → (∀ i, i ∈ ids.idsL vs' → i < ks.length) → relL (E.loc ks pre lent) vs' us := by
  intro cs
  induction cs with
  | nil =>
    intro vs vs' us h hl _ _ _
    cases vs with
    | nil => cases vs' with
      | nil => exact ⟨hl, fun i v u h => by simp at h⟩
      | cons _ _ => exact h.elim
    | cons _ _ => exact h.elim
  | cons c cs ih =>
    intro vs vs' us h hl hv hlent hlow
    cases vs with
    | nil => cases c <;> exact h.elim
    | cons v vs =>
      cases vs' with
      | nil => cases c <;> exact h.elim
      | cons v' vs' =>
        cases us with
        | nil => simp at hl
        | cons u us =>
          have hvu := hv 0 v u rfl rfl
          have fin : VRel (E.loc ks pre lent) v' u → argsM (BE E) (rho ks new) cs vs vs' → (∀ i, i ∈ lentL cs vs → i ∈ lent) → relL (E.loc ks pre lent) (v' :: vs') (u :: us) := fun h1 h2 h3 => by
            obtain ⟨k1, k2⟩ := ih vs vs' us h2 (by simpa using hl) (fun i v u hi hu => hv (i + 1) v u (by simpa using hi) (by simpa using hu)) h3 (fun i hi => hlow i (by simp [ids.idsL, hi]))
            refine ⟨by simp [k1], fun i w x hi hx => ?_⟩
            cases i with
            | zero => simp at hi hx; subst hi; subst hx; exact h1
            | succ i => exact k2 i w x (by simpa using hi) (by simpa using hx)
          cases c with
          | true =>
            obtain ⟨⟨x, h1, rfl⟩, h2⟩ := h
            refine fin (.d _ _ (argD_rel I.hr (S' := (E.loc ks pre lent).S) (fun b h => .inl h) h1 hvu (fun b ⟨k, hk, h'⟩ => .inr ⟨k, hlent k (by simp [lentL, hk]), h'⟩))) h2 (fun i hi => hlent i (by simp [lentL, hi]))
          | false =>
            obtain ⟨rfl, h2⟩ := h
            exact fin (hvu.loc I v' rfl (fun i hi => hlow i (by simp [ids.idsL, hi]))) h2 (fun i hi => hlent i (by simpa [lentL] using hi))
section
variable {C : Ctx} {ro : Option Nat} {n : Nat} {D0 : List Deferred} {E0 : Env} {U : Nat → Prop} {F : Nat → AV} {E : Env} {a : Act} {o : Oper} {new : Nat}
theorem call_core (hR : Rel C n D0 E0 U F E a) (hd : ∀ t, o.dst = some t → t < n) {cal cal' : Cal} {us : List Value} {ks : List Nat} {pre : List ABlk} {args' : List AV} {out : Out} {post : List PB} {kill : Bool} {lent : List Nat}
    (hrun : match cal with
      | .fnc f => fnOK C.prog f = true → (execOp a.eval o).run C.prog E.w = .ok (.enter f us.toArray) E.w
      | .yld id => ∀ e L, E.H id = some ⟨0, e, .loop L⟩ → ∃ g, E.m id = some g ∧ (execOp a.eval o).run C.prog E.w = (Instr.yield g us.toArray).run C.prog E.w)
    (hM : MeetsC C pre args' out post cal') (hcal : cal = cal'.ren (rho ks new)) (I : InstOK C E ks new pre lent) (hrel : relL (E.loc ks pre lent) args' us) (hpl1 : pre.length ≤ post.length) (hpl2 : post.length ≤ pre.length + 8)
    (hkill : kill = false → lent = [] ∨ (ks = [] ∧ out.flatP ∧ postFlat post)) : SoundE C ro n D0 E0 U F E a o new (out.eff (rho ks new) (upsP (rho ks new) post 0 ++ killsIf kill lent)) := by
  intro hndf K Q hK
  refine wpIn_of hndf ?_
  have back : ∀ (e : Ending) (w' : World), (∃ E', E'.w = w' ∧ FinOK C pre post (E.loc ks pre lent) E' ∧ OutR E' out e) →
      match e with
      | .returned u => K (a.put o.dst u) w'
      | .panicked ch => Q (.panic ch) a w'
      | .outgrown => LetsOut Q := fun e w' h => by
    obtain ⟨E1, rfl, hfin, hout⟩ := h
    obtain ⟨ls, T, B, hups, hfl⟩ : ∃ (ls : List Nat) (T : Nat → Prop), BackOK C E E1 ks new pre lent ls T post ∧ killsIf kill lent = kills ls ∧ ((∀ d u, DRel E1.w E1.S d u → DRel E1.w T d u) ∨ out.flatP) := by
      cases kill with
      | true => exact ⟨lent, E1.S, ⟨I, hfin, hpl2, .inr rfl, fun b hb => hfin.go.step.S b (.inl hb), fun b h => h, .inr (.inr rfl), .inl fun d u h => h⟩, rfl, .inl fun d u h => h⟩
      | false =>
        rcases hkill rfl with h | ⟨h1, h2, h3⟩
        · exact ⟨[], E1.S, ⟨I, hfin, hpl2, .inl rfl, fun b hb => hfin.go.step.S b (.inl hb), fun b h => h, .inr (.inl h), .inl fun d u h => h⟩, rfl, .inl fun d u h => h⟩
        · exact ⟨[], E.S, ⟨I, hfin, hpl2, .inl rfl, fun b h => h, fun b hb => hfin.go.step.S b (.inl hb), .inl fun b h => h, .inr ⟨h1, h3⟩⟩, rfl, .inr h2⟩
    have hU : ∀ id t, (E.glob E1 ks new ls T).top id = some t → U id ∨ (new ≤ id ∧ id < new + 8) := fun id t ht => by
      simp only [Env.glob] at ht
      cases hi : inv ks new id with
      | none => rw [hi] at ht; exact .inl (hR.used id t ht)
      | some j =>
        obtain ⟨h1, h2⟩ := inv_some hi
        rcases Nat.lt_or_ge j ks.length with h3 | h3
        · obtain ⟨b, _, hH⟩ := I.live h3
          rw [h1] at hH
          exact .inl (hR.used id _ (hR.hr.blk id _ hH).1)
        · rw [rho_ge ks new j h3] at h1
          exact .inr (by omega)
    have hH := B.ups hpl1
    rw [hups] at hK
    cases out with
    | ret v =>
      cases e with
      | returned u =>
        exact hK _ (E.glob E1 ks new ls T) (hR.put B.goG B.hrG hU hd (VRel.glob B hout hfl)) hH
      | panicked ch => exact hout.elim
      | outgrown => exact hout.elim
    | pan v =>
      cases e with
      | returned u => exact hout.elim
      | panicked ch =>
        obtain ⟨u, rfl, hvu⟩ := hout
        exact hK (E.glob E1 ks new ls T) u (hR.turn B.goG B.hrG hU) hH (VRel.glob B hvu hfl)
      | outgrown => exact hout.elim
  have hst := I.start
  cases cal' with
  | fnc f =>
    simp only [Cal.ren] at hcal
    subst hcal
    obtain ⟨hok, hM⟩ := hM
    rw [hrun hok, Oper.uponIn_enter]
    refine ⟨Wf_depth ro 0, ?_⟩
    have hc := hM _ us hst hrel
    have hc : CallsIn Fence.wide (0 - 1) C.prog f us.toArray E.w _ := callsIn_wide.2 hc
    exact CallsIn.mono (F := Wf ro) hc (fun e w' h => by
      have := back e w' h
      cases e <;> exact this)
  | yld id' =>
    simp only [Cal.ren] at hcal
    subst hcal
    obtain ⟨⟨e, L, hL⟩, hM⟩ := hM
    obtain ⟨k, hk1, hk2, hk3⟩ := I.preH hL
    obtain ⟨g, hg, hrun⟩ := hrun e { L with tmps := renT (rho ks new) L.tmps } (by rw [← hk2]; exact hk3)
    obtain ⟨fn, tmps, assign, body, hy, hround⟩ := hM _ us hst hrel g (by simp only [Env.loc, hk1]; rw [hk2]; exact hg)
    have hy : (Instr.yield g us.toArray).run C.prog E.w = .ok (.round g fn tmps assign body) E.w := hy
    rw [hrun, hy, Oper.uponIn_round]
    refine ⟨Wf_depth ro 0, ?_⟩
    have hround : RoundIn Fence.wide (0 - 1) C.prog g fn tmps assign body E.w _ := hround
    exact RoundIn.mono (F := Wf ro) hround (fun e w' h => by
      have := back e w' h
      cases e <;> exact this)
theorem call_sound (hR : Rel C n D0 E0 U F E a) (hd : ∀ t, o.dst = some t → t < n) (hnew : ∀ i, new ≤ i → i < new + 8 → ¬ U i) {cal : Cal} {vs : List AV} {us : List Value} {rd : List Nat} {r : Eff}
    (hrun : match cal with
      | .fnc f => fnOK C.prog f = true → (execOp a.eval o).run C.prog E.w = .ok (.enter f us.toArray) E.w
      | .yld id => ∀ e L, E.H id = some ⟨0, e, .loop L⟩ → ∃ g, E.m id = some g ∧ (execOp a.eval o).run C.prog E.w = (Instr.yield g us.toArray).run C.prog E.w)
    (hl : vs.length = us.length) (hv : ∀ (i : Nat) (v : AV) (u : Value), vs[i]? = some v → us[i]? = some u → VRel E v u)
    (hE : CALLR C cal vs new (BE E) rd r) : SoundE C ro n D0 E0 U F E a o new r := by
  obtain ⟨ks, cal', cs, args', pre, out, post, kill, hM, hnd, hcal, hargs, hpre, hlow, hdisj, hpl1, hpl2, hrd, hkill, rfl⟩ := hE
  have hlow := lowL_spec hlow
  have I : InstOK C E ks new pre (lentL cs vs) := ⟨hR.prog, hR.G, hR.hN, hR.hr, NodupB_spec hnd, hpre, fun i hi => hlow i (by simp [hi]), disjB_spec hdisj, fun i h1 h2 => by
    cases h : E.top i with
    | none => rfl
    | some t => exact absurd (hR.used i t h) (hnew i h1 h2)⟩
  have hrel := argsM_rel I cs vs args' us hargs hl hv (fun i h => h) (fun i hi => hlow i (by simp [hi]))
  exact call_core hR hd hrun hM hcal I hrel hpl1 hpl2 hkill
theorem argX_rel {E : Env} {ks : List Nat} {new : Nat} {lent : List Nat} (I : InstOK C E ks new [] lent) {v : AV} {u : Value} {x : D} {ext : List Nat} (hv : VRel E v u) (h : argX (BE E) v = some (x, ext)) (hk : ∀ i, i ∈ ids v ++ ext → i ∈ lent) : VRel (E.loc ks [] lent) (.d x) u := by
  have base : argD (BE E) v = some x → VRel (E.loc ks [] lent) (.d x) u := fun h1 =>
    .d _ _ (argD_rel I.hr (S' := (E.loc ks [] lent).S) (fun b h => .inl h) h1 hv (fun b ⟨k, hk', h'⟩ => .inr ⟨k, hk k (List.mem_append_left _ hk'), h'⟩))
  cases v with
  | own id ver =>
    simp only [argX] at h
    split at h
    · rename_i e xs hB
      simp only [Option.some.injEq, Prod.mk.injEq] at h
      obtain ⟨rfl, rfl⟩ := h
      exact base (by simp only [argD, toD, hB])
    · rename_i e cs hB
      simp only [Option.map_eq_some_iff, Prod.mk.injEq] at h
      obtain ⟨⟨xs, ks'⟩, h1, rfl, rfl⟩ := h
      refine .d _ _ (argX_box I.hr hv hB h1 (E.loc ks [] lent).S (fun b h => .inl h) (fun b ⟨k, hk', h'⟩ => .inr ⟨k, hk k (by simpa [ids] using hk'), h'⟩))
    · cases h
  | _ =>
    simp only [argX, Option.map_eq_some_iff, Prod.mk.injEq] at h
    obtain ⟨y, h1, rfl, rfl⟩ := h
    exact base h1
theorem argsX_rel {E : Env} {ks : List Nat} {new : Nat} {lent : List Nat} (I : InstOK C E ks new [] lent) : ∀ (vs : List AV) (us : List Value) (ds : List D) (ext : List Nat), vs.length = us.length → (∀ (i : Nat) (v : AV) (u : Value), vs[i]? = some v → us[i]? = some u → VRel E v u) →
    argsX (BE E) vs = some (ds, ext) → (∀ i, i ∈ ids.idsL vs ++ ext → i ∈ lent) → relL (E.loc ks [] lent) (ds.map .d) us := by
  intro vs
  induction vs with
  | nil =>
    intro us ds ext hl hv h hk
    simp only [argsX, Option.some.injEq, Prod.mk.injEq] at h
    obtain ⟨rfl, rfl⟩ := h
    exact ⟨hl, fun i v u h => by simp at h⟩
  | cons v r ih =>
    intro us ds ext hl hv h hk
    cases us with
    | nil => simp at hl
    | cons u us =>
      simp only [argsX, Option.bind_eq_some_iff, Option.map_eq_some_iff, Prod.mk.injEq] at h
      obtain ⟨⟨x, e1⟩, h1, ⟨ys, e2⟩, h2, rfl, rfl⟩ := h
      have k0 := argX_rel I (hv 0 v u rfl rfl) h1 (fun i hi => hk i (by
        rcases List.mem_append.1 hi with hi | hi
        · simp [ids.idsL, hi]
        · simp [hi]))
      obtain ⟨k1, k2⟩ := ih us ys e2 (by simpa using hl) (fun i v u hi hu => hv (i + 1) v u (by simpa using hi) (by simpa using hu)) h2 (fun i hi => hk i (by
        rcases List.mem_append.1 hi with hi | hi
        · simp [ids.idsL, hi]
        · simp [hi]))
      refine ⟨by simp at k1 ⊢; omega, fun i w z hi hz => ?_⟩
      cases i with
      | zero => simp at hi hz; subst hi; subst hz; exact k0
      | succ i => exact k2 i w z (by simpa using hi) (by simpa using hz)
theorem calld_sound (hR : Rel C n D0 E0 U F E a) (hd : ∀ t, o.dst = some t → t < n) (hnew : ∀ i, new ≤ i → i < new + 8 → ¬ U i) {f : FuncId} {vs : List AV} {us : List Value} {rd : List Nat} {r : Eff}
    (hrun : fnOK C.prog f = true → (execOp a.eval o).run C.prog E.w = .ok (.enter f us.toArray) E.w)
    (hl : vs.length = us.length) (hv : ∀ (i : Nat) (v : AV) (u : Value), vs[i]? = some v → us[i]? = some u → VRel E v u)
    (hE : CALLD C f vs new (BE E) rd r) : SoundE C ro n D0 E0 U F E a o new r := by
  obtain ⟨ds, ext, v, post, h1, hM, h3, rfl, rfl⟩ := hE
  have I : InstOK C E [] new [] (ids.idsL vs ++ ext) := ⟨hR.prog, hR.G, hR.hN, hR.hr, NodupB_spec rfl, trivial, fun i hi => by simp [preIds] at hi, disjB_spec (by simp [disjB]), fun i h1 h2 => by
    cases h : E.top i with
    | none => rfl
    | some t => exact absurd (hR.used i t h) (hnew i h1 h2)⟩
  have hrel := argsX_rel I vs us ds ext hl hv h1 (fun i hi => hi)
  have := call_core (ro := ro) (kill := true) hR hd (cal := .fnc f) (cal' := .fnc f) (us := us) hrun hM rfl I hrel (Nat.zero_le _) (by simpa using h3) (fun h => by cases h)
  simpa [Out.eff, killsIf] using this
end
end Go.Vc
