/- A part of the proof: general laws of a reading of the model by abstract data, or contracts of the functions that the law calls. -/
import Derived.Test.YtonajancjagefaaGreatVc17
set_option maxRecDepth 100000
namespace Go.Vc
open Go Go.RowKit
def dedup : Heap → List Nat → Heap
  | [], _ => []
  | (k, b) :: r, seen => match seen.contains k with
    | true => dedup r seen
    | false => match b with
      | some b => (k, some b) :: dedup r (k :: seen)
      | none => dedup r (k :: seen)
theorem lookH_dedup : ∀ (h : Heap) (seen : List Nat) (i : Nat), lookH (dedup h seen) i = if i ∈ seen then none else lookH h i := by
  intro h
  induction h with
  | nil => intro seen i; simp [dedup]
  | cons p r ih =>
    intro seen i
    obtain ⟨k, b⟩ := p
    simp only [dedup]
    split
    · rename_i hc
      have hk : k ∈ seen := by simpa using hc
      rw [ih]
      by_cases hi : i ∈ seen
      · simp [hi]
      · have : k ≠ i := fun h => hi (h ▸ hk)
        simp [hi, this]
    · rename_i hc
      have hk : k ∉ seen := by
        intro h
        have : seen.contains k = true := by simpa using h
        rw [hc] at this; cases this
      cases b with
      | some b =>
        simp only [lookH_cons, ih, List.mem_cons]
        by_cases hki : k = i
        · subst hki; simp [hk]
        · simp [hki, Ne.symm hki]
      | none =>
        simp only [lookH_cons, ih, List.mem_cons]
        by_cases hki : k = i
        · subst hki; simp
        · simp [hki, Ne.symm hki]
def frzV (id ver : Nat) (xs : List D) : AV → AV
  | .own i v => match Nat.beq i id && Nat.beq v ver with | true => .d (.list xs) | false => .own i v
  | v => v
def frzF (id ver : Nat) (xs : List D) : Fr → Fr
  | [] => []
  | (t, v, d) :: r => (t, frzV id ver xs v, d) :: frzF id ver xs r
def frz1 (t : Nat) (fr : Fr) (h : Heap) : Fr × Heap := match lk fr t with
  | .own id ver => match bodyOf h id ver with
    | some (_, .lst xs) => (frzF id ver xs fr, (id, none) :: h)
    | _ => (fr, h)
  | _ => (fr, h)
def frzS : List Nat → Fr → Heap → Fr × Heap
  | [], fr, h => (fr, h)
  | t :: r, fr, h => frzS r (frz1 t fr h).1 (frz1 t fr h).2
theorem lk_frzF (id ver : Nat) (xs : List D) : ∀ (fr : Fr) (t : Nat), lk (frzF id ver xs fr) t = frzV id ver xs (lk fr t) := by
  intro fr
  induction fr with
  | nil => intro t; rfl
  | cons x r ih =>
    intro t
    obtain ⟨s, v, d⟩ := x
    simp only [frzF, lk]
    split
    · rfl
    · exact ih t
theorem lkd_frzF (id ver : Nat) (xs : List D) : ∀ (fr : Fr) (t : Nat), lkd (frzF id ver xs fr) t = lkd fr t := by
  intro fr
  induction fr with
  | nil => intro t; rfl
  | cons x r ih =>
    intro t
    obtain ⟨s, v, d⟩ := x
    simp only [frzF, lkd]
    split
    · rfl
    · exact ih t
theorem DecOK.frzF {fr : Fr} (h : DecOK fr) (id ver : Nat) (xs : List D) : DecOK (frzF id ver xs fr) := fun t => by
  rw [lkd_frzF, lk_frzF]
  refine ⟨fun b hb => ?_, fun hb => ?_⟩
  · rw [(h t).1 b hb]; rfl
  · rw [(h t).2 hb]; rfl
def Env.still (E : Env) (id : Nat) : Env where
  P := E.P
  top := E.top
  m := E.m
  H i := if i = id then none else E.H i
  w := E.w
  S b := E.S b ∨ E.m id = some b
section
variable {C : Ctx} {n : Nat} {D0 : List Deferred} {E0 : Env}
theorem frz1_sound {fr : Fr} {h : Heap} {nx : Nat} {E : Env} {a : Act} (hS : St C n D0 E0 fr h nx E a) (t : Nat) : ∃ E', E'.w = E.w ∧ St C n D0 E0 (frz1 t fr h).1 (frz1 t fr h).2 nx E' a := by
  unfold frz1
  split
  · rename_i id ver hv
    split
    · rename_i e xs hb
      have hR := hS.rel
      have hH : E.H id = some ⟨ver, e, .lst xs⟩ := by rw [hS.H]; exact bodyAt_some.1 hb
      have dH : ∀ i b, (E.still id).H i = some b → i ≠ id ∧ E.H i = some b := fun i b hb => by
        simp only [Env.still] at hb
        split at hb
        · cases hb
        · exact ⟨by assumption, hb⟩
      have hs : E.Step (E.still id) := ⟨rfl, fun b hb => .inl hb, fun b _ => rfl, fun i t ht => ⟨t, ht, Nat.le_refl _⟩, fun i t b' _ hb' _ => by
        obtain ⟨h1, h2⟩ := dH i b' hb'
        exact ⟨rfl, b', h2, rfl, rfl, sameShape.refl _, fun g Cc el fr _ hC => ⟨Cc, el, fr, hC, rfl⟩⟩⟩
      have hg : E.Go (E.still id) := ⟨hs, rfl, rfl, rfl, Nat.le_refl _, fun b _ _ => rfl, fun b ⟨i, h1, h2⟩ => by
        obtain ⟨bb, hbb⟩ := Option.ne_none_iff_exists'.1 h1
        exact .inl ⟨i, by rw [(dH i bb hbb).2]; simp, h2⟩, fun b hb => by
        rcases hb with hb | hb
        · exact .inl hb
        · exact .inr (.inl ⟨id, by rw [hH]; simp, hb⟩)⟩
      have hh : HR C.N (E.still id) := by
        refine ⟨fun b hb => ?_, fun i b hb => ?_, fun i j g hi hj h1 h2 => ?_⟩
        · rcases hb with hb | hb
          · obtain ⟨h1, h2⟩ := hR.hr.st b hb
            refine ⟨h1, fun i hi => ?_⟩
            obtain ⟨bb, hbb⟩ := Option.ne_none_iff_exists'.1 hi
            exact h2 i (by rw [(dH i bb hbb).2]; simp)
          · refine ⟨hR.hr.blk_lt (by rw [hH]; simp) hb, fun i hi hm => ?_⟩
            obtain ⟨bb, hbb⟩ := Option.ne_none_iff_exists'.1 hi
            obtain ⟨h1, h2⟩ := dH i bb hbb
            exact h1 (hR.hr.inj i id b (by rw [h2]; simp) (by rw [hH]; simp) hm hb)
        · obtain ⟨h1, h2⟩ := dH i b hb
          obtain ⟨k1, k2, k3⟩ := hR.hr.blk i b h2
          exact ⟨k1, k2, fun g hg => let ⟨j1, o, j2, j3⟩ := k3 g hg; ⟨j1, o, j2, j3.step hs⟩⟩
        · obtain ⟨bi, hbi⟩ := Option.ne_none_iff_exists'.1 hi
          obtain ⟨bj, hbj⟩ := Option.ne_none_iff_exists'.1 hj
          exact hR.hr.inj i j g (by rw [(dH i bi hbi).2]; simp) (by rw [(dH j bj hbj).2]; simp) h1 h2
      have hR1 := hR.turn hg hh hR.used
      refine ⟨E.still id, rfl, ⟨⟨hR1.prog, hR1.base, hR1.hr, hR1.go, hR1.defers, hR1.tmps, fun t' => ?_, hR1.used⟩, ?_, hS.dec.frzF id ver xs, hS.hnx⟩⟩
      · rw [lk_frzF]
        have h0 := hR1.fr t'
        have h1 := hR.fr t'
        generalize a.tmps.getD t' undef = u at h0 h1
        generalize lk fr t' = v at h0 h1
        unfold frzV
        split
        · rename_i i v'
          split
          · rename_i hc
            simp only [Bool.and_eq_true] at hc
            have e1 := Nat.eq_of_beq_eq_true hc.1
            have e2 := Nat.eq_of_beq_eq_true hc.2
            subst e1; subst e2
            have hB : BE E i v' = some (e, .lst xs) := by unfold BE; rw [hH]; simp [bodyAt]
            exact .d _ _ (own_data hR.hr hB h1 (E.still i).S (fun b hb => .inl hb) (fun b hb => .inr hb))
          · exact h0
        · exact h0
      · funext i
        simp only [Env.still, lookH_cons]
        by_cases hi : i = id
        · subst hi; simp
        · rw [if_neg hi, if_neg (Ne.symm hi), hS.H]
    · exact ⟨E, rfl, hS⟩
  · exact ⟨E, rfl, hS⟩
theorem frzS_sound : ∀ (ts : List Nat) {fr : Fr} {h : Heap} {nx : Nat} {E : Env} {a : Act}, St C n D0 E0 fr h nx E a → ∃ E', E'.w = E.w ∧ St C n D0 E0 (frzS ts fr h).1 (frzS ts fr h).2 nx E' a := by
  intro ts
  induction ts with
  | nil => intro fr h nx E a hS; exact ⟨E, rfl, hS⟩
  | cons t r ih =>
    intro fr h nx E a hS
    obtain ⟨E1, h1, h2⟩ := frz1_sound hS t
    obtain ⟨E2, h3, h4⟩ := ih h2
    exact ⟨E2, h3.trans h1, h4⟩
end
abbrev CRes := AExit × Fr × Heap × Nat
def evFcall (orc : Orc) (f : AV) (args : List AV) (new : Nat) (h : Heap) : Option (List Nat × Eff) := match f with
  | .d (.fn f first caps) => evCall orc f (first.map .d ++ args ++ caps.map .d) new h
  | .fn f first caps => evCall orc f (first ++ args ++ caps) new h
  | _ => none
theorem evFcall_R {C : Ctx} {orc : Orc} (ho : OrcOK C orc) {f : AV} {args : List AV} {new : Nat} {h : Heap} {rd : List Nat} {r : Eff} {K KP : List Nat → AV → Heap → Prop}
    (hk : match r with | .ok v ups => K rd v (ups ++ h) | .pan v ups => KP rd v (ups ++ h)) (he : evFcall orc f args new h = some (rd, r)) : CALLF C f args new h K KP := by
  unfold evFcall at he
  unfold CALLF
  split at he
  · exact ⟨rd, r, evCall_R ho he, hk⟩
  · exact ⟨rd, r, evCall_R ho he, hk⟩
  · cases he
def rfEnd (id : Nat) (fr : Fr) (h : Heap) (nx : Nat) : Option CRes := match lookH h id with
  | some ⟨0, _, .loop L⟩ => match L.st, L.pend with
    | .ready, none => some (.normal, fr, (id, none) :: h, nx)
    | .done, some .ret => some (.ret, fr, (id, none) :: h, nx)
    | .done, some (.exit i) => some (.exit i, fr, (id, none) :: h, nx)
    | _, _ => none
  | _ => none
theorem rfEnd_after {id : Nat} {fr : Fr} {h : Heap} {nx : Nat} {e : AExit} {fr' : Fr} {h' : Heap} {nx' : Nat} (he : rfEnd id fr h nx = some (e, fr', h', nx')) :
    AFTER id h (fun h'' => e = .normal ∧ fr' = fr ∧ h' = h'' ∧ nx' = nx) (fun x h'' => (e = match x with | none => .ret | some i => .exit i) ∧ fr' = fr ∧ h' = h'' ∧ nx' = nx) := by
  unfold rfEnd at he
  unfold AFTER
  split at he
  · rename_i el L hL
    rw [hL]
    simp only
    split at he
    · rename_i h1 h2
      rw [h1, h2]
      simp only [Option.some.injEq, Prod.mk.injEq] at he
      obtain ⟨rfl, rfl, rfl, rfl⟩ := he
      exact ⟨rfl, rfl, rfl, rfl⟩
    · rename_i h1 h2
      rw [h1, h2]
      simp only [Option.some.injEq, Prod.mk.injEq] at he
      obtain ⟨rfl, rfl, rfl, rfl⟩ := he
      exact ⟨rfl, rfl, rfl, rfl⟩
    · rename_i h1 h2
      rw [h1, h2]
      simp only [Option.some.injEq, Prod.mk.injEq] at he
      obtain ⟨rfl, rfl, rfl, rfl⟩ := he
      exact ⟨rfl, rfl, rfl, rfl⟩
    · cases he
  · cases he
def evCode (p : Program) (self nt : Nat) (ann : Nat → List Nat) (orc : Orc) : Nat → Code → Fr → Heap → Nat → Option CRes
  | 0, _, _, _, _ => none
  | n + 1, c, fr, h, nx => match c with
    | .skip => some (.normal, fr, h, nx)
    | .label _ => some (.normal, fr, h, nx)
    | .exit id => some (.exit id, fr, h, nx)
    | .ret => some (.ret, fr, h, nx)
    | .region rid ops draw => match frzS (ann (rid + 100000)) fr h with
      | (fr, h) => match evOps p orc ops.toList (befs ops.toList 0 []) draw ops.toList 0 nx fr h [] with
        | some (.ok fr' h') => some (.normal, fr', h', nx + 8 * ops.toList.length)
        | some (.pan v h') => some (.pan v, clr ops.toList fr, h', nx + 8 * ops.toList.length)
        | none => none
    | .seq a b => match evCode p self nt ann orc n a fr h nx with
      | some (.normal, fr', h', nx') => evCode p self nt ann orc n b fr' h' nx'
      | r => r
    | .cond o x y => match evf fr o with
      | .d (.bool true) => evCode p self nt ann orc n x fr h nx
      | .d (.bool false) => evCode p self nt ann orc n y fr h nx
      | _ => none
    | .block id c => match evCode p self nt ann orc n c fr h nx with
      | some (.exit i, fr', h', nx') => match Nat.beq i id with | true => some (.normal, fr', h', nx') | false => some (.exit i, fr', h', nx')
      | r => r
    | .scope c => evCode p self nt ann orc n c fr h nx
    | .loop c => match evCode p self nt ann orc n c (zipF (vals fr (ann (firstRegion c))) (ann (firstRegion c)) 0) (dedup h []) nx with
      | some (.normal, fr', h', nx') => evCode p self nt ann orc n (.loop c) fr' h' nx'
      | r => r
    | .rangeFunc g ps assign body =>
      match evFcall orc (evf fr g) [.yld nx] (nx + 8) ((nx, some ⟨0, self, .loop ⟨.ready, none, nt, keepT fr (ann (firstRegion assign)), ps.toList, assign, body⟩⟩) :: h) with
      | some (_, .ok _ ups) => rfEnd nx fr (ups ++ (nx, some ⟨0, self, .loop ⟨.ready, none, nt, keepT fr (ann (firstRegion assign)), ps.toList, assign, body⟩⟩) :: h) (nx + 16)
      | some (_, .pan v ups) => some (.pan v, fr, ups ++ (nx, some ⟨0, self, .loop ⟨.ready, none, nt, keepT fr (ann (firstRegion assign)), ps.toList, assign, body⟩⟩) :: h, nx + 16)
      | none => none
    | _ => none
section
variable {C : Ctx} {ro : Option Nat} {n : Nat} {D0 : List Deferred} {E0 : Env}
theorem region_ev {nx : Nat} {orc : Orc} (ho : OrcOK C orc) {fr : Fr} {h : Heap} {E : Env} {a : Act} (hR : Rel C n D0 E0 (fun id => id < nx) (lk fr) E a) (hH : E.H = lookH h) (hD : DecOK fr) {rid : Nat} {ops : Array Oper} {draw : Bool} (hok : regionOK C.prog n ops.toList draw = true)
    {res : ERes} (hv : evOps C.prog orc ops.toList (befs ops.toList 0 []) draw ops.toList 0 nx fr h [] = some res) {Q : Exit → Act → World → Prop}
    (hK : ∀ fr' h' a' E', res = .ok fr' h' → DecOK fr' → Rel C n D0 E0 (fun id => id < nx + 8 * ops.toList.length) (lk fr') E' a' → E'.H = lookH h' → Q .normal a' E'.w)
    (hP : ∀ v h' a' E' u, res = .pan v h' → Rel C n D0 E0 (fun id => id < nx + 8 * ops.toList.length) (lk (clr ops.toList fr)) E' a' → E'.H = lookH h' → VRel E' v u → Q (.panic [{ v := u, recovered := false }]) a' E'.w) : (Code.region rid ops draw).wpIn (Wf ro) 0 C.prog Q a E.w := by
  obtain ⟨es, en, hT, hE, hord⟩ := evOps_trace ho ops.toList 0 nx fr h [] res hD hv
  have hall := regionOK_all hok
  have hfin : ∀ F1 H1 a' E', en = .ok F1 H1 → Rel C n D0 E0 (fun id => id < nx + 8 * ops.toList.length) F1 E' a' → E'.H = H1 → Q .normal a' E'.w := fun F1 H1 a' E' hen h1 h2 => by
    rw [hen] at hE
    cases res with
    | pan v h' => exact hE.elim
    | ok fr' h' =>
      obtain ⟨rfl, rfl, hD'⟩ := hE
      exact hK fr' h' a' E' rfl hD' h1 h2
  have hpan : ∀ p v H' F' a' E' u, en = .pan p v H' → (∀ t, (∀ o, o ∈ ops.toList → o.dst ≠ some t) → F' t = lk fr t) → Rel C n D0 E0 (fun id => id < nx + 8 * ops.toList.length) F' E' a' → E'.H = H' → VRel E' v u → Q (.panic [{ v := u, recovered := false }]) a' E'.w := fun p v H' F' a' E' u hen hF h1 h2 hu => by
    rw [hen] at hE
    cases res with
    | ok fr' h' => exact hE.elim
    | pan v' h' =>
      obtain ⟨rfl, rfl, _⟩ := hE
      refine hP v h' a' E' u rfl ⟨h1.prog, h1.base, h1.hr, h1.go, h1.defers, h1.tmps, fun t => ?_, h1.used⟩ h2 hu
      rcases lk_clr (t := t) ops.toList fr with h | ⟨h, h'⟩
      · rw [h]; exact .any _
      · rw [h', ← hF t h]; exact h1.fr t
  cases draw with
  | false =>
    refine wpIn_region ?_
    have := seq_core (ro := ro) (fun id h => h) hT hall hfin hpan ops.toList.length 0 (by simp) (fun p v H' _ => Nat.zero_le _) E a (.start hR hH (fun k => by simp))
    rw [List.range_eq_range']
    simpa using this
  | true =>
    simp only [regionOK, Bool.and_eq_true, Bool.not_true, Bool.false_or] at hok
    obtain ⟨_, ⟨hp, haf⟩, hm⟩ := hok
    refine wpIn_region_any hm ?_
    have hL0 : ∀ k, listedL (Array.replicate ops.size false) k = false := fun k => by
      simp only [listedL, Array.getD_eq_getD_getElem?, Array.getElem?_replicate]
      split <;> rfl
    have := any_core (ro := ro) (fun id h => h) hT hall hp haf (by simpa using hord rfl) (fun p v H' hen k e hk hlt => by
      rw [hen] at hE
      cases res with
      | ok fr' h' => exact hE.elim
      | pan v' h' =>
        obtain ⟨_, _, h4⟩ := hE
        have := (h4 rfl).2 k e hk (by omega)
        rw [Nat.zero_add] at this
        exact this) hfin hpan ops.size (Array.replicate ops.size false) (by simp) (fun p v H' _ => hL0 p) (by
      unfold unl
      refine Nat.le_trans (List.length_filter_le _ _) (by simp)) (fun m hm => by rw [hL0] at hm; cases hm) { E with w := { E.w with drawn := E.w.drawn + 1 } } a (.start (hR.world { E.w with drawn := E.w.drawn + 1 } rfl rfl rfl rfl) hH hL0)
    simpa using this
theorem trim_rel {U : Nat → Prop} {fr : Fr} {E : Env} {a : Act} (hR : Rel C n D0 E0 U (lk fr) E a) (slots : List Nat) : Rel C n D0 E0 U (lk (zipF (vals fr slots) slots 0)) E a := by
  refine ⟨hR.prog, hR.base, hR.hr, hR.go, hR.defers, hR.tmps, fun t => ?_, hR.used⟩
  rcases zipF_get (vals fr slots) slots 0 t with h | ⟨i, hi, he⟩
  · rw [h]; exact .any _
  · rw [he, Nat.zero_add]
    unfold nth
    rw [List.getD_eq_getElem?_getD]
    cases hv : (vals fr slots)[i]? with
    | none => exact .any _
    | some v => rw [Option.getD_some, vals_get fr slots i v t hv hi]; exact hR.fr t
theorem code_ev {orc : Orc} (ho : OrcOK C orc) {rf : Bool} (hrf : rf = true → C.marks = true ∧ ro = none) (self : Nat) (ann : Nat → List Nat) : ∀ (k : Nat) (c : Code), codeOK C.prog n rf c = true → ∀ (fr : Fr) (h : Heap) (nx : Nat) (e : AExit) (fr' : Fr) (h' : Heap) (nx' : Nat), evCode C.prog self n ann orc k c fr h nx = some (e, fr', h', nx') →
    ∀ (E : Env) (a : Act), St C n D0 E0 fr h nx E a → ∀ (Q : Exit → Act → World → Prop), (∀ x E' a', St C n D0 E0 fr' h' nx' E' a' → e.rel E' x → Q x a' E'.w) → c.wpIn (Wf ro) 0 C.prog Q a E.w := by
  intro k
  induction k using Nat.strongRecOn with
  | _ k IH =>
  cases k with
  | zero => intro c _ fr h nx e fr' h' nx' hv; simp [evCode] at hv
  | succ k =>
    have ih := IH k (Nat.lt_succ_self k)
    intro c hok fr h nx e fr' h' nx' hv E a hS Q hQ
    cases c with
    | skip =>
      simp only [evCode, Option.some.injEq, Prod.mk.injEq] at hv
      obtain ⟨rfl, rfl, rfl, rfl⟩ := hv
      exact wpIn_skip (hQ .normal E a hS trivial)
    | label l =>
      simp only [evCode, Option.some.injEq, Prod.mk.injEq] at hv
      obtain ⟨rfl, rfl, rfl, rfl⟩ := hv
      exact wpIn_label (hQ .normal E a hS trivial)
    | exit id =>
      simp only [evCode, Option.some.injEq, Prod.mk.injEq] at hv
      obtain ⟨rfl, rfl, rfl, rfl⟩ := hv
      exact wpIn_exit (hQ (.exit id) E a hS rfl)
    | ret =>
      simp only [evCode, Option.some.injEq, Prod.mk.injEq] at hv
      obtain ⟨rfl, rfl, rfl, rfl⟩ := hv
      exact wpIn_ret (hQ .ret E a hS trivial)
    | region rid ops draw =>
      simp only [evCode] at hv
      obtain ⟨E1, hw1, hS⟩ := frzS_sound (ann (rid + 100000)) hS
      generalize frzS (ann (rid + 100000)) fr h = fh at hv hS
      obtain ⟨fr, h⟩ := fh
      simp only at hv hS
      rw [← hw1]
      have hn := hS.hnx
      cases hev : evOps C.prog orc ops.toList (befs ops.toList 0 []) draw ops.toList 0 nx fr h [] with
      | none => rw [hev] at hv; cases hv
      | some res =>
        rw [hev] at hv
        refine region_ev ho hS.rel hS.H hS.dec hok hev (fun fr1 h1 a' E' hr hD hR hH => ?_) (fun v h1 a' E' u hr hR hH hu => ?_)
        · subst hr
          simp only [Option.some.injEq, Prod.mk.injEq] at hv
          obtain ⟨rfl, rfl, rfl, rfl⟩ := hv
          exact hQ .normal E' a' ⟨hR, hH, hD, by omega⟩ trivial
        · subst hr
          simp only [Option.some.injEq, Prod.mk.injEq] at hv
          obtain ⟨rfl, rfl, rfl, rfl⟩ := hv
          exact hQ _ E' a' ⟨hR, hH, hS.dec.clr, by omega⟩ ⟨u, rfl, hu⟩
    | seq x y =>
      simp only [codeOK, Bool.and_eq_true] at hok
      simp only [evCode] at hv
      cases hx : evCode C.prog self n ann orc k x fr h nx with
      | none => rw [hx] at hv; cases hv
      | some r =>
        obtain ⟨e1, fr1, h1, nx1⟩ := r
        rw [hx] at hv
        refine wpIn_seq (ih x hok.1 fr h nx e1 fr1 h1 nx1 hx E a hS _ (fun z E' a' hS' hz => ?_))
        cases e1 with
        | normal =>
          cases z <;> first | exact hz.elim | skip
          exact ih y hok.2 fr1 h1 nx1 e fr' h' nx' hv E' a' hS' Q hQ
        | exit i =>
          simp only [Option.some.injEq, Prod.mk.injEq] at hv
          obtain ⟨rfl, rfl, rfl, rfl⟩ := hv
          cases z <;> first | exact hz.elim | exact hQ _ _ _ hS' hz
        | ret =>
          simp only [Option.some.injEq, Prod.mk.injEq] at hv
          obtain ⟨rfl, rfl, rfl, rfl⟩ := hv
          cases z <;> first | exact hz.elim | exact hQ _ _ _ hS' hz
        | pan v =>
          simp only [Option.some.injEq, Prod.mk.injEq] at hv
          obtain ⟨rfl, rfl, rfl, rfl⟩ := hv
          cases z <;> first | exact hz.elim | exact hQ _ _ _ hS' hz
    | cond o x y =>
      simp only [codeOK, Bool.and_eq_true] at hok
      have hev : VRel E (evf fr o) (a.eval o) := by rw [evf_eq]; exact hS.rel.ev o
      simp only [evCode] at hv
      split at hv
      · rename_i hb; rw [hb] at hev
        exact wpIn_cond_true hev.inv_bool (ih x hok.1 fr h nx e fr' h' nx' hv E a hS Q hQ)
      · rename_i hb; rw [hb] at hev
        exact wpIn_cond_false hev.inv_bool (ih y hok.2 fr h nx e fr' h' nx' hv E a hS Q hQ)
      · cases hv
    | block id x =>
      simp only [evCode] at hv
      cases hx : evCode C.prog self n ann orc k x fr h nx with
      | none => rw [hx] at hv; cases hv
      | some r =>
        obtain ⟨e1, fr1, h1, nx1⟩ := r
        rw [hx] at hv
        refine wpIn_block (ih x hok fr h nx e1 fr1 h1 nx1 hx E a hS _ (fun z E' a' hS' hz => ?_))
        cases e1 with
        | normal =>
          simp only [Option.some.injEq, Prod.mk.injEq] at hv
          obtain ⟨rfl, rfl, rfl, rfl⟩ := hv
          cases z <;> first | exact hz.elim | exact hQ _ _ _ hS' hz
        | exit i =>
          cases z <;> first | exact hz.elim | skip
          rename_i j
          have hz : i = j := hz
          subst hz
          simp only [Exit.inBlock]
          simp only at hv
          by_cases hi : i = id
          · subst hi
            rw [if_pos rfl]
            simp only [Nat.beq_refl, Option.some.injEq, Prod.mk.injEq] at hv
            obtain ⟨rfl, rfl, rfl, rfl⟩ := hv
            exact hQ .normal _ _ hS' trivial
          · rw [if_neg hi]
            have hb : Nat.beq i id = false := by
              cases hb : Nat.beq i id
              · rfl
              · exact absurd (Nat.eq_of_beq_eq_true hb) hi
            rw [hb] at hv
            simp only [Option.some.injEq, Prod.mk.injEq] at hv
            obtain ⟨rfl, rfl, rfl, rfl⟩ := hv
            exact hQ (.exit i) _ _ hS' rfl
        | ret =>
          simp only [Option.some.injEq, Prod.mk.injEq] at hv
          obtain ⟨rfl, rfl, rfl, rfl⟩ := hv
          cases z <;> first | exact hz.elim | exact hQ _ _ _ hS' hz
        | pan v =>
          simp only [Option.some.injEq, Prod.mk.injEq] at hv
          obtain ⟨rfl, rfl, rfl, rfl⟩ := hv
          cases z <;> first | exact hz.elim | exact hQ _ _ _ hS' hz
    | scope x =>
      simp only [evCode] at hv
      refine wpIn_scope_straight (ih x hok fr h nx e fr' h' nx' hv E a hS _ (fun z E' a' hS' hz => ?_))
      have := hQ z E' a' hS' hz
      cases z with
      | goto l => cases e <;> exact hz.elim
      | _ => exact this
    | loop x =>
      refine wpIn_loop_fam (σ := Nat) (fun m a w => ∃ j, j ≤ k + 1 ∧ m = j ∧ ∃ fr0 h0 nx0 E, E.w = w ∧ St C n D0 E0 fr0 h0 nx0 E a ∧ evCode C.prog self n ann orc j (.loop x) fr0 h0 nx0 = some (e, fr', h', nx')) (fun m => m) ⟨k + 1, k + 1, Nat.le_refl _, rfl, fr, h, nx, E, rfl, hS, hv⟩ (fun m a1 w1 hI => ?_)
      obtain ⟨j, hj, rfl, fr0, h0, nx0, E1, rfl, hS1, hv1⟩ := hI
      cases m with
      | zero => simp [evCode] at hv1
      | succ m =>
        simp only [evCode] at hv1
        generalize hsl : ann (firstRegion x) = slots at hv1
        have hS2 : St C n D0 E0 (zipF (vals fr0 slots) slots 0) (dedup h0 []) nx0 E1 a1 := ⟨trim_rel hS1.rel slots, by
          rw [hS1.H]; funext i; rw [lookH_dedup]; simp, .ofNone (zipF_dec _ _ _), hS1.hnx⟩
        cases hx : evCode C.prog self n ann orc m x (zipF (vals fr0 slots) slots 0) (dedup h0 []) nx0 with
        | none => rw [hx] at hv1; cases hv1
        | some r =>
          obtain ⟨e1, fr1, h1, nx1⟩ := r
          rw [hx] at hv1
          refine IH m (by omega) x hok _ _ _ e1 fr1 h1 nx1 hx E1 a1 hS2 _ (fun z E' a' hS' hz => ?_)
          cases e1 with
          | normal =>
            cases z <;> first | exact hz.elim | skip
            exact ⟨m, ⟨m, by omega, rfl, fr1, h1, nx1, E', rfl, hS', hv1⟩, Nat.lt_succ_self m⟩
          | exit i =>
            simp only [Option.some.injEq, Prod.mk.injEq] at hv1
            obtain ⟨rfl, rfl, rfl, rfl⟩ := hv1
            cases z <;> first | exact hz.elim | exact hQ _ _ _ hS' hz
          | ret =>
            simp only [Option.some.injEq, Prod.mk.injEq] at hv1
            obtain ⟨rfl, rfl, rfl, rfl⟩ := hv1
            cases z <;> first | exact hz.elim | exact hQ _ _ _ hS' hz
          | pan v =>
            simp only [Option.some.injEq, Prod.mk.injEq] at hv1
            obtain ⟨rfl, rfl, rfl, rfl⟩ := hv1
            cases z <;> first | exact hz.elim | exact hQ _ _ _ hS' hz
    | rangeFunc g ps assign body =>
      simp only [codeOK] at hok
      obtain ⟨hmk, rfl⟩ := hrf hok
      simp only [evCode] at hv
      cases hc : evFcall orc (evf fr g) [.yld nx] (nx + 8) ((nx, some ⟨0, self, .loop ⟨.ready, none, n, keepT fr (ann (firstRegion assign)), ps.toList, assign, body⟩⟩) :: h) with
      | none => rw [hc] at hv; cases hv
      | some r =>
        obtain ⟨rd, r⟩ := r
        rw [hc] at hv
        have hF : CALLF C (evf fr g) [.yld nx] (nx + 8) ((nx, some ⟨0, self, .loop ⟨.ready, none, n, keepT fr (ann (firstRegion assign)), ps.toList, assign, body⟩⟩) :: h)
            (fun _ _ h1 => AFTER nx h1 (fun h'' => e = .normal ∧ fr' = fr ∧ h' = h'' ∧ nx' = nx + 16) (fun x h'' => (e = match x with | none => .ret | some i => .exit i) ∧ fr' = fr ∧ h' = h'' ∧ nx' = nx + 16))
            (fun _ v h'' => e = .pan v ∧ fr' = fr ∧ h' = h'' ∧ nx' = nx + 16) := by
          refine evFcall_R ho ?_ hc
          cases r with
          | ok v ups => exact rfEnd_after hv
          | pan v ups =>
            simp only [Option.some.injEq, Prod.mk.injEq] at hv
            obtain ⟨rfl, rfl, rfl, rfl⟩ := hv
            exact ⟨rfl, rfl, rfl, rfl⟩
        refine rangeFunc_sound hmk hS (KP := fun v h'' => e = .pan v ∧ fr' = fr ∧ h' = h'' ∧ nx' = nx + 16) hF (fun h1 E' a' hk hS' => ?_) (fun x h1 E' a' hk hS' => ?_) (fun v h1 E' a' u hk hS' hu => ?_)
        · obtain ⟨rfl, rfl, rfl, rfl⟩ := hk
          exact hQ .normal E' a' hS' trivial
        · obtain ⟨he, rfl, rfl, rfl⟩ := hk
          cases x with
          | none => subst he; exact hQ .ret E' a' hS' trivial
          | some i => subst he; exact hQ (.exit i) E' a' hS' rfl
        · obtain ⟨rfl, rfl, rfl, rfl⟩ := hk
          exact hQ _ E' a' hS' ⟨u, rfl, hu⟩
    | _ => cases hok
end
end Go.Vc
