/- A part of the proof: general laws of a reading of the model by abstract data, or contracts of the functions that the law calls. -/
import Derived.RangeFuncLeaves
import Derived.Test.YtonajancjagefaaGreatVc13
set_option maxRecDepth 100000
namespace Go.Vc
open Go Go.RowKit
def resTyOK (P : Program) : List ResultVar → Bool
  | [] => true
  | .tmp _ :: r => resTyOK P r
  | .cell _ ty :: r => (P.underlying ty).isSome && resTyOK P r
def fnVcOK (P : Program) (fn : Func) : Bool := !(fn.name == "runtime.NumGoroutine") && resTyOK P fn.results.toList && match fn.body with | some c => codeOK P fn.ntmps true c | none => false
theorem lk_zipA : ∀ (vs : List AV) (i t : Nat), lk (zipA vs i) t = if i ≤ t then (vs[t - i]?).getD .any else .any := by
  intro vs
  induction vs with
  | nil => intro i t; simp [zipA, lk]
  | cons v r ih =>
    intro i t
    simp only [zipA, lk]
    split
    · rename_i hb
      have := Nat.eq_of_beq_eq_true hb
      subst this
      simp
    · rename_i hb
      have hne : i ≠ t := fun e => by subst e; simp at hb
      rw [ih]
      by_cases h : i + 1 ≤ t
      · rw [if_pos h, if_pos (by omega), show t - i = (t - (i + 1)) + 1 by omega, List.getElem?_cons_succ]
      · rw [if_neg h, if_neg (by omega)]
theorem zipA_dec : ∀ (vs : List AV) (i t : Nat), lkd (zipA vs i) t = none := by
  intro vs
  induction vs with
  | nil => intro i t; rfl
  | cons v r ih =>
    intro i t
    simp only [zipA, lkd]
    split
    · rfl
    · exact ih (i + 1) t
section
variable {C : Ctx} {n : Nat} {D0 : List Deferred} {E0 : Env} {U : Nat → Prop} {fr : Fr} {h : Heap} {E : Env} {a : Act}
theorem load_addr {P : Program} {w : World} {t : TypeId} {ux u : Value} (h : (Instr.loadAt t ux).run P w = .ok u w) : (do loadVar t (← asAddr ux) : Sem Value).run P w = .ok u w := by
  cases ux <;> first | (simp [Instr.loadAt, Instr.sureAddr] at h; done) | skip
  rename_i ad
  cases ad with
  | none => simp [Instr.loadAt, Instr.sureAddr] at h
  | some ad => simpa [Instr.loadAt, Instr.sureAddr, asAddr] using h
def resV (a : Act) : ResultVar → Sem Value
  | .tmp t => pure (a.tmps.getD t undef)
  | .cell b t => do loadVar t (← asAddr (a.tmps.getD b undef))
theorem results_eq (fn : Func) (a : Act) : results fn a.tmps = (do let vs ← fn.results.mapM (resV a); pure (if h : vs.size = 1 then vs[0] else .tuple vs)) := rfl
theorem res_sound (hR : Rel C n D0 E0 U (lk fr) E a) (hH : E.H = lookH h) : ∀ (rs : List ResultVar), resTyOK C.prog rs = true → ∀ (K : List AV → Prop), resOf C fr h rs K →
    ∃ vs us, K vs ∧ vs.length = us.length ∧ (∀ (i : Nat) (v : AV) (u : Value), vs[i]? = some v → us[i]? = some u → VRel E v u) ∧
      (rs.mapM (resV a)).run C.prog E.w = .ok us E.w := by
  intro rs
  induction rs with
  | nil => intro _ K hk; exact ⟨[], [], hk, rfl, fun i v u h => by simp at h, by simp⟩
  | cons r rs ih =>
    intro hok K hk
    cases r with
    | tmp t =>
      obtain ⟨vs, us, h1, h2, h3, h4⟩ := ih hok _ hk
      refine ⟨lk fr t :: vs, a.tmps.getD t undef :: us, h1, by simp [h2], fun i v u hv hu => ?_, ?_⟩
      · cases i with
        | zero => simp only [List.getElem?_cons_zero, Option.some.injEq] at hv hu; rw [← hv, ← hu]; exact hR.fr t
        | succ i => exact h3 i v u (by simpa using hv) (by simpa using hu)
      · simp only [List.mapM_cons, resV, Sem.run_bind, Sem.run_pure, Result.andThen_ok, h4]
    | cell t ty =>
      simp only [resTyOK, Bool.and_eq_true] at hok
      obtain ⟨v0, hL, hk⟩ := LOAD_R hk
      have hBE : bodyOf h = BE E := by funext id ver; simp only [bodyOf, BE, hH]
      rw [hBE] at hL
      obtain ⟨u0, hu0, hv0⟩ := load_sound hR (hR.fr t) hok.1 hL
      obtain ⟨vs, us, h1, h2, h3, h4⟩ := ih hok.2 _ hk
      refine ⟨v0 :: vs, u0 :: us, h1, by simp [h2], fun i v u hv hu => ?_, ?_⟩
      · cases i with
        | zero => simp only [List.getElem?_cons_zero, Option.some.injEq] at hv hu; rw [← hv, ← hu]; exact hv0
        | succ i => exact h3 i v u (by simpa using hv) (by simpa using hu)
      · have := load_addr hu0
        simp only [List.mapM_cons, resV, Sem.run_bind, Sem.run_pure] at this ⊢
        rw [this]
        simp only [Result.andThen_ok, h4]
def Env.shut (E : Env) (r : Nat) : Env := { E with w := { E.w with heap := E.w.heap.setIfInBounds r (.deferred none) } }
theorem shut_rel {F : Nat → AV} (hR : Rel C n D0 E0 U F E a) {r : Nat} (h0 : E0.w.heap.size ≤ r) (hm : MarkOK E r) (hd : a.defers = D0) : Rel C n D0 E0 U F (E.shut r) a ∧ E.Step (E.shut r) ∧ ∀ r', r' ≠ r → MarkOK E r' → MarkOK (E.shut r) r' := by
  obtain ⟨m1, m2, m3, m4⟩ := hm
  have hoth : ∀ b, b ≠ r → (E.shut r).w.heap[b]? = E.w.heap[b]? := fun b hb => by
    simp only [Env.shut, Array.getElem?_setIfInBounds]
    rw [if_neg (fun h => hb h.symm)]
  have hs : E.Step (E.shut r) := by
    refine ⟨rfl, fun b hb => hb, fun b hb => hoth b (fun h => m2 (h ▸ hb)), fun i t ht => ⟨t, ht, Nat.le_refl _⟩, fun i t b' ht hb hv => ⟨rfl, b', hb, rfl, rfl, sameShape.refl _, fun g Cc el fr _ hC => ⟨Cc, el, fr, ?_, rfl⟩⟩⟩
    have : g ≠ r := fun h => by subst h; rw [m4] at hC; cases hC
    rw [← hC]; exact hoth g this
  have hh : HR C.N (E.shut r) := by
    refine ⟨fun b hb => ?_, fun i b hb => ?_, hR.hr.inj⟩
    · obtain ⟨h1, h2⟩ := hR.hr.st b hb
      exact ⟨by simpa [Env.shut] using h1, h2⟩
    · obtain ⟨k1, k2, k3⟩ := hR.hr.blk i b hb
      refine ⟨k1, k2, fun g hg => ?_⟩
      obtain ⟨j1, o, j2, j3⟩ := k3 g hg
      have : g ≠ r := fun h => m3 ⟨i, by rw [show E.H i = some b from hb]; simp, h ▸ hg⟩
      exact ⟨j1, o, (hoth g this).trans j2, j3.step hs⟩
  have hg : E0.Go (E.shut r) := by
    have g := hR.go
    refine ⟨g.step.trans hs, g.os, g.tape, g.output, by simpa [Env.shut] using g.size, fun b hb hn => ?_, g.own, g.st⟩
    exact (hoth b (by omega)).trans (g.only b hb hn)
  refine ⟨⟨hR.prog, hR.base, hh, hg, ⟨[], by simpa using hd, List.nodup_nil, fun r hr => by cases hr⟩, hR.tmps, fun t => (hR.fr t).step hs, hR.used⟩, hs, fun r' hr' ⟨k1, k2, k3, k4⟩ => ⟨by simpa [Env.shut] using k1, k2, k3, (hoth r' hr').trans k4⟩⟩
theorem marks_leave {F : Nat → AV} {fn : Func} {R : Ending → World → Prop} {u : FrameMode} (hu : u ≠ .run) {tmps : Array Value} : ∀ (rs : List Nat) (E : Env), Rel C n [] E0 U F E { tmps := tmps, defers := [] } → rs.Nodup → (∀ r, r ∈ rs → E0.w.heap.size ≤ r ∧ MarkOK E r) →
    (∀ E', Rel C n [] E0 U F E' { tmps := tmps, defers := [] } → E'.H = E.H → E.Step E' → LeavesIn (Wf none) 0 C.prog fn tmps R [] u E'.w) → LeavesInM (Wf none) 0 C.prog fn tmps R (rs.map mark) u E.w := by
  intro rs
  induction rs with
  | nil => intro E hR _ _ hK; exact hK E hR rfl (.refl E)
  | cons r rs ih =>
    intro E hR hnd hm hK
    obtain ⟨h0, hmr⟩ := hm r (by simp)
    obtain ⟨h1, h2⟩ := List.nodup_cons.1 hnd
    obtain ⟨k1, k2, k3⟩ := shut_rel hR h0 hmr rfl
    have htake : (Instr.takeDeferred r).run C.prog E.w = .ok [] (E.shut r).w := by
      have hget : (getObj r).run C.prog E.w = .ok (.deferred (some [])) E.w := by simp [getObj, Sem.run, hmr.2.2.2]
      have hset : (setObj r (.deferred none)).run C.prog E.w = .ok () (E.shut r).w := by simp [setObj, Sem.run, hmr.2.2.2, Env.shut]
      simp only [Instr.takeDeferred, Sem.run_bind, hget, Result.andThen_ok, hset, Sem.run_pure]
    refine ⟨hu, .inl ⟨r, (E.shut r).w, rfl, htake, ih (E.shut r) k1 h2 (fun r' hr' => ?_) (fun E' g1 g2 g3 => hK E' g1 g2 (k2.trans g3))⟩⟩
    obtain ⟨q1, q2⟩ := hm r' (List.mem_cons_of_mem _ hr')
    exact ⟨q1, k3 r' (fun h => h1 (h ▸ hr')) q2⟩
theorem end_sound {pre : List ABlk} {post : List PB} (hst : StartOK C pre E0) {F : Nat → AV} (hR : Rel C n D0 E0 U F E a) (hH : E.H = lookH h) {v r : AV} {u : Value} (hv : VRel E v u) (hp : POST v h pre r post) : ∃ E', E'.w = E.w ∧ FinOK C pre post E0 E' ∧ VRel E' r u := by
  obtain ⟨rs, h1, h2, h3, h4, h5, h6, h7⟩ := hp
  have hBE : bodyOf h = BE E := by funext id ver; simp only [bodyOf, BE, hH]
  rw [hBE] at h5 h6
  have O : EndOK' C E0 E pre post rs h (fz v r ++ fzH h pre.length rs post 0) := ⟨hst, hR.go, hR.hr, hH, h1, h2, fun i hi => by
    have := List.all_eq_true.1 h3 i hi
    exact Nat.le_of_ble_eq_true this, NodupB_spec h4, h6, fun x hx => List.mem_append_right _ hx, fun x hx hs => by
    have := disjB_spec h7
    exact this x hx hs⟩
  exact ⟨E.fin pre post rs (fz v r ++ fzH h pre.length rs post 0), rfl, O.finG, O.val hv r h5 (fun x hx => List.mem_append_left _ hx)⟩
theorem one_sound (hR : Rel C n D0 E0 U (lk fr) E a) (hH : E.H = lookH h) {fn : Func} (hok : resTyOK C.prog fn.results.toList = true) {K : List AV → Prop} (hk : resOf C fr h fn.results.toList K) :
    ∃ vs v, K vs ∧ (results fn a.tmps).run C.prog E.w = .ok v E.w ∧ VRel E (oneOf vs) v := by
  obtain ⟨vs, us, hK, hlen, hv, hrun⟩ := res_sound hR hH _ hok _ hk
  have hrun' : (fn.results.mapM (resV a)).run C.prog E.w = .ok us.toArray E.w := by
    rw [Array.mapM_eq_mapM_toList]
    show Sem.run C.prog (List.toArray <$> _) E.w = _
    rw [map_eq_pure_bind]
    simp only [Sem.run_bind, hrun, Result.andThen_ok, Sem.run_pure]
  match vs, us, hlen, hv, hrun', hK with
  | [v], [u], _, hv, hrun', hK =>
    refine ⟨[v], u, hK, ?_, hv 0 v u rfl rfl⟩
    simp only [results_eq, Sem.run_bind, hrun', Result.andThen_ok, Sem.run_pure]
    rfl
  | [], [], _, hv, hrun', hK =>
    refine ⟨[], .tuple #[], hK, ?_, .tup _ _ rfl (fun i v u h => by simp at h)⟩
    simp only [results_eq, Sem.run_bind, hrun', Result.andThen_ok, Sem.run_pure]
    rfl
  | v :: v' :: vs, u :: u' :: us, hlen, hv, hrun', hK =>
    refine ⟨v :: v' :: vs, .tuple (u :: u' :: us).toArray, hK, ?_, .tup _ _ (by simpa using hlen) (fun i v u h1 h2 => hv i v u h1 (by simpa using h2))⟩
    simp only [results_eq, Sem.run_bind, hrun', Result.andThen_ok, Sem.run_pure]
    rw [dif_neg (by simp)]
end
theorem lookH_numbered : ∀ (pre : List ABlk) (j i : Nat), lookH (numbered j pre) i = if j ≤ i then pre[i - j]? else none := by
  intro pre
  induction pre with
  | nil => intro j i; simp [numbered, lookH]
  | cons b r ih =>
    intro j i
    simp only [numbered, lookH]
    split
    · rename_i hb
      have := Nat.eq_of_beq_eq_true hb
      subst this
      simp
    · rename_i hb
      have hne : j ≠ i := fun e => by subst e; simp at hb
      rw [ih]
      by_cases h : j + 1 ≤ i
      · rw [if_pos h, if_pos (by omega), show i - j = (i - (j + 1)) + 1 by omega, List.getElem?_cons_succ]
      · rw [if_neg h, if_neg (by omega)]
theorem start_rel {C : Ctx} {E0 : Env} {pre : List ABlk} (hst : StartOK C pre E0) (hk : pre.length ≤ 24) {args : List AV} {us : List Value} (hr : relL E0 args us) {n : Nat} (hn : args.length ≤ n) (D0 : List Deferred) :
    St C n D0 E0 (zipA args 0) (numbered 0 pre) 24 E0 { tmps := us.toArray ++ Array.replicate (n - us.toArray.size) undef, defers := D0 } := by
  obtain ⟨hl, hv⟩ := hr
  refine ⟨⟨hst.prog, ⟨hst.G, hst.hN, hst.hr⟩, hst.hr, .refl E0, ⟨[], rfl, List.nodup_nil, fun r hr => by cases hr⟩, by simp; omega, fun t => ?_, fun id t ht => by have := hst.top id t ht; omega⟩, ?_, .ofNone (zipA_dec _ _), Nat.le_refl _⟩
  · rw [lk_zipA]
    simp only [Nat.zero_le, if_true, Nat.sub_zero]
    cases ht : args[t]? with
    | none => exact .any _
    | some d =>
      have hlt := (List.getElem?_eq_some_iff.1 ht).1
      have hu : us[t]? = some us[t] := List.getElem?_eq_getElem (by omega)
      simp only [Option.getD_some]
      have e : (us.toArray ++ Array.replicate (n - us.toArray.size) undef).getD t undef = us[t] := by
        simp only [Array.getD_eq_getD_getElem?]
        rw [Array.getElem?_append_left (by simp; omega)]
        simp [hu]
      rw [e]
      exact hv t d _ ht hu
  · funext i
    rw [hst.H, lookH_numbered]
    simp
theorem meetsH_of_vc {C : Ctx} {f : FuncId} {fn : Func} (ann : Nat → List Nat) (hf : C.prog.funcs[f]? = some fn) (hok : fnVcOK C.prog fn = true) {pre : List ABlk} {args : List AV} {out : Out} {post : List PB} (hn : Nat.ble args.length fn.ntmps = true) (hk : Nat.ble pre.length 24 = true) {pn : Bool} (hv : vcFn C pn ann fn pre args out post) (hmk : C.marks = true := by rfl) : MeetsH C f pre args out post := by
  have hn := Nat.le_of_ble_eq_true hn
  have hk := Nat.le_of_ble_eq_true hk
  simp only [fnVcOK, Bool.and_eq_true] at hok
  obtain ⟨⟨hname, hres⟩, hbody⟩ := hok
  unfold vcFn at hv
  cases hb : fn.body with
  | none => rw [hb] at hbody; cases hbody
  | some c =>
    rw [hb] at hbody hv
    refine ⟨by simp only [fnOK, hf, hb]; simpa using hname, fun E0 us hst hrel => ?_⟩
    have hS := start_rel hst hk hrel hn []
    refine (callsIn_wide (n := 0)).1 ?_
    refine callsIn_of_wp_marks (F := Wf none) (n := 0) hf hb trivial ?_ rfl
    have leave : ∀ (u : FrameMode) (fr' : Fr) (h' : Heap) (nx' : Nat) (E' : Env) (a' : Act), u ≠ .run → St C fn.ntmps [] E0 fr' h' nx' E' a' →
        (∀ E1, Rel C fn.ntmps [] E0 (fun id => id < nx') (lk fr') E1 { tmps := a'.tmps, defers := [] } → E1.H = lookH h' → E'.Step E1 → LeavesIn (Wf none) 0 C.prog fn a'.tmps (fun e w' => ∃ E', E'.w = w' ∧ FinOK C pre post E0 E' ∧ OutR E' out e) [] u E1.w) →
        LeavesInM (Wf none) 0 C.prog fn a'.tmps (fun e w' => ∃ E', E'.w = w' ∧ FinOK C pre post E0 E' ∧ OutR E' out e) a'.defers u E'.w := fun u fr' h' nx' E' a' hu hS' hK => by
      have hR := hS'.rel
      obtain ⟨rs, d1, d2, d3⟩ := hR.defers
      rw [List.append_nil] at d1
      rw [d1]
      exact marks_leave hu rs E' ⟨hR.prog, hR.base, hR.hr, hR.go, ⟨[], rfl, List.nodup_nil, fun r hr => by cases hr⟩, hR.tmps, hR.fr, hR.used⟩ d2 (fun r hr => ⟨(d3 r hr).1.1, (d3 r hr).2⟩) (fun E1 g1 g2 g3 => hK E1 g1 (g2.trans hS'.H) g3)
    have fin : ∀ (fr' : Fr) (h' : Heap) (nx' : Nat) (E' : Env) (a' : Act), St C fn.ntmps [] E0 fr' h' nx' E' a' → (resOf C fr' h' fn.results.toList fun vs => match out with | .ret r => POST (oneOf vs) h' pre r post | .pan _ => False) →
        LeavesInM (Wf none) 0 C.prog fn a'.tmps (fun e w' => ∃ E', E'.w = w' ∧ FinOK C pre post E0 E' ∧ OutR E' out e) a'.defers .returning E'.w := fun fr' h' nx' E' a' hS' hq => by
      refine leave .returning fr' h' nx' E' a' (by simp) hS' (fun E1 g1 g2 g3 => ?_)
      obtain ⟨vs, v, k1, k2, k3⟩ := one_sound g1 g2 hres hq
      cases out with
      | ret r =>
        obtain ⟨E2, e1, e2, e3⟩ := end_sound hst g1 g2 k3 k1
        exact ⟨v, k2, E2, e1, e2, e3⟩
      | pan r => exact k1.elim
    refine code_sound (ro := none) hmk (fun id t ht => by have := hst.top id t ht; omega) pn ann c hbody _ _ _ _ E0 _ hv hS _ (fun e x fr' h' nx' E' a' hq hS' hx => ?_)
    cases e with
    | normal => cases x <;> first | exact hx.elim | exact fin fr' h' nx' E' a' hS' hq
    | ret => cases x <;> first | exact hx.elim | exact fin fr' h' nx' E' a' hS' hq
    | exit i => exact hq.elim
    | pan v =>
      cases x <;> first | exact hx.elim | skip
      obtain ⟨u, rfl, hu⟩ := hx
      refine leave _ fr' h' nx' E' a' (by simp) hS' (fun E1 g1 g2 g3 => ?_)
      cases out with
      | ret r => exact hq.elim
      | pan r =>
        obtain ⟨E2, e1, e2, e3⟩ := end_sound hst g1 g2 (hu.step g3) hq
        exact ⟨E2, e1, e2, u, rfl, e3⟩
end Go.Vc

namespace Go.Vc
open Go
section
variable {P : Ctx} {h : Heap} {B : BF} {K : AV → Prop} {KH : AV → Heap → Prop} {K1 : Heap → Prop} {nf : Nat}
@[simp] theorem PICK_b (t : Bool) (a b : AV) : PICK (.d (.bool t)) a b K = ((t = true → K a) ∧ (t = false → K b)) := rfl
@[simp] theorem BIN_d (op : BinOp) (a b : D) : BIN nf op (.d a) (.d b) K = ∃ r, binD nf op a b = some r ∧ K (.d r) := rfl
@[simp] theorem BIN_nil (op : BinOp) (a : D) : BIN nf op (.d a) .zc K = (nilCmp nf op (.d a) .zc = true ∧ K (nilV op (.d a))) := rfl
@[simp] theorem BIN_nil0 (op : BinOp) : BIN nf op .zc .zc K = (nilCmp nf op .zc .zc = true ∧ K (nilV op .zc)) := rfl
@[simp] theorem nilV_cons (op : BinOp) (x : D) (r : List D) : nilV op (.d (.list (x :: r))) = .d (.bool (isNeq op)) := rfl
@[simp] theorem isNeq_eql : isNeq .eql = false := rfl
@[simp] theorem isNeq_neq : isNeq .neq = true := rfl
@[simp] theorem nilV_nil (op : BinOp) : nilV op (.d (.list [])) = .anyb := rfl
@[simp] theorem nilV_zc (op : BinOp) : nilV op .zc = .anyb := rfl
@[simp] theorem nilCmp_eql (xs : List D) : nilCmp 998 .eql (.d (.list xs)) .zc = true := rfl
@[simp] theorem nilCmp_neq (xs : List D) : nilCmp 998 .neq (.d (.list xs)) .zc = true := rfl
@[simp] theorem nilCmp_eql0 : nilCmp 998 .eql .zc .zc = true := rfl
@[simp] theorem nilCmp_neq0 : nilCmp 998 .neq .zc .zc = true := rfl
@[simp] theorem binD_add (k : IntKind) (a b : Int) : binD nf .add (.num k a) (.num k b) = some (.num k (k.wrap (a + b))) := by simp [binD]
@[simp] theorem binD_sub (k : IntKind) (a b : Int) : binD nf .sub (.num k a) (.num k b) = some (.num k (k.wrap (a - b))) := by simp [binD]
@[simp] theorem binD_mul (k : IntKind) (a b : Int) : binD nf .mul (.num k a) (.num k b) = some (.num k (k.wrap (a * b))) := by simp [binD]
@[simp] theorem binD_quo (k : IntKind) (a b : Int) : binD nf .quo (.num k a) (.num k b) = if b = 0 then none else some (.num k (k.wrap (a.tdiv b))) := by simp [binD]
@[simp] theorem binD_rem (k : IntKind) (a b : Int) : binD nf .rem (.num k a) (.num k b) = if b = 0 then none else some (.num k (a.tmod b)) := by simp [binD]
@[simp] theorem binD_eql (k : IntKind) (a b : Int) : binD nf .eql (.num k a) (.num k b) = some (.bool (decide (a = b))) := by simp [binD, cmpD]
@[simp] theorem binD_neq (k : IntKind) (a b : Int) : binD nf .neq (.num k a) (.num k b) = some (.bool (!decide (a = b))) := by simp [binD, cmpD]
@[simp] theorem binD_lss (k : IntKind) (a b : Int) : binD nf .lss (.num k a) (.num k b) = some (.bool (decide (a < b))) := by simp [binD, cmpD]
@[simp] theorem binD_leq (k : IntKind) (a b : Int) : binD nf .leq (.num k a) (.num k b) = some (.bool (decide (a ≤ b))) := by simp [binD, cmpD]
@[simp] theorem binD_gtr (k : IntKind) (a b : Int) : binD nf .gtr (.num k a) (.num k b) = some (.bool (decide (b < a))) := by simp [binD, cmpD]
@[simp] theorem binD_geq (k : IntKind) (a b : Int) : binD nf .geq (.num k a) (.num k b) = some (.bool (decide (b ≤ a))) := by simp [binD, cmpD]
@[simp] theorem binD_agg_neq (a b : List D) : binD nf .neq (.agg a) (.agg b) = if a.length + 1000 = nf then (beqAll a b).map fun x => .bool (!x) else none := rfl
@[simp] theorem binD_agg_eql (a b : List D) : binD nf .eql (.agg a) (.agg b) = if a.length + 1000 = nf then (beqAll a b).map .bool else none := rfl
@[simp] theorem binD_bool_eql (a b : Bool) : binD 999 .eql (.bool a) (.bool b) = some (.bool (a == b)) := rfl
@[simp] theorem binD_bool_neq (a b : Bool) : binD 999 .neq (.bool a) (.bool b) = some (.bool (!(a == b))) := rfl
@[simp] theorem binD_str_eql (a b : List UInt8) : binD nf .eql (.str a) (.str b) = some (.bool (decide (a = b))) := rfl
@[simp] theorem binD_str_neq (a b : List UInt8) : binD nf .neq (.str a) (.str b) = some (.bool (!decide (a = b))) := rfl
@[simp] theorem binD_str_add (a b : List UInt8) : binD nf .add (.str a) (.str b) = if a.length + b.length ≤ 1000000 then some (.str (a ++ b)) else none := rfl
attribute [simp] D.beq beqAll
@[simp] theorem NOT_b (b : Bool) : NOT (.d (.bool b)) K = K (.d (.bool !b)) := rfl
@[simp] theorem NEG_n (k : IntKind) (n : Int) : NEG (.d (.num k n)) K = K (.d (.num k (k.wrap (0 - n)))) := rfl
@[simp] theorem LOAD_cp_t (size : Nat) (cs : List D) : LOAD true size (.d (.cp cs)) h K = (size ≤ cs.length ∧ K (.d (.agg (cs.take size)))) := rfl
@[simp] theorem LOAD_cp_f (size : Nat) (cs : List D) : LOAD false size (.d (.cp cs)) h K = (∃ x, cs.head? = some x ∧ K (.d x)) := rfl
@[simp] theorem LOAD_ptr (agg : Bool) (size id ver row off : Nat) : LOAD agg size (.ptr id ver row off) h K = match bodyOf h id ver with
    | some (_, .box cs) => row = 0 ∧ match agg with | true => off + size ≤ cs.length ∧ K (mkAgg ((cs.drop off).take size)) | false => ∃ v, cs[off]? = some v ∧ K v
    | some (_, .lst xs) => ∃ x, xs[row]? = some x ∧ match agg with | true => off + size ≤ x.cells.length ∧ K (.d (.agg ((x.cells.drop off).take size))) | false => ∃ v, x.cells[off]? = some v ∧ K (.d v)
    | _ => False := rfl
@[simp] theorem STORE_ptr (size id ver row off : Nat) (v : AV) : STORE size (.ptr id ver row off) v h K1 = (v.cells.length = size ∧ match bodyOf h id ver with
    | some (e, .box cs) => row = 0 ∧ off + size ≤ cs.length ∧ K1 ((id, some ⟨ver, e, .box (splice cs off v.cells)⟩) :: h)
    | some (e, .lst xs) => ∃ d x, v = .d d ∧ xs[row]? = some x ∧ off + size ≤ x.cells.length ∧ K1 ((id, some ⟨ver, e, .lst (xs.set row (rowSet x off d.cells))⟩) :: h)
    | _ => False) := rfl
@[simp] theorem FADDR_cp (off : Nat) (cs : List D) : FADDR off (.d (.cp cs)) h K = K (.d (.cp (cs.drop off))) := rfl
@[simp] theorem FADDR_ptr (off id ver row o : Nat) : FADDR off (.ptr id ver row o) h K = ((bodyOf h id ver).isSome = true ∧ K (.ptr id ver row (o + off))) := rfl
@[simp] theorem IADDR_list (esz : Nat) (el : TypeId) (xs : List D) (k : IntKind) (n : Int) : IADDR esz el (.d (.list xs)) (.d (.num k n)) h K = (0 ≤ n ∧ ∃ e, xs[n.toNat]? = some e ∧ e.cells.length = esz ∧ K (.d (.cp e.cells))) := rfl
@[simp] theorem IADDR_own (esz : Nat) (el : TypeId) (id ver : Nat) (k : IntKind) (n : Int) : IADDR esz el (.own id ver) (.d (.num k n)) h K = match bodyOf h id ver with
    | some (e, .lst xs) => e = el ∧ 0 ≤ n ∧ n < (xs.length : Int) ∧ K (.ptr id ver n.toNat 0)
    | some (e, .box cs) => e = el ∧ esz = 1 ∧ 0 ≤ n ∧ n < (cs.length : Int) ∧ K (.ptr id ver 0 n.toNat)
    | _ => False := rfl
@[simp] theorem SIDX_str (s : List UInt8) (k : IntKind) (n : Int) : SIDX (.d (.str s)) (.d (.num k n)) K = (0 ≤ n ∧ ∃ c, s[n.toNat]? = some c ∧ K (.d (.num .u8 c.toNat))) := rfl
attribute [simp] PART AIDX AADDR TASS INIL ifaceOf isNil PANIC CONVI CONVS CONVB bytesD keyEq mfind MKMAP mapAt keyOK LOOKUP mput MUPD MENTRY mstore MSTORE MDEL RANGE AFTER AV.ren AV.ren.renL renT Body.ren ABlk.ren tmpIds Body.ids rho Cal.ren Cal.ids argsM lentL preB lowL preIds upsP killsIf disjB Out.eff fz fz.fzL yb fzB yh fzH stay src yver ENDR yvT fzT 
attribute [simp] SLICE SLICEH bnd BOX ALLOC BUILD fillA MKS elemD elemsD MAKE EXT LEN lenA APP MINK MAXK toD toDs argD argsD mkAgg allD AV.cells splice rowSet numbered kills nth vals okv weakV weakH promote promoteB CALLV frz gone ids ids.idsL yv yv.yvL oneOf NodupB bodyAt
@[simp] theorem cells_num (k : IntKind) (n : Int) : (D.num k n).cells = [.num k n] := rfl
@[simp] theorem cells_bool (b : Bool) : (D.bool b).cells = [.bool b] := rfl
@[simp] theorem cells_str (s : List UInt8) : (D.str s).cells = [.str s] := rfl
@[simp] theorem cells_list (s : List D) : (D.list s).cells = [.list s] := rfl
@[simp] theorem cells_agg (s : List D) : (D.agg s).cells = s := rfl
@[simp] theorem cells_fn (f : FuncId) (a b : List D) : (D.fn f a b).cells = [.fn f a b] := rfl
@[simp] theorem cells_cp (s : List D) : (D.cp s).cells = [.cp s] := rfl
@[simp] theorem cells_iface (t : TypeId) (x : D) : (D.iface t x).cells = [.iface t x] := rfl
@[simp] theorem cells_nili : D.nili.cells = [.nili] := rfl
@[simp] theorem cells_nilf : D.nilf.cells = [.nilf] := rfl
@[simp] theorem COND_b (b : Bool) (X Y : Prop) : COND (.d (.bool b)) X Y = ((b = true → X) ∧ (b = false → Y)) := rfl
@[simp] theorem COND_any (X Y : Prop) : COND .anyb X Y = (X ∧ Y) := rfl
@[simp] theorem CONDG_b (b : Bool) (X Y : Prop) : CONDG (.d (.bool b)) X Y = ((b = true → X) ∧ (b = false → Y)) := rfl
@[simp] theorem lookH_cons (k i : Nat) (v : Option ABlk) (r : Heap) : lookH ((k, v) :: r) i = if k = i then v else lookH r i := by
  rw [lookH]
  by_cases hk : k = i
  · subst hk; simp
  · have hb : Nat.beq k i = false := by
      cases hb : Nat.beq k i
      · rfl
      · exact absurd (Nat.eq_of_beq_eq_true hb) hk
    rw [hb, if_neg hk]
@[simp] theorem lookH_nil (i : Nat) : lookH [] i = none := rfl
@[simp] theorem bodyOf_def (id ver : Nat) : bodyOf h id ver = bodyAt (lookH h id) ver := rfl
end
theorem LOOP.mk {vs : List AV} {h : Heap} {nx : Nat} {body : List AV → Heap → (List AV → Heap → Prop) → Prop} (σ : Type) (F : σ → List AV) (G : σ → Heap) (pre : σ → Prop) (μ : σ → Nat) (pr : List (Nat × TypeId)) (hp : pr.length ≤ 8)
    (s : σ) (h0 : pre s) (h1 : WEAK (promote nx pr 0 vs h).1 (promote nx pr 0 vs h).2 (F s) (G s)) (hl : ∀ s, pre s → lowB (nx + 8) (F s) (G s) = true)
    (hb : ∀ s, pre s → body (F s) (G s) fun vs' h' => ∃ s', pre s' ∧ WEAK vs' h' (F s') (G s') ∧ μ s' < μ s) : LOOP vs h nx body :=
  ⟨σ, F, G, pre, μ, pr, [], WEAK, fun _ _ _ _ h => .inl h, hp, ⟨s, h0, h1⟩, fun s hs => ⟨hl s hs, hb s hs⟩⟩
theorem LOOP.mkB {vs : List AV} {h : Heap} {nx : Nat} {body : List AV → Heap → (List AV → Heap → Prop) → Prop} (σ : Type) (F : σ → List AV) (G : σ → Heap) (pre : σ → Prop) (μ : σ → Nat) (pr : List (Nat × TypeId)) (pb : List (Nat × Nat × TypeId)) (hp : pr.length + pb.length ≤ 8)
    (s : σ) (h0 : pre s) (h1 : WEAK (promote nx pr 0 vs h).1 (promoteB nx pb pr.length (promote nx pr 0 vs h).2) (F s) (G s)) (hl : ∀ s, pre s → lowB (nx + 8) (F s) (G s) = true)
    (hb : ∀ s, pre s → body (F s) (G s) fun vs' h' => ∃ s', pre s' ∧ WEAK vs' h' (F s') (G s') ∧ μ s' < μ s) : LOOP vs h nx body :=
  ⟨σ, F, G, pre, μ, pr, pb, WEAK, fun _ _ _ _ h => .inl h, hp, ⟨s, h0, h1⟩, fun s hs => ⟨hl s hs, hb s hs⟩⟩
theorem CALL.mk {P : Ctx} {f : FuncId} {args : List AV} {new : Nat} {h : Heap} {K KP : List Nat → AV → Heap → Prop} (ds : List D) (r : Res) (h1 : argsD (bodyOf h) args = some ds) (h2 : Meets P f ds r) (hf : ids.idsL args = [] ∨ r.flatP) (hb : r.bl.length ≤ 8) (h3 : K (ids.idsL args) (r.val.ren (rho [] new)) (upsP (rho [] new) (r.bl.map .upd) 0 ++ h)) : CALL P f args new h K KP := by
  have hM : ∀ (vs : List AV) (ds : List D), argsD (bodyOf h) vs = some ds → argsM (bodyOf h) (rho [] new) (vs.map fun _ => true) vs (ds.map .d) ∧ lentL (vs.map fun _ => true) vs = ids.idsL vs := by
    intro vs
    induction vs with
    | nil => intro ds hd; simp [argsD] at hd; subst hd; exact ⟨trivial, rfl⟩
    | cons v r ih =>
      intro ds hd
      simp only [argsD] at hd
      cases hv : argD (bodyOf h) v with
      | none => rw [hv] at hd; cases hd
      | some x =>
        rw [hv] at hd
        simp only [Option.bind_some] at hd
        cases hr : argsD (bodyOf h) r with
        | none => rw [hr] at hd; cases hd
        | some xs =>
          rw [hr] at hd
          simp only [Option.map_some, Option.some.injEq] at hd
          subst hd
          obtain ⟨g1, g2⟩ := ih xs hr
          exact ⟨⟨⟨x, hv, rfl⟩, g1⟩, by simp [lentL, ids.idsL, g2]⟩
  obtain ⟨g1, g2⟩ := hM args ds h1
  have hl : ∀ ds : List D, ids.idsL (ds.map .d) = [] := fun ds => by
    induction ds with
    | nil => rfl
    | cons d r ih => simp [ids.idsL, ids, ih]
  refine ⟨ids.idsL args, .ok (r.val.ren (rho [] new)) (upsP (rho [] new) (r.bl.map .upd) 0), ⟨[], .fnc f, args.map fun _ => true, ds.map .d, [], .ret r.val, r.bl.map .upd, false, h2, rfl, rfl, g1, trivial, by simp [Cal.ids, hl, preIds, lowL], ?_, Nat.zero_le _, by simpa using hb, by simp [Cal.ids], fun _ => ?_, by simp [Out.eff, killsIf]⟩, h3⟩
  · simp [disjB]
  · rcases hf with hf | hf
    · left; rw [g2]; exact hf
    · right
      refine ⟨rfl, hf.1, ?_⟩
      have : ∀ bl : List ABlk, blksFlat bl → postFlat (bl.map .upd) := fun bl => by
        induction bl with
        | nil => intro _; trivial
        | cons b r ih => intro h; exact ⟨h.1, ih h.2⟩
      exact this _ hf.2
theorem CALL.val {P : Ctx} {f : FuncId} {args : List AV} {new : Nat} {h : Heap} {K KP : List Nat → AV → Heap → Prop} (ds : List D) (x : D) (h1 : argsD (bodyOf h) args = some ds) (h2 : Meets P f ds ⟨.d x, []⟩) (hf : ids.idsL args = [] ∨ x.flatB = true) (h3 : K (ids.idsL args) (.d x) h) : CALL P f args new h K KP :=
  CALL.mk ds ⟨.d x, []⟩ h1 h2 (hf.imp id fun h => ⟨h, trivial⟩) (Nat.zero_le _) h3
theorem CALL.data {P : Ctx} {f : FuncId} {args : List AV} {new : Nat} {h : Heap} {K KP : List Nat → AV → Heap → Prop} (ds : List D) (x : D) (h1 : argsD (bodyOf h) args = some ds) (h2 : Meets P f ds ⟨.d x, []⟩) (h3 : K (ids.idsL args) (.d x) (kills (lentL (args.map fun _ => true) args) ++ h)) : CALL P f args new h K KP := by
  have hM : ∀ (vs : List AV) (ds : List D), argsD (bodyOf h) vs = some ds → argsM (bodyOf h) (rho [] new) (vs.map fun _ => true) vs (ds.map .d) := by
    intro vs
    induction vs with
    | nil => intro ds hd; simp [argsD] at hd; subst hd; exact trivial
    | cons v r ih =>
      intro ds hd
      simp only [argsD] at hd
      cases hv : argD (bodyOf h) v with
      | none => rw [hv] at hd; cases hd
      | some x =>
        rw [hv] at hd
        simp only [Option.bind_some] at hd
        cases hr : argsD (bodyOf h) r with
        | none => rw [hr] at hd; cases hd
        | some xs =>
          rw [hr] at hd
          simp only [Option.map_some, Option.some.injEq] at hd
          subst hd
          exact ⟨⟨x, hv, rfl⟩, ih xs hr⟩
  have hl : ∀ ds : List D, ids.idsL (ds.map .d) = [] := fun ds => by
    induction ds with
    | nil => rfl
    | cons d r ih => simp [ids.idsL, ids, ih]
  exact ⟨ids.idsL args, .ok (.d x) (kills (lentL (args.map fun _ => true) args)), ⟨[], .fnc f, args.map fun _ => true, ds.map .d, [], .ret (.d x), [], true, h2, rfl, rfl, hM _ _ h1, trivial, by simp [Cal.ids, hl, preIds, lowL], by simp [disjB], Nat.zero_le _, Nat.zero_le _, by simp [Cal.ids], fun h => (by cases h), by simp [Out.eff, killsIf, AV.ren, upsP]⟩, h3⟩
theorem CALL.pan {P : Ctx} {f : FuncId} {args : List AV} {new : Nat} {h : Heap} {K KP : List Nat → AV → Heap → Prop} (ds : List D) (x : D) (h1 : argsD (bodyOf h) args = some ds) (h2 : MeetsP P f ds x) (h3 : KP (ids.idsL args) (.d x) (kills (lentL (args.map fun _ => true) args) ++ h)) : CALL P f args new h K KP := by
  have hM : ∀ (vs : List AV) (ds : List D), argsD (bodyOf h) vs = some ds → argsM (bodyOf h) (rho [] new) (vs.map fun _ => true) vs (ds.map .d) := by
    intro vs
    induction vs with
    | nil => intro ds hd; simp [argsD] at hd; subst hd; exact trivial
    | cons v r ih =>
      intro ds hd
      simp only [argsD] at hd
      cases hv : argD (bodyOf h) v with
      | none => rw [hv] at hd; cases hd
      | some x =>
        rw [hv] at hd
        simp only [Option.bind_some] at hd
        cases hr : argsD (bodyOf h) r with
        | none => rw [hr] at hd; cases hd
        | some xs =>
          rw [hr] at hd
          simp only [Option.map_some, Option.some.injEq] at hd
          subst hd
          exact ⟨⟨x, hv, rfl⟩, ih xs hr⟩
  have hl : ∀ ds : List D, ids.idsL (ds.map .d) = [] := fun ds => by
    induction ds with
    | nil => rfl
    | cons d r ih => simp [ids.idsL, ids, ih]
  exact ⟨ids.idsL args, .pan (.d x) (kills (lentL (args.map fun _ => true) args)), ⟨[], .fnc f, args.map fun _ => true, ds.map .d, [], .pan (.d x), [], true, h2, rfl, rfl, hM _ _ h1, trivial, by simp [Cal.ids, hl, preIds, lowL], by simp [disjB], Nat.zero_le _, Nat.zero_le _, by simp [Cal.ids], fun h => (by cases h), by simp [Out.eff, killsIf, AV.ren, upsP]⟩, h3⟩
theorem CALL.gen {P : Ctx} {f : FuncId} {args : List AV} {new : Nat} {h : Heap} {K KP : List Nat → AV → Heap → Prop} (ks : List Nat) (cs : List Bool) (args' : List AV) (pre : List ABlk) (v : AV) (post : List PB) (h1 : MeetsH P f pre args' (.ret v) post)
    (h2 : NodupB ks = true) (h3 : argsM (bodyOf h) (rho ks new) cs args args') (h4 : preB (bodyOf h) (rho ks new) ks pre) (h5 : lowL ks.length (ids.idsL args' ++ preIds pre) = true) (h6 : disjB (lentL cs args) ks = true) (h7 : pre.length ≤ post.length ∧ post.length ≤ pre.length + 8)
    (h8 : K (ids.idsL args ++ ks) (v.ren (rho ks new)) (upsP (rho ks new) post 0 ++ kills (lentL cs args) ++ h)) : CALL P f args new h K KP :=
  ⟨ids.idsL args ++ ks, .ok (v.ren (rho ks new)) (upsP (rho ks new) post 0 ++ kills (lentL cs args)), ⟨ks, .fnc f, cs, args', pre, .ret v, post, true, h1, h2, rfl, h3, h4, by simpa [Cal.ids] using h5, h6, h7.1, h7.2, by simp [Cal.ids], fun h => (by cases h), rfl⟩, h8⟩
def rsP : AV → AV → List (Nat × Option Nat)
  | .zc, .own j _ => [(j, none)]
  | .own id _, .own j _ => [(j, some id)]
  | .ptr id _ _ _, .ptr j _ _ _ => [(j, some id)]
  | .mapv id, .mapv j => [(j, some id)]
  | .iter id, .iter j => [(j, some id)]
  | .yld id, .yld j => [(j, some id)]
  | .agg vs, .agg ws => rsPL vs ws
  | .tup vs, .tup ws => rsPL vs ws
  | .fn _ a b, .fn _ a' b' => rsPL a a' ++ rsPL b b'
  | .iface _ v, .iface _ v' => rsP v v'
  | _, _ => []
  where rsPL : List AV → List AV → List (Nat × Option Nat)
  | v :: vs, w :: ws => rsP v w ++ rsPL vs ws
  | _, _ => []
def rsG (j : Nat) : List (Nat × Option Nat) → Option Nat
  | [] => none
  | (i, x) :: r => if i = j then x else rsG j r
def rsL (k : Nat) (ps : List (Nat × Option Nat)) : Nat → List (Option Nat)
  | 0 => []
  | n + 1 => rsG k ps :: rsL (k + 1) ps n
theorem POST.auto {v r : AV} {h : Heap} {pre : List ABlk} {post : List PB} (hp : ENDR (rsL pre.length (rsP v r) (post.length - pre.length)) v h pre r post) : POST v h pre r post := ⟨_, hp⟩
@[simp] theorem POST_d {v : AV} {h : Heap} {x : D} : POST v h [] (.d x) [] ↔ argD (bodyOf h) v = some x := by
  constructor
  · rintro ⟨rs, h1, h2, h3, h4, h5, h6⟩
    cases v <;> exact h5
  · intro hx
    refine ⟨[], Nat.zero_le _, rfl, rfl, rfl, ?_, trivial, ?_⟩
    · cases v <;> exact hx
    · simp [disjB, stay]
attribute [simp] rsP rsP.rsPL rsG rsL
theorem wrap_id {n : Int} (h1 : -9223372036854775808 ≤ n) (h2 : n ≤ 9223372036854775807) : IntKind.i64.wrap n = n := by
  simp only [IntKind.wrap, IntKind.bits, IntKind.signed]
  simp
  split <;> omega
end Go.Vc

namespace Go.Vc
open Go
section
variable {h : Heap}
theorem rs_one {rs : List (Option Nat)} (h : rs.length = 1) : ∃ x, rs = [x] := by
  match rs, h with
  | [x], _ => exact ⟨x, rfl⟩
theorem bodyAt_some {b : Option ABlk} {ver : Nat} {e : TypeId} {bd : Body} : bodyAt b ver = some (e, bd) ↔ b = some ⟨ver, e, bd⟩ := by
  cases b with
  | none => simp [bodyAt]
  | some b =>
    obtain ⟨v', e', b'⟩ := b
    simp only [bodyAt, Option.some.injEq, ABlk.mk.injEq]
    by_cases hv : v' = ver
    · subst hv; simp
    · simp [hv]
theorem POST_own' {id ver : Nat} {e : TypeId} {xs : List D} : POST (.own id ver) h [] (.own 0 0) [.upd ⟨0, e, .lst xs⟩] ↔ 24 ≤ id ∧ lookH h id = some ⟨ver, e, .lst xs⟩ := by
  constructor
  · rintro ⟨rs, h1, h2, h3, h4, h5, h6, h7⟩
    obtain ⟨x, rfl⟩ := rs_one (by simpa using h2.symm)
    obtain ⟨g1, g2, g3⟩ := h5
    have hx : x = some id := by simpa [src] using g1
    subst hx
    refine ⟨by simpa using h3, ?_⟩
    obtain ⟨⟨e', b'⟩, hb⟩ := Option.isSome_iff_exists.1 g3
    have hb := bodyAt_some.1 hb
    obtain ⟨b0, k1, k2, _, k4⟩ := h6.1
    rw [hb] at k1
    injection k1 with k1
    subst k1
    simp only at k2
    subst k2
    cases b' <;> simp only [yb] at k4
    rw [hb, k4]
  · rintro ⟨h1, h2⟩
    refine ⟨[some id], by simp, rfl, by simpa using h1, rfl, ⟨by simp [src], by simp [yver], by rw [show bodyOf h id ver = some (e, .lst xs) from bodyAt_some.2 h2]; rfl⟩, ⟨⟨_, h2, rfl, by simp [yver], rfl⟩, trivial⟩, ?_⟩
    simp [fz, fzH, src, h2, fzB, disjB]
@[simp] theorem POST_own {id ver : Nat} {e : TypeId} {xs : List D} : POST (.own id ver) h [] (.own 0 0) [.upd ⟨0, e, .lst xs⟩] ↔ 24 ≤ id ∧ bodyOf h id ver = some (e, .lst xs) := by
  rw [POST_own']
  exact and_congr Iff.rfl bodyAt_some.symm
@[simp] theorem POST_zc {e : TypeId} {xs : List D} : POST .zc h [] (.own 0 0) [.upd ⟨0, e, .lst xs⟩] ↔ xs = [] := by
  constructor
  · rintro ⟨rs, h1, h2, h3, h4, h5, h6, h7⟩
    obtain ⟨x, rfl⟩ := rs_one (by simpa using h2.symm)
    obtain ⟨_, g2⟩ := h5
    have hx : x = none := by simpa using g2
    subst hx
    have := h6.1
    simp at this
    exact this
  · rintro rfl
    refine ⟨[none], by simp, rfl, rfl, rfl, ⟨by simp, rfl⟩, ⟨⟨rfl, rfl⟩, trivial⟩, ?_⟩
    simp [fz, fzH, src, disjB]
@[simp] theorem POST_tup2 {a b : AV} {x y : D} : POST (.tup [a, b]) h [] (.tup [.d x, .d y]) [] ↔ argD (bodyOf h) a = some x ∧ argD (bodyOf h) b = some y := by
  constructor
  · rintro ⟨rs, h1, h2, h3, h4, h5, h6, h7⟩
    obtain ⟨g1, g2, _⟩ := h5
    exact ⟨by cases a <;> exact g1, by cases b <;> exact g2⟩
  · rintro ⟨g1, g2⟩
    refine ⟨[], Nat.zero_le _, rfl, rfl, rfl, ⟨by cases a <;> exact g1, by cases b <;> exact g2, trivial⟩, trivial, ?_⟩
    simp [disjB, stay]
@[simp] theorem POST_tupo {id ver : Nat} {e : TypeId} {xs : List D} {x y : D} : POST (.tup [.own id ver, .d x]) h [] (.tup [.own 0 0, .d y]) [.upd ⟨0, e, .lst xs⟩] ↔ 24 ≤ id ∧ bodyOf h id ver = some (e, .lst xs) ∧ x = y := by
  constructor
  · rintro ⟨rs, h1, h2, h3, h4, ⟨h5, h5', _⟩, h6, h7⟩
    have := POST_own.1 ⟨rs, h1, h2, h3, h4, h5, h6, by
      obtain ⟨x, rfl⟩ := rs_one (by simpa using h2.symm)
      simp only [fz, fz.fzL, ids, List.append_nil] at h7
      simpa [fz] using h7⟩
    refine ⟨this.1, this.2, ?_⟩
    simpa [yv, argD, toD] using h5'
  · rintro ⟨h1, h2, rfl⟩
    obtain ⟨rs, k1, k2, k3, k4, k5, k6, k7⟩ := POST_own.2 ⟨h1, h2⟩
    exact ⟨rs, k1, k2, k3, k4, ⟨k5, by simp [yv, argD, toD], trivial⟩, k6, by simpa [fz, fz.fzL, ids] using k7⟩
@[simp] theorem POST_tupz {e : TypeId} {xs : List D} {x y : D} : POST (.tup [.zc, .d x]) h [] (.tup [.own 0 0, .d y]) [.upd ⟨0, e, .lst xs⟩] ↔ xs = [] ∧ x = y := by
  constructor
  · rintro ⟨rs, h1, h2, h3, h4, ⟨h5, h5', _⟩, h6, h7⟩
    have := POST_zc.1 ⟨rs, h1, h2, h3, h4, h5, h6, by
      simp only [fz, fz.fzL, ids, List.append_nil] at h7
      simpa [fz] using h7⟩
    refine ⟨this, ?_⟩
    simpa [yv, argD, toD] using h5'
  · rintro ⟨h1, rfl⟩
    obtain ⟨rs, k1, k2, k3, k4, k5, k6, k7⟩ := POST_zc.2 h1
    exact ⟨rs, k1, k2, k3, k4, ⟨k5, by simp [yv, argD, toD], trivial⟩, k6, by simpa [fz, fz.fzL, ids] using k7⟩
end
end Go.Vc
