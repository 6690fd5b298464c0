/- A part of the proof: general laws of a reading of the model by abstract data, or contracts of the functions that the law calls. -/
import Derived.Test.YtonajancjagefaaGreatVc7
import Derived.Test.YtonajancjagefaaGreatVc5
set_option maxRecDepth 100000
namespace Go.Vc
open Go Go.RowKit
def dstOK (n : Nat) (dst : Option Nat) : Bool := match dst with | some t => Nat.blt t n | none => true
def strTyOK (P : Program) (t : TypeId) : Bool := match P.underlying t with | some .string => true | _ => false
def concTyOK (P : Program) (t : TypeId) : Bool := match P.underlying t with | some (.interface _) => false | some _ => true | none => false
def nilOpd (y : Operand) : Bool := match y with | .const (.slice none 0 0) => true | _ => false
def opTyOK (P : Program) (o : Oper) : Bool := match o.op with
  | .move _ => true
  | .assign _ => true
  | .pick _ _ _ => true
  | .unOp _ _ _ => true
  | .box _ _ => true
  | .extract _ _ => true
  | .makeFunc _ _ _ => true
  | .makeInterface t _ => concTyOK P t
  | .binOp _ t _ y _ => match tIface P t with | true => nilConst y | false => binTyOK P t && (!(Nat.beq (tTag P t) 998) || nilOpd y)
  | .load t _ => (P.underlying t).isSome
  | .store t _ _ => (P.underlying t).isSome && !(tSize P t == 0) && o.dst.isNone
  | .fieldAddr s _ f => fieldTyOK P s f
  | .nilCheck _ => true
  | .indexAddr t _ _ => match tArr P t with | some _ => arrOK P t | none => idxTyOK P t
  | .index t _ _ => match tArr P t with | some _ => arrOK P t | none => strTyOK P t
  | .field t _ f => fieldOK P t f
  | .convert s d _ => convOK P s d
  | .typeAssert _ _ t _ => tassOK P t
  | .makeMap _ r => r.isNone
  | .lookup t _ _ _ => mapOK P t && zDataOK P (tMapElem P t)
  | .mapUpdate t _ _ _ => mapOK P t && o.dst.isNone
  | .mapEntry t _ _ => mapOK P t && zDataOK P (tMapElem P t)
  | .entryStore _ _ _ _ => o.dst.isNone
  | .range t _ => strTyOK P t
  | .next _ s => s
  | .panic _ => true
  | .slice t _ _ _ _ => sliceTyOK P t
  | .alloc e => zeroTyOK P e
  | .build t _ => buildTyOK P t
  | .buildSlice t len parts => sliceElemOK P t && partsOK parts len
  | .makeSlice t x y => makeElemOK P t && sameOpd x y
  | .call c => match c.callee with
    | .builtin b => match b with
      | .len => match c.argTypes, c.args with | ⟨[t]⟩, ⟨[_]⟩ => lenTyOK P t | _, _ => false
      | .append => match c.args with | ⟨[_, _]⟩ => appTyOK P c.argTypes | _ => false
      | .min => match c.args with | ⟨[_, _]⟩ => true | _ => false
      | .max => match c.args with | ⟨[_, _]⟩ => true | _ => false
      | .delete => match c.args, c.argTypes with | ⟨[_, _]⟩, ⟨[t, _]⟩ => mapOK P t | _, _ => false
      | _ => false
    | .value _ => true
    | .invoke _ _ => true
  | _ => false
def opOK (P : Program) (n : Nat) (o : Oper) : Bool := dstOK n o.dst && opTyOK P o
section
variable {C : Ctx} {ro : Option Nat} {n : Nat} {D0 : List Deferred} {E0 : Env} {U : Nat → Prop} {F : Nat → AV} {E : Env} {a : Act} {o : Oper} {new : Nat} {v : AV} {ups : Heap}
theorem run_callFunc {P : Program} {f : FuncId} {args : Array Value} {w : World} (h : fnOK P f = true) : (callFunc f args).run P w = .ok (.enter f args) w := by
  unfold fnOK at h
  split at h
  · rename_i fn hf
    simp only [Bool.and_eq_true, Bool.not_eq_true'] at h
    have h1 : ¬ fn.name = "runtime.NumGoroutine" := by simpa using h.1
    have h2 : ¬ fn.body = none := fun e => by rw [e] at h; simp at h
    simp [callFunc, hf, h1, h2]
  · cases h
theorem lval (vs : List Operand) (ρ : Operand → AV) (σ : Operand → Value) (h : ∀ x, VRel E (ρ x) (σ x)) : ∀ (i : Nat) (v : AV) (u : Value), (vs.map ρ)[i]? = some v → (vs.map σ)[i]? = some u → VRel E v u := fun i v u hv hu => by
  simp only [List.getElem?_map] at hv hu
  cases hx : vs[i]? with
  | none => rw [hx] at hv; cases hv
  | some x =>
    rw [hx] at hv hu
    injection hv with hv; injection hu with hu
    rw [← hv, ← hu]; exact h x
theorem append_val {as bs : List AV} {us vs : List Value} (hl : as.length = us.length) (h1 : ∀ (i : Nat) (v : AV) (u : Value), as[i]? = some v → us[i]? = some u → VRel E v u) (h2 : ∀ (i : Nat) (v : AV) (u : Value), bs[i]? = some v → vs[i]? = some u → VRel E v u) :
    ∀ (i : Nat) (v : AV) (u : Value), (as ++ bs)[i]? = some v → (us ++ vs)[i]? = some u → VRel E v u := fun i v u hv hu => by
  by_cases hi : i < as.length
  · rw [List.getElem?_append_left hi] at hv
    rw [List.getElem?_append_left (by omega)] at hu
    exact h1 i v u hv hu
  · rw [List.getElem?_append_right (by omega)] at hv
    rw [List.getElem?_append_right (by omega)] at hu
    rw [hl] at hv
    exact h2 _ v u hv hu
theorem nil_run {P : Program} {w : World} {t e : TypeId} (h : P.underlying t = some (.slice e)) (b : Option Addr) (l c : Nat) (op : BinOp) (hop : (match op with | .eql => true | .neq => true | _ => false) = true) (x y : Operand) :
    ∃ r, ((do eqGuard op t x y (.slice b l c) (.slice none 0 0); binOp op t (.slice b l c) (.slice none 0 0)) : Sem Value).run P w = .ok (.bool r) w ∧ (b ≠ none → r = isNeq op) := by
  have key : ∀ k : Nat, ∃ r, (Op.equalIn (k + 1) t (.slice b l c) (.slice none 0 0)).run P w = .ok r w ∧ (b ≠ none → r = false) := fun k => by
    cases b with
    | none => exact ⟨true, by unfold Op.equalIn; simp [run_underlying h], fun h => absurd rfl h⟩
    | some ad => exact ⟨false, by unfold Op.equalIn; simp [run_underlying h], fun _ => rfl⟩
  have he : ∃ r, (Op.equal t (.slice b l c) (.slice none 0 0)).run P w = .ok r w ∧ (b ≠ none → r = false) := by
    obtain ⟨r, hr⟩ := key 9999
    exact ⟨r, hr⟩
  obtain ⟨r, hr, hb⟩ := he
  cases op <;> first | (cases hop; done) | skip
  · exact ⟨r, by simp [eqGuard, binOp, hr], hb⟩
  · exact ⟨!r, by simp [eqGuard, binOp, hr], fun h => by rw [hb h]; rfl⟩
theorem slice_own {t : TypeId} {x : Operand} {lo hi mx : Option Operand} (hR : Rel C n D0 E0 U F E a) (hd : ∀ t, o.dst = some t → t < n) (ho : o.op = .slice t x lo hi mx) (hty : sliceTyOK C.prog t = true)
    (hopt : ∀ y : Option Operand, optRel E (y.map (evF F)) (y.map a.eval)) (hE : SLICEOR (tSlice C.prog t) (evF F x) (lo.map (evF F)) (hi.map (evF F)) (mx.map (evF F)) (BE E) v ups) : Sound C ro n D0 E0 U F E a o new v ups := by
  obtain ⟨id, ver, e, xs, u, hx, hlo, hB, h0, hu, hmx, hu1, hu2, rfl, rfl⟩ := hE
  have hl : lo = none := by cases lo with | none => rfl | some y => cases hlo
  subst hl
  have hX := hR.ev x
  rw [hx] at hX
  have hH := BE_some hB
  obtain ⟨k0, k1, k2⟩ := hR.hr.blk id _ hH
  obtain ⟨e0, ht, he⟩ : ∃ e0, C.prog.underlying t = some (.slice e0) ∧ (C.prog.underlying e0).isSome = true := by
    unfold sliceTyOK at hty
    split at hty
    · rename_i ht; simp [tSlice, tDesc, ht] at h0
    · rename_i e1 ht; exact ⟨e1, ht, hty⟩
    · cases hty
  obtain ⟨ux, hux⟩ : ∃ ux, a.eval x = ux := ⟨_, rfl⟩
  rw [hux] at hX
  cases hX with
  | own _ _ tt _ htop hle ho1 h _ =>
  obtain ⟨g1, g2⟩ := h _ _ hH
  cases hm : E.m id with
  | none =>
    have hx0 := k1 hm
    simp only [Body.lst.injEq] at hx0
    subst hx0
    simp at hu2
    omega
  | some g =>
    obtain ⟨cap, Cc, el, fr, rfl, hlc, hcm, hCc, hCs⟩ := g2 g hm
    obtain ⟨hge, oo, k3, C', fr', rfl, kF, k4, k5⟩ := k2 g hm
    rw [hCc] at k3
    injection k3 with k3
    injection k3 with k3 k6 k7
    subst k3; subst k6; subst k7
    simp only at k4 k5
    obtain ⟨cap', hc1, hc2, hb⟩ : ∃ cap' : Nat, u ≤ cap' ∧ cap' ≤ cap ∧ (Instr.sliceBounds true xs.length cap none (hi.map a.eval) (mx.map a.eval)).run C.prog E.w = .ok (0, u.toNat, cap') E.w := by
      rcases hmx with hm0 | ⟨hhi, hm1⟩
      · have hm0 : mx = none := by cases mx with | none => rfl | some y => cases hm0
        subst hm0
        exact ⟨cap, by omega, Nat.le_refl _, bounds_run (E := E) true xs.length cap none (hi.map (evF F)) none (hi.map a.eval) trivial (hopt hi) 0 u rfl hu (by omega) (by omega) (by omega) C.prog E.w⟩
      · exact ⟨u.toNat, by omega, by omega, bounds_run3 (E := E) xs.length cap (hi.map (evF F)) (mx.map (evF F)) (hi.map a.eval) (mx.map a.eval) (hopt hi) (hopt mx) u hu hm1 (fun h => by rw [h] at hm1; simp [bnd] at hm1; omega) (fun h => by rw [h] at hhi; cases hhi) (by omega) (by omega) C.prog E.w⟩
    have hrun : (execOp a.eval o).run C.prog E.w = .ok (.value (.slice (some ⟨g, 0, none⟩) u.toNat cap')) E.w := by
      simp only [execOp, ho, Sem.run_bind, Option.map_none, hux, Instr.sliceAt, run_underlying ht, Result.andThen_ok, Instr.slice, hb, run_sizeOf' he, Sem.run_pure]
      simp [Addr.add]
    refine sound_chg (mb := some g) (blk := ⟨ver + 1, el, .lst (xs.take u.toNat)⟩) hR hd hH (.inl (Nat.lt_succ_self _)) ⟨Nat.le_refl _, fun _ _ _ => rfl⟩ _ _ (.inl rfl) hrun (.refl _ _) (fun h => by cases h) (fun g' hg' => ?_) ?_
    · injection hg' with hg'
      subst hg'
      refine ⟨hge, .inr hm, _, hCc, Cc, _, rfl, kF, fun z hz => k4 z (List.mem_of_mem_take hz), fun i d hi => ?_⟩
      have hi' : (flat xs)[i]? = some d := by
        rw [flat_take xs _ u.toNat k4, List.getElem?_take] at hi
        split at hi
        · exact hi
        · cases hi
      obtain ⟨j1, u', hu', j2⟩ := k5 i d hi'
      exact ⟨j1, u', hu', j2.mono (fun b h => h) (fun b h => rfl)⟩
    · refine .own id _ (ver + 1) _ (by simp [Env.chg]) (Nat.le_refl _) rfl (fun e'' xs' h => ⟨fun hb => by simp [Env.chg] at hb, fun b hb => ?_⟩) (fun e' cs' h => by simp [Env.chg] at h)
      simp only [Env.chg, if_true, Option.some.injEq, ABlk.mk.injEq, true_and] at h hb
      obtain ⟨rfl, h⟩ := h
      injection h with h
      rw [← h]
      subst hb
      exact ⟨cap', Cc, _, _, by rw [List.length_take]; congr 1; omega, by rw [List.length_take]; omega, Nat.le_trans hc2 hcm, hCc, Nat.le_trans (Nat.mul_le_mul_right _ hc2) hCs⟩
theorem eff0_sound (hR : Rel C n D0 E0 U F E a) (hnew : ∀ i, new ≤ i → i < new + 8 → ¬ U i) (hok : opOK C.prog n o = true) (hE : EffR0 C o.op new (evF F) (BE E) v ups) : Sound C ro n D0 E0 U F E a o new v ups := by
  simp only [opOK, Bool.and_eq_true] at hok
  obtain ⟨hdst, hok⟩ := hok
  have hd : ∀ t, o.dst = some t → t < n := fun t ht => by
    rw [ht] at hdst
    simpa [dstOK, Nat.blt_eq] using hdst
  have hn0 : ¬ U new := hnew new (Nat.le_refl _) (by omega)
  have ev := hR.ev
  unfold opTyOK at hok
  cases ho : o.op <;> rw [ho] at hok hE <;> simp only [Bool.false_eq_true] at hok <;> simp only [EffR0] at hE
  case move x =>
    obtain ⟨rfl, rfl⟩ := hE
    exact sound_val hR hd (a.eval x) (by simp [execOp, ho]) (ev x)
  case assign x =>
    obtain ⟨rfl, rfl⟩ := hE
    exact sound_val hR hd (a.eval x) (by simp [execOp, ho]) (ev x)
  case pick c x y =>
    obtain ⟨rfl, ⟨h1, rfl⟩ | ⟨h1, rfl⟩⟩ := hE
    · have hc := ev c
      rw [h1] at hc
      exact sound_val hR hd (a.eval x) (by simp [execOp, ho, hc.inv_bool, asBool]) (ev x)
    · have hc := ev c
      rw [h1] at hc
      exact sound_val hR hd (a.eval y) (by simp [execOp, ho, hc.inv_bool, asBool]) (ev y)
  case binOp op t x y t' =>
    obtain ⟨rfl, hE⟩ := hE
    cases hi : tIface C.prog t with
    | true =>
      rw [hi] at hE hok
      simp only at hE hok
      obtain ⟨u, hu, hv⟩ := inil_sound (P := C.prog) (w := E.w) (xo := x) hi hok (ev x) (ev y) hE.1 hE.2
      refine sound_val hR hd u ?_ hv
      rw [exec_bin ho, hu]; rfl
    | false =>
    rw [hi] at hE hok
    simp only [Bool.and_eq_true] at hE hok
    obtain ⟨da, db, r, h1, h2, h3, rfl⟩ | ⟨h1, rfl⟩ := hE
    · have hx := ev x
      have hy := ev y
      rw [h1] at hx
      rw [h2] at hy
      obtain ⟨u, hu, hv⟩ := binop_sound ho hx hy hok.1 h3
      exact sound_val hR hd u hu hv
    · have hx := ev x
      have hok2 := hok.2
      simp only [nilCmp, Bool.and_eq_true] at h1
      obtain ⟨⟨htag, hop⟩, hsh⟩ := h1
      rw [htag] at hok2
      simp only [Bool.not_true, Bool.false_or] at hok2
      have hy : a.eval y = .slice none 0 0 := by
        unfold nilOpd at hok2
        split at hok2
        · rfl
        · cases hok2
      have hxs : ∃ b l c, a.eval x = .slice b l c ∧ ∀ y ys, evF F x = .d (.list (y :: ys)) → b ≠ none := by
        split at hsh
        · split at hsh
          · rename_i hX; rw [hX] at hx
            have hx := hx.inv_d
            generalize a.eval x = u at hx
            cases hx with
            | list0 ad c => exact ⟨_, _, _, rfl, fun y ys h => by rw [hX] at h; cases h⟩
            | list => exact ⟨_, _, _, rfl, fun y ys h => by simp⟩
          · rename_i hX; rw [hX] at hx
            generalize a.eval x = u at hx
            cases hx with
            | zc ad => exact ⟨_, _, _, rfl, fun y ys h => by rw [hX] at h; cases h⟩
          · cases hsh
        · cases hsh
      obtain ⟨b, l, c, hxe, hxn⟩ := hxs
      have hund : ∃ e, C.prog.underlying t = some (.slice e) := by
        have htag := Nat.eq_of_beq_eq_true htag
        unfold tTag tDesc at htag
        cases hu : C.prog.underlying t with
        | none => rw [hu] at htag; cases htag
        | some d =>
          rw [hu] at htag
          cases d <;> simp only [Option.getD_some] at htag <;> first | exact ⟨_, rfl⟩ | (exfalso; omega)
      obtain ⟨e, hund⟩ := hund
      obtain ⟨rb, hrb, hrn⟩ := nil_run (P := C.prog) (w := E.w) hund b l c op hop x y
      exact sound_val hR hd (.bool rb) (by rw [exec_bin ho, hxe, hy, hrb]; rfl) (by
        unfold nilV
        split
        · rename_i y ys hX
          rw [hrn (hxn y ys hX)]
          exact .d _ _ (.bool _)
        · exact .anyb rb)
  case unOp op t x =>
    obtain ⟨rfl, hE⟩ := hE
    have hx := ev x
    cases op <;> simp only at hE
    case not =>
      obtain ⟨b, h1, rfl⟩ := hE
      rw [h1] at hx
      exact sound_val hR hd (.bool !b) (by simp [execOp, ho, hx.inv_bool, Op.unary]) (.d _ _ (.bool _))
    case neg =>
      obtain ⟨k, m, h1, rfl⟩ := hE
      rw [h1] at hx
      exact sound_val hR hd (.int k (k.wrap (0 - m))) (by simp [execOp, ho, hx.inv_num, Op.unary, Op.intArith]) (.d _ _ (.num _ _))
  case load t x =>
    obtain ⟨rfl, hE⟩ := hE
    obtain ⟨u, hu, hv⟩ := load_sound hR (ev x) hok hE
    exact sound_val hR hd u (by simp only [execOp, ho, Sem.run_bind, hu, Result.andThen_ok, Sem.run_pure]) hv
  case store t x y =>
    obtain ⟨rfl, hE⟩ := hE
    simp only [Bool.and_eq_true, Bool.not_eq_true', beq_eq_false_iff_ne, Option.isNone_iff_eq_none] at hok
    exact store_sound hR hok.2 ho hok.1.1 hok.1.2 _ _ (ev x) (ev y) ups hE
  case fieldAddr s x f =>
    obtain ⟨rfl, hE⟩ := hE
    obtain ⟨u, hu, hv⟩ := faddr_sound (ev x) hok hE
    exact sound_val hR hd u (by simp only [execOp, ho, Sem.run_bind, hu, Result.andThen_ok, Sem.run_pure]) hv
  case nilCheck x =>
    obtain ⟨rfl, hE⟩ := hE
    obtain ⟨b, p, hu, hv⟩ := moved (ev x) hE
    exact sound_val hR hd (.pointer (some ⟨b, p + 0, none⟩)) (by simp only [execOp, ho, hu, Sem.run_pure]; rfl) hv
  case indexAddr t x i =>
    obtain ⟨rfl, hE⟩ := hE
    cases ha : tArr C.prog t with
    | some m =>
      rw [ha] at hE hok
      obtain ⟨u, hu, hv⟩ := aaddr_sound (P := C.prog) (w := E.w) ha hok (ev x) (ev i) hE
      exact sound_val hR hd u (by simp only [execOp, ho, Sem.run_bind, hu, Result.andThen_ok, Sem.run_pure]) hv
    | none =>
    rw [ha] at hE hok
    obtain ⟨u, hu, hv⟩ := iaddr_sound hR (ev x) (ev i) hok hE
    exact sound_val hR hd u (by simp only [execOp, ho, Sem.run_bind, hu, Result.andThen_ok, Sem.run_pure]) hv
  case index t x i =>
    obtain ⟨rfl, hE⟩ := hE
    cases ha : tArr C.prog t with
    | some m =>
      rw [ha] at hE hok
      obtain ⟨u, hu, hv⟩ := aidx_sound (P := C.prog) (w := E.w) ha hok (ev x) (ev i) hE
      exact sound_val hR hd u (by simp only [execOp, ho, Sem.run_bind, hu, Result.andThen_ok, Sem.run_pure]) hv
    | none =>
    rw [ha] at hE hok
    obtain ⟨u, hu, hv⟩ := sidx_sound (ev x) (ev i) hok hE
    exact sound_val hR hd u (by simp only [execOp, ho, Sem.run_bind, hu, Result.andThen_ok, Sem.run_pure]) hv
  case field t x f =>
    obtain ⟨rfl, hE⟩ := hE
    obtain ⟨u, hu, hv⟩ := field_sound (P := C.prog) (w := E.w) hok (ev x) hE
    exact sound_val hR hd u (by simp only [execOp, ho, Sem.run_bind, hu, Result.andThen_ok, Sem.run_pure]) hv
  case convert s d x =>
    rcases hE with ⟨rfl, hE⟩ | ⟨hc, e, hb, hE⟩
    case inr => exact convb_sound hR hd hn0 ho hb hok (ev x) hE
    cases hc : tConv C.prog s d with
    | none => rw [hc] at hE; exact hE.elim
    | some c =>
      rw [hc] at hE
      cases c with
      | some ik =>
        obtain ⟨k, m, h1, rfl⟩ := hE
        have hx := ev x
        rw [h1] at hx
        have := convi_sound (P := C.prog) (w := E.w) hc hok hx
        exact sound_val hR hd _ (by simp only [execOp, ho, Sem.run_bind, this, Result.andThen_ok, Sem.run_pure]) (.d _ _ (.num _ _))
      | none =>
        obtain ⟨u, hu, hv⟩ := convs_sound (P := C.prog) hR.hr hR.prog hc hok (ev x) hE
        exact sound_val hR hd u (by simp only [execOp, ho, Sem.run_bind, hu, Result.andThen_ok, Sem.run_pure]) hv
  case typeAssert x xt t ok =>
    obtain ⟨rfl, rfl, hE⟩ := hE
    obtain ⟨u, hu, hv⟩ := tass_sound (P := C.prog) (w := E.w) (xt := xt) hok (ev x) hE
    exact sound_val hR hd u (by simp only [execOp, ho, Sem.run_bind, hu, Result.andThen_ok, Sem.run_pure]) hv
  case makeMap t r =>
    obtain ⟨rfl, rfl, rfl⟩ := hE
    exact mkmap_sound hR hd hn0 ho
  case lookup t m x ok =>
    obtain ⟨rfl, hE⟩ := hE
    simp only [Bool.and_eq_true] at hok
    obtain ⟨u, hu, hv⟩ := lookup_sound hR hok.1 hok.2 (ev m) (ev x) hE
    exact sound_val hR hd u (by simp only [execOp, ho, Sem.run_bind, hu, Result.andThen_ok, Sem.run_pure]) hv
  case mapUpdate t m x y =>
    obtain ⟨rfl, hE⟩ := hE
    simp only [Bool.and_eq_true, Option.isNone_iff_eq_none] at hok
    exact mupd_sound hR hok.2 ho hok.1 (ev m) (ev x) (ev y) hE
  case mapEntry t m x =>
    simp only [Bool.and_eq_true] at hok
    exact mentry_sound hR hd ho hok.1 hok.2 (ev m) (ev x) hE
  case entryStore t m s y =>
    obtain ⟨rfl, hE⟩ := hE
    simp only [Option.isNone_iff_eq_none] at hok
    exact mstore_sound hR hok ho (ev m) (ev s) (ev y) hE
  case range t x =>
    obtain ⟨s, h1, rfl, rfl⟩ := hE
    have hx := ev x
    rw [h1] at hx
    exact range_sound hR hd hn0 ho hok hx
  case next x str =>
    obtain ⟨rfl, hE⟩ := hE
    exact next_sound hR hd ho (ev x) hE
  case slice t x lo hi mx =>
    have hopt : ∀ y : Option Operand, optRel E (y.map (evF F)) (y.map a.eval) := fun y => by
      cases y with
      | none => trivial
      | some y => exact ev y
    rcases hE with hE | hE
    rotate_left
    · exact slice_own hR hd ho hok hopt hE
    obtain ⟨rfl, hE⟩ := hE
    obtain ⟨u, hu, hv⟩ := slice_sound (ev x) (hopt lo) (hopt hi) (hopt mx) hok hE
    exact sound_val hR hd u (by simp only [execOp, ho, Sem.run_bind, hu, Result.andThen_ok, Sem.run_pure]) hv
  case box e x =>
    obtain ⟨rfl, rfl⟩ := hE
    exact box_sound hR hd hn0 ho _ (ev x)
  case alloc e =>
    obtain ⟨rfl, rfl⟩ | ⟨rfl, rfl⟩ := hE
    · exact alloc_sound hR hd hn0 ho hok
    · exact alloc_drop hR hd ho hok
  case build t parts =>
    obtain ⟨rfl, cs, h1, rfl⟩ := hE
    obtain ⟨u, hu, hv⟩ := build_sound (P := C.prog) (w := E.w) (E := E) hok (parts := parts.toList.map fun p => (p.1, evF F p.2)) (ps := parts.map fun p => (p.1, a.eval p.2)) (by simp) (fun i p q hp hq => by
      simp only [List.getElem?_map, Array.getElem?_map] at hp hq
      cases hx : parts[i]? with
      | none => rw [hx] at hq; cases hq
      | some x =>
        have hx' : parts.toList[i]? = some x := by simpa using hx
        rw [hx'] at hp
        rw [hx] at hq
        injection hp with hp; injection hq with hq
        rw [← hp, ← hq]
        exact ⟨rfl, ev x.2⟩) h1
    exact sound_val hR hd u (by simp only [execOp, ho, Sem.run_bind, hu, Result.andThen_ok, Sem.run_pure]) hv
  case buildSlice t len parts =>
    simp only [Bool.and_eq_true] at hok
    rcases hE with ⟨xs, ks, h1, h2, rfl, rfl⟩ | ⟨h1, id, ver, h2, rfl, rfl⟩
    · exact buildSlice_sound hR hd hn0 ho hok.1 hok.2 ev h1 h2
    · exact buildSlice_box hR hd hn0 ho hok.1 hok.2 ev h2 h1
  case makeSlice t x y =>
    simp only [Bool.and_eq_true] at hok
    rcases hE with hE | hE
    · exact make_sound hR hd hn0 ho hok.1 hok.2 (ev x) hE
    · exact make_box hR hd hn0 ho hok.1 hok.2 (ev x) hE
  case extract t i =>
    obtain ⟨rfl, vs, h1, h2⟩ := hE
    obtain ⟨u, hu, hv⟩ := ext_sound (C := C) (ev t) h1 h2
    exact sound_val hR hd u (by simp only [execOp, ho, Sem.run_bind, hu, Result.andThen_ok, Sem.run_pure]) hv
  case makeFunc fn first caps =>
    obtain ⟨rfl, f, rfl, rfl⟩ := hE
    refine sound_val hR hd (.func (.func f) (first.map a.eval) (caps.map a.eval)) (by simp [execOp, ho, Instr.makeFunc]) (.fn f _ _ _ _ (by simp) (by simp) (fun i d u h1 h2 => ?_) (fun i d u h1 h2 => ?_))
    · exact lval first.toList _ _ ev i d u h1 (by simpa using h2)
    · exact lval caps.toList _ _ ev i d u h1 (by simpa using h2)
  case makeInterface t x =>
    obtain ⟨rfl, rfl⟩ := hE
    refine sound_val hR hd (.iface t (a.eval x)) ?_ (.iface t _ _ (ev x))
    unfold concTyOK at hok
    split at hok
    · cases hok
    · rename_i d hd' hne
      simp only [execOp, ho, Instr.makeInterface, Sem.run_bind, run_underlying hne, Result.andThen_ok]
      cases d <;> first | rfl | exact absurd rfl (hd' _)
    · cases hok
  case call c =>
    obtain ⟨callee, args, argTypes⟩ := c
    cases callee with
    | invoke r m => exact hE.elim
    | value f => exact hE.elim
    | builtin b =>
      cases b <;> simp only [Bool.false_eq_true] at hok <;> simp only at hE
      case len =>
        obtain ⟨rfl, k, h1, rfl⟩ := hE
        split at hok
        · rename_i t x
          have := len_sound (ty := o.type) hR (ev x) hok h1
          refine sound_val hR hd (.int .i64 k) ?_ (.d _ _ (.num _ _))
          simp only [execOp, ho, resolve, invoke, builtin, Sem.run_bind, Sem.run_pure, Result.andThen_ok, List.map_toArray, List.map_cons, List.map_nil, this]
        · cases hok
      case append =>
        split at hok
        · rename_i x y
          rcases hE with hE | ⟨g1, b, vb, e', zs, g2, g3, ⟨g4, g5, g6, rfl, rfl⟩ | ⟨id, ver, cs, g4, g5, g6, rfl, rfl⟩⟩
          · exact app_sound hR hd hn0 ho rfl hok rfl (ev x) (ev y) hE
          · exact app_box0 hR hd hn0 ho rfl hok rfl (by rw [← g4]; exact ev x) (by rw [← g2]; exact ev y) g3 rfl g1 g5 g6
          · exact app_box hR hd ho rfl hok rfl (by rw [← g4]; exact ev x) (by rw [← g2]; exact ev y) g5 g3 rfl g1 g6
        · cases hok
      case min =>
        obtain ⟨rfl, k, k', i, j, h1, h2, rfl⟩ := hE
        split at hok
        · rename_i x y
          have hx := ev x
          have hy := ev y
          have h1 : evF F x = .d (.num k i) := h1
          have h2 : evF F y = .d (.num k' j) := h2
          rw [h1] at hx
          rw [h2] at hy
          refine sound_val hR hd (.int k (min i j)) ?_ (.d _ _ (.num _ _))
          simp only [execOp, ho, resolve, invoke, builtin, Sem.run_bind, Sem.run_pure, Result.andThen_ok, List.map_toArray, List.map_cons, List.map_nil, hx.inv_num, hy.inv_num, min_sound]
        · cases hok
      case max =>
        obtain ⟨rfl, k, k', i, j, h1, h2, rfl⟩ := hE
        split at hok
        · rename_i x y
          have hx := ev x
          have hy := ev y
          have h1 : evF F x = .d (.num k i) := h1
          have h2 : evF F y = .d (.num k' j) := h2
          rw [h1] at hx
          rw [h2] at hy
          refine sound_val hR hd (.int k (max i j)) ?_ (.d _ _ (.num _ _))
          simp only [execOp, ho, resolve, invoke, builtin, Sem.run_bind, Sem.run_pure, Result.andThen_ok, List.map_toArray, List.map_cons, List.map_nil, hx.inv_num, hy.inv_num, max_sound]
        · cases hok
      case delete =>
        obtain ⟨rfl, hE⟩ := hE
        split at hok
        · rename_i x y t tk
          exact mdel_sound hR hd ho rfl rfl rfl hok (ev x) (ev y) hE
        · cases hok
theorem Rel.weak0 (hR : Rel C n D0 E0 U F E a) {U' : Nat → Prop} : Rel C n D0 E0 (fun id => U id ∨ U' id) F E a :=
  ⟨hR.prog, hR.base, hR.hr, hR.go, hR.defers, hR.tmps, hR.fr, fun id t ht => .inl (hR.used id t ht)⟩
theorem SoundE.of {r : Eff} {v : AV} {ups : Heap} (h : Sound C ro n D0 E0 U F E a o new v ups) (hr : r = .ok v ups) : SoundE C ro n D0 E0 U F E a o new r := by
  subst hr
  exact fun hnd K Q hK => h hnd K Q hK
theorem method_run {P : Program} {w : World} {t : TypeId} {name : String} {f : FuncId} (h : tMeth P t name = some f) (u : Value) (k : Nat) : (method (k + 1) t u name).run P w = .ok (f, u) w := by
  unfold tMeth at h
  split at h
  · rename_i i hi
    split at h
    · rename_i m hm
      split at h
      · rename_i f' hf
        split at h
        · cases h
        · rename_i d hnp hpath hd
          injection h with h
          subst h
          have hp : m.path.toList = [] := by simpa using hpath
          have hat : (receiverAt t (.val u) false (if m.path.isEmpty then some ((name.splitOn ".").getLastD name) else none)).run P w = .ok u w := by
            simp only [receiverAt, Sem.run_bind, run_underlying hd, Result.andThen_ok]
            cases d <;> first | exact absurd rfl (hnp _) | simp [Place.get]
          simp only [method, Sem.run_bind, typeInfo, run_program, hi, Sem.run_pure, Result.andThen_ok, hm, hp, follow, hf, hat]
        · cases h
      · cases h
    · cases h
  · cases h
theorem eff_sound (hR : Rel C n D0 E0 U F E a) (hnew : ∀ i, new ≤ i → i < new + 8 → ¬ U i) (hok : opOK C.prog n o = true) {rd : List Nat} {r : Eff} (hE : EffR C o new (evF F) (BE E) rd r) : SoundE C ro n D0 E0 U F E a o new r := by
  have hd : ∀ t, o.dst = some t → t < n := fun t ht => by
    have hdst := hok
    simp only [opOK, Bool.and_eq_true, ht] at hdst
    simpa [dstOK, Nat.blt_eq] using hdst.1
  have ev := hR.ev
  have plain : (∃ v ups, EffR0 C o.op new (evF F) (BE E) v ups ∧ rd = looksF (evF F) o ∧ r = .ok v ups) → SoundE C ro n D0 E0 U F E a o new r := fun ⟨v, ups, h1, _, h2⟩ => .of (eff0_sound hR hnew hok h1) h2
  unfold EffR at hE
  cases ho : o.op <;> rw [ho] at hE <;> simp only at hE
  case panic x =>
    obtain ⟨rfl, h1, rfl⟩ := hE
    obtain ⟨⟨t, y⟩, h1⟩ := Option.isSome_iff_exists.1 h1
    have hx := ev x
    obtain ⟨u, hu, _⟩ := ifaceOf_rel hx h1
    intro hnd K Q hK
    refine wpIn_of hnd ?_
    have hrun : (execOp a.eval o).run C.prog E.w = .halt (.panic (a.eval x)) E.w := by
      simp only [execOp, ho, hu, Instr.panic, goPanic, Sem.run_bind]
      rfl
    rw [hrun, Oper.uponIn_panic]
    exact hK E _ (hR.weak0) rfl hx
  case call c =>
    obtain ⟨callee, args, argTypes⟩ := c
    cases callee with
    | builtin b => exact plain (by rw [ho]; exact hE)
    | invoke x name =>
      obtain ⟨t, y, f, h1, h2, hE⟩ := hE
      obtain ⟨u, hu, hyu⟩ := ifaceOf_rel (ev x) h1
      refine call_sound hR hd hnew (us := u :: args.toList.map a.eval) (fun hM => ?_) (by simp) (fun i v w hv hw => ?_) hE
      · have hm : ∀ _ : Nat, (callMethod (.iface t u) name (args.map a.eval)).run C.prog E.w = .ok (.enter f (u :: args.toList.map a.eval).toArray) E.w := fun _ => by
          simp only [callMethod, Sem.run_bind, run_program, Result.andThen_ok]
          obtain ⟨k, hk⟩ : ∃ k, C.prog.types.size + Made.depth = k + 1 := ⟨C.prog.types.size + Made.depth - 1, by simp [Made.depth]⟩
          rw [hk, method_run h2 u k]
          have e3 : #[u] ++ args.map a.eval = (u :: args.toList.map a.eval).toArray := by
            apply Array.ext'
            simp
          simp only [Result.andThen_ok, e3, run_callFunc hM]
        replace hm := hm 0
        simp only [execOp, ho]
        try simp only [resolve, Sem.run_bind, Sem.run_pure, Result.andThen_ok, invoke, hu]
        have e1 : (#[Value.iface t u] ++ args.map a.eval)[0]? = some (.iface t u) := by rw [Array.getElem?_append_left (by simp)]; rfl
        have e2 : (#[Value.iface t u] ++ args.map a.eval).extract 1 (#[Value.iface t u] ++ args.map a.eval).size = args.map a.eval := by
          apply Array.ext'
          simp [List.take_of_length_le]
        rw [e1, e2]
        exact hm
      · cases i with
        | zero => simp at hv hw; subst hv; subst hw; exact hyu
        | succ i => exact lval args.toList _ _ ev i v w (by simpa using hv) (by simpa using hw)
    | value f =>
      cases f with
      | const c => exact hE.elim
      | global g => exact hE.elim
      | func f =>
        rcases hE with hE | hE
        · refine call_sound hR hd hnew (us := args.toList.map a.eval) (fun hM => ?_) (by simp) (lval _ _ _ ev) hE
          simp only [execOp, ho, resolve, Act.eval, Deferred.ofValue, invoke, Sem.run_bind, Sem.run_pure, Result.andThen_ok, run_callFunc hM]
          congr 2
          apply Array.ext'
          simp
        · refine calld_sound hR hd hnew (us := args.toList.map a.eval) (fun hM => ?_) (by simp) (lval _ _ _ ev) hE
          simp only [execOp, ho, resolve, Act.eval, Deferred.ofValue, invoke, Sem.run_bind, Sem.run_pure, Result.andThen_ok, run_callFunc hM]
          congr 2
          apply Array.ext'
          simp
      | tmp t =>
        have ht := ev (.tmp t)
        have hE : CALLVR C (evF F (.tmp t)) (args.toList.map (evF F)) new (BE E) rd r := hE
        unfold CALLVR at hE
        split at hE
        · rename_i f first caps hf
          rw [hf] at ht
          have ht := ht.inv_d
          generalize hu : a.eval (.tmp t) = uf at ht
          cases ht with
          | fn _ _ _ us vs hl hl' hd1 hd2 =>
            refine call_sound hR hd hnew (us := us.toList ++ args.toList.map a.eval ++ vs.toList) (fun hM => ?_) (by simp; omega) (append_val (by simp; omega) (append_val (by simp; omega) ?_ (lval _ _ _ ev)) ?_) hE
            · simp only [execOp, ho, resolve, hu, Deferred.ofValue, invoke, Sem.run_bind, Sem.run_pure, Result.andThen_ok, run_callFunc hM]
              congr 2
              apply Array.ext'
              simp
            · intro i d u h1 h2
              simp only [List.getElem?_map] at h1
              cases hx : first[i]? with
              | none => rw [hx] at h1; cases h1
              | some x => rw [hx] at h1; injection h1 with h1; subst h1; exact .d _ _ (hd1 i x u hx (by simpa using h2))
            · intro i d u h1 h2
              simp only [List.getElem?_map] at h1
              cases hx : caps[i]? with
              | none => rw [hx] at h1; cases h1
              | some x => rw [hx] at h1; injection h1 with h1; subst h1; exact .d _ _ (hd2 i x u hx (by simpa using h2))
        · rename_i f first caps hf
          rw [hf] at ht
          generalize hu : a.eval (.tmp t) = uf at ht
          cases ht with
          | fn _ _ _ us vs hl hl' hd1 hd2 =>
            refine call_sound hR hd hnew (us := us.toList ++ args.toList.map a.eval ++ vs.toList) (fun hM => ?_) (by simp; omega) (append_val (by simp; omega) (append_val (by simp; omega) ?_ (lval _ _ _ ev)) ?_) hE
            · simp only [execOp, ho, resolve, hu, Deferred.ofValue, invoke, Sem.run_bind, Sem.run_pure, Result.andThen_ok, run_callFunc hM]
              congr 2
              apply Array.ext'
              simp
            · exact fun i d u h1 h2 => hd1 i d u h1 (by simpa using h2)
            · exact fun i d u h1 h2 => hd2 i d u h1 (by simpa using h2)
        · rename_i id hf
          rw [hf] at ht
          refine call_sound hR hd hnew (cal := .yld id) (us := args.toList.map a.eval) (fun e L hL => ?_) (by simp) (lval _ _ _ ev) hE
          generalize hu : a.eval (.tmp t) = uf at ht
          cases ht with
          | yld _ tt _ htop h1 h =>
            obtain ⟨g, hg, rfl⟩ := h e L hL
            refine ⟨g, hg, ?_⟩
            simp only [execOp, ho, resolve, hu, Deferred.ofValue, invoke, Sem.run_bind, Sem.run_pure, Result.andThen_ok]
            congr 2
            apply Array.ext'
            simp
        · exact hE.elim
  all_goals exact plain (by rw [ho]; exact hE)
end
end Go.Vc
