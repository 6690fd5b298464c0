/- A part of the proof: general laws of a reading of the model by abstract data, or contracts of the functions that the law calls. -/
import Derived.Test.YtonajancjagefaaGreatVc16
set_option maxRecDepth 100000
namespace Go.Vc
open Go
def pos : List Nat → Nat → Nat
  | [], _ => 0
  | k :: r, i => match Nat.beq k i with | true => 0 | false => pos r i + 1
theorem rho_pos {new : Nat} : ∀ {ks : List Nat} {i : Nat}, i ∈ ks → rho ks new (pos ks i) = i := by
  intro ks
  induction ks with
  | nil => intro i h; cases h
  | cons k r ih =>
    intro i h
    simp only [pos]
    split
    · rename_i hb; exact Nat.eq_of_beq_eq_true hb
    · rename_i hb
      rcases List.mem_cons.1 h with h | h
      · subst h; simp at hb
      · exact ih h
theorem ren_ren {ρ σ : Nat → Nat} : ∀ v : AV, (∀ i, i ∈ ids v → ρ (σ i) = i) → (v.ren σ).ren ρ = v
  | .any, _ => rfl
  | .undef, _ => rfl
  | .anyb, _ => rfl
  | .d _, _ => rfl
  | .zc, _ => rfl
  | .own id ver, h => by simp only [AV.ren, h id (by simp [ids])]
  | .ptr id ver row off, h => by simp only [AV.ren, h id (by simp [ids])]
  | .mapv id, h => by simp only [AV.ren, h id (by simp [ids])]
  | .iter id, h => by simp only [AV.ren, h id (by simp [ids])]
  | .yld id, h => by simp only [AV.ren, h id (by simp [ids])]
  | .agg vs, h => by simp only [AV.ren]; rw [go vs (by simpa [ids] using h)]
  | .tup vs, h => by simp only [AV.ren]; rw [go vs (by simpa [ids] using h)]
  | .fn f a b, h => by
    simp only [ids, List.mem_append] at h
    simp only [AV.ren]; rw [go a (fun i hi => h i (.inl hi)), go b (fun i hi => h i (.inr hi))]
  | .iface t v, h => by simp only [AV.ren]; rw [ren_ren v (by simpa [ids] using h)]
  where go : ∀ vs : List AV, (∀ i, i ∈ ids.idsL vs → ρ (σ i) = i) → AV.ren.renL ρ (AV.ren.renL σ vs) = vs
  | [], _ => rfl
  | v :: r, h => by
    simp only [ids.idsL, List.mem_append] at h
    simp only [AV.ren.renL]
    rw [ren_ren v (fun i hi => h i (.inl hi)), go r (fun i hi => h i (.inr hi))]
theorem renT_ren {ρ σ : Nat → Nat} : ∀ ts : List (Nat × AV), (∀ i, i ∈ tmpIds ts → ρ (σ i) = i) → renT ρ (renT σ ts) = ts
  | [], _ => rfl
  | (t, v) :: r, h => by
    simp only [tmpIds, List.mem_append] at h
    simp only [renT]
    rw [ren_ren v (fun i hi => h i (.inl hi)), renT_ren r (fun i hi => h i (.inr hi))]
theorem body_ren_ren {ρ σ : Nat → Nat} (b : Body) (h : ∀ i, i ∈ b.ids → ρ (σ i) = i) : (b.ren σ).ren ρ = b := by
  cases b with
  | lst xs => rfl
  | box cs => simp only [Body.ren]; rw [ren_ren.go cs h]
  | mp es ck => rfl
  | it s p => rfl
  | loop L => simp only [Body.ren]; rw [renT_ren L.tmps h]
def subB (a b : List Nat) : Bool := a.all fun i => b.contains i
theorem subB_spec {a b : List Nat} (h : subB a b = true) {i : Nat} (hi : i ∈ a) : i ∈ b := by
  have := List.all_eq_true.1 h i hi
  simpa using this
def reach (h : Heap) : Nat → List Nat → List Nat → List Nat
  | 0, seen, _ => seen
  | _ + 1, seen, [] => seen
  | n + 1, seen, k :: r => match seen.contains k with
    | true => reach h n seen r
    | false => match lookH h k with
      | some b => reach h n (seen ++ [k]) (b.body.ids ++ r)
      | none => reach h n seen r
def preF (h : Heap) (σ : Nat → Nat) (ks0 : List Nat) : List Nat → Option (List ABlk)
  | [] => some []
  | k :: r => match lookH h k with
    | some b => if subB b.body.ids ks0 = true then (match preF h σ ks0 r with | some bs => some (b.ren σ :: bs) | none => none) else none
    | none => none
theorem preF_spec {h : Heap} {ks0 : List Nat} {new : Nat} : ∀ {ks : List Nat} {pre : List ABlk}, preF h (pos ks0) ks0 ks = some pre → preB (bodyOf h) (rho ks0 new) ks pre := by
  intro ks
  induction ks with
  | nil => intro pre hp; simp only [preF, Option.some.injEq] at hp; subst hp; trivial
  | cons k r ih =>
    intro pre hp
    simp only [preF] at hp
    split at hp
    · rename_i b hb
      split at hp
      · rename_i hs
        split at hp
        · rename_i bs hbs
          injection hp with hp
          subst hp
          refine ⟨?_, ih hbs⟩
          simp only [ABlk.ren]
          rw [body_ren_ren b.body (fun i hi => rho_pos (subB_spec hs hi))]
          exact bodyAt_some.2 (by rw [hb])
        · cases hp
      · cases hp
    · cases hp
abbrev Orc := (FuncId → Nat) × (Cal → List ABlk → List AV → Option (Out × List PB))
def OrcOK (C : Ctx) (orc : Orc) : Prop := ∀ cal pre args out post, orc.2 cal pre args = some (out, post) → MeetsC C pre args out post cal
def datA (B : BF) : List AV → Option (List Bool × List AV)
  | [] => some ([], [])
  | v :: r => match datA B r with
    | none => none
    | some (cs, vs) => match v, (ids v).isEmpty with
      | .zc, _ => some (true :: cs, .d (.list []) :: vs)
      | v, true => some (false :: cs, v :: vs)
      | v, false => match argD B v with
        | some x => some (true :: cs, .d x :: vs)
        | none => none
def outFlatB : Out → Bool
  | .ret v => v.flatB
  | .pan v => v.flatB
def postFlatB (post : List PB) : Bool := post.all fun p => match p with | .upd b => (match b.body with | .lst xs => xs.all D.flatB | _ => false) | _ => true
def evCallB (orc : Orc) (cal : Cal) (args : List AV) (new : Nat) (h : Heap) : Option (List Nat × Eff) :=
  let ks := reach h 1000 [] (cal.ids ++ ids.idsL args)
  let σ := pos ks
  match preF h σ ks ks with
  | none => none
  | some pre =>
    let args' := AV.ren.renL σ args
    if (subB (cal.ids ++ ids.idsL args) ks && NodupB ks && lowL ks.length ((cal.ren σ).ids ++ ids.idsL args' ++ preIds pre)) = true then
      match orc.2 (cal.ren σ) pre args' with
      | some (out, post) => if pre.length ≤ post.length ∧ post.length ≤ pre.length + 8 then some (ids.idsL args ++ cal.ids ++ ks, out.eff (rho ks new) (upsP (rho ks new) post 0)) else none
      | none => none
    else none
def evCallA (orc : Orc) (f : FuncId) (args : List AV) (new : Nat) (h : Heap) : Option (List Nat × Eff) :=
  match datA (bodyOf h) args with
  | none => none
  | some (_, args') => match orc.2 (.fnc f) [] args' with
    | none => none
    | some (out, post) => match outFlatB out && postFlatB post && Nat.ble post.length 8 && lowL 0 (ids.idsL args') with
      | true => some (ids.idsL args, out.eff (rho [] new) (upsP (rho [] new) post 0))
      | false => none
def evCallD (orc : Orc) (cal : Cal) (args : List AV) (new : Nat) (h : Heap) : Option (List Nat × Eff) :=
  match datA (bodyOf h) args with
  | none => none
  | some (cs, args') =>
    let ks := reach h 1000 [] cal.ids
    match preF h (pos ks) ks ks with
    | none => none
    | some pre =>
      match subB cal.ids ks && NodupB ks && lowL ks.length ((cal.ren (pos ks)).ids ++ ids.idsL args' ++ preIds pre) && disjB (lentL cs args) ks with
      | true => match orc.2 (cal.ren (pos ks)) pre args' with
        | some (out, post) => match Nat.ble pre.length post.length && Nat.ble post.length (pre.length + 8) with
          | true => some (ids.idsL args ++ cal.ids ++ ks, out.eff (rho ks new) (upsP (rho ks new) post 0 ++ kills (lentL cs args)))
          | false => none
        | none => none
      | false => none
def evCall (orc : Orc) (f : FuncId) (args : List AV) (new : Nat) (h : Heap) : Option (List Nat × Eff) := match orc.1 f with
  | 0 => evCallB orc (.fnc f) args new h
  | 1 => evCallA orc f args new h
  | _ => evCallD orc (.fnc f) args new h
theorem ren_id {ρ : Nat → Nat} : ∀ v : AV, ids v = [] → v.ren ρ = v := fun v hv => by
  have := ren_ren (ρ := ρ) (σ := fun i => i) v (fun i hi => by rw [hv] at hi; cases hi)
  have e : v.ren (fun i => i) = v := ren_ren_id v
  rw [e] at this
  exact this
  where
  ren_ren_id : ∀ v : AV, v.ren (fun i => i) = v
  | .any => rfl
  | .undef => rfl
  | .anyb => rfl
  | .d _ => rfl
  | .zc => rfl
  | .own id ver => rfl
  | .ptr id ver row off => rfl
  | .mapv id => rfl
  | .iter id => rfl
  | .yld id => rfl
  | .agg vs => by simp only [AV.ren]; rw [go vs]
  | .tup vs => by simp only [AV.ren]; rw [go vs]
  | .fn f a b => by simp only [AV.ren]; rw [go a, go b]
  | .iface t v => by simp only [AV.ren]; rw [ren_ren_id v]
  go : ∀ vs : List AV, AV.ren.renL (fun i => i) vs = vs
  | [] => rfl
  | v :: r => by simp only [AV.ren.renL]; rw [ren_ren_id v, go r]
theorem datA_M {B : BF} {ρ : Nat → Nat} : ∀ {vs : List AV} {cs : List Bool} {vs' : List AV}, datA B vs = some (cs, vs') → argsM B ρ cs vs vs' := by
  intro vs
  induction vs with
  | nil => intro cs vs' h; simp only [datA, Option.some.injEq, Prod.mk.injEq] at h; obtain ⟨rfl, rfl⟩ := h; trivial
  | cons v r ih =>
    intro cs vs' h
    simp only [datA] at h
    split at h
    · cases h
    · rename_i cs1 vs1 hr
      split at h
      · simp only [Option.some.injEq, Prod.mk.injEq] at h
        obtain ⟨rfl, rfl⟩ := h
        exact ⟨⟨_, rfl, rfl⟩, ih hr⟩
      · rename_i hi
        simp only [Option.some.injEq, Prod.mk.injEq] at h
        obtain ⟨rfl, rfl⟩ := h
        exact ⟨(ren_id _ (by simpa using hi)).symm, ih hr⟩
      · split at h
        · rename_i x hx
          simp only [Option.some.injEq, Prod.mk.injEq] at h
          obtain ⟨rfl, rfl⟩ := h
          exact ⟨⟨x, hx, rfl⟩, ih hr⟩
        · cases h
theorem postFlatB_ok : ∀ {post : List PB}, postFlatB post = true → postFlat post := by
  intro post
  induction post with
  | nil => intro _; trivial
  | cons p r ih =>
    intro h
    simp only [postFlatB, List.all_cons, Bool.and_eq_true] at h
    refine ⟨?_, ih h.2⟩
    cases p with
    | upd b =>
      have h := h.1
      simp only at h
      show b.body.flatP
      cases hb : b.body <;> rw [hb] at h <;> try (cases h; done)
      exact fun x hx => List.all_eq_true.1 h x hx
    | _ => trivial
theorem argsM_ren {B : BF} {ρ σ : Nat → Nat} : ∀ vs : List AV, (∀ i, i ∈ ids.idsL vs → ρ (σ i) = i) → argsM B ρ (vs.map fun _ => false) vs (AV.ren.renL σ vs)
  | [], _ => trivial
  | v :: r, h => by
    simp only [ids.idsL, List.mem_append] at h
    exact ⟨(ren_ren v (fun i hi => h i (.inl hi))).symm, argsM_ren r (fun i hi => h i (.inr hi))⟩
theorem lent_none : ∀ vs : List AV, lentL (vs.map fun _ => false) vs = []
  | [] => rfl
  | _ :: r => lent_none r
theorem cal_ren_ren {ρ σ : Nat → Nat} (c : Cal) (h : ∀ i, i ∈ c.ids → ρ (σ i) = i) : (c.ren σ).ren ρ = c := by
  cases c with
  | fnc f => rfl
  | yld id => simp only [Cal.ren, h id (by simp [Cal.ids])]
theorem evCallB_R {C : Ctx} {orc : Orc} (ho : OrcOK C orc) {cal : Cal} {args : List AV} {new : Nat} {h : Heap} {rd : List Nat} {r : Eff} (he : evCallB orc cal args new h = some (rd, r)) : CALLR C cal args new (bodyOf h) rd r := by
  unfold evCallB at he
  simp only at he
  generalize hks : reach h 1000 [] (cal.ids ++ ids.idsL args) = ks at he
  split at he
  · cases he
  · rename_i pre hpre
    split at he
    · rename_i hc
      simp only [Bool.and_eq_true] at hc
      obtain ⟨⟨c1, c2⟩, c3⟩ := hc
      split at he
      · rename_i out post hor
        split at he
        · rename_i hl
          injection he with he
          injection he with h1 h2
          exact ⟨ks, cal.ren (pos ks), args.map fun _ => false, AV.ren.renL (pos ks) args, pre, out, post, true, ho _ pre _ out post hor, c2, (cal_ren_ren cal (fun i hi => rho_pos (subB_spec c1 (List.mem_append_left _ hi)))).symm, argsM_ren args (fun i hi => rho_pos (subB_spec c1 (List.mem_append_right _ hi))), preF_spec hpre, c3, by simp [lent_none, disjB], hl.1, hl.2, h1.symm, fun h => (by cases h), by simp [lent_none, killsIf, kills, ← h2]⟩
        · cases he
      · cases he
    · cases he
theorem evCallD_R {C : Ctx} {orc : Orc} (ho : OrcOK C orc) {cal : Cal} {args : List AV} {new : Nat} {h : Heap} {rd : List Nat} {r : Eff} (he : evCallD orc cal args new h = some (rd, r)) : CALLR C cal args new (bodyOf h) rd r := by
  unfold evCallD at he
  split at he
  · cases he
  · rename_i cs args' hd
    simp only at he
    generalize hks : reach h 1000 [] cal.ids = ks at he
    split at he
    · cases he
    · rename_i pre hpre
      split at he
      · rename_i hc
        simp only [Bool.and_eq_true] at hc
        obtain ⟨⟨⟨c1, c2⟩, c3⟩, c4⟩ := hc
        split at he
        · rename_i out post hor
          split at he
          · rename_i hl
            simp only [Bool.and_eq_true] at hl
            injection he with he
            injection he with h1 h2
            exact ⟨ks, cal.ren (pos ks), cs, args', pre, out, post, true, ho _ pre _ out post hor, c2, (cal_ren_ren cal (fun i hi => rho_pos (subB_spec c1 hi))).symm, datA_M hd, preF_spec hpre, c3, c4, Nat.le_of_ble_eq_true hl.1, Nat.le_of_ble_eq_true hl.2, h1.symm, fun h => (by cases h), h2.symm⟩
          · cases he
        · cases he
      · cases he
theorem evCall_R {C : Ctx} {orc : Orc} (ho : OrcOK C orc) {f : FuncId} {args : List AV} {new : Nat} {h : Heap} {rd : List Nat} {r : Eff} (he : evCall orc f args new h = some (rd, r)) : CALLR C (.fnc f) args new (bodyOf h) rd r := by
  unfold evCall at he
  split at he
  · exact evCallB_R ho he
  · unfold evCallA at he
    split at he
    · cases he
    · rename_i cs args' hd
      split at he
      · cases he
      · rename_i out post hor
        split at he
        · rename_i hc
          simp only [Bool.and_eq_true] at hc
          obtain ⟨⟨⟨c1, c2⟩, c3⟩, c4⟩ := hc
          injection he with he
          injection he with h1 h2
          exact ⟨[], .fnc f, cs, args', [], out, post, false, ho (.fnc f) [] args' out post hor, rfl, rfl, datA_M hd, trivial, by simpa [Cal.ids, preIds] using c4, by simp [disjB], Nat.zero_le _, by simpa using Nat.le_of_ble_eq_true c3, by simp [Cal.ids, ← h1], fun _ => .inr ⟨rfl, by cases out <;> exact c1, postFlatB_ok c2⟩, by simp [killsIf, ← h2]⟩
        · cases he
  · exact evCallD_R ho he
def evCallY (orc : Orc) (id : Nat) (args : List AV) (new : Nat) (h : Heap) : Option (List Nat × Eff) := match evCallD orc (.yld id) args new h with
  | some r => some r
  | none => evCallB orc (.yld id) args new h
theorem evCallY_R {C : Ctx} {orc : Orc} (ho : OrcOK C orc) {id : Nat} {args : List AV} {new : Nat} {h : Heap} {rd : List Nat} {r : Eff} (he : evCallY orc id args new h = some (rd, r)) : CALLR C (.yld id) args new (bodyOf h) rd r := by
  unfold evCallY at he
  split at he
  · rename_i x hx
    injection he with he
    subst he
    exact evCallD_R ho hx
  · exact evCallB_R ho he
def evPlain (p : Program) (o : Oper) (new : Nat) (fr : Fr) (h : Heap) : Option (List Nat × Eff) := match evOp0 p o.op new (evf fr) (bodyOf h) with
  | some (v, ups) => some (looks fr o, .ok v ups)
  | none => none
def evOp (p : Program) (orc : Orc) (o : Oper) (new : Nat) (fr : Fr) (h : Heap) : Option (List Nat × Eff) := match o.op with
  | .panic x => match ifaceOf (evf fr x) with | some _ => some ([], .pan (evf fr x) []) | none => none
  | .call c => match c.callee with
    | .value f => match f with
      | .func f => evCall orc f (c.args.toList.map (evf fr)) new h
      | .tmp t => match lk fr t with
        | .d (.fn f first caps) => evCall orc f (first.map .d ++ c.args.toList.map (evf fr) ++ caps.map .d) new h
        | .fn f first caps => evCall orc f (first ++ c.args.toList.map (evf fr) ++ caps) new h
        | .yld id => evCallY orc id (c.args.toList.map (evf fr)) new h
        | _ => none
      | _ => none
    | .invoke x name => match ifaceOf (evf fr x) with
      | some (t, v) => match tMeth p t name with
        | some f => evCall orc f (v :: c.args.toList.map (evf fr)) new h
        | none => none
      | none => none
    | .builtin _ => evPlain p o new fr h
  | _ => evPlain p o new fr h
theorem evOp_R {C : Ctx} {orc : Orc} (ho : OrcOK C orc) {o : Oper} {new : Nat} {fr : Fr} {h : Heap} {rd : List Nat} {r : Eff} (he : evOp C.prog orc o new fr h = some (rd, r)) : EffR C o new (evf fr) (bodyOf h) rd r := by
  have plain : evPlain C.prog o new fr h = some (rd, r) → ∃ v ups, EffR0 C o.op new (evf fr) (bodyOf h) v ups ∧ rd = looksF (evf fr) o ∧ r = .ok v ups := fun he => by
    unfold evPlain at he
    split at he
    · rename_i v ups hv
      injection he with he
      injection he with h1 h2
      exact ⟨v, ups, evOp0_R hv, h1.symm, h2.symm⟩
    · cases he
  unfold evOp at he
  unfold EffR
  cases hop : o.op <;> rw [hop] at he plain <;> simp only at he ⊢
  case panic x =>
    split at he
    · rename_i q hq
      injection he with he
      injection he with h1 h2
      exact ⟨h1.symm, by rw [hq]; rfl, h2.symm⟩
    · cases he
  case call c =>
    obtain ⟨callee, args, argTypes⟩ := c
    cases callee with
    | builtin b => exact plain he
    | invoke x name =>
      simp only at he
      split at he
      · rename_i t v hx
        split at he
        · rename_i f hf
          exact ⟨t, v, f, hx, hf, evCall_R ho he⟩
        · cases he
      · cases he
    | value f =>
      cases f with
      | const c => cases he
      | global g => cases he
      | func f => exact .inl (evCall_R ho he)
      | tmp t =>
        simp only at he ⊢
        show CALLVR C (lk fr t) _ _ _ _ _
        unfold CALLVR
        split at he
        · rename_i f first caps hf
          rw [hf]; exact evCall_R ho he
        · rename_i f first caps hf
          rw [hf]; exact evCall_R ho he
        · rename_i id hf
          rw [hf]; exact evCallY_R ho he
        · cases he
  all_goals exact plain he
inductive ERes where
  | ok (fr : Fr) (h : Heap)
  | pan (v : AV) (h : Heap)
def accU (draw : Bool) (acc : List Touch) (i : Nat) (o : Oper) (ups : Heap) (rd : List Nat) : List Touch := match draw with
  | true => match tchs o with | true => acc ++ [(i, ups.map (·.1), rd)] | false => acc
  | false => acc
def evTail (p : Program) (orc : Orc) (bs : List Nat) (i0 : Nat) : List Oper → Nat → Nat → Fr → Heap → List Touch → Bool
  | [], _, _, _, _, acc => ordB bs acc
  | o :: rest, i, new, fr, h, acc => match (bs.getD i 0).testBit i0 with
    | true => evTail p orc bs i0 rest (i + 1) (new + 8) (putO o.dst .any none fr) h acc
    | false => match quietOp o && o.guard.isNone with
      | true => match evOp p orc o new fr h with
        | some (rd, .ok v _) => evTail p orc bs i0 rest (i + 1) (new + 8) (putO o.dst v none fr) h (accU true acc i o [] rd)
        | _ => false
      | false => false
def wantF (all : List Oper) (fr : Fr) (o : Oper) : Option Bool := match o.guard with
  | none => some true
  | some (j, want) => match lk fr (dstOf all j) with
    | .undef => some false
    | .d (.bool b) => some (b == want)
    | _ => none
def evOps (p : Program) (orc : Orc) (all : List Oper) (bs : List Nat) (draw : Bool) : List Oper → Nat → Nat → Fr → Heap → List Touch → Option ERes
  | [], _, _, fr, h, acc => match draw with
    | true => match ordX (exOf all 0) bs acc with | true => some (.ok fr h) | false => none
    | false => some (.ok fr h)
  | o :: rest, i, new, fr, h, acc => match wantF all fr o with
    | none => none
    | some false => evOps p orc all bs draw rest (i + 1) (new + 8) (putO o.dst .undef none fr) h acc
    | some true => match evOp p orc o new fr h with
      | none => none
      | some (rd, .ok v ups) => evOps p orc all bs draw rest (i + 1) (new + 8) (putO o.dst v none fr) (ups ++ h) (accU draw acc i o ups rd)
      | some (_, .pan v ups) => match draw with
        | false => some (.pan v (ups ++ h))
        | true => match panOK (bs.getD i 0) acc && evTail p orc bs i rest (i + 1) (new + 8) (putO o.dst .any none fr) h acc with
          | true => some (.pan v (ups ++ h))
          | false => none
theorem wantF_true {all : List Oper} {fr : Fr} {o : Oper} (h : wantF all fr o = some true) : ∀ j want, o.guard = some (j, want) → lk fr (dstOf all j) = .d (.bool want) := fun j want hg => by
  unfold wantF at h
  rw [hg] at h
  simp only at h
  split at h
  · cases h
  · rename_i b hb
    simp only [Option.some.injEq, beq_iff_eq] at h
    rw [hb, h]
  · cases h
theorem wantF_false {all : List Oper} {fr : Fr} {o : Oper} (h : wantF all fr o = some false) : ∃ j want, o.guard = some (j, want) ∧ (lk fr (dstOf all j) = .undef ∨ lk fr (dstOf all j) = .d (.bool (!want))) := by
  unfold wantF at h
  split at h
  · cases h
  · rename_i j want hg
    refine ⟨j, want, hg, ?_⟩
    split at h
    · rename_i hb; exact .inl hb
    · rename_i b hb
      right
      rw [hb]
      cases b <;> cases want <;> first | rfl | (simp at h)
    · cases h
theorem accU_touch {draw : Bool} {acc : List Touch} {i : Nat} {o : Oper} {v : AV} {ups : Heap} {k : EK} {rd : List Nat} {es : List Ent} (hd : draw = true) : accU draw acc i o ups rd ++ touches es (i + 1) = acc ++ touches (⟨v, ups, k, rd, tchs o⟩ :: es) i := by
  subst hd
  cases ht : tchs o <;> simp [accU, touches, ht]
theorem evTail_trace {C : Ctx} {orc : Orc} (ho : OrcOK C orc) {bs : List Nat} {p : Nat} : ∀ (ops : List Oper) (i new : Nat) (fr : Fr) (h : Heap) (acc : List Touch), evTail C.prog orc bs p ops i new fr h acc = true →
    ∃ es, Tail C true bs p ops i new (lk fr) (lookH h) es ∧ ordB bs (acc ++ touches es i) = true := by
  intro ops
  induction ops with
  | nil =>
    intro i new fr h acc hv
    unfold evTail at hv
    exact ⟨[], .nil _ _ _ _, by simpa [touches] using hv⟩
  | cons o r ih =>
    intro i new fr h acc hv
    unfold evTail at hv
    split at hv
    · rename_i hb
      obtain ⟨es, h1, h3⟩ := ih _ _ _ _ _ hv
      rw [lk_putO] at h1
      exact ⟨_, .dead o r i new _ _ es (fun _ => hb) h1, by simpa [touches] using h3⟩
    · split at hv
      · rename_i hq
        simp only [Bool.and_eq_true, Option.isNone_iff_eq_none] at hq
        split at hv
        · rename_i rd v ups hev
          have hE := evOp_R ho hev
          obtain ⟨v', hv'⟩ := quiet_ups hE hq.1
          injection hv' with e1 e2
          subst e1; subst e2
          obtain ⟨es, h1, h3⟩ := ih _ _ _ _ _ hv
          rw [lk_putO] at h1
          rw [evf_eq] at hE
          exact ⟨_, .quiet o r i new _ _ v rd es hq.2 hE h1, by rw [← accU_touch rfl]; exact h3⟩
        · cases hv
      · cases hv
def EndE (all : List Oper) (draw : Bool) (acc : List Touch) (i : Nat) (es : List Ent) : REnd → ERes → Prop
  | .ok F H, .ok fr h => F = lk fr ∧ H = lookH h ∧ DecOK fr
  | .pan p v H, .pan v' h => v = v' ∧ H = lookH h ∧ (draw = true → panOK ((befs all 0 []).getD p 0) acc = true ∧ ∀ (k : Nat) (e : Ent), es[k]? = some e → i + k < p → e.ups = [] ∨ ((befs all 0 []).getD p 0).testBit (i + k) = true)
  | _, _ => False
theorem evOps_trace {C : Ctx} {orc : Orc} (ho : OrcOK C orc) {all : List Oper} {draw : Bool} : ∀ (ops : List Oper) (i new : Nat) (fr : Fr) (h : Heap) (acc : List Touch) (res : ERes), DecOK fr → evOps C.prog orc all (befs all 0 []) draw ops i new fr h acc = some res →
    ∃ es en, Trace C all draw ops i new (lk fr) (lookH h) es en ∧ EndE all draw acc i es en res ∧ (draw = true → ordX (exOf all 0) (befs all 0 []) (acc ++ touches es i) = true) := by
  intro ops
  induction ops with
  | nil =>
    intro i new fr h acc res hD hv
    unfold evOps at hv
    cases draw with
    | true =>
      simp only at hv
      split at hv
      · rename_i hord
        injection hv with hv; subst hv
        exact ⟨[], _, .nil _ _ _ _, ⟨rfl, rfl, hD⟩, fun _ => by simpa [touches] using hord⟩
      · cases hv
    | false => injection hv with hv; subst hv; exact ⟨[], _, .nil _ _ _ _, ⟨rfl, rfl, hD⟩, fun h => by cases h⟩
  | cons o r ih =>
    intro i new fr h acc res hD hv
    unfold evOps at hv
    split at hv
    · cases hv
    · rename_i hw
      obtain ⟨j, want, hg, hs⟩ := wantF_false hw
      obtain ⟨es, en, ht, hK, hord⟩ := ih _ _ _ _ _ _ (hD.put o.dst (decFits_none _)) hv
      rw [lk_putO] at ht
      refine ⟨_, en, .skip o r i new _ _ es _ j want hg hs ht, ?_, fun hdr => by simpa [touches] using hord hdr⟩
      cases en with
      | ok F H => cases res <;> exact hK
      | pan p v' H =>
        cases res with
        | ok _ _ => exact hK
        | pan v h' =>
          obtain ⟨k1, k2, k3⟩ := hK
          refine ⟨k1, k2, fun hdr => ?_⟩
          obtain ⟨k3, k4⟩ := k3 hdr
          refine ⟨k3, fun k e hk he => ?_⟩
          cases k with
          | zero => simp at hk; subst hk; exact .inl rfl
          | succ k =>
            have := k4 k e (by simpa using hk) (by omega)
            rw [show i + (k + 1) = i + 1 + k by omega]; exact this
    · rename_i hw
      have hg := wantF_true hw
      split at hv
      · cases hv
      · rename_i rd v ups hev
        have hE := evOp_R ho hev
        rw [evf_eq] at hE
        obtain ⟨es, en, ht, hK, hord⟩ := ih _ _ _ _ _ _ (hD.put o.dst (decFits_none _)) hv
        rw [lk_putO, show lookH (ups ++ h) = upH (lookH h) ups from funext (lookH_append ups h)] at ht
        refine ⟨_, en, .run o r i new _ _ v ups rd es _ hg hE ht, ?_, fun hdr => by rw [← accU_touch hdr]; exact hord hdr⟩
        cases en with
        | ok F H => cases res <;> exact hK
        | pan p v' H =>
          cases res with
          | ok _ _ => exact hK
          | pan v2 h' =>
            obtain ⟨k1, k2, k3⟩ := hK
            refine ⟨k1, k2, fun hdr => ?_⟩
            obtain ⟨k3, k4⟩ := k3 hdr
            subst hdr
            have hacc : panOK ((befs all 0 []).getD p 0) acc = true ∧ (tchs o = true → ups = [] ∨ ((befs all 0 []).getD p 0).testBit i = true) := by
              cases htc : tchs o with
              | true =>
                simp only [accU, htc, panOK, List.all_append, Bool.and_eq_true, List.all_cons, List.all_nil, Bool.and_true, Bool.or_eq_true] at k3
                refine ⟨k3.1, fun _ => ?_⟩
                rcases k3.2 with h | h
                · left; simpa using h
                · right; simpa using h
              | false =>
                simp only [accU, htc] at k3
                exact ⟨k3, fun h => by cases h⟩
            refine ⟨hacc.1, fun k e hk he => ?_⟩
            cases k with
            | zero =>
              simp at hk; subst hk
              cases htc : tchs o with
              | true => exact hacc.2 htc
              | false => exact .inl (notch hE htc).1
            | succ k =>
              have := k4 k e (by simpa using hk) (by omega)
              rw [show i + (k + 1) = i + 1 + k by omega]; exact this
      · rename_i rd v ups hev
        have hE := evOp_R ho hev
        rw [evf_eq] at hE
        cases draw with
        | false =>
          injection hv with hv; subst hv
          obtain ⟨es, h1⟩ := tail_false C (befs all 0 []) i r (i + 1) (new + 8) (setF (lk fr) o.dst .any) (lookH h)
          exact ⟨_, _, .pan o r i new _ _ v ups rd es hg hE h1, ⟨rfl, (funext (lookH_append ups h)).symm, fun h => by cases h⟩, fun h => by cases h⟩
        | true =>
          simp only at hv
          split at hv
          · rename_i hc
            simp only [Bool.and_eq_true] at hc
            injection hv with hv; subst hv
            obtain ⟨es, h1, h3⟩ := evTail_trace ho r _ _ _ _ _ hc.2
            rw [lk_putO] at h1
            exact ⟨_, _, .pan o r i new _ _ v ups rd es hg hE h1, ⟨rfl, (funext (lookH_append ups h)).symm, fun _ => ⟨hc.1, fun k e hk he => by omega⟩⟩, fun _ => ordB_ordX (by simpa [touches] using h3)⟩
          · cases hv
end Go.Vc
