/- A part of the proof: general laws of a reading of the model by abstract data, or contracts of the functions that the law calls. -/
import Derived.Test.YtonajancjagefaaGreatVc3
set_option maxRecDepth 100000
namespace Go.Vc
open Go Go.RowKit
theorem rho_lt : ∀ (ks : List Nat) (new i : Nat), i < ks.length → ks[i]? = some (rho ks new i) := by
  intro ks
  induction ks with
  | nil => intro new i h; simp at h
  | cons k r ih =>
    intro new i h
    cases i with
    | zero => rfl
    | succ i => simpa [rho] using ih new i (by simpa using h)
theorem rho_ge : ∀ (ks : List Nat) (new i : Nat), ks.length ≤ i → rho ks new i = new + (i - ks.length) := by
  intro ks
  induction ks with
  | nil => intro new i h; simp [rho]
  | cons k r ih =>
    intro new i h
    cases i with
    | zero => simp at h
    | succ i =>
      simp only [rho, List.length_cons]
      rw [ih new i (by simpa using h)]
      omega
theorem NodupB_spec : ∀ {ks : List Nat}, NodupB ks = true → ks.Nodup := by
  intro ks
  induction ks with
  | nil => intro _; exact List.nodup_nil
  | cons k r ih =>
    intro h
    simp only [NodupB, Bool.and_eq_true, Bool.not_eq_true'] at h
    refine List.nodup_cons.2 ⟨fun hm => ?_, ih h.2⟩
    have := List.contains_iff_mem.2 hm
    rw [h.1] at this; cases this
theorem disjB_spec {a b : List Nat} (h : disjB a b = true) : ∀ i, i ∈ a → i ∉ b := fun i hi hb => by
  have := List.all_eq_true.1 h i hi
  simp at this
  exact this hb
def inv (ks : List Nat) (new i : Nat) : Option Nat := (List.range (ks.length + 8)).find? fun j => rho ks new j == i
theorem inv_some {ks : List Nat} {new i j : Nat} (h : inv ks new i = some j) : rho ks new j = i ∧ j < ks.length + 8 := by
  unfold inv at h
  have h1 := List.find?_some h
  have h2 := List.mem_of_find?_eq_some h
  exact ⟨by simpa using h1, by simpa using h2⟩
theorem inv_none {ks : List Nat} {new i : Nat} (h : inv ks new i = none) : ∀ j, j < ks.length + 8 → rho ks new j ≠ i := by
  unfold inv at h
  intro j hj he
  have := List.find?_eq_none.1 h j (by simpa using hj)
  simp [he] at this
def Env.loc (E : Env) (ks : List Nat) (pre : List ABlk) (lent : List Nat) : Env where
  P := E.P
  top i := match ks[i]? with | some k => E.top k | none => none
  m i := match ks[i]? with | some k => E.m k | none => none
  H i := pre[i]?
  w := E.w
  S b := E.S b ∨ blkOf E lent b
def Env.glob (E E1 : Env) (ks : List Nat) (new : Nat) (ls : List Nat) (T : Nat → Prop) : Env where
  P := E.P
  top i := match inv ks new i with | some j => E1.top j | none => E.top i
  m i := match inv ks new i with | some j => E1.m j | none => E.m i
  H i := match inv ks new i with | some j => (E1.H j).map (ABlk.ren (rho ks new)) | none => if i ∈ ls then none else E.H i
  w := E1.w
  S := T
theorem preB_len {B : BF} {ρ : Nat → Nat} : ∀ {ks : List Nat} {pre : List ABlk}, preB B ρ ks pre → pre.length = ks.length := by
  intro ks
  induction ks with
  | nil => intro pre h; cases pre with
    | nil => rfl
    | cons b r => exact h.elim
  | cons k r ih => intro pre h; cases pre with
    | nil => exact h.elim
    | cons b r' => simp [ih h.2]
theorem preB_get {B : BF} {ρ : Nat → Nat} : ∀ {ks : List Nat} {pre : List ABlk}, preB B ρ ks pre → ∀ (i : Nat) (b : ABlk), pre[i]? = some b → ∃ k, ks[i]? = some k ∧ B k b.ver = some (b.elem, b.body.ren ρ) := by
  intro ks
  induction ks with
  | nil => intro pre h i b hb; cases pre with
    | nil => simp at hb
    | cons b r => exact h.elim
  | cons k r ih => intro pre h i b hb; cases pre with
    | nil => exact h.elim
    | cons b' r' =>
      cases i with
      | zero => simp at hb; subst hb; exact ⟨k, rfl, h.1⟩
      | succ i => simpa using ih h.2 i b (by simpa using hb)
theorem lowL_spec {k : Nat} {l : List Nat} (h : lowL k l = true) : ∀ i, i ∈ l → i < k := fun i hi => by
  have := List.all_eq_true.1 h i hi
  simpa [Nat.blt_eq] using this
theorem preIds_mem : ∀ {pre : List ABlk} {b : ABlk}, b ∈ pre → ∀ i, i ∈ b.body.ids → i ∈ preIds pre := by
  intro pre
  induction pre with
  | nil => intro b h; simp at h
  | cons x r ih =>
    intro b h i hi
    simp only [preIds, List.mem_append]
    rcases List.mem_cons.1 h with rfl | h
    · exact .inl hi
    · exact .inr (ih h i hi)
theorem tmpIds_mem : ∀ {l : List (Nat × AV)} {t : Nat} {v : AV}, (t, v) ∈ l → ∀ i, i ∈ ids v → i ∈ tmpIds l := by
  intro l
  induction l with
  | nil => intro t v h; simp at h
  | cons p r ih =>
    obtain ⟨t', v'⟩ := p
    intro t v h i hi
    simp only [tmpIds, List.mem_append]
    rcases List.mem_cons.1 h with h | h
    · injection h with h1 h2; subst h2; exact .inl hi
    · exact .inr (ih h i hi)
theorem renT_mem {ρ : Nat → Nat} : ∀ {l : List (Nat × AV)} {t : Nat} {v : AV}, (t, v) ∈ l → (t, v.ren ρ) ∈ renT ρ l := by
  intro l
  induction l with
  | nil => intro t v h; simp at h
  | cons p r ih =>
    obtain ⟨t', v'⟩ := p
    intro t v h
    simp only [renT]
    rcases List.mem_cons.1 h with h | h
    · injection h with h1 h2; subst h1; subst h2; simp
    · exact List.mem_cons_of_mem _ (ih h)
theorem renT_mem' {ρ : Nat → Nat} : ∀ {l : List (Nat × AV)} {t : Nat} {v : AV}, (t, v) ∈ renT ρ l → ∃ v', (t, v') ∈ l ∧ v = v'.ren ρ := by
  intro l
  induction l with
  | nil => intro t v h; simp [renT] at h
  | cons p r ih =>
    obtain ⟨t', v'⟩ := p
    intro t v h
    simp only [renT] at h
    rcases List.mem_cons.1 h with h | h
    · injection h with h1 h2; subst h1; exact ⟨v', by simp, h2⟩
    · obtain ⟨v'', h1, h2⟩ := ih h
      exact ⟨v'', List.mem_cons_of_mem _ h1, h2⟩
structure InstOK (C : Ctx) (E : Env) (ks : List Nat) (new : Nat) (pre : List ABlk) (lent : List Nat) : Prop where
  prog : E.P = C.prog
  G : C.G E.w
  hN : C.N ≤ E.w.heap.size
  hr : HR C.N E
  nodup : ks.Nodup
  hpre : preB (BE E) (rho ks new) ks pre
  low : ∀ i, i ∈ preIds pre → i < ks.length
  disj : ∀ i, i ∈ lent → i ∉ ks
  fresh : ∀ i, new ≤ i → i < new + 8 → E.top i = none
section
variable {C : Ctx} {E : Env} {ks : List Nat} {new : Nat} {pre : List ABlk} {lent : List Nat}
theorem InstOK.preH (I : InstOK C E ks new pre lent) {i : Nat} {b : ABlk} (h : pre[i]? = some b) : ∃ k, ks[i]? = some k ∧ k = rho ks new i ∧ E.H k = some (b.ren (rho ks new)) := by
  obtain ⟨k, h1, h2⟩ := preB_get I.hpre i b h
  have hlt := (List.getElem?_eq_some_iff.1 h1).1
  have := rho_lt ks new i hlt
  rw [h1] at this
  injection this with this
  exact ⟨k, h1, this, BE_some h2⟩
theorem InstOK.live (I : InstOK C E ks new pre lent) {i : Nat} (h : i < ks.length) : ∃ b, pre[i]? = some b ∧ E.H (rho ks new i) = some (b.ren (rho ks new)) := by
  have hlt : i < pre.length := by rw [preB_len I.hpre]; exact h
  have hb : pre[i]? = some pre[i] := List.getElem?_eq_getElem hlt
  obtain ⟨k, _, h2, h3⟩ := I.preH hb
  exact ⟨_, hb, by rw [← h2]; exact h3⟩
theorem InstOK.inj (I : InstOK C E ks new pre lent) {i j : Nat} (hi : i < ks.length + 8) (hj : j < ks.length + 8) (h : rho ks new i = rho ks new j) : i = j := by
  have cross : ∀ {i j : Nat}, i < ks.length → ks.length ≤ j → j < ks.length + 8 → rho ks new i = rho ks new j → False := fun {i j} h1 h2 h3 h => by
    obtain ⟨b, _, hb⟩ := I.live h1
    have ht := (I.hr.blk _ _ hb).1
    rw [h, rho_ge ks new j h2] at ht
    rw [I.fresh _ (by omega) (by omega)] at ht
    cases ht
  by_cases h1 : i < ks.length
  · by_cases h2 : j < ks.length
    · have e1 := rho_lt ks new i h1
      have e2 := rho_lt ks new j h2
      rw [h] at e1; rw [← e2] at e1
      exact (List.getElem?_inj h1 I.nodup).1 e1
    · exact (cross h1 (by omega) hj h).elim
  · by_cases h2 : j < ks.length
    · exact (cross h2 (by omega) hi h.symm).elim
    · rw [rho_ge ks new i (by omega), rho_ge ks new j (by omega)] at h
      omega
theorem InstOK.inv (I : InstOK C E ks new pre lent) {j : Nat} (hj : j < ks.length + 8) : inv ks new (rho ks new j) = some j := by
  cases h : Go.Vc.inv ks new (rho ks new j) with
  | none => exact absurd rfl (inv_none h j hj)
  | some j' =>
    obtain ⟨h1, h2⟩ := inv_some h
    rw [I.inj h2 hj h1]
theorem InstOK.top (I : InstOK C E ks new pre lent) {i j t : Nat} (h : Go.Vc.inv ks new i = some j) (ht : E.top i = some t) : j < ks.length := by
  obtain ⟨h1, h2⟩ := inv_some h
  rcases Nat.lt_or_ge j ks.length with h3 | h3
  · exact h3
  · rw [rho_ge ks new j h3] at h1
    rw [I.fresh i (by omega) (by omega)] at ht
    cases ht
theorem VRel.loc (I : InstOK C E ks new pre lent) {v' : AV} {u : Value} (h : VRel E v' u) : ∀ v, v' = v.ren (rho ks new) → (∀ i, i ∈ ids v → i < ks.length) → VRel (E.loc ks pre lent) v u := by
  have sub : ∀ (vs : List AV) (us : Array Value), (∀ (i : Nat) (v : AV) (u : Value), (AV.ren.renL (rho ks new) vs)[i]? = some v → us[i]? = some u → ∀ v0, v = v0.ren (rho ks new) → (∀ i, i ∈ ids v0 → i < ks.length) → VRel (E.loc ks pre lent) v0 u) → (∀ i, i ∈ ids.idsL vs → i < ks.length) →
      ∀ (i : Nat) (v : AV) (u : Value), vs[i]? = some v → us[i]? = some u → VRel (E.loc ks pre lent) v u := fun vs us hd hl i v u hv hu => hd i _ u (renL_get' _ vs i v hv) hu v rfl fun k hk => hl k (mem_idsL hv hk)
  have loc : ∀ {id : Nat}, id < ks.length → ks[id]? = some (rho ks new id) := fun h => rho_lt ks new _ h
  induction h with
  | any u => intro v hv _; cases v <;> simp [AV.ren] at hv; exact .any u
  | undef u h => intro v hv _; cases v <;> simp [AV.ren] at hv; exact .undef u h
  | anyb b => intro v hv _; cases v <;> simp [AV.ren] at hv; exact .anyb b
  | d x u h => intro v hv _; cases v <;> simp [AV.ren] at hv; subst hv; exact .d _ _ (h.mono (fun b h => .inl h) (fun _ _ => rfl))
  | zc a => intro v hv _; cases v <;> simp [AV.ren] at hv; exact .zc a
  | own id ver t u ht hv ho h hbx =>
    intro v hv hl
    cases v <;> simp [AV.ren] at hv
    rename_i id0 ver0
    obtain ⟨rfl, rfl⟩ := hv
    have hlt := hl id0 (by simp [ids])
    refine .own id0 _ t u (by simp only [Env.loc, loc hlt]; exact ht) ‹_› ho (fun e xs he => ?_) (fun e cs he => ?_)
    case refine_2 =>
      obtain ⟨k, _, hk, hH⟩ := I.preH he
      subst hk
      simp only [Env.loc, loc hlt]
      have := hbx e _ hH
      rw [renL_len] at this
      exact this
    obtain ⟨k, _, hk, hH⟩ := I.preH he
    subst hk
    obtain ⟨g1, g2⟩ := h e xs hH
    simp only [Env.loc, loc hlt]
    exact ⟨g1, g2⟩
  | ptr id ver row off t u ht hv ho h =>
    intro v hv hl
    cases v <;> simp [AV.ren] at hv
    rename_i id0 ver0 row0 off0
    obtain ⟨rfl, rfl, rfl, rfl⟩ := hv
    have hlt := hl id0 (by simp [ids])
    refine .ptr id0 _ _ _ t u (by simp only [Env.loc, loc hlt]; exact ht) ‹_› ho fun e body he => ?_
    obtain ⟨k, _, hk, hH⟩ := I.preH he
    subst hk
    simp only [Env.loc, loc hlt]
    exact h e _ hH
  | agg vs us hl hd h1 ih =>
    intro v hv hlow
    cases v <;> simp [AV.ren] at hv
    rename_i ws
    subst hv
    exact .agg ws us (by rw [← hl, renL_len]) (sub ws us ih (fun i h => hlow i (by simpa [ids] using h))) h1
  | fn f as bs us vs hl hl' hd hd' ih ih' =>
    intro v hv hlow
    cases v <;> simp [AV.ren] at hv
    rename_i f0 as0 bs0
    obtain ⟨rfl, rfl, rfl⟩ := hv
    exact .fn _ as0 bs0 us vs (by rw [← hl, renL_len]) (by rw [← hl', renL_len]) (sub as0 us ih (fun i h => hlow i (by simp [ids, h]))) (sub bs0 vs ih' (fun i h => hlow i (by simp [ids, h])))
  | iface t x u hd ih =>
    intro v hv hlow
    cases v <;> simp [AV.ren] at hv
    rename_i t0 x0
    obtain ⟨rfl, rfl⟩ := hv
    exact .iface _ x0 u (ih x0 rfl fun i h => hlow i (by simpa [ids] using h))
  | tup vs us hl hd ih =>
    intro v hv hlow
    cases v <;> simp [AV.ren] at hv
    rename_i ws
    subst hv
    exact .tup ws us (by rw [← hl, renL_len]) (sub ws us ih (fun i h => hlow i (by simpa [ids] using h)))
  | mapv id t u ht h1 h =>
    intro v hv hl
    cases v <;> simp [AV.ren] at hv
    rename_i id0
    subst hv
    have hlt := hl id0 (by simp [ids])
    refine .mapv id0 t u (by simp only [Env.loc, loc hlt]; exact ht) h1 fun e es ck he => ?_
    obtain ⟨k, _, hk, hH⟩ := I.preH he
    subst hk
    simp only [Env.loc, loc hlt]
    exact h e es ck hH
  | iter id t u ht h1 h =>
    intro v hv hl
    cases v <;> simp [AV.ren] at hv
    rename_i id0
    subst hv
    have hlt := hl id0 (by simp [ids])
    refine .iter id0 t u (by simp only [Env.loc, loc hlt]; exact ht) h1 fun e es ck he => ?_
    obtain ⟨k, _, hk, hH⟩ := I.preH he
    subst hk
    simp only [Env.loc, loc hlt]
    exact h e es ck hH
  | yld id t u ht h1 h =>
    intro v hv hl
    cases v <;> simp [AV.ren] at hv
    rename_i id0
    subst hv
    have hlt := hl id0 (by simp [ids])
    refine .yld id0 t u (by simp only [Env.loc, loc hlt]; exact ht) h1 fun e L he => ?_
    obtain ⟨k, _, hk, hH⟩ := I.preH he
    subst hk
    simp only [Env.loc, loc hlt]
    exact h e _ hH
theorem InstOK.start (I : InstOK C E ks new pre lent) : StartOK C pre (E.loc ks pre lent) := by
  have loc : ∀ {id : Nat}, id < ks.length → ks[id]? = some (rho ks new id) := fun h => rho_lt ks new _ h
  have hlen := preB_len I.hpre
  refine ⟨I.prog, I.G, I.hN, ⟨fun b hb => ⟨?_, fun id hid hm => ?_⟩, fun id b hb => ?_, fun i j g hi hj hmi hmj => ?_⟩, fun i => rfl, fun id t ht => ?_⟩
  · rcases hb with hb | ⟨k, _, hk, hm⟩
    · exact (I.hr.st b hb).1
    · exact I.hr.blk_lt hk hm
  · simp only [Env.loc] at hid hm
    have hlt : id < ks.length := by
      rcases Nat.lt_or_ge id ks.length with h | h
      · exact h
      · rw [List.getElem?_eq_none (by omega)] at hid; exact absurd rfl hid
    rw [loc hlt] at hm
    obtain ⟨bb, _, hH⟩ := I.live hlt
    rcases hb with hb | ⟨k, hk, hkH, hkm⟩
    · exact (I.hr.st b hb).2 _ (by rw [hH]; simp) hm
    · have := I.hr.inj _ _ b hkH (by rw [hH]; simp) hkm hm
      exact I.disj k hk (by rw [this]; exact List.mem_of_getElem? (loc hlt))
  · obtain ⟨k, h1, h2, h3⟩ := I.preH hb
    obtain ⟨g1, g2, g3⟩ := I.hr.blk _ _ h3
    simp only [Env.loc, h1]
    refine ⟨g1, fun hm => ?_, fun g hg => ?_⟩
    · have := g2 hm
      obtain ⟨ver, el, body⟩ := b
      cases body <;> simp [ABlk.ren, Body.ren] at this
      subst this; rfl
    · obtain ⟨k1, o, k2, k3⟩ := g3 g hg
      refine ⟨k1, o, k2, ?_⟩
      have hmem := List.mem_of_getElem? hb
      have hlow : ∀ i, i ∈ b.body.ids → i < ks.length := fun i hi => I.low i (preIds_mem hmem i hi)
      obtain ⟨ver, el, body⟩ := b
      cases body with
      | lst xs =>
        obtain ⟨Cc, fr0, e1, eF, e2, e3⟩ := k3
        exact ⟨Cc, fr0, e1, eF, e2, fun i d hi => let ⟨j1, u, j2, j3⟩ := e3 i d hi; ⟨j1, u, j2, j3.mono (fun b h => .inl h) (fun _ _ => rfl)⟩⟩
      | box cs =>
        obtain ⟨Cc, e1, e2⟩ := k3
        refine ⟨Cc, e1, fun i v hi => ?_⟩
        obtain ⟨u, j1, j2, j3⟩ := e2 i _ (renL_get' _ cs i v hi)
        exact ⟨u, j1, j2.loc I v rfl fun k hk => hlow k (mem_idsL hi hk), j3⟩
      | mp es ck =>
        obtain ⟨ents, e1, e2, e3⟩ := k3
        exact ⟨ents, e1, e2, fun i x y hx hy => let ⟨a, b, c⟩ := e3 i x y hx hy; ⟨a, b.mono (fun b h => .inl h) (fun _ _ => rfl), c.mono (fun b h => .inl h) (fun _ _ => rfl)⟩⟩
      | it s p => exact k3
      | loop L =>
        obtain ⟨fn, tmps, d, e1, e2, e3⟩ := k3
        exact ⟨fn, tmps, d, e1, e2, fun t v hv => (e3 t _ (renT_mem hv)).loc I v rfl fun k hk => hlow k (tmpIds_mem hv k hk)⟩
  · simp only [Env.loc] at hi hj hmi hmj
    have key : ∀ i, pre[i]? ≠ none → i < ks.length := fun i hi => by
      rcases Nat.lt_or_ge i ks.length with h | h
      · exact h
      · rw [List.getElem?_eq_none (by omega)] at hi; exact absurd rfl hi
    have h1 := key i hi
    have h2 := key j hj
    rw [loc h1] at hmi
    rw [loc h2] at hmj
    obtain ⟨_, _, e1⟩ := I.live h1
    obtain ⟨_, _, e2⟩ := I.live h2
    exact I.inj (by omega) (by omega) (I.hr.inj _ _ g (by rw [e1]; simp) (by rw [e2]; simp) hmi hmj)
  · simp only [Env.loc] at ht
    rw [hlen]
    rcases Nat.lt_or_ge id ks.length with h | h
    · exact h
    · rw [List.getElem?_eq_none h] at ht; cases ht
theorem sameShape_ren {ρ : Nat → Nat} {b b' : Body} (h : sameShape b b') : sameShape (b.ren ρ) (b'.ren ρ) := by
  cases b <;> cases b' <;> simp [sameShape] at h <;> simp [Body.ren, sameShape, renL_len, h]
structure BackOK (C : Ctx) (E E1 : Env) (ks : List Nat) (new : Nat) (pre : List ABlk) (lent ls : List Nat) (T : Nat → Prop) (post : List PB) : Prop where
  I : InstOK C E ks new pre lent
  fin : FinOK C pre post (E.loc ks pre lent) E1
  plen : post.length ≤ pre.length + 8
  hls : ls = [] ∨ ls = lent
  T0 : ∀ b, E.S b → T b
  T1 : ∀ b, T b → E1.S b
  T2 : (∀ b, T b → E.S b) ∨ lent = [] ∨ ls = lent
  tr : (∀ d u, DRel E1.w E1.S d u → DRel E1.w T d u) ∨ (ks = [] ∧ postFlat post)
variable {E1 : Env} {ls : List Nat} {T : Nat → Prop} {post : List PB}
theorem BackOK.tlt (B : BackOK C E E1 ks new pre lent ls T post) {id t : Nat} (h : E1.top id = some t) : id < ks.length + 8 := by
  have := B.fin.top id t h
  have := B.plen
  have := preB_len B.I.hpre
  omega
theorem locOw (I : InstOK C E ks new pre lent) {b : Nat} (h : (E.loc ks pre lent).Ow b) : ∃ j, j < ks.length ∧ E.H (rho ks new j) ≠ none ∧ E.m (rho ks new j) = some b := by
  obtain ⟨j, h1, h2⟩ := h
  simp only [Env.loc] at h1 h2
  have hlt : j < ks.length := by
    rcases Nat.lt_or_ge j ks.length with h | h
    · exact h
    · rw [List.getElem?_eq_none (by rw [preB_len I.hpre]; omega)] at h1; exact absurd rfl h1
  rw [rho_lt ks new j hlt] at h2
  obtain ⟨_, _, hH⟩ := I.live hlt
  exact ⟨j, hlt, by rw [hH]; simp, h2⟩
theorem BackOK.hid (B : BackOK C E E1 ks new pre lent ls T post) {id g : Nat} (hi : inv ks new id = none) (hH : E.H id ≠ none) (hm : E.m id = some g) : ¬ (E.loc ks pre lent).Ow g ∧ E1.w.heap[g]? = E.w.heap[g]? := by
  have h1 : ¬ (E.loc ks pre lent).Ow g := fun h => by
    obtain ⟨j, h1, h2, h3⟩ := locOw B.I h
    have := B.I.hr.inj _ _ g hH h2 hm h3
    exact inv_none hi j (by omega) this.symm
  exact ⟨h1, B.fin.go.only g (B.I.hr.blk_lt hH hm) h1⟩
theorem BackOK.step (B : BackOK C E E1 ks new pre lent ls T post) : E.Step (E.glob E1 ks new ls T) where
  P := rfl
  S := B.T0
  w b hb := B.fin.go.step.w b (.inl hb)
  top id t ht := by
    simp only [Env.glob]
    cases hi : inv ks new id with
    | none => exact ⟨t, ht, Nat.le_refl _⟩
    | some j =>
      have hlt := B.I.top hi ht
      obtain ⟨h1, _⟩ := inv_some hi
      exact B.fin.go.step.top j t (by simp only [Env.loc, rho_lt ks new j hlt, h1]; exact ht)
  blk id t b' ht hb hv := by
    simp only [Env.glob] at hb ⊢
    cases hi : inv ks new id with
    | none =>
      rw [hi] at hb
      simp only at hb ⊢
      split at hb
      · cases hb
      · refine ⟨trivial, b', hb, rfl, rfl, sameShape.refl _, fun g Cc el fr hm hC => ⟨Cc, el, fr, ?_, rfl⟩⟩
        rw [(B.hid hi (by rw [hb]; simp) hm).2]; exact hC
    | some j =>
      rw [hi] at hb
      simp only at hb ⊢
      have hlt := B.I.top hi ht
      obtain ⟨h1, _⟩ := inv_some hi
      cases hb1 : E1.H j with
      | none => rw [hb1] at hb; cases hb
      | some b1 =>
        rw [hb1] at hb
        injection hb with hb
        subst hb
        obtain ⟨m1, b, g1, g2, g3, g4, g5⟩ := B.fin.go.step.blk j t b1 (by simp only [Env.loc, rho_lt ks new j hlt, h1]; exact ht) hb1 hv
        have hloc : (E.loc ks pre lent).m j = E.m id := by simp only [Env.loc, rho_lt ks new j hlt, h1]
        rw [hloc] at m1
        obtain ⟨k, _, hk, hH⟩ := B.I.preH g1
        rw [← hk.trans h1] 
        refine ⟨by rw [m1, hk, h1], b.ren (rho ks new), hH, g2, g3, sameShape_ren g4, fun g Cc el fr hm hC => ?_⟩
        exact g5 g Cc el fr (by rw [hloc, ← h1, ← hk]; exact hm) hC
theorem VRel.glob (B : BackOK C E E1 ks new pre lent ls T post) {v : AV} {u : Value} (h : VRel E1 v u) (hf : (∀ d u, DRel E1.w E1.S d u → DRel E1.w T d u) ∨ v.flatB = true) : VRel (E.glob E1 ks new ls T) (v.ren (rho ks new)) u := by
  have hinv : ∀ {id t : Nat}, E1.top id = some t → inv ks new (rho ks new id) = some id := fun h => B.I.inv (B.tlt h)
  induction h with
  | any v => exact .any v
  | undef v h => exact .undef v h
  | anyb b => exact .anyb b
  | d x v h => exact .d x v (hf.elim (fun t => t _ _ h) (fun t => h.flat t))
  | zc a => exact .zc a
  | own id ver t v ht hv ho h hbx =>
    have hi := hinv ht
    refine .own _ ver t v (by simp only [Env.glob, hi]; exact ht) hv ho (fun e xs he => ?_) (fun e cs he => ?_)
    case refine_2 =>
      simp only [Env.glob, hi] at he ⊢
      cases hb : E1.H id with
      | none => rw [hb] at he; cases he
      | some b =>
        rw [hb] at he
        injection he with he
        obtain ⟨bv, be, bb⟩ := b
        simp only [ABlk.ren, ABlk.mk.injEq] at he
        obtain ⟨rfl, rfl, he⟩ := he
        cases bb <;> simp [Body.ren] at he
        subst he
        have := hbx _ _ hb
        rw [renL_len]
        rw [B.fin.go.step.P] at this
        exact this
    simp only [Env.glob, hi] at he ⊢
    cases hb : E1.H id with
    | none => rw [hb] at he; cases he
    | some b =>
      rw [hb] at he
      injection he with he
      obtain ⟨bv, be, bb⟩ := b
      simp only [ABlk.ren, ABlk.mk.injEq] at he
      obtain ⟨rfl, rfl, he⟩ := he
      cases bb <;> simp [Body.ren] at he
      subst he
      obtain ⟨g1, g2⟩ := h _ _ hb
      refine ⟨g1, fun b hb => ?_⟩
      obtain ⟨cap, Cc, el, fr, k1, k2, k3, k4, k5⟩ := g2 b hb
      refine ⟨cap, Cc, el, fr, k1, k2, k3, k4, ?_⟩
      rw [B.fin.go.step.P] at k5
      exact k5
  | ptr id ver row off t v ht hv ho h =>
    have hi := hinv ht
    refine .ptr _ ver row off t v (by simp only [Env.glob, hi]; exact ht) hv ho fun e body he => ?_
    simp only [Env.glob, hi] at he ⊢
    cases hb : E1.H id with
    | none => rw [hb] at he; cases he
    | some b =>
      rw [hb] at he
      injection he with he
      obtain ⟨bv, be, bb⟩ := b
      simp only [ABlk.ren, ABlk.mk.injEq] at he
      obtain ⟨rfl, rfl, he⟩ := he
      obtain ⟨g, h1, h2⟩ := h _ _ hb
      refine ⟨g, h1, ?_⟩
      rw [B.fin.go.step.P] at h2
      exact h2
  | agg vs us hl hd h1 ih =>
    refine .agg _ us (by rw [renL_len]; exact hl) (fun i v u hv hu => ?_) h1
    obtain ⟨w, hw, rfl⟩ := renL_get _ vs i v hv
    exact ih i w u hw hu (hf.imp id fun t => flatA_get vs (by simpa [AV.flatB] using t) i w hw)
  | fn f as bs us vs hl hl' hd hd' ih ih' =>
    rcases hf with hf | hf
    · refine .fn f _ _ us vs (by rw [renL_len]; exact hl) (by rw [renL_len]; exact hl') (fun i v u hv hu => ?_) (fun i v u hv hu => ?_)
      · obtain ⟨w, hw, rfl⟩ := renL_get _ as i v hv
        exact ih i w u hw hu (.inl hf)
      · obtain ⟨w, hw, rfl⟩ := renL_get _ bs i v hv
        exact ih' i w u hw hu (.inl hf)
    · simp [AV.flatB] at hf
  | iface t x u hd ih =>
    rcases hf with hf | hf
    · exact .iface t _ u (ih (.inl hf))
    · simp [AV.flatB] at hf
  | tup vs us hl hd ih =>
    refine .tup _ us (by rw [renL_len]; exact hl) (fun i v u hv hu => ?_)
    obtain ⟨w, hw, rfl⟩ := renL_get _ vs i v hv
    exact ih i w u hw hu (hf.imp id fun t => flatA_get vs (by simpa [AV.flatB] using t) i w hw)
  | mapv id t v ht h1 h =>
    have hi := hinv ht
    refine .mapv _ t v (by simp only [Env.glob, hi]; exact ht) h1 fun e es ck he => ?_
    simp only [Env.glob, hi] at he ⊢
    cases hb : E1.H id with
    | none => rw [hb] at he; cases he
    | some b =>
      rw [hb] at he
      injection he with he
      obtain ⟨bv, be, bb⟩ := b
      simp only [ABlk.ren, ABlk.mk.injEq] at he
      obtain ⟨rfl, rfl, he⟩ := he
      cases bb <;> simp [Body.ren] at he
      obtain ⟨rfl, rfl⟩ := he
      exact h _ _ _ hb
  | iter id t v ht h1 h =>
    have hi := hinv ht
    refine .iter _ t v (by simp only [Env.glob, hi]; exact ht) h1 fun e es ck he => ?_
    simp only [Env.glob, hi] at he ⊢
    cases hb : E1.H id with
    | none => rw [hb] at he; cases he
    | some b =>
      rw [hb] at he
      injection he with he
      obtain ⟨bv, be, bb⟩ := b
      simp only [ABlk.ren, ABlk.mk.injEq] at he
      obtain ⟨rfl, rfl, he⟩ := he
      cases bb <;> simp [Body.ren] at he
      obtain ⟨rfl, rfl⟩ := he
      exact h _ _ _ hb
  | yld id t v ht h1 h =>
    have hi := hinv ht
    refine .yld _ t v (by simp only [Env.glob, hi]; exact ht) h1 fun e L he => ?_
    simp only [Env.glob, hi] at he ⊢
    cases hb : E1.H id with
    | none => rw [hb] at he; cases he
    | some b =>
      rw [hb] at he
      injection he with he
      obtain ⟨bv, be, bb⟩ := b
      simp only [ABlk.ren, ABlk.mk.injEq] at he
      obtain ⟨rfl, rfl, he⟩ := he
      cases bb <;> simp [Body.ren] at he
      exact h _ _ hb
theorem cells_flat {x : D} (h : x.flatB = true) : ∀ d, d ∈ x.cells → d.flatB = true := by
  intro d hd
  cases x <;> simp only [D.cells, List.mem_singleton] at hd <;> try (subst hd; exact h)
  rename_i cs
  obtain ⟨i, hi⟩ := List.getElem?_of_mem hd
  exact flatD_get cs h i d hi
theorem postFlat_mem : ∀ {post : List PB}, postFlat post → ∀ p, p ∈ post → p.flatP := by
  intro post
  induction post with
  | nil => intro _ p h; simp at h
  | cons x r ih =>
    intro h p hp
    rcases List.mem_cons.1 hp with rfl | hp
    · exact h.1
    · exact ih h.2 p hp
theorem BackOK.or (B : BackOK C E E1 ks new pre lent ls T post) {j : Nat} {b : ABlk} {o : Obj} (hb : E1.H j = some b) (h : OR E1 b.elem b.body o) : OR (E.glob E1 ks new ls T) b.elem (b.body.ren (rho ks new)) o := by
  obtain ⟨bv, be, bb⟩ := b
  have hP : (E.glob E1 ks new ls T).P = E1.P := B.fin.go.step.P.symm
  have hfl : (∀ d u, DRel E1.w E1.S d u → DRel E1.w T d u) ∨ bb.flatP := B.tr.imp id fun ⟨hk, hp⟩ => by
    have hpre : pre = [] := List.eq_nil_of_length_eq_zero (by rw [preB_len B.I.hpre, hk]; rfl)
    rw [B.fin.H j] at hb
    unfold postH at hb
    split at hb
    · rename_i p hpj
      cases p with
      | same => rw [hpre] at hb; simp [PB.get] at hb
      | gone => cases hb
      | upd b' =>
        simp only [PB.get, Option.some.injEq] at hb
        subst hb
        exact postFlat_mem hp _ (List.mem_of_getElem? hpj)
    · cases hb
  cases bb with
  | lst xs =>
    obtain ⟨Cc, fr0, e1, eF, e2, e3⟩ := h
    refine ⟨Cc, fr0, e1, eF, by rw [hP]; exact e2, fun i d hi => ?_⟩
    obtain ⟨j1, u, j2, j3⟩ := e3 i d hi
    refine ⟨j1, u, j2, ?_⟩
    rcases hfl with t | t
    · exact t _ _ j3
    · refine j3.flat ?_
      have hm := List.mem_of_getElem? hi
      simp only [flat, List.mem_flatMap] at hm
      obtain ⟨x, hx, hdx⟩ := hm
      exact cells_flat (t x hx) d hdx
  | box cs =>
    rcases hfl with t | t
    · obtain ⟨Cc, e1, e2⟩ := h
      refine ⟨Cc, e1, fun i v hi => ?_⟩
      obtain ⟨v', hv', rfl⟩ := renL_get _ cs i v hi
      obtain ⟨u, j1, j2, j3⟩ := e2 i v' hv'
      exact ⟨u, j1, j2.glob B (.inl t), j3⟩
    · exact t.elim
  | mp es ck =>
    rcases hfl with t | t
    · obtain ⟨ents, e1, e2, e3⟩ := h
      exact ⟨ents, e1, e2, fun i x y hx hy => let ⟨a, b, c⟩ := e3 i x y hx hy; ⟨a, t _ _ b, t _ _ c⟩⟩
    · exact t.elim
  | it s p => exact h
  | loop L =>
    rcases hfl with t | t
    · obtain ⟨fn, tmps, d, e1, e2, e3⟩ := h
      refine ⟨fn, tmps, d, e1, e2, fun tt v hv => ?_⟩
      obtain ⟨v', hv', rfl⟩ := renT_mem' hv
      exact (e3 tt v' hv').glob B (.inl t)
    · exact t.elim
theorem BackOK.notS (B : BackOK C E E1 ks new pre lent ls T post) {id g : Nat} (hi : inv ks new id = none) (hl : id ∉ ls) (hH : E.H id ≠ none) (hm : E.m id = some g) : ¬ T g := fun hT => by
  have hlt := B.I.hr.blk_lt hH hm
  rcases B.T2 with h | h
  · exact (B.I.hr.st g (h g hT)).2 id hH hm
  · rcases B.fin.go.st g (B.T1 g hT) with h1 | h1 | h1
    · rcases h1 with h1 | ⟨k, hk, hkH, hkm⟩
      · exact (B.I.hr.st g h1).2 id hH hm
      · have := B.I.hr.inj _ _ g hH hkH hm hkm
        subst this
        rcases h with h | h
        · rw [h] at hk; cases hk
        · rw [h] at hl; exact hl hk
    · exact (B.hid hi hH hm).1 h1
    · have : E.w.heap.size ≤ g := h1
      omega
theorem BackOK.hrG (B : BackOK C E E1 ks new pre lent ls T post) : HR C.N (E.glob E1 ks new ls T) where
  st b hb := by
    have h1 := B.T1 b hb
    refine ⟨(B.fin.hr.st b h1).1, fun id hid hm => ?_⟩
    simp only [Env.glob] at hid hm
    cases hi : inv ks new id with
    | some j =>
      rw [hi] at hid hm
      refine (B.fin.hr.st b h1).2 j (fun hn => ?_) hm
      simp only [hn] at hid
      exact hid rfl
    | none =>
      rw [hi] at hid hm
      simp only at hid hm
      split at hid
      · exact hid rfl
      · rename_i hl; exact B.notS hi hl hid hm hb
  blk id b hb := by
    simp only [Env.glob] at hb ⊢
    cases hi : inv ks new id with
    | some j =>
      rw [hi] at hb
      simp only at hb ⊢
      cases hb1 : E1.H j with
      | none => rw [hb1] at hb; cases hb
      | some b1 =>
        rw [hb1] at hb
        injection hb with hb
        subst hb
        obtain ⟨k1, k2, k3⟩ := B.fin.hr.blk j b1 hb1
        refine ⟨k1, fun hm => ?_, fun g hg => ?_⟩
        · have := k2 hm
          simp only [ABlk.ren, this, Body.ren]
        · obtain ⟨g1, o, g2, g3⟩ := k3 g hg
          exact ⟨g1, o, g2, B.or hb1 g3⟩
    | none =>
      rw [hi] at hb
      simp only at hb ⊢
      split at hb
      · cases hb
      · obtain ⟨k1, k2, k3⟩ := B.I.hr.blk id b hb
        refine ⟨k1, k2, fun g hg => ?_⟩
        obtain ⟨g1, o, g2, g3⟩ := k3 g hg
        exact ⟨g1, o, by rw [(B.hid hi (by rw [hb]; simp) hg).2]; exact g2, g3.step B.step⟩
  inj i j g hi hj hmi hmj := by
    simp only [Env.glob] at hi hj hmi hmj
    have mapped : ∀ {id i' : Nat}, inv ks new id = some i' → (E1.H i').map (ABlk.ren (rho ks new)) ≠ none → E1.H i' ≠ none := fun _ h hn => by rw [hn] at h; exact h rfl
    have cross : ∀ {id i' id2 : Nat}, inv ks new id = some i' → E1.H i' ≠ none → E1.m i' = some g → inv ks new id2 = none → E.H id2 ≠ none → E.m id2 = some g → False := fun {id i' id2} h1 h2 h3 h4 h5 h6 => by
      rcases B.fin.go.own g ⟨i', h2, h3⟩ with h | h
      · exact (B.hid h4 h5 h6).1 h
      · have := B.I.hr.blk_lt h5 h6
        have h : E.w.heap.size ≤ g := h
        omega
    cases h1 : inv ks new i with
    | some i' =>
      rw [h1] at hi hmi
      cases h2 : inv ks new j with
      | some j' =>
        rw [h2] at hj hmj
        have := B.fin.hr.inj i' j' g (mapped h1 hi) (mapped h2 hj) hmi hmj
        subst this
        rw [← (inv_some h1).1, ← (inv_some h2).1]
      | none =>
        rw [h2] at hj hmj
        simp only at hj hmj
        split at hj
        · exact absurd rfl hj
        · exact (cross h1 (mapped h1 hi) hmi h2 hj hmj).elim
    | none =>
      rw [h1] at hi hmi
      simp only at hi hmi
      split at hi
      · exact absurd rfl hi
      · cases h2 : inv ks new j with
        | some j' =>
          rw [h2] at hj hmj
          exact (cross h2 (mapped h2 hj) hmj h1 hi hmi).elim
        | none =>
          rw [h2] at hj hmj
          simp only at hj hmj
          split at hj
          · exact absurd rfl hj
          · exact B.I.hr.inj i j g hi hj hmi hmj
theorem locOw_E (I : InstOK C E ks new pre lent) {b : Nat} (h : (E.loc ks pre lent).Ow b) : E.Ow b := by
  obtain ⟨j, _, h2, h3⟩ := locOw I h
  exact ⟨_, h2, h3⟩
theorem BackOK.goG (B : BackOK C E E1 ks new pre lent ls T post) : E.Go (E.glob E1 ks new ls T) where
  step := B.step
  os := B.fin.go.os
  tape := B.fin.go.tape
  output := B.fin.go.output
  size := B.fin.go.size
  only b hb hn := B.fin.go.only b hb fun h => hn (locOw_E B.I h)
  own b := fun ⟨id, h1, h2⟩ => by
    simp only [Env.glob] at h1 h2
    cases hi : inv ks new id with
    | some j =>
      rw [hi] at h1 h2
      rcases B.fin.go.own b ⟨j, fun hn => (by simp only [hn] at h1; exact h1 rfl), h2⟩ with h | h
      · exact .inl (locOw_E B.I h)
      · exact .inr h
    | none =>
      rw [hi] at h1 h2
      simp only at h1 h2
      split at h1
      · exact absurd rfl h1
      · exact .inl ⟨id, h1, h2⟩
  st b hb := by
    rcases B.fin.go.st b (B.T1 b hb) with h | h | h
    · rcases h with h | ⟨k, _, h2, h3⟩
      · exact .inl h
      · exact .inr (.inl ⟨k, h2, h3⟩)
    · exact .inr (.inl (locOw_E B.I h))
    · exact .inr (.inr h)
theorem inUps_append (a b : Heap) (i : Nat) : inUps (a ++ b) i = (inUps a i).orElse fun _ => inUps b i := by
  induction a with
  | nil => rfl
  | cons p r ih =>
    obtain ⟨k, x⟩ := p
    simp only [List.cons_append, inUps]
    split
    · rfl
    · exact ih
theorem upsP_miss {ρ : Nat → Nat} : ∀ (post : List PB) (s i : Nat), (∀ j, s ≤ j → j < s + post.length → ρ j ≠ i) → inUps (upsP ρ post s) i = none := by
  intro post
  induction post with
  | nil => intro s i _; rfl
  | cons p r ih =>
    intro s i h
    have hr := ih (s + 1) i (fun j h1 h2 => h j (by omega) (by simp; omega))
    have h0 := h s (Nat.le_refl _) (by simp)
    cases p with
    | same => exact hr
    | gone => simp only [upsP, inUps]; rw [if_neg h0]; exact hr
    | upd b => simp only [upsP, inUps]; rw [if_neg h0]; exact hr
theorem upsP_hit {ρ : Nat → Nat} : ∀ (post : List PB) (s j : Nat) (p : PB), post[j]? = some p → (∀ j', s ≤ j' → j' < s + post.length → ρ j' = ρ (s + j) → j' = s + j) →
    inUps (upsP ρ post s) (ρ (s + j)) = match p with | .same => none | .gone => some none | .upd b => some (some (b.ren ρ)) := by
  intro post
  induction post with
  | nil => intro s j p h; simp at h
  | cons q r ih =>
    intro s j p h hinj
    cases j with
    | zero =>
      simp at h; subst h
      cases q with
      | same =>
        simp only [upsP]
        exact upsP_miss r (s + 1) _ fun j h1 h2 he => by
          have := hinj j (by omega) (by simp; omega) he
          omega
      | gone => simp [upsP, inUps]
      | upd b => simp [upsP, inUps]
    | succ j =>
      have hne : ρ s ≠ ρ (s + (j + 1)) := fun he => by
        have := hinj s (Nat.le_refl _) (by simp) he
        omega
      have hr := ih (s + 1) j p (by simpa using h) (fun j' h1 h2 he => by
        have := hinj j' (by omega) (by simp; omega) (by rw [he]; congr 1; omega)
        omega)
      rw [show s + 1 + j = s + (j + 1) by omega] at hr
      cases q with
      | same => exact hr
      | gone => simp only [upsP, inUps]; rw [if_neg hne]; exact hr
      | upd b => simp only [upsP, inUps]; rw [if_neg hne]; exact hr
theorem BackOK.ups (B : BackOK C E E1 ks new pre lent ls T post) (hpl : pre.length ≤ post.length) : (E.glob E1 ks new ls T).H = upH E.H (upsP (rho ks new) post 0 ++ kills ls) := by
  have hlen := preB_len B.I.hpre
  have hpl2 := B.plen
  have hinj : ∀ j j', j < ks.length + 8 → j' < ks.length + 8 → rho ks new j' = rho ks new j → j' = j := fun j j' h1 h2 h => B.I.inj h2 h1 h
  have hnone : ∀ i j, inv ks new i = some j → ks.length ≤ j → E.H i = none := fun i j hi hj => by
    obtain ⟨h1, h2⟩ := inv_some hi
    rw [rho_ge ks new j hj] at h1
    cases hH : E.H i with
    | none => rfl
    | some b =>
      have := (B.I.hr.blk i b hH).1
      rw [B.I.fresh i (by omega) (by omega)] at this
      cases this
  funext i
  simp only [Env.glob, upH, inUps_append, inUps_kills]
  cases hi : inv ks new i with
  | none =>
    simp only
    rw [upsP_miss post 0 i (fun j _ h2 => inv_none hi j (by omega))]
    by_cases hl : i ∈ ls <;> simp [hl]
  | some j =>
    obtain ⟨h1, h2⟩ := inv_some hi
    simp only
    rw [B.fin.H j]
    unfold postH
    by_cases hj : j < post.length
    · have hp : post[j]? = some post[j] := List.getElem?_eq_getElem hj
      have hhit := upsP_hit (ρ := rho ks new) post 0 j post[j] hp (fun j' _ h3 he => by
        rw [Nat.zero_add] at he ⊢
        exact hinj j j' h2 (by omega) he)
      rw [Nat.zero_add, h1] at hhit
      rw [hp, hhit]
      cases hpj : post[j] with
      | gone => simp [PB.get]
      | upd b => simp [PB.get]
      | same =>
        simp only [PB.get, Option.orElse]
        have hself : (pre[j]?).map (ABlk.ren (rho ks new)) = E.H i := by
          by_cases hjk : j < ks.length
          · obtain ⟨b, hb, hH⟩ := B.I.live hjk
            rw [hb, ← h1, hH]; rfl
          · rw [List.getElem?_eq_none (by omega), hnone i j hi (by omega)]; rfl
        rw [hself]
        by_cases hl : i ∈ ls
        · have : E.H i = none := by
            by_cases hjk : j < ks.length
            · exfalso
              rcases B.hls with h | h
              · rw [h] at hl; cases hl
              · rw [h] at hl
                exact B.I.disj i hl (by rw [← h1]; exact List.mem_of_getElem? (rho_lt ks new j hjk))
            · exact hnone i j hi (by omega)
          simp [hl, this]
        · simp [hl]
    · rw [List.getElem?_eq_none (by omega)]
      rw [upsP_miss post 0 i (fun j' _ h3 he => by
        have := hinj j j' h2 (by omega) (he.trans h1.symm)
        omega)]
      have := hnone i j hi (by omega)
      by_cases hl : i ∈ ls <;> simp [hl, this]
end
end Go.Vc
