/- A part of the proof: general laws of a reading of the model by abstract data, or contracts of the functions that the law calls. -/
import Derived.Test.YtonajancjagefaaGreatVc10
set_option maxRecDepth 100000
namespace Go.Vc
open Go Go.RowKit
def Env.perm (π : Nat → Nat) (E : Env) : Env where
  P := E.P
  top id := E.top (π id)
  m id := E.m (π id)
  H id := (E.H (π id)).map (ABlk.ren π)
  w := E.w
  S := E.S
section
variable {π : Nat → Nat} {E : Env}
theorem perm_H (hπ : ∀ i, π (π i) = i) {id : Nat} {b' : ABlk} (h : (E.perm π).H (π id) = some b') : ∃ b, E.H id = some b ∧ b' = b.ren π := by
  simp only [Env.perm, hπ, Option.map_eq_some_iff] at h
  obtain ⟨b, h1, h2⟩ := h
  exact ⟨b, h1, h2.symm⟩
theorem perm_H' {id : Nat} {b' : ABlk} (h : (E.perm π).H id = some b') : ∃ b, E.H (π id) = some b ∧ b' = b.ren π := by
  simp only [Env.perm, Option.map_eq_some_iff] at h
  obtain ⟨b, h1, h2⟩ := h
  exact ⟨b, h1, h2.symm⟩
theorem renB_lst {b : Body} {xs : List D} (h : Body.lst xs = b.ren π) : b = .lst xs := by
  cases b <;> simp only [Body.ren] at h <;> cases h
  rfl
theorem renB_box {b : Body} {cs : List AV} (h : Body.box cs = b.ren π) : ∃ cs0, b = .box cs0 ∧ cs = AV.ren.renL π cs0 := by
  cases b <;> simp only [Body.ren] at h <;> cases h
  exact ⟨_, rfl, rfl⟩
theorem renB_mp {b : Body} {es : List MEnt} {ck : Nat} (h : Body.mp es ck = b.ren π) : b = .mp es ck := by
  cases b <;> simp only [Body.ren] at h <;> cases h
  rfl
theorem renB_it {b : Body} {s : List UInt8} {p : Nat} (h : Body.it s p = b.ren π) : b = .it s p := by
  cases b <;> simp only [Body.ren] at h <;> cases h
  rfl
theorem renB_loop {b : Body} {L : LoopA} (h : Body.loop L = b.ren π) : ∃ L0, b = .loop L0 := by
  cases b <;> simp only [Body.ren] at h <;> cases h
  exact ⟨_, rfl⟩
theorem VRel.perm (hπ : ∀ i, π (π i) = i) {v : AV} {u : Value} (h : VRel E v u) : VRel (E.perm π) (v.ren π) u := by
  induction h with
  | any v => exact .any v
  | undef v h => exact .undef v h
  | anyb b => exact .anyb b
  | d x v h => exact .d x v h
  | zc a => exact .zc a
  | own id ver t v htop hv ho h hb =>
    simp only [AV.ren]
    refine .own (π id) ver t v (by simp only [Env.perm, hπ]; exact htop) hv ho (fun e xs he => ?_) (fun e cs he => ?_)
    · obtain ⟨⟨bv, be, bb⟩, h1, h2⟩ := perm_H hπ he
      simp only [ABlk.ren, ABlk.mk.injEq] at h2
      obtain ⟨rfl, rfl, h2⟩ := h2
      have := renB_lst h2
      subst this
      simp only [Env.perm, hπ]
      exact h _ _ h1
    · obtain ⟨⟨bv, be, bb⟩, h1, h2⟩ := perm_H hπ he
      simp only [ABlk.ren, ABlk.mk.injEq] at h2
      obtain ⟨rfl, rfl, h2⟩ := h2
      obtain ⟨cs0, rfl, rfl⟩ := renB_box h2
      simp only [Env.perm, hπ, renL_len]
      exact hb _ _ h1
  | ptr id ver row off t v htop hv ho h =>
    simp only [AV.ren]
    refine .ptr (π id) ver row off t v (by simp only [Env.perm, hπ]; exact htop) hv ho fun e body he => ?_
    obtain ⟨⟨bv, be, bb⟩, h1, h2⟩ := perm_H hπ he
    simp only [ABlk.ren, ABlk.mk.injEq] at h2
    obtain ⟨rfl, rfl, h2⟩ := h2
    simp only [Env.perm, hπ]
    exact h _ _ h1
  | agg vs us hl hd h1 ih =>
    simp only [AV.ren]
    refine .agg _ us (by rw [renL_len]; exact hl) (fun i v u hv hu => ?_) h1
    obtain ⟨x, hx, rfl⟩ := renL_get π vs i v hv
    exact ih i x u hx hu
  | fn f as bs us vs hl hl' hd hd' ih ih' =>
    simp only [AV.ren]
    refine .fn f _ _ us vs (by rw [renL_len]; exact hl) (by rw [renL_len]; exact hl') (fun i v u hv hu => ?_) (fun i v u hv hu => ?_)
    · obtain ⟨x, hx, rfl⟩ := renL_get π as i v hv
      exact ih i x u hx hu
    · obtain ⟨x, hx, rfl⟩ := renL_get π bs i v hv
      exact ih' i x u hx hu
  | iface t x u hd ih => exact .iface t _ u ih
  | tup vs us hl hd ih =>
    simp only [AV.ren]
    refine .tup _ us (by rw [renL_len]; exact hl) (fun i v u hv hu => ?_)
    obtain ⟨x, hx, rfl⟩ := renL_get π vs i v hv
    exact ih i x u hx hu
  | mapv id t v htop ho h =>
    simp only [AV.ren]
    refine .mapv (π id) t v (by simp only [Env.perm, hπ]; exact htop) ho fun e es ck he => ?_
    obtain ⟨⟨bv, be, bb⟩, h1, h2⟩ := perm_H hπ he
    simp only [ABlk.ren, ABlk.mk.injEq] at h2
    obtain ⟨rfl, rfl, h2⟩ := h2
    have := renB_mp h2
    subst this
    simp only [Env.perm, hπ]
    exact h _ _ _ h1
  | iter id t v htop ho h =>
    simp only [AV.ren]
    refine .iter (π id) t v (by simp only [Env.perm, hπ]; exact htop) ho fun e s p he => ?_
    obtain ⟨⟨bv, be, bb⟩, h1, h2⟩ := perm_H hπ he
    simp only [ABlk.ren, ABlk.mk.injEq] at h2
    obtain ⟨rfl, rfl, h2⟩ := h2
    have := renB_it h2
    subst this
    simp only [Env.perm, hπ]
    exact h _ _ _ h1
  | yld id t v htop ho h =>
    simp only [AV.ren]
    refine .yld (π id) t v (by simp only [Env.perm, hπ]; exact htop) ho fun e L he => ?_
    obtain ⟨⟨bv, be, bb⟩, h1, h2⟩ := perm_H hπ he
    simp only [ABlk.ren, ABlk.mk.injEq] at h2
    obtain ⟨rfl, rfl, h2⟩ := h2
    obtain ⟨L0, rfl⟩ := renB_loop h2
    simp only [Env.perm, hπ]
    exact h _ _ h1
theorem OR.perm (hπ : ∀ i, π (π i) = i) {e : TypeId} {b : Body} {o : Obj} (h : OR E e b o) : OR (E.perm π) e (b.ren π) o := by
  cases b with
  | lst xs => exact h
  | box cs =>
    obtain ⟨Cc, h1, h2⟩ := h
    refine ⟨Cc, h1, fun i v hi => ?_⟩
    obtain ⟨x, hx, rfl⟩ := renL_get π cs i v hi
    obtain ⟨u, q1, q2, q3⟩ := h2 i x hx
    exact ⟨u, q1, q2.perm hπ, q3⟩
  | mp es ck => exact h
  | it s p => exact h
  | loop L =>
    obtain ⟨fn, tmps, d, h1, h2, h3⟩ := h
    refine ⟨fn, tmps, d, h1, h2, fun t v hv => ?_⟩
    have key : ∀ (l : List (Nat × AV)), (t, v) ∈ renT π l → ∃ v', (t, v') ∈ l ∧ v = v'.ren π := by
      intro l
      induction l with
      | nil => intro h; cases h
      | cons p r ih =>
        intro h
        obtain ⟨t', v'⟩ := p
        simp only [renT] at h
        rcases List.mem_cons.1 h with h | h
        · injection h with e1 e2
          subst e1; subst e2
          exact ⟨v', List.mem_cons_self, rfl⟩
        · obtain ⟨x, hx, e⟩ := ih h
          exact ⟨x, List.mem_cons_of_mem _ hx, e⟩
    obtain ⟨v', hv', rfl⟩ := key _ hv
    exact (h3 t v' hv').perm hπ
theorem sameShape_perm {b b' : Body} (h : sameShape b b') : sameShape b (b'.ren π) := by
  cases b <;> cases b' <;> simp_all [sameShape, Body.ren, renL_len]
theorem perm_sound {C : Ctx} {n : Nat} {D0 : List Deferred} {E0 : Env} {U : Nat → Prop} {F : Nat → AV} {a : Act} (hR : Rel C n D0 E0 U F E a) (hlow : ∀ id t, E0.top id = some t → id < 24) (hπ : ∀ i, π (π i) = i) (hfix : ∀ i, i < 24 → π i = i) :
    Rel C n D0 E0 (fun id => U (π id)) (fun t => (F t).ren π) (E.perm π) a := by
  have hOk : ∀ b, (E.perm π).Ow b → E.Ow b := fun b ⟨id, h1, h2⟩ => by
    refine ⟨π id, fun h => h1 (by simp only [Env.perm, h, Option.map_none]), h2⟩
  have hne : ∀ id, (E.perm π).H id ≠ none → E.H (π id) ≠ none := fun id h h' => h (by simp only [Env.perm, h', Option.map_none])
  refine ⟨hR.prog, hR.base, ⟨fun b hb => ⟨(hR.hr.st b hb).1, fun id hid hm => (hR.hr.st b hb).2 (π id) (hne id hid) hm⟩, fun id b hb => ?_, fun i j g hi hj hmi hmj => ?_⟩, ?_, ?_, hR.tmps, fun t => (hR.fr t).perm hπ, fun id t ht => hR.used (π id) t ht⟩
  · obtain ⟨b0, h1, rfl⟩ := perm_H' hb
    obtain ⟨k1, k2, k3⟩ := hR.hr.blk (π id) b0 h1
    refine ⟨k1, fun hm => ?_, fun g hg => ?_⟩
    · have := k2 hm
      simp only [ABlk.ren, this, Body.ren]
    · obtain ⟨j1, o, j2, j3⟩ := k3 g hg
      exact ⟨j1, o, j2, j3.perm hπ⟩
  · have := hR.hr.inj (π i) (π j) g (hne i hi) (hne j hj) hmi hmj
    rw [← hπ i, this, hπ]
  · have g := hR.go
    refine ⟨⟨g.step.P, g.step.S, g.step.w, fun id t ht => ?_, fun id t b' ht hb hv => ?_⟩, g.os, g.tape, g.output, g.size, g.only, fun b hb => g.own b (hOk b hb), g.st⟩
    · simp only [Env.perm, hfix id (hlow id t ht)]
      exact g.step.top id t ht
    · have hf := hfix id (hlow id t ht)
      obtain ⟨b0, h1, rfl⟩ := perm_H' hb
      rw [hf] at h1
      obtain ⟨m1, b, f1, f2, f3, f4, f5⟩ := g.step.blk id t b0 ht h1 hv
      exact ⟨by simp only [Env.perm, hf]; exact m1, b, f1, f2, f3, sameShape_perm f4, f5⟩
  · obtain ⟨rs, d1, d2, d3⟩ := hR.defers
    exact ⟨rs, d1, d2, fun r hr => let ⟨k1, k2, k3, k4, k5⟩ := d3 r hr; ⟨k1, k2, k3, fun h => k4 (hOk r h), k5⟩⟩
theorem perm_look (hπ : ∀ i, π (π i) = i) {h : Heap} (hH : E.H = lookH h) : (E.perm π).H = lookH (renH π h) := by
  have key : ∀ (h : Heap) (id : Nat), lookH (renH π h) id = (lookH h (π id)).map (ABlk.ren π) := by
    intro h id
    induction h with
    | nil => rfl
    | cons p r ih =>
      obtain ⟨k, b⟩ := p
      simp only [renH, lookH_cons_at, ih]
      by_cases hk : id = π k
      · subst hk
        rw [if_pos rfl, hπ, if_pos rfl]
      · rw [if_neg hk, if_neg (fun e => hk (by rw [← e, hπ]))]
  funext id
  simp only [Env.perm, hH, key]
end
end Go.Vc
