/- A part of the proof: general laws of a reading of the model by abstract data, or contracts of the functions that the law calls. -/
import Derived.RangeFuncIn
import Derived.Test.YtonajancjagefaaGreatVc9
set_option maxRecDepth 100000
namespace Go.Vc
open Go Go.RowKit
theorem VRel.forget {E E' : Env} {N : Nat} (hP : E'.P = E.P) (hw : E'.w = E.w) (hS : ∀ b, E.S b → E'.S b) (ht : ∀ id, id < N → E'.top id = E.top id) (hH : ∀ id b, E'.H id = some b → E.H id = some b) (hm : E'.m = E.m)
    {v : AV} {u : Value} (h : VRel E v u) (hid : ∀ k, k ∈ ids v → k < N) : VRel E' v u := by
  induction h with
  | any v => exact .any v
  | undef v h => exact .undef v h
  | anyb b => exact .anyb b
  | d x v h => exact .d x v (by rw [hw]; exact h.mono hS (fun _ _ => rfl))
  | zc a => exact .zc a
  | own id ver t v htop hv ho h hb =>
    refine .own id ver t v (by rw [ht id (hid id (by simp [ids]))]; exact htop) hv ho (fun e xs he => ?_) (fun e cs he => by rw [hm, hw, hP]; exact hb e cs (hH _ _ he))
    obtain ⟨g1, g2⟩ := h e xs (hH _ _ he)
    rw [hm, hw, hP]
    exact ⟨g1, g2⟩
  | ptr id ver row off t v htop hv ho h =>
    refine .ptr id ver row off t v (by rw [ht id (hid id (by simp [ids]))]; exact htop) hv ho fun e body he => ?_
    rw [hm, hP]
    exact h e body (hH _ _ he)
  | agg vs us hl hd h1 ih => exact .agg vs us hl (fun i v u hv hu => ih i v u hv hu fun k hk => hid k (by simp only [ids]; exact mem_idsL hv hk)) h1
  | fn f as bs us vs hl hl' hd hd' ih ih' =>
    exact .fn f as bs us vs hl hl' (fun i v u hv hu => ih i v u hv hu fun k hk => hid k (by simp only [ids, List.mem_append]; exact .inl (mem_idsL hv hk))) (fun i v u hv hu => ih' i v u hv hu fun k hk => hid k (by simp only [ids, List.mem_append]; exact .inr (mem_idsL hv hk)))
  | iface t x u hd ih => exact .iface t x u (ih fun k hk => hid k (by simpa [ids] using hk))
  | tup vs us hl hd ih => exact .tup vs us hl (fun i v u hv hu => ih i v u hv hu fun k hk => hid k (by simp only [ids]; exact mem_idsL hv hk))
  | mapv id t v htop ho h => exact .mapv id t v (by rw [ht id (hid id (by simp [ids]))]; exact htop) ho fun e es ck he => by rw [hm]; exact h e es ck (hH _ _ he)
  | iter id t v htop ho h => exact .iter id t v (by rw [ht id (hid id (by simp [ids]))]; exact htop) ho fun e es ck he => by rw [hm]; exact h e es ck (hH _ _ he)
  | yld id t v htop ho h => exact .yld id t v (by rw [ht id (hid id (by simp [ids]))]; exact htop) ho fun e L he => by rw [hm]; exact h e L (hH _ _ he)
theorem mem_tmpIds {k t : Nat} {v : AV} : ∀ {ts : List (Nat × AV)}, (t, v) ∈ ts → k ∈ ids v → k ∈ tmpIds ts := by
  intro ts
  induction ts with
  | nil => intro h; cases h
  | cons p r ih =>
    intro h hk
    obtain ⟨t', v'⟩ := p
    simp only [tmpIds, List.mem_append]
    rcases List.mem_cons.1 h with h | h
    · injection h with h1 h2; subst h2; exact .inl hk
    · exact .inr (ih h hk)
theorem OR.forget {E E' : Env} {N : Nat} (hP : E'.P = E.P) (hw : E'.w = E.w) (hS : ∀ b, E.S b → E'.S b) (ht : ∀ id, id < N → E'.top id = E.top id) (hH : ∀ id b, E'.H id = some b → E.H id = some b) (hm : E'.m = E.m)
    {e : TypeId} {b : Body} {o : Obj} (h : OR E e b o) (hid : ∀ k, k ∈ b.ids → k < N) : OR E' e b o := by
  cases b with
  | lst xs => obtain ⟨Cc, fr0, h1, hF, h2⟩ := h; exact ⟨Cc, fr0, h1, hF, by rw [hP]; exact ⟨h2.1, fun i d hi => let ⟨q1, u, q2, q3⟩ := h2.2 i d hi; ⟨q1, u, q2, by rw [hw]; exact q3.mono hS (fun _ _ => rfl)⟩⟩⟩
  | box cs => obtain ⟨Cc, h1, h2⟩ := h; exact ⟨Cc, h1, fun i v hi => let ⟨u, q1, q2, q3⟩ := h2 i v hi; ⟨u, q1, .forget hP hw hS ht hH hm q2 fun k hk => hid k (by simp only [Body.ids]; exact mem_idsL hi hk), q3⟩⟩
  | mp es ck => obtain ⟨ents, h1, h2, h3⟩ := h; exact ⟨ents, h1, h2, fun i x y hx hy => let ⟨a, b, c⟩ := h3 i x y hx hy; ⟨a, by rw [hw]; exact b.mono hS (fun _ _ => rfl), by rw [hw]; exact c.mono hS (fun _ _ => rfl)⟩⟩
  | it s p => exact h
  | loop L =>
    obtain ⟨fn, tmps, d, h1, h2, h3⟩ := h
    exact ⟨fn, tmps, d, h1, h2, fun t v hv => .forget hP hw hS ht hH hm (h3 t v hv) fun k hk => hid k (by simp only [Body.ids]; exact mem_tmpIds hv hk)⟩
def Env.keep (E : Env) (N : Nat) (h' : Heap) (ks : List Nat) : Env where
  P := E.P
  top id := if id < N then E.top id else none
  m := E.m
  H := lookH h'
  w := E.w
  S b := E.S b ∨ blkOf E ks b
theorem lookH_mem {h : Heap} {id : Nat} {b : ABlk} (hh : lookH h id = some b) : (id, some b) ∈ h := by
  induction h with
  | nil => cases hh
  | cons p r ih =>
    obtain ⟨k, v⟩ := p
    simp only [lookH] at hh
    split at hh
    · rename_i hk
      have := Nat.eq_of_beq_eq_true hk
      subst this; subst hh; simp
    · exact List.mem_cons_of_mem _ (ih hh)
theorem weakH_get {h h' : Heap} (hw : weakH h h') {id : Nat} {b : ABlk} (hh : lookH h' id = some b) : lookH h id = some b := by
  have hm := lookH_mem hh
  clear hh
  induction h' with
  | nil => cases hm
  | cons p r ih =>
    obtain ⟨k, v⟩ := p
    simp only [weakH] at hw
    rcases List.mem_cons.1 hm with hm | hm
    · injection hm with h1 h2
      subst h1; subst h2
      exact hw.1
    · exact ih hw.2 hm
theorem gone_get {h : Heap} : ∀ {ks : List Nat}, gone h ks → ∀ k, k ∈ ks → lookH h k = none := by
  intro ks
  induction ks with
  | nil => intro _ k hk; cases hk
  | cons x r ih =>
    intro hg k hk
    rcases List.mem_cons.1 hk with rfl | hk
    · exact hg.1
    · exact ih hg.2 k hk
theorem heapIds_mem {h : Heap} {id : Nat} {b : ABlk} (hm : (id, some b) ∈ h) : id ∈ heapIds h ∧ ∀ k, k ∈ b.body.ids → k ∈ heapIds h := by
  induction h with
  | nil => cases hm
  | cons p r ih =>
    rcases List.mem_cons.1 hm with hm | hm
    · subst hm
      exact ⟨by simp [heapIds], fun k hk => by simp [heapIds, hk]⟩
    · obtain ⟨h1, h2⟩ := ih hm
      obtain ⟨k, v⟩ := p
      have sub : ∀ x, x ∈ heapIds r → x ∈ heapIds ((k, v) :: r) := fun x hx => by
        cases v <;> simp [heapIds, hx]
      exact ⟨sub _ h1, fun k hk => sub _ (h2 k hk)⟩
section
variable {C : Ctx} {n : Nat} {D0 : List Deferred} {E0 : Env}
def VsRel (E : Env) (a : Act) (slots : List Nat) (vs : List AV) : Prop := ∀ (i : Nat) (v : AV) (t : Nat), vs[i]? = some v → slots[i]? = some t → VRel E v (a.tmps.getD t undef)
theorem vals_get (fr : Fr) : ∀ (slots : List Nat) (i : Nat) (v : AV) (t : Nat), (vals fr slots)[i]? = some v → slots[i]? = some t → v = lk fr t := by
  intro slots
  induction slots with
  | nil => intro i v t h; simp [vals] at h
  | cons s r ih =>
    intro i v t h1 h2
    cases i with
    | zero => simp [vals] at h1 h2; rw [← h1, h2]
    | succ i => exact ih i v t (by simpa [vals] using h1) (by simpa using h2)
theorem zipF_get (vs : List AV) : ∀ (slots : List Nat) (i0 t : Nat), lk (zipF vs slots i0) t = .any ∨ ∃ i, slots[i]? = some t ∧ lk (zipF vs slots i0) t = nth vs (i0 + i) := by
  intro slots
  induction slots with
  | nil => intro i0 t; exact .inl rfl
  | cons s r ih =>
    intro i0 t
    simp only [zipF, lk]
    split
    · rename_i hb
      have := Nat.eq_of_beq_eq_true hb
      subst this
      exact .inr ⟨0, rfl, rfl⟩
    · rcases ih (i0 + 1) t with h | ⟨i, h1, h2⟩
      · exact .inl h
      · exact .inr ⟨i + 1, by simpa using h1, by rw [h2]; congr 1; omega⟩
theorem zipF_dec (vs : List AV) : ∀ (slots : List Nat) (i0 t : Nat), lkd (zipF vs slots i0) t = none := by
  intro slots
  induction slots with
  | nil => intro i0 t; rfl
  | cons s r ih =>
    intro i0 t
    simp only [zipF, lkd]
    split
    · rfl
    · exact ih (i0 + 1) t
theorem DecOK.ofNone {fr : Fr} (h : ∀ t, lkd fr t = none) : DecOK fr := fun t => by rw [h t]; exact ⟨fun b h => (by cases h), fun h => (by cases h)⟩
theorem weakV_get {B : BF} : ∀ {vs vs' : List AV}, weakV B vs vs' → ∀ (i : Nat) (v' : AV), vs'[i]? = some v' → ∃ v, vs[i]? = some v ∧ okv B v v' := by
  intro vs
  induction vs with
  | nil => intro vs' h i v' hv; cases vs' with
    | nil => simp at hv
    | cons x r => exact h.elim
  | cons v r ih =>
    intro vs' h i v' hv
    cases vs' with
    | nil => exact h.elim
    | cons x r' =>
      cases i with
      | zero => simp at hv; subst hv; exact ⟨v, rfl, h.1⟩
      | succ i =>
        obtain ⟨y, hy, hz⟩ := ih h.2 i v' (by simpa using hv)
        exact ⟨y, by simpa using hy, hz⟩
theorem frz_mem : ∀ {vs vs' : List AV} {i : Nat} {v : AV} {x : D}, vs[i]? = some v → vs'[i]? = some (.d x) → ∀ k, k ∈ ids v → k ∈ frz vs vs' := by
  intro vs
  induction vs with
  | nil => intro vs' i v x h; simp at h
  | cons y r ih =>
    intro vs' i v x h h' k hk
    cases vs' with
    | nil => simp at h'
    | cons z r' =>
      cases i with
      | zero => simp at h h'; subst h; subst h'; simp [frz, hk]
      | succ i =>
        have := ih (vs' := r') (i := i) (x := x) (by simpa using h) (by simpa using h') k hk
        cases z <;> simp [frz, this]
theorem lowB_get {N : Nat} {vs : List AV} {h : Heap} (hl : lowB N vs h = true) : (∀ k, k ∈ ids.idsL vs → k < N) ∧ ∀ k, k ∈ heapIds h → k < N := by
  simp only [lowB, Bool.and_eq_true] at hl
  exact ⟨fun k hk => by simpa [Nat.blt_eq] using List.all_eq_true.1 hl.1 k hk, fun k hk => by simpa [Nat.blt_eq] using List.all_eq_true.1 hl.2 k hk⟩
theorem weak_sound {U : Nat → Prop} {F : Nat → AV} {E : Env} {a : Act} (hR : Rel C n D0 E0 U F E a) {h : Heap} (hH : E.H = lookH h) {slots : List Nat} {vs : List AV} (hvs : VsRel E a slots vs) {vs' : List AV} {h' : Heap} (hw : WEAK vs h vs' h') (hlow : ∀ id t, E0.top id = some t → id < 24) {N : Nat} (hN : 24 ≤ N) (hl : lowB N vs' h' = true) :
    ∃ E', E'.w = E.w ∧ Rel C n D0 E0 (fun id => id < N) (lk (zipF vs' slots 0)) E' a ∧ E'.H = lookH h' := by
  obtain ⟨h1, h2, h3⟩ := hw
  obtain ⟨l1, l2⟩ := lowB_get hl
  have hHget : ∀ id b, lookH h' id = some b → E.H id = some b := fun id b hb => by rw [hH]; exact weakH_get h2 hb
  have hBE : bodyOf h = BE E := by funext id ver; simp only [bodyOf, BE, hH]
  rw [hBE] at h1
  have fg : ∀ {v u}, VRel E v u → (∀ k, k ∈ ids v → k < N) → VRel (E.keep N h' (frz vs vs')) v u := fun hv hid =>
    VRel.forget (E := E) (E' := E.keep N h' (frz vs vs')) rfl rfl (fun b hb => Or.inl hb) (fun id hlt => by simp [Env.keep, hlt]) hHget rfl hv hid
  have hSk : ∀ b, (E.keep N h' (frz vs vs')).S b → E.S b ∨ E.Ow b := fun b hb => by
    rcases hb with hb | ⟨k, _, hk, hm⟩
    · exact .inl hb
    · exact .inr ⟨k, hk, hm⟩
  have hOk : ∀ b, (E.keep N h' (frz vs vs')).Ow b → E.Ow b := fun b ⟨id, h1, h2⟩ => by
    refine ⟨id, ?_, h2⟩
    cases hb' : lookH h' id with
    | none => exact absurd hb' h1
    | some bb => rw [hHget id bb hb']; simp
  have hgo : E0.Go (E.keep N h' (frz vs vs')) := by
    have g := hR.go
    refine ⟨⟨g.step.P, fun b hb => .inl (g.step.S b hb), g.step.w, fun id t ht => ?_, fun id t b' ht hb hv => g.step.blk id t b' ht (hHget id b' hb) hv⟩, g.os, g.tape, g.output, g.size, g.only, fun b hb => g.own b (hOk b hb), fun b hb => ?_⟩
    · have := hlow id t ht
      simp only [Env.keep]
      rw [if_pos (by omega)]
      exact g.step.top id t ht
    · rcases hSk b hb with h | h
      · exact g.st b h
      · exact .inr (g.own b h)
  refine ⟨E.keep N h' (frz vs vs'), rfl, ⟨hR.prog, hR.base, ⟨fun b hb => ?_, fun id b hb => ?_, fun i j g hi hj hmi hmj => ?_⟩, hgo, ?_, hR.tmps, fun t => ?_, fun id t ht => ?_⟩, rfl⟩
  · have hlt : b < E.w.heap.size := by
      rcases hb with hb | ⟨k, _, hk, hm⟩
      · exact (hR.hr.st b hb).1
      · exact hR.hr.blk_lt hk hm
    refine ⟨hlt, fun id hid hm => ?_⟩
    cases hb' : lookH h' id with
    | none => exact hid hb'
    | some bb =>
      have hE : E.H id ≠ none := by rw [hHget id bb hb']; simp
      rcases hb with hb | ⟨k, hk, hkH, hkm⟩
      · exact (hR.hr.st b hb).2 id hE hm
      · have := hR.hr.inj id k b hE hkH hm hkm
        subst this
        rw [gone_get h3 id hk] at hb'
        cases hb'
  · have hE := hHget id b hb
    obtain ⟨k1, k2, k3⟩ := hR.hr.blk id b hE
    obtain ⟨m1, m2⟩ := heapIds_mem (lookH_mem hb)
    refine ⟨by simp only [Env.keep]; rw [if_pos (l2 id m1)]; exact k1, k2, fun g hg => ?_⟩
    obtain ⟨j1, o, j2, j3⟩ := k3 g hg
    exact ⟨j1, o, j2, OR.forget (E := E) (E' := E.keep N h' (frz vs vs')) rfl rfl (fun b hb => Or.inl hb) (fun id hlt => by simp [Env.keep, hlt]) hHget rfl j3 fun k hk => l2 k (m2 k hk)⟩
  · have key : ∀ i, lookH h' i ≠ none → E.H i ≠ none := fun i hi => by
      obtain ⟨b, hb⟩ := Option.ne_none_iff_exists'.1 hi
      rw [hHget i b hb]; simp
    exact hR.hr.inj i j g (key i hi) (key j hj) hmi hmj
  · obtain ⟨rs, d1, d2, d3⟩ := hR.defers
    exact ⟨rs, d1, d2, fun r hr => let ⟨k1, k2, k3, k4, k5⟩ := d3 r hr; ⟨k1, k2, fun h => (hSk r h).elim k3 k4, fun h => k4 (hOk r h), k5⟩⟩
  · rcases zipF_get vs' slots 0 t with h | ⟨i, hi, he⟩
    · rw [h]; exact .any _
    · rw [he, Nat.zero_add]
      unfold nth
      rw [List.getD_eq_getElem?_getD]
      cases hv' : vs'[i]? with
      | none => exact .any _
      | some v' =>
        simp only [Option.getD_some]
        obtain ⟨v, hv, hok⟩ := weakV_get h1 i v' hv'
        have hvu := hvs i v t hv hi
        have hids : ∀ k, k ∈ ids v' → k < N := fun k hk => l1 k (mem_idsL hv' hk)
        cases v' with
        | any => exact .any _
        | d x => exact .d _ _ (argD_rel hR.hr (S' := (E.keep N h' (frz vs vs')).S) (fun b h => .inl h) hok hvu (fun b ⟨k, hk, h'⟩ => .inr ⟨k, frz_mem hv hv' k hk, h'⟩))
        | undef => have hok : v = _ := hok; subst hok; exact fg hvu hids
        | anyb => have hok : v = _ := hok; subst hok; exact fg hvu hids
        | zc => have hok : v = _ := hok; subst hok; exact fg hvu hids
        | own _ _ => have hok : v = _ := hok; subst hok; exact fg hvu hids
        | ptr _ _ _ _ => have hok : v = _ := hok; subst hok; exact fg hvu hids
        | agg _ => have hok : v = _ := hok; subst hok; exact fg hvu hids
        | fn _ _ _ => have hok : v = _ := hok; subst hok; exact fg hvu hids
        | iface _ _ => have hok : v = _ := hok; subst hok; exact fg hvu hids
        | tup _ => have hok : v = _ := hok; subst hok; exact fg hvu hids
        | mapv _ => have hok : v = _ := hok; subst hok; exact fg hvu hids
        | iter _ => have hok : v = _ := hok; subst hok; exact fg hvu hids
        | yld _ => have hok : v = _ := hok; subst hok; exact fg hvu hids
  · simp only [Env.keep] at ht
    split at ht
    · assumption
    · cases ht
theorem promote_sound {nx : Nat} {a : Act} {slots : List Nat} : ∀ (pr : List (Nat × TypeId)) (j : Nat) (vs : List AV) (h : Heap) (E : Env), Rel C n D0 E0 (fun id => id < nx + j) (fun _ => .any) E a → E.H = lookH h → VsRel E a slots vs →
    ∃ E', E'.w = E.w ∧ Rel C n D0 E0 (fun id => id < nx + j + pr.length) (fun _ => .any) E' a ∧ E'.H = lookH (promote nx pr j vs h).2 ∧ VsRel E' a slots (promote nx pr j vs h).1 := by
  intro pr
  induction pr with
  | nil => intro j vs h E hR hH hvs; exact ⟨E, rfl, hR.weakU (fun id h => by simpa using h), hH, hvs⟩
  | cons p r ih =>
    intro j vs h E hR hH hvs
    obtain ⟨i, e⟩ := p
    have skip : ∃ E', E'.w = E.w ∧ Rel C n D0 E0 (fun id => id < nx + j + (r.length + 1)) (fun _ => .any) E' a ∧ E'.H = lookH (promote nx r (j + 1) vs h).2 ∧ VsRel E' a slots (promote nx r (j + 1) vs h).1 := by
      obtain ⟨E', h1, h2, h3, h4⟩ := ih (j + 1) vs h E (hR.weakU fun id h => by omega) hH hvs
      exact ⟨E', h1, h2.weakU (fun id h => by omega), h3, h4⟩
    unfold promote
    split
    · rename_i hv
      have htop : E.top (nx + j) = none := by
        cases ht : E.top (nx + j) with
        | none => rfl
        | some t => have := hR.used _ t ht; omega
      have hst := news_step (new := nx + j) (mb := none) (blk := ⟨0, e, .lst []⟩) (ks := []) (w' := E.w) hR.hr htop (fun _ _ => rfl)
      have hhr := news_hr (new := nx + j) (mb := none) (blk := ⟨0, e, .lst []⟩) (ks := []) (w' := E.w) hR.hr htop (fun _ _ => rfl) (Nat.le_refl _) (fun _ => rfl) (fun g hg => by cases hg)
      have hgo := news_go (new := nx + j) (mb := none) (blk := ⟨0, e, .lst []⟩) (ks := []) (w' := E.w) hR.hr htop (fun _ _ => rfl) (Nat.le_refl _) rfl rfl rfl (fun g hg => by cases hg)
      have hR' : Rel C n D0 E0 (fun id => id < nx + (j + 1)) (fun _ => .any) (E.news (nx + j) none ⟨0, e, .lst []⟩ [] E.w) a := by
        refine hR.turn hgo hhr fun id t ht => ?_
        simp only [Env.news] at ht
        split at ht
        · omega
        · have := hR.used id t ht; omega
      obtain ⟨E', h1, h2, h3, h4⟩ := ih (j + 1) (vs.set i (.own (nx + j) 0)) ((nx + j, some ⟨0, e, .lst []⟩) :: h) (E.news (nx + j) none ⟨0, e, .lst []⟩ [] E.w) hR' (by
        funext id
        simp only [Env.news, lookH, hH]
        by_cases hid : id = nx + j
        · subst hid; simp
        · have hb : Nat.beq (nx + j) id = false := by
            cases hb : Nat.beq (nx + j) id
            · rfl
            · exact absurd (Nat.eq_of_beq_eq_true hb).symm hid
          rw [hb, if_neg hid]; simp) (fun i' v t hv' ht => by
        rw [List.getElem?_set] at hv'
        split at hv'
        · rename_i hii
          subst hii
          split at hv'
          · injection hv' with hv'
            subst hv'
            have hz := hvs i .zc t hv ht
            generalize a.tmps.getD t undef = u at hz
            cases hz with
            | zc ad =>
              refine .own (nx + j) 0 0 _ (by simp [Env.news]) (Nat.le_refl _) rfl (fun e' xs he => ⟨fun _ => ?_, fun b hb => by simp [Env.news] at hb⟩) (fun e' cs' h => by simp [Env.news] at h)
              exact ⟨ad, rfl⟩
          · cases hv'
        · exact (hvs i' v t hv' ht).step hst)
      exact ⟨E', h1, h2.weakU (fun id h => by simp only [List.length_cons]; omega), h3, h4⟩
    · exact skip
theorem lookH_cons_at (k id : Nat) (b : Option ABlk) (h : Heap) : lookH ((k, b) :: h) id = if id = k then b else lookH h id := by
  simp only [lookH]
  by_cases hid : id = k
  · subst hid; simp
  · have hb : Nat.beq k id = false := by
      cases hb : Nat.beq k id
      · rfl
      · exact absurd (Nat.eq_of_beq_eq_true hb).symm hid
    rw [hb, if_neg hid]
theorem promoteB_sound {nx : Nat} {a : Act} {slots : List Nat} {vs : List AV} : ∀ (pb : List (Nat × Nat × TypeId)) (j : Nat) (h : Heap) (E : Env), Rel C n D0 E0 (fun id => id < nx + j) (fun _ => .any) E a → E.H = lookH h → VsRel E a slots vs →
    ∃ E', E'.w = E.w ∧ Rel C n D0 E0 (fun id => id < nx + j + pb.length) (fun _ => .any) E' a ∧ E'.H = lookH (promoteB nx pb j h) ∧ VsRel E' a slots vs := by
  intro pb
  induction pb with
  | nil => intro j h E hR hH hvs; exact ⟨E, rfl, hR.weakU (fun id h => by simpa using h), hH, hvs⟩
  | cons p r ih =>
    intro j h E hR hH hvs
    obtain ⟨id, c, e⟩ := p
    have skip : ∃ E', E'.w = E.w ∧ Rel C n D0 E0 (fun id => id < nx + j + (r.length + 1)) (fun _ => .any) E' a ∧ E'.H = lookH (promoteB nx r (j + 1) h) ∧ VsRel E' a slots vs := by
      obtain ⟨E', h1, h2, h3, h4⟩ := ih (j + 1) h E (hR.weakU fun id h => by omega) hH hvs
      exact ⟨E', h1, h2.weakU (fun id h => by omega), h3, h4⟩
    unfold promoteB
    split
    · rename_i ver e' cs hl
      split
      · rename_i hz
        have htop : E.top (nx + j) = none := by
          cases ht : E.top (nx + j) with
          | none => rfl
          | some t => have := hR.used _ t ht; omega
        have hst := news_step (new := nx + j) (mb := none) (blk := ⟨0, e, .lst []⟩) (ks := []) (w' := E.w) hR.hr htop (fun _ _ => rfl)
        have hhr := news_hr (new := nx + j) (mb := none) (blk := ⟨0, e, .lst []⟩) (ks := []) (w' := E.w) hR.hr htop (fun _ _ => rfl) (Nat.le_refl _) (fun _ => rfl) (fun g hg => by cases hg)
        have hgo := news_go (new := nx + j) (mb := none) (blk := ⟨0, e, .lst []⟩) (ks := []) (w' := E.w) hR.hr htop (fun _ _ => rfl) (Nat.le_refl _) rfl rfl rfl (fun g hg => by cases hg)
        have hR' : Rel C n D0 E0 (fun id => id < nx + (j + 1)) (fun _ => .any) (E.news (nx + j) none ⟨0, e, .lst []⟩ [] E.w) a := by
          refine hR.turn hgo hhr fun id t ht => ?_
          simp only [Env.news] at ht
          split at ht
          · omega
          · have := hR.used id t ht; omega
        have hHid : E.H id = some ⟨ver, e', .box cs⟩ := by rw [hH]; exact hl
        have hne : id ≠ nx + j := by
          have h0 := (hR.hr.blk id _ hHid).1
          have := hR.used id _ h0
          omega
        have hHid' : (E.news (nx + j) none ⟨0, e, .lst []⟩ [] E.w).H id = some ⟨ver, e', .box cs⟩ := by simp [Env.news, hne, hHid]
        generalize hE1 : E.news (nx + j) none ⟨0, e, .lst []⟩ [] E.w = E1 at *
        have hw1 : E1.w = E.w := by rw [← hE1]; rfl
        have htop1 : E1.top (nx + j) = some 0 := by rw [← hE1]; simp [Env.news]
        have hm1 : E1.m (nx + j) = none := by rw [← hE1]; simp [Env.news]
        have hHn : E1.H (nx + j) = some ⟨0, e, .lst []⟩ := by rw [← hE1]; simp [Env.news]
        have hok : chgOK E1 id (E1.m id) ⟨ver, e', .box cs⟩ ⟨ver, e', .box (cs.set c (.own (nx + j) 0))⟩ E1.w := .inr ⟨rfl, rfl, by simp [sameShape], rfl, fun g C el fr _ hC => ⟨C, el, fr, hC, rfl⟩⟩
        have hon : onlyAt E1 id E1.w := ⟨Nat.le_refl _, fun _ _ _ => rfl⟩
        have hmn : E1.m id = none → (Body.box (cs.set c (.own (nx + j) 0))) = .lst [] := fun hm => by
          have := (hR'.hr.blk id _ hHid').2.1 hm
          cases this
        have hst2 := chg_step hR'.hr hHid' hok hon
        have hms : ∀ g, E1.m id = some g → C.N ≤ g ∧ (E1.w.heap.size ≤ g ∨ E1.m id = some g) ∧ ∃ o, E1.w.heap[g]? = some o ∧ OR (E1.chg id (E1.m id) ⟨ver, e', .box (cs.set c (.own (nx + j) 0))⟩ E1.w) e' (.box (cs.set c (.own (nx + j) 0))) o := fun g hg => by
          obtain ⟨k1, o, k2, C', k3, k4⟩ := (hR'.hr.blk id _ hHid').2.2 g hg
          refine ⟨k1, .inr hg, o, k2, C', k3, fun i v hi => ?_⟩
          rw [List.getElem?_set] at hi
          split at hi
          · rename_i hci
            subst hci
            split at hi
            · injection hi with hi
              subst hi
              obtain ⟨u, hu, hd, h1⟩ := k4 c .zc hz
              refine ⟨u, hu, ?_, h1⟩
              cases hd with
              | zc ad =>
                refine .own (nx + j) 0 0 _ (by simp only [Env.chg]; rw [if_neg (Ne.symm hne)]; exact htop1) (Nat.le_refl _) rfl (fun e2 xs he => ⟨fun _ => ?_, fun b hb => ?_⟩) (fun e2 cs2 he => by
                  simp only [Env.chg] at he
                  rw [if_neg (Ne.symm hne), hHn] at he
                  cases he)
                · exact ⟨ad, rfl⟩
                · simp only [Env.chg] at hb
                  rw [if_neg (Ne.symm hne), hm1] at hb
                  cases hb
            · cases hi
          · obtain ⟨u, hu, hd, h1⟩ := k4 i v hi
            exact ⟨u, hu, hd.step hst2, h1⟩
        have hhr2 := chg_hr hR'.hr hHid' hok hon hmn hms
        have hgo2 := chg_go hR'.hr hHid' hok hon rfl rfl rfl (fun g hg => .inr hg)
        have hR2 : Rel C n D0 E0 (fun id => id < nx + (j + 1)) (fun _ => .any) (E1.chg id (E1.m id) ⟨ver, e', .box (cs.set c (.own (nx + j) 0))⟩ E1.w) a := by
          refine hR'.turn hgo2 hhr2 fun i t ht => ?_
          simp only [Env.chg] at ht
          split at ht
          · rename_i hi
            subst hi
            have h0 := (hR'.hr.blk i _ hHid').1
            exact hR'.used i _ h0
          · exact hR'.used i t ht
        obtain ⟨E', h1, h2, h3, h4⟩ := ih (j + 1) ((id, some ⟨ver, e', .box (cs.set c (.own (nx + j) 0))⟩) :: (nx + j, some ⟨0, e, .lst []⟩) :: h) _ hR2 (by
          funext i
          rw [lookH_cons_at, lookH_cons_at, ← hH]
          simp only [Env.chg]
          split
          · rfl
          · rw [← hE1]
            simp only [Env.news]
            split
            · rfl
            · simp) (fun i v t hv ht => ((hvs i v t hv ht).step hst).step hst2)
        exact ⟨E', h1.trans hw1, h2.weakU (fun id h => by simp only [List.length_cons]; omega), h3, h4⟩
      · exact skip
    · exact skip
end
end Go.Vc

namespace Go.Vc
open Go Go.RowKit
section
variable {F : Fence} {n : Nat} {P : Program} {Q : Exit → Act → World → Prop} {a : Act} {w : World} {b : Frame} {k : List Item} {cs : List Frame}
theorem stepR_scope {c : Code} : step P (lone (b.atR a (.code (.scope c) :: k)) cs w) = .next (lone (b.atR a (.code c :: .inScope c :: k)) cs w) :=
  step_lone_go (by simp [stepG, stepG.exec, Frame.atR])
theorem stepR_inScope {c : Code} : step P (lone (b.atR a (.inScope c :: k)) cs w) = .next (lone (b.atR a k) cs w) :=
  step_lone_go (by simp [stepG, stepG.exec, Frame.atR])
theorem wpIn_scope_straight {c : Code} (h : c.wpIn F n P (Exit.noGoto Q) a w) : (Code.scope c).wpIn F n P Q a w := by
  intro b k cs hro hb hr
  have h0 : (lone (b.atR a (.code (.scope c) :: k)) cs w).fenced P F := fenced_calm hb hr rfl
  obtain ⟨e, a₁, w₁, hq, harr⟩ := h b (.inScope c :: k) cs hro hb hr
  cases e with
  | normal => exact ⟨.normal, a₁, w₁, hq, .head h0 stepR_scope (StepsIn.trans harr (.one (fenced_calm hb hr rfl) stepR_inScope))⟩
  | exit id =>
    have hx : exitTo id (.inScope c :: k) = exitTo id k := by simp [exitTo]
    exact ⟨.exit id, a₁, w₁, hq, fun k' hk => .head h0 stepR_scope (harr.1 k' (by rw [hx]; exact hk)),
      fun hr' hk => let ⟨k₁, h1, h2⟩ := harr.2 hr' (by rw [hx]; exact hk); ⟨k₁, h1, .head h0 stepR_scope h2⟩⟩
  | goto l => exact hq.elim
  | ret => exact ⟨_, a₁, w₁, hq, .of_steps (.one h0 stepR_scope) harr⟩
  | panic ch => exact ⟨_, a₁, w₁, hq, .of_steps (.one h0 stepR_scope) harr⟩
  | outgrown => exact ⟨_, a₁, w₁, hq, .of_steps (.one h0 stepR_scope) harr⟩
end
theorem exists_min {p : Nat → Prop} (h : ∃ m, p m) : ∃ m, p m ∧ ∀ k, p k → m ≤ k := by
  obtain ⟨m, hm⟩ := h
  induction m using Nat.strongRecOn with
  | _ m ih =>
    by_cases hk : ∃ k, k < m ∧ p k
    · obtain ⟨k, h1, h2⟩ := hk
      exact ih k h1 h2
    · exact ⟨m, hm, fun k hp => Nat.le_of_not_lt fun hlt => hk ⟨k, hlt, hp⟩⟩
theorem wpIn_loop_fam {F : Fence} {n : Nat} {P : Program} {c : Code} {Q : Exit → Act → World → Prop} {σ : Type} (I : σ → Act → World → Prop) (μ : σ → Nat) {a : Act} {w : World} (h0 : ∃ s, I s a w)
    (hr : ∀ s a w, I s a w → c.wpIn F n P (Exit.then (fun a' w' => ∃ s', I s' a' w' ∧ μ s' < μ s) Q) a w) : (Code.loop c).wpIn F n P Q a w := by
  classical
  let M : Act → World → Nat := fun a w => if h : ∃ m, ∃ s, I s a w ∧ μ s = m then Classical.choose (exists_min h) else 0
  have hM : ∀ a w, (∃ s, I s a w) → ∃ s, I s a w ∧ μ s = M a w := fun a w ⟨s, hs⟩ => by
    have h : ∃ m, ∃ s, I s a w ∧ μ s = m := ⟨_, s, hs, rfl⟩
    have := (Classical.choose_spec (exists_min h)).1
    simp only [M, dif_pos h]
    exact this
  have hMle : ∀ a w s, I s a w → M a w ≤ μ s := fun a w s hs => by
    have h : ∃ m, ∃ s, I s a w ∧ μ s = m := ⟨_, s, hs, rfl⟩
    have := (Classical.choose_spec (exists_min h)).2 (μ s) ⟨s, hs, rfl⟩
    simp only [M, dif_pos h]
    exact this
  refine wpIn_loop (fun a w => ∃ s, I s a w) M h0 fun a w hI => ?_
  obtain ⟨s, hs, hm⟩ := hM a w hI
  refine wpIn_mono (hr s a w hs) (fun e a' w' q => ?_)
  cases e with
  | normal =>
    obtain ⟨s', h1, h2⟩ := q
    refine ⟨⟨s', h1⟩, ?_⟩
    have := hMle a' w' s' h1
    omega
  | _ => exact q
section
variable {C : Ctx} {ro : Option Nat} {n : Nat} {D0 : List Deferred} {E0 : Env} {U : Nat → Prop} {F : Nat → AV} {E : Env} {a : Act} {new : Nat}
theorem call_calls (hR : Rel C n D0 E0 U F E a) (hnew : ∀ i, new ≤ i → i < new + 8 → ¬ U i) {f : FuncId} {vs : List AV} {us : List Value} {rd : List Nat} {r : Eff}
    (hl : vs.length = us.length) (hv : ∀ (i : Nat) (v : AV) (u : Value), vs[i]? = some v → us[i]? = some u → VRel E v u)
    (hE : CALLR C (.fnc f) vs new (BE E) rd r) (y : AV) (uy : Value) (hy : VRel E y uy) : fnOK C.prog f = true ∧ CallsIn (Wf ro) 0 C.prog f us.toArray E.w (fun e w' => match r with
      | .ok _v ups => ∃ E' u, e = .returned u ∧ E'.w = w' ∧ Rel C n D0 E0 (fun id => U id ∨ (new ≤ id ∧ id < new + 8)) F E' a ∧ E'.H = upH E.H ups ∧ VRel E' y uy
      | .pan v ups => ∃ E' u, e = .panicked [{ v := u, recovered := false }] ∧ E'.w = w' ∧ Rel C n D0 E0 (fun id => U id ∨ (new ≤ id ∧ id < new + 8)) F E' a ∧ E'.H = upH E.H ups ∧ VRel E' v u) := by
  have hf : fnOK C.prog f = true := by
    obtain ⟨ks, cal', cs, args', pre, out, post, kill, hM, _, hcal, _⟩ := hE
    cases cal' with
    | fnc f' => simp only [Cal.ren] at hcal; injection hcal with hcal; subst hcal; exact hM.1
    | yld id => simp only [Cal.ren] at hcal; cases hcal
  refine ⟨hf, ?_⟩
  let a1 : Act := { a with tmps := a.tmps.push uy }
  let F1 : Nat → AV := fun t => if t < n then F t else if t = n then y else F (t - 1)
  have hget : ∀ t, a1.tmps.getD t undef = if t < n then a.tmps.getD t undef else if t = n then uy else undef := fun t => by
    simp only [a1, Array.getD_eq_getD_getElem?, Array.getElem?_push, hR.tmps]
    by_cases h1 : t < n
    · simp [h1, show t ≠ n by omega]
    · by_cases h2 : t = n
      · simp [h2]
      · have : a.tmps[t]? = none := Array.getElem?_eq_none (by rw [hR.tmps]; omega)
        simp [h1, h2, this]
  have hout : ∀ t, n ≤ t → a.tmps.getD t undef = undef := fun t ht => by
    simp only [Array.getD_eq_getD_getElem?]
    rw [Array.getElem?_eq_none (by rw [hR.tmps]; exact ht)]; rfl
  have hR1 : Rel C (n + 1) D0 E0 U F1 E a1 := ⟨hR.prog, hR.base, hR.hr, hR.go, hR.defers, by simp [a1, hR.tmps], fun t => by
    rw [hget]
    simp only [F1]
    by_cases h1 : t < n
    · rw [if_pos h1, if_pos h1]; exact hR.fr t
    · rw [if_neg h1, if_neg h1]
      by_cases h2 : t = n
      · rw [if_pos h2, if_pos h2]; exact hy
      · rw [if_neg h2, if_neg h2]
        have := hR.fr (t - 1)
        rw [hout _ (by omega)] at this
        exact this, hR.used⟩
  have hback : ∀ {U' : Nat → Prop} {E' : Env}, Rel C (n + 1) D0 E0 U' F1 E' a1 → Rel C n D0 E0 U' F E' a ∧ VRel E' y uy := fun {U' E'} h => by
    refine ⟨⟨h.prog, h.base, h.hr, h.go, h.defers, hR.tmps, fun t => ?_, h.used⟩, ?_⟩
    · by_cases h1 : t < n
      · have := h.fr t
        rw [hget] at this
        simp only [F1, if_pos h1] at this
        exact this
      · have := h.fr (t + 1)
        rw [hget] at this
        simp only [F1, if_neg (show ¬ t + 1 < n by omega), if_neg (show ¬ t + 1 = n by omega), Nat.add_sub_cancel] at this
        rw [hout t (by omega)]
        exact this
    · have := h.fr n
      rw [hget] at this
      simpa [F1] using this
  let o : Oper := { (default : Oper) with dst := none, op := .call { callee := .value (.func f), args := us.toArray.map .const, argTypes := #[] } }
  have hrun : (execOp a1.eval o).run C.prog E.w = .ok (.enter f us.toArray) E.w := by
    simp only [execOp, o, resolve, Act.eval, Deferred.ofValue, invoke, Sem.run_bind, Sem.run_pure, Result.andThen_ok, run_callFunc hf]
    congr 2
    apply Array.ext'
    simp
    exact List.map_id'' (fun x => rfl) us
  have hs := call_sound (ro := ro) (o := o) hR1 (fun t ht => by cases ht) hnew (cal := .fnc f) (fun _ => hrun) hl hv hE
  have hw := hs (fun c hc => by cases hc) (fun a' w' => a' = a1 → match r with
      | .ok v ups => ∃ E', E'.w = w' ∧ Rel C n D0 E0 (fun id => U id ∨ (new ≤ id ∧ id < new + 8)) F E' a ∧ E'.H = upH E.H ups ∧ VRel E' y uy
      | .pan v ups => False) (fun x _ w' => match x with
      | .panic ch => (match r with
        | .pan v ups => ∃ E' u, ch = [{ v := u, recovered := false }] ∧ E'.w = w' ∧ Rel C n D0 E0 (fun id => U id ∨ (new ≤ id ∧ id < new + 8)) F E' a ∧ E'.H = upH E.H ups ∧ VRel E' v u
        | .ok v ups => False)
      | _ => False) (by
    cases r with
    | ok v ups =>
      intro a' E' hR' hH ha
      subst ha
      obtain ⟨h1, h2⟩ := hback hR'
      exact ⟨E', rfl, h1, hH, h2⟩
    | pan v ups =>
      intro E' u hR' hH hu
      exact ⟨E', u, rfl, rfl, (hback hR').1, hH, hu⟩)
  have hw := hw.2
  rw [Oper.semAt_eq _ _ _ (fun c hc => by cases hc), hrun, Oper.uponIn_enter] at hw
  refine CallsIn.mono (F := Wf ro) hw.2 (fun e w' h => ?_)
  cases e with
  | returned u =>
    have h := h rfl
    cases r with
    | ok v ups => obtain ⟨E', h1, h2, h3, h4⟩ := h; exact ⟨E', u, rfl, h1, h2, h3, h4⟩
    | pan v ups => exact h.elim
  | panicked ch =>
    cases r with
    | ok v ups => exact h.elim
    | pan v ups => obtain ⟨E', u, rfl, h1, h2, h3, h4⟩ := h; exact ⟨E', u, rfl, h1, h2, h3, h4⟩
  | outgrown => obtain ⟨_, _, h⟩ := h; exact h.elim
def Env.drop (E : Env) (id : Nat) (w' : World) : Env where
  P := E.P
  top := E.top
  m := E.m
  H i := if i = id then none else E.H i
  w := w'
  S := E.S
theorem drop_rel {id g : Nat} {b0 : ABlk} {o0 o1 : Obj} (hR : Rel C n D0 E0 U F E a) (hH : E.H id = some b0) (hm : E.m id = some g) (ho : E.w.heap[g]? = some o0) (hnc : ∀ Cc el fr, o0 ≠ .cells Cc el fr) :
    Rel C n D0 E0 U F (E.drop id { E.w with heap := E.w.heap.setIfInBounds g o1 }) a := by
  have hoth : ∀ b, b ≠ g → (E.w.heap.setIfInBounds g o1)[b]? = E.w.heap[b]? := fun b hb => by
    rw [Array.getElem?_setIfInBounds]
    rw [if_neg (fun h => hb h.symm)]
  have hgS : ¬ E.S g := fun h => (hR.hr.st g h).2 id (by rw [hH]; simp) hm
  have hs : E.Step (E.drop id { E.w with heap := E.w.heap.setIfInBounds g o1 }) := by
    refine ⟨rfl, fun b hb => hb, fun b hb => ?_, fun i t ht => ⟨t, ht, Nat.le_refl _⟩, fun i t b' ht hb hv => ?_⟩
    · exact hoth b (fun h => hgS (h ▸ hb))
    · simp only [Env.drop] at hb
      split at hb
      · cases hb
      · refine ⟨rfl, b', hb, rfl, rfl, sameShape.refl _, fun g' Cc el fr hm' hC => ⟨Cc, el, fr, ?_, rfl⟩⟩
        have : g' ≠ g := fun h => by
          subst h
          rw [ho] at hC
          injection hC with hC
          exact hnc _ _ _ hC
        rw [← hC]
        exact hoth g' this
  have hg : E.Go (E.drop id { E.w with heap := E.w.heap.setIfInBounds g o1 }) := by
    refine ⟨hs, rfl, rfl, rfl, by simp [Env.drop], fun b hb hn => hoth b fun h => hn ⟨id, by rw [hH]; simp, h ▸ hm⟩, fun b hb => ?_, fun b hb => .inl hb⟩
    obtain ⟨i, h1, h2⟩ := hb
    simp only [Env.drop] at h1
    split at h1
    · exact absurd rfl h1
    · exact .inl ⟨i, h1, h2⟩
  have dH : ∀ i b, (E.drop id { E.w with heap := E.w.heap.setIfInBounds g o1 }).H i = some b → i ≠ id ∧ E.H i = some b := fun i b hb => by
    simp only [Env.drop] at hb
    split at hb
    · cases hb
    · exact ⟨by assumption, hb⟩
  refine hR.turn hg ⟨fun b hb => ?_, fun i b hb => ?_, fun i j g' hi hj h1 h2 => ?_⟩ hR.used
  · obtain ⟨h1, h2⟩ := hR.hr.st b hb
    refine ⟨by simpa [Env.drop] using h1, fun i hi hm' => ?_⟩
    obtain ⟨bb, hbb⟩ := Option.ne_none_iff_exists'.1 hi
    exact h2 i (by rw [(dH i bb hbb).2]; simp) hm'
  · obtain ⟨hne, hb⟩ := dH i b hb
    obtain ⟨k1, k2, k3⟩ := hR.hr.blk i b hb
    refine ⟨k1, k2, fun g' hg' => ?_⟩
    obtain ⟨j1, o, j2, j3⟩ := k3 g' hg'
    have : g' ≠ g := fun h => hne (hR.hr.inj i id g (by rw [hb]; simp) (by rw [hH]; simp) (h ▸ hg') hm)
    exact ⟨j1, o, (hoth g' this).trans j2, j3.step hs⟩
  · obtain ⟨bi, hbi⟩ := Option.ne_none_iff_exists'.1 hi
    obtain ⟨bj, hbj⟩ := Option.ne_none_iff_exists'.1 hj
    exact hR.hr.inj i j g' (by rw [(dH i bi hbi).2]; simp) (by rw [(dH j bj hbj).2]; simp) h1 h2
def Env.marked (E : Env) : Env := { E with w := { E.w with heap := E.w.heap.push (.deferred (some [])) } }
theorem marked_step {N : Nat} (hr : HR N E) : E.Step E.marked := by
  have hlt : ∀ b, b < E.w.heap.size → E.marked.w.heap[b]? = E.w.heap[b]? := fun b hb => push_lt E.w _ b hb
  refine ⟨rfl, fun b hb => hb, fun b hb => hlt b (hr.st b hb).1, fun i t ht => ⟨t, ht, Nat.le_refl _⟩, fun i t b' ht hb hv => ⟨rfl, b', hb, rfl, rfl, sameShape.refl _, fun g Cc el fr hm hC => ⟨Cc, el, fr, ?_, rfl⟩⟩⟩
  rw [← hC]
  exact hlt g (Array.getElem?_eq_some_iff.1 hC).1
theorem marked_rel (hmk : C.marks = true) (hR : Rel C n D0 E0 U F E a) : Rel C n D0 E0 U F E.marked { a with defers := mark E.w.heap.size :: a.defers } := by
  have hlt : ∀ b, b < E.w.heap.size → E.marked.w.heap[b]? = E.w.heap[b]? := fun b hb => push_lt E.w _ b hb
  have hs : E.Step E.marked := marked_step hR.hr
  have hg : E.Go E.marked := ⟨hs, rfl, rfl, rfl, by simp [Env.marked], fun b hb _ => hlt b hb, fun b hb => .inl hb, fun b hb => .inl hb⟩
  have hh : HR C.N E.marked := by
    refine ⟨fun b hb => ?_, fun i b hb => ?_, hR.hr.inj⟩
    · obtain ⟨h1, h2⟩ := hR.hr.st b hb
      exact ⟨by simp [Env.marked]; omega, h2⟩
    · obtain ⟨k1, k2, k3⟩ := hR.hr.blk i b hb
      refine ⟨k1, k2, fun g hg => ?_⟩
      obtain ⟨j1, o, j2, j3⟩ := k3 g hg
      exact ⟨j1, o, (hlt g (Array.getElem?_eq_some_iff.1 j2).1).trans j2, j3.step hs⟩
  have := hR.turn hg hh hR.used
  refine ⟨this.prog, this.base, this.hr, this.go, ?_, this.tmps, this.fr, this.used⟩
  obtain ⟨rs, e1, e2, e3⟩ := hR.defers
  refine ⟨E.w.heap.size :: rs, by simp [e1], List.nodup_cons.2 ⟨fun hm => ?_, e2⟩, fun r hr => ?_⟩
  · have := (e3 _ hm).2.1
    omega
  · rcases List.mem_cons.1 hr with h | h
    · subst h
      refine ⟨⟨hR.go.size, hmk⟩, by simp [Env.marked], fun h => ?_, fun ⟨id, h1, h2⟩ => ?_, by show (E.w.heap.push _)[E.w.heap.size]? = _; simp⟩
      · have := (hR.hr.st _ h).1; omega
      · have := hR.hr.blk_lt h1 h2; omega
    · exact ⟨(e3 r h).1, (e3 r h).2.go hg⟩
end
end Go.Vc
