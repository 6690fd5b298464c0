/- A part of the proof: general laws of a reading of the model by abstract data, or contracts of the functions that the law calls. -/
import Derived.Test.YtonajancjagefaaGreatVc12
set_option maxRecDepth 100000
namespace Go.Vc
open Go Go.RowKit
def kin : Body → Body → Prop
  | .lst xs, .lst ys => xs = ys
  | .box cs, .box ds => cs.length = ds.length
  | .mp _ _, .mp _ _ => True
  | .it _ _, .it _ _ => True
  | .loop _, .loop _ => True
  | _, _ => False
theorem kin.refl (b : Body) : kin b b := by cases b <;> simp [kin]
theorem kin.shape {b b' : Body} (h : kin b b') : sameShape b b' := by
  cases b <;> cases b' <;> simp only [kin] at h <;> simp [sameShape, h]
theorem yvL_len {B : BF} {k : Nat} {rs : List (Option Nat)} : ∀ {vs ws : List AV}, yv.yvL B k rs vs ws → vs.length = ws.length
  | [], [], _ => rfl
  | _ :: vs, _ :: ws, h => by simp only [List.length_cons]; rw [yvL_len h.2]
  | [], _ :: _, h => h.elim
  | _ :: _, [], h => h.elim
theorem yb.kin {B : BF} {k : Nat} {rs : List (Option Nat)} {b b' : Body} (h : yb B k rs b b') : kin b b' := by
  cases b <;> cases b' <;> simp only [yb] at h <;> first | exact yvL_len h | simp [Vc.kin, h]
theorem yh_get {B : BF} {h : Heap} {k : Nat} {pre : List ABlk} {rs : List (Option Nat)} : ∀ {post : List PB} {j0 : Nat}, yh B h k pre rs post j0 → ∀ (i : Nat) (p : PB), post[i]? = some p →
    match p with
    | .same => j0 + i < k ∧ lookH h (j0 + i) = pre[j0 + i]?
    | .gone => True
    | .upd b => match (if j0 + i < k then some (some (j0 + i)) else rs[j0 + i - k]?) with
      | some (some id) => ∃ b0, lookH h id = some b0 ∧ b0.elem = b.elem ∧ yver k (j0 + i) b0.ver b.ver ∧ yb B k rs b0.body b.body
      | some none => b.ver = 0 ∧ b.body = .lst []
      | none => False := by
  intro post
  induction post with
  | nil => intro j0 _ i p h; simp at h
  | cons q r ih =>
    intro j0 hy i p hp
    have tail : yh B h k pre rs r (j0 + 1) := by
      cases q with
      | same => exact hy.2.2
      | gone => exact hy
      | upd b => exact hy.2
    cases i with
    | zero =>
      simp at hp; subst hp
      cases q with
      | same => exact ⟨hy.1, hy.2.1⟩
      | gone => trivial
      | upd b => exact hy.1
    | succ i =>
      have := ih tail i p (by simpa using hp)
      rw [show j0 + (i + 1) = j0 + 1 + i by omega]
      exact this
theorem fzH_mem {h : Heap} {k : Nat} {rs : List (Option Nat)} : ∀ {post : List PB} {j0 : Nat} (i : Nat) (b b0 : ABlk) (id : Nat), post[i]? = some (.upd b) → src k rs (j0 + i) = some id → lookH h id = some b0 → ∀ x, x ∈ fzB b0.body b.body → x ∈ fzH h k rs post j0 := by
  intro post
  induction post with
  | nil => intro j0 i b b0 id h; simp at h
  | cons q r ih =>
    intro j0 i b b0 id hp hs hl x hx
    cases i with
    | zero =>
      simp at hp; subst hp
      simp only [fzH, List.mem_append]
      left
      simp only [Nat.add_zero] at hs
      simp only [hs, hl]
      exact hx
    | succ i =>
      have := ih (j0 := j0 + 1) i b b0 id (by simpa using hp) (by rw [show j0 + 1 + i = j0 + (i + 1) by omega]; exact hs) hl x hx
      cases q <;> simp only [fzH, List.mem_append] <;> first | exact this | exact .inr this
theorem stay_mem {k : Nat} {rs : List (Option Nat)} : ∀ {post : List PB} {j0 : Nat} (i : Nat) (p : PB) (id : Nat), post[i]? = some p → p ≠ .gone → src k rs (j0 + i) = some id → id ∈ stay k rs post j0 := by
  intro post
  induction post with
  | nil => intro j0 i p id h; simp at h
  | cons q r ih =>
    intro j0 i p id hp hn hs
    cases i with
    | zero =>
      simp at hp; subst hp
      simp only [Nat.add_zero] at hs
      cases q with
      | gone => exact absurd rfl hn
      | same => simp only [stay, hs, List.mem_append]; left; simp
      | upd b => simp only [stay, hs, List.mem_append]; left; simp
    | succ i =>
      have := ih (j0 := j0 + 1) i p id (by simpa using hp) hn (by rw [show j0 + 1 + i = j0 + (i + 1) by omega]; exact hs)
      cases q <;> simp only [stay, List.mem_append] <;> first | exact this | exact .inr this
def Env.fin (E : Env) (pre : List ABlk) (post : List PB) (rs : List (Option Nat)) (zs : List Nat) : Env where
  P := E.P
  top i := if i < post.length then (if i < pre.length then E.top i else some 0) else none
  m i := (src pre.length rs i).bind E.m
  H i := postH pre post i
  w := E.w
  S b := E.S b ∨ blkOf E zs b
structure EndOK' (C : Ctx) (E0 E : Env) (pre : List ABlk) (post : List PB) (rs : List (Option Nat)) (h : Heap) (zs : List Nat) : Prop where
  st : StartOK C pre E0
  go : E0.Go E
  hr : HR C.N E
  H : E.H = lookH h
  k24 : pre.length ≤ 24
  len : post.length = pre.length + rs.length
  r24 : ∀ i, i ∈ rs.filterMap id → 24 ≤ i
  nd : (rs.filterMap id).Nodup
  yh : Vc.yh (BE E) h pre.length pre rs post 0
  fz : ∀ x, x ∈ fzH h pre.length rs post 0 → x ∈ zs
  dj : ∀ x, x ∈ zs → x ∈ stay pre.length rs post 0 → False
section
variable {C : Ctx} {E0 E : Env} {pre : List ABlk} {post : List PB} {rs : List (Option Nat)} {h : Heap} {zs : List Nat}
theorem src_lt {k : Nat} {rs : List (Option Nat)} {j : Nat} (h : j < k) : src k rs j = some j := by simp [src, h]
theorem src_ge {k : Nat} {rs : List (Option Nat)} {j : Nat} (h : k ≤ j) : src k rs j = (rs[j - k]?).join := by simp [src, Nat.not_lt.2 h]
theorem src_new {k : Nat} {rs : List (Option Nat)} {j id : Nat} (hk : k ≤ j) (h : src k rs j = some id) : rs[j - k]? = some (some id) := by
  rw [src_ge hk] at h
  cases hr : rs[j - k]? with
  | none => rw [hr] at h; cases h
  | some x => rw [hr] at h; cases x with
    | none => cases h
    | some y => simp at h; rw [h]
theorem EndOK'.src_inj (O : EndOK' C E0 E pre post rs h zs) {i j id : Nat} (h1 : src pre.length rs i = some id) (h2 : src pre.length rs j = some id) : i = j := by
  have hk := O.k24
  have ge : ∀ j, pre.length ≤ j → src pre.length rs j = some id → 24 ≤ id := fun j hj hs => O.r24 id (List.mem_filterMap.2 ⟨some id, List.mem_of_getElem? (src_new hj hs), rfl⟩)
  rcases Nat.lt_or_ge i pre.length with hi | hi <;> rcases Nat.lt_or_ge j pre.length with hj | hj
  · rw [src_lt hi] at h1; rw [src_lt hj] at h2; injection h1 with h1; injection h2 with h2; omega
  · have := ge j hj h2; rw [src_lt hi] at h1; injection h1 with h1; omega
  · have := ge i hi h1; rw [src_lt hj] at h2; injection h2 with h2; omega
  · have e1 := src_new hi h1
    have e2 := src_new hj h2
    have key : ∀ (rs : List (Option Nat)), (rs.filterMap (fun x => x)).Nodup → ∀ a b : Nat, rs[a]? = some (some id) → rs[b]? = some (some id) → a = b := by
      intro rs
      induction rs with
      | nil => intro _ a b h; simp at h
      | cons x r ih =>
        intro hnd a b ha hb
        have mem : ∀ c : Nat, r[c]? = some (some id) → id ∈ r.filterMap (fun x => x) := fun c hc => List.mem_filterMap.2 ⟨some id, List.mem_of_getElem? hc, rfl⟩
        cases a with
        | zero =>
          simp at ha; subst ha
          cases b with
          | zero => rfl
          | succ b =>
            have := mem b (by simpa using hb)
            simp only [List.filterMap_cons] at hnd
            exact absurd this (List.nodup_cons.1 hnd).1
        | succ a =>
          cases b with
          | zero =>
            simp at hb; subst hb
            have := mem a (by simpa using ha)
            simp only [List.filterMap_cons] at hnd
            exact absurd this (List.nodup_cons.1 hnd).1
          | succ b =>
            have hnd' : (r.filterMap (fun x => x)).Nodup := by
              cases x with
              | none => simpa using hnd
              | some y => simp only [List.filterMap_cons] at hnd; exact (List.nodup_cons.1 hnd).2
            have := ih hnd' a b (by simpa using ha) (by simpa using hb)
            omega
    have := key rs O.nd _ _ e1 e2
    omega
theorem EndOK'.get (O : EndOK' C E0 E pre post rs h zs) {j : Nat} {b : ABlk} (hb : postH pre post j = some b) : j < post.length ∧
    ((∃ id b0, src pre.length rs j = some id ∧ id ∈ stay pre.length rs post 0 ∧ E.H id = some b0 ∧ b0.elem = b.elem ∧ yver pre.length j b0.ver b.ver ∧ kin b0.body b.body ∧
      ((j < pre.length ∧ b0 = b ∧ E0.H j = some b) ∨ (yb (BE E) pre.length rs b0.body b.body ∧ ∀ x, x ∈ fzB b0.body b.body → x ∈ zs))) ∨
    (pre.length ≤ j ∧ rs[j - pre.length]? = some none ∧ b.ver = 0 ∧ b.body = .lst [])) := by
  unfold postH at hb
  cases hp : post[j]? with
  | none => rw [hp] at hb; cases hb
  | some p =>
    rw [hp] at hb
    refine ⟨(List.getElem?_eq_some_iff.1 hp).1, ?_⟩
    have hy := yh_get O.yh j p hp
    simp only [Nat.zero_add] at hy
    cases p with
    | gone => simp [PB.get] at hb
    | same =>
      simp only [PB.get] at hb
      obtain ⟨h1, h2⟩ := hy
      refine .inl ⟨j, b, src_lt h1, stay_mem j .same j hp (by simp) (by rw [Nat.zero_add]; exact src_lt h1), by rw [O.H, h2, hb], rfl, by simp [yver, h1], .refl _, .inl ⟨h1, rfl, by rw [O.st.H, hb]⟩⟩
    | upd b' =>
      simp only [PB.get, Option.some.injEq] at hb
      subst hb
      simp only at hy
      by_cases hj : j < pre.length
      · rw [if_pos hj] at hy
        obtain ⟨b0, k1, k2, k3, k4⟩ := hy
        exact .inl ⟨j, b0, src_lt hj, stay_mem j _ j hp (by simp) (by rw [Nat.zero_add]; exact src_lt hj), by rw [O.H, k1], k2, k3, k4.kin, .inr ⟨k4, fun x hx => O.fz x (fzH_mem j b' b0 j hp (by rw [Nat.zero_add]; exact src_lt hj) k1 x hx)⟩⟩
      · rw [if_neg hj] at hy
        cases hr : rs[j - pre.length]? with
        | none => rw [hr] at hy; exact hy.elim
        | some x =>
          rw [hr] at hy
          cases x with
          | none => exact .inr ⟨by omega, rfl, hy.1, hy.2⟩
          | some id =>
            obtain ⟨b0, k1, k2, k3, k4⟩ := hy
            have hs : src pre.length rs j = some id := by rw [src_ge (by omega), hr]; rfl
            exact .inl ⟨id, b0, hs, stay_mem j _ id hp (by simp) (by rw [Nat.zero_add]; exact hs), by rw [O.H, k1], k2, k3, k4.kin, .inr ⟨k4, fun x hx => O.fz x (fzH_mem j b' b0 id hp (by rw [Nat.zero_add]; exact hs) k1 x hx)⟩⟩
theorem EndOK'.stepS (E : Env) (b : Nat) (h : E.S b) : (E.fin pre post rs zs).S b := .inl h
theorem BE_isSome {E : Env} {id ver : Nat} (h : (BE E id ver).isSome = true) : ∃ e b, E.H id = some ⟨ver, e, b⟩ := by
  obtain ⟨⟨e, b⟩, hb⟩ := Option.isSome_iff_exists.1 h
  exact ⟨e, b, BE_some hb⟩
theorem EndOK'.topE (O : EndOK' C E0 E pre post rs h zs) {j id ver t : Nat} (hs : src pre.length rs j = some id) (ht : E.top id = some t) (hv : ver ≤ t) {ver' : Nat} (hy : yver pre.length j ver ver') : ∃ t', (E.fin pre post rs zs).top j = some t' ∧ ver' ≤ t' := by
  simp only [Env.fin]
  have hlen := O.len
  by_cases hj : j < pre.length
  · rw [src_lt hj] at hs
    injection hs with hs
    subst hs
    simp only [yver, if_pos hj] at hy
    rw [if_pos (by omega), if_pos hj]
    exact ⟨t, ht, by omega⟩
  · have := (List.getElem?_eq_some_iff.1 (src_new (by omega) hs)).1
    simp only [yver, if_neg hj] at hy
    rw [if_pos (by omega), if_neg hj]
    exact ⟨0, rfl, by omega⟩
theorem EndOK'.topL (O : EndOK' C E0 E pre post rs h zs) {j id t : Nat} (hs : src pre.length rs j = some id) (ht : E.top id = some t) : ∃ t', (E.fin pre post rs zs).top j = some t' := by
  obtain ⟨t', h, _⟩ := O.topE hs ht (Nat.zero_le _) (ver' := 0) (ver := 0) (by simp [yver])
  exact ⟨t', h⟩
theorem EndOK'.val (O : EndOK' C E0 E pre post rs h zs) {v : AV} {u : Value} (hv : VRel E v u) : ∀ r, yv (BE E) pre.length rs v r → (∀ x, x ∈ Vc.fz v r → x ∈ zs) → VRel (E.fin pre post rs zs) r u := by
  have data : ∀ {v u}, VRel E v u → ∀ x, argD (BE E) v = some x → (∀ y, y ∈ ids v → y ∈ zs) → VRel (E.fin pre post rs zs) (.d x) u := fun {v u} hv x ha hz =>
    .d _ _ (argD_rel O.hr (S' := (E.fin pre post rs zs).S) (fun b h => .inl h) ha hv (fun b ⟨k, hk, h'⟩ => .inr ⟨k, hz k hk, h'⟩))
  have lists : ∀ {vs : List AV} {us : List Value}, vs.length = us.length → (∀ (i : Nat) (v : AV) (u : Value), vs[i]? = some v → us[i]? = some u → ∀ r, yv (BE E) pre.length rs v r → (∀ x, x ∈ Vc.fz v r → x ∈ zs) → VRel (E.fin pre post rs zs) r u) →
      ∀ ws : List AV, yv.yvL (BE E) pre.length rs vs ws → (∀ x, x ∈ fz.fzL vs ws → x ∈ zs) → ws.length = us.length ∧ ∀ (i : Nat) (w : AV) (u : Value), ws[i]? = some w → us[i]? = some u → VRel (E.fin pre post rs zs) w u := by
    intro vs
    induction vs with
    | nil =>
      intro us hl _ ws hy _
      cases ws with
      | nil => exact ⟨hl, fun i w u h => by simp at h⟩
      | cons w r => exact hy.elim
    | cons v r ih =>
      intro us hl hd ws hy hz
      cases us with
      | nil => simp at hl
      | cons u us =>
        cases ws with
        | nil => exact hy.elim
        | cons w ws =>
          simp only [fz.fzL, List.mem_append] at hz
          obtain ⟨g1, g2⟩ := ih (us := us) (by simpa using hl) (fun i v' u' h1 h2 => hd (i + 1) v' u' (by simpa using h1) (by simpa using h2)) ws hy.2 (fun x hx => hz x (.inr hx))
          refine ⟨by simp [g1], fun i w' u' h1 h2 => ?_⟩
          cases i with
          | zero => simp at h1 h2; subst h1; subst h2; exact hd 0 v u rfl rfl w hy.1 (fun x hx => hz x (.inl hx))
          | succ i => exact g2 i w' u' (by simpa using h1) (by simpa using h2)
  induction hv with
  | any v =>
    intro r hy hz
    cases r <;> first | exact .any _ | exact data (.any v) _ hy hz | exact hy.elim | (rename_i vr; cases vr <;> exact hy.elim)
  | undef v hn =>
    intro r hy hz
    cases r <;> first | exact .any _ | exact data (.undef v hn) _ hy hz | exact hy.elim | (rename_i vr; cases vr <;> exact hy.elim)
  | anyb b =>
    intro r hy hz
    cases r <;> first | exact .any _ | exact data (.anyb b) _ hy hz | exact hy.elim | (rename_i vr; cases vr <;> exact hy.elim)
  | zc ad =>
    intro r hy hz
    cases r with
    | any => exact .any _
    | d x => exact data (.zc ad) _ hy hz
    | zc => exact .zc ad
    | own j ver =>
      cases ver with
      | succ n => exact hy.elim
      | zero =>
        obtain ⟨h1, h2⟩ := hy
        have hlt := (List.getElem?_eq_some_iff.1 h2).1
        have hlen := O.len
        refine .own j 0 0 _ ?_ (Nat.le_refl _) rfl (fun e xs he => ⟨fun _ => ⟨ad, rfl⟩, fun b hb => ?_⟩) (fun e cs he => ?_)
        · simp only [Env.fin]; rw [if_pos (by omega), if_neg (by omega)]
        · simp only [Env.fin, src_ge h1, h2] at hb; cases hb
        · rcases (O.get he).2 with ⟨id', b1, g1, _⟩ | ⟨_, _, _, g⟩
          · rw [src_ge h1, h2] at g1; cases g1
          · cases g
    | _ => exact hy.elim
  | d x v hd =>
    intro r hy hz
    cases r with
    | any => exact .any _
    | d y => exact data (.d x v hd) _ hy hz
    | agg ws =>
      obtain ⟨cs, rfl, hy⟩ := hy
      cases hd with
      | agg _ us hl hd h1 =>
        have hz : ∀ x, x ∈ fz.fzL (cs.map .d) ws → x ∈ zs := by
          have : ∀ (cs : List D) (ws : List AV), fz.fzL (cs.map .d) ws = [] := by
            intro cs
            induction cs with
            | nil => intro ws; rfl
            | cons c r ih =>
              intro ws
              cases ws with
              | nil => rfl
              | cons w ws =>
                simp only [List.map_cons, fz.fzL, ih, List.append_nil]
                cases w <;> rfl
          rw [this]; intro x hx; cases hx
        obtain ⟨g1, g2⟩ := lists (vs := cs.map .d) (us := us.toList) (by simpa using hl) (fun i v u h1 h2 r hr hzr => by
          simp only [List.getElem?_map] at h1
          cases hc : cs[i]? with
          | none => rw [hc] at h1; cases h1
          | some c =>
            rw [hc] at h1
            injection h1 with h1
            subst h1
            have hdc := hd i c u hc (by simpa using h2)
            cases r with
            | any => exact .any _
            | d y => exact data (.d c u hdc) _ hr hzr
            | agg ws' =>
              obtain ⟨cs', rfl, _⟩ := hr
              have := h1
              exact absurd (List.mem_of_getElem? hc) (fun hm => by
                have := (‹∀ d : D, d ∈ cs → d.one = true› _ hm)
                cases this)
            | own j ver => cases ver <;> exact hr.elim
            | _ => exact hr.elim) ws hy hz
        exact .agg ws us (by simpa using g1) (fun i w u h1 h2 => g2 i w u h1 (by simpa using h2)) (fun i u hu => by
          have hlt := (Array.getElem?_eq_some_iff.1 hu).1
          have hc : cs[i]? = some cs[i] := List.getElem?_eq_getElem (by omega)
          exact (hd i cs[i] u hc hu).one (h1 _ (List.mem_of_getElem? hc)))
    | own j ver => cases ver <;> exact hy.elim
    | _ => exact hy.elim
  | own id ver t v ht hver h1 hd hdb =>
    intro r hy hz
    cases r with
    | any => exact .any _
    | d x => exact data (.own id ver t v ht hver h1 hd hdb) _ hy hz
    | own j ver' =>
      obtain ⟨hs, hy, hB⟩ : src pre.length rs j = some id ∧ yver pre.length j ver ver' ∧ (BE E id ver).isSome = true := by cases ver' <;> exact hy
      obtain ⟨t', ht', hle⟩ := O.topE hs ht hver hy
      obtain ⟨e0, b0, hE⟩ := BE_isSome hB
      refine .own j ver' t' v ht' hle h1 (fun e xs he => ?_) (fun e cs he => ?_)
      case refine_2 =>
        rcases (O.get he).2 with ⟨id', b1, g1, _, g2, g3, _, g5, _⟩ | ⟨g1, g2, _⟩
        · rw [hs] at g1; injection g1 with g1; subst g1
          rw [hE] at g2; injection g2 with g2; subst g2
          simp only at g3 g5
          subst g3
          cases b0 <;> simp only [kin] at g5
          have := hdb _ _ hE
          simp only [Env.fin, hs, Option.bind_some]
          rw [g5] at this
          exact this
        · rw [src_ge g1, g2] at hs; cases hs
      rcases (O.get he).2 with ⟨id', b1, g1, _, g2, g3, _, g5, _⟩ | ⟨g1, g2, _⟩
      · rw [hs] at g1; injection g1 with g1; subst g1
        rw [hE] at g2; injection g2 with g2; subst g2
        simp only at g3 g5
        subst g3
        cases b0 <;> simp only [kin] at g5
        subst g5
        have := hd _ _ hE
        simp only [Env.fin, hs, Option.bind_some]
        exact this
      · rw [src_ge g1, g2] at hs; cases hs
    | _ => exact hy.elim
  | ptr id ver row off t v ht hver h1 hd =>
    intro r hy hz
    cases r with
    | any => exact .any _
    | d x => exact data (.ptr id ver row off t v ht hver h1 hd) _ hy hz
    | ptr j ver' row' off' =>
      obtain ⟨hs, hy, hB, rfl, rfl⟩ := hy
      obtain ⟨t', ht', hle⟩ := O.topE hs ht hver hy
      obtain ⟨e0, b0, hE⟩ := BE_isSome hB
      refine .ptr j ver' row off t' v ht' hle h1 fun e xs he => ?_
      rcases (O.get he).2 with ⟨id', b1, g1, _, g2, g3, _, g5, _⟩ | ⟨g1, g2, _⟩
      · rw [hs] at g1; injection g1 with g1; subst g1
        rw [hE] at g2; injection g2 with g2; subst g2
        simp only at g3
        subst g3
        have := hd _ _ hE
        simp only [Env.fin, hs, Option.bind_some]
        exact this
      · rw [src_ge g1, g2] at hs; cases hs
    | own j ver => cases ver <;> exact hy.elim
    | _ => exact hy.elim
  | agg vs us hl hd h1 ih =>
    intro r hy hz
    cases r with
    | any => exact .any _
    | d x => exact data (.agg vs us hl hd h1) _ hy hz
    | agg ws =>
      obtain ⟨g1, g2⟩ := lists (vs := vs) (us := us.toList) (by simpa using hl) (fun i v u h1 h2 => ih i v u h1 (by simpa using h2)) ws hy hz
      exact .agg ws us (by simpa using g1) (fun i w u h1 h2 => g2 i w u h1 (by simpa using h2)) h1
    | own j ver => cases ver <;> exact hy.elim
    | _ => exact hy.elim
  | tup vs us hl hd ih =>
    intro r hy hz
    cases r with
    | any => exact .any _
    | d x => exact data (.tup vs us hl hd) _ hy hz
    | tup ws =>
      obtain ⟨g1, g2⟩ := lists (vs := vs) (us := us.toList) (by simpa using hl) (fun i v u h1 h2 => ih i v u h1 (by simpa using h2)) ws hy hz
      exact .tup ws us (by simpa using g1) (fun i w u h1 h2 => g2 i w u h1 (by simpa using h2))
    | own j ver => cases ver <;> exact hy.elim
    | _ => exact hy.elim
  | fn f as bs us vs hl hl' hd hd' ih ih' =>
    intro r hy hz
    cases r with
    | any => exact .any _
    | d x => exact data (.fn f as bs us vs hl hl' hd hd') _ hy hz
    | fn f' as' bs' =>
      obtain ⟨rfl, hya, hyb⟩ := hy
      simp only [Vc.fz, List.mem_append] at hz
      obtain ⟨g1, g2⟩ := lists (vs := as) (us := us.toList) (by simpa using hl) (fun i v u h1 h2 => ih i v u h1 (by simpa using h2)) as' hya (fun x hx => hz x (.inl hx))
      obtain ⟨g3, g4⟩ := lists (vs := bs) (us := vs.toList) (by simpa using hl') (fun i v u h1 h2 => ih' i v u h1 (by simpa using h2)) bs' hyb (fun x hx => hz x (.inr hx))
      exact .fn f as' bs' us vs (by simpa using g1) (by simpa using g3) (fun i w u h1 h2 => g2 i w u h1 (by simpa using h2)) (fun i w u h1 h2 => g4 i w u h1 (by simpa using h2))
    | own j ver => cases ver <;> exact hy.elim
    | _ => exact hy.elim
  | iface t x u hd ih =>
    intro r hy hz
    cases r with
    | any => exact .any _
    | d y => exact data (.iface t x u hd) _ hy hz
    | iface t' x' =>
      obtain ⟨rfl, hy⟩ := hy
      exact .iface t x' u (ih x' hy (by simpa [Vc.fz] using hz))
    | own j ver => cases ver <;> exact hy.elim
    | _ => exact hy.elim
  | mapv id t v ht h1 hd =>
    intro r hy hz
    cases r with
    | any => exact .any _
    | d y => exact data (.mapv id t v ht h1 hd) _ hy hz
    | mapv j =>
      obtain ⟨hs, hB⟩ : src pre.length rs j = some id ∧ (BE E id 0).isSome = true := hy
      obtain ⟨t', ht'⟩ := O.topL hs ht
      obtain ⟨e0, b0, hE⟩ := BE_isSome hB
      refine .mapv j t' v ht' h1 fun e es ck he => ?_
      rcases (O.get he).2 with ⟨id', b1, g1, _, g2, g3, g4, g5, _⟩ | ⟨g1, g2, _⟩
      · rw [hs] at g1; injection g1 with g1; subst g1
        rw [hE] at g2; injection g2 with g2; subst g2
        cases b0 <;> simp only [kin] at g5
        have := hd _ _ _ hE
        simp only [Env.fin, hs, Option.bind_some]
        exact this
      · rw [src_ge g1, g2] at hs; cases hs
    | own j ver => cases ver <;> exact hy.elim
    | _ => exact hy.elim
  | iter id t v ht h1 hd =>
    intro r hy hz
    cases r with
    | any => exact .any _
    | d y => exact data (.iter id t v ht h1 hd) _ hy hz
    | iter j =>
      obtain ⟨hs, hB⟩ : src pre.length rs j = some id ∧ (BE E id 0).isSome = true := hy
      obtain ⟨t', ht'⟩ := O.topL hs ht
      obtain ⟨e0, b0, hE⟩ := BE_isSome hB
      refine .iter j t' v ht' h1 fun e es ck he => ?_
      rcases (O.get he).2 with ⟨id', b1, g1, _, g2, g3, g4, g5, _⟩ | ⟨g1, g2, _⟩
      · rw [hs] at g1; injection g1 with g1; subst g1
        rw [hE] at g2; injection g2 with g2; subst g2
        cases b0 <;> simp only [kin] at g5
        have := hd _ _ _ hE
        simp only [Env.fin, hs, Option.bind_some]
        exact this
      · rw [src_ge g1, g2] at hs; cases hs
    | own j ver => cases ver <;> exact hy.elim
    | _ => exact hy.elim
  | yld id t v ht h1 hd =>
    intro r hy hz
    cases r with
    | any => exact .any _
    | d y => exact data (.yld id t v ht h1 hd) _ hy hz
    | yld j =>
      obtain ⟨hs, hB⟩ : src pre.length rs j = some id ∧ (BE E id 0).isSome = true := hy
      obtain ⟨t', ht'⟩ := O.topL hs ht
      obtain ⟨e0, b0, hE⟩ := BE_isSome hB
      refine .yld j t' v ht' h1 fun e L he => ?_
      rcases (O.get he).2 with ⟨id', b1, g1, _, g2, g3, g4, g5, _⟩ | ⟨g1, g2, _⟩
      · rw [hs] at g1; injection g1 with g1; subst g1
        rw [hE] at g2; injection g2 with g2; subst g2
        cases b0 <;> simp only [kin] at g5
        have := hd _ _ hE
        simp only [Env.fin, hs, Option.bind_some]
        exact this
      · rw [src_ge g1, g2] at hs; cases hs
    | own j ver => cases ver <;> exact hy.elim
    | _ => exact hy.elim
end
end Go.Vc

namespace Go.Vc
open Go Go.RowKit
section
variable {C : Ctx} {E0 E : Env} {pre : List ABlk} {post : List PB} {rs : List (Option Nat)} {h : Heap} {zs : List Nat}
theorem VRel.ids_top {E : Env} {v : AV} {u : Value} (hv : VRel E v u) : ∀ k, k ∈ ids v → ∃ t, E.top k = some t := by
  have lists : ∀ {vs : List AV} {us : List Value}, vs.length = us.length → (∀ (i : Nat) (v : AV) (u : Value), vs[i]? = some v → us[i]? = some u → ∀ k, k ∈ ids v → ∃ t, E.top k = some t) → ∀ k, k ∈ ids.idsL vs → ∃ t, E.top k = some t := by
    intro vs
    induction vs with
    | nil => intro us _ _ k hk; simp [ids.idsL] at hk
    | cons v r ih =>
      intro us hl hd k hk
      cases us with
      | nil => simp at hl
      | cons u us =>
        simp only [ids.idsL, List.mem_append] at hk
        rcases hk with hk | hk
        · exact hd 0 v u rfl rfl k hk
        · exact ih (us := us) (by simpa using hl) (fun i v u h1 h2 => hd (i + 1) v u (by simpa using h1) (by simpa using h2)) k hk
  induction hv with
  | own id ver t v ht => intro k hk; simp [ids] at hk; subst hk; exact ⟨t, ht⟩
  | ptr id ver row off t v ht => intro k hk; simp [ids] at hk; subst hk; exact ⟨t, ht⟩
  | mapv id t v ht => intro k hk; simp [ids] at hk; subst hk; exact ⟨t, ht⟩
  | iter id t v ht => intro k hk; simp [ids] at hk; subst hk; exact ⟨t, ht⟩
  | yld id t v ht => intro k hk; simp [ids] at hk; subst hk; exact ⟨t, ht⟩
  | agg vs us hl hd h1 ih => intro k hk; exact lists (us := us.toList) (by simpa using hl) (fun i v u h1 h2 => ih i v u h1 (by simpa using h2)) k hk
  | tup vs us hl hd ih => intro k hk; exact lists (us := us.toList) (by simpa using hl) (fun i v u h1 h2 => ih i v u h1 (by simpa using h2)) k hk
  | fn f as bs us vs hl hl' hd hd' ih ih' =>
    intro k hk
    simp only [ids, List.mem_append] at hk
    rcases hk with hk | hk
    · exact lists (us := us.toList) (by simpa using hl) (fun i v u h1 h2 => ih i v u h1 (by simpa using h2)) k hk
    · exact lists (us := vs.toList) (by simpa using hl') (fun i v u h1 h2 => ih' i v u h1 (by simpa using h2)) k hk
  | iface t x u hd ih => exact ih
  | _ => intro k hk; simp [ids] at hk
theorem EndOK'.old (O : EndOK' C E0 E pre post rs h zs) {v : AV} {u : Value} (hv : VRel E v u) (hid : ∀ k, k ∈ ids v → k < pre.length) : VRel (E.fin pre post rs zs) v u := by
  have hlen := O.len
  have tp : ∀ {id t}, E.top id = some t → id < pre.length → (E.fin pre post rs zs).top id = some t := fun {id t} ht hid => by
    simp only [Env.fin]; rw [if_pos (by omega), if_pos hid]; exact ht
  have mm : ∀ {id}, id < pre.length → (E.fin pre post rs zs).m id = E.m id := fun {id} hid => by simp only [Env.fin, src_lt hid]; rfl
  have gt : ∀ {j : Nat} {b : ABlk}, j < pre.length → (E.fin pre post rs zs).H j = some b → ∃ b0, E.H j = some b0 ∧ b0.elem = b.elem ∧ b0.ver = b.ver ∧ kin b0.body b.body := fun {j b} hj hb => by
    rcases (O.get hb).2 with ⟨id', b1, g1, _, g2, g3, g4, g5, _⟩ | ⟨g1, g2, _⟩
    · rw [src_lt hj] at g1; injection g1 with g1; subst g1
      simp only [yver, if_pos hj] at g4
      exact ⟨b1, g2, g3, g4.symm, g5⟩
    · omega
  induction hv with
  | any v => exact .any v
  | undef v hn => exact .undef v hn
  | anyb b => exact .anyb b
  | d x v hd => exact .d x v (hd.mono (fun b h => .inl h) (fun _ _ => rfl))
  | zc ad => exact .zc ad
  | own id ver t v ht hver h1 hd hdb =>
    have hj := hid id (by simp [ids])
    refine .own id ver t v (tp ht hj) hver h1 (fun e xs he => ?_) (fun e cs he => ?_)
    case refine_2 =>
      obtain ⟨⟨bv, be, bb⟩, g1, g2, g3, g4⟩ := gt hj he
      simp only at g2 g3; subst g2; subst g3
      cases bb <;> simp only [kin] at g4
      rw [mm hj]
      have := hdb _ _ g1
      rw [g4] at this
      exact this
    obtain ⟨⟨bv, be, bb⟩, g1, g2, g3, g4⟩ := gt hj he
    simp only at g2 g3; subst g2; subst g3
    cases bb <;> simp only [kin] at g4
    subst g4
    rw [mm hj]
    exact hd _ _ g1
  | ptr id ver row off t v ht hver h1 hd =>
    have hj := hid id (by simp [ids])
    refine .ptr id ver row off t v (tp ht hj) hver h1 fun e xs he => ?_
    obtain ⟨⟨bv, be, bb⟩, g1, g2, g3, g4⟩ := gt hj he
    simp only at g2 g3; subst g2; subst g3
    rw [mm hj]
    exact hd _ _ g1
  | agg vs us hl hd h1 ih => exact .agg vs us hl (fun i v u hv hu => ih i v u hv hu fun k hk => hid k (by simp only [ids]; exact mem_idsL hv hk)) h1
  | fn f as bs us vs hl hl' hd hd' ih ih' =>
    exact .fn f as bs us vs hl hl' (fun i v u hv hu => ih i v u hv hu fun k hk => hid k (by simp only [ids, List.mem_append]; exact .inl (mem_idsL hv hk))) (fun i v u hv hu => ih' i v u hv hu fun k hk => hid k (by simp only [ids, List.mem_append]; exact .inr (mem_idsL hv hk)))
  | iface t x u hd ih => exact .iface t x u (ih fun k hk => hid k (by simpa [ids] using hk))
  | tup vs us hl hd ih => exact .tup vs us hl (fun i v u hv hu => ih i v u hv hu fun k hk => hid k (by simp only [ids]; exact mem_idsL hv hk))
  | mapv id t v ht h1 hd =>
    have hj := hid id (by simp [ids])
    refine .mapv id t v (tp ht hj) h1 fun e es ck he => ?_
    obtain ⟨⟨bv, be, bb⟩, g1, g2, g3, g4⟩ := gt hj he
    simp only at g2 g3; subst g2; subst g3
    cases bb <;> simp only [kin] at g4
    rw [mm hj]
    exact hd _ _ _ g1
  | iter id t v ht h1 hd =>
    have hj := hid id (by simp [ids])
    refine .iter id t v (tp ht hj) h1 fun e es ck he => ?_
    obtain ⟨⟨bv, be, bb⟩, g1, g2, g3, g4⟩ := gt hj he
    simp only at g2 g3; subst g2; subst g3
    cases bb <;> simp only [kin] at g4
    rw [mm hj]
    exact hd _ _ _ g1
  | yld id t v ht h1 hd =>
    have hj := hid id (by simp [ids])
    refine .yld id t v (tp ht hj) h1 fun e L he => ?_
    obtain ⟨⟨bv, be, bb⟩, g1, g2, g3, g4⟩ := gt hj he
    simp only at g2 g3; subst g2; subst g3
    cases bb <;> simp only [kin] at g4
    rw [mm hj]
    exact hd _ _ g1
theorem yvL_get {B : BF} {k : Nat} : ∀ {vs ws : List AV}, yv.yvL B k rs vs ws → ∀ (i : Nat) (w : AV), ws[i]? = some w → ∃ v, vs[i]? = some v ∧ yv B k rs v w ∧ ∀ x, x ∈ fz v w → x ∈ fz.fzL vs ws := by
  intro vs
  induction vs with
  | nil => intro ws h i w hw; cases ws with
    | nil => simp at hw
    | cons a r => exact h.elim
  | cons v r ih =>
    intro ws h i w hw
    cases ws with
    | nil => exact h.elim
    | cons a r' =>
      cases i with
      | zero => simp at hw; subst hw; exact ⟨v, rfl, h.1, fun x hx => by simp [fz.fzL, hx]⟩
      | succ i =>
        obtain ⟨y, h1, h2, h3⟩ := ih h.2 i w (by simpa using hw)
        exact ⟨y, by simpa using h1, h2, fun x hx => by simp [fz.fzL, h3 x hx]⟩
theorem yvT_get {B : BF} {k : Nat} : ∀ {vs ws : List (Nat × AV)}, yvT B k rs vs ws → ∀ (t : Nat) (w : AV), (t, w) ∈ ws → ∃ v, (t, v) ∈ vs ∧ yv B k rs v w ∧ ∀ x, x ∈ fz v w → x ∈ fzT vs ws := by
  intro vs
  induction vs with
  | nil => intro ws h t w hw; cases ws with
    | nil => cases hw
    | cons a r => exact h.elim
  | cons v r ih =>
    intro ws h t w hw
    obtain ⟨t1, v1⟩ := v
    cases ws with
    | nil => exact h.elim
    | cons a r' =>
      obtain ⟨t2, w2⟩ := a
      obtain ⟨rfl, h2, h3⟩ := h
      rcases List.mem_cons.1 hw with hw | hw
      · injection hw with e1 e2; subst e1; subst e2
        exact ⟨v1, by simp, h2, fun x hx => by simp [fzT, hx]⟩
      · obtain ⟨y, g1, g2, g3⟩ := ih h3 t w hw
        exact ⟨y, List.mem_cons_of_mem _ g1, g2, fun x hx => by simp [fzT, g3 x hx]⟩
theorem EndOK'.obj (O : EndOK' C E0 E pre post rs h zs) {e : TypeId} {b b' : Body} {o : Obj} (ho : OR E e b o) (hy : yb (BE E) pre.length rs b b') (hz : ∀ x, x ∈ fzB b b' → x ∈ zs) : OR (E.fin pre post rs zs) e b' o := by
  have dm : ∀ {x : D} {u : Value}, DRel E.w E.S x u → DRel (E.fin pre post rs zs).w (E.fin pre post rs zs).S x u := fun h => h.mono (fun b h => .inl h) (fun _ _ => rfl)
  cases b <;> cases b' <;> simp only [yb] at hy
  · subst hy
    obtain ⟨Cc, fr0, h1, hF, h2⟩ := ho
    exact ⟨Cc, fr0, h1, hF, h2.1, fun i d hi => let ⟨q1, u, q2, q3⟩ := h2.2 i d hi; ⟨q1, u, q2, dm q3⟩⟩
  · obtain ⟨Cc, h1, h2⟩ := ho
    refine ⟨Cc, h1, fun i w hi => ?_⟩
    obtain ⟨v, g1, g2, g3⟩ := yvL_get hy i w hi
    obtain ⟨u, q1, q2, q3⟩ := h2 i v g1
    exact ⟨u, q1, O.val q2 w g2 (fun x hx => hz x (g3 x hx)), q3⟩
  · obtain ⟨rfl, rfl⟩ := hy
    obtain ⟨ents, h1, h2, h3⟩ := ho
    exact ⟨ents, h1, h2, fun i x y hx hy => let ⟨a, b, c⟩ := h3 i x y hx hy; ⟨a, dm b, dm c⟩⟩
  · obtain ⟨rfl, rfl⟩ := hy
    exact ho
  · obtain ⟨e1, e2, e3, e4, e5, e6, hy⟩ := hy
    obtain ⟨fn, tmps, d, h1, h2, h3⟩ := ho
    refine ⟨fn, tmps, d, by rw [h1, e1, e2, e4, e5, e6], h2.trans e3, fun t w hw => ?_⟩
    obtain ⟨v, g1, g2, g3⟩ := yvT_get hy t w hw
    exact O.val (h3 t v g1) w g2 (fun x hx => hz x (g3 x hx))
theorem EndOK'.objOld (O : EndOK' C E0 E pre post rs h zs) {e : TypeId} {b : Body} {o : Obj} (ho : OR E e b o) (hid : ∀ k, k ∈ b.ids → k < pre.length) : OR (E.fin pre post rs zs) e b o := by
  have dm : ∀ {x : D} {u : Value}, DRel E.w E.S x u → DRel (E.fin pre post rs zs).w (E.fin pre post rs zs).S x u := fun h => h.mono (fun b h => .inl h) (fun _ _ => rfl)
  cases b with
  | lst xs =>
    obtain ⟨Cc, fr0, h1, hF, h2⟩ := ho
    exact ⟨Cc, fr0, h1, hF, h2.1, fun i d hi => let ⟨q1, u, q2, q3⟩ := h2.2 i d hi; ⟨q1, u, q2, dm q3⟩⟩
  | box cs =>
    obtain ⟨Cc, h1, h2⟩ := ho
    exact ⟨Cc, h1, fun i v hi => let ⟨u, q1, q2, q3⟩ := h2 i v hi; ⟨u, q1, O.old q2 fun k hk => hid k (by simp only [Body.ids]; exact mem_idsL hi hk), q3⟩⟩
  | mp es ck =>
    obtain ⟨ents, h1, h2, h3⟩ := ho
    exact ⟨ents, h1, h2, fun i x y hx hy => let ⟨a, b, c⟩ := h3 i x y hx hy; ⟨a, dm b, dm c⟩⟩
  | it s p => exact ho
  | loop L =>
    obtain ⟨fn, tmps, d, h1, h2, h3⟩ := ho
    exact ⟨fn, tmps, d, h1, h2, fun t v hv => O.old (h3 t v hv) fun k hk => hid k (by simp only [Body.ids]; exact mem_tmpIds hv hk)⟩
theorem tmpIds_mem' {k : Nat} : ∀ {ts : List (Nat × AV)}, k ∈ tmpIds ts → ∃ t v, (t, v) ∈ ts ∧ k ∈ ids v := by
  intro ts
  induction ts with
  | nil => intro h; simp [tmpIds] at h
  | cons p r ih =>
    intro h
    obtain ⟨t, v⟩ := p
    simp only [tmpIds, List.mem_append] at h
    rcases h with h | h
    · exact ⟨t, v, by simp, h⟩
    · obtain ⟨t', v', h1, h2⟩ := ih h; exact ⟨t', v', List.mem_cons_of_mem _ h1, h2⟩
theorem idsL_mem {k : Nat} : ∀ {vs : List AV}, k ∈ ids.idsL vs → ∃ (i : Nat) (v : AV), vs[i]? = some v ∧ k ∈ ids v := by
  intro vs
  induction vs with
  | nil => intro h; simp [ids.idsL] at h
  | cons v r ih =>
    intro h
    simp only [ids.idsL, List.mem_append] at h
    rcases h with h | h
    · exact ⟨0, v, rfl, h⟩
    · obtain ⟨i, v', h1, h2⟩ := ih h; exact ⟨i + 1, v', by simpa using h1, h2⟩
theorem StartOK.low (h : StartOK C pre E0) {j : Nat} {b : ABlk} (hb : E0.H j = some b) (_hs : ∀ (i : Nat) (v : AV) (cs : List AV), b.body = .box cs → cs[i]? = some v → ∀ (Cc : Array Value), BRb E0 Cc cs → True) : ∀ k, k ∈ b.body.ids → k < pre.length := by
  intro k hk
  obtain ⟨_, h2, h3⟩ := h.hr.blk j b hb
  have hm : ∃ g, E0.m j = some g := by
    cases hm : E0.m j with
    | some g => exact ⟨g, rfl⟩
    | none => rw [h2 hm] at hk; simp [Body.ids] at hk
  obtain ⟨g, hm⟩ := hm
  obtain ⟨_, o, _, ho⟩ := h3 g hm
  cases hbb : b.body with
  | lst xs => rw [hbb] at hk; simp [Body.ids] at hk
  | mp es ck => rw [hbb] at hk; simp [Body.ids] at hk
  | it s p => rw [hbb] at hk; simp [Body.ids] at hk
  | box cs =>
    rw [hbb] at hk ho
    obtain ⟨Cc, _, h5⟩ := ho
    obtain ⟨i, v, h6, h7⟩ := idsL_mem hk
    obtain ⟨u, _, h8, _⟩ := h5 i v h6
    obtain ⟨t, ht⟩ := h8.ids_top k h7
    exact h.top k t ht
  | loop L =>
    rw [hbb] at hk ho
    obtain ⟨fn, tmps, d, _, _, h5⟩ := ho
    obtain ⟨t, v, h6, h7⟩ := tmpIds_mem' hk
    obtain ⟨t', ht⟩ := (h5 t v h6).ids_top k h7
    exact h.top k t' ht
theorem EndOK'.hrF (O : EndOK' C E0 E pre post rs h zs) : HR C.N (E.fin pre post rs zs) where
  st b hb := by
    have hlt : b < E.w.heap.size := by
      rcases hb with hb | ⟨k, _, hk, hm⟩
      · exact (O.hr.st b hb).1
      · exact O.hr.blk_lt hk hm
    refine ⟨hlt, fun i hi hm => ?_⟩
    obtain ⟨b', hb'⟩ := Option.ne_none_iff_exists'.1 hi
    simp only [Env.fin] at hm
    rcases (O.get hb').2 with ⟨id, b0, g1, g2, g3, _⟩ | ⟨g1, g2, _⟩
    · rw [g1] at hm
      simp only [Option.bind_some] at hm
      rcases hb with hb | ⟨k, hk, hkH, hkm⟩
      · exact (O.hr.st b hb).2 id (by rw [g3]; simp) hm
      · have := O.hr.inj id k b (by rw [g3]; simp) hkH hm hkm
        subst this
        exact O.dj _ hk g2
    · rw [src_ge g1, g2] at hm; cases hm
  blk j b hb := by
    have hlen := O.len
    obtain ⟨hlt, hg⟩ := O.get hb
    rcases hg with ⟨id, b0, g1, _, g3, g4, g5, g6, g7⟩ | ⟨g1, g2, g3, g4⟩
    · obtain ⟨k1, k2, k3⟩ := O.hr.blk id b0 g3
      refine ⟨?_, fun hm => ?_, fun g hm => ?_⟩
      · simp only [Env.fin]
        rw [if_pos hlt]
        by_cases hj : j < pre.length
        · rw [if_pos hj]
          rw [src_lt hj] at g1; injection g1 with g1; subst g1
          simp only [yver, if_pos hj] at g5
          rw [k1, g5]
        · rw [if_neg hj]
          simp only [yver, if_neg hj] at g5
          rw [g5]
      · simp only [Env.fin, g1, Option.bind_some] at hm
        have := k2 hm
        rw [this] at g6
        cases hbb : b.body <;> rw [hbb] at g6 <;> simp only [kin] at g6
        rw [g6]
      · simp only [Env.fin, g1, Option.bind_some] at hm
        obtain ⟨j1, o, j2, j3⟩ := k3 g hm
        refine ⟨j1, o, j2, ?_⟩
        rcases g7 with ⟨hj, rfl, h0⟩ | ⟨hy, hz⟩
        · exact O.objOld j3 (O.st.low h0 (fun _ _ _ _ _ _ _ => trivial))
        · rw [← g4]
          exact O.obj j3 hy hz
    · refine ⟨?_, fun _ => g4, fun g hm => ?_⟩
      · simp only [Env.fin]
        rw [if_pos hlt, if_neg (by omega), g3]
      · simp only [Env.fin, src_ge g1, g2] at hm; cases hm
  inj i j g hi hj h1 h2 := by
    obtain ⟨bi, hbi⟩ := Option.ne_none_iff_exists'.1 hi
    obtain ⟨bj, hbj⟩ := Option.ne_none_iff_exists'.1 hj
    simp only [Env.fin] at h1 h2
    rcases (O.get hbi).2 with ⟨a, ba, a1, _, a3, _⟩ | ⟨a1, a2, _⟩
    · rcases (O.get hbj).2 with ⟨b, bb, b1, _, b3, _⟩ | ⟨b1, b2, _⟩
      · rw [a1] at h1; rw [b1] at h2
        simp only [Option.bind_some] at h1 h2
        have := O.hr.inj a b g (by rw [a3]; simp) (by rw [b3]; simp) h1 h2
        subst this
        exact O.src_inj a1 b1
      · rw [src_ge b1, b2] at h2; cases h2
    · rw [src_ge a1, a2] at h1; cases h1
theorem EndOK'.finG (O : EndOK' C E0 E pre post rs h zs) : FinOK C pre post E0 (E.fin pre post rs zs) where
  hr := O.hrF
  H i := rfl
  top id t ht := by
    simp only [Env.fin] at ht
    split at ht
    · assumption
    · cases ht
  go := by
    have g := O.go
    have hlen := O.len
    refine ⟨⟨g.step.P, fun b hb => .inl (g.step.S b hb), g.step.w, fun id t ht => ?_, fun id t b' ht hb hv => ?_⟩, g.os, g.tape, g.output, g.size, g.only, fun b hb => ?_, fun b hb => ?_⟩
    · have hid := O.st.top id t ht
      simp only [Env.fin]
      rw [if_pos (by omega), if_pos hid]
      exact g.step.top id t ht
    · have hid := O.st.top id t ht
      rcases (O.get hb).2 with ⟨a, ba, a1, _, a3, a4, a5, a6, _⟩ | ⟨a1, a2, _⟩
      · rw [src_lt hid] at a1; injection a1 with a1; subst a1
        simp only [yver, if_pos hid] at a5
        obtain ⟨m1, b, k1, k2, k3, k4, k5⟩ := g.step.blk id t ba ht a3 (by omega)
        refine ⟨?_, b, k1, k2.trans a5.symm, k3.trans a4, ?_, k5⟩
        · simp only [Env.fin, src_lt hid, Option.bind_some]; exact m1
        · have := a6.shape
          generalize b.body = x at k4
          generalize ba.body = y at k4 this
          generalize b'.body = z at this
          cases x <;> cases y <;> simp [sameShape] at k4 <;> cases z <;> simp [sameShape] at this <;> simp [sameShape, k4, this]
      · omega
    · refine g.own b ?_
      obtain ⟨i, h1, h2⟩ := hb
      obtain ⟨bi, hbi⟩ := Option.ne_none_iff_exists'.1 h1
      simp only [Env.fin] at h2
      rcases (O.get hbi).2 with ⟨a, ba, a1, _, a3, _⟩ | ⟨a1, a2, _⟩
      · rw [a1] at h2
        exact ⟨a, by rw [a3]; simp, h2⟩
      · rw [src_ge a1, a2] at h2; cases h2
    · rcases hb with hb | ⟨k, _, h1, h2⟩
      · exact g.st b hb
      · exact .inr (g.own b ⟨k, h1, h2⟩)
end
end Go.Vc
