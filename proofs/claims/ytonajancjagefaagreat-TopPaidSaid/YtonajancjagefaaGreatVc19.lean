/- A part of the proof: general laws of a reading of the model by abstract data, or contracts of the functions that the law calls. -/
import Derived.Test.YtonajancjagefaaGreatVc18
set_option maxRecDepth 100000
namespace Go.Vc
open Go Go.RowKit
def rz (h : Heap) (k : Nat) (rs : List Nat) : AV → AV
  | .d x => .d x
  | .zc => .zc
  | .own id ver => match (bodyOf h id ver).isSome with
    | true => match Nat.blt id k with | true => .own id ver | false => match rs.contains id with | true => .own (k + pos rs id) 0 | false => .any
    | false => .any
  | .ptr id ver row off => match (bodyOf h id ver).isSome with
    | true => match Nat.blt id k with | true => .ptr id ver row off | false => match rs.contains id with | true => .ptr (k + pos rs id) 0 row off | false => .any
    | false => .any
  | .mapv id => match (bodyOf h id 0).isSome with
    | true => match Nat.blt id k with | true => .mapv id | false => match rs.contains id with | true => .mapv (k + pos rs id) | false => .any
    | false => .any
  | .iter id => match (bodyOf h id 0).isSome with
    | true => match Nat.blt id k with | true => .iter id | false => match rs.contains id with | true => .iter (k + pos rs id) | false => .any
    | false => .any
  | .yld id => match (bodyOf h id 0).isSome with
    | true => match Nat.blt id k with | true => .yld id | false => match rs.contains id with | true => .yld (k + pos rs id) | false => .any
    | false => .any
  | .agg vs => .agg (rzL vs)
  | .fn f a b => .fn f (rzL a) (rzL b)
  | .iface t v => .iface t (rz h k rs v)
  | .tup vs => .tup (rzL vs)
  | _ => .any
  where rzL : List AV → List AV
  | [] => []
  | v :: r => rz h k rs v :: rzL r
def rzT (h : Heap) (k : Nat) (rs : List Nat) : List (Nat × AV) → List (Nat × AV)
  | [] => []
  | (t, v) :: r => (t, rz h k rs v) :: rzT h k rs r
def rzB (h : Heap) (k : Nat) (rs : List Nat) : Body → Body
  | .lst xs => .lst xs
  | .box cs => .box (rz.rzL h k rs cs)
  | .mp es ck => .mp es ck
  | .it s p => .it s p
  | .loop L => .loop { L with tmps := rzT h k rs L.tmps }
theorem pos_get : ∀ {ks : List Nat} {i : Nat}, i ∈ ks → ks[pos ks i]? = some i := by
  intro ks
  induction ks with
  | nil => intro i h; cases h
  | cons k r ih =>
    intro i h
    simp only [pos]
    split
    · rename_i hb; have := Nat.eq_of_beq_eq_true hb; subst this; rfl
    · rename_i hb
      rcases List.mem_cons.1 h with h | h
      · subst h; simp at hb
      · simpa using ih h
section
variable {h : Heap} {k : Nat} {rs : List Nat}
theorem src_old {id : Nat} (hk : Nat.blt id k = true) : src k (rs.map some) id = some id := by
  have : id < k := by simpa [Nat.blt_eq] using hk
  simp [src, this]
theorem src_pos {id : Nat} (hk : rs.contains id = true) : src k (rs.map some) (k + pos rs id) = some id := by
  have hm : id ∈ rs := by simpa using hk
  have hg := pos_get hm
  simp only [src, if_neg (show ¬ k + pos rs id < k by omega), Nat.add_sub_cancel_left, List.getElem?_map, hg]
  rfl
theorem rz_yv : ∀ v : AV, yv (bodyOf h) k (rs.map some) v (rz h k rs v) ∧ fz v (rz h k rs v) = []
  | .d x => ⟨rfl, rfl⟩
  | .zc => ⟨trivial, rfl⟩
  | .any => ⟨trivial, rfl⟩
  | .undef => ⟨trivial, rfl⟩
  | .anyb => ⟨trivial, rfl⟩
  | .own id ver => by
    simp only [rz]
    split
    · rename_i hB
      split
      · rename_i hk
        have hlt : id < k := by simpa [Nat.blt_eq] using hk
        refine ⟨?_, by cases ver <;> rfl⟩
        cases ver <;> exact ⟨src_old hk, by simp [yver, hlt], hB⟩
      · split
        · rename_i hc; exact ⟨⟨src_pos hc, by simp only [yver, if_neg (show ¬ k + pos rs id < k by omega)], hB⟩, rfl⟩
        · exact ⟨trivial, rfl⟩
    · exact ⟨trivial, rfl⟩
  | .ptr id ver row off => by
    simp only [rz]
    split
    · rename_i hB
      split
      · rename_i hk
        have hlt : id < k := by simpa [Nat.blt_eq] using hk
        exact ⟨⟨src_old hk, by simp [yver, hlt], hB, rfl, rfl⟩, rfl⟩
      · split
        · rename_i hc; exact ⟨⟨src_pos hc, by simp only [yver, if_neg (show ¬ k + pos rs id < k by omega)], hB, rfl, rfl⟩, rfl⟩
        · exact ⟨trivial, rfl⟩
    · exact ⟨trivial, rfl⟩
  | .mapv id => by
    simp only [rz]
    split
    · rename_i hB
      split
      · rename_i hk; exact ⟨⟨src_old hk, hB⟩, rfl⟩
      · split
        · rename_i hc; exact ⟨⟨src_pos hc, hB⟩, rfl⟩
        · exact ⟨trivial, rfl⟩
    · exact ⟨trivial, rfl⟩
  | .iter id => by
    simp only [rz]
    split
    · rename_i hB
      split
      · rename_i hk; exact ⟨⟨src_old hk, hB⟩, rfl⟩
      · split
        · rename_i hc; exact ⟨⟨src_pos hc, hB⟩, rfl⟩
        · exact ⟨trivial, rfl⟩
    · exact ⟨trivial, rfl⟩
  | .yld id => by
    simp only [rz]
    split
    · rename_i hB
      split
      · rename_i hk; exact ⟨⟨src_old hk, hB⟩, rfl⟩
      · split
        · rename_i hc; exact ⟨⟨src_pos hc, hB⟩, rfl⟩
        · exact ⟨trivial, rfl⟩
    · exact ⟨trivial, rfl⟩
  | .agg vs => go vs
  | .tup vs => go vs
  | .fn f a b => ⟨⟨rfl, (go a).1, (go b).1⟩, by simp only [rz, fz, (go a).2, (go b).2]; rfl⟩
  | .iface t v => ⟨⟨rfl, (rz_yv v).1⟩, (rz_yv v).2⟩
  where go : ∀ vs : List AV, yv.yvL (bodyOf h) k (rs.map some) vs (rz.rzL h k rs vs) ∧ fz.fzL vs (rz.rzL h k rs vs) = []
  | [] => ⟨trivial, rfl⟩
  | v :: r => ⟨⟨(rz_yv v).1, (go r).1⟩, by simp only [rz.rzL, fz.fzL, (rz_yv v).2, (go r).2]; rfl⟩
theorem rzT_yv : ∀ ts : List (Nat × AV), yvT (bodyOf h) k (rs.map some) ts (rzT h k rs ts) ∧ fzT ts (rzT h k rs ts) = []
  | [] => ⟨trivial, rfl⟩
  | (t, v) :: r => ⟨⟨rfl, (rz_yv v).1, (rzT_yv r).1⟩, by simp only [rzT, fzT, (rz_yv v).2, (rzT_yv r).2]; rfl⟩
theorem rzB_yb (b : Body) : yb (bodyOf h) k (rs.map some) b (rzB h k rs b) ∧ fzB b (rzB h k rs b) = [] := by
  cases b with
  | lst xs => exact ⟨rfl, rfl⟩
  | box cs => exact rz_yv.go cs
  | mp es ck => exact ⟨⟨rfl, rfl⟩, rfl⟩
  | it s p => exact ⟨⟨rfl, rfl⟩, rfl⟩
  | loop L => exact ⟨⟨rfl, rfl, rfl, rfl, rfl, rfl, (rzT_yv L.tmps).1⟩, (rzT_yv L.tmps).2⟩
def postOld (h : Heap) (k : Nat) (rs : List Nat) : List ABlk → Nat → List PB
  | [], _ => []
  | _ :: r, j => (match lookH h j with | some b => .upd ⟨b.ver, b.elem, rzB h k rs b.body⟩ | none => .gone) :: postOld h k rs r (j + 1)
def postNew (h : Heap) (k : Nat) (rs : List Nat) : List Nat → Option (List PB)
  | [] => some []
  | id :: r => match lookH h id with
    | some b => match postNew h k rs r with
      | some ps => some (.upd ⟨0, b.elem, rzB h k rs b.body⟩ :: ps)
      | none => none
    | none => none
theorem postNew_ok {pre : List ABlk} : ∀ {l : List Nat} {ps : List PB}, postNew h k rs l = some ps → ∀ j, k ≤ j → (∀ i : Nat, (rs[j - k + i]?) = l[i]?) → ps.length = l.length ∧ yh (bodyOf h) h k pre (rs.map some) ps j ∧ fzH h k (rs.map some) ps j = [] := by
  intro l
  induction l with
  | nil => intro ps hp j hj _; simp only [postNew, Option.some.injEq] at hp; subst hp; exact ⟨rfl, trivial, rfl⟩
  | cons id r ih =>
    intro ps hp j hj hr
    simp only [postNew] at hp
    split at hp
    · rename_i b hb
      split at hp
      · rename_i ps' hps
        injection hp with hp
        subst hp
        obtain ⟨g1, g2, g3⟩ := ih hps (j + 1) (by omega) (fun i => by
          have := hr (i + 1)
          rw [show j + 1 - k + i = j - k + (i + 1) by omega]; simpa using this)
        have h0 : (rs.map some)[j - k]? = some (some id) := by
          have := hr 0
          simp only [Nat.add_zero] at this
          simp [this]
        have hs : src k (rs.map some) j = some id := by simp only [src, if_neg (show ¬ j < k by omega), h0]; rfl
        refine ⟨by simp [g1], ⟨?_, g2⟩, ?_⟩
        · rw [if_neg (by omega), h0]
          exact ⟨b, hb, rfl, by simp [yver, Nat.not_lt.2 hj], (rzB_yb b.body).1⟩
        · simp only [fzH, hs, hb, (rzB_yb b.body).2, g3]; rfl
      · cases hp
    · cases hp
theorem postOld_ok {pre : List ABlk} {tl : List PB} (ht : yh (bodyOf h) h k pre (rs.map some) tl k ∧ fzH h k (rs.map some) tl k = []) : ∀ (l : List ABlk) (j : Nat), j + l.length = k → yh (bodyOf h) h k pre (rs.map some) (postOld h k rs l j ++ tl) j ∧ fzH h k (rs.map some) (postOld h k rs l j ++ tl) j = [] := by
  intro l
  induction l with
  | nil => intro j hj; simp only [List.length_nil, Nat.add_zero] at hj; subst hj; exact ht
  | cons b0 r ih =>
    intro j hj
    simp only [List.length_cons] at hj
    obtain ⟨g1, g2⟩ := ih (j + 1) (by omega)
    simp only [postOld, List.cons_append]
    cases hb : lookH h j with
    | none => exact ⟨g1, g2⟩
    | some b =>
      simp only
      refine ⟨⟨?_, g1⟩, ?_⟩
      · rw [if_pos (by omega)]
        exact ⟨b, hb, rfl, by simp [yver, show j < k by omega], (rzB_yb b.body).1⟩
      · have hs : src k (rs.map some) j = some j := by simp [src, show j < k by omega]
        simp only [fzH, hs, hb, (rzB_yb b.body).2, g2]; rfl
end
def endF (v : AV) (h : Heap) (pre : List ABlk) : Option (AV × List PB) :=
  let rs := (reach h 2000 [] (ids v ++ List.range pre.length)).filter fun i => Nat.ble 24 i
  match Nat.ble pre.length 24 && NodupB rs with
  | true => match postNew h pre.length rs rs with
    | some ps => some (rz h pre.length rs v, postOld h pre.length rs pre 0 ++ ps)
    | none => none
  | false => none
theorem endF_ok {v r : AV} {h : Heap} {pre : List ABlk} {post : List PB} (he : endF v h pre = some (r, post)) : POST v h pre r post := by
  unfold endF at he
  simp only at he
  generalize hrs : (reach h 2000 [] (ids v ++ List.range pre.length)).filter (fun i => Nat.ble 24 i) = rs at he
  split at he
  · rename_i hc
    simp only [Bool.and_eq_true] at hc
    split at he
    · rename_i ps hps
      injection he with he
      injection he with e1 e2
      subst e1; subst e2
      have hN := postNew_ok (pre := pre) hps pre.length (Nat.le_refl _) (fun i => by simp)
      have hO := postOld_ok (pre := pre) ⟨hN.2.1, hN.2.2⟩ pre 0 (by simp)
      have hf : (rs.map some).filterMap id = rs := by simp
      have hlen : ∀ (l : List ABlk) (j : Nat), (postOld h pre.length rs l j).length = l.length := by
        intro l
        induction l with
        | nil => intro j; rfl
        | cons b r ih => intro j; simp [postOld, ih]
      refine ⟨rs.map some, Nat.le_of_ble_eq_true hc.1, by simp [hlen, hN.1], ?_, ?_, (rz_yv v).1, hO.1, ?_⟩
      · rw [hf, ← hrs]
        refine List.all_eq_true.2 fun i hi => ?_
        exact (List.mem_filter.1 hi).2
      · rw [hf]; exact hc.2
      · rw [(rz_yv v).2, hO.2]; rfl
    · cases he
  · cases he
theorem LOAD_of {ag : Bool} {sz : Nat} {x v : AV} {h : Heap} {K : AV → Prop} (hl : LOADR ag sz x (bodyOf h) v) (hk : K v) : LOAD ag sz x h K := by
  unfold LOADR at hl
  unfold LOAD
  split at hl
  · cases ag with
    | true => obtain ⟨h1, rfl⟩ := hl; exact ⟨h1, hk⟩
    | false => obtain ⟨y, h1, rfl⟩ := hl; exact ⟨y, h1, hk⟩
  · simp only at hl ⊢
    split at hl
    · rename_i e cs hb
      rw [hb]
      obtain ⟨h0, hl⟩ := hl
      cases ag with
      | true => obtain ⟨h1, rfl⟩ := hl; exact ⟨h0, h1, hk⟩
      | false => exact ⟨h0, v, hl, hk⟩
    · rename_i e xs hb
      rw [hb]
      obtain ⟨y, h0, hl⟩ := hl
      cases ag with
      | true => obtain ⟨h1, rfl⟩ := hl; exact ⟨y, h0, h1, hk⟩
      | false => obtain ⟨z, h1, rfl⟩ := hl; exact ⟨y, h0, z, h1, hk⟩
    · exact hl.elim
  · exact hl.elim
def evRes (p : Program) (fr : Fr) (h : Heap) : List ResultVar → Option (List AV)
  | [] => some []
  | .tmp t :: r => match evRes p fr h r with | some vs => some (lk fr t :: vs) | none => none
  | .cell t ty :: r => match loadF (tAgg p ty) (tSize p ty) (lk fr t) (bodyOf h) with
    | some v => match evRes p fr h r with | some vs => some (v :: vs) | none => none
    | none => none
theorem evRes_ok {C : Ctx} {fr : Fr} {h : Heap} : ∀ (rs : List ResultVar) (vs : List AV) (K : List AV → Prop), evRes C.prog fr h rs = some vs → K vs → resOf C fr h rs K := by
  intro rs
  induction rs with
  | nil => intro vs K he hk; simp only [evRes, Option.some.injEq] at he; subst he; exact hk
  | cons r rs ih =>
    intro vs K he hk
    cases r with
    | tmp t =>
      simp only [evRes] at he
      split at he
      · rename_i vs' hv; injection he with he; subst he; exact ih vs' _ hv hk
      · cases he
    | cell t ty =>
      simp only [evRes] at he
      split at he
      · rename_i v hl
        split at he
        · rename_i vs' hv; injection he with he; subst he; exact LOAD_of (loadF_R hl) (ih vs' _ hv hk)
        · cases he
      · cases he
abbrev Tab := List (Nat × Func × (Nat → List Nat))
def tabF : Tab → Nat → Option (Func × (Nat → List Nat))
  | [], _ => none
  | (k, x) :: r, i => match Nat.beq k i with | true => some x | false => tabF r i
def defParts : Code → Option (Code × Oper × Oper × Code)
  | .seq c1 (.seq (.region _ ⟨[o1, o2]⟩ false) c2) => match o2.op with | .defer _ => some (c1, o1, o2, c2) | _ => none
  | _ => none
def recParts : Code → Option (Nat × Code)
  | .seq (.region _ ⟨[o]⟩ false) rest => match o.op, o.guard, o.dst with
    | .call c, none, some t => match c.callee with | .builtin .recover => some (t, rest) | _ => none
    | _, _, _ => none
  | _ => none
def fnEvOK (P : Program) (fn : Func) : Bool := !(fn.name == "runtime.NumGoroutine") && resTyOK P fn.results.toList && match fn.body with
  | some c => match recParts c with
    | some (t, rest) => codeOK P fn.ntmps false rest && Nat.blt t fn.ntmps && fn.results.isEmpty
    | none => match defParts c with
      | some (c1, o1, _, c2) => codeOK P fn.ntmps false c1 && opOK P fn.ntmps o1 && codeOK P fn.ntmps false c2
      | none => codeOK P fn.ntmps true c
  | none => false
def TabOK (P : Program) : Tab → Prop
  | [] => True
  | (k, fn, _) :: r => (P.funcs[k]? = some fn ∧ fnEvOK P fn = true) ∧ TabOK P r
theorem TabOK.get {P : Program} : ∀ {tab : Tab}, TabOK P tab → ∀ {f : Nat} {fn : Func} {ann : Nat → List Nat}, tabF tab f = some (fn, ann) → P.funcs[f]? = some fn ∧ fnEvOK P fn = true := by
  intro tab
  induction tab with
  | nil => intro _ f fn ann h; cases h
  | cons x r ih =>
    intro ht f fn ann h
    obtain ⟨k, fn', ann'⟩ := x
    simp only [tabF] at h
    split at h
    · rename_i hb
      have := Nat.eq_of_beq_eq_true hb
      subst this
      injection h with h
      injection h with h1 h2
      subst h1
      exact ht.1
    · exact ih ht.2 h
end Go.Vc
