/- A part of the proof: general laws of a reading of the model by abstract data, or contracts of the functions that the law calls. -/
import Derived.Laws.StructEq
import Derived.Test.YtonajancjagefaaGreatVc1
set_option maxRecDepth 100000
namespace Go.Vc
open Go Go.RowKit
def evF (F : Nat → AV) : Operand → AV
  | .tmp t => F t
  | .const v => ofConst v
  | .func f => .d (.fn f [] [])
  | .global _ => .any
def setF (F : Nat → AV) (dst : Option Nat) (v : AV) : Nat → AV := match dst with | some t => fun i => if t = i then v else F i | none => F
def inUps : Heap → Nat → Option (Option ABlk)
  | [], _ => none
  | (k, b) :: r, i => if k = i then some b else inUps r i
def upH (H : HF) (ups : Heap) : HF := fun i => (inUps ups i).getD (H i)
theorem lookH_append (ups h : Heap) (i : Nat) : lookH (ups ++ h) i = upH (lookH h) ups i := by
  induction ups with
  | nil => rfl
  | cons p r ih =>
    obtain ⟨k, b⟩ := p
    simp only [List.cons_append, lookH, upH, inUps]
    by_cases hk : k = i
    · subst hk; simp
    · have hb : Nat.beq k i = false := by
        cases hb : Nat.beq k i
        · rfl
        · exact absurd (Nat.eq_of_beq_eq_true hb) hk
      rw [hb, if_neg hk]; exact ih
def mark (r : Nat) : Deferred := { target := .collected r, args := #[] }
structure Base (C : Ctx) (E0 : Env) : Prop where
  G : C.G E0.w
  hN : C.N ≤ E0.w.heap.size
  hr : HR C.N E0
def MarkOK (E : Env) (r : Nat) : Prop := r < E.w.heap.size ∧ ¬ E.S r ∧ ¬ E.Ow r ∧ E.w.heap[r]? = some (.deferred (some []))
theorem MarkOK.go {E E' : Env} {r : Nat} (h : MarkOK E r) (hg : E.Go E') : MarkOK E' r := by
  obtain ⟨h1, h2, h3, h4⟩ := h
  refine ⟨Nat.lt_of_lt_of_le h1 hg.size, fun h => ?_, fun h => ?_, (hg.only r h1 h3).trans h4⟩
  · rcases hg.st r h with h | h | h
    · exact h2 h
    · exact h3 h
    · omega
  · rcases hg.own r h with h | h
    · exact h3 h
    · omega
structure Rel (C : Ctx) (n : Nat) (D0 : List Deferred) (E0 : Env) (U : Nat → Prop) (F : Nat → AV) (E : Env) (a : Act) : Prop where
  prog : E.P = C.prog
  base : Base C E0
  hr : HR C.N E
  go : E0.Go E
  defers : ∃ rs : List Nat, a.defers = rs.map mark ++ D0 ∧ rs.Nodup ∧ ∀ r, r ∈ rs → (E0.w.heap.size ≤ r ∧ C.marks = true) ∧ MarkOK E r
  tmps : a.tmps.size = n
  fr : ∀ t, VRel E (F t) (a.tmps.getD t undef)
  used : ∀ id t, E.top id = some t → U id
def Wf (ro : Option Nat) : Fence := { Fence.wide with round := ro }
theorem Wf_fn (ro : Option Nat) (f : FuncId) : (Wf ro).fn f := trivial
theorem Wf_depth (ro : Option Nat) (n : Nat) : (Wf ro).depth.isSome = true → 1 ≤ n := fun h => by cases h
theorem wpIn_of {ro : Option Nat} {P : Program} {o : Oper} {a : Act} {w : World} {K : Act → World → Prop} {Q : Exit → Act → World → Prop} (hnd : ∀ c, o.op ≠ .defer c) (h : o.uponIn (Wf ro) 0 P a K Q ((execOp a.eval o).run P w)) :
    o.wpIn (Wf ro) 0 P a w K Q := by
  refine ⟨fun f _ => Wf_fn ro f, ?_⟩
  rw [Oper.semAt_eq _ _ _ hnd]
  exact h
section
variable {C : Ctx} {n : Nat} {D0 : List Deferred} {E0 : Env} {U : Nat → Prop} {F : Nat → AV} {E : Env} {a : Act}
theorem ofConst_slice (a : Option Addr) (l c : Nat) : (ofConst (.slice a l c) = .zc ∧ a = none ∧ l = 0 ∧ c = 0) ∨ ofConst (.slice a l c) = .any := by
  rcases a with _ | a <;> rcases l with _ | l <;> rcases c with _ | c <;> simp [ofConst]
theorem VRel.ofConst (E : Env) (v : Value) : VRel E (ofConst v) v := by
  cases v with
  | bool b => exact .d _ _ (.bool _)
  | int k n => exact .d _ _ (.num _ _)
  | string s =>
    refine .d _ _ ?_
    have : s = ⟨s.data.toList.toArray⟩ := by simp
    rw [this]
    exact .str _
  | slice a l c =>
    rcases ofConst_slice a l c with ⟨h, rfl, rfl, rfl⟩ | h
    · exact .zc none
    · rw [h]; exact .any _
  | nilIface => exact .d _ _ .nili
  | nilFunc => exact .d _ _ .nilf
  | _ => exact .any _
theorem Rel.ev (hR : Rel C n D0 E0 U F E a) (x : Operand) : VRel E (evF F x) (a.eval x) := by
  cases x with
  | tmp t => exact hR.fr t
  | const v => exact .ofConst E v
  | global g => exact .any _
  | func f => exact .d _ _ (.fn f [] [] #[] #[] rfl rfl (fun i d u h => by simp at h) (fun i d u h => by simp at h))
theorem tmps_put (a : Act) (dst : Option Nat) (v : Value) (t : Nat) : (a.put dst v).tmps.getD t undef = if dst = some t ∧ t < a.tmps.size then v else a.tmps.getD t undef := by
  cases dst with
  | none => simp [Act.put]
  | some d =>
    simp only [Act.put, Array.getD_eq_getD_getElem?, Array.getElem?_setIfInBounds, Option.some.injEq]
    by_cases hd : d = t
    · subst hd
      by_cases hl : d < a.tmps.size
      · simp [hl]
      · simp [hl]
    · simp [hd]
theorem size_put (a : Act) (dst : Option Nat) (v : Value) : (a.put dst v).tmps.size = a.tmps.size := by
  cases dst <;> simp [Act.put]
theorem defers_put (a : Act) (dst : Option Nat) (v : Value) : (a.put dst v).defers = a.defers := by
  cases dst <;> rfl
theorem Rel.G (hR : Rel C n D0 E0 U F E a) : C.G E.w := C.hG _ _ hR.base.G (hR.go.below hR.base.hN hR.base.hr)
theorem Rel.hN (hR : Rel C n D0 E0 U F E a) : C.N ≤ E.w.heap.size := Nat.le_trans hR.base.hN hR.go.size
theorem Rel.put (hR : Rel C n D0 E0 U F E a) {E' : Env} {U' : Nat → Prop} (hg : E.Go E') (hr : HR C.N E')
    (hU : ∀ id t, E'.top id = some t → U' id) {dst : Option Nat} {v : AV} {u : Value} (hd : ∀ t, dst = some t → t < n) (hv : VRel E' v u) : Rel C n D0 E0 U' (setF F dst v) E' (a.put dst u) where
  prog := hg.step.P.trans hR.prog
  base := hR.base
  hr := hr
  go := hR.go.trans hg
  defers := by
    obtain ⟨rs, h1, h2, h3⟩ := hR.defers
    exact ⟨rs, (defers_put a dst u).trans h1, h2, fun r hr => let ⟨k1, k2⟩ := h3 r hr; ⟨k1, k2.go hg⟩⟩
  tmps := (size_put a dst u).trans hR.tmps
  fr t := by
    rw [tmps_put]
    cases dst with
    | none => simpa [setF] using (hR.fr t).step hg.step
    | some d =>
      by_cases hdt : d = t
      · subst hdt
        have := hd d rfl
        simpa [setF, hR.tmps, this] using hv
      · simpa [setF, hdt] using (hR.fr t).step hg.step
  used := hU
theorem Rel.turn (hR : Rel C n D0 E0 U F E a) {E' : Env} {U' : Nat → Prop} (hg : E.Go E') (hr : HR C.N E') (hU : ∀ id t, E'.top id = some t → U' id) : Rel C n D0 E0 U' F E' a where
  prog := hg.step.P.trans hR.prog
  base := hR.base
  hr := hr
  go := hR.go.trans hg
  defers := by
    obtain ⟨rs, h1, h2, h3⟩ := hR.defers
    exact ⟨rs, h1, h2, fun r hr => let ⟨k1, k2⟩ := h3 r hr; ⟨k1, k2.go hg⟩⟩
  tmps := hR.tmps
  fr t := (hR.fr t).step hg.step
  used := hU
theorem Rel.put0 (hR : Rel C n D0 E0 U F E a) {dst : Option Nat} {v : AV} {u : Value} (hd : ∀ t, dst = some t → t < n) (hv : VRel E v u) {U' : Nat → Prop} (hU : ∀ id, U id → U' id) : Rel C n D0 E0 U' (setF F dst v) E (a.put dst u) :=
  hR.put (.refl E) hR.hr (fun id t h => hU _ (hR.used id t h)) hd hv
def BE (E : Env) : BF := fun id ver => bodyAt (E.H id) ver
theorem BE_some {E : Env} {id ver : Nat} {e : TypeId} {b : Body} (h : BE E id ver = some (e, b)) : E.H id = some ⟨ver, e, b⟩ := by
  unfold BE bodyAt at h
  split at h
  · rename_i v e' b' hH
    split at h
    · rename_i hv
      injection h with h
      injection h with h1 h2
      rw [hH, ← hv, h1, h2]
    · cases h
  · cases h
theorem VRel.inv_d {E : Env} {x : D} {u : Value} (h : VRel E (.d x) u) : DRel E.w E.S x u := by cases h; assumption
theorem own_data {N : Nat} {E : Env} (hr : HR N E) {id ver : Nat} {e : TypeId} {xs : List D} {u : Value} (hB : BE E id ver = some (e, .lst xs)) (hv : VRel E (.own id ver) u) (S' : Nat → Prop) (hS : ∀ b, E.S b → S' b) (hid : ∀ b, E.m id = some b → S' b) : DRel E.w S' (.list xs) u := by
  have hH := BE_some hB
  cases hv with
  | own _ _ t _ ht hle ho h _ =>
    obtain ⟨g1, g2⟩ := h e xs hH
    obtain ⟨_, k1, k2⟩ := hr.blk id _ hH
    cases hm : E.m id with
    | none =>
      obtain ⟨ad, rfl⟩ := g1 hm
      have := k1 hm
      simp only [Body.lst.injEq] at this
      subst this
      exact .list0 _ _
    | some b =>
      obtain ⟨cap, C, el, fr, rfl, h1, h2, h3, h4⟩ := g2 b hm
      obtain ⟨_, o, k3, C', fr', rfl, _, k4⟩ := k2 b hm
      rw [h3] at k3
      injection k3 with k3
      injection k3 with k3 k5 k6
      subst k3
      refine .list xs (tSize E.P e) b 0 cap (fun i => C.getD i undef) (hid b hm) h1 h2 k4.1 (fun i d hi => ?_) (fun i d hi => ?_) (fun i d hi => (k4.2 i d hi).1)
      · obtain ⟨_, u, hu, _⟩ := k4.2 i d hi
        simp [World.cell?, h3, hu, Array.getD_eq_getD_getElem?]
      · obtain ⟨_, u, hu, hd⟩ := k4.2 i d hi
        simp only [Array.getD_eq_getD_getElem?, hu, Option.getD_some]
        exact hd.mono hS (fun _ _ => rfl)
theorem HR.lst {N : Nat} {E : Env} (hr : HR N E) {id ver : Nat} {e : TypeId} {xs : List D} (h : E.H id = some ⟨ver, e, .lst xs⟩) {g : Nat} (hm : E.m id = some g) : N ≤ g ∧ ∃ C fr, E.w.heap[g]? = some (.cells C e fr) ∧ FrB C fr ∧ BRl E (tSize E.P e) C xs := by
  obtain ⟨_, _, k⟩ := hr.blk id _ h
  obtain ⟨h1, o, h2, C, fr, rfl, h0, h3⟩ := k g hm
  exact ⟨h1, C, fr, h2, h0, h3⟩
theorem HR.box {N : Nat} {E : Env} (hr : HR N E) {id ver : Nat} {e : TypeId} {cs : List AV} (h : E.H id = some ⟨ver, e, .box cs⟩) {g : Nat} (hm : E.m id = some g) : N ≤ g ∧ ∃ C, E.w.heap[g]? = some (.cells C e (0, 0)) ∧ BRb E C cs := by
  obtain ⟨_, _, k⟩ := hr.blk id _ h
  obtain ⟨h1, o, h2, C, rfl, h3⟩ := k g hm
  exact ⟨h1, C, h2, h3⟩
end
end Go.Vc

namespace Go.Vc
open Go Go.RowKit
def Sound (C : Ctx) (ro : Option Nat) (n : Nat) (D0 : List Deferred) (E0 : Env) (U : Nat → Prop) (F : Nat → AV) (E : Env) (a : Act) (o : Oper) (new : Nat) (v : AV) (ups : Heap) : Prop :=
  (∀ c, o.op ≠ .defer c) → ∀ (K : Act → World → Prop) (Q : Exit → Act → World → Prop),
    (∀ a' E', Rel C n D0 E0 (fun id => U id ∨ (new ≤ id ∧ id < new + 8)) (setF F o.dst v) E' a' → E'.H = upH E.H ups → K a' E'.w) → o.wpIn (Wf ro) 0 C.prog a E.w K Q
theorem add_mk (b o j : Nat) : (⟨b, o, none⟩ : Addr).add j = ⟨b, o + j, none⟩ := by
  unfold Addr.add; split <;> simp_all
theorem DRel.one' {w : World} {S : Nat → Prop} {d : D} {v : Value} (h : DRel w S d v) (h1 : v.oneCell' = true) : d.one = true := by
  cases h <;> first | rfl | cases h1
section
variable {P : Program} {w : World}
theorem und_info {t : TypeId} (h : (P.underlying t).isSome = true) : ∃ i, P.info? t = some i := by
  unfold Program.underlying at h
  split at h
  · exact ⟨_, by assumption⟩
  · exact ⟨_, by assumption⟩
  · simp at h
theorem run_sizeOf' {t : TypeId} (h : (P.underlying t).isSome = true) : (sizeOf t).run P w = .ok (tSize P t) w := by
  obtain ⟨i, hi⟩ := und_info h
  simp [sizeOf, typeInfo, hi, tSize]
theorem run_und {t : TypeId} (h : (P.underlying t).isSome = true) : (underlying t).run P w = .ok (tDesc P t) w := by
  obtain ⟨d, hd⟩ := Option.isSome_iff_exists.1 h
  simp [underlying, hd, tDesc]
theorem run_isAgg' {t : TypeId} (h : (P.underlying t).isSome = true) : (isAgg t).run P w = .ok (tAgg P t) w := by
  simp only [isAgg, Sem.run_bind, run_und h, Result.andThen_ok, tAgg]
  cases tDesc P t <;> rfl
theorem run_loadVar_agg {t : TypeId} (h : (P.underlying t).isSome = true) (ha : tAgg P t = true) (b o : Nat) (us : Nat → Value)
    (hc : ∀ j, j < tSize P t → w.cell? ⟨b, o + j, none⟩ = some (us j)) : (loadVar t ⟨b, o, none⟩).run P w = .ok (.agg ((List.range (tSize P t)).map us).toArray) w := by
  have hl := run_loadCells (P := P) w ⟨b, o, none⟩ (tSize P t) us (fun j hj => by rw [add_mk]; exact hc j hj)
  simp only [loadVar, Sem.run_bind, run_isAgg' h, Result.andThen_ok, ha, if_true, run_sizeOf' h, hl, Sem.run_pure]
theorem run_loadVar_one {t : TypeId} (h : (P.underlying t).isSome = true) (ha : tAgg P t = false) (b o : Nat) (u : Value)
    (hc : w.cell? ⟨b, o, none⟩ = some u) : (loadVar t ⟨b, o, none⟩).run P w = .ok u w := by
  simp only [loadVar, Sem.run_bind, run_isAgg' h, Result.andThen_ok, ha, Bool.false_eq_true, if_false, run_load, hc]
end
section
variable {C : Ctx} {ro : Option Nat} {n : Nat} {D0 : List Deferred} {E0 : Env} {U : Nat → Prop} {F : Nat → AV} {E : Env} {a : Act} {o : Oper} {new : Nat} {v : AV}
theorem sound_val (hR : Rel C n D0 E0 U F E a) (hd : ∀ t, o.dst = some t → t < n) (u : Value) (hrun : (execOp a.eval o).run C.prog E.w = .ok (.value u) E.w) (hv : VRel E v u) : Sound C ro n D0 E0 U F E a o new v [] := by
  intro hnd K Q hK
  refine wpIn_of hnd ?_
  rw [hrun, Oper.uponIn_value]
  exact hK _ E (hR.put0 hd hv fun id h => .inl h) rfl
theorem VRel.inv_bool {b : Bool} {u : Value} (h : VRel E (.d (.bool b)) u) : u = .bool b := by cases h.inv_d; rfl
theorem VRel.inv_num {k : IntKind} {m : Int} {u : Value} (h : VRel E (.d (.num k m)) u) : u = .int k m := by cases h.inv_d; rfl
theorem VRel.inv_str {s : List UInt8} {u : Value} (h : VRel E (.d (.str s)) u) : u = .string ⟨s.toArray⟩ := by cases h.inv_d; rfl
theorem VRel.mkAgg' {vs : List AV} {us : Array Value} (hl : vs.length = us.size) (hd : ∀ (i : Nat) (v : AV) (u : Value), vs[i]? = some v → us[i]? = some u → VRel E v u) (h1 : ∀ (i : Nat) (u : Value), us[i]? = some u → u.oneCell' = true) : VRel E (mkAgg vs) (.agg us) := by
  unfold mkAgg
  split
  · rename_i ds hds
    have key : ∀ (vs : List AV) (ds : List D), allD vs = some ds → vs = ds.map .d := by
      intro vs
      induction vs with
      | nil => intro ds h; simp [allD] at h; subst h; rfl
      | cons v r ih =>
        intro ds h
        cases v <;> simp only [allD] at h <;> try (cases h; done)
        rename_i x
        cases hr : allD r with
        | none => rw [hr] at h; cases h
        | some xs =>
          rw [hr] at h
          simp only [Option.map_some, Option.some.injEq] at h
          subst h
          rw [ih xs hr]; rfl
    have hv := key vs ds hds
    subst hv
    refine .d _ _ (.agg ds us (by simpa using hl) (fun i d u hi hu => (hd i _ u (by simp [hi]) hu).inv_d) (fun d hm => ?_))
    obtain ⟨i, hi⟩ := List.getElem?_of_mem hm
    have hlt : i < us.size := by
      have := (List.getElem?_eq_some_iff.1 hi).1
      simp at hl; omega
    have hu : us[i]? = some us[i] := Array.getElem?_eq_getElem hlt
    exact (hd i _ _ (by simp [hi]) hu).inv_d.one' (h1 i _ hu)
  · exact .agg vs us hl hd h1
theorem flat_get : ∀ (xs : List D) (sz row off : Nat) (x y : D), (∀ z, z ∈ xs → z.cells.length = sz) → xs[row]? = some x → x.cells[off]? = some y → (flat xs)[row * sz + off]? = some y := by
  intro xs
  induction xs with
  | nil => intro sz row off x y _ h; simp at h
  | cons z r ih =>
    intro sz row off x y hs hx hy
    have hz := hs z (by simp)
    simp only [flat, List.flatMap_cons]
    cases row with
    | zero =>
      simp at hx; subst hx
      have hlt : off < z.cells.length := (List.getElem?_eq_some_iff.1 hy).1
      rw [List.getElem?_append_left (by omega)]
      simpa using hy
    | succ k =>
      simp at hx
      rw [List.getElem?_append_right (by rw [hz, Nat.succ_mul]; omega)]
      have e : (k + 1) * sz + off - z.cells.length = k * sz + off := by rw [hz, Nat.succ_mul]; omega
      rw [e]
      exact ih sz k off x y (fun z hz => hs z (by simp [hz])) hx hy
theorem load_sound (hR : Rel C n D0 E0 U F E a) {t : TypeId} {x : AV} {ux : Value} (hx : VRel E x ux) (ht : (C.prog.underlying t).isSome = true) (hE : LOADR (tAgg C.prog t) (tSize C.prog t) x (BE E) v) :
    ∃ u, (Instr.loadAt t ux).run C.prog E.w = .ok u E.w ∧ VRel E v u := by
  have hP := hR.prog
  unfold LOADR at hE
  split at hE
  · rename_i cs
    have h := hx.inv_d
    cases h with
    | cp _ b off us hb hcell hd h1 =>
      cases hag : tAgg C.prog t with
      | true =>
        rw [hag] at hE
        obtain ⟨hsz, rfl⟩ := hE
        refine ⟨_, by simp only [Instr.loadAt, Instr.sureAddr, Sem.run_bind, Sem.run_pure, Result.andThen_ok]; exact run_loadVar_agg ht hag b off us (fun j hj => hcell j _ (List.getElem?_eq_getElem (by omega))), ?_⟩
        refine .d _ _ (.agg _ _ (by simp; omega) (fun i d u hi hu => ?_) (fun d hm => h1 d (List.mem_of_mem_take hm)))
        rw [List.getElem?_take] at hi
        split at hi
        · simp only [List.getElem?_toArray, List.getElem?_map] at hu
          rw [List.getElem?_range (by omega)] at hu
          simp at hu
          subst hu
          exact hd i d hi
        · cases hi
      | false =>
        rw [hag] at hE
        obtain ⟨y, hy, rfl⟩ := hE
        have h0 : cs[0]? = some y := by rw [← hy, List.head?_eq_getElem?]
        refine ⟨us 0, by simp only [Instr.loadAt, Instr.sureAddr, Sem.run_bind, Sem.run_pure, Result.andThen_ok]; exact run_loadVar_one ht hag b off _ (by simpa using hcell 0 y h0), .d _ _ (hd 0 y h0)⟩
  · rename_i id ver row off
    cases hx with
    | ptr _ _ _ _ tt _ htop hle ho h =>
      split at hE
      · rename_i e cs hB
        have hH := BE_some hB
        obtain ⟨b, hm, rfl⟩ := h e _ hH
        obtain ⟨_, Cc, k3, k4⟩ := hR.hr.box hH hm
        obtain ⟨rfl, hE⟩ := hE
        simp only [Nat.zero_mul, Nat.zero_add]
        have hcell : ∀ i w, cs[i]? = some w → ∃ u, E.w.cell? ⟨b, i, none⟩ = some u ∧ VRel E w u ∧ u.oneCell' = true := fun i w hi => by
          obtain ⟨u, hu, h1, h2⟩ := k4 i w hi
          exact ⟨u, by simp [World.cell?, k3, hu], h1, h2⟩
        cases hag : tAgg C.prog t with
        | true =>
          rw [hag] at hE
          obtain ⟨hsz, rfl⟩ := hE
          have hu : ∀ j, j < tSize C.prog t → ∃ u, E.w.cell? ⟨b, off + j, none⟩ = some u := fun j hj => by
            obtain ⟨u, hu, _⟩ := hcell (off + j) _ (List.getElem?_eq_getElem (by omega))
            exact ⟨u, hu⟩
          refine ⟨_, by simp only [Instr.loadAt, Instr.sureAddr, Sem.run_bind, Sem.run_pure, Result.andThen_ok]; exact run_loadVar_agg ht hag b off (fun j => (E.w.cell? ⟨b, off + j, none⟩).getD undef) (fun j hj => by obtain ⟨u, hu⟩ := hu j hj; simp [hu]), ?_⟩
          have hx : ∀ (i : Nat) (u : Value), ((List.range (tSize C.prog t)).map fun j => (E.w.cell? ⟨b, off + j, none⟩).getD undef).toArray[i]? = some u → i < tSize C.prog t ∧ E.w.cell? ⟨b, off + i, none⟩ = some u := fun i u hi => by
            simp only [List.getElem?_toArray, List.getElem?_map] at hi
            by_cases hlt : i < tSize C.prog t
            · rw [List.getElem?_range hlt] at hi
              obtain ⟨u', hu'⟩ := hu i hlt
              simp [hu'] at hi
              exact ⟨hlt, by rw [hu', hi]⟩
            · rw [List.getElem?_eq_none (by simp; omega)] at hi; cases hi
          refine VRel.mkAgg' (by simp; omega) (fun i v u hi hu => ?_) (fun i u hu => ?_)
          · obtain ⟨hlt, hc⟩ := hx i u hu
            rw [List.getElem?_take, if_pos hlt, List.getElem?_drop] at hi
            obtain ⟨u', hu', h1, _⟩ := hcell _ _ hi
            rw [hc] at hu'
            injection hu' with hu'
            subst hu'
            exact h1
          · obtain ⟨hlt, hc⟩ := hx i u hu
            obtain ⟨u', hu', _, h1⟩ := hcell (off + i) _ (List.getElem?_eq_getElem (by omega))
            rw [hc] at hu'
            injection hu' with hu'
            subst hu'
            exact h1
        | false =>
          rw [hag] at hE
          obtain ⟨u, hu, h1, _⟩ := hcell _ _ hE
          exact ⟨u, by simp only [Instr.loadAt, Instr.sureAddr, Sem.run_bind, Sem.run_pure, Result.andThen_ok]; exact run_loadVar_one ht hag b off _ hu, h1⟩
      · rename_i e xs hB
        have hH := BE_some hB
        obtain ⟨b, hm, rfl⟩ := h e _ hH
        obtain ⟨_, Cc, fr0, k3, _, k4, k5⟩ := hR.hr.lst hH hm
        obtain ⟨y, hy, hE⟩ := hE
        have hcell : ∀ i z, y.cells[i]? = some z → ∃ u, E.w.cell? ⟨b, row * tSize E.P e + i, none⟩ = some u ∧ DRel E.w E.S z u ∧ z.one = true := fun i z hi => by
          obtain ⟨h1, u, hu, h2⟩ := k5 _ _ (flat_get xs _ row i y z k4 hy hi)
          exact ⟨u, by simp [World.cell?, k3, hu], h2, h1⟩
        cases hag : tAgg C.prog t with
        | true =>
          rw [hag] at hE
          obtain ⟨hsz, rfl⟩ := hE
          have hu : ∀ j, j < tSize C.prog t → ∃ u, E.w.cell? ⟨b, row * tSize E.P e + off + j, none⟩ = some u := fun j hj => by
            obtain ⟨u, hu, _⟩ := hcell (off + j) _ (List.getElem?_eq_getElem (by omega))
            exact ⟨u, by rw [Nat.add_assoc]; exact hu⟩
          refine ⟨_, by simp only [Instr.loadAt, Instr.sureAddr, Sem.run_bind, Sem.run_pure, Result.andThen_ok]; exact run_loadVar_agg ht hag b (row * tSize E.P e + off) (fun j => (E.w.cell? ⟨b, row * tSize E.P e + off + j, none⟩).getD undef) (fun j hj => by obtain ⟨u, hu⟩ := hu j hj; simp [hu]), ?_⟩
          refine .d _ _ (.agg _ _ (by simp; omega) (fun i d u hi hu' => ?_) (fun d hm => ?_))
          · rw [List.getElem?_take] at hi
            split at hi
            · rename_i hlt
              simp only [List.getElem?_toArray, List.getElem?_map] at hu'
              rw [List.getElem?_range hlt] at hu'
              rw [List.getElem?_drop] at hi
              obtain ⟨u', hc, h1, _⟩ := hcell _ _ hi
              rw [← Nat.add_assoc] at hc
              simp [hc] at hu'
              subst hu'
              exact h1
            · cases hi
          · obtain ⟨i, hi⟩ := List.getElem?_of_mem (List.mem_of_mem_drop (List.mem_of_mem_take hm))
            obtain ⟨_, _, _, h1⟩ := hcell _ _ hi
            exact h1
        | false =>
          rw [hag] at hE
          obtain ⟨z, hz, rfl⟩ := hE
          obtain ⟨u, hu, h1, _⟩ := hcell _ _ hz
          exact ⟨u, by simp only [Instr.loadAt, Instr.sureAddr, Sem.run_bind, Sem.run_pure, Result.andThen_ok]; exact run_loadVar_one ht hag b _ _ hu, .d _ _ h1⟩
      · exact hE.elim
  · exact hE.elim
end
end Go.Vc

namespace Go.Vc
open Go Go.RowKit
section
variable {P : Program} {w : World} {S : Nat → Prop}
theorem bin_num (nf : Nat) (k : IntKind) (op : BinOp) (t : TypeId) (x y : Int) (r : D) (h : binD nf op (.num k x) (.num k y) = some r) :
    ∃ u, (binOp op t (.int k x) (.int k y)).run P w = .ok u w ∧ DRel w S r u := by
  cases op with
  | add => simp [binD] at h; subst h; exact ⟨_, by simp [binOp, Op.intArith], .num _ _⟩
  | sub => simp [binD] at h; subst h; exact ⟨_, by simp [binOp, Op.intArith], .num _ _⟩
  | mul => simp [binD] at h; subst h; exact ⟨_, by simp [binOp, Op.intArith], .num _ _⟩
  | quo =>
    simp [binD] at h
    obtain ⟨h0, h⟩ := h
    subst h
    exact ⟨_, by simp [binOp, Op.intDiv, h0], .num _ _⟩
  | rem =>
    simp [binD] at h
    obtain ⟨h0, h⟩ := h
    subst h
    exact ⟨_, by simp [binOp, Op.intDiv, h0], .num _ _⟩
  | eql =>
    simp [binD, cmpD] at h; subst h
    refine ⟨.bool _, ?_, .bool _⟩
    have e : (x == y) = decide (x = y) := by by_cases hxy : x = y <;> simp [hxy]
    simp [binOp, Op.intCmp, e]
  | neq =>
    simp [binD, cmpD] at h; subst h
    refine ⟨.bool _, ?_, .bool _⟩
    have e : (x != y) = !decide (x = y) := by by_cases hxy : x = y <;> simp [hxy]
    simp [binOp, Op.intCmp, e]
  | lss => simp [binD, cmpD] at h; subst h; exact ⟨.bool _, by simp [binOp, Op.intCmp], .bool _⟩
  | leq => simp [binD, cmpD] at h; subst h; exact ⟨.bool _, by simp [binOp, Op.intCmp], .bool _⟩
  | gtr => simp [binD, cmpD] at h; subst h; exact ⟨.bool _, by simp [binOp, Op.intCmp], .bool _⟩
  | geq => simp [binD, cmpD] at h; subst h; exact ⟨.bool _, by simp [binOp, Op.intCmp], .bool _⟩
  | _ => simp [binD, cmpD] at h
theorem beq_list (a b : List UInt8) : (a == b) = decide (a = b) := by by_cases h : a = b <;> simp [h]
theorem bin_str (nf : Nat) (op : BinOp) (t : TypeId) (x y : List UInt8) (r : D) (h : binD nf op (.str x) (.str y) = some r) :
    ∃ u, (binOp op t (.string ⟨x.toArray⟩) (.string ⟨y.toArray⟩)).run P w = .ok u w ∧ DRel w S r u := by
  have hs : ∀ z : List UInt8, (⟨z.toArray⟩ : ByteArray).size = z.length := fun z => by simp [ByteArray.size]
  have hl : ∀ z : List UInt8, (⟨z.toArray⟩ : ByteArray).toList = z := fun z => by simp [ByteArray.toList_eq]
  cases op with
  | add =>
    simp [binD] at h
    obtain ⟨h0, h⟩ := h
    subst h
    refine ⟨.string ⟨(x ++ y).toArray⟩, ?_, .str _⟩
    have hb : ¬ (((⟨x.toArray⟩ : ByteArray).size + (⟨y.toArray⟩ : ByteArray).size : Nat) : Int) > IntKind.i64.max := by
      rw [hs, hs]; simp [IntKind.max, IntKind.signed, IntKind.bits]; omega
    simp only [binOp, Op.stringOp, if_neg hb]
    have ha : (⟨x.toArray⟩ ++ ⟨y.toArray⟩ : ByteArray) = ⟨(x ++ y).toArray⟩ := by
      apply ByteArray.ext
      simp
    rw [ha]; rfl
  | eql =>
    simp [binD] at h; subst h
    exact ⟨.bool _, by simp [binOp, Op.stringOp, hl, beq_list], .bool _⟩
  | neq =>
    simp [binD] at h; subst h
    exact ⟨.bool _, by simp [binOp, Op.stringOp, hl, beq_list], .bool _⟩
  | _ => simp [binD] at h
theorem bin_bool (nf : Nat) (op : BinOp) (t : TypeId) (x y : Bool) (r : D) (hnf : nf = 999 → tDesc P t = .bool) (h : binD nf op (.bool x) (.bool y) = some r) :
    ∃ u, (binOp op t (.bool x) (.bool y)).run P w = .ok u w ∧ DRel w S r u := by
  have hu : nf = 999 → P.underlying t = some .bool := fun h9 => by
    have ht := hnf h9
    unfold tDesc at ht
    cases hd : P.underlying t with
    | none => rw [hd] at ht; cases ht
    | some d => rw [hd] at ht; simp at ht; rw [ht]
  cases op with
  | eql =>
    simp [binD] at h
    obtain ⟨h9, h⟩ := h
    subst h
    have he := run_equalIn_bool' (P := P) w 9999 t x y (hu h9)
    refine ⟨.bool _, ?_, .bool _⟩
    simp only [binOp]
    simp [Op.equal, Op.maxDepth, he]
  | neq =>
    simp [binD] at h
    obtain ⟨h9, h⟩ := h
    subst h
    have he := run_equalIn_bool' (P := P) w 9999 t x y (hu h9)
    refine ⟨.bool _, ?_, .bool _⟩
    simp only [binOp]
    simp [Op.equal, Op.maxDepth, he]
  | _ => simp [binD] at h
def plainField (P : Program) (f : Field) : Bool := match P.underlying f.type with | some (.int _) => true | _ => false
def plainFrom (P : Program) : List Field → Nat → Bool
  | [], _ => true
  | f :: r, i => f.offset == i && !(f.name == "_") && plainField P f && plainFrom P r (i + 1)
def plainStruct (P : Program) (t : TypeId) : Bool :=
  (match P.underlying t with | some (.struct fs) => plainFrom P fs.toList 0 | _ => false) && !P.stoodInHeld t && !P.eqGuardType P.depth t
theorem part_one (t : TypeId) (cs : Array Value) (i : Nat) (u : Value) (ht : (P.underlying t).isSome = true) (ha : tAgg P t = false) (h : cs[i]? = some u) : (part t cs i).run P w = .ok u w := by
  simp [part, run_isAgg' ht, ha, h]
theorem eqField_one (d : Nat) (f : Field) (hf : plainField P f = true) (x y : D) (u v : Value) (b : Bool) (hx : DRel w S x u) (hy : DRel w S y v) (hb : D.beq x y = some b) :
    (Op.equalIn (d + 1) f.type u v).run P w = .ok b w := by
  cases x <;> cases y <;> simp only [D.beq] at hb <;> try (cases hb; done)
  rename_i k n k' n'
  split at hb
  · rename_i hkk
    subst hkk
    cases hx; cases hy
    obtain ⟨k', hk'⟩ : ∃ k', P.underlying f.type = some (.int k') := by
      unfold plainField at hf
      split at hf
      · exact ⟨_, by assumption⟩
      · cases hf
    rw [run_equalIn_int w d f.type k k' n n' hk']
    injection hb with hb
    subst hb
    congr 1
  · cases hb
theorem eqFields_plain (d : Nat) (xs ys : Array Value) : ∀ (fs : List Field) (i : Nat) (as bs : List D) (x : Bool), plainFrom P fs i = true →
    (∀ j dd, as[j]? = some dd → ∃ u, xs[i + j]? = some u ∧ DRel w S dd u) → (∀ j dd, bs[j]? = some dd → ∃ u, ys[i + j]? = some u ∧ DRel w S dd u) →
    as.length = fs.length → beqAll as bs = some x → (Op.eqFields (d + 1) xs ys fs).run P w = .ok x w := by
  intro fs
  induction fs with
  | nil =>
    intro i as bs x _ _ _ hl hb
    cases as with
    | nil =>
      cases bs with
      | nil => simp [beqAll] at hb; subst hb; rfl
      | cons b bs => simp [beqAll] at hb
    | cons a as => simp at hl
  | cons f fs ih =>
    intro i as bs x hp ha hbs hl hb
    cases as with
    | nil => simp at hl
    | cons a as =>
      cases bs with
      | nil => simp [beqAll] at hb
      | cons b bs =>
        simp only [plainFrom, Bool.and_eq_true, beq_iff_eq, Bool.not_eq_true', beq_eq_false_iff_ne] at hp
        obtain ⟨⟨⟨ho, hn⟩, hf⟩, hp⟩ := hp
        simp only [beqAll] at hb
        cases h1 : D.beq a b with
        | none => rw [h1] at hb; cases hb
        | some y =>
          rw [h1] at hb
          simp only [Option.bind_some] at hb
          cases h2 : beqAll as bs with
          | none => rw [h2] at hb; cases hb
          | some z =>
            rw [h2] at hb
            simp only [Option.map_some, Option.some.injEq] at hb
            obtain ⟨u, hu, hdu⟩ := ha 0 a rfl
            obtain ⟨v, hv, hdv⟩ := hbs 0 b rfl
            have ht : (P.underlying f.type).isSome = true := by
              unfold plainField at hf; split at hf <;> simp_all
            have hag : tAgg P f.type = false := by
              unfold plainField at hf
              split at hf
              · rename_i k hk; simp [tAgg, tDesc, hk]
              · cases hf
            simp only [Nat.add_zero] at hu hv
            have e1 := part_one (P := P) (w := w) f.type xs i u ht hag hu
            have e2 := part_one (P := P) (w := w) f.type ys i v ht hag hv
            have e3 := eqField_one (P := P) d f hf a b u v y hdu hdv h1
            have e4 := ih (i + 1) as bs z hp (fun j dd hj => by have := ha (j + 1) dd (by simpa using hj); rwa [show i + (j + 1) = i + 1 + j by omega] at this) (fun j dd hj => by have := hbs (j + 1) dd (by simpa using hj); rwa [show i + (j + 1) = i + 1 + j by omega] at this) (by simpa using hl) h2
            simp only [Op.eqFields, ho, if_pos hn, Sem.run_bind, e1, e2, e3, Result.andThen_ok, Sem.run_ite, Sem.run_pure, e4]
            subst hb
            cases y <;> simp
theorem bin_agg (op : BinOp) (t : TypeId) (x y : List D) (us vs : Array Value) (r : D) (ht : plainStruct P t = true) (hx : DRel w S (.agg x) (.agg us)) (hy : DRel w S (.agg y) (.agg vs)) (h : binD (tTag P t) op (.agg x) (.agg y) = some r) (ox oy : Operand) :
    ∃ u, ((do eqGuard op t ox oy (.agg us) (.agg vs); binOp op t (.agg us) (.agg vs)) : Sem Value).run P w = .ok u w ∧ DRel w S r u := by
  simp only [plainStruct, Bool.and_eq_true, Bool.not_eq_true'] at ht
  obtain ⟨⟨h1, h2⟩, h3⟩ := ht
  split at h1
  · rename_i fs hfs
    have hfo : P.underlying t = some (.struct (P.fieldsOf t)) := by
      rw [hfs]; simp [Program.fieldsOf, hfs]
    have hfe : P.fieldsOf t = fs := by rw [hfs] at hfo; injection hfo with hfo; injection hfo with hfo; exact hfo.symm
    have hgd := run_eqGuard_agg (P := P) w op t ox oy us vs h3
    have hsize : tTag P t = fs.toList.length + 1000 := by simp [tTag, tDesc, hfs]
    have main : x.length + 1000 = tTag P t → ∀ b, beqAll x y = some b → (Op.equalIn 10000 t (.agg us) (.agg vs)).run P w = .ok b w := by
      intro hl b hb
      rw [run_equalIn_agg w 9999 t us vs hfo h2, hfe]
      cases hx with
      | agg _ _ hlx hdx _ =>
        cases hy with
        | agg _ _ hly hdy _ =>
          refine eqFields_plain (S := S) 9998 us vs fs.toList 0 x y b h1 (fun j dd hj => ?_) (fun j dd hj => ?_) (by omega) hb
          · have hlt := (List.getElem?_eq_some_iff.1 hj).1
            have hu : us[j]? = some us[j] := Array.getElem?_eq_getElem (by omega)
            exact ⟨us[j], by simp, hdx j dd _ hj hu⟩
          · have hlt := (List.getElem?_eq_some_iff.1 hj).1
            have hu : vs[j]? = some vs[j] := Array.getElem?_eq_getElem (by omega)
            exact ⟨vs[j], by simp, hdy j dd _ hj hu⟩
    cases op <;> try (simp [binD] at h; done)
    · simp only [binD] at h
      split at h
      case isFalse => cases h
      rename_i hl
      cases hb : beqAll x y with
      | none => rw [hb] at h; cases h
      | some b =>
        rw [hb] at h
        simp only [Option.map_some, Option.some.injEq] at h
        subst h
        refine ⟨.bool b, ?_, .bool _⟩
        simp only [Sem.run_bind, hgd, Result.andThen_ok, run_eql_struct, main hl b hb]
    · simp only [binD] at h
      split at h
      case isFalse => cases h
      rename_i hl
      cases hb : beqAll x y with
      | none => rw [hb] at h; cases h
      | some b =>
        rw [hb] at h
        simp only [Option.map_some, Option.some.injEq] at h
        subst h
        refine ⟨.bool (!b), ?_, .bool _⟩
        simp only [Sem.run_bind, hgd, Result.andThen_ok, run_neq_struct, main hl b hb]
  · cases h1
end
end Go.Vc

namespace Go.Vc
open Go Go.RowKit
section
variable {C : Ctx} {ro : Option Nat} {n : Nat} {D0 : List Deferred} {E0 : Env} {U : Nat → Prop} {F : Nat → AV} {E : Env} {a : Act} {o : Oper} {new : Nat} {v : AV}
theorem exec_bin {o : Oper} {op : BinOp} {t t' : TypeId} {x y : Operand} (ho : o.op = .binOp op t x y t') (ρ : Operand → Value) (P : Program) (w : World) :
    (execOp ρ o).run P w = (((do eqGuard op t x y (ρ x) (ρ y); binOp op t (ρ x) (ρ y)) : Sem Value).run P w).andThen fun u w' => .ok (.value u) w' := by
  simp only [execOp, ho, Sem.run_bind, Sem.run_pure]
theorem guard_int (op : BinOp) (t : TypeId) (x y : Operand) (k k' : IntKind) (i j : Int) (P : Program) (w : World) : (eqGuard op t x y (.int k i) (.int k' j)).run P w = .ok () w := by
  cases op <;> simp [eqGuard]
theorem guard_str (op : BinOp) (t : TypeId) (x y : Operand) (i j : ByteArray) (P : Program) (w : World) : (eqGuard op t x y (.string i) (.string j)).run P w = .ok () w := by
  cases op <;> simp [eqGuard]
theorem guard_bool (op : BinOp) (t : TypeId) (x y : Operand) (i j : Bool) (P : Program) (w : World) : (eqGuard op t x y (.bool i) (.bool j)).run P w = .ok () w := by
  cases op <;> simp [eqGuard]
def binTyOK (P : Program) (t : TypeId) : Bool := match tDesc P t with | .struct _ => plainStruct P t | _ => true
theorem binop_sound {op : BinOp} {t t' : TypeId} {x y : Operand} (ho : o.op = .binOp op t x y t') {da db r : D} (hx : VRel E (.d da) (a.eval x)) (hy : VRel E (.d db) (a.eval y)) (hty : binTyOK C.prog t = true)
    (h : binD (tTag C.prog t) op da db = some r) : ∃ u, (execOp a.eval o).run C.prog E.w = .ok (.value u) E.w ∧ VRel E (.d r) u := by
  have hda := hx.inv_d
  have hdb := hy.inv_d
  rw [exec_bin ho]
  generalize a.eval x = ux at *
  generalize a.eval y = uy at *
  cases da <;> cases db <;> try (simp [binD] at h; done)
  · rename_i k i k' j
    cases hda; cases hdb
    have hk : k = k' := by
      by_cases hk : k = k'
      · exact hk
      · simp [binD, hk] at h
    subst hk
    obtain ⟨u, h1, h2⟩ := bin_num (P := C.prog) (w := E.w) (S := E.S) _ k op t i j r h
    exact ⟨u, by simp only [Sem.run_bind, guard_int, Result.andThen_ok, h1], .d _ _ h2⟩
  · rename_i i j
    cases hda; cases hdb
    obtain ⟨u, h1, h2⟩ := bin_bool (P := C.prog) (w := E.w) (S := E.S) _ op t i j r (fun h9 => by
      unfold tTag at h9
      split at h9 <;> first | assumption | omega) h
    exact ⟨u, by simp only [Sem.run_bind, guard_bool, Result.andThen_ok, h1], .d _ _ h2⟩
  · rename_i i j
    cases hda; cases hdb
    obtain ⟨u, h1, h2⟩ := bin_str (P := C.prog) (w := E.w) (S := E.S) _ op t i j r h
    exact ⟨u, by simp only [Sem.run_bind, guard_str, Result.andThen_ok, h1], .d _ _ h2⟩
  · rename_i i j
    cases hda with
    | agg _ us hl hd h1 =>
      cases hdb with
      | agg _ vs hl' hd' h1' =>
        have htag : i.length + 1000 = tTag C.prog t := by
          cases op <;> simp only [binD] at h <;> try (cases h; done)
          all_goals
            split at h
            · assumption
            · cases h
        have hps : plainStruct C.prog t = true := by
          unfold tTag at htag
          unfold binTyOK at hty
          split at htag
          · rename_i fs hfs
            rw [hfs] at hty
            exact hty
          · omega
          · omega
          · omega
          · omega
        obtain ⟨u, h1, h2⟩ := bin_agg (P := C.prog) (w := E.w) (S := E.S) op t i j us vs r hps (.agg _ _ hl hd h1) (.agg _ _ hl' hd' h1') h x y
        exact ⟨u, by rw [h1]; rfl, .d _ _ h2⟩
  · cases hdb
    cases hda with
    | fn _ _ _ us vs hl hl' hd hd' =>
      have htag : tTag C.prog t = 997 := by
        cases op <;> simp only [binD] at h <;> try (cases h; done)
        all_goals
          split at h
          · assumption
          · cases h
      obtain ⟨ps, rs, vr, hund⟩ : ∃ ps rs vr, C.prog.underlying t = some (.func ps rs vr) := by
        unfold tTag tDesc at htag
        cases hu : C.prog.underlying t with
        | none => rw [hu] at htag; cases htag
        | some d =>
          rw [hu] at htag
          cases d <;> simp only [Option.getD_some] at htag <;> first | exact ⟨_, _, _, rfl⟩ | (exfalso; omega)
      have he : ∀ g, (Op.equal t (.func (.func g) us vs) .nilFunc).run C.prog E.w = .ok false E.w := fun g => by
        show (Op.equalIn (9999 + 1) t _ _).run C.prog E.w = _
        unfold Op.equalIn
        simp [run_underlying hund]
      cases op <;> simp only [binD] at h <;> try (cases h; done)
      all_goals
        rw [if_pos htag] at h
        injection h with h
        subst h
      · exact ⟨.bool false, by simp [eqGuard, binOp, he], .d _ _ (.bool _)⟩
      · exact ⟨.bool true, by simp [eqGuard, binOp, he], .d _ _ (.bool _)⟩
  · cases hda; cases hdb
    have htag : tTag C.prog t = 997 := by
      cases op <;> simp only [binD] at h <;> try (cases h; done)
      all_goals
        split at h
        · assumption
        · cases h
    obtain ⟨ps, rs, vr, hund⟩ : ∃ ps rs vr, C.prog.underlying t = some (.func ps rs vr) := by
      unfold tTag tDesc at htag
      cases hu : C.prog.underlying t with
      | none => rw [hu] at htag; cases htag
      | some d =>
        rw [hu] at htag
        cases d <;> simp only [Option.getD_some] at htag <;> first | exact ⟨_, _, _, rfl⟩ | (exfalso; omega)
    have he : (Op.equal t .nilFunc .nilFunc).run C.prog E.w = .ok true E.w := by
      show (Op.equalIn (9999 + 1) t _ _).run C.prog E.w = _
      unfold Op.equalIn
      simp [run_underlying hund]
    cases op <;> simp only [binD] at h <;> try (cases h; done)
    all_goals
      rw [if_pos htag] at h
      injection h with h
      subst h
    · exact ⟨.bool true, by simp [eqGuard, binOp, he], .d _ _ (.bool _)⟩
    · exact ⟨.bool false, by simp [eqGuard, binOp, he], .d _ _ (.bool _)⟩
def fieldTyOK (P : Program) (t : TypeId) (f : Nat) : Bool := match P.underlying t with
  | some (.struct fs) => (match fs[f]? with | some fd => (P.underlying fd.type).isSome && !(tSize P fd.type == 0) | none => false)
  | _ => false
theorem faddr_sound {s : TypeId} {x : AV} {ux : Value} {f : Nat} (hx : VRel E x ux) (hty : fieldTyOK C.prog s f = true) (hE : FADDRR ((tFields C.prog s).getD f (0, 0)).1 x (BE E) v) :
    ∃ u, (Instr.fieldAt s ux f).run C.prog E.w = .ok u E.w ∧ VRel E v u := by
  unfold fieldTyOK at hty
  split at hty
  · rename_i fs hfs
    split at hty
    · rename_i fd hfd
      simp only [Bool.and_eq_true, Bool.not_eq_true', beq_eq_false_iff_ne] at hty
      have hoff : ((tFields C.prog s).getD f (0, 0)).1 = fd.offset := by
        simp [tFields, tDesc, hfs, List.getD_eq_getElem?_getD, hfd]
      rw [hoff] at hE
      have hrun : ∀ b o, (Instr.fieldAt s (.pointer (some ⟨b, o, none⟩)) f).run C.prog E.w = .ok (.pointer (some ⟨b, o + fd.offset, none⟩)) E.w := fun b o => by
        simp only [Instr.fieldAt, Sem.run_bind, run_underlying hfs, Result.andThen_ok, hfd, Instr.sureAddr, Sem.run_pure, fieldPlace, run_sizeOf' hty.1, if_neg hty.2, add_mk]
      unfold FADDRR at hE
      split at hE
      · rename_i cs
        subst hE
        cases hx.inv_d with
        | cp _ b o us hb hcell hd h1 =>
          refine ⟨_, hrun b o, .d _ _ (.cp _ b (o + fd.offset) (fun i => us (fd.offset + i)) hb (fun i d hi => ?_) (fun i d hi => ?_) (fun d hm => h1 d (List.mem_of_mem_drop hm)))⟩
          · rw [List.getElem?_drop] at hi
            rw [Nat.add_assoc]
            exact hcell _ _ hi
          · rw [List.getElem?_drop] at hi
            exact hd _ _ hi
      · rename_i id ver row off
        obtain ⟨hB, rfl⟩ := hE
        obtain ⟨⟨e, body⟩, hB⟩ := Option.isSome_iff_exists.1 hB
        have hH := BE_some hB
        cases hx with
        | ptr _ _ _ _ tt _ htop hle ho h =>
          obtain ⟨b, hm, rfl⟩ := h e body hH
          refine ⟨_, hrun b _, .ptr id ver row (off + fd.offset) tt _ htop hle rfl fun e' body' hH' => ?_⟩
          rw [hH] at hH'
          injection hH' with hH'
          injection hH' with _ h2 _
          subst h2
          exact ⟨b, hm, by rw [Nat.add_assoc]⟩
      · exact hE.elim
    · cases hty
  · cases hty
def idxTyOK (P : Program) (t : TypeId) : Bool := match P.underlying t with
  | some (.slice e) => (P.underlying e).isSome
  | _ => false
theorem flat_len : ∀ (xs : List D) (sz row : Nat) (x : D), (∀ z, z ∈ xs → z.cells.length = sz) → xs[row]? = some x → row * sz + sz ≤ (flat xs).length := by
  intro xs
  induction xs with
  | nil => intro sz row x _ h; simp at h
  | cons z r ih =>
    intro sz row x hs hx
    have hz := hs z (by simp)
    simp only [flat, List.flatMap_cons, List.length_append, hz]
    cases row with
    | zero => omega
    | succ k =>
      simp at hx
      have := ih sz k x (fun z hz => hs z (by simp [hz])) hx
      simp only [flat] at this
      rw [Nat.succ_mul]; omega
theorem iaddr_sound (hR : Rel C n D0 E0 U F E a) {t : TypeId} {x i : AV} {ux ui : Value} (hx : VRel E x ux) (hi : VRel E i ui) (hty : idxTyOK C.prog t = true) (hE : IADDRR (tSize C.prog (tElem C.prog t)) (tElem C.prog t) x i (BE E) v) :
    ∃ u, (Instr.indexAt t ux ui).run C.prog E.w = .ok u E.w ∧ VRel E v u := by
  unfold idxTyOK at hty
  split at hty
  · rename_i e he
    have hel : tElem C.prog t = e := by simp [tElem, tDesc, he]
    rw [hel] at hE
    have hrun : ∀ (k : IntKind) (m : Int) (b o len cap : Nat), 0 ≤ m → m < len → (Instr.indexAt t (.slice (some ⟨b, o, none⟩) len cap) (.int k m)).run C.prog E.w = .ok (.pointer (some ⟨b, o + m.toNat * tSize C.prog e, none⟩)) E.w := fun k m b o len cap h0 hl => by
      simp only [Instr.indexAt, Sem.run_bind, asIntOf, Sem.run_pure, Result.andThen_ok, run_underlying he]
      simp [h0, hl, run_sizeOf' hty, add_mk]
    unfold IADDRR at hE
    split at hE
    · rename_i xs k m
      obtain ⟨h0, y, hy, hsz, rfl⟩ := hE
      cases hi.inv_d
      cases hx.inv_d with
      | list0 a c => simp at hy
      | list _ sz b o cap us hb hc hm hss hcell hd h1 =>
        have hlt := (List.getElem?_eq_some_iff.1 hy).1
        have hyy : y.cells.length = sz := hss y (List.mem_of_getElem? hy)
        have hsz' : sz = tSize C.prog e := hyy.symm.trans hsz
        subst hsz'
        refine ⟨_, hrun k m b o _ cap h0 (by omega), .d _ _ (.cp _ b (o + m.toNat * tSize C.prog e) (fun j => us (m.toNat * tSize C.prog e + j)) hb (fun j d hj => ?_) (fun j d hj => ?_) (fun d hm' => ?_))⟩
        · rw [Nat.add_assoc]
          exact hcell _ _ (flat_get xs _ _ _ y d hss hy hj)
        · exact hd _ _ (flat_get xs _ _ _ y d hss hy hj)
        · obtain ⟨j, hj⟩ := List.getElem?_of_mem hm'
          exact h1 _ _ (flat_get xs _ _ _ y d hss hy hj)
    · rename_i id ver k m
      cases hi.inv_d
      split at hE
      · rename_i e' xs hB
        obtain ⟨rfl, h0, hl, rfl⟩ := hE
        have hH := BE_some hB
        cases hx with
        | own _ _ tt _ htop hle ho h _ =>
          obtain ⟨_, k1, _⟩ := hR.hr.blk id _ hH
          cases hm : E.m id with
          | none =>
            have := k1 hm
            simp only [Body.lst.injEq] at this
            subst this
            simp at hl; omega
          | some b =>
            obtain ⟨cap, Cc, el, fr, rfl, g1, g2, g3, g4⟩ := (h _ _ hH).2 b hm
            refine ⟨_, hrun k m b 0 _ cap h0 hl, .ptr id ver m.toNat 0 tt _ htop hle rfl fun e2 body2 hH2 => ?_⟩
            rw [hH] at hH2
            injection hH2 with hH2
            injection hH2 with _ h2 _
            subst h2
            exact ⟨b, hm, by rw [hR.prog]; simp⟩
      · rename_i e' cs hB
        obtain ⟨rfl, hs1, h0, hl, rfl⟩ := hE
        have hH := BE_some hB
        cases hx with
        | own _ _ tt _ htop hle ho h hbx =>
          obtain ⟨b, cap, Cc, el, fr, hm, rfl, g1, g2, g3, g4⟩ := hbx _ _ hH
          refine ⟨_, hrun k m b 0 _ cap h0 hl, .ptr id ver 0 m.toNat tt _ htop hle rfl fun e2 body2 hH2 => ?_⟩
          exact ⟨b, hm, by rw [hs1]; simp⟩
      · exact hE.elim
    · exact hE.elim
  · cases hty
theorem sidx_sound {t : TypeId} {x i : AV} {ux ui : Value} (hx : VRel E x ux) (hi : VRel E i ui) (hty : (match C.prog.underlying t with | some .string => true | _ => false) = true) (hE : SIDXR x i v) :
    ∃ u, (Instr.index t ux ui).run C.prog E.w = .ok u E.w ∧ VRel E v u := by
  split at hty
  · rename_i ht
    unfold SIDXR at hE
    split at hE
    · rename_i s k m
      obtain ⟨h0, c, hc, rfl⟩ := hE
      cases hx.inv_d
      cases hi.inv_d
      refine ⟨.int .u8 c.toNat, ?_, .d _ _ (.num _ _)⟩
      have hb : (⟨s.toArray⟩ : ByteArray)[m.toNat]? = some c := by
        have hlt := (List.getElem?_eq_some_iff.1 hc).1
        have hsz : (⟨s.toArray⟩ : ByteArray).size = s.length := by simp [ByteArray.size]
        rw [getElem?_pos _ _ (by rw [hsz]; exact hlt)]
        have := (List.getElem?_eq_some_iff.1 hc).2
        rw [← this]
        rfl
      simp only [Instr.index, Sem.run_bind, asIntOf, Sem.run_pure, Result.andThen_ok, run_underlying ht, if_pos h0, hb]
    · exact hE.elim
  · cases hty
end
end Go.Vc

namespace Go.Vc
open Go Go.RowKit
section
variable {C : Ctx} {ro : Option Nat} {n : Nat} {D0 : List Deferred} {E0 : Env} {U : Nat → Prop} {F : Nat → AV} {E : Env} {a : Act} {o : Oper} {new : Nat} {v : AV}
theorem bnd_val {v : Option AV} {u : Option Value} {d l : Int} (hv : match v, u with | some v, some u => VRel E v u | none, none => True | _, _ => False) (h : bnd v d = some l) :
    (u = none ∧ l = d) ∨ ∃ k, u = some (.int k l) := by
  unfold bnd at h
  split at h
  · injection h with h
    cases u with
    | none => exact .inl ⟨rfl, h.symm⟩
    | some u => exact hv.elim
  · rename_i k m
    injection h with h
    subst h
    cases u with
    | none => exact hv.elim
    | some u => cases VRel.inv_d hv; exact .inr ⟨k, rfl⟩
  · cases h
def optRel (E : Env) (v : Option AV) (u : Option Value) : Prop := match v, u with | some v, some u => VRel E v u | none, none => True | _, _ => False
theorem bounds_run (isSlice : Bool) (len cap : Nat) (lo hi : Option AV) (ulo uhi : Option Value) (hlo : optRel E lo ulo) (hhi : optRel E hi uhi) (l u : Int) (h1 : bnd lo 0 = some l) (h2 : bnd hi len = some u)
    (h3 : 0 ≤ l) (h4 : l ≤ u) (h5 : u ≤ cap) (P : Program) (w : World) : (Instr.sliceBounds isSlice len cap ulo uhi none).run P w = .ok (l.toNat, u.toNat, cap) w := by
  have hlo' := bnd_val hlo h1
  have hhi' := bnd_val hhi h2
  rcases hhi' with ⟨rfl, rfl⟩ | ⟨k, rfl⟩
  · rcases hlo' with ⟨rfl, rfl⟩ | ⟨k', rfl⟩
    · simp [Instr.sliceBounds]
    · simp only [Instr.sliceBounds, Sem.run_bind, Sem.run_pure, Result.andThen_ok, Instr.sliceBound, asIntOf]
      rw [if_pos ⟨h3, h4⟩]
      simp
  · have h6 : 0 ≤ u ∧ u ≤ (cap : Int) := ⟨by omega, h5⟩
    have h7 : (u.toNat : Int) = u := Int.toNat_of_nonneg h6.1
    rcases hlo' with ⟨rfl, rfl⟩ | ⟨k', rfl⟩
    · simp only [Instr.sliceBounds, Sem.run_bind, Sem.run_pure, Result.andThen_ok, Instr.sliceBound, asIntOf]
      rw [if_pos h6]
      simp
    · simp only [Instr.sliceBounds, Sem.run_bind, Sem.run_pure, Result.andThen_ok, Instr.sliceBound, asIntOf]
      rw [if_pos h6]
      simp only [Sem.run_pure, Result.andThen_ok, h7]
      rw [if_pos ⟨h3, h4⟩]
      simp
theorem bounds_run3 (len cap : Nat) (hi mx : Option AV) (uhi umx : Option Value) (hhi : optRel E hi uhi) (hmx : optRel E mx umx) (u : Int) (h2 : bnd hi len = some u) (h3 : bnd mx 0 = some u) (hne : mx ≠ none) (hni : hi ≠ none)
    (h4 : 0 ≤ u) (h5 : u ≤ cap) (P : Program) (w : World) : (Instr.sliceBounds true len cap none uhi umx).run P w = .ok (0, u.toNat, u.toNat) w := by
  have hhi' := bnd_val hhi h2
  have hmx' := bnd_val hmx h3
  have h7 : (u.toNat : Int) = u := Int.toNat_of_nonneg h4
  rcases hhi' with ⟨rfl, _⟩ | ⟨k, rfl⟩
  · cases hi with
    | none => exact absurd rfl hni
    | some y => exact hhi.elim
  · rcases hmx' with ⟨rfl, _⟩ | ⟨k', rfl⟩
    · cases mx with
      | none => exact absurd rfl hne
      | some y => exact hmx.elim
    · simp only [Instr.sliceBounds, Sem.run_bind, Sem.run_pure, Result.andThen_ok, Instr.sliceBound, asIntOf]
      rw [if_pos ⟨h4, h5⟩]
      simp only [Sem.run_pure, Result.andThen_ok, h7]
      rw [if_pos ⟨h4, Int.le_refl _⟩]
      simp
def sliceTyOK (P : Program) (t : TypeId) : Bool := match P.underlying t with
  | some .string => true
  | some (.slice e) => (P.underlying e).isSome
  | _ => false
theorem flat_drop : ∀ (xs : List D) (sz l : Nat), (∀ z, z ∈ xs → z.cells.length = sz) → l ≤ xs.length → flat (xs.drop l) = (flat xs).drop (l * sz) := by
  intro xs
  induction xs with
  | nil => intro sz l _ h; simp [flat]
  | cons z r ih =>
    intro sz l hs hl
    cases l with
    | zero => simp
    | succ k =>
      have hz := hs z (by simp)
      simp only [List.drop_succ_cons]
      rw [ih sz k (fun z hz => hs z (by simp [hz])) (by simpa using hl)]
      have hf : flat (z :: r) = z.cells ++ flat r := by simp [flat]
      have e : (k + 1) * sz = z.cells.length + k * sz := by rw [hz, Nat.succ_mul]; omega
      have e1 : z.cells.drop (z.cells.length + k * sz) = [] := List.drop_eq_nil_of_le (by omega)
      rw [hf, e, List.drop_append, e1]
      simp
theorem flat_take : ∀ (xs : List D) (sz l : Nat), (∀ z, z ∈ xs → z.cells.length = sz) → flat (xs.take l) = (flat xs).take (l * sz) := by
  intro xs
  induction xs with
  | nil => intro sz l _; simp [flat]
  | cons z r ih =>
    intro sz l hs
    cases l with
    | zero => simp [flat]
    | succ k =>
      have hz := hs z (by simp)
      simp only [List.take_succ_cons]
      have hf : flat (z :: r) = z.cells ++ flat r := by simp [flat]
      have hf' : flat (z :: r.take k) = z.cells ++ flat (r.take k) := by simp [flat]
      have e : (k + 1) * sz = z.cells.length + k * sz := by rw [hz, Nat.succ_mul]; omega
      have e1 : z.cells.take (z.cells.length + k * sz) = z.cells := List.take_of_length_le (by omega)
      rw [hf', hf, e, List.take_append, e1, ih sz k (fun z hz => hs z (by simp [hz]))]
      simp
theorem slice_sound {t : TypeId} {x : AV} {ux : Value} {lo hi mx : Option AV} {ulo uhi umx : Option Value} (hx : VRel E x ux) (hlo : optRel E lo ulo) (hhi : optRel E hi uhi) (hmx : optRel E mx umx) (hty : sliceTyOK C.prog t = true)
    (hE : SLICER (tSlice C.prog t) x lo hi mx v) :
    ∃ u, (Instr.sliceAt t ux ulo uhi umx).run C.prog E.w = .ok u E.w ∧ VRel E v u := by
  have hsl : tSlice C.prog t ≠ 0 → ∃ e, C.prog.underlying t = some (.slice e) ∧ (C.prog.underlying e).isSome = true ∧ tSlice C.prog t = tSize C.prog e + 1 := fun h => by
    unfold sliceTyOK at hty
    split at hty
    · rename_i ht; simp [tSlice, tDesc, ht] at h
    · rename_i e ht; exact ⟨e, ht, hty, by simp [tSlice, tDesc, ht]⟩
    · cases hty
  have hst : tSlice C.prog t = 0 → C.prog.underlying t = some .string := fun h => by
    unfold sliceTyOK at hty
    split at hty
    · assumption
    · rename_i e ht; simp [tSlice, tDesc, ht] at h
    · cases hty
  have hzc : ∀ (ad : Option Addr) (len cap : Nat) (k : IntKind), tSlice C.prog t ≠ 0 → bnd lo 0 = some 0 → bnd hi 1 = some 0 → (Instr.sliceAt t (.slice ad len cap) ulo uhi (some (.int k 0))).run C.prog E.w = .ok (.slice ad 0 0) E.w := fun ad len cap k h0 h1 h2 => by
    obtain ⟨e, ht, he, _⟩ := hsl h0
    have hlo' := bnd_val hlo h1
    have hhi' := bnd_val hhi h2
    rcases hhi' with ⟨_, h⟩ | ⟨k2, rfl⟩
    · omega
    · rcases hlo' with ⟨rfl, _⟩ | ⟨k1, rfl⟩
      · simp [Instr.sliceAt, run_underlying ht, Instr.slice, Instr.sliceBounds, Instr.sliceBound, asIntOf, run_sizeOf' he]
      · simp [Instr.sliceAt, run_underlying ht, Instr.slice, Instr.sliceBounds, Instr.sliceBound, asIntOf, run_sizeOf' he]
  unfold SLICER at hE
  split at hE
  · rename_i s
    obtain ⟨h0, l, u, h1, h2, h3, h4, h5, rfl⟩ := hE
    have ht := hst h0
    cases hx.inv_d
    have hum : umx = none := by cases umx with | none => rfl | some u => exact hmx.elim
    subst hum
    have hs : (⟨s.toArray⟩ : ByteArray).size = s.length := by simp [ByteArray.size]
    have hb := bounds_run (E := E) false s.length s.length lo hi ulo uhi hlo hhi l u h1 h2 h3 h4 h5 C.prog E.w
    refine ⟨.string ⟨((s.take u.toNat).drop l.toNat).toArray⟩, ?_, .d _ _ (.str _)⟩
    simp only [Instr.sliceAt, Sem.run_bind, run_underlying ht, Result.andThen_ok, Instr.slice, Option.isSome_none, Bool.false_eq_true, if_false, hs, hb, Sem.run_pure]
    congr 2
    apply ByteArray.ext
    simp [ByteArray.data_extract, List.drop_take]
  · rename_i s
    obtain ⟨h0, hze, l, u, h1, h2, h3, h4, h5, rfl⟩ := hE
    obtain ⟨e, ht, he, htag⟩ := hsl h0
    have hum : umx = none := by cases umx with | none => rfl | some u => exact hmx.elim
    subst hum
    cases hx.inv_d with
    | list0 ad cap =>
      have h5' : u ≤ (cap : Int) := by simp at h5; omega
      have hb := bounds_run (E := E) true 0 cap lo hi ulo uhi hlo hhi l u h1 (by simpa using h2) h3 h4 h5' C.prog E.w
      have hl0 : l.toNat = 0 := by simp at h5; omega
      have hu0 : u.toNat = 0 := by simp at h5; omega
      refine ⟨_, by simp only [Instr.sliceAt, Sem.run_bind, run_underlying ht, Result.andThen_ok, Instr.slice, hb, run_sizeOf' he, Sem.run_pure]; rfl, ?_⟩
      rw [hl0, hu0]
      simp only [List.take_zero, List.drop_zero, Nat.sub_zero, Nat.sub_self]
      exact .d _ _ (.list0 _ _)
    | list _ sz b off cap us hb' hc hm hss hcell hd h1' =>
      have hb := bounds_run (E := E) true s.length cap lo hi ulo uhi hlo hhi l u h1 h2 h3 h4 (by omega) C.prog E.w
      refine ⟨_, by simp only [Instr.sliceAt, Sem.run_bind, run_underlying ht, Result.andThen_ok, Instr.slice, hb, run_sizeOf' he, Sem.run_pure]; rfl, ?_⟩
      have hlen : ((s.take u.toNat).drop l.toNat).length = u.toNat - l.toNat := by simp; omega
      by_cases hnil : (s.take u.toNat).drop l.toNat = []
      · rw [hnil] at hlen ⊢
        simp only [List.length_nil] at hlen
        rw [← hlen]
        exact .d _ _ (.list0 _ _)
      · have hpos : 0 < u.toNat - l.toNat := by rw [← hlen]; exact List.length_pos_iff.2 hnil
        rw [if_neg (by omega)]
        simp only [Option.map_some, add_mk]
        rw [← hlen]
        have hsize : sz = tSize C.prog e := by
          have h0 : 0 < s.length := by omega
          have hm0 : s[0] ∈ s := List.getElem_mem h0
          have := hze _ hm0
          have := hss _ hm0
          omega
        have hfl : ∀ i d, (flat ((s.take u.toNat).drop l.toNat))[i]? = some d → (flat s)[l.toNat * sz + i]? = some d := fun i d hi => by
          rw [flat_drop _ sz _ (fun z hz => hss z (List.mem_of_mem_take hz)) (by simp; omega), flat_take _ sz _ hss, List.getElem?_drop, List.getElem?_take] at hi
          split at hi
          · exact hi
          · cases hi
        refine .d _ _ (.list _ sz b (off + l.toNat * tSize C.prog e) (cap - l.toNat) (fun i => us (l.toNat * sz + i)) hb' (by rw [hlen]; omega) (by omega) (fun z hz => hss z (List.mem_of_mem_take (List.mem_of_mem_drop hz))) (fun i d hi => ?_) (fun i d hi => ?_) (fun i d hi => ?_))
        · rw [← hsize, Nat.add_assoc]; exact hcell _ _ (hfl i d hi)
        · exact hd _ _ (hfl i d hi)
        · exact h1' _ _ (hfl i d hi)
  · rename_i s k
    obtain ⟨h0, h1, h2, rfl⟩ := hE
    cases umx with
    | none => exact hmx.elim
    | some um =>
      cases VRel.inv_d (hmx : VRel E _ um)
      cases hx.inv_d with
      | list0 ad cap => exact ⟨_, hzc ad 0 cap k h0 h1 h2, .zc _⟩
      | list _ sz b off cap us hb' hc hm hss hcell hd h1' => exact ⟨_, hzc _ _ cap k h0 h1 h2, .zc _⟩
  · rename_i k
    obtain ⟨h0, h1, h2, rfl⟩ := hE
    cases umx with
    | none => exact hmx.elim
    | some um =>
      cases VRel.inv_d (hmx : VRel E _ um)
      cases hx with
      | zc ad => exact ⟨_, hzc ad 0 0 k h0 h1 h2, .zc _⟩
  · exact hE.elim
theorem ext_sound {t : AV} {ut : Value} {i : Nat} {vs : List AV} (ht : VRel E t ut) (h1 : t = .tup vs) (h2 : vs[i]? = some v) : ∃ u, (Instr.extract ut i).run C.prog E.w = .ok u E.w ∧ VRel E v u := by
  subst h1
  cases ht with
  | tup _ us hl hd =>
    have hlt := (List.getElem?_eq_some_iff.1 h2).1
    have hu : us[i]? = some us[i] := Array.getElem?_eq_getElem (by omega)
    exact ⟨us[i], by simp [Instr.extract, hu], hd i v _ h2 hu⟩
def lenTyOK (P : Program) (t : TypeId) : Bool := match P.underlying t with
  | some .string => true
  | some (.slice _) => true
  | _ => false
theorem len_sound (hR : Rel C n D0 E0 U F E a) {t ty : TypeId} {x : AV} {ux : Value} {k : Nat} (hx : VRel E x ux) (hty : lenTyOK C.prog t = true) (hE : lenA (tIsStr C.prog t) (BE E) x = some k) :
    (Builtin.len_ #[t] ty #[ux]).run C.prog E.w = .ok (.int .i64 k) E.w := by
  have hstr : C.prog.underlying t = some .string ∧ tIsStr C.prog t = true ∨ ∃ e, C.prog.underlying t = some (.slice e) ∧ tIsStr C.prog t = false := by
    unfold lenTyOK at hty
    split at hty
    · rename_i h; exact .inl ⟨h, by simp [tIsStr, tDesc, h]⟩
    · rename_i e h; exact .inr ⟨e, h, by simp [tIsStr, tDesc, h]⟩
    · cases hty
  have hsl : ∀ e ad l c, C.prog.underlying t = some (.slice e) → (Builtin.len_ #[t] ty #[.slice ad l c]).run C.prog E.w = .ok (.int .i64 (l : Int)) E.w := fun e ad l c h => by
    simp [Builtin.len_, run_underlying h, goInt]
  rcases hstr with ⟨h, hb⟩ | ⟨e, h, hb⟩
  · rw [hb] at hE
    cases x <;> simp only [lenA] at hE <;> try (cases hE; done)
    rename_i d
    cases d <;> simp only at hE <;> try (cases hE; done)
    rename_i s
    cases hx.inv_d
    injection hE with hE
    subst hE
    have hs : (⟨s.toArray⟩ : ByteArray).size = s.length := by simp [ByteArray.size]
    simp [Builtin.len_, run_underlying h, goInt, hs]
  · rw [hb] at hE
    cases x <;> simp only [lenA] at hE <;> try (cases hE; done)
    · rename_i d
      cases d <;> simp only at hE <;> try (cases hE; done)
      rename_i xs
      injection hE with hE
      subst hE
      cases hx.inv_d with
      | list0 ad c => exact hsl e _ _ _ h
      | list _ sz b o cap us _ _ _ _ _ _ _ => exact hsl e _ _ _ h
    · injection hE with hE
      subst hE
      cases hx with
      | zc ad => exact hsl e _ _ _ h
    · rename_i id ver
      split at hE
      · rename_i e' xs hB
        injection hE with hE
        subst hE
        have hH := BE_some hB
        cases hx with
        | own _ _ tt _ htop hle ho hh _ =>
          obtain ⟨_, k1, _⟩ := hR.hr.blk id _ hH
          cases hm : E.m id with
          | none =>
            have := k1 hm
            simp only [Body.lst.injEq] at this
            subst this
            obtain ⟨ad, rfl⟩ := (hh _ _ hH).1 hm
            exact hsl e _ _ _ h
          | some b =>
            obtain ⟨cap, Cc, el, fr, rfl, _⟩ := (hh _ _ hH).2 b hm
            exact hsl e _ _ _ h
      · rename_i e' cs hB
        injection hE with hE
        subst hE
        have hH := BE_some hB
        cases hx with
        | own _ _ tt _ htop hle ho hh hbx =>
          obtain ⟨b, cap, Cc, el, fr, _, rfl, _⟩ := hbx _ _ hH
          exact hsl e _ _ _ h
      · cases hE
theorem min_sound {ts : Array TypeId} {ty : TypeId} {k k' : IntKind} {i j : Int} (P : Program) (w : World) : (Builtin.min_ ts ty #[.int k i, .int k' j]).run P w = .ok (.int k (min i j)) w := by
  have : (if j < i then j else i) = min i j := by simp only [Int.min_def]; split <;> split <;> omega
  simp [Builtin.min_, Builtin.min2, this]
theorem max_sound {ts : Array TypeId} {ty : TypeId} {k k' : IntKind} {i j : Int} (P : Program) (w : World) : (Builtin.max_ ts ty #[.int k i, .int k' j]).run P w = .ok (.int k (max i j)) w := by
  have : (if j > i then j else i) = max i j := by simp only [Int.max_def]; split <;> split <;> omega
  simp [Builtin.max_, Builtin.max2, this]
end
end Go.Vc

namespace Go.Vc
open Go Go.RowKit
structure CellsRel (E : Env) (vs : List AV) (us : List Value) : Prop where
  len : vs.length = us.length
  rel : ∀ (i : Nat) (v : AV) (u : Value), vs[i]? = some v → us[i]? = some u → VRel E v u
  one : ∀ (u : Value), u ∈ us → u.oneCell' = true
theorem CellsRel.splice {E : Env} {vs ws : List AV} {us xs : List Value} (h : CellsRel E vs us) (k : CellsRel E ws xs) (off : Nat) (ho : off + ws.length ≤ vs.length) : CellsRel E (splice vs off ws) (splice us off xs) where
  len := by simp only [Go.Vc.splice, List.length_append, List.length_take, List.length_drop, h.len, k.len]
  rel := by
    intro i v u hv hu
    have hl := h.len
    have hk := k.len
    simp only [Go.Vc.splice] at hv hu
    by_cases h1 : i < off
    · rw [List.getElem?_append_left (by simp; omega), List.getElem?_append_left (by simp; omega), List.getElem?_take, if_pos h1] at hv hu
      exact h.rel i v u hv hu
    · by_cases h2 : i < off + ws.length
      · rw [List.getElem?_append_left (by simp; omega), List.getElem?_append_right (by simp; omega)] at hv hu
        simp only [List.length_take] at hv hu
        rw [show i - min off vs.length = i - off by omega] at hv
        rw [show i - min off us.length = i - off by omega] at hu
        exact k.rel _ v u hv hu
      · rw [List.getElem?_append_right (by simp; omega)] at hv hu
        simp only [List.length_append, List.length_take, List.getElem?_drop] at hv hu
        rw [show off + ws.length + (i - (min off vs.length + ws.length)) = i by omega] at hv
        rw [show off + xs.length + (i - (min off us.length + xs.length)) = i by omega] at hu
        exact h.rel i v u hv hu
  one := by
    intro u hu
    simp only [Go.Vc.splice, List.mem_append] at hu
    rcases hu with (hu | hu) | hu
    · exact h.one u (List.mem_of_mem_take hu)
    · exact k.one u hu
    · exact h.one u (List.mem_of_mem_drop hu)
theorem DRel.ofCells {w : World} {S : Nat → Prop} {d : D} {v : Value} (h : DRel w S d v) (E : Env) (hw : E.w = w) (hS : E.S = S) : CellsRel E (d.cells.map .d) v.cells.toList := by
  subst hw; subst hS
  obtain ⟨h1, h2, h3⟩ := h.cells
  refine ⟨by simpa using h1, fun i v' u hv hu => ?_, fun u hu => ?_⟩
  · simp only [List.getElem?_map] at hv
    cases hd : d.cells[i]? with
    | none => rw [hd] at hv; cases hv
    | some x =>
      rw [hd] at hv
      injection hv with hv
      subst hv
      exact .d _ _ (h2 i x u hd (by simpa using hu))
  · obtain ⟨i, hi⟩ := List.getElem?_of_mem hu
    have hlt : i < d.cells.length := by
      have := (List.getElem?_eq_some_iff.1 hi).1
      simp at this; omega
    have hx := List.getElem?_eq_getElem hlt
    exact (h2 i _ u hx (by simpa using hi)).one (h3 _ (List.mem_of_getElem? hx))
theorem VRel.ofCells {E : Env} {v : AV} {u : Value} (h : VRel E v u) (hne : v.cells ≠ [] ∨ (∃ x, v = .d x) ∨ ∃ vs, v = .agg vs) : CellsRel E v.cells u.cells.toList := by
  have single : ∀ {v : AV} {u : Value}, VRel E v u → u.oneCell' = true → CellsRel E [v] u.cells.toList := fun {v u} h h1 => by
    have : u.cells = #[u] := by cases u <;> first | rfl | cases h1
    rw [this]
    refine ⟨rfl, fun i v' u' hv hu => ?_, fun u' hu => ?_⟩
    · cases i with
      | zero => simp at hv hu; subst hv; subst hu; exact h
      | succ i => simp at hv
    · simp at hu; subst hu; exact h1
  cases h with
  | any => simp [AV.cells] at hne
  | undef => simp [AV.cells] at hne
  | anyb => simp [AV.cells] at hne
  | d x v h => exact h.ofCells E rfl rfl
  | zc a => exact single (.zc a) rfl
  | own id ver t _ ht hv ho h hb => exact single (.own id ver t _ ht hv ho h hb) ho
  | ptr id ver row off t _ ht hv ho h => exact single (.ptr id ver row off t _ ht hv ho h) ho
  | agg vs us hl hd h1 => exact ⟨by simpa [AV.cells, Value.cells] using hl, fun i v u hv hu => hd i v u hv (by simpa [Value.cells] using hu), fun u hu => by
      obtain ⟨i, hi⟩ := List.getElem?_of_mem hu
      exact h1 i u (by simpa [Value.cells] using hi)⟩
  | fn f as bs us vs hl hl' hd hd' => exact single (.fn f as bs us vs hl hl' hd hd') rfl
  | iface t x u hd => exact single (.iface t x u hd) rfl
  | tup => simp [AV.cells] at hne
  | mapv id t _ ht h1 h => exact single (.mapv id t _ ht h1 h) h1
  | iter id t _ ht h1 h => exact single (.iter id t _ ht h1 h) h1
  | yld id t _ ht h1 h => exact single (.yld id t _ ht h1 h) h1
theorem foldl_set (off : Nat) : ∀ (vs : List Value) (k : Nat) (cs : Array Value), off + k + vs.length ≤ cs.size →
    ((vs.zipIdx k).foldl (fun cs (p : Value × Nat) => cs.setIfInBounds (off + p.2) p.1) cs).toList = splice cs.toList (off + k) vs := by
  intro vs
  induction vs with
  | nil => intro k cs h; simp [splice]
  | cons v r ih =>
    intro k cs h
    simp only [List.zipIdx_cons, List.foldl_cons]
    rw [ih (k + 1) _ (by simp at h ⊢; omega)]
    simp only [splice, Array.toList_setIfInBounds, List.length_cons] at *
    apply List.ext_getElem?
    intro i
    have hl : cs.toList.length = cs.size := by simp
    by_cases h1 : i < off + k
    · rw [List.getElem?_append_left (by simp; omega), List.getElem?_append_left (by simp; omega), List.getElem?_append_left (by simp; omega), List.getElem?_append_left (by simp; omega)]
      simp only [List.getElem?_take]
      rw [if_pos (by omega), if_pos h1, List.getElem?_set]
      rw [if_neg (by omega)]
    · by_cases h2 : i = off + k
      · subst h2
        rw [List.getElem?_append_left (by simp; omega), List.getElem?_append_left (by simp; omega), List.getElem?_append_left (by simp; omega), List.getElem?_append_right (by simp; omega)]
        simp only [List.getElem?_take]
        rw [if_pos (by omega), List.getElem?_set, if_pos rfl]
        simp at h ⊢
        have : off + k - min (off + k) cs.size = 0 := by omega
        rw [this]
        simp
        omega
      · by_cases h3 : i < off + k + (r.length + 1)
        · rw [List.getElem?_append_left (by simp; omega), List.getElem?_append_right (by simp; omega), List.getElem?_append_left (by simp; omega), List.getElem?_append_right (by simp; omega)]
          simp only [List.length_take, List.length_set, hl]
          rw [show i - min (off + (k + 1)) cs.size = i - (off + (k + 1)) by omega, show i - min (off + k) cs.size = (i - (off + (k + 1))) + 1 by omega]
          simp
        · rw [List.getElem?_append_right (by simp; omega), List.getElem?_append_right (by simp; omega)]
          simp only [List.length_append, List.length_take, List.length_set, hl, List.length_cons, List.getElem?_drop]
          have hle : off + k + (r.length + 1) ≤ cs.size := by simpa using h
          rw [List.getElem?_set, if_neg (by omega)]
          congr 1
          omega
theorem fill_one (cs : Array Value) (v : Value) (off : Nat) (h : off + v.cells.size ≤ cs.size) :
    (v.cells.zipIdx.foldl (fun cs (p : Value × Nat) => cs.setIfInBounds (off + p.2) p.1) cs).toList = splice cs.toList off v.cells.toList := by
  rw [← Array.foldl_toList, Array.toList_zipIdx]
  have := foldl_set off v.cells.toList 0 cs (by simpa using h)
  simpa using this
theorem fill_sound {E : Env} (fs : List (Nat × Nat)) (place : Nat → Option (Nat × Nat)) (hp : ∀ i p, fs[i]? = some p → place i = some p) (hz : ∀ p, p ∈ fs → p.2 ≠ 0) : ∀ (parts : List (Nat × AV)) (ps : List (Nat × Value)) (cs : List AV) (us : Array Value) (out : List AV),
    parts.length = ps.length → (∀ (i : Nat) (p : Nat × AV) (q : Nat × Value), parts[i]? = some p → ps[i]? = some q → p.1 = q.1 ∧ VRel E p.2 q.2) → CellsRel E cs us.toList → fillA fs cs parts = some out →
    ∃ r, Instr.fill place us ps = some r ∧ CellsRel E out r.toList := by
  intro parts
  induction parts with
  | nil =>
    intro ps cs us out hl hr hc hf
    cases ps with
    | nil => simp [fillA] at hf; subst hf; exact ⟨us, rfl, hc⟩
    | cons q r => simp at hl
  | cons p r ih =>
    intro ps cs us out hl hr hc hf
    cases ps with
    | nil => simp at hl
    | cons q qs =>
      obtain ⟨i, v⟩ := p
      obtain ⟨j, u⟩ := q
      obtain ⟨h0, hv⟩ := hr 0 _ _ rfl rfl
      have h0 : i = j := h0
      subst h0
      have hv : VRel E v u := hv
      simp only [fillA] at hf
      cases hfi : fs[i]? with
      | none => rw [hfi] at hf; cases hf
      | some os =>
        obtain ⟨off, size⟩ := os
        rw [hfi] at hf
        simp only [Option.bind_some] at hf
        split at hf
        · rename_i hcond
          obtain ⟨h1, h2⟩ := hcond
          have hsz : size ≠ 0 := hz _ (List.mem_of_getElem? hfi)
          have hne : v.cells ≠ [] := fun h => by rw [h] at h1; simp at h1; omega
          have hvc := hv.ofCells (.inl hne)
          have hu : u.cells.size = size := by have := hvc.len; simp at this; omega
          have hus : us.size = cs.length := by have := hc.len; simp at this; omega
          have hcs := hc.splice hvc off (by omega)
          rw [← fill_one us u off (by omega)] at hcs
          obtain ⟨r', hr1, hr2⟩ := ih qs _ _ out (by simpa using hl) (fun k p q hp hq => hr (k + 1) p q hp hq) hcs hf
          refine ⟨r', ?_, hr2⟩
          simp only [Instr.fill]
          rw [hp i _ hfi]
          simp only [hu]
          rw [if_neg (by simp; omega)]
          exact hr1
        · cases hf
end Go.Vc

namespace Go.Vc
open Go Go.RowKit
section
variable {P : Program} {w : World}
theorem run_listMapM {α β : Type} (f : α → Sem β) (g : α → β) : ∀ (l : List α), (∀ x, x ∈ l → (f x).run P w = .ok (g x) w) → (l.mapM f).run P w = .ok (l.map g) w := by
  intro l
  induction l with
  | nil => intro _; simp
  | cons x r ih =>
    intro h
    simp only [List.mapM_cons, Sem.run_bind, h x (by simp), Result.andThen_ok, ih (fun y hy => h y (by simp [hy])), Sem.run_pure, List.map_cons]
theorem run_arrMapM {α β : Type} (f : α → Sem β) (g : α → β) (a : Array α) (h : ∀ x, x ∈ a.toList → (f x).run P w = .ok (g x) w) : (a.mapM f).run P w = .ok (a.map g) w := by
  rw [Array.mapM_eq_mapM_toList, Sem.run_map, run_listMapM f g _ h, Result.andThen_ok]
  congr 1
  apply Array.ext'
  simp
def zeroTyOK (P : Program) (t : TypeId) : Bool := match P.info? t with
  | some i => (match i.zero with | some z => z.cells.toList.all Value.oneCell' | none => false)
  | none => false
def buildTyOK (P : Program) (t : TypeId) : Bool := zeroTyOK P t && match P.underlying t with
  | some (.struct fs) => fs.toList.all fun f => (P.underlying f.type).isSome && !(tSize P f.type == 0)
  | some (.array _ e) => (P.underlying e).isSome && !(tSize P e == 0)
  | _ => false
theorem zero_cells {t : TypeId} (h : zeroTyOK P t = true) (E : Env) : ∃ z, (zeroValue t).run P w = .ok z w ∧ CellsRel E (tZero P t) z.cells.toList := by
  unfold zeroTyOK at h
  split at h
  · rename_i i hi
    split at h
    · rename_i z hz
      refine ⟨z, by simp [zeroValue, typeInfo, hi, hz], ?_⟩
      have e : tZero P t = z.cells.toList.map ofConst := by simp [tZero, hi, hz]
      rw [e]
      refine ⟨by simp, fun j v u hv hu => ?_, fun u hu => ?_⟩
      · simp only [List.getElem?_map, hu, Option.map_some, Option.some.injEq] at hv
        rw [← hv]
        exact .ofConst E u
      · exact List.all_eq_true.1 h u hu
    · cases h
  · cases h
theorem build_sound {E : Env} {t : TypeId} {parts : List (Nat × AV)} {ps : Array (Nat × Value)} {cs : List AV} (hty : buildTyOK P t = true) (hl : parts.length = ps.size)
    (hr : ∀ (i : Nat) (p : Nat × AV) (q : Nat × Value), parts[i]? = some p → ps[i]? = some q → p.1 = q.1 ∧ VRel E p.2 q.2) (hf : fillA (tFields P t) (tZero P t) parts = some cs) :
    ∃ u, (Instr.build t ps).run P w = .ok u w ∧ VRel E (mkAgg cs) u := by
  simp only [buildTyOK, Bool.and_eq_true] at hty
  obtain ⟨hz, hty⟩ := hty
  obtain ⟨z, hz1, hz2⟩ := zero_cells (w := w) hz E
  split at hty
  · rename_i fs hfs
    have hall : ∀ f, f ∈ fs.toList → (P.underlying f.type).isSome = true ∧ tSize P f.type ≠ 0 := fun f hf => by
      have := List.all_eq_true.1 hty f hf
      simpa using this
    have hmap := run_arrMapM (P := P) (w := w) (fun f : Field => do pure (f.offset, ← sizeOf f.type)) (fun f => (f.offset, tSize P f.type)) fs (fun f hf => by
      simp only [Sem.run_bind, run_sizeOf' (hall f hf).1, Result.andThen_ok, Sem.run_pure])
    have htf : tFields P t = (fs.map fun f : Field => (f.offset, tSize P f.type)).toList := by simp [tFields, tDesc, hfs]
    obtain ⟨r, hr1, hr2⟩ := fill_sound (E := E) (tFields P t) (fun i => (fs.map fun f : Field => (f.offset, tSize P f.type))[i]?) (fun i p h => by rw [htf] at h; simpa using h) (fun p hp => by
      rw [htf] at hp
      simp only [Array.toList_map, List.mem_map] at hp
      obtain ⟨f, hf, rfl⟩ := hp
      exact (hall f hf).2) parts ps.toList (tZero P t) z.cells cs (by simpa using hl) (fun i p q hp hq => hr i p q hp (by simpa using hq)) hz2 hf
    refine ⟨.agg r, ?_, ?_⟩
    · simp only [Instr.build, Sem.run_bind, hz1, Result.andThen_ok, run_underlying hfs, hmap, hr1, Sem.run_pure]
    · refine VRel.mkAgg' (by have := hr2.len; simpa using this) (fun i v u hv hu => hr2.rel i v u hv (by simpa using hu)) (fun i u hu => hr2.one u (by
        have := List.mem_of_getElem? (l := r.toList) (i := i) (a := u) (by simpa using hu)
        exact this))
  · rename_i m e hfs
    simp only [Bool.and_eq_true, Bool.not_eq_true', beq_eq_false_iff_ne] at hty
    have htf : tFields P t = (List.range m).map fun i => (i * tSize P e, tSize P e) := by simp [tFields, tDesc, hfs]
    obtain ⟨r, hr1, hr2⟩ := fill_sound (E := E) (tFields P t) (fun i => some (i * tSize P e, tSize P e)) (fun i p h => by
      rw [htf, List.getElem?_map] at h
      cases hi : (List.range m)[i]? with
      | none => rw [hi] at h; cases h
      | some j =>
        rw [hi] at h
        have := (List.getElem?_eq_some_iff.1 hi)
        obtain ⟨h1, h2⟩ := this
        simp at h2
        subst h2
        simpa using h) (fun p hp => by
      rw [htf] at hp
      simp only [List.mem_map] at hp
      obtain ⟨f, hf, rfl⟩ := hp
      exact hty.2) parts ps.toList (tZero P t) z.cells cs (by simpa using hl) (fun i p q hp hq => hr i p q hp (by simpa using hq)) hz2 hf
    refine ⟨.agg r, ?_, ?_⟩
    · simp only [Instr.build, Sem.run_bind, hz1, Result.andThen_ok, run_underlying hfs, run_sizeOf' hty.1, hr1, Sem.run_pure]
    · refine VRel.mkAgg' (by have := hr2.len; simpa using this) (fun i v u hv hu => hr2.rel i v u hv (by simpa using hu)) (fun i u hu => hr2.one u (by
        have := List.mem_of_getElem? (l := r.toList) (i := i) (a := u) (by simpa using hu)
        exact this))
  · cases hty
end
end Go.Vc

namespace Go.Vc
open Go Go.RowKit
def Env.news (E : Env) (new : Nat) (mb : Option Nat) (blk : ABlk) (ks : List Nat) (w' : World) : Env where
  P := E.P
  top i := if i = new then some blk.ver else E.top i
  m i := if i = new then mb else E.m i
  H i := if i = new then some blk else if i ∈ ks then none else E.H i
  w := w'
  S b := E.S b ∨ ∃ k, k ∈ ks ∧ E.H k ≠ none ∧ E.m k = some b
theorem HR.blk_lt {N : Nat} {E : Env} (hr : HR N E) {id g : Nat} (h : E.H id ≠ none) (hm : E.m id = some g) : g < E.w.heap.size := by
  cases hH : E.H id with
  | none => exact absurd hH h
  | some b =>
    obtain ⟨_, _, k⟩ := hr.blk id b hH
    obtain ⟨_, o, hC, _⟩ := k g hm
    exact (Array.getElem?_eq_some_iff.1 hC).1
theorem news_step {N : Nat} {E : Env} (hr : HR N E) {new : Nat} {mb : Option Nat} {blk : ABlk} {ks : List Nat} {w' : World} (hnew : E.top new = none) (hw : ∀ b, b < E.w.heap.size → w'.heap[b]? = E.w.heap[b]?) : E.Step (E.news new mb blk ks w') where
  P := rfl
  S _ h := .inl h
  w b h := hw b (hr.st b h).1
  top id t h := by
    have hne : id ≠ new := fun e => by rw [e, hnew] at h; cases h
    exact ⟨t, by simp [Env.news, hne, h], Nat.le_refl _⟩
  blk id t b' ht hb hv := by
    have hne : id ≠ new := fun e => by rw [e, hnew] at ht; cases ht
    simp only [Env.news, if_neg hne] at hb ⊢
    split at hb
    · cases hb
    · refine ⟨trivial, b', hb, rfl, rfl, sameShape.refl _, fun g C el fr hm hC => ⟨C, el, fr, ?_, rfl⟩⟩
      have := (Array.getElem?_eq_some_iff.1 hC).1
      rw [hw g this]; exact hC
theorem news_hr {N : Nat} {E : Env} (hr : HR N E) {new : Nat} {mb : Option Nat} {blk : ABlk} {ks : List Nat} {w' : World} (hnew : E.top new = none) (hw : ∀ b, b < E.w.heap.size → w'.heap[b]? = E.w.heap[b]?) (hsz : E.w.heap.size ≤ w'.heap.size)
    (hmn : mb = none → blk.body = .lst []) (hms : ∀ g, mb = some g → N ≤ g ∧ E.w.heap.size ≤ g ∧ ∃ o, w'.heap[g]? = some o ∧ OR (E.news new mb blk ks w') blk.elem blk.body o) : HR N (E.news new mb blk ks w') where
  st b h := by
    have hlt : b < E.w.heap.size := by
      rcases h with h | ⟨k, _, hk, hm⟩
      · exact (hr.st b h).1
      · exact hr.blk_lt hk hm
    refine ⟨Nat.lt_of_lt_of_le hlt hsz, fun id hid hm => ?_⟩
    by_cases hne : id = new
    · subst hne
      simp only [Env.news, if_true] at hm
      have := (hms b hm).2.1
      omega
    · simp only [Env.news, if_neg hne] at hid hm
      split at hid
      · exact hid rfl
      · rename_i hks
        rcases h with h | ⟨k, hk, hkH, hkm⟩
        · exact (hr.st b h).2 id hid hm
        · have := hr.inj id k b hid hkH hm hkm
          exact hks (this ▸ hk)
  blk id b hb := by
    by_cases hne : id = new
    · subst hne
      simp only [Env.news, if_true, Option.some.injEq] at hb ⊢
      subst hb
      exact ⟨rfl, hmn, fun g hg => let ⟨h1, _, h2⟩ := hms g hg; ⟨h1, h2⟩⟩
    · simp only [Env.news, if_neg hne] at hb ⊢
      split at hb
      · cases hb
      · obtain ⟨h1, h2, h3⟩ := hr.blk id b hb
        refine ⟨h1, h2, fun g hg => ?_⟩
        obtain ⟨k1, C, k2, k3⟩ := h3 g hg
        have := (Array.getElem?_eq_some_iff.1 k2).1
        exact ⟨k1, C, by rw [hw g this]; exact k2, k3.step (news_step hr hnew hw)⟩
  inj i j g hi hj hmi hmj := by
    have key : ∀ i, i ≠ new → (E.news new mb blk ks w').H i ≠ none → (E.news new mb blk ks w').m i = some g → E.H i ≠ none ∧ E.m i = some g := fun i hne h hm => by
      simp only [Env.news, if_neg hne] at h hm
      split at h
      · exact absurd rfl h
      · exact ⟨h, hm⟩
    by_cases h1 : i = new
    · by_cases h2 : j = new
      · omega
      · obtain ⟨hjH, hjm⟩ := key j h2 hj hmj
        have := hr.blk_lt hjH hjm
        subst h1
        simp only [Env.news, if_true] at hmi
        have := (hms g hmi).2.1
        omega
    · obtain ⟨hiH, him⟩ := key i h1 hi hmi
      by_cases h2 : j = new
      · have := hr.blk_lt hiH him
        subst h2
        simp only [Env.news, if_true] at hmj
        have := (hms g hmj).2.1
        omega
      · obtain ⟨hjH, hjm⟩ := key j h2 hj hmj
        exact hr.inj i j g hiH hjH him hjm
theorem below_alloc (N : Nat) (w : World) (o : Obj) (h : N ≤ w.heap.size) : Below N w { w with heap := w.heap.push o } :=
  (Below.refl N w).alloc h o
theorem push_lt (w : World) (o : Obj) (b : Nat) (h : b < w.heap.size) : ({ w with heap := w.heap.push o } : World).heap[b]? = w.heap[b]? := by
  show (w.heap.push o)[b]? = _
  rw [Array.getElem?_push, if_neg (by omega)]
theorem news_go {N : Nat} {E : Env} (hr : HR N E) {new : Nat} {mb : Option Nat} {blk : ABlk} {ks : List Nat} {w' : World} (hnew : E.top new = none) (hw : ∀ b, b < E.w.heap.size → w'.heap[b]? = E.w.heap[b]?) (hsz : E.w.heap.size ≤ w'.heap.size)
    (hos : w'.os = E.w.os) (ht : w'.tape = E.w.tape) (ho : w'.output = E.w.output) (hms : ∀ g, mb = some g → E.w.heap.size ≤ g) : E.Go (E.news new mb blk ks w') where
  step := news_step hr hnew hw
  os := hos
  tape := ht
  output := ho
  size := hsz
  only b hb _ := hw b hb
  own b := fun ⟨id, h1, h2⟩ => by
    by_cases hne : id = new
    · subst hne
      simp only [Env.news, if_true] at h2
      exact .inr (hms b h2)
    · simp only [Env.news, if_neg hne] at h1 h2
      split at h1
      · exact absurd rfl h1
      · exact .inl ⟨id, h1, h2⟩
  st b hb := by
    rcases hb with hb | ⟨k, _, h1, h2⟩
    · exact .inl hb
    · exact .inr (.inl ⟨k, h1, h2⟩)
section
variable {C : Ctx} {ro : Option Nat} {n : Nat} {D0 : List Deferred} {E0 : Env} {U : Nat → Prop} {F : Nat → AV} {E : Env} {a : Act} {o : Oper} {new : Nat} {v : AV}
theorem sound_new (hR : Rel C n D0 E0 U F E a) (hd : ∀ t, o.dst = some t → t < n) (hnew : ¬ U new) (blk : ABlk) (ks : List Nat) (mb : Option Nat) (w' : World) (u : Value) (ups : Heap)
    (hrun : (execOp a.eval o).run C.prog E.w = .ok (.value u) w') (hb : Below C.N E.w w') (hw : ∀ b, b < E.w.heap.size → w'.heap[b]? = E.w.heap[b]?) (hsz : E.w.heap.size ≤ w'.heap.size)
    (hmn : mb = none → blk.body = .lst []) (hms : ∀ g, mb = some g → E.w.heap.size ≤ g ∧ ∃ o, w'.heap[g]? = some o ∧ OR (E.news new mb blk ks w') blk.elem blk.body o)
    (hups : upH E.H ups = (E.news new mb blk ks w').H) (hv : VRel (E.news new mb blk ks w') v u) : Sound C ro n D0 E0 U F E a o new v ups := by
  intro hnd K Q hK
  refine wpIn_of hnd ?_
  rw [hrun, Oper.uponIn_value]
  have htop : E.top new = none := by
    cases h : E.top new with
    | none => rfl
    | some t => exact absurd (hR.used new t h) hnew
  have hN : C.N ≤ E.w.heap.size := hR.hN
  have hhr := news_hr (new := new) (ks := ks) hR.hr htop hw hsz hmn (fun g hg => let ⟨h1, h2⟩ := hms g hg; ⟨by omega, h1, h2⟩)
  refine hK _ _ (hR.put (news_go hR.hr htop hw hsz hb.os hb.tape hb.output (fun g hg => (hms g hg).1)) hhr (fun id t h => ?_) hd hv) hups.symm
  simp only [Env.news] at h
  split at h
  · rename_i he; exact .inr ⟨by omega, by omega⟩
  · exact .inl (hR.used id t h)
theorem upH_one (H : HF) (k : Nat) (b : Option ABlk) : upH H [(k, b)] = fun i => if i = k then b else H i := by
  funext i
  simp only [upH, inUps]
  by_cases h : k = i
  · subst h; simp
  · rw [if_neg h, if_neg (fun e => h e.symm)]; rfl
theorem box_sound (hR : Rel C n D0 E0 U F E a) (hd : ∀ t, o.dst = some t → t < n) (hnew : ¬ U new) {e : TypeId} {x : Operand} (ho : o.op = .box e x) (X : AV) (hx : VRel E X (a.eval x)) :
    Sound C ro n D0 E0 U F E a o new (.ptr new 0 0 0) [(new, some ⟨0, e, .box X.cells⟩)] := by
  have htop : E.top new = none := by
    cases h : E.top new with
    | none => rfl
    | some t => exact absurd (hR.used new t h) hnew
  have hst := news_step (new := new) (mb := some E.w.heap.size) (blk := ⟨0, e, .box X.cells⟩) (ks := []) (w' := { E.w with heap := E.w.heap.push (.cells (a.eval x).cells e) }) hR.hr htop (push_lt E.w _)
  refine sound_new hR hd hnew ⟨0, e, .box X.cells⟩ [] (some E.w.heap.size) { E.w with heap := E.w.heap.push (.cells (a.eval x).cells e) } (.pointer (some ⟨E.w.heap.size, 0, none⟩)) _ ?_ (below_alloc _ _ _ hR.hN) (push_lt E.w _) (by simp) (fun h => by cases h) (fun g hg => ?_) ?_ ?_
  · simp [execOp, ho, Instr.box, newVar, newRow]
  · injection hg with hg
    subst hg
    refine ⟨Nat.le_refl _, .cells (a.eval x).cells e, by simp, (a.eval x).cells, rfl, fun i v hi => ?_⟩
    have hne : X.cells ≠ [] := fun h => by rw [h] at hi; simp at hi
    have hc := hx.ofCells (.inl hne)
    have hlt := (List.getElem?_eq_some_iff.1 hi).1
    have hl := hc.len
    have hu : (a.eval x).cells.toList[i]? = some (a.eval x).cells.toList[i] := List.getElem?_eq_getElem (by omega)
    exact ⟨_, by simp, (hc.rel i v _ hi hu).step hst, hc.one _ (List.mem_of_getElem? hu)⟩
  · rw [upH_one]; rfl
  · refine .ptr new 0 0 0 0 _ (by simp [Env.news]) (Nat.le_refl _) rfl fun e' body h => ⟨E.w.heap.size, by simp [Env.news], by simp⟩
theorem alloc_sound (hR : Rel C n D0 E0 U F E a) (hd : ∀ t, o.dst = some t → t < n) (hnew : ¬ U new) {e : TypeId} (ho : o.op = .alloc e) (hty : zeroTyOK C.prog e = true) :
    Sound C ro n D0 E0 U F E a o new (.ptr new 0 0 0) [(new, some ⟨0, e, .box (tZero C.prog e)⟩)] := by
  have htop : E.top new = none := by
    cases h : E.top new with
    | none => rfl
    | some t => exact absurd (hR.used new t h) hnew
  obtain ⟨z, hz1, hz2⟩ := zero_cells (w := E.w) hty E
  have hst := news_step (new := new) (mb := some E.w.heap.size) (blk := ⟨0, e, .box (tZero C.prog e)⟩) (ks := []) (w' := { E.w with heap := E.w.heap.push (.cells z.cells e) }) hR.hr htop (push_lt E.w _)
  refine sound_new hR hd hnew ⟨0, e, .box (tZero C.prog e)⟩ [] (some E.w.heap.size) { E.w with heap := E.w.heap.push (.cells z.cells e) } (.pointer (some ⟨E.w.heap.size, 0, none⟩)) _ ?_ (below_alloc _ _ _ hR.hN) (push_lt E.w _) (by simp) (fun h => by cases h) (fun g hg => ?_) ?_ ?_
  · simp [execOp, ho, Instr.alloc, newVar, newRow, hz1]
  · injection hg with hg
    subst hg
    refine ⟨Nat.le_refl _, .cells z.cells e, by simp, z.cells, rfl, fun i v hi => ?_⟩
    have hlt := (List.getElem?_eq_some_iff.1 hi).1
    have hl := hz2.len
    have hu : z.cells.toList[i]? = some z.cells.toList[i] := List.getElem?_eq_getElem (by omega)
    exact ⟨_, by simp, (hz2.rel i v _ hi hu).step hst, hz2.one _ (List.mem_of_getElem? hu)⟩
  · rw [upH_one]; rfl
  · refine .ptr new 0 0 0 0 _ (by simp [Env.news]) (Nat.le_refl _) rfl fun e' body h => ⟨E.w.heap.size, by simp [Env.news], by simp⟩
theorem alloc_drop (hR : Rel C n D0 E0 U F E a) (hd : ∀ t, o.dst = some t → t < n) {e : TypeId} (ho : o.op = .alloc e) (hty : zeroTyOK C.prog e = true) :
    Sound C ro n D0 E0 U F E a o new .any [] := by
  obtain ⟨z, hz1, hz2⟩ := zero_cells (w := E.w) hty E
  intro hnd K Q hK
  refine wpIn_of hnd ?_
  have hrun : (execOp a.eval o).run C.prog E.w = .ok (.value (.pointer (some ⟨E.w.heap.size, 0, none⟩))) { E.w with heap := E.w.heap.push (.cells z.cells e) } := by
    simp [execOp, ho, Instr.alloc, newVar, newRow, hz1]
  rw [hrun, Oper.uponIn_value]
  have hlt : ∀ b o, E.w.heap[b]? = some o → (E.w.heap.push (.cells z.cells e))[b]? = some o := fun b o h =>
    (push_lt E.w _ b (Array.getElem?_eq_some_iff.1 h).1).trans h
  have hs : E.Step { E with w := { E.w with heap := E.w.heap.push (.cells z.cells e) } } := ⟨rfl, fun _ h => h, fun b hb => push_lt E.w _ b (hR.hr.st b hb).1, fun id t h => ⟨t, h, Nat.le_refl _⟩,
    fun id t b' _ hb' _ => ⟨rfl, b', hb', rfl, rfl, sameShape.refl _, fun g Cc el fr _ hC => ⟨Cc, el, fr, hlt g _ hC, rfl⟩⟩⟩
  have hg : E.Go { E with w := { E.w with heap := E.w.heap.push (.cells z.cells e) } } := ⟨hs, rfl, rfl, rfl, by show _ ≤ (E.w.heap.push _).size; simp, fun b hb _ => push_lt E.w _ b hb, fun b h => .inl h, fun b h => .inl h⟩
  refine hK _ _ (hR.put hg ⟨fun b h => ?_, fun id b hb' => ?_, hR.hr.inj⟩ (fun id t h => .inl (hR.used id t h)) hd (.any _)) rfl
  · have := hR.hr.st b h
    exact ⟨by show b < (E.w.heap.push _).size; simp; omega, this.2⟩
  · obtain ⟨h1, h2, h3⟩ := hR.hr.blk id b hb'
    refine ⟨h1, h2, fun g hg => ?_⟩
    obtain ⟨k1, o, k2, k3⟩ := h3 g hg
    exact ⟨k1, o, hlt g _ k2, k3.step hs⟩
end
end Go.Vc
