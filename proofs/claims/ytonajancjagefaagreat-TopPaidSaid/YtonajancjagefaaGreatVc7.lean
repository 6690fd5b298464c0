/- A part of the proof: general laws of a reading of the model by abstract data, or contracts of the functions that the law calls. -/
import Derived.Laws.BytesString
import Derived.Laws.IdiomStrings
import Derived.Test.YtonajancjagefaaGreatVc6
set_option maxRecDepth 100000
namespace Go.Vc
open Go Go.RowKit
theorem VRel.inv_agg {E : Env} {x : AV} {ux : Value} {ag : Bool} {sz off : Nat} {v : AV} (h : VRel E x ux) (hE : PARTR ag sz off x v) : ∃ us, ux = .agg us := by
  unfold PARTR at hE
  split at hE
  · cases h.inv_d; exact ⟨_, rfl⟩
  · cases h; exact ⟨_, rfl⟩
  · exact hE.elim
theorem part_sound {P : Program} {w : World} {E : Env} {t : TypeId} {off : Nat} {x v : AV} {us : Array Value} (ht : (P.underlying t).isSome = true) (hx : VRel E x (.agg us)) (hE : PARTR (tAgg P t) (tSize P t) off x v) :
    ∃ u, (part t us off).run P w = .ok u w ∧ VRel E v u := by
  unfold PARTR at hE
  have hsz : ∀ n : Nat, n = us.size → off + tSize P t ≤ n → (us.extract off (off + tSize P t)).size = tSize P t := fun n hn h => by simp; omega
  have hget : ∀ (i : Nat) (u : Value), (us.extract off (off + tSize P t))[i]? = some u → i < tSize P t ∧ us[off + i]? = some u := fun i u hu => by
    rw [Array.getElem?_extract] at hu
    split at hu
    · rename_i hlt; exact ⟨by omega, hu⟩
    · cases hu
  split at hE
  · rename_i cs
    have hd := hx.inv_d
    cases hd with
    | agg _ _ hl hd h1 =>
      cases ha : tAgg P t with
      | true =>
        rw [ha] at hE
        obtain ⟨hle, rfl⟩ := hE
        refine ⟨.agg (us.extract off (off + tSize P t)), by simp [part, run_isAgg' ht, ha, run_sizeOf' ht], .d _ _ (.agg _ _ ?_ (fun i d u hi hu => ?_) (fun d hm => h1 d (List.mem_of_mem_drop (List.mem_of_mem_take hm))))⟩
        · rw [hsz _ hl hle]; simp; omega
        · obtain ⟨hlt, hu⟩ := hget i u hu
          rw [List.getElem?_take, if_pos hlt, List.getElem?_drop] at hi
          exact hd _ _ _ hi hu
      | false =>
        rw [ha] at hE
        obtain ⟨y, hy, rfl⟩ := hE
        have hlt := (List.getElem?_eq_some_iff.1 hy).1
        have hu : us[off]? = some us[off] := Array.getElem?_eq_getElem (by omega)
        exact ⟨us[off], part_one t us off _ ht ha hu, .d _ _ (hd _ _ _ hy hu)⟩
  · rename_i vs
    cases hx with
    | agg _ _ hl hd h1 =>
      cases ha : tAgg P t with
      | true =>
        rw [ha] at hE
        obtain ⟨hle, rfl⟩ := hE
        refine ⟨.agg (us.extract off (off + tSize P t)), by simp [part, run_isAgg' ht, ha, run_sizeOf' ht], VRel.mkAgg' ?_ (fun i d u hi hu => ?_) (fun i u hu => h1 _ u (hget i u hu).2)⟩
        · rw [hsz _ hl hle]; simp; omega
        · obtain ⟨hlt, hu⟩ := hget i u hu
          rw [List.getElem?_take, if_pos hlt, List.getElem?_drop] at hi
          exact hd _ _ _ hi hu
      | false =>
        rw [ha] at hE
        have hlt := (List.getElem?_eq_some_iff.1 hE).1
        have hu : us[off]? = some us[off] := Array.getElem?_eq_getElem (by omega)
        exact ⟨us[off], part_one t us off _ ht ha hu, hd _ _ _ hE hu⟩
  · exact hE.elim
def fieldOK (P : Program) (t : TypeId) (f : Nat) : Bool := match P.underlying t with
  | some (.struct fs) => (match fs[f]? with | some fd => (P.underlying fd.type).isSome | none => false)
  | _ => false
theorem field_sound {P : Program} {w : World} {E : Env} {t : TypeId} {f : Nat} {x v : AV} {ux : Value} (hty : fieldOK P t f = true) (hx : VRel E x ux) (hE : PARTR (tAgg P (tFieldTy P t f)) (tSize P (tFieldTy P t f)) ((tFields P t).getD f (0, 0)).1 x v) :
    ∃ u, (Instr.field t ux f).run P w = .ok u w ∧ VRel E v u := by
  obtain ⟨us, rfl⟩ := hx.inv_agg hE
  unfold fieldOK at hty
  split at hty
  · rename_i fs hfs
    split at hty
    · rename_i fd hfd
      have hoff : ((tFields P t).getD f (0, 0)).1 = fd.offset := by simp [tFields, tDesc, hfs, List.getD_eq_getElem?_getD, hfd]
      have hft : tFieldTy P t f = fd.type := by simp [tFieldTy, tDesc, hfs, hfd]
      rw [hoff, hft] at hE
      obtain ⟨u, hu, hv⟩ := part_sound (w := w) hty hx hE
      exact ⟨u, by simp only [Instr.field, Sem.run_bind, run_underlying hfs, Result.andThen_ok, hfd, asAgg, Sem.run_pure, hu], hv⟩
    · cases hty
  · cases hty
def arrOK (P : Program) (t : TypeId) : Bool := match P.underlying t with
  | some (.array _ e) => (P.underlying e).isSome && !(tSize P e == 0)
  | _ => true
theorem tArr_some {P : Program} {t : TypeId} {n : Nat} (h : tArr P t = some n) (hty : arrOK P t = true) : P.underlying t = some (.array n (tElem P t)) ∧ (P.underlying (tElem P t)).isSome = true ∧ tSize P (tElem P t) ≠ 0 := by
  unfold tArr at h
  unfold arrOK at hty
  cases hu : P.underlying t with
  | none => simp [tDesc, hu] at h
  | some d =>
    rw [hu] at hty
    simp only [tDesc, hu, Option.getD_some] at h
    cases d <;> simp only at h <;> try (cases h; done)
    rename_i m e
    injection h with h
    subst h
    have he : tElem P t = e := by simp [tElem, tDesc, hu]
    simp only [Bool.and_eq_true, Bool.not_eq_true', beq_eq_false_iff_ne] at hty
    rw [he]
    exact ⟨rfl, hty⟩
theorem aidx_sound {P : Program} {w : World} {E : Env} {t : TypeId} {n : Nat} {x i v : AV} {ux ui : Value} (ha : tArr P t = some n) (hty : arrOK P t = true) (hx : VRel E x ux) (hi : VRel E i ui) (hE : AIDXR (tAgg P (tElem P t)) (tSize P (tElem P t)) n x i v) :
    ∃ u, (Instr.index t ux ui).run P w = .ok u w ∧ VRel E v u := by
  obtain ⟨h1, h2, h3⟩ := tArr_some ha hty
  unfold AIDXR at hE
  split at hE
  · rename_i k m
    obtain ⟨h0, hm, hE⟩ := hE
    obtain ⟨us, rfl⟩ := hx.inv_agg hE
    obtain ⟨u, hu, hv⟩ := part_sound (w := w) h2 hx hE
    have hi := hi.inv_num
    subst hi
    refine ⟨u, ?_, hv⟩
    simp only [Instr.index, Sem.run_bind, asIntOf, Sem.run_pure, Result.andThen_ok, run_underlying h1]
    rw [if_pos ⟨h0, hm⟩]
    simp only [Sem.run_bind, run_sizeOf' h2, Result.andThen_ok, hu]
  · exact hE.elim
theorem moved {E : Env} {x v : AV} {ux : Value} {off : Nat} (hx : VRel E x ux) (hE : FADDRR off x (BE E) v) : ∃ b o, ux = .pointer (some ⟨b, o, none⟩) ∧ VRel E v (.pointer (some ⟨b, o + off, none⟩)) := by
  unfold FADDRR at hE
  split at hE
  · rename_i cs
    subst hE
    cases hx.inv_d with
    | cp _ b o us hb hcell hd h1 =>
      refine ⟨b, o, rfl, .d _ _ (.cp _ b (o + off) (fun i => us (off + i)) hb (fun i d hi => ?_) (fun i d hi => ?_) (fun d hm => h1 d (List.mem_of_mem_drop hm)))⟩
      · rw [List.getElem?_drop] at hi
        rw [Nat.add_assoc]
        exact hcell _ _ hi
      · rw [List.getElem?_drop] at hi
        exact hd _ _ hi
  · rename_i id ver row o
    obtain ⟨hB, rfl⟩ := hE
    obtain ⟨⟨e, body⟩, hB⟩ := Option.isSome_iff_exists.1 hB
    have hH := BE_some hB
    cases hx with
    | ptr _ _ _ _ tt _ htop hle ho h =>
      obtain ⟨b, hm, rfl⟩ := h e body hH
      refine ⟨b, _, rfl, .ptr id ver row (o + off) tt _ htop hle rfl fun e' body' hH' => ?_⟩
      rw [hH] at hH'
      injection hH' with hH'
      injection hH' with _ h2 _
      subst h2
      exact ⟨b, hm, by rw [Nat.add_assoc]⟩
  · exact hE.elim
theorem aaddr_sound {P : Program} {w : World} {E : Env} {t : TypeId} {n : Nat} {x i v : AV} {ux ui : Value} (ha : tArr P t = some n) (hty : arrOK P t = true) (hx : VRel E x ux) (hi : VRel E i ui) (hE : AADDRR (tSize P (tElem P t)) n x i (BE E) v) :
    ∃ u, (Instr.indexAt t ux ui).run P w = .ok u w ∧ VRel E v u := by
  obtain ⟨h1, h2, h3⟩ := tArr_some ha hty
  unfold AADDRR at hE
  split at hE
  · rename_i k m
    obtain ⟨h0, hm, hE⟩ := hE
    obtain ⟨b, o, rfl, hv⟩ := moved hx hE
    have hi := hi.inv_num
    subst hi
    refine ⟨_, ?_, hv⟩
    simp only [Instr.indexAt, Sem.run_bind, asIntOf, Sem.run_pure, Result.andThen_ok, run_underlying h1, Instr.sureAddr]
    rw [if_pos ⟨h0, hm⟩]
    simp [run_sizeOf' h2, add_mk]
  · exact hE.elim
theorem ifaceOf_rel {E : Env} {x v : AV} {t : TypeId} {ux : Value} (hx : VRel E x ux) (h : ifaceOf x = some (t, v)) : ∃ u, ux = .iface t u ∧ VRel E v u := by
  unfold ifaceOf at h
  split at h
  · injection h with h; injection h with h1 h2; subst h1; subst h2
    cases hx with
    | iface _ _ u hd => exact ⟨u, rfl, hd⟩
  · injection h with h; injection h with h1 h2; subst h1; subst h2
    cases hx.inv_d with
    | iface _ _ u hd => exact ⟨u, rfl, .d _ _ hd⟩
  · cases h
theorem isNil_rel {E : Env} {x : AV} {ux : Value} (hx : VRel E x ux) (h : isNil x = true) : ux = .nilIface := by
  unfold isNil at h
  split at h
  · cases hx.inv_d; rfl
  · cases h
def zShapeOK (P : Program) (t : TypeId) : Bool := zeroTyOK P t && match P.info? t with
  | some i => (match i.zero with | some (.agg _) => tAgg P t | some z => !tAgg P t && z.oneCell' | none => false)
  | none => false
theorem zeroA_rel {P : Program} {t : TypeId} {w : World} {E : Env} (h : zShapeOK P t = true) : ∃ z, (zeroValue t).run P w = .ok z w ∧ VRel E (zeroA P t) z := by
  simp only [zShapeOK, Bool.and_eq_true] at h
  obtain ⟨hz, h⟩ := h
  obtain ⟨z, hz1, hz2⟩ := zero_cells (w := w) hz E
  refine ⟨z, hz1, ?_⟩
  split at h
  · rename_i i hi
    have hzz : i.zero = some z := by
      unfold zeroTyOK at hz
      rw [hi] at hz
      simp only at hz
      cases hiz : i.zero with
      | none => rw [hiz] at hz; cases hz
      | some z' =>
        simp [zeroValue, typeInfo, hi, hiz] at hz1
        rw [hz1]
    rw [hzz] at h
    cases z with
    | agg cs =>
      simp only at h
      simp only [zeroA, h]
      exact VRel.mkAgg' (by have := hz2.len; simpa [Value.cells] using this) (fun i v u hv hu => hz2.rel i v u hv (by simpa [Value.cells] using hu)) (fun i u hu => hz2.one u (by
        have := List.mem_of_getElem? (l := cs.toList) (i := i) (a := u) (by simpa using hu)
        exact this))
    | _ =>
      simp only [Bool.and_eq_true, Bool.not_eq_true'] at h
      simp only [zeroA, h.1]
      have hl := hz2.len
      simp only [Value.cells, List.length_singleton] at hl
      match hT : tZero P t, hl with
      | [x], _ =>
        rw [hT] at hz2
        exact hz2.rel 0 x _ rfl rfl
  · cases h
def tassOK (P : Program) (t : TypeId) : Bool := zShapeOK P t && match P.underlying t with | some (.interface _) => false | some _ => true | none => false
theorem tass_sound {P : Program} {w : World} {E : Env} {t xt : TypeId} {x v : AV} {ux : Value} (hty : tassOK P t = true) (hx : VRel E x ux) (hE : TASSR t (zeroA P t) x v) : ∃ u, (Instr.typeAssert ux xt t true).run P w = .ok u w ∧ VRel E v u := by
  simp only [tassOK, Bool.and_eq_true] at hty
  obtain ⟨hz, hty⟩ := hty
  obtain ⟨z, hz1, hz2⟩ := zeroA_rel (w := w) (E := E) hz
  obtain ⟨d, hd, hni⟩ : ∃ d, P.underlying t = some d ∧ ∀ ms, d ≠ .interface ms := by
    split at hty
    · cases hty
    · rename_i d hne hd; exact ⟨d, hd, fun ms h => hne ms h⟩
    · cases hty
  have tup2 : ∀ (y : AV) (b : Bool) (u : Value), VRel E y u → VRel E (.tup [y, .d (.bool b)]) (.tuple #[u, .bool b]) := fun y b u h => .tup _ _ rfl (fun i v' u' hv hu => by
    match i, hv, hu with
    | 0, hv, hu => simp at hv hu; subst hv; subst hu; exact h
    | 1, hv, hu => simp at hv hu; subst hv; subst hu; exact .d _ _ (.bool b)
    | i + 2, hv, hu => simp at hv)
  rcases hE with ⟨y, h1, rfl⟩ | ⟨t', y, h1, h2, rfl⟩ | ⟨h1, rfl⟩
  · obtain ⟨u, rfl, hu⟩ := ifaceOf_rel hx h1
    refine ⟨_, ?_, tup2 y true u hu⟩
    simp only [Instr.typeAssert, Sem.run_bind, run_underlying hd, Result.andThen_ok]
    cases d <;> first | exact absurd rfl (hni _) | simp
  · obtain ⟨u, rfl, hu⟩ := ifaceOf_rel hx h1
    refine ⟨_, ?_, tup2 _ false z hz2⟩
    simp only [Instr.typeAssert, Sem.run_bind, run_underlying hd, Result.andThen_ok]
    cases d <;> first | exact absurd rfl (hni _) | simp [h2, hz1]
  · have := isNil_rel hx h1
    subst this
    refine ⟨_, ?_, tup2 _ false z hz2⟩
    simp only [Instr.typeAssert, Sem.run_bind, run_underlying hd, Result.andThen_ok]
    cases d <;> first | exact absurd rfl (hni _) | simp [hz1]
def nilConst (y : Operand) : Bool := match y with | .const .nilIface => true | _ => false
theorem inil_sound {P : Program} {w : World} {E : Env} {t : TypeId} {xo yo : Operand} {x y v : AV} {ux uy : Value} {op : BinOp} (ht : tIface P t = true) (hyo : nilConst yo = true) (hx : VRel E x ux) (hy : VRel E y uy) (hn : isNil y = true)
    (hE : (op = .eql ∧ INILR false x v) ∨ (op = .neq ∧ INILR true x v)) : ∃ u, ((do eqGuard op t xo yo ux uy; binOp op t ux uy) : Sem Value).run P w = .ok u w ∧ VRel E v u := by
  have hun := isNil_rel hy hn
  subst hun
  obtain ⟨ms, hms⟩ : ∃ ms, P.underlying t = some (.interface ms) := by
    unfold tIface tDesc at ht
    cases hu : P.underlying t with
    | none => rw [hu] at ht; cases ht
    | some d =>
      rw [hu] at ht
      cases d <;> simp only [Option.getD_some] at ht <;> first | exact ⟨_, rfl⟩ | cases ht
  obtain ⟨rfl⟩ : yo = .const .nilIface := by
    unfold nilConst at hyo
    split at hyo
    · rfl
    · cases hyo
  have he1 : ∀ t' u, (Op.equal t (.iface t' u) .nilIface).run P w = .ok false w := fun t' u => by
    show (Op.equalIn (9999 + 1) t _ _).run P w = _
    unfold Op.equalIn; simp [run_underlying hms]
  have he2 : (Op.equal t .nilIface .nilIface).run P w = .ok true w := by
    show (Op.equalIn (9999 + 1) t _ _).run P w = _
    unfold Op.equalIn; simp [run_underlying hms]
  have hcase : (∃ t' u, ux = .iface t' u) ∨ ux = .nilIface := by
    rcases hE with ⟨_, h⟩ | ⟨_, h⟩
    all_goals
      rcases h with ⟨⟨t', y'⟩, h, _⟩ | ⟨h, _⟩
      · obtain ⟨u, rfl, _⟩ := ifaceOf_rel hx h; exact .inl ⟨_, _, rfl⟩
      · exact .inr (isNil_rel hx h)
  have hv : ∀ nq, INILR nq x v → ((∃ t' u, ux = .iface t' u) ∧ v = .d (.bool nq)) ∨ (ux = .nilIface ∧ v = .d (.bool !nq)) := fun nq h => by
    rcases h with ⟨⟨t', y'⟩, h, h2⟩ | ⟨h, h2⟩
    · obtain ⟨u, h3, _⟩ := ifaceOf_rel hx h; exact .inl ⟨⟨_, _, h3⟩, h2⟩
    · exact .inr ⟨isNil_rel hx h, h2⟩
  have hg : ∀ ux, (eqGuard op t xo (.const .nilIface) ux .nilIface).run P w = .ok () w := fun ux => by
    unfold eqGuard
    cases op <;> cases ux <;> simp
  rcases hE with ⟨rfl, h⟩ | ⟨rfl, h⟩
  · rcases hv _ h with ⟨⟨t', u, rfl⟩, rfl⟩ | ⟨rfl, rfl⟩
    · exact ⟨.bool false, by simp only [Sem.run_bind, hg, Result.andThen_ok, binOp, he1, Sem.run_pure], .d _ _ (.bool _)⟩
    · exact ⟨.bool true, by simp only [Sem.run_bind, hg, Result.andThen_ok, binOp, he2, Sem.run_pure], .d _ _ (.bool _)⟩
  · rcases hv _ h with ⟨⟨t', u, rfl⟩, rfl⟩ | ⟨rfl, rfl⟩
    · exact ⟨.bool true, by simp only [Sem.run_bind, hg, Result.andThen_ok, binOp, he1, Sem.run_pure, Bool.not_false], .d _ _ (.bool _)⟩
    · exact ⟨.bool false, by simp only [Sem.run_bind, hg, Result.andThen_ok, binOp, he2, Sem.run_pure, Bool.not_true], .d _ _ (.bool _)⟩
def convOK (P : Program) (s d : TypeId) : Bool := match P.underlying s, P.underlying d with
  | some (.int _), some (.int _) => true
  | some (.slice e), some .string => (match P.underlying e with | some (.int .u8) => true | _ => false) && tSize P e == 1
  | some .string, some (.slice e) => (match P.underlying e with | some (.int .u8) => true | _ => false) && tSize P e == 1
  | _, _ => false
theorem convi_sound {P : Program} {w : World} {E : Env} {s d : TypeId} {ik : IntKind} {k : IntKind} {n : Int} {ux : Value} (h : tConv P s d = some (some ik)) (hty : convOK P s d = true) (hx : VRel E (.d (.num k n)) ux) : (convert s d ux).run P w = .ok (.int ik (ik.wrap n)) w := by
  have := hx.inv_num
  subst this
  unfold convOK at hty
  split at hty
  · rename_i k1 k2 h1 h2
    simp only [tConv, tDesc, h1, h2, Option.getD_some, Option.some.injEq] at h
    subst h
    simp [convert, run_underlying h1, run_underlying h2, Conv.intToInt]
  · rename_i e h1 h2
    simp only [tConv, tDesc, h1, h2, Option.getD_some] at h
    cases h
  · rename_i e h1 h2
    simp only [tConv, tDesc, h1, h2, Option.getD_some] at h
    cases h
  · cases hty
theorem bytesD_spec : ∀ (xs : List D) (bs : List UInt8), bytesD xs = some bs → ∃ ns : List Int, xs = ns.map (D.num .u8) ∧ bs = ns.map fun n => UInt8.ofNat n.toNat := by
  intro xs
  induction xs with
  | nil => intro bs h; simp [bytesD] at h; exact ⟨[], by simp, by simp [h]⟩
  | cons x r ih =>
    intro bs h
    unfold bytesD at h
    split at h
    · rename_i he; cases he
    · rename_i n r' he
      injection he with he1 he2
      subst he1; subst he2
      cases hr : bytesD r with
      | none => rw [hr] at h; cases h
      | some bs' =>
        rw [hr] at h
        injection h with h
        subst h
        obtain ⟨ns, h1, h2⟩ := ih bs' hr
        exact ⟨n :: ns, by simp [h1], by simp [h2]⟩
    · cases h
theorem foldl_push (ns : List Int) : ∀ (s : List UInt8), ns.foldl (fun r n => r.push (UInt8.ofNat n.toNat)) (⟨s.toArray⟩ : ByteArray) = ⟨(s ++ ns.map fun n => UInt8.ofNat n.toNat).toArray⟩ := by
  induction ns with
  | nil => intro s; simp
  | cons n r ih =>
    intro s
    simp only [List.foldl_cons, List.map_cons]
    have : (⟨s.toArray⟩ : ByteArray).push (UInt8.ofNat n.toNat) = ⟨(s ++ [UInt8.ofNat n.toNat]).toArray⟩ := by
      show (⟨s.toArray.push _⟩ : ByteArray) = _
      simp
    rw [this, ih]
    simp
theorem convs_sound {N : Nat} {P : Program} {E : Env} (hr : HR N E) (_hP : E.P = P) {s d : TypeId} {x v : AV} {ux : Value} (h : tConv P s d = some none) (hty : convOK P s d = true) (hx : VRel E x ux) (hE : CONVSR x (BE E) v) : ∃ u, (convert s d ux).run P E.w = .ok u E.w ∧ VRel E v u := by
  obtain ⟨xs, bs, h1, h2, _, rfl⟩ := hE
  obtain ⟨ns, rfl, rfl⟩ := bytesD_spec xs bs h2
  unfold convOK at hty
  split at hty
  · rename_i k1 k2 hu1 hu2
    simp only [tConv, tDesc, hu1, hu2, Option.getD_some] at h
    cases h
  · rename_i e hs hd
    simp only [Bool.and_eq_true, beq_iff_eq] at hty
    obtain ⟨he, hsz⟩ := hty
    have he : P.underlying e = some (.int .u8) := by
      split at he
      · assumption
      · cases he
    have hdat := toD_rel hr (S' := fun _ => True) (fun _ _ => trivial) h1 hx (fun _ _ => trivial)
    refine ⟨.string ⟨(ns.map fun n => UInt8.ofNat n.toNat).toArray⟩, ?_, .d _ _ (.str _)⟩
    have hfl : ∀ ns : List Int, flat (ns.map (D.num .u8)) = ns.map (D.num .u8) := fun ns => by
      induction ns with
      | nil => rfl
      | cons n r ih => simp only [flat, List.map_cons, List.flatMap_cons, D.cells] at ih ⊢; rw [ih]; rfl
    have hpart : ∀ (i : Nat), i < ns.length → (flat (ns.map (D.num .u8)))[i]? = (ns[i]?).map (D.num .u8) := fun i hi => by rw [hfl]; simp
    generalize hxs : ns.map (D.num .u8) = xs' at hdat hpart
    cases hdat with
    | list0 a c =>
      have : ns = [] := by cases ns <;> simp at hxs ⊢
      subst this
      cases a with
      | none => simp [convert, run_underlying hs, run_underlying hd, run_underlying he, Conv.bytesToString]; rfl
      | some a =>
        rw [run_convert_bytes_string E.w s d e (some a) 0 c hs he hd, run_bytesToString E.w a 0 c [] (by simp [loadCells, loadCellsFrom])]
        rfl
    | list _ sz b o cap us hb hc hm hsz' hcell hd' h1' =>
      have hlen : xs'.length = ns.length := by rw [← hxs]; simp
      rw [run_convert_bytes_string E.w s d e _ _ cap hs he hd, hlen]
      have hl := run_loadCells (P := P) E.w ⟨b, o, none⟩ ns.length us (fun j hj => by
        rw [add_mk]
        exact hcell j (.num .u8 ns[j]) (by rw [hpart j hj, List.getElem?_eq_getElem hj]; rfl))
      have hus : (List.range ns.length).map us = ns.map (Value.int .u8) := by
        refine List.ext_getElem? fun i => ?_
        simp only [List.getElem?_map]
        by_cases hi : i < ns.length
        · rw [List.getElem?_range hi, List.getElem?_eq_getElem hi]
          have := hd' i (D.num .u8 ns[i]) (by rw [hpart i hi, List.getElem?_eq_getElem hi]; rfl)
          simp only [Option.map_some, Option.some.injEq]
          generalize us i = u at this
          cases this; rfl
        · rw [List.getElem?_eq_none (by simp; omega), List.getElem?_eq_none (by omega)]
          rfl
      rw [hus] at hl
      rw [run_bytesToString E.w ⟨b, o, none⟩ ns.length cap ns hl]
      have := foldl_push ns []
      simp only [List.nil_append] at this
      rw [← this]
      rfl
  · rename_i e h1 h2
    simp only [tConv, tDesc, h1, h2, Option.getD_some] at h
    cases h
  · cases hty
theorem bytes_flat : ∀ s : List UInt8, flat (s.map fun c => D.num .u8 (c.toNat : Int)) = s.map fun c => D.num .u8 (c.toNat : Int)
  | [] => rfl
  | c :: r => by
    have ih := bytes_flat r
    simp only [flat, List.map_cons, List.flatMap_cons, D.cells] at ih ⊢
    rw [ih]
    rfl
theorem convb_sound {C : Ctx} {ro : Option Nat} {n : Nat} {D0 : List Deferred} {E0 : Env} {U : Nat → Prop} {F : Nat → AV} {E : Env} {a : Act} {o : Oper} {new : Nat} {v : AV} {ups : Heap} (hR : Rel C n D0 E0 U F E a) (hd : ∀ t, o.dst = some t → t < n) (hnew : ¬ U new)
    {s d e : TypeId} {x : Operand} (ho : o.op = .convert s d x) (hb : tConvB C.prog s d = some e) (hok : convOK C.prog s d = true) {X : AV} (hX : VRel E X (a.eval x)) (hE : CONVBR e X new v ups) : Sound C ro n D0 E0 U F E a o new v ups := by
  obtain ⟨str, rfl, hl, rfl, rfl⟩ := hE
  have hx := hX.inv_str
  unfold convOK at hok
  split at hok
  · rename_i h1 h2
    simp only [tConvB, tDesc, h1, h2, Option.getD_some] at hb
    cases hb
  · rename_i h1 h2
    simp only [tConvB, tDesc, h1, h2, Option.getD_some] at hb
    cases hb
  · rename_i e' h1 h2
    simp only [tConvB, tDesc, h1, h2, Option.getD_some, Option.some.injEq] at hb
    subst hb
    simp only [Bool.and_eq_true, beq_iff_eq] at hok
    obtain ⟨he, hsz⟩ := hok
    have he : C.prog.underlying e' = some (.int .u8) := by
      split at he
      · assumption
      · cases he
    have hrun := run_bytes_of_string (P := C.prog) E.w s d e' ⟨str.toArray⟩ h1 h2 he
    have hss : (⟨str.toArray⟩ : ByteArray).size = str.length := by show str.toArray.size = _; simp
    rw [hss] at hrun
    have hge := grownCap_ge E.w str.length 0 e'
    have hcm : grownCap E.w str.length 0 e' ≤ maxLen := grownCap_le_maxLen E.w str.length 0 e' (by simp [maxLen]; omega)
    generalize grownCap E.w str.length 0 e' = cap at hrun hge hcm
    have hbs : (bytesRow ⟨str.toArray⟩ cap).size = cap := by
      simp [bytesRow, hss]; omega
    refine newrow_fr hR hd hnew (xs := str.map fun c => .num .u8 (c.toNat : Int)) (bytesRow ⟨str.toArray⟩ cap) ((bytesRow ⟨str.toArray⟩ cap).size, (bytesRow ⟨str.toArray⟩ cap).size + 1) (.inr (Nat.le_refl _)) cap E.w.drew rfl (below_drew _ _) ?_ (fun y hy => ?_) (by simpa using hge) hcm (by rw [hbs, hsz]; simp) (fun i dd hi => ?_)
    · simp only [execOp, ho, hx, Sem.run_bind, hrun, Result.andThen_ok, Sem.run_pure, List.length_map]
      rfl
    · obtain ⟨c, _, rfl⟩ := List.mem_map.1 hy
      rw [hsz]; rfl
    · rw [bytes_flat] at hi
      have hlt := (List.getElem?_eq_some_iff.1 hi).1
      simp only [List.length_map] at hlt
      rw [List.getElem?_map, List.getElem?_eq_getElem hlt] at hi
      simp only [Option.map_some, Option.some.injEq] at hi
      subst hi
      refine ⟨rfl, _, bytesRow_at ⟨str.toArray⟩ cap i (by simpa using hlt), ?_⟩
      simpa using DRel.num _ _
  · cases hok
end Go.Vc

namespace Go.Vc
open Go Go.RowKit
section
variable {P : Program} {w : World} {S : Nat → Prop}
theorem beq_same {a b : D} (h : D.beq a b = some true) : a = b := by
  cases a <;> cases b <;> simp only [D.beq] at h <;> try (cases h; done)
  split at h
  · rename_i hk
    subst hk
    simp at h
    subst h; rfl
  · cases h
theorem beqAll_same : ∀ {a b : List D}, beqAll a b = some true → a = b
  | [], [], _ => rfl
  | [], _ :: _, h => by simp [beqAll] at h
  | _ :: _, [], h => by simp [beqAll] at h
  | x :: a, y :: b, h => by
    simp only [beqAll] at h
    cases h1 : D.beq x y with
    | none => rw [h1] at h; cases h
    | some p =>
      rw [h1] at h
      simp only [Option.bind_some] at h
      cases h2 : beqAll a b with
      | none => rw [h2] at h; cases h
      | some q =>
        rw [h2] at h
        simp at h
        obtain ⟨rfl, rfl⟩ := h
        rw [beq_same h1, beqAll_same h2]
theorem beqAll_nums : ∀ {a b : List D} {r : Bool}, beqAll a b = some r → a.length = b.length ∧ (∀ x, x ∈ a → ∃ k n, x = .num k n) ∧ ∀ x, x ∈ b → ∃ k n, x = .num k n
  | [], [], _, _ => ⟨rfl, fun x h => by simp at h, fun x h => by simp at h⟩
  | [], _ :: _, _, h => by simp [beqAll] at h
  | _ :: _, [], _, h => by simp [beqAll] at h
  | x :: a, y :: b, r, h => by
    simp only [beqAll] at h
    cases h1 : D.beq x y with
    | none => rw [h1] at h; cases h
    | some p =>
      rw [h1] at h
      simp only [Option.bind_some] at h
      cases h2 : beqAll a b with
      | none => rw [h2] at h; cases h
      | some q =>
        obtain ⟨g1, g2, g3⟩ := beqAll_nums h2
        have hxy : (∃ k n, x = .num k n) ∧ ∃ k n, y = .num k n := by
          cases x <;> cases y <;> simp only [D.beq] at h1 <;> try (cases h1; done)
          exact ⟨⟨_, _, rfl⟩, ⟨_, _, rfl⟩⟩
        refine ⟨by simp [g1], fun z hz => ?_, fun z hz => ?_⟩
        · rcases List.mem_cons.1 hz with rfl | hz
          · exact hxy.1
          · exact g2 z hz
        · rcases List.mem_cons.1 hz with rfl | hz
          · exact hxy.2
          · exact g3 z hz
theorem key_eq {t : TypeId} {x y : List D} {u v : Value} {b : Bool} (ht : plainStruct P t = true) (hl : x.length + 1000 = tTag P t) (hx : DRel w S (.agg x) u) (hy : DRel w S (.agg y) v) (hb : beqAll x y = some b) :
    (Op.equal t u v).run P w = .ok b w := by
  simp only [plainStruct, Bool.and_eq_true, Bool.not_eq_true'] at ht
  obtain ⟨⟨h1, h2⟩, h3⟩ := ht
  split at h1
  · rename_i fs hfs
    have hfo : P.underlying t = some (.struct (P.fieldsOf t)) := by
      rw [hfs]; simp [Program.fieldsOf, hfs]
    have hfe : P.fieldsOf t = fs := by rw [hfs] at hfo; injection hfo with hfo; injection hfo with hfo; exact hfo.symm
    have hsize : tTag P t = fs.toList.length + 1000 := by simp [tTag, tDesc, hfs]
    cases hx with
    | agg _ us hlx hdx _ =>
      cases hy with
      | agg _ vs hly hdy _ =>
        show (Op.equalIn 10000 t (.agg us) (.agg vs)).run P w = _
        rw [run_equalIn_agg w 9999 t us vs hfo h2, hfe]
        refine eqFields_plain (S := S) 9998 us vs fs.toList 0 x y b h1 (fun j dd hj => ?_) (fun j dd hj => ?_) (by omega) hb
        · have hlt := (List.getElem?_eq_some_iff.1 hj).1
          have hu : us[j]? = some us[j] := Array.getElem?_eq_getElem (by omega)
          exact ⟨us[j], by simp, hdx j dd _ hj hu⟩
        · have hlt := (List.getElem?_eq_some_iff.1 hj).1
          have hu : vs[j]? = some vs[j] := Array.getElem?_eq_getElem (by omega)
          exact ⟨vs[j], by simp, hdy j dd _ hj hu⟩
  · cases h1
theorem find_run {t : TypeId} {x : List D} {u : Value} (ht : plainStruct P t = true) (hl : x.length + 1000 = tTag P t) (hx : DRel w S (.agg x) u) : ∀ (es : List MEnt) (ents : List MapEntry) (i : Nat) (r : Option (Nat × MEnt)),
    es.length = ents.length → (∀ (j : Nat) (e : MEnt) (y : MapEntry), es[j]? = some e → ents[j]? = some y → DRel w S e.k y.key) → mfind (.agg x) es i = some r →
    ∃ r', (Instr.findAsking t u ents i).run P w = .ok r' w ∧ ((r = none ∧ r' = none) ∨ ∃ j e y, r = some (i + j, e) ∧ r' = some (i + j, y.val) ∧ es[j]? = some e ∧ ents[j]? = some y ∧ y.key = u ∧ e.k = .agg x) := by
  intro es
  induction es with
  | nil =>
    intro ents i r hlen _ hm
    cases ents with
    | nil => simp [mfind] at hm; subst hm; exact ⟨none, by simp [Instr.findAsking], .inl ⟨rfl, rfl⟩⟩
    | cons y ys => simp at hlen
  | cons e es ih =>
    intro ents i r hlen hrel hm
    cases ents with
    | nil => simp at hlen
    | cons y ys =>
      simp only [mfind] at hm
      have hk := hrel 0 e y rfl rfl
      cases hek : e.k with
      | agg z =>
        rw [hek] at hm hk
        simp only [keyEq] at hm
        cases hb : beqAll x z with
        | none => rw [hb] at hm; cases hm
        | some b =>
          rw [hb] at hm
          have he := key_eq ht hl hx hk hb
          cases b with
          | true =>
            simp only [Option.some.injEq] at hm
            subst hm
            refine ⟨some (i, y.val), by simp [Instr.findAsking, he], .inr ⟨0, e, y, rfl, rfl, rfl, rfl, ?_, ?_⟩⟩
            · have hz := beqAll_same hb
              subst hz
              obtain ⟨_, hn, _⟩ := beqAll_nums hb
              cases hx with
              | agg _ us hlx hdx _ =>
                generalize y.key = ky at hk
                cases hk with
                | agg _ vs hly hdy _ =>
                  congr 1
                  apply Array.ext (by omega)
                  intro j h1 h2
                  have hd : x[j]? = some x[j] := List.getElem?_eq_getElem (by omega)
                  have d1 := hdx j _ us[j] hd (Array.getElem?_eq_getElem h2)
                  have d2 := hdy j _ vs[j] hd (Array.getElem?_eq_getElem h1)
                  obtain ⟨k, n, hkn⟩ := hn x[j] (List.getElem_mem _)
                  rw [hkn] at d1 d2
                  generalize us[j] = a1 at d1
                  generalize vs[j] = a2 at d2
                  cases d1; cases d2; rfl
            · rw [beqAll_same hb, hek]
          | false =>
            obtain ⟨r', h1, h2⟩ := ih ys (i + 1) r (by simpa using hlen) (fun j e y hj hy => hrel (j + 1) e y (by simpa using hj) (by simpa using hy)) hm
            refine ⟨r', by simp [Instr.findAsking, he, h1], ?_⟩
            rcases h2 with h2 | ⟨j, e', y', g1, g2, g3, g4, g5⟩
            · exact .inl h2
            · exact .inr ⟨j + 1, e', y', by rw [g1]; congr 2; omega, by rw [g2]; congr 2; omega, by simpa using g3, by simpa using g4, g5⟩
      | _ => rw [hek] at hm; simp [keyEq] at hm
theorem checkKey_plain {t : TypeId} {x : List D} {us : Array Value} (ht : plainStruct P t = true) (hl : x.length + 1000 = tTag P t) (hx : DRel w S (.agg x) (.agg us)) (em : Bool) : (Instr.checkKey em 10000 t (.agg us)).run P w = .ok () w := by
  simp only [plainStruct, Bool.and_eq_true, Bool.not_eq_true'] at ht
  obtain ⟨⟨h1, h2⟩, h3⟩ := ht
  split at h1
  · rename_i fs hfs
    have hsize : tTag P t = fs.toList.length + 1000 := by simp [tTag, tDesc, hfs]
    cases hx with
    | agg _ _ hlx _ _ =>
    unfold Instr.checkKey
    simp only [Sem.run_bind, run_underlying hfs, Result.andThen_ok]
    rw [← Array.forIn_toList]
    have hlen : fs.toList.length ≤ us.size := by omega
    have key : ∀ (fl : List Field) (i : Nat), plainFrom P fl i = true → i + fl.length ≤ us.size → (forIn fl PUnit.unit fun f (_ : PUnit) => (do
        if f.name ≠ "_" then Instr.checkKey em 9999 f.type (← part f.type us f.offset)
        pure (ForInStep.yield PUnit.unit) : Sem (ForInStep PUnit))).run P w = .ok PUnit.unit w := by
      intro fl
      induction fl with
      | nil => intro i _ _; simp
      | cons f fl ih =>
        intro i hp hle
        simp only [plainFrom, Bool.and_eq_true, beq_iff_eq, Bool.not_eq_true', beq_eq_false_iff_ne] at hp
        obtain ⟨⟨⟨ho, hn⟩, hf⟩, hp⟩ := hp
        simp only [List.length_cons] at hle
        obtain ⟨k, hk⟩ : ∃ k, P.underlying f.type = some (.int k) := by
          unfold plainField at hf
          split at hf
          · exact ⟨_, by assumption⟩
          · cases hf
        have hu : us[i]? = some us[i] := Array.getElem?_eq_getElem (by omega)
        have e1 := part_one (P := P) (w := w) f.type us i us[i] (by rw [hk]; rfl) (by simp [tAgg, tDesc, hk]) hu
        have e2 : (Instr.checkKey em 9999 f.type us[i]).run P w = .ok () w := by
          unfold Instr.checkKey
          simp only [Sem.run_bind, run_underlying hk, Result.andThen_ok]
          simp
        have hi := ih (i + 1) hp (by omega)
        simp only [List.forIn_cons, Sem.run_bind, if_pos hn, ho, e1, e2, Result.andThen_ok, Sem.run_pure, hi]
    have := key fs.toList 0 h1 (by omega)
    simp only [ne_eq, ite_not] at this ⊢
    rw [this]; simp
  · cases h1
theorem sameBits_key {x : List D} {us vs : Array Value} (hn : ∀ d, d ∈ x → ∃ k n, d = .num k n) (hx : DRel w S (.agg x) (.agg us)) (he : vs = us) : Instr.sameBits 10000 (.agg vs) (.agg us) = true := by
  subst he
  cases hx with
  | agg _ _ hl hd _ =>
  unfold Instr.sameBits
  simp only [Bool.and_eq_true, beq_self_eq_true, true_and, List.all_eq_true]
  rintro ⟨a, b⟩ hab
  obtain ⟨i, hi⟩ := List.getElem?_of_mem hab
  rw [List.getElem?_zip_eq_some] at hi
  obtain ⟨h1, h2⟩ := hi
  have hlt := (List.getElem?_eq_some_iff.1 h1).1
  have hlx : i < x.length := by simp at hlt; omega
  have hd1 : x[i]? = some x[i] := List.getElem?_eq_getElem hlx
  have k1 := hd i _ a hd1 (by simpa using h1)
  have k2 := hd i _ b hd1 (by simpa using h2)
  obtain ⟨k, n, hkn⟩ := hn _ (List.getElem_mem _)
  rw [hkn] at k1 k2
  cases k1; cases k2
  simp [Instr.sameBits]
end
section
variable {C : Ctx} {ro : Option Nat} {n : Nat} {D0 : List Deferred} {E0 : Env} {U : Nat → Prop} {F : Nat → AV} {E : Env} {a : Act} {o : Oper} {new : Nat} {v : AV} {ups : Heap}
theorem mapAt_rel {N : Nat} (hr : HR N E) {m : AV} {um : Value} (hm : VRel E m um) {id : Nat} {e : TypeId} {es : List MEnt} {ck : Nat} (h : mapAt (BE E) m = some (id, e, es, ck)) :
    E.H id = some ⟨0, e, .mp es ck⟩ ∧ ∃ g ents, E.m id = some g ∧ N ≤ g ∧ um = .map (some g) ∧ E.w.heap[g]? = some (.map ents ck) ∧ MRel E es ents := by
  unfold mapAt at h
  split at h
  · rename_i id'
    split at h
    · rename_i e' es' ck' hB
      injection h with h
      simp only [Prod.mk.injEq] at h
      obtain ⟨rfl, rfl, rfl, rfl⟩ := h
      have hH := BE_some hB
      cases hm with
      | mapv _ t _ ht h1 h =>
        obtain ⟨g, hg, rfl⟩ := h _ _ _ hH
        obtain ⟨_, _, k⟩ := hr.blk _ _ hH
        obtain ⟨k1, ob, k2, ents, rfl, k3⟩ := k g hg
        exact ⟨hH, g, ents, hg, k1, rfl, k2, k3⟩
    · cases h
  · cases h
theorem find_at {kt : TypeId} (hk : plainStruct C.prog kt = true) {kd : D} {uk : Value} (hok : keyOK (tTag C.prog kt) kd = true) (hx : VRel E (.d kd) uk) {es : List MEnt} {ents : Array MapEntry} (hM : MRel E es ents) {r : Option (Nat × MEnt)} (hm : mfind kd es 0 = some r) (em : Bool) :
    ∃ x us, kd = .agg x ∧ uk = .agg us ∧ DRel E.w E.S (.agg x) (.agg us) ∧ (Instr.checkKey em 10000 kt uk).run C.prog E.w = .ok () E.w ∧ ∃ r', (Instr.findKey kt uk ents.toList).run C.prog E.w = .ok r' E.w ∧
      ((r = none ∧ r' = none) ∨ ∃ j e y, r = some (j, e) ∧ r' = some (j, y.val) ∧ es[j]? = some e ∧ ents[j]? = some y ∧ y.key = uk ∧ e.k = kd ∧ ∀ d, d ∈ x → ∃ k n, d = .num k n) := by
  cases kd <;> simp only [keyOK] at hok <;> try (cases hok; done)
  rename_i x
  simp only [Bool.and_eq_true] at hok
  have hl := Nat.eq_of_beq_eq_true hok.1
  have hxd := hx.inv_d
  have hxd' := hxd
  cases hxd' with
  | agg _ us hlx hdx h1x =>
  obtain ⟨r', h1, h2⟩ := find_run hk hl hxd es ents.toList 0 r (by have := hM.1; simpa using this) (fun j e y he hy => (hM.2 j e y he (by simpa using hy)).2.1) hm
  refine ⟨x, us, rfl, rfl, hxd, checkKey_plain hk hl hxd em, r', ?_, ?_⟩
  · have hund : ∃ fs, C.prog.underlying kt = some (.struct fs) := by
      unfold plainStruct at hk
      simp only [Bool.and_eq_true] at hk
      have := hk.1.1
      split at this
      · exact ⟨_, by assumption⟩
      · cases this
    obtain ⟨fs, hfs⟩ := hund
    simp only [Instr.findKey, Sem.run_bind, run_underlying hfs, Result.andThen_ok]
    cases hents : ents.toList with
    | nil =>
      rw [hents] at h1
      simp only [Instr.findNow, Sem.run_pure]
      simpa [Instr.findAsking] using h1
    | cons y ys =>
      rw [hents] at h1
      have hn : Instr.findNow (.struct fs) (.agg us) (y :: ys) 0 = none := by
        unfold Instr.findNow
        have : Instr.sameNow (.struct fs) (.agg us) y.key = none := by unfold Instr.sameNow; rfl
        rw [this]
      rw [hn]
      exact h1
  · rcases h2 with h2 | ⟨j, e, y, g1, g2, g3, g4, g5, g6⟩
    · exact .inl h2
    · rw [Nat.zero_add] at g1 g2
      refine .inr ⟨j, e, y, g1, g2, g3, by simpa using g4, g5, g6, ?_⟩
      have : ∀ (es : List MEnt) (i j : Nat) (e : MEnt), mfind (.agg x) es i = some (some (j, e)) → ∀ d, d ∈ x → ∃ k n, d = .num k n := by
        intro es
        induction es with
        | nil => intro i j e h; simp [mfind] at h
        | cons z zs ih =>
          intro i j e h
          simp only [mfind] at h
          split at h
          · rename_i hk
            cases hz : z.k <;> rw [hz] at hk <;> simp only [keyEq] at hk <;> try (cases hk; done)
            exact (beqAll_nums hk).2.1
          · exact ih _ _ _ h
          · cases h
      rw [g1] at hm
      exact this es 0 j e hm
def mapOK (P : Program) (t : TypeId) : Bool := match P.underlying t with | some (.map k e) => plainStruct P k && zShapeOK P e | _ => false
theorem mapTy {P : Program} {t : TypeId} (h : mapOK P t = true) : P.underlying t = some (.map (tMapKey P t) (tMapElem P t)) ∧ plainStruct P (tMapKey P t) = true ∧ zShapeOK P (tMapElem P t) = true := by
  unfold mapOK at h
  split at h
  · rename_i k e hu
    simp only [Bool.and_eq_true] at h
    have e1 : tMapKey P t = k := by simp [tMapKey, tDesc, hu]
    have e2 : tMapElem P t = e := by simp [tMapElem, tDesc, hu]
    rw [e1, e2]
    exact ⟨hu, h⟩
  · cases h
def zDataOK (P : Program) (t : TypeId) : Bool := zShapeOK P t && match P.info? t with | some i => (match i.zero with | some (.int _ _) => true | some (.bool _) => true | some (.string _) => true | _ => false) | none => false
theorem zData_rel {P : Program} {t : TypeId} {w : World} {S : Nat → Prop} (h : zDataOK P t = true) : ∃ z, (zeroValue t).run P w = .ok z w ∧ DRel w S (toD0 (zeroA P t)) z := by
  simp only [zDataOK, Bool.and_eq_true] at h
  obtain ⟨hz, h⟩ := h
  let E1 : Env := ⟨P, fun _ => none, fun _ => none, fun _ => none, w, S⟩
  obtain ⟨z, hz1, hz2⟩ := zeroA_rel (w := w) (E := E1) hz
  refine ⟨z, hz1, ?_⟩
  split at h
  · rename_i i hi
    split at h
    all_goals first | (cases h; done) | skip
    all_goals
      rename_i hiz
      have hzz : zeroA P t = ofConst z := by
        simp [zeroValue, typeInfo, hi, hiz] at hz1
        subst hz1
        simp only [zShapeOK, Bool.and_eq_true, hi, hiz] at hz
        have ha := hz.2
        simp at ha
        simp [zeroA, ha, tZero, hi, hiz, Value.cells]
      simp [zeroValue, typeInfo, hi, hiz] at hz1
      subst hz1
      rw [hzz] at hz2 ⊢
      exact hz2.inv_d
  · cases h
theorem lookup_sound (hR : Rel C n D0 E0 U F E a) {t : TypeId} {m k : AV} {um uk : Value} {ok : Bool} (hty : mapOK C.prog t = true) (hz : zDataOK C.prog (tMapElem C.prog t) = true) (hm : VRel E m um) (hk : VRel E k uk)
    (hE : LOOKUPR (tTag C.prog (tMapKey C.prog t)) (toD0 (zeroA C.prog (tMapElem C.prog t))) ok m k (BE E) v) : ∃ u, (Instr.lookup t um uk ok).run C.prog E.w = .ok u E.w ∧ VRel E v u := by
  obtain ⟨id, e, es, ck, kd, r, h1, rfl, h2, h3, rfl⟩ := hE
  obtain ⟨t1, t2, _⟩ := mapTy hty
  obtain ⟨hH, g, ents, hg, _, rfl, hheap, hM⟩ := mapAt_rel hR.hr hm h1
  obtain ⟨x, us, rfl, rfl, hxd, hck, r', hfr, hcase⟩ := find_at t2 h2 hk hM h3 ents.isEmpty
  obtain ⟨z, hz1, hz2⟩ := zData_rel (w := E.w) (S := E.S) hz
  have hget : (getObj g).run C.prog E.w = .ok (.map ents ck) E.w := by simp [getObj, Sem.run, hheap]
  have fin : ∀ (y : D) (b : Bool) (u : Value), DRel E.w E.S y u → VRel E (match ok with | true => .tup [.d y, .d (.bool b)] | false => .d y) (if ok then .tuple #[u, .bool b] else u) := fun y b u h => by
    cases ok with
    | false => exact .d _ _ h
    | true =>
      refine .tup _ _ rfl fun i v' u' hv hu => ?_
      match i, hv, hu with
      | 0, hv, hu => simp at hv hu; subst hv; subst hu; exact .d _ _ h
      | 1, hv, hu => simp at hv hu; subst hv; subst hu; exact .d _ _ (.bool b)
      | i + 2, hv, hu => simp at hv
  rcases hcase with ⟨rfl, rfl⟩ | ⟨j, e', y, rfl, rfl, g3, g4, _⟩
  · refine ⟨_, ?_, fin _ false z hz2⟩
    simp [Instr.lookup, run_underlying t1, hget, hck, hfr, hz1]
  · refine ⟨_, ?_, fin _ true y.val (hM.2 j e' y g3 g4).2.2⟩
    simp [Instr.lookup, run_underlying t1, hget, hck, hfr]
theorem sound_set (hR : Rel C n D0 E0 U F E a) (hd : ∀ t, o.dst = some t → t < n) {id : Nat} {e : TypeId} {b0 b1 : Body} {g : Nat} {o0 o1 : Obj} (hH : E.H id = some ⟨0, e, b0⟩) (hsh : sameShape b0 b1) (hm : E.m id = some g) (hN : C.N ≤ g) (hg : E.w.heap[g]? = some o0)
    (hnc : ∀ C' el fr, o0 ≠ .cells C' el fr) (u : Value) (r : Next) (hru : r = .value u ∨ (r = .skip ∧ u = undef)) (hrun : (execOp a.eval o).run C.prog E.w = .ok r { E.w with heap := E.w.heap.setIfInBounds g o1 })
    (hor : OR (E.chg id (some g) ⟨0, e, b1⟩ { E.w with heap := E.w.heap.setIfInBounds g o1 }) e b1 o1) (hv : VRel (E.chg id (some g) ⟨0, e, b1⟩ { E.w with heap := E.w.heap.setIfInBounds g o1 }) v u) : Sound C ro n D0 E0 U F E a o new v [(id, some ⟨0, e, b1⟩)] := by
  have hlt := (Array.getElem?_eq_some_iff.1 hg).1
  refine sound_chg hR hd hH (.inr ⟨rfl, rfl, hsh, hm.symm, fun g' C' el fr hg' hC => ?_⟩) ⟨by simp, fun b _ hne => ?_⟩ u r hru hrun ⟨rfl, rfl, rfl, by simp, fun b hb => ?_⟩ (fun h => by cases h) (fun g' hg' => ?_) hv
  · rw [hm] at hg'; injection hg' with hg'; subst hg'
    rw [hg] at hC; injection hC with hC
    exact absurd hC (hnc _ _ _)
  · simp only [Array.getElem?_setIfInBounds]
    rw [if_neg (fun e => hne (by rw [hm, e]))]
  · simp only [Array.getElem?_setIfInBounds]
    rw [if_neg (by omega)]
  · injection hg' with hg'
    subst hg'
    exact ⟨hN, .inr hm, o1, by simp [hlt], hor⟩
theorem MRel.step {E' : Env} (hs : E.Step E') {es : List MEnt} {ents : Array MapEntry} (h : MRel E es ents) : MRel E' es ents :=
  ⟨h.1, fun i x y hx hy => let ⟨a, b, c⟩ := h.2 i x y hx hy; ⟨a, b.mono hs.S hs.w, c.mono hs.S hs.w⟩⟩
theorem MRel.set {es : List MEnt} {ents : Array MapEntry} (h : MRel E es ents) {j : Nat} {x : MEnt} {y : MapEntry} (hb : x.born = y.born) (hk : DRel E.w E.S x.k y.key) (hv : DRel E.w E.S x.v y.val) {f : MapEntry → MapEntry} {z : MapEntry} (hz : ents[j]? = some z) (hf : f z = y) : MRel E (es.set j x) (ents.modify j f) := by
  refine ⟨by simp [h.1], fun i x' y' hx hy => ?_⟩
  rw [List.getElem?_set] at hx
  rw [Array.getElem?_modify] at hy
  by_cases hi : j = i
  · subst hi
    rw [if_pos rfl] at hx hy
    split at hx
    · injection hx with hx
      rw [hz] at hy
      injection hy with hy
      subst hx
      rw [← hy, hf]
      exact ⟨hb, hk, hv⟩
    · cases hx
  · rw [if_neg hi] at hx hy
    exact h.2 i x' y' hx hy
theorem MRel.push {es : List MEnt} {ents : Array MapEntry} (h : MRel E es ents) {x : MEnt} {y : MapEntry} (hb : x.born = y.born) (hk : DRel E.w E.S x.k y.key) (hv : DRel E.w E.S x.v y.val) : MRel E (es ++ [x]) (ents.push y) := by
  refine ⟨by simp [h.1], fun i x' y' hx hy => ?_⟩
  rw [Array.getElem?_push] at hy
  by_cases hi : i = ents.size
  · rw [if_pos hi] at hy
    rw [List.getElem?_append_right (by rw [h.1]; omega)] at hx
    rw [show i - es.length = 0 by rw [h.1]; omega] at hx
    simp at hx
    injection hy with hy
    subst hx; subst hy
    exact ⟨hb, hk, hv⟩
  · rw [if_neg hi] at hy
    have := (Array.getElem?_eq_some_iff.1 hy).1
    rw [List.getElem?_append_left (by rw [h.1]; omega)] at hx
    exact h.2 i x' y' hx hy
theorem run_setObj_map {P : Program} {w : World} {g : Nat} {ents ents' : Array MapEntry} {ck ck' : Nat} (h : w.heap[g]? = some (.map ents ck)) : (setObj g (.map ents' ck')).run P w = .ok () { w with heap := w.heap.setIfInBounds g (.map ents' ck') } := by
  simp [setObj, Sem.run, h]
theorem map_step (hR : Rel C n D0 E0 U F E a) {id : Nat} {e : TypeId} {es es' : List MEnt} {ck ck' g : Nat} {ents : Array MapEntry} {o1 : Obj} (hH : E.H id = some ⟨0, e, .mp es ck⟩) (hm : E.m id = some g) (hg : E.w.heap[g]? = some (.map ents ck)) :
    E.Step (E.chg id (some g) ⟨0, e, .mp es' ck'⟩ { E.w with heap := E.w.heap.setIfInBounds g o1 }) :=
  chg_step hR.hr hH (.inr ⟨rfl, rfl, trivial, hm.symm, fun g' C' el fr hg' hC => by
    rw [hm] at hg'; injection hg' with hg'; subst hg'
    rw [hg] at hC; cases hC⟩) ⟨by simp, fun b _ hne => by
      simp only [Array.getElem?_setIfInBounds]
      rw [if_neg (fun e => hne (by rw [hm, e]))]⟩
theorem mupd_sound (hR : Rel C n D0 E0 U F E a) (hd : o.dst = none) {t : TypeId} {mo ko xo : Operand} (ho : o.op = .mapUpdate t mo ko xo) (hty : mapOK C.prog t = true) {m k x : AV} (hm : VRel E m (a.eval mo)) (hk : VRel E k (a.eval ko)) (hx : VRel E x (a.eval xo))
    (hE : MUPDR (tTag C.prog (tMapKey C.prog t)) m k x (BE E) ups) : Sound C ro n D0 E0 U F E a o new .any ups := by
  obtain ⟨id, e, es, ck, kd, vd, r, h1, rfl, h2, rfl, h3, rfl⟩ := hE
  obtain ⟨t1, t2, _⟩ := mapTy hty
  obtain ⟨hH, g, ents, hg, hN, hum, hheap, hM⟩ := mapAt_rel hR.hr hm h1
  obtain ⟨xs, us, rfl, huk, hxd, hck, r', hfr, hcase⟩ := find_at t2 h2 hk hM h3 false
  have hvd := hx.inv_d
  have hget : (getObj g).run C.prog E.w = .ok (.map ents ck) E.w := by simp [getObj, Sem.run, hheap]
  have hd' : ∀ t, o.dst = some t → t < n := fun t h => by rw [hd] at h; cases h
  rcases hcase with ⟨rfl, rfl⟩ | ⟨j, e', y, rfl, rfl, g3, g4, g5, g6, g7⟩
  · have hst := map_step hR (es' := es ++ [⟨.agg xs, vd, ck⟩]) (ck' := ck + 1) (o1 := .map (ents.push { key := a.eval ko, val := a.eval xo, born := ck }) (ck + 1)) hH hg hheap
    refine sound_set hR hd' hH trivial hg hN hheap (fun _ _ _ h => by cases h) undef .skip (.inr ⟨rfl, rfl⟩) (o1 := .map (ents.push { key := a.eval ko, val := a.eval xo, born := ck }) (ck + 1)) ?_ ⟨_, rfl, ?_⟩ (.any _)
    · simp only [execOp, ho, hum, Instr.mapUpdate, Sem.run_bind, run_underlying t1, Result.andThen_ok, hget, hck, hfr, run_setObj_map hheap, Sem.run_pure]
    · exact (hM.push (x := ⟨.agg xs, vd, ck⟩) (y := { key := a.eval ko, val := a.eval xo, born := ck }) rfl (by rw [huk]; exact hxd) hvd).step hst
  · have hst := map_step hR (es' := es.set j ⟨.agg xs, vd, e'.born⟩) (ck' := ck) (o1 := .map (ents.modify j fun e => { e with key := a.eval ko, val := a.eval xo }) ck) hH hg hheap
    have hkts : (Instr.keyThatStays (((ents[j]?).map (·.key)).getD (a.eval ko)) (a.eval ko)).run C.prog E.w = .ok (a.eval ko) E.w := by
      rw [g4]
      simp only [Option.map_some, Option.getD_some, g5, huk, Instr.keyThatStays]
      rw [sameBits_key g7 hxd rfl]
      simp
    refine sound_set hR hd' hH trivial hg hN hheap (fun _ _ _ h => by cases h) undef .skip (.inr ⟨rfl, rfl⟩) (o1 := .map (ents.modify j fun e => { e with key := a.eval ko, val := a.eval xo }) ck) ?_ ⟨_, rfl, ?_⟩ (.any _)
    · simp only [execOp, ho, hum, Instr.mapUpdate, Sem.run_bind, run_underlying t1, Result.andThen_ok, hget, hck, hfr, hkts, run_setObj_map hheap, Sem.run_pure]
    · exact (hM.set (x := ⟨.agg xs, vd, e'.born⟩) (y := { key := a.eval ko, val := a.eval xo, born := y.born }) (hM.2 j e' y g3 g4).1 (by rw [huk]; exact hxd) hvd g4 rfl).step hst
theorem mentry_sound (hR : Rel C n D0 E0 U F E a) (hd : ∀ t, o.dst = some t → t < n) {t : TypeId} {mo ko : Operand} (ho : o.op = .mapEntry t mo ko) (hty : mapOK C.prog t = true) (hz : zDataOK C.prog (tMapElem C.prog t) = true) {m k : AV} (hm : VRel E m (a.eval mo)) (hk : VRel E k (a.eval ko))
    (hE : MENTRYR (tTag C.prog (tMapKey C.prog t)) (toD0 (zeroA C.prog (tMapElem C.prog t))) m k (BE E) v ups) : Sound C ro n D0 E0 U F E a o new v ups := by
  obtain ⟨id, e, es, ck, kd, r, h1, rfl, h2, h3, rfl, rfl⟩ := hE
  obtain ⟨t1, t2, _⟩ := mapTy hty
  obtain ⟨hH, g, ents, hg, hN, hum, hheap, hM⟩ := mapAt_rel hR.hr hm h1
  obtain ⟨xs, us, rfl, huk, hxd, hck, r', hfr, hcase⟩ := find_at t2 h2 hk hM h3 false
  obtain ⟨z, hz1, hz2⟩ := zData_rel (w := E.w) (S := E.S) hz
  have hget : (getObj g).run C.prog E.w = .ok (.map ents ck) E.w := by simp [getObj, Sem.run, hheap]
  have tup2 : ∀ {E' : Env} (y : D) (b : Int) (u : Value), DRel E'.w E'.S y u → VRel E' (.tup [.d y, .d (.num .i64 b)]) (.tuple #[u, .int .i64 b]) := fun y b u h => .tup _ _ rfl (fun i v' u' hv hu => by
    match i, hv, hu with
    | 0, hv, hu => simp at hv hu; subst hv; subst hu; exact .d _ _ h
    | 1, hv, hu => simp at hv hu; subst hv; subst hu; exact .d _ _ (.num _ _)
    | i + 2, hv, hu => simp at hv)
  rcases hcase with ⟨rfl, rfl⟩ | ⟨j, e', y, rfl, rfl, g3, g4, g5, g6, g7⟩
  · have hst := map_step hR (es' := es ++ [⟨.agg xs, toD0 (zeroA C.prog (tMapElem C.prog t)), ck⟩]) (ck' := ck + 1) (o1 := .map (ents.push { key := a.eval ko, val := z, born := ck }) (ck + 1)) hH hg hheap
    refine sound_set hR hd hH trivial hg hN hheap (fun _ _ _ h => by cases h) (.tuple #[z, .int .i64 ck]) _ (.inl rfl) (o1 := .map (ents.push { key := a.eval ko, val := z, born := ck }) (ck + 1)) ?_ ⟨_, rfl, ?_⟩ (tup2 _ _ _ (hz2.mono hst.S hst.w))
    · simp only [execOp, ho, hum, Instr.mapEntry, Sem.run_bind, run_underlying t1, Result.andThen_ok, hget, hck, hfr, hz1, run_setObj_map hheap, Sem.run_pure, goInt]
    · exact (hM.push (x := ⟨.agg xs, toD0 (zeroA C.prog (tMapElem C.prog t)), ck⟩) (y := { key := a.eval ko, val := z, born := ck }) rfl (by rw [huk]; exact hxd) hz2).step hst
  · have hst := map_step hR (es' := es.set j ⟨.agg xs, e'.v, e'.born⟩) (ck' := ck) (o1 := .map (ents.modify j fun e => { e with key := a.eval ko }) ck) hH hg hheap
    have hkts : (Instr.keyThatStays (((ents[j]?).map (·.key)).getD (a.eval ko)) (a.eval ko)).run C.prog E.w = .ok (a.eval ko) E.w := by
      rw [g4]
      simp only [Option.map_some, Option.getD_some, g5, huk, Instr.keyThatStays]
      rw [sameBits_key g7 hxd rfl]
      simp
    obtain ⟨m1, m2, m3⟩ := hM.2 j e' y g3 g4
    refine sound_set hR hd hH trivial hg hN hheap (fun _ _ _ h => by cases h) (.tuple #[y.val, .int .i64 e'.born]) _ (.inl rfl) (o1 := .map (ents.modify j fun e => { e with key := a.eval ko }) ck) ?_ ⟨_, rfl, ?_⟩ (tup2 _ _ _ (m3.mono hst.S hst.w))
    · simp only [execOp, ho, hum, Instr.mapEntry, Sem.run_bind, run_underlying t1, Result.andThen_ok, hget, hck, hfr, hkts, run_setObj_map hheap, Sem.run_pure, goInt]
      simp [g4, m1]
    · exact (hM.set (x := ⟨.agg xs, e'.v, e'.born⟩) (y := { key := a.eval ko, val := y.val, born := y.born }) m1 (by rw [huk]; exact hxd) m3 g4 rfl).step hst
end
end Go.Vc

namespace Go.Vc
open Go Go.RowKit
section
variable {C : Ctx} {ro : Option Nat} {n : Nat} {D0 : List Deferred} {E0 : Env} {U : Nat → Prop} {F : Nat → AV} {E : Env} {a : Act} {o : Oper} {new : Nat} {v : AV} {ups : Heap}
theorem mstore_at {b : Int} {vd : D} : ∀ {es es' : List MEnt}, mstore b vd es = some es' → ∃ j x, es[j]? = some x ∧ (x.born : Int) = b ∧ es' = es.set j ⟨x.k, vd, x.born⟩ ∧ ∀ i y, i < j → es[i]? = some y → (y.born : Int) ≠ b := by
  intro es
  induction es with
  | nil => intro es' h; simp [mstore] at h
  | cons e r ih =>
    intro es' h
    simp only [mstore] at h
    split at h
    · rename_i hb
      injection h with h
      exact ⟨0, e, rfl, hb, by rw [← h]; rfl, fun i y hi => by omega⟩
    · rename_i hb
      cases hr : mstore b vd r with
      | none => rw [hr] at h; cases h
      | some r' =>
        rw [hr] at h
        injection h with h
        obtain ⟨j, x, h1, h2, h3, h4⟩ := ih hr
        refine ⟨j + 1, x, h1, h2, by rw [← h, h3]; rfl, fun i y hi hy => ?_⟩
        cases i with
        | zero => simp at hy; subst hy; exact hb
        | succ i => exact h4 i y (by omega) (by simpa using hy)
theorem mstore_sound (hR : Rel C n D0 E0 U F E a) (hd : o.dst = none) {t : TypeId} {mo so xo : Operand} (ho : o.op = .entryStore t mo so xo) {m s x : AV} (hm : VRel E m (a.eval mo)) (hs : VRel E s (a.eval so)) (hx : VRel E x (a.eval xo))
    (hE : MSTORER m s x (BE E) ups) : Sound C ro n D0 E0 U F E a o new .any ups := by
  obtain ⟨id, e, es, ck, b, vd, es', h1, rfl, rfl, h3, rfl⟩ := hE
  obtain ⟨hH, g, ents, hg, hN, hum, hheap, hM⟩ := mapAt_rel hR.hr hm h1
  obtain ⟨j, y, g1, g2, rfl, g4⟩ := mstore_at h3
  have hvd := hx.inv_d
  have hsn := hs.inv_num
  have hget : (getObj g).run C.prog E.w = .ok (.map ents ck) E.w := by simp [getObj, Sem.run, hheap]
  have hd' : ∀ t, o.dst = some t → t < n := fun t h => by rw [hd] at h; cases h
  have hlt := (List.getElem?_eq_some_iff.1 g1).1
  have hlt' : j < ents.size := by rw [← hM.1]; exact hlt
  have hz : ents[j]? = some ents[j] := Array.getElem?_eq_getElem hlt'
  obtain ⟨m1, m2, m3⟩ := hM.2 j y _ g1 hz
  have hfind : ents.findIdx? (fun e => (e.born : Int) == b) = some j := by
    rw [Array.findIdx?_eq_some_iff_getElem]
    refine ⟨hlt', by simpa [← m1] using g2, fun i hi => ?_⟩
    have hil : i < es.length := by omega
    have := g4 i es[i] hi (List.getElem?_eq_getElem hil)
    obtain ⟨k1, _, _⟩ := hM.2 i es[i] _ (List.getElem?_eq_getElem hil) (Array.getElem?_eq_getElem (by omega))
    simpa [← k1] using this
  have hst := map_step hR (es' := es.set j ⟨y.k, vd, y.born⟩) (ck' := ck) (o1 := .map (ents.modify j fun e => { e with val := a.eval xo }) ck) hH hg hheap
  refine sound_set hR hd' hH trivial hg hN hheap (fun _ _ _ h => by cases h) undef .skip (.inr ⟨rfl, rfl⟩) (o1 := .map (ents.modify j fun e => { e with val := a.eval xo }) ck) ?_ ⟨_, rfl, ?_⟩ (.any _)
  · simp only [execOp, ho, hum, hsn, Instr.entryStore, Sem.run_bind, Result.andThen_ok, hget, asInt, asIntOf, Sem.run_pure, hfind, run_setObj_map hheap]
  · exact (hM.set (x := ⟨y.k, vd, y.born⟩) (y := { key := ents[j].key, val := a.eval xo, born := ents[j].born }) m1 m2 hvd hz rfl).step hst
theorem MRel.erase {es : List MEnt} {ents : Array MapEntry} (h : MRel E es ents) (j : Nat) : MRel E (es.eraseIdx j) (ents.eraseIdxIfInBounds j) := by
  have key : ∀ i, (ents.eraseIdxIfInBounds j)[i]? = if i < j then ents[i]? else ents[i + 1]? := fun i => by
    unfold Array.eraseIdxIfInBounds
    split
    · rename_i hj
      rw [Array.getElem?_eraseIdx]
    · rename_i hj
      split
      · rfl
      · rw [Array.getElem?_eq_none (by omega), Array.getElem?_eq_none (by omega)]
  refine ⟨?_, fun i x y hx hy => ?_⟩
  · unfold Array.eraseIdxIfInBounds
    split
    · rename_i hj
      rw [List.length_eraseIdx, if_pos (by rw [h.1]; exact hj), Array.size_eraseIdx, h.1]
    · rename_i hj
      rw [List.length_eraseIdx, if_neg (by rw [h.1]; exact hj), h.1]
  · rw [key] at hy
    rw [List.getElem?_eraseIdx] at hx
    split at hx
    · rename_i hi; rw [if_pos hi] at hy; exact h.2 i x y hx hy
    · rename_i hi; rw [if_neg hi] at hy; exact h.2 _ x y hx hy
theorem mdel_sound (hR : Rel C n D0 E0 U F E a) (hd' : ∀ t, o.dst = some t → t < n) {c : Call} (ho : o.op = .call c) (hc : c.callee = .builtin .delete) {t : TypeId} {tk : TypeId} (hat : c.argTypes = #[t, tk]) {mo ko : Operand} (hargs : c.args = #[mo, ko]) (hty : mapOK C.prog t = true) {m k : AV} (hm : VRel E m (a.eval mo)) (hk : VRel E k (a.eval ko))
    (hE : MDELR (tTag C.prog (tMapKey C.prog t)) m k (BE E) ups) : Sound C ro n D0 E0 U F E a o new .any ups := by
  obtain ⟨id, e, es, ck, kd, r, h1, rfl, h2, h3, rfl⟩ := hE
  obtain ⟨t1, t2, _⟩ := mapTy hty
  obtain ⟨hH, g, ents, hg, hN, hum, hheap, hM⟩ := mapAt_rel hR.hr hm h1
  obtain ⟨xs, us, rfl, huk, hxd, hck, r', hfr, hcase⟩ := find_at t2 h2 hk hM h3 ents.isEmpty
  have hget : (getObj g).run C.prog E.w = .ok (.map ents ck) E.w := by simp [getObj, Sem.run, hheap]
  obtain ⟨callee, args, argTypes⟩ := c
  simp only at hc hat hargs
  subst hc; subst hat; subst hargs
  rcases hcase with ⟨rfl, rfl⟩ | ⟨j, e', y, rfl, rfl, g3, g4, g5, g6, g7⟩
  · have hst := map_step hR (es' := es) (ck' := ck) (o1 := .map ents ck) hH hg hheap
    refine sound_set hR hd' hH trivial hg hN hheap (fun _ _ _ h => by cases h) (.tuple #[]) _ (.inl rfl) (o1 := .map ents ck) ?_ ⟨_, rfl, hM.step hst⟩ (.any _)
    simp only [execOp, ho, resolve, invoke, builtin, Sem.run_bind, Sem.run_pure, Result.andThen_ok, List.map_toArray, List.map_cons, List.map_nil, hum]
    simp [Builtin.delete_, run_underlying t1, hget, hck, hfr, run_setObj_map hheap]
  · have hst := map_step hR (es' := es.eraseIdx j) (ck' := ck) (o1 := .map (ents.eraseIdxIfInBounds j) ck) hH hg hheap
    refine sound_set hR hd' hH trivial hg hN hheap (fun _ _ _ h => by cases h) (.tuple #[]) _ (.inl rfl) (o1 := .map (ents.eraseIdxIfInBounds j) ck) ?_ ⟨_, rfl, (hM.erase j).step hst⟩ (.any _)
    simp only [execOp, ho, resolve, invoke, builtin, Sem.run_bind, Sem.run_pure, Result.andThen_ok, List.map_toArray, List.map_cons, List.map_nil, hum]
    simp [Builtin.delete_, run_underlying t1, hget, hck, hfr, run_setObj_map hheap]
theorem newobj_sound (hR : Rel C n D0 E0 U F E a) (hd : ∀ t, o.dst = some t → t < n) (hnew : ¬ U new) {b : Body} {ob : Obj} {u : Value} (hrun : (execOp a.eval o).run C.prog E.w = .ok (.value u) { E.w with heap := E.w.heap.push ob })
    (hor : OR (E.news new (some E.w.heap.size) ⟨0, 0, b⟩ [] { E.w with heap := E.w.heap.push ob }) 0 b ob) (hv : VRel (E.news new (some E.w.heap.size) ⟨0, 0, b⟩ [] { E.w with heap := E.w.heap.push ob }) v u) :
    Sound C ro n D0 E0 U F E a o new v [(new, some ⟨0, 0, b⟩)] := by
  refine sound_new hR hd hnew ⟨0, 0, b⟩ [] (some E.w.heap.size) { E.w with heap := E.w.heap.push ob } u _ hrun (below_alloc _ _ _ hR.hN) (push_lt E.w _) (by simp) (fun h => by cases h) (fun g hg => ?_) ?_ hv
  · injection hg with hg
    subst hg
    exact ⟨Nat.le_refl _, ob, by simp, hor⟩
  · rw [upH_one]; rfl
theorem mkmap_sound (hR : Rel C n D0 E0 U F E a) (hd : ∀ t, o.dst = some t → t < n) (hnew : ¬ U new) {t : TypeId} (ho : o.op = .makeMap t none) : Sound C ro n D0 E0 U F E a o new (.mapv new) [(new, some ⟨0, 0, .mp [] 0⟩)] := by
  refine newobj_sound hR hd hnew (ob := .map #[] 0) (u := .map (some E.w.heap.size)) ?_ ⟨#[], rfl, rfl, fun i x y h => by simp at h⟩ ?_
  · simp [execOp, ho, Instr.makeMap, newObj, Sem.run]
  · exact .mapv new 0 _ (by simp [Env.news]) rfl fun e es ck he => ⟨E.w.heap.size, by simp [Env.news], rfl⟩
theorem range_sound (hR : Rel C n D0 E0 U F E a) (hd : ∀ t, o.dst = some t → t < n) (hnew : ¬ U new) {t : TypeId} {x : Operand} (ho : o.op = .range t x) (hty : (match C.prog.underlying t with | some .string => true | _ => false) = true) {s : List UInt8} (hx : VRel E (.d (.str s)) (a.eval x)) :
    Sound C ro n D0 E0 U F E a o new (.iter new) [(new, some ⟨0, 0, .it s 0⟩)] := by
  have hu : C.prog.underlying t = some .string := by
    split at hty
    · assumption
    · cases hty
  refine newobj_sound hR hd hnew (ob := .stringIter ⟨s.toArray⟩ 0) (u := .pointer (some ⟨E.w.heap.size, 0, none⟩)) ?_ rfl ?_
  · simp [execOp, ho, Instr.range, run_underlying hu, hx.inv_str, newObj, Sem.run]
  · exact .iter new 0 _ (by simp [Env.news]) rfl fun e es ck he => ⟨E.w.heap.size, by simp [Env.news], rfl⟩
theorem next_sound (hR : Rel C n D0 E0 U F E a) (hd : ∀ t, o.dst = some t → t < n) {x : Operand} (ho : o.op = .next x true) {X : AV} (hx : VRel E X (a.eval x)) (hE : NEXTR X (BE E) v ups) : Sound C ro n D0 E0 U F E a o new v ups := by
  unfold NEXTR at hE
  split at hE
  · rename_i id
    split at hE
    · rename_i e s p hB
      have hH := BE_some hB
      obtain ⟨_, _, k⟩ := hR.hr.blk _ _ hH
      have hx' : ∃ g, E.m id = some g ∧ a.eval x = .pointer (some ⟨g, 0, none⟩) := by
        generalize a.eval x = ux at hx
        cases hx with
        | iter _ t _ ht h1 h => exact h _ _ _ hH
      obtain ⟨g, hg, hum⟩ := hx'
      obtain ⟨hN, ob, hheap, hob⟩ := k g hg
      simp only [OR] at hob
      subst hob
      have hget : (getObj g).run C.prog E.w = .ok (.stringIter ⟨s.toArray⟩ p) E.w := by simp [getObj, Sem.run, hheap]
      have hset : ∀ o1, (setObj g o1).run C.prog E.w = .ok () { E.w with heap := E.w.heap.setIfInBounds g o1 } := fun o1 => by simp [setObj, Sem.run, hheap]
      have hsz : (⟨s.toArray⟩ : ByteArray).size = s.length := by simp [ByteArray.size]
      rcases hE with ⟨hp, rfl, rfl⟩ | ⟨hp, rfl, rfl⟩
      · refine sound_set hR hd hH trivial hg hN hheap (fun _ _ _ h => by cases h) (.tuple #[.bool true, .int .i64 p, .int .i32 (Utf8.decode ⟨s.toArray⟩ p).1]) _ (.inl rfl) (o1 := .stringIter ⟨s.toArray⟩ (p + (Utf8.decode ⟨s.toArray⟩ p).2)) ?_ rfl ?_
        · simp only [execOp, ho, hum, Instr.next, Sem.run_bind, hget, Result.andThen_ok]
          rw [if_pos (by rw [hsz]; exact hp)]
          simp only [Sem.run_bind, hset, Result.andThen_ok, Sem.run_pure, goInt]
        · refine .tup _ _ rfl fun i v' u' hv hu => ?_
          match i, hv, hu with
          | 0, hv, hu => simp at hv hu; subst hv; subst hu; exact .d _ _ (.bool _)
          | 1, hv, hu => simp at hv hu; subst hv; subst hu; exact .d _ _ (.num _ _)
          | 2, hv, hu => simp at hv hu; subst hv; subst hu; exact .d _ _ (.num _ _)
          | i + 3, hv, hu => simp at hv
      · refine sound_val hR hd (.tuple #[.bool false]) ?_ (.tup _ _ rfl fun i v' u' hv hu => ?_)
        · simp only [execOp, ho, hum, Instr.next, Sem.run_bind, hget, Result.andThen_ok]
          rw [if_neg (by rw [hsz]; omega)]
          simp
        · match i, hv, hu with
          | 0, hv, hu => simp at hv hu; subst hv; subst hu; exact .d _ _ (.bool _)
          | i + 1, hv, hu => simp at hv
    · exact hE.elim
  · exact hE.elim
end
end Go.Vc
