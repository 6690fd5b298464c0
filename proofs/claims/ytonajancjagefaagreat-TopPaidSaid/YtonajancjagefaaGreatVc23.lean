/- A part of the proof: general laws of a reading of the model by abstract data, or contracts of the functions that the law calls. -/
import Derived.Deep.Slices
import Derived.Carry
import Derived.ChangeSame
import Derived.Test.YtonajancjagefaaGreatVc22
set_option maxRecDepth 100000
namespace Go.Vc
open Go Go.RowKit Go.ChangeShapes Go.WideShapes
def isAg (P : Program) (t : TypeId) : Bool := match P.underlying t with | some (.struct _) => true | _ => false
def mkD : Bool → List D → D
  | true, ds => .agg ds
  | false, ds => ds.headD .nili
def contig (P : Program) : List Field → Nat → Nat → Bool
  | [], o, n => Nat.beq o n
  | f :: r, o, n => Nat.beq f.offset o && contig P r (o + P.cellsOf f.type) n
def okTy (P : Program) : Nat → TypeId → Bool
  | 0, _ => false
  | k + 1, t => match P.underlying t with
    | some .bool => true
    | some (.int _) => true
    | some .string => true
    | some (.slice e) => okTy P k e && !(Nat.beq (P.cellsOf e) 0)
    | some (.struct fs) => fs.toList.all (fun f => okTy P k f.type) && contig P fs.toList 0 (P.cellsOf t)
    | _ => false
def ShF (R : TypeId → List D → Prop) : List Field → List D → Prop
  | [], ds => ds = []
  | f :: r, ds => ∃ d1 d2, ds = d1 ++ d2 ∧ R f.type d1 ∧ ShF R r d2
def Sh (P : Program) : Nat → TypeId → List D → Prop
  | 0, _, _ => False
  | k + 1, t, ds => match P.underlying t with
    | some .bool => ∃ b, ds = [.bool b]
    | some (.int q) => ∃ n, ds = [.num q n] ∧ (Lit.int q n).wf = true
    | some .string => ∃ s, ds = [.str s] ∧ s.length ≤ maxLen
    | some (.slice e) => ∃ xs : List D, ds = [.list xs] ∧ xs.length ≤ maxLen ∧ ∀ x, x ∈ xs → ∃ es, x = mkD (isAg P e) es ∧ Sh P k e es
    | some (.struct fs) => ShF (Sh P k) fs.toList ds
    | _ => False
structure CR (w : World) (ds : List D) (cs : List Value) : Prop where
  len : ds.length = cs.length
  rel : ∀ (i : Nat) (d : D) (u : Value), ds[i]? = some d → cs[i]? = some u → DRel w (fun b => b < w.heap.size) d u
  one : ∀ d, d ∈ ds → d.one = true
theorem CR.single {w : World} {d : D} {u : Value} (h : DRel w (fun b => b < w.heap.size) d u) (h1 : d.one = true) : CR w [d] [u] :=
  ⟨rfl, fun i x y hx hy => by
    cases i with
    | zero => simp at hx hy; subst hx; subst hy; exact h
    | succ i => simp at hx, fun x hx => by simp at hx; subst hx; exact h1⟩
theorem CR.append {w : World} {d1 d2 : List D} {c1 c2 : List Value} (h1 : CR w d1 c1) (h2 : CR w d2 c2) : CR w (d1 ++ d2) (c1 ++ c2) := by
  refine ⟨by simp [h1.len, h2.len], fun i d u hd hu => ?_, fun d hd => ?_⟩
  · rw [List.getElem?_append] at hd hu
    rw [h1.len] at hd
    split at hd
    · rename_i hi
      rw [if_pos hi] at hu
      exact h1.rel i d u hd hu
    · rename_i hi
      rw [if_neg hi] at hu
      exact h2.rel _ d u hd hu
  · rcases List.mem_append.1 hd with h | h
    · exact h1.one d h
    · exact h2.one d h
theorem flat_at {sz : Nat} (_hs : 0 < sz) : ∀ (xs : List D), (∀ x, x ∈ xs → x.cells.length = sz) → ∀ (m : Nat) (d : D), (flat xs)[m]? = some d → ∃ i j x, m = i * sz + j ∧ j < sz ∧ xs[i]? = some x ∧ x.cells[j]? = some d := by
  intro xs
  induction xs with
  | nil => intro _ m d h; simp [flat] at h
  | cons x r ih =>
    intro hl m d h
    have hx := hl x (by simp)
    simp only [flat, List.flatMap_cons] at h
    rw [List.getElem?_append] at h
    split at h
    · rename_i hm
      exact ⟨0, m, x, by omega, by omega, rfl, h⟩
    · rename_i hm
      obtain ⟨i, j, y, h1, h2, h3, h4⟩ := ih (fun y hy => hl y (by simp [hy])) (m - x.cells.length) d h
      refine ⟨i + 1, j, y, ?_, h2, by simpa using h3, h4⟩
      rw [Nat.succ_mul]; omega
theorem sh_single {P : Program} {k : Nat} {t : TypeId} {ds : List D} (h : Sh P k t ds) (ha : isAg P t = false) : ∃ y, ds = [y] := by
  cases k with
  | zero => exact h.elim
  | succ k =>
    unfold Sh at h
    unfold isAg at ha
    split at h
    · obtain ⟨b, rfl⟩ := h; exact ⟨_, rfl⟩
    · obtain ⟨b, rfl, _⟩ := h; exact ⟨_, rfl⟩
    · obtain ⟨b, rfl, _⟩ := h; exact ⟨_, rfl⟩
    · obtain ⟨b, rfl, _⟩ := h; exact ⟨_, rfl⟩
    · rename_i fs hu
      rw [hu] at ha
      cases ha
    · exact h.elim
theorem mkD_cells {P : Program} {w : World} {k : Nat} {t : TypeId} {ds : List D} {cs : List Value} (h : Sh P k t ds) (hc : CR w ds cs) : (mkD (isAg P t) ds).cells = ds := by
  cases ha : isAg P t with
  | true => rfl
  | false =>
    obtain ⟨y, rfl⟩ := sh_single h ha
    simp only [mkD, List.headD_cons]
    exact D.cells_one (hc.one y (by simp))
section
variable {H : Type} {enc : TypeId × Value → H} {P : Program} {w : World} {sp : Nat → Bool} {held : Bool}
theorem rd_fields {k fuel : Nat} {cs : List Value} {n : Nat} (hn : cs.length = n)
    (ih : ∀ (t : TypeId) (cs : List Value) (x : DataW H × List MemPlace), okTy P k t = true → DataW.trod enc P w 0 sp held fuel t cs = some x → ∃ ds, Sh P k t ds ∧ CR w ds cs) :
    ∀ (fs : List Field) (o : Nat), contig P fs o n = true → (∀ f, f ∈ fs → okTy P k f.type = true) → (∀ f, f ∈ fs → ∃ x, DataW.trod enc P w 0 sp held fuel f.type ((cs.drop f.offset).take (P.cellsOf f.type)) = some x) → o ≤ n →
      ∃ ds, ShF (Sh P k) fs ds ∧ CR w ds (cs.drop o) := by
  intro fs
  induction fs with
  | nil =>
    intro o hc _ _ ho
    have := Nat.eq_of_beq_eq_true hc
    refine ⟨[], rfl, ?_⟩
    rw [List.drop_eq_nil_of_le (by omega)]
    exact ⟨rfl, fun i d u h => by simp at h, fun d h => by simp at h⟩
  | cons f r ihf =>
    intro o hc hok htr ho
    simp only [contig, Bool.and_eq_true] at hc
    have h0 := Nat.eq_of_beq_eq_true hc.1
    obtain ⟨x, hx⟩ := htr f (by simp)
    obtain ⟨d1, s1, c1⟩ := ih f.type _ x (hok f (by simp)) hx
    have hle : o + P.cellsOf f.type ≤ n := by
      have key : ∀ (fs : List Field) (o : Nat), contig P fs o n = true → o ≤ n := by
        intro fs
        induction fs with
        | nil => intro o h; have := Nat.eq_of_beq_eq_true h; omega
        | cons f r ih =>
          intro o h
          simp only [contig, Bool.and_eq_true] at h
          have := ih _ h.2
          omega
      exact key r _ hc.2
    obtain ⟨d2, s2, c2⟩ := ihf (o + P.cellsOf f.type) hc.2 (fun f hf => hok f (by simp [hf])) (fun f hf => htr f (by simp [hf])) hle
    refine ⟨d1 ++ d2, ⟨d1, d2, rfl, s1, s2⟩, ?_⟩
    have e : cs.drop o = (cs.drop f.offset).take (P.cellsOf f.type) ++ cs.drop (o + P.cellsOf f.type) := by
      rw [h0, ← List.drop_drop, List.take_append_drop]
    rw [e]
    exact c1.append c2
theorem rd_cells : ∀ (k fuel : Nat) (t : TypeId) (cs : List Value) (x : DataW H × List MemPlace), okTy P k t = true → DataW.trod enc P w 0 sp held fuel t cs = some x → ∃ ds, Sh P k t ds ∧ CR w ds cs := by
  intro k
  induction k with
  | zero => intro fuel t cs x h; cases h
  | succ k ih =>
    intro fuel t cs x hok hx
    unfold okTy at hok
    unfold Sh
    cases hu : P.underlying t with
    | none => rw [hu] at hok; cases hok
    | some u =>
      rw [hu] at hok
      cases u <;> simp only at hok ⊢ <;> try (cases hok; done)
      case bool =>
        obtain ⟨b, rfl, _⟩ := DataW.trod_bool hu hx
        exact ⟨_, ⟨b, rfl⟩, .single (.bool b) rfl⟩
      case int q =>
        obtain ⟨n, rfl, hw⟩ : ∃ n, cs = [.int q n] ∧ (Lit.int q n).wf = true := by
          obtain ⟨n', h, _, hw⟩ := DataW.trod_int hu hx
          exact ⟨n', h, hw⟩
        exact ⟨_, ⟨n, rfl, hw⟩, .single (.num q n) rfl⟩
      case string =>
        obtain ⟨b, rfl, _, hb⟩ := DataW.trod_string hu hx
        have hs : b = ⟨b.data.toList.toArray⟩ := by simp
        refine ⟨_, ⟨b.data.toList, rfl, ?_⟩, .single ?_ rfl⟩
        · rw [← Lib.size_eq]; exact hb
        · rw [hs]; exact .str _
      case slice e =>
        simp only [Bool.and_eq_true, Bool.not_eq_true'] at hok
        have hce : 0 < P.cellsOf e := by
          cases hz : P.cellsOf e with
          | zero => rw [hz] at hok; cases hok.2
          | succ n => omega
        rcases Go.Deep.open_slice hu hx with ⟨rfl, _⟩ | ⟨a, len, cap, m, n, Dd, Pl, rfl, _, hlc, hcm, hm, _, hel⟩
        · exact ⟨[.list []], ⟨[], rfl, by unfold maxLen; simp, fun x hx => by simp at hx⟩, .single (.list0 none 0) rfl⟩
        · have hlm : len ≤ m := by rw [hm]; split <;> omega
          have hE : ∀ i, i < len → ∃ es cs', w.cells? 0 (a.add (i * P.cellsOf e)) (P.cellsOf e) = some cs' ∧ Sh P k e es ∧ CR w es cs' := fun i hi => by
            obtain ⟨cs', h1, h2⟩ := hel i (by omega)
            obtain ⟨es, h3, h4⟩ := ih n e cs' _ hok.1 h2
            exact ⟨es, cs', h1, h3, h4⟩
          obtain ⟨es, hes⟩ := Go.Deep.choose_lt hE
          let xs : List D := (List.range len).map fun i => mkD (isAg P e) (es i)
          have hxl : xs.length = len := by simp [xs]
          have hxi : ∀ (i : Nat) (x : D), xs[i]? = some x → i < len ∧ x = mkD (isAg P e) (es i) ∧ x.cells = es i := fun i x h => by
            have hi : i < len := by have := (List.getElem?_eq_some_iff.1 h).1; omega
            have : x = mkD (isAg P e) (es i) := by simpa [xs, hi] using h.symm
            obtain ⟨cs', _, h3, h4⟩ := hes i hi
            exact ⟨hi, this, by rw [this]; exact mkD_cells h3 h4⟩
          have hxs : ∀ x, x ∈ xs → ∃ i, i < len ∧ x = mkD (isAg P e) (es i) ∧ x.cells = es i ∧ x.cells.length = P.cellsOf e := fun x hx => by
            obtain ⟨i, hi⟩ := List.getElem?_of_mem hx
            obtain ⟨h1, h2, h3⟩ := hxi i x hi
            obtain ⟨cs', h4, h5, h6⟩ := hes i h1
            exact ⟨i, h1, h2, h3, by rw [h3, h6.len]; exact (World.cells?_some h4).2.1⟩
          refine ⟨[.list xs], ⟨xs, rfl, by omega, fun x hx => ?_⟩, ?_⟩
          · obtain ⟨i, h1, h2, _⟩ := hxs x hx
            obtain ⟨cs', _, h5, _⟩ := hes i h1
            exact ⟨es i, h2, h5⟩
          · refine .single ?_ rfl
            cases hlen : len with
            | zero =>
              have : xs = [] := by simp [xs, hlen]
              rw [this]
              exact .list0 _ _
            | succ l0 =>
              obtain ⟨cs0, h4, _, _⟩ := hes 0 (by omega)
              obtain ⟨_, hl0, hc0⟩ := World.cells?_some h4
              have ha : a.add (0 * P.cellsOf e) = a := by simp [Addr.add]
              have hcell0 := hc0 0 hce
              rw [ha] at hcell0
              have ha0 : a.add 0 = a := by simp [Addr.add]
              rw [ha0] at hcell0
              have hsome : ∃ u, w.cell? a = some u := by rw [hcell0]; exact ⟨cs0[0], List.getElem?_eq_getElem (by omega)⟩
              obtain ⟨u0, hu0⟩ := hsome
              have hspot : a.spot = none ∧ a.block < w.heap.size := by
                unfold World.cell? at hu0
                split at hu0
                · rename_i c t fr hh
                  split at hu0
                  · cases hu0
                  · rename_i hs
                    exact ⟨by simpa using hs, (Array.getElem?_eq_some_iff.1 hh).1⟩
                · cases hu0
              obtain ⟨ab, ao, as⟩ := a
              simp only at hspot
              obtain ⟨rfl, hblk⟩ := hspot
              have hcellAt : ∀ (i j : Nat) (x : D), i < len → j < P.cellsOf e → ∀ cs', w.cells? 0 ((⟨ab, ao, none⟩ : Addr).add (i * P.cellsOf e)) (P.cellsOf e) = some cs' → w.cell? ⟨ab, ao + (i * P.cellsOf e + j), none⟩ = cs'[j]? := fun i j x hi hj cs' h => by
                have := (World.cells?_some h).2.2 j hj
                rw [add_mk, add_mk] at this
                rw [← this, Nat.add_assoc]
              have hflat : ∀ (m : Nat) (d : D), (flat xs)[m]? = some d → ∃ u, w.cell? ⟨ab, ao + m, none⟩ = some u ∧ DRel w (fun b => b < w.heap.size) d u ∧ d.one = true := fun m d hd => by
                obtain ⟨i, j, x, rfl, hj, hx, hy⟩ := flat_at hce xs (fun x hx => (hxs x hx).choose_spec.2.2.2) m d hd
                obtain ⟨h1, h2, h3⟩ := hxi i x hx
                obtain ⟨cs', h4, h5, h6⟩ := hes i h1
                rw [h3] at hy
                have hjl : j < cs'.length := by rw [← h6.len]; exact (List.getElem?_eq_some_iff.1 hy).1
                refine ⟨cs'[j], ?_, h6.rel j d _ hy (List.getElem?_eq_getElem hjl), h6.one d (List.mem_of_getElem? hy)⟩
                rw [hcellAt i j x h1 hj cs' h4]
                exact List.getElem?_eq_getElem hjl
              have := DRel.list (w := w) (S := fun b => b < w.heap.size) xs (P.cellsOf e) ab ao cap (fun m => (w.cell? ⟨ab, ao + m, none⟩).getD undef) hblk (by omega) hcm (fun x hx => (hxs x hx).choose_spec.2.2.2) (fun m d hd => by
                obtain ⟨u, h1, _⟩ := hflat m d hd
                rw [h1]; rfl) (fun m d hd => by
                obtain ⟨u, h1, h2, _⟩ := hflat m d hd
                simp only [h1, Option.getD_some]; exact h2) (fun m d hd => (hflat m d hd).choose_spec.2.2)
              rw [hxl, hlen] at this
              exact this
      case struct fs =>
        simp only [Bool.and_eq_true] at hok
        obtain ⟨xs, n, rfl, rfl, hl, hlen, hf⟩ := DataW.trod_struct hu hx
        have hfs : ∀ f, f ∈ fs.toList → ∃ x, DataW.trod enc P w 0 sp held n f.type ((cs.drop f.offset).take (P.cellsOf f.type)) = some x := fun f hm => by
          obtain ⟨i, hi⟩ := List.getElem?_of_mem hm
          have hi' : fs[i]? = some f := by simpa using hi
          have hlt : i < fs.size := (Array.getElem?_eq_some_iff.1 hi').1
          have := hf i f hi'
          rw [List.getElem?_eq_getElem (by omega)] at this
          exact ⟨_, this⟩
        obtain ⟨ds, h1, h2⟩ := rd_fields hl (fun t cs x => ih n t cs x) fs.toList 0 hok.2 (fun f hm => List.all_eq_true.1 hok.1 f hm) hfs (Nat.zero_le _)
        exact ⟨ds, h1, by simpa using h2⟩
theorem rd_value {k base : Nat} {t : TypeId} {v : Value} {d : DataW H} {ps : List MemPlace} (hok : okTy P k t = true) (hval : Value.okWide P w .any base t v) (h : DataW.Trod enc P w 0 sp held t v d ps) :
    ∃ ds, Sh P k t ds ∧ DRel w (fun b => b < w.heap.size) (mkD (isAg P t) ds) v := by
  obtain ⟨fuel, hf⟩ := h
  obtain ⟨ds, h1, h2⟩ := rd_cells k fuel t _ _ hok hf
  refine ⟨ds, h1, ?_⟩
  cases ha : isAg P t with
  | true =>
    unfold isAg at ha
    split at ha
    · rename_i fs hu
      unfold Value.okWide at hval
      rw [hu] at hval
      obtain ⟨cs, rfl, _, _⟩ := hval
      refine .agg ds cs (by simpa [Value.cells] using h2.len) (fun i d u hd hu => h2.rel i d u hd (by simpa [Value.cells] using hu)) h2.one
    · cases ha
  | false =>
    obtain ⟨y, rfl⟩ := sh_single h1 ha
    have hv : v.cells = #[v] := by
      cases k with
      | zero => exact h1.elim
      | succ k =>
        unfold okTy at hok
        unfold isAg at ha
        unfold Value.okWide at hval
        cases hu : P.underlying t with
        | none => rw [hu] at hok; cases hok
        | some u =>
          rw [hu] at hok ha hval
          cases u <;> simp only at hok ha hval <;> try (cases hok; done)
          all_goals first | (cases ha; done) | skip
          all_goals
            unfold Cell.okWide at hval
            rw [hu] at hval
            cases v <;> first | rfl | (simp [Cell.ok, hu] at hval; done)
    have := h2.rel 0 y v rfl (by rw [hv]; rfl)
    exact this
theorem law_calls {C : Ctx} {f : FuncId} {ds : List D} (hM : MeetsH C f [] (ds.map .d) (.ret (.d (.bool true))) []) {W : World} (hN : C.N = W.heap.size) (hG : C.G W) {us : List Value} (hl : ds.length = us.length)
    (hr : ∀ (i : Nat) (d : D) (u : Value), ds[i]? = some d → us[i]? = some u → DRel W (fun b => b < W.heap.size) d u) :
    Calls C.prog f us.toArray W fun e W' => e = .returned (.bool true) ∧ Below W.heap.size W W' := by
  let E : Env := ⟨C.prog, fun _ => none, fun _ => none, fun _ => none, W, fun b => b < W.heap.size⟩
  have hst : StartOK C [] E := ⟨rfl, hG, by rw [hN]; exact Nat.le_refl _, ⟨fun b hb => ⟨hb, fun id hid => absurd rfl hid⟩, fun id b hb => (by cases hb), fun i j g hi => absurd rfl hi⟩, fun i => (by simp [E]), fun id t ht => (by cases ht)⟩
  have hrel : relL E (ds.map .d) us := ⟨by simpa using hl, fun i v u hv hu => by
    simp only [List.getElem?_map] at hv
    cases hd : ds[i]? with
    | none => rw [hd] at hv; cases hv
    | some d => rw [hd] at hv; injection hv with hv; subst hv; exact .d _ _ (hr i d u hd hu)⟩
  refine (callsIn_wide (n := 0)).1 (CallsIn.mono ((callsIn_wide (n := 0)).2 (hM.2 E us hst hrel)) (fun e W' ⟨E', h1, h2, h3⟩ => ?_))
  subst h1
  cases e with
  | returned u =>
    have h3 : VRel E' (.d (.bool true)) u := h3
    rw [h3.inv_bool]
    have hb := h2.go.below (N := W.heap.size) (Nat.le_refl _) (by rw [← hN]; exact hst.hr)
    exact ⟨rfl, hb⟩
  | _ => exact h3.elim
end
end Go.Vc
