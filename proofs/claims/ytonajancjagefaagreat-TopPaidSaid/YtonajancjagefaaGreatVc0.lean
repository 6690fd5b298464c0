/- A part of the proof: general laws of a reading of the model by abstract data, or contracts of the functions that the law calls. -/
import Derived.WalkKit
import Derived.OrdersIn
import Derived.RangeFuncIn
import Derived.RecoverIn
set_option maxRecDepth 100000
namespace Go.Vc
open Go Go.RowKit
inductive D where
  | num (k : IntKind) (n : Int)
  | bool (b : Bool)
  | str (s : List UInt8)
  | list (xs : List D)
  | agg (cs : List D)
  | fn (f : FuncId) (first caps : List D)
  | cp (cs : List D)
  | iface (t : TypeId) (x : D)
  | nili
  | nilf
  deriving Inhabited
def D.cells : D → List D
  | .agg cs => cs
  | .num k n => [.num k n]
  | .bool b => [.bool b]
  | .str s => [.str s]
  | .list s => [.list s]
  | .fn f a b => [.fn f a b]
  | .cp cs => [.cp cs]
  | .iface t x => [.iface t x]
  | .nili => [.nili]
  | .nilf => [.nilf]
inductive AV where
  | any
  | undef
  | anyb
  | d (x : D)
  | zc
  | own (id ver : Nat)
  | ptr (id ver row off : Nat)
  | agg (vs : List AV)
  | fn (f : FuncId) (first caps : List AV)
  | iface (t : TypeId) (v : AV)
  | tup (vs : List AV)
  | mapv (id : Nat)
  | iter (id : Nat)
  | yld (id : Nat)
  deriving Inhabited
structure MEnt where
  k : D
  v : D
  born : Nat
  deriving Inhabited
structure LoopA where
  st : LoopState
  pend : Option Code
  n : Nat
  tmps : List (Nat × AV)
  params : List Nat
  assign : Code
  body : Code
  deriving Inhabited
inductive Body where
  | lst (xs : List D)
  | box (cs : List AV)
  | mp (es : List MEnt) (clock : Nat)
  | it (s : List UInt8) (pos : Nat)
  | loop (L : LoopA)
  deriving Inhabited
structure ABlk where
  ver : Nat
  elem : TypeId
  body : Body
  deriving Inhabited
abbrev Heap := List (Nat × Option ABlk)
def lookH : Heap → Nat → Option ABlk
  | [], _ => none
  | (k, v) :: r, i => match Nat.beq k i with | true => v | false => lookH r i
def ofConst : Value → AV
  | .int k n => .d (.num k n)
  | .bool b => .d (.bool b)
  | .string s => .d (.str s.data.toList)
  | .slice none 0 0 => .zc
  | .nilIface => .d .nili
  | .nilFunc => .d .nilf
  | _ => .any
def tDesc (P : Program) (t : TypeId) : TypeDesc := (P.underlying t).getD .invalid
def tAgg (P : Program) (t : TypeId) : Bool := match tDesc P t with | .struct _ => true | .array _ _ => true | _ => false
def tSize (P : Program) (t : TypeId) : Nat := match P.info? t with | some i => i.size | none => 0
def tZero (P : Program) (t : TypeId) : List AV := match P.info? t with | some i => (match i.zero with | some v => v.cells.toList.map ofConst | none => []) | none => []
def toD0 : AV → D
  | .d x => x
  | .zc => .list []
  | _ => default
def tZeroD (P : Program) (t : TypeId) : D := match tAgg P t with | true => .agg ((tZero P t).map toD0) | false => ((tZero P t).map toD0).headD default
def tFields (P : Program) (t : TypeId) : List (Nat × Nat) := match tDesc P t with | .struct fs => fs.toList.map fun f => (f.offset, tSize P f.type) | .array n e => (List.range n).map fun i => (i * tSize P e, tSize P e) | _ => []
def tFieldTy (P : Program) (t : TypeId) (i : Nat) : TypeId := match tDesc P t with | .struct fs => ((fs[i]?).map (·.type)).getD 0 | _ => 0
def tMapKey (P : Program) (t : TypeId) : TypeId := match tDesc P t with | .map k _ => k | _ => 0
def tMapElem (P : Program) (t : TypeId) : TypeId := match tDesc P t with | .map _ e => e | _ => 0
def tIface (P : Program) (t : TypeId) : Bool := match tDesc P t with | .interface _ => true | _ => false
def tConv (P : Program) (s d : TypeId) : Option (Option IntKind) := match tDesc P s, tDesc P d with
  | .int _, .int k => some (some k)
  | .slice _, .string => some none
  | _, _ => none
def tConvB (P : Program) (s d : TypeId) : Option TypeId := match tDesc P s, tDesc P d with
  | .string, .slice e => some e
  | _, _ => none
def tTag (P : Program) (t : TypeId) : Nat := match tDesc P t with | .struct fs => fs.size + 1000 | .bool => 999 | .slice _ => 998 | .func _ _ _ => 997 | _ => 0
def tSlice (P : Program) (t : TypeId) : Nat := match tDesc P t with | .slice e => tSize P e + 1 | _ => 0
def slTy (P : Program) (e : TypeId) : Bool := match tDesc P e with | .slice _ => true | _ => false
def tIsStr (P : Program) (t : TypeId) : Bool := match tDesc P t with | .string => true | _ => false
def tArr (P : Program) (t : TypeId) : Option Nat := match tDesc P t with | .array n _ => some n | _ => none
def tElem (P : Program) (t : TypeId) : TypeId := match tDesc P t with | .slice e => e | .array _ e => e | _ => 0
def allD : List AV → Option (List D)
  | [] => some []
  | .d x :: r => (allD r).map (x :: ·)
  | _ :: _ => none
def mkAgg (vs : List AV) : AV := match allD vs with | some ds => .d (.agg ds) | none => .agg vs
def AV.cells : AV → List AV
  | .d x => x.cells.map .d
  | .agg vs => vs
  | .any => []
  | .undef => []
  | .anyb => []
  | .tup _ => []
  | .zc => [.zc]
  | .own id ver => [.own id ver]
  | .ptr id ver row off => [.ptr id ver row off]
  | .fn f a b => [.fn f a b]
  | .iface t v => [.iface t v]
  | .mapv id => [.mapv id]
  | .iter id => [.iter id]
  | .yld id => [.yld id]
def cmpD (op : BinOp) (a b : Int) : Option Bool :=
  match op with
  | .eql => some (decide (a = b))
  | .neq => some (!decide (a = b))
  | .lss => some (decide (a < b))
  | .leq => some (decide (a ≤ b))
  | .gtr => some (decide (b < a))
  | .geq => some (decide (b ≤ a))
  | _ => none
def D.beq : D → D → Option Bool
  | .num k a, .num k' b => if k = k' then some (decide (a = b)) else none
  | _, _ => none
def beqAll : List D → List D → Option Bool
  | [], [] => some true
  | a :: as, b :: bs => (D.beq a b).bind fun x => (beqAll as bs).map fun y => x && y
  | _, _ => none
def binD (nf : Nat) (op : BinOp) : D → D → Option D
  | .num k a, .num k' b =>
    if k = k' then
      match op with
      | .add => some (.num k (k.wrap (a + b)))
      | .sub => some (.num k (k.wrap (a - b)))
      | .mul => some (.num k (k.wrap (a * b)))
      | .quo => if b = 0 then none else some (.num k (k.wrap (a.tdiv b)))
      | .rem => if b = 0 then none else some (.num k (a.tmod b))
      | op => (cmpD op a b).map .bool
    else none
  | .str a, .str b =>
    match op with
    | .add => if a.length + b.length ≤ 1000000 then some (.str (a ++ b)) else none
    | .eql => some (.bool (decide (a = b)))
    | .neq => some (.bool (!decide (a = b)))
    | _ => none
  | .bool a, .bool b =>
    match op with
    | .eql => if nf = 999 then some (.bool (a == b)) else none
    | .neq => if nf = 999 then some (.bool (!(a == b))) else none
    | _ => none
  | .agg a, .agg b =>
    match op with
    | .eql => if a.length + 1000 = nf then (beqAll a b).map .bool else none
    | .neq => if a.length + 1000 = nf then (beqAll a b).map fun x => .bool (!x) else none
    | _ => none
  | .fn _ _ _, .nilf =>
    match op with
    | .eql => if nf = 997 then some (.bool false) else none
    | .neq => if nf = 997 then some (.bool true) else none
    | _ => none
  | .nilf, .nilf =>
    match op with
    | .eql => if nf = 997 then some (.bool true) else none
    | .neq => if nf = 997 then some (.bool false) else none
    | _ => none
  | _, _ => none
abbrev BF := Nat → Nat → Option (TypeId × Body)
def bodyAt (b : Option ABlk) (ver : Nat) : Option (TypeId × Body) :=
  match b with | some ⟨v, e, b⟩ => if v = ver then some (e, b) else none | none => none
def bodyOf (h : Heap) : BF := fun id ver => bodyAt (lookH h id) ver
def toD (B : BF) : AV → Option D
  | .d x => some x
  | .zc => some (.list [])
  | .own id ver => match B id ver with | some (_, .lst xs) => some (.list xs) | _ => none
  | .ptr id ver 0 0 => match B id ver with | some (_, .box cs) => (allD cs).map .cp | _ => none
  | _ => none
def toDs (B : BF) : List AV → Option (List D)
  | [] => some []
  | v :: r => (toD B v).bind fun x => (toDs B r).map fun xs => x :: xs
def argD (B : BF) : AV → Option D
  | .agg vs => (toDs B vs).map .agg
  | .fn f a b => (toDs B a).bind fun a => (toDs B b).map fun b => .fn f a b
  | .iface t (.agg vs) => (toDs B vs).map fun ds => .iface t (.agg ds)
  | .iface t v => (toD B v).map fun x => .iface t x
  | v => toD B v
def argsD (B : BF) : List AV → Option (List D)
  | [] => some []
  | v :: r => (argD B v).bind fun x => (argsD B r).map fun xs => x :: xs
def splice {α : Type} (cs : List α) (off : Nat) (vs : List α) : List α := cs.take off ++ vs ++ cs.drop (off + vs.length)
def rowSet (x : D) (off : Nat) (vs : List D) : D :=
  match x with
  | .agg cs => .agg (splice cs off vs)
  | x => vs.headD x
def flat (xs : List D) : List D := xs.flatMap D.cells
def D.one : D → Bool
  | .agg _ => false
  | _ => true
inductive DRel (w : World) (S : Nat → Prop) : D → Value → Prop
  | num (k : IntKind) (n : Int) : DRel w S (.num k n) (.int k n)
  | bool (b : Bool) : DRel w S (.bool b) (.bool b)
  | str (s : List UInt8) : DRel w S (.str s) (.string ⟨s.toArray⟩)
  | list0 (a : Option Addr) (c : Nat) : DRel w S (.list []) (.slice a 0 c)
  | list (xs : List D) (sz b o cap : Nat) (us : Nat → Value) (hb : S b) (hc : xs.length ≤ cap) (hm : cap ≤ maxLen)
      (hsz : ∀ x, x ∈ xs → x.cells.length = sz) (hcell : ∀ (i : Nat) (d : D), (flat xs)[i]? = some d → w.cell? ⟨b, o + i, none⟩ = some (us i))
      (hd : ∀ (i : Nat) (d : D), (flat xs)[i]? = some d → DRel w S d (us i)) (h1 : ∀ (i : Nat) (d : D), (flat xs)[i]? = some d → d.one = true) :
      DRel w S (.list xs) (.slice (some ⟨b, o, none⟩) xs.length cap)
  | agg (ds : List D) (us : Array Value) (hl : ds.length = us.size) (hd : ∀ (i : Nat) (d : D) (u : Value), ds[i]? = some d → us[i]? = some u → DRel w S d u) (h1 : ∀ d : D, d ∈ ds → d.one = true) :
      DRel w S (.agg ds) (.agg us)
  | fn (f : FuncId) (as bs : List D) (us vs : Array Value) (hl : as.length = us.size) (hl' : bs.length = vs.size) (hd : ∀ (i : Nat) (d : D) (u : Value), as[i]? = some d → us[i]? = some u → DRel w S d u) (hd' : ∀ (i : Nat) (d : D) (u : Value), bs[i]? = some d → vs[i]? = some u → DRel w S d u) :
      DRel w S (.fn f as bs) (.func (.func f) us vs)
  | cp (ds : List D) (b o : Nat) (us : Nat → Value) (hb : S b) (hcell : ∀ (i : Nat) (d : D), ds[i]? = some d → w.cell? ⟨b, o + i, none⟩ = some (us i))
      (hd : ∀ (i : Nat) (d : D), ds[i]? = some d → DRel w S d (us i)) (h1 : ∀ d : D, d ∈ ds → d.one = true) :
      DRel w S (.cp ds) (.pointer (some ⟨b, o, none⟩))
  | iface (t : TypeId) (d : D) (u : Value) (hd : DRel w S d u) : DRel w S (.iface t d) (.iface t u)
  | nili : DRel w S .nili .nilIface
  | nilf : DRel w S .nilf .nilFunc
theorem cell_of_block {w w' : World} {b o : Nat} (h : w'.heap[b]? = w.heap[b]?) : w'.cell? ⟨b, o, none⟩ = w.cell? ⟨b, o, none⟩ := by
  simp only [World.cell?, h]
theorem DRel.mono {w w' : World} {S S' : Nat → Prop} {d : D} {v : Value} (h : DRel w S d v) (hS : ∀ b, S b → S' b) (hw : ∀ b, S b → w'.heap[b]? = w.heap[b]?) : DRel w' S' d v := by
  induction h with
  | num k n => exact .num k n
  | bool b => exact .bool b
  | str s => exact .str s
  | list0 a c => exact .list0 a c
  | list xs sz b o cap us hb hc hm hsz hcell hd h1 ih => exact .list xs sz b o cap us (hS _ hb) hc hm hsz (fun i d hi => (cell_of_block (hw _ hb)).trans (hcell i d hi)) ih h1
  | agg ds us hl hd h1 ih => exact .agg ds us hl ih h1
  | fn f as bs us vs hl hl' hd hd' ih ih' => exact .fn f as bs us vs hl hl' ih ih'
  | cp ds b o us hb hcell hd h1 ih => exact .cp ds b o us (hS _ hb) (fun i d hi => (cell_of_block (hw _ hb)).trans (hcell i d hi)) ih h1
  | iface t d u hd ih => exact .iface t d u ih
  | nili => exact .nili
  | nilf => exact .nilf
theorem DRel.one {w : World} {S : Nat → Prop} {d : D} {v : Value} (h : DRel w S d v) (h1 : d.one = true) : v.oneCell' = true := by
  cases h <;> first | rfl | cases h1
theorem DRel.cells1 {w : World} {S : Nat → Prop} {d : D} {v : Value} (h : DRel w S d v) (h1 : d.one = true) : v.cells = #[v] := by
  cases h <;> first | rfl | cases h1
theorem D.cells_one {d : D} (h : d.one = true) : d.cells = [d] := by cases d <;> first | rfl | cases h
theorem DRel.cells {w : World} {S : Nat → Prop} {d : D} {v : Value} (h : DRel w S d v) :
    d.cells.length = v.cells.size ∧ (∀ (i : Nat) (x : D) (u : Value), d.cells[i]? = some x → v.cells[i]? = some u → DRel w S x u) ∧ ∀ x, x ∈ d.cells → x.one = true := by
  by_cases h1 : d.one = true
  · rw [D.cells_one h1, h.cells1 h1]
    refine ⟨rfl, fun i x u hx hu => ?_, fun x hx => ?_⟩
    · cases i with
      | zero => simp at hx hu; subst hx; subst hu; exact h
      | succ i => simp at hx
    · simp at hx; subst hx; exact h1
  · cases h <;> first | exact absurd rfl h1 | skip
    rename_i ds us hl hd h1'
    exact ⟨hl, hd, h1'⟩
abbrev HF := Nat → Option ABlk
structure Env where
  P : Program
  top : Nat → Option Nat
  m : Nat → Option Nat
  H : HF
  w : World
  S : Nat → Prop
def OwnBox (P : Program) (w : World) (m : Option Nat) (e : TypeId) (n : Nat) (v : Value) : Prop :=
  ∃ b cap C el fr, m = some b ∧ v = .slice (some ⟨b, 0, none⟩) n cap ∧ n ≤ cap ∧ cap ≤ maxLen ∧ w.heap[b]? = some (.cells C el fr) ∧ C.size = cap * tSize P e
inductive VRel (E : Env) : AV → Value → Prop
  | any (v : Value) : VRel E .any v
  | undef (v : Value) (h : ∀ b, v ≠ .bool b) : VRel E .undef v
  | anyb (b : Bool) : VRel E .anyb (.bool b)
  | d (x : D) (v : Value) (h : DRel E.w E.S x v) : VRel E (.d x) v
  | zc (a : Option Addr) : VRel E .zc (.slice a 0 0)
  | own (id ver t : Nat) (v : Value) (ht : E.top id = some t) (hv : ver ≤ t) (h1 : v.oneCell' = true)
      (h : ∀ e xs, E.H id = some ⟨ver, e, .lst xs⟩ → (E.m id = none → ∃ a, v = .slice a 0 0) ∧
        ∀ b, E.m id = some b → ∃ cap C el fr, v = .slice (some ⟨b, 0, none⟩) xs.length cap ∧ xs.length ≤ cap ∧ cap ≤ maxLen ∧ E.w.heap[b]? = some (.cells C el fr) ∧ cap * tSize E.P e ≤ C.size)
      (hb : ∀ e cs, E.H id = some ⟨ver, e, .box cs⟩ → OwnBox E.P E.w (E.m id) e cs.length v) :
      VRel E (.own id ver) v
  | ptr (id ver row off t : Nat) (v : Value) (ht : E.top id = some t) (hv : ver ≤ t) (h1 : v.oneCell' = true)
      (h : ∀ e body, E.H id = some ⟨ver, e, body⟩ → ∃ b, E.m id = some b ∧ v = .pointer (some ⟨b, row * tSize E.P e + off, none⟩)) :
      VRel E (.ptr id ver row off) v
  | agg (vs : List AV) (us : Array Value) (hl : vs.length = us.size) (hd : ∀ (i : Nat) (v : AV) (u : Value), vs[i]? = some v → us[i]? = some u → VRel E v u) (h1 : ∀ (i : Nat) (u : Value), us[i]? = some u → u.oneCell' = true) :
      VRel E (.agg vs) (.agg us)
  | fn (f : FuncId) (as bs : List AV) (us vs : Array Value) (hl : as.length = us.size) (hl' : bs.length = vs.size) (hd : ∀ (i : Nat) (d : AV) (u : Value), as[i]? = some d → us[i]? = some u → VRel E d u) (hd' : ∀ (i : Nat) (d : AV) (u : Value), bs[i]? = some d → vs[i]? = some u → VRel E d u) :
      VRel E (.fn f as bs) (.func (.func f) us vs)
  | iface (t : TypeId) (x : AV) (u : Value) (hd : VRel E x u) : VRel E (.iface t x) (.iface t u)
  | tup (vs : List AV) (us : Array Value) (hl : vs.length = us.size) (hd : ∀ (i : Nat) (v : AV) (u : Value), vs[i]? = some v → us[i]? = some u → VRel E v u) : VRel E (.tup vs) (.tuple us)
  | mapv (id t : Nat) (v : Value) (ht : E.top id = some t) (h1 : v.oneCell' = true) (h : ∀ e es ck, E.H id = some ⟨0, e, .mp es ck⟩ → ∃ b, E.m id = some b ∧ v = .map (some b)) : VRel E (.mapv id) v
  | iter (id t : Nat) (v : Value) (ht : E.top id = some t) (h1 : v.oneCell' = true) (h : ∀ e s p, E.H id = some ⟨0, e, .it s p⟩ → ∃ b, E.m id = some b ∧ v = .pointer (some ⟨b, 0, none⟩)) : VRel E (.iter id) v
  | yld (id t : Nat) (v : Value) (ht : E.top id = some t) (h1 : v.oneCell' = true) (h : ∀ e L, E.H id = some ⟨0, e, .loop L⟩ → ∃ b, E.m id = some b ∧ v = .func (.yield b) #[] #[]) : VRel E (.yld id) v
def sameShape : Body → Body → Prop
  | .lst xs, .lst ys => xs.length = ys.length
  | .box cs, .box ds => cs.length = ds.length
  | .mp _ _, .mp _ _ => True
  | .it _ _, .it _ _ => True
  | .loop _, .loop _ => True
  | _, _ => False
theorem sameShape.refl (b : Body) : sameShape b b := by cases b <;> simp [sameShape]
structure Env.Step (E E' : Env) : Prop where
  P : E'.P = E.P
  S : ∀ b, E.S b → E'.S b
  w : ∀ b, E.S b → E'.w.heap[b]? = E.w.heap[b]?
  top : ∀ id t, E.top id = some t → ∃ t', E'.top id = some t' ∧ t ≤ t'
  blk : ∀ id t b', E.top id = some t → E'.H id = some b' → b'.ver ≤ t → E'.m id = E.m id ∧ ∃ b, E.H id = some b ∧ b.ver = b'.ver ∧ b.elem = b'.elem ∧ sameShape b.body b'.body ∧
    ∀ g C el fr, E.m id = some g → E.w.heap[g]? = some (.cells C el fr) → ∃ C' el' fr', E'.w.heap[g]? = some (.cells C' el' fr') ∧ C'.size = C.size
theorem Env.Step.refl (E : Env) : E.Step E where
  P := rfl
  S _ h := h
  w _ _ := rfl
  top _ t h := ⟨t, h, Nat.le_refl _⟩
  blk _ _ b' _ hb _ := ⟨rfl, b', hb, rfl, rfl, sameShape.refl _, fun _ C el fr _ h => ⟨C, el, fr, h, rfl⟩⟩
theorem VRel.step {E E' : Env} (hs : E.Step E') {v : AV} {u : Value} (h : VRel E v u) : VRel E' v u := by
  induction h with
  | any v => exact .any v
  | undef v h => exact .undef v h
  | anyb b => exact .anyb b
  | d x v h => exact .d x v (h.mono hs.S hs.w)
  | zc a => exact .zc a
  | own id ver t v ht hv ho h hbx =>
    obtain ⟨t', ht', hle⟩ := hs.top id t ht
    refine .own id ver t' v ht' (Nat.le_trans hv hle) ho (fun e xs he => ?_) (fun e cs he => ?_)
    case refine_2 =>
      obtain ⟨hm, ⟨bv, be, bb⟩, hb, h1, h2, h3, h4⟩ := hs.blk id t _ ht he hv
      simp only at h1 h2
      subst h1; subst h2
      cases bb <;> simp only [sameShape] at h3
      obtain ⟨b, cap, C, el, fr, e0, e1, e2, e3, e4, e5⟩ := hbx _ _ hb
      obtain ⟨C', el', fr', k1, k2⟩ := h4 b C el fr e0 e4
      exact ⟨b, cap, C', el', fr', hm.trans e0, by rw [← h3]; exact e1, by rw [← h3]; exact e2, e3, k1, by rw [k2, hs.P]; exact e5⟩
    obtain ⟨hm, ⟨bv, be, bb⟩, hb, h1, h2, h3, h4⟩ := hs.blk id t _ ht he hv
    simp only at h1 h2
    subst h1; subst h2
    cases bb with
    | box cs => simp [sameShape] at h3
    | mp _ _ => simp [sameShape] at h3
    | it _ _ => simp [sameShape] at h3
    | loop _ => simp [sameShape] at h3
    | lst ys =>
      simp only [sameShape] at h3
      obtain ⟨g1, g2⟩ := h _ _ hb
      refine ⟨fun hn => g1 (hm ▸ hn), fun b hb' => ?_⟩
      rw [hm] at hb'
      obtain ⟨cap, C, el, fr, e1, e2, e3, e4, e5⟩ := g2 b hb'
      obtain ⟨C', el', fr', k1, k2⟩ := h4 b C el fr hb' e4
      exact ⟨cap, C', el', fr', by rw [← h3]; exact e1, by omega, e3, k1, by rw [k2, hs.P]; exact e5⟩
  | ptr id ver row off t v ht hv ho h =>
    obtain ⟨t', ht', hle⟩ := hs.top id t ht
    refine .ptr id ver row off t' v ht' (Nat.le_trans hv hle) ho fun e body he => ?_
    obtain ⟨hm, ⟨bv, be, bb⟩, hb, h1, h2, _, _⟩ := hs.blk id t _ ht he hv
    simp only at h1 h2
    subst h1; subst h2
    obtain ⟨b, e1, e2⟩ := h _ _ hb
    exact ⟨b, hm.trans e1, by rw [hs.P]; exact e2⟩
  | agg vs us hl hd h1 ih => exact .agg vs us hl ih h1
  | fn f as bs us vs hl hl' hd hd' ih ih' => exact .fn f as bs us vs hl hl' ih ih'
  | iface t x u hd ih => exact .iface t x u ih
  | tup vs us hl hd ih => exact .tup vs us hl ih
  | mapv id t v ht h1 h =>
    obtain ⟨t', ht', _⟩ := hs.top id t ht
    refine .mapv id t' v ht' h1 fun e es ck he => ?_
    obtain ⟨hm, ⟨bv, be, bb⟩, hb, k1, k2, k3, _⟩ := hs.blk id t _ ht he (Nat.zero_le _)
    simp only at k1 k2
    subst k1; subst k2
    cases bb <;> simp [sameShape] at k3
    obtain ⟨b, e1, e2⟩ := h _ _ _ hb
    exact ⟨b, hm.trans e1, e2⟩
  | iter id t v ht h1 h =>
    obtain ⟨t', ht', _⟩ := hs.top id t ht
    refine .iter id t' v ht' h1 fun e es ck he => ?_
    obtain ⟨hm, ⟨bv, be, bb⟩, hb, k1, k2, k3, _⟩ := hs.blk id t _ ht he (Nat.zero_le _)
    simp only at k1 k2
    subst k1; subst k2
    cases bb <;> simp [sameShape] at k3
    obtain ⟨b, e1, e2⟩ := h _ _ _ hb
    exact ⟨b, hm.trans e1, e2⟩
  | yld id t v ht h1 h =>
    obtain ⟨t', ht', _⟩ := hs.top id t ht
    refine .yld id t' v ht' h1 fun e L he => ?_
    obtain ⟨hm, ⟨bv, be, bb⟩, hb, k1, k2, k3, _⟩ := hs.blk id t _ ht he (Nat.zero_le _)
    simp only at k1 k2
    subst k1; subst k2
    cases bb <;> simp [sameShape] at k3
    obtain ⟨b, e1, e2⟩ := h _ _ hb
    exact ⟨b, hm.trans e1, e2⟩
theorem Env.Step.trans {E E' E'' : Env} (h : E.Step E') (k : E'.Step E'') : E.Step E'' where
  P := k.P.trans h.P
  S b hb := k.S b (h.S b hb)
  w b hb := (k.w b (h.S b hb)).trans (h.w b hb)
  top id t ht := by
    obtain ⟨t', h1, h2⟩ := h.top id t ht
    obtain ⟨t'', k1, k2⟩ := k.top id t' h1
    exact ⟨t'', k1, Nat.le_trans h2 k2⟩
  blk id t b'' ht hb hv := by
    obtain ⟨t', h1, h2⟩ := h.top id t ht
    obtain ⟨m1, b', g1, g2, g3, g4, g5⟩ := k.blk id t' b'' h1 hb (Nat.le_trans hv h2)
    obtain ⟨m2, b, f1, f2, f3, f4, f5⟩ := h.blk id t b' ht g1 (by omega)
    refine ⟨m1.trans m2, b, f1, f2.trans g2, f3.trans g3, ?_, fun g C el fr hm hC => ?_⟩
    · generalize b.body = x at f4
      generalize b'.body = y at f4 g4
      generalize b''.body = z at g4
      cases x <;> cases y <;> simp [sameShape] at f4 <;> cases z <;> simp [sameShape] at g4 <;> simp [sameShape, f4, g4]
    · obtain ⟨C', el', fr', e1, e2⟩ := f5 g C el fr hm hC
      obtain ⟨C'', el'', fr'', e3, e4⟩ := g5 g C' el' fr' (by rw [m2]; exact hm) e1
      exact ⟨C'', el'', fr'', e3, e4.trans e2⟩
def BRl (E : Env) (sz : Nat) (C : Array Value) (xs : List D) : Prop :=
  (∀ x, x ∈ xs → x.cells.length = sz) ∧ ∀ (i : Nat) (d : D), (flat xs)[i]? = some d → d.one = true ∧ ∃ u, C[i]? = some u ∧ DRel E.w E.S d u
def BRb (E : Env) (C : Array Value) (cs : List AV) : Prop := ∀ (i : Nat) (v : AV), cs[i]? = some v → ∃ u, C[i]? = some u ∧ VRel E v u ∧ u.oneCell' = true
def MRel (E : Env) (es : List MEnt) (ents : Array MapEntry) : Prop :=
  es.length = ents.size ∧ ∀ (i : Nat) (x : MEnt) (y : MapEntry), es[i]? = some x → ents[i]? = some y → x.born = y.born ∧ DRel E.w E.S x.k y.key ∧ DRel E.w E.S x.v y.val
def LRel (E : Env) (L : LoopA) (o : Obj) : Prop :=
  ∃ fn tmps d, o = .loop { state := L.st, pending := L.pend, fn := fn, tmps := tmps, params := L.params.toArray, assign := L.assign, body := L.body, defers := d } ∧ tmps.size = L.n ∧
    ∀ (t : Nat) (v : AV), (t, v) ∈ L.tmps → VRel E v (tmps.getD t undef)
def FrB (C : Array Value) (fr : Nat × Nat) : Prop := fr = (0, 0) ∨ C.size ≤ fr.1
def OR (E : Env) (elem : TypeId) : Body → Obj → Prop
  | .lst xs, o => ∃ C fr, o = .cells C elem fr ∧ FrB C fr ∧ BRl E (tSize E.P elem) C xs
  | .box cs, o => ∃ C, o = .cells C elem (0, 0) ∧ BRb E C cs
  | .mp es ck, o => ∃ ents, o = .map ents ck ∧ MRel E es ents
  | .it s p, o => o = .stringIter ⟨s.toArray⟩ p
  | .loop L, o => LRel E L o
theorem BRl.step {E E' : Env} (hs : E.Step E') {sz : Nat} {C : Array Value} {xs : List D} (h : BRl E sz C xs) : BRl E' sz C xs :=
  ⟨h.1, fun i d hi => let ⟨h1, u, hu, hd⟩ := h.2 i d hi; ⟨h1, u, hu, hd.mono hs.S hs.w⟩⟩
theorem BRb.step {E E' : Env} (hs : E.Step E') {C : Array Value} {cs : List AV} (h : BRb E C cs) : BRb E' C cs :=
  fun i v hi => let ⟨u, hu, hd, h1⟩ := h i v hi; ⟨u, hu, hd.step hs, h1⟩
theorem OR.step {E E' : Env} (hs : E.Step E') {e : TypeId} {b : Body} {o : Obj} (h : OR E e b o) : OR E' e b o := by
  cases b with
  | lst xs => obtain ⟨C, fr, h1, h0, h2⟩ := h; exact ⟨C, fr, h1, h0, by rw [hs.P]; exact h2.step hs⟩
  | box cs => obtain ⟨C, h1, h2⟩ := h; exact ⟨C, h1, h2.step hs⟩
  | mp es ck => obtain ⟨ents, h1, h2, h3⟩ := h; exact ⟨ents, h1, h2, fun i x y hx hy => let ⟨a, b, c⟩ := h3 i x y hx hy; ⟨a, b.mono hs.S hs.w, c.mono hs.S hs.w⟩⟩
  | it s p => exact h
  | loop L => obtain ⟨fn, tmps, d, h1, h2, h3⟩ := h; exact ⟨fn, tmps, d, h1, h2, fun t v hv => (h3 t v hv).step hs⟩
def Env.Ow (E : Env) (b : Nat) : Prop := ∃ id, E.H id ≠ none ∧ E.m id = some b
structure HR (N : Nat) (E : Env) : Prop where
  st : ∀ b, E.S b → b < E.w.heap.size ∧ ∀ id, E.H id ≠ none → E.m id ≠ some b
  blk : ∀ id b, E.H id = some b → E.top id = some b.ver ∧ (E.m id = none → b.body = .lst []) ∧
    ∀ g, E.m id = some g → N ≤ g ∧ ∃ o, E.w.heap[g]? = some o ∧ OR E b.elem b.body o
  inj : ∀ i j g, E.H i ≠ none → E.H j ≠ none → E.m i = some g → E.m j = some g → i = j
structure Env.Go (E E' : Env) : Prop where
  step : E.Step E'
  os : E'.w.os = E.w.os
  tape : E'.w.tape = E.w.tape
  output : E'.w.output = E.w.output
  size : E.w.heap.size ≤ E'.w.heap.size
  only : ∀ b, b < E.w.heap.size → ¬ E.Ow b → E'.w.heap[b]? = E.w.heap[b]?
  own : ∀ b, E'.Ow b → E.Ow b ∨ E.w.heap.size ≤ b
  st : ∀ b, E'.S b → E.S b ∨ E.Ow b ∨ E.w.heap.size ≤ b
theorem Env.Go.refl (E : Env) : E.Go E := ⟨.refl E, rfl, rfl, rfl, Nat.le_refl _, fun _ _ _ => rfl, fun _ h => .inl h, fun _ h => .inl h⟩
theorem Env.Go.trans {E E' E'' : Env} (h : E.Go E') (k : E'.Go E'') : E.Go E'' where
  step := h.step.trans k.step
  os := k.os.trans h.os
  tape := k.tape.trans h.tape
  output := k.output.trans h.output
  size := Nat.le_trans h.size k.size
  only b hb hn := (k.only b (Nat.lt_of_lt_of_le hb h.size) fun ho => by
    rcases h.own b ho with h1 | h1
    · exact hn h1
    · omega).trans (h.only b hb hn)
  own b hb := by
    rcases k.own b hb with h1 | h1
    · exact h.own b h1
    · have := h.size; exact .inr (by omega)
  st b hb := by
    rcases k.st b hb with h1 | h1 | h1
    · exact h.st b h1
    · rcases h.own b h1 with h2 | h2
      · exact .inr (.inl h2)
      · exact .inr (.inr h2)
    · have := h.size; exact .inr (.inr (by omega))
theorem Env.Go.below {E E' : Env} (h : E.Go E') {N : Nat} (hN : N ≤ E.w.heap.size) (hr : HR N E) : Below N E.w E'.w :=
  ⟨h.os, h.tape, h.output, h.size, fun b hb => h.only b (by omega) fun ⟨id, h1, h2⟩ => by
    cases hh : E.H id with
    | none => exact h1 hh
    | some x => have := ((hr.blk id x hh).2.2 b h2).1; omega⟩
structure Res where
  val : AV
  bl : List ABlk
structure Ctx where
  prog : Program
  N : Nat
  G : World → Prop
  hG : ∀ w w', G w → Below N w w' → G w'
  marks : Bool
def fnOK (P : Program) (f : FuncId) : Bool := match P.funcs[f]? with
  | some fn => !(fn.name == "runtime.NumGoroutine") && fn.body.isSome
  | none => false
inductive Out where
  | ret (v : AV)
  | pan (v : AV)
  deriving Inhabited
def OutR (E : Env) : Out → Ending → Prop
  | .ret v, .returned u => VRel E v u
  | .pan v, .panicked ch => ∃ u, ch = [{ v := u, recovered := false }] ∧ VRel E v u
  | _, _ => False
inductive PB where
  | same
  | gone
  | upd (b : ABlk)
  deriving Inhabited
def PB.get (o : Option ABlk) : PB → Option ABlk
  | .same => o
  | .gone => none
  | .upd b => some b
def postH (pre : List ABlk) (post : List PB) (i : Nat) : Option ABlk := match post[i]? with | some p => p.get pre[i]? | none => none
structure StartOK (C : Ctx) (pre : List ABlk) (E : Env) : Prop where
  prog : E.P = C.prog
  G : C.G E.w
  hN : C.N ≤ E.w.heap.size
  hr : HR C.N E
  H : ∀ i, E.H i = pre[i]?
  top : ∀ id t, E.top id = some t → id < pre.length
structure FinOK (C : Ctx) (pre : List ABlk) (post : List PB) (E E' : Env) : Prop where
  go : E.Go E'
  hr : HR C.N E'
  H : ∀ i, E'.H i = postH pre post i
  top : ∀ id t, E'.top id = some t → id < post.length
def relL (E : Env) (vs : List AV) (us : List Value) : Prop := vs.length = us.length ∧ ∀ (i : Nat) (v : AV) (u : Value), vs[i]? = some v → us[i]? = some u → VRel E v u
def MeetsH (C : Ctx) (f : FuncId) (pre : List ABlk) (args : List AV) (out : Out) (post : List PB) : Prop :=
  fnOK C.prog f = true ∧ ∀ (E : Env) (us : List Value), StartOK C pre E → relL E args us →
    Calls C.prog f us.toArray E.w fun e w' => ∃ E', E'.w = w' ∧ FinOK C pre post E E' ∧ OutR E' out e
def Meets (C : Ctx) (f : FuncId) (args : List D) (r : Res) : Prop := MeetsH C f [] (args.map .d) (.ret r.val) (r.bl.map .upd)
def MeetsP (C : Ctx) (f : FuncId) (args : List D) (x : D) : Prop := MeetsH C f [] (args.map .d) (.pan (.d x)) []
def D.flatB : D → Bool
  | .num _ _ => true
  | .bool _ => true
  | .str _ => true
  | .list [] => true
  | .agg cs => flatL cs
  | .nili => true
  | .nilf => true
  | _ => false
  where flatL : List D → Bool
  | [] => true
  | d :: r => D.flatB d && flatL r
def AV.flatB : AV → Bool
  | .d x => x.flatB
  | .zc => true
  | .own _ _ => true
  | .agg vs => flatL vs
  | .tup vs => flatL vs
  | _ => false
  where flatL : List AV → Bool
  | [] => true
  | x :: r => AV.flatB x && flatL r
def Body.flatP : Body → Prop
  | .lst xs => ∀ x, x ∈ xs → x.flatB = true
  | _ => False
def blksFlat : List ABlk → Prop
  | [] => True
  | b :: r => b.body.flatP ∧ blksFlat r
def Res.flatP (r : Res) : Prop := r.val.flatB = true ∧ blksFlat r.bl
def ids : AV → List Nat
  | .own id _ => [id]
  | .ptr id _ _ _ => [id]
  | .agg vs => idsL vs
  | .tup vs => idsL vs
  | .fn _ a b => idsL a ++ idsL b
  | .iface _ v => ids v
  | .mapv id => [id]
  | .iter id => [id]
  | .yld id => [id]
  | _ => []
  where idsL : List AV → List Nat
  | [] => []
  | v :: r => ids v ++ idsL r
def PICK (c a b : AV) (K : AV → Prop) : Prop := match c with | .d (.bool t) => (t = true → K a) ∧ (t = false → K b) | _ => False
def nilCmp (nf : Nat) (op : BinOp) (x y : AV) : Bool := Nat.beq nf 998 && (match op with | .eql => true | .neq => true | _ => false) && match y with
  | .zc => (match x with | .d (.list _) => true | .zc => true | _ => false)
  | _ => false
def isNeq : BinOp → Bool
  | .neq => true
  | _ => false
def nilV (op : BinOp) (x : AV) : AV := match x with
  | .d (.list (_ :: _)) => .d (.bool (isNeq op))
  | _ => .anyb
def BIN (nf : Nat) (op : BinOp) (x y : AV) (K : AV → Prop) : Prop := match x, y with
  | .d a, .d b => ∃ r, binD nf op a b = some r ∧ K (.d r)
  | x, y => nilCmp nf op x y = true ∧ K (nilV op x)
def NOT (x : AV) (K : AV → Prop) : Prop := match x with | .d (.bool b) => K (.d (.bool !b)) | _ => False
def NEG (x : AV) (K : AV → Prop) : Prop := match x with | .d (.num k n) => K (.d (.num k (k.wrap (0 - n)))) | _ => False
def LOAD (agg : Bool) (size : Nat) (x : AV) (h : Heap) (K : AV → Prop) : Prop :=
  match x with
  | .d (.cp cs) => match agg with | true => size ≤ cs.length ∧ K (.d (.agg (cs.take size))) | false => ∃ x, cs.head? = some x ∧ K (.d x)
  | .ptr id ver row off => match bodyOf h id ver with
    | some (_, .box cs) => row = 0 ∧ match agg with | true => off + size ≤ cs.length ∧ K (mkAgg ((cs.drop off).take size)) | false => ∃ v, cs[off]? = some v ∧ K v
    | some (_, .lst xs) => ∃ x, xs[row]? = some x ∧ match agg with | true => off + size ≤ x.cells.length ∧ K (.d (.agg ((x.cells.drop off).take size))) | false => ∃ v, x.cells[off]? = some v ∧ K (.d v)
    | _ => False
  | _ => False
def STORE (size : Nat) (p v : AV) (h : Heap) (K : Heap → Prop) : Prop :=
  v.cells.length = size ∧
  match p with
  | .ptr id ver row off => match bodyOf h id ver with
    | some (e, .box cs) => row = 0 ∧ off + size ≤ cs.length ∧ K ((id, some ⟨ver, e, .box (splice cs off v.cells)⟩) :: h)
    | some (e, .lst xs) => ∃ d x, v = .d d ∧ xs[row]? = some x ∧ off + size ≤ x.cells.length ∧ K ((id, some ⟨ver, e, .lst (xs.set row (rowSet x off d.cells))⟩) :: h)
    | _ => False
  | _ => False
def FADDR (off : Nat) (x : AV) (h : Heap) (K : AV → Prop) : Prop := match x with
  | .d (.cp cs) => K (.d (.cp (cs.drop off)))
  | .ptr id ver row o => (bodyOf h id ver).isSome = true ∧ K (.ptr id ver row (o + off))
  | _ => False
def IADDR (esz : Nat) (el : TypeId) (x i : AV) (h : Heap) (K : AV → Prop) : Prop := match x, i with
  | .d (.list xs), .d (.num _ n) => 0 ≤ n ∧ ∃ e, xs[n.toNat]? = some e ∧ e.cells.length = esz ∧ K (.d (.cp e.cells))
  | .own id ver, .d (.num _ n) => match bodyOf h id ver with
    | some (e, .lst xs) => e = el ∧ 0 ≤ n ∧ n < (xs.length : Int) ∧ K (.ptr id ver n.toNat 0)
    | some (e, .box cs) => e = el ∧ esz = 1 ∧ 0 ≤ n ∧ n < (cs.length : Int) ∧ K (.ptr id ver 0 n.toNat)
    | _ => False
  | _, _ => False
def SIDX (x i : AV) (K : AV → Prop) : Prop := match x, i with
  | .d (.str s), .d (.num _ n) => 0 ≤ n ∧ ∃ c, s[n.toNat]? = some c ∧ K (.d (.num .u8 c.toNat))
  | _, _ => False
def bnd (v : Option AV) (dflt : Int) : Option Int := match v with | none => some dflt | some (.d (.num _ n)) => some n | _ => none
def SLICE (tag : Nat) (x : AV) (lo hi mx : Option AV) (K : AV → Prop) : Prop := match x, mx with
  | .d (.str s), none => tag = 0 ∧ ∃ l u, bnd lo 0 = some l ∧ bnd hi s.length = some u ∧ 0 ≤ l ∧ l ≤ u ∧ u ≤ s.length ∧ K (.d (.str ((s.take u.toNat).drop l.toNat)))
  | .d (.list s), none => tag ≠ 0 ∧ (∀ z, z ∈ s → z.cells.length + 1 = tag) ∧ ∃ l u, bnd lo 0 = some l ∧ bnd hi s.length = some u ∧ 0 ≤ l ∧ l ≤ u ∧ u ≤ s.length ∧ K (.d (.list ((s.take u.toNat).drop l.toNat)))
  | .d (.list _), some (.d (.num _ 0)) => tag ≠ 0 ∧ bnd lo 0 = some 0 ∧ bnd hi 1 = some 0 ∧ K .zc
  | .zc, some (.d (.num _ 0)) => tag ≠ 0 ∧ bnd lo 0 = some 0 ∧ bnd hi 1 = some 0 ∧ K .zc
  | _, _ => False
def BOX (e : TypeId) (x : AV) (new : Nat) (h : Heap) (K : AV → Heap → Prop) : Prop := K (.ptr new 0 0 0) ((new, some ⟨0, e, .box x.cells⟩) :: h)
def ALLOC (e : TypeId) (zero : List AV) (new : Nat) (h : Heap) (K : AV → Heap → Prop) : Prop := K (.ptr new 0 0 0) ((new, some ⟨0, e, .box zero⟩) :: h)
def fillA (fs : List (Nat × Nat)) (cells : List AV) : List (Nat × AV) → Option (List AV)
  | [] => some cells
  | (i, v) :: r => fs[i]?.bind fun (off, size) => if v.cells.length = size ∧ off + size ≤ cells.length then fillA fs (splice cells off v.cells) r else none
def BUILD (fs : List (Nat × Nat)) (zero : List AV) (parts : List (Nat × AV)) (K : AV → Prop) : Prop := ∃ cs, fillA fs zero parts = some cs ∧ K (mkAgg cs)
def elemD (B : BF) : AV → Option (D × List Nat)
  | .d x => some (x, [])
  | .zc => some (.list [], [])
  | .own id ver => match B id ver with | some (_, .lst xs) => some (.list xs, [id]) | _ => none
  | .agg vs => (toDs B vs).map fun ds => (.agg ds, ids.idsL vs)
  | _ => none
def elemsD (B : BF) : List AV → Option (List D × List Nat)
  | [] => some ([], [])
  | v :: r => (elemD B v).bind fun (x, u) => (elemsD B r).map fun (xs, us) => (x :: xs, u ++ us)
def kills (ks : List Nat) : Heap := ks.map fun k => (k, none)
def MKS (e : TypeId) (esz : Nat) (parts : List AV) (new : Nat) (h : Heap) (K : AV → Heap → Prop) : Prop :=
  ∃ xs ks, elemsD (bodyOf h) parts = some (xs, ks) ∧ (∀ x ∈ xs, x.cells.length = esz) ∧ K (.own new 0) ((new, some ⟨0, e, .lst xs⟩) :: kills ks ++ h)
def MAKE (e : TypeId) (zero : D) (n : AV) (new : Nat) (h : Heap) (K : AV → Heap → Prop) : Prop := match n with
  | .d (.num .i64 n) => 0 ≤ n ∧ n ≤ 1000000 ∧ K (.own new 0) ((new, some ⟨0, e, .lst (List.replicate n.toNat zero)⟩) :: h)
  | _ => False
def EXT (t : AV) (i : Nat) (K : AV → Prop) : Prop := match t with | .tup vs => ∃ v, vs[i]? = some v ∧ K v | _ => False
def lenA (str : Bool) (B : BF) : AV → Option Nat
  | .d (.str s) => match str with | true => some s.length | false => none
  | .zc => match str with | false => some 0 | true => none
  | .d (.list xs) => match str with | false => some xs.length | true => none
  | .own id ver => match str with | false => (match B id ver with | some (_, .lst xs) => some xs.length | some (_, .box cs) => some cs.length | _ => none) | true => none
  | _ => none
def LEN (str : Bool) (x : AV) (h : Heap) (K : AV → Prop) : Prop := ∃ n : Nat, lenA str (bodyOf h) x = some n ∧ K (.d (.num .i64 n))
def APP (e : TypeId) (esz : Nat) (s x : AV) (new : Nat) (h : Heap) (K : AV → Heap → Prop) : Prop :=
  ∃ ys, toD (bodyOf h) x = some (.list ys) ∧ (∀ y ∈ ys, y.cells.length = esz) ∧
  match s with
  | .zc => ys.length ≤ 1000000 ∧ K (.own new 0) ((new, some ⟨0, e, .lst ys⟩) :: h)
  | .own id ver => match bodyOf h id ver with
    | some (e', .lst xs) => e' = e ∧ xs.length + ys.length ≤ 1000000 ∧ K (.own id (ver + 1)) ((id, some ⟨ver + 1, e, .lst (xs ++ ys)⟩) :: h)
    | _ => False
  | _ => False
def MINK (x y : AV) (K : AV → Prop) : Prop := match x, y with | .d (.num k a), .d (.num _ b) => K (.d (.num k (min a b))) | _, _ => False
def MAXK (x y : AV) (K : AV → Prop) : Prop := match x, y with | .d (.num k a), .d (.num _ b) => K (.d (.num k (max a b))) | _, _ => False
def COND (b : AV) (X Y : Prop) : Prop := match b with | .d (.bool b) => (b = true → X) ∧ (b = false → Y) | .anyb => X ∧ Y | _ => False
def CONDG (b : AV) (X Y : Prop) : Prop := match b with | .d (.bool b) => (b = true → X) ∧ (b = false → Y) | _ => False
def numbered (n : Nat) : List ABlk → Heap
  | [] => []
  | b :: r => (n, some b) :: numbered (n + 1) r
def AV.ren (ρ : Nat → Nat) : AV → AV
  | .any => .any
  | .undef => .undef
  | .anyb => .anyb
  | .d x => .d x
  | .zc => .zc
  | .own id ver => .own (ρ id) ver
  | .ptr id ver row off => .ptr (ρ id) ver row off
  | .agg vs => .agg (renL ρ vs)
  | .fn f a b => .fn f (renL ρ a) (renL ρ b)
  | .iface t v => .iface t (AV.ren ρ v)
  | .tup vs => .tup (renL ρ vs)
  | .mapv id => .mapv (ρ id)
  | .iter id => .iter (ρ id)
  | .yld id => .yld (ρ id)
  where renL (ρ : Nat → Nat) : List AV → List AV
  | [] => []
  | v :: r => AV.ren ρ v :: renL ρ r
def renT (ρ : Nat → Nat) : List (Nat × AV) → List (Nat × AV)
  | [] => []
  | (t, v) :: r => (t, v.ren ρ) :: renT ρ r
def Body.ren (ρ : Nat → Nat) : Body → Body
  | .lst xs => .lst xs
  | .box cs => .box (AV.ren.renL ρ cs)
  | .mp es ck => .mp es ck
  | .it s p => .it s p
  | .loop L => .loop { L with tmps := renT ρ L.tmps }
def ABlk.ren (ρ : Nat → Nat) (b : ABlk) : ABlk := ⟨b.ver, b.elem, b.body.ren ρ⟩
def tmpIds : List (Nat × AV) → List Nat
  | [] => []
  | (_, v) :: r => ids v ++ tmpIds r
def Body.ids : Body → List Nat
  | .box cs => ids.idsL cs
  | .loop L => tmpIds L.tmps
  | _ => []
def rho : List Nat → Nat → Nat → Nat
  | [], new, i => new + i
  | k :: _, _, 0 => k
  | _ :: r, new, i + 1 => rho r new i
inductive Cal where
  | fnc (f : FuncId)
  | yld (id : Nat)
def Cal.ren (ρ : Nat → Nat) : Cal → Cal
  | .fnc f => .fnc f
  | .yld id => .yld (ρ id)
def Cal.ids : Cal → List Nat
  | .fnc _ => []
  | .yld id => [id]
def MeetsY (C : Ctx) (id : Nat) (pre : List ABlk) (args : List AV) (out : Out) (post : List PB) : Prop :=
  (∃ e L, pre[id]? = some ⟨0, e, .loop L⟩) ∧ ∀ (E : Env) (us : List Value), StartOK C pre E → relL E args us → ∀ g, E.m id = some g →
    ∃ fn tmps assign body, (Instr.yield g us.toArray).run C.prog E.w = .ok (.round g fn tmps assign body) E.w ∧
      RoundIn Fence.wide 0 C.prog g fn tmps assign body E.w fun e w' => ∃ E', E'.w = w' ∧ FinOK C pre post E E' ∧ OutR E' out e
def MeetsC (C : Ctx) (pre : List ABlk) (args : List AV) (out : Out) (post : List PB) : Cal → Prop
  | .fnc f => MeetsH C f pre args out post
  | .yld id => MeetsY C id pre args out post
def argsM (B : BF) (ρ : Nat → Nat) : List Bool → List AV → List AV → Prop
  | [], [], [] => True
  | true :: cs, v :: vs, v' :: vs' => (∃ x, argD B v = some x ∧ v' = .d x) ∧ argsM B ρ cs vs vs'
  | false :: cs, v :: vs, v' :: vs' => v = v'.ren ρ ∧ argsM B ρ cs vs vs'
  | _, _, _ => False
def lentL : List Bool → List AV → List Nat
  | true :: cs, v :: vs => ids v ++ lentL cs vs
  | _ :: cs, _ :: vs => lentL cs vs
  | _, _ => []
def preB (B : BF) (ρ : Nat → Nat) : List Nat → List ABlk → Prop
  | [], [] => True
  | k :: ks, b :: bs => B k b.ver = some (b.elem, b.body.ren ρ) ∧ preB B ρ ks bs
  | _, _ => False
def lowL (k : Nat) (l : List Nat) : Bool := l.all fun i => Nat.blt i k
def preIds : List ABlk → List Nat
  | [] => []
  | b :: r => b.body.ids ++ preIds r
def upsP (ρ : Nat → Nat) : List PB → Nat → Heap
  | [], _ => []
  | .same :: r, i => upsP ρ r (i + 1)
  | .gone :: r, i => (ρ i, none) :: upsP ρ r (i + 1)
  | .upd b :: r, i => (ρ i, some (b.ren ρ)) :: upsP ρ r (i + 1)
def Out.flatP : Out → Prop
  | .ret v => v.flatB = true
  | .pan v => v.flatB = true
def PB.flatP : PB → Prop
  | .upd b => b.body.flatP
  | _ => True
def postFlat : List PB → Prop
  | [] => True
  | p :: r => p.flatP ∧ postFlat r
def NodupB : List Nat → Bool
  | [] => true
  | k :: r => !r.contains k && NodupB r
def disjB (a b : List Nat) : Bool := a.all fun i => !b.contains i
inductive Eff where
  | ok (v : AV) (ups : Heap)
  | pan (v : AV) (ups : Heap)
def Out.eff (ρ : Nat → Nat) (ups : Heap) : Out → Eff
  | .ret v => .ok (v.ren ρ) ups
  | .pan v => .pan (v.ren ρ) ups
def killsIf (b : Bool) (l : List Nat) : Heap := match b with | true => kills l | false => []
def CALLR (C : Ctx) (cal : Cal) (args : List AV) (new : Nat) (B : BF) (rd : List Nat) (r : Eff) : Prop :=
  ∃ (ks : List Nat) (cal' : Cal) (cs : List Bool) (args' : List AV) (pre : List ABlk) (out : Out) (post : List PB) (kill : Bool),
    MeetsC C pre args' out post cal' ∧ NodupB ks = true ∧ cal = cal'.ren (rho ks new) ∧ argsM B (rho ks new) cs args args' ∧ preB B (rho ks new) ks pre ∧
    lowL ks.length (cal'.ids ++ ids.idsL args' ++ preIds pre) = true ∧ disjB (lentL cs args) ks = true ∧ pre.length ≤ post.length ∧ post.length ≤ pre.length + 8 ∧ rd = ids.idsL args ++ cal.ids ++ ks ∧
    (kill = false → lentL cs args = [] ∨ (ks = [] ∧ out.flatP ∧ postFlat post)) ∧
    r = out.eff (rho ks new) (upsP (rho ks new) post 0 ++ killsIf kill (lentL cs args))
def argX (B : BF) : AV → Option (D × List Nat)
  | .own id ver => match B id ver with
    | some (_, .lst xs) => some (.list xs, [])
    | some (_, .box cs) => (elemsD B cs).map fun p => (.list p.1, p.2)
    | _ => none
  | v => (argD B v).map fun x => (x, [])
def argsX (B : BF) : List AV → Option (List D × List Nat)
  | [] => some ([], [])
  | v :: r => (argX B v).bind fun p => (argsX B r).map fun q => (p.1 :: q.1, p.2 ++ q.2)
def CALLD (C : Ctx) (f : FuncId) (args : List AV) (new : Nat) (B : BF) (rd : List Nat) (r : Eff) : Prop :=
  ∃ ds ext v post, argsX B args = some (ds, ext) ∧ MeetsC C [] (ds.map .d) (.ret v) post (.fnc f) ∧ post.length ≤ 8 ∧ rd = ids.idsL args ++ ext ∧ r = .ok (v.ren (rho [] new)) (upsP (rho [] new) post 0 ++ kills (ids.idsL args ++ ext))
def CALLG (C : Ctx) (cal : Cal) (args : List AV) (new : Nat) (h : Heap) (K : List Nat → AV → Heap → Prop) (KP : List Nat → AV → Heap → Prop) : Prop :=
  ∃ rd r, CALLR C cal args new (bodyOf h) rd r ∧ match r with
    | .ok v ups => K rd v (ups ++ h)
    | .pan v ups => KP rd v (ups ++ h)
def CALL (C : Ctx) (f : FuncId) (args : List AV) (new : Nat) (h : Heap) (K : List Nat → AV → Heap → Prop) (KP : List Nat → AV → Heap → Prop) : Prop := CALLG C (.fnc f) args new h K KP
def CALLV (C : Ctx) (f : AV) (args : List AV) (new : Nat) (h : Heap) (K : List Nat → AV → Heap → Prop) (KP : List Nat → AV → Heap → Prop) : Prop := match f with
  | .d (.fn f first caps) => CALL C f (first.map .d ++ args ++ caps.map .d) new h K KP
  | .fn f first caps => CALL C f (first ++ args ++ caps) new h K KP
  | .yld id => CALLG C (.yld id) args new h K KP
  | _ => False
def slArgs (P : Program) (ts : Array TypeId) : Bool := ts.toList.any fun t => match tDesc P t with | .slice e => slTy P e | _ => false
def CALLDG (C : Ctx) (f : FuncId) (args : List AV) (new : Nat) (h : Heap) (K : List Nat → AV → Heap → Prop) (KP : List Nat → AV → Heap → Prop) : Prop :=
  ∃ rd r, CALLD C f args new (bodyOf h) rd r ∧ match r with
    | .ok v ups => K rd v (ups ++ h)
    | .pan v ups => KP rd v (ups ++ h)
def CALLX (sl : Bool) (C : Ctx) (f : FuncId) (args : List AV) (new : Nat) (h : Heap) (K : List Nat → AV → Heap → Prop) (KP : List Nat → AV → Heap → Prop) : Prop := match sl with
  | false => CALL C f args new h K KP
  | true => CALL C f args new h K KP ∨ CALLDG C f args new h K KP
theorem CALLX_or {sl : Bool} {C : Ctx} {f : FuncId} {args : List AV} {new : Nat} {h : Heap} {K : List Nat → AV → Heap → Prop} {KP : List Nat → AV → Heap → Prop} (hv : CALLX sl C f args new h K KP) : CALL C f args new h K KP ∨ CALLDG C f args new h K KP := by
  cases sl with
  | false => exact .inl hv
  | true => exact hv
def CALLF (C : Ctx) (f : AV) (args : List AV) (new : Nat) (h : Heap) (K : List Nat → AV → Heap → Prop) (KP : List Nat → AV → Heap → Prop) : Prop := match f with
  | .d (.fn f first caps) => CALL C f (first.map .d ++ args ++ caps.map .d) new h K KP
  | .fn f first caps => CALL C f (first ++ args ++ caps) new h K KP
  | _ => False
def PART (agg : Bool) (size off : Nat) (x : AV) (K : AV → Prop) : Prop := match x with
  | .d (.agg cs) => match agg with | true => off + size ≤ cs.length ∧ K (.d (.agg ((cs.drop off).take size))) | false => ∃ y, cs[off]? = some y ∧ K (.d y)
  | .agg vs => match agg with | true => off + size ≤ vs.length ∧ K (mkAgg ((vs.drop off).take size)) | false => ∃ y, vs[off]? = some y ∧ K y
  | _ => False
def AIDX (agg : Bool) (size len : Nat) (x i : AV) (K : AV → Prop) : Prop := match i with
  | .d (.num _ n) => 0 ≤ n ∧ n < (len : Int) ∧ PART agg size (n.toNat * size) x K
  | _ => False
def AADDR (esz len : Nat) (x i : AV) (h : Heap) (K : AV → Prop) : Prop := match i with
  | .d (.num _ n) => 0 ≤ n ∧ n < (len : Int) ∧ FADDR (n.toNat * esz) x h K
  | _ => False
def ifaceOf : AV → Option (TypeId × AV)
  | .iface t v => some (t, v)
  | .d (.iface t x) => some (t, .d x)
  | _ => none
def isNil : AV → Bool
  | .d .nili => true
  | _ => false
def TASS (t : TypeId) (zero : AV) (x : AV) (K : AV → Prop) : Prop :=
  (∃ v, ifaceOf x = some (t, v) ∧ K (.tup [v, .d (.bool true)])) ∨ (∃ t' v, ifaceOf x = some (t', v) ∧ t' ≠ t ∧ K (.tup [zero, .d (.bool false)])) ∨ (isNil x = true ∧ K (.tup [zero, .d (.bool false)]))
def INIL (nq : Bool) (x : AV) (K : AV → Prop) : Prop := (∃ p, ifaceOf x = some p ∧ K (.d (.bool nq))) ∨ (isNil x = true ∧ K (.d (.bool !nq)))
def tMeth (P : Program) (t : TypeId) (name : String) : Option FuncId := match P.info? t with
  | some i => match i.methods.find? (·.name == name) with
    | some m => match m.func with
      | some (f, false) => match m.path.isEmpty, P.underlying t with | true, some (.pointer _) => none | true, some _ => some f | _, _ => none
      | _ => none
    | none => none
  | none => none
def INVK (C : Ctx) (name : String) (x : AV) (args : List AV) (new : Nat) (h : Heap) (K : List Nat → AV → Heap → Prop) (KP : List Nat → AV → Heap → Prop) : Prop :=
  ∃ t v f, ifaceOf x = some (t, v) ∧ tMeth C.prog t name = some f ∧ CALL C f (v :: args) new h K KP
def PANIC (x : AV) (KP : AV → Prop) : Prop := (ifaceOf x).isSome = true ∧ KP x
def CONVI (k : IntKind) (x : AV) (K : AV → Prop) : Prop := match x with | .d (.num _ n) => K (.d (.num k (k.wrap n))) | _ => False
def bytesD : List D → Option (List UInt8)
  | [] => some []
  | .num .u8 n :: r => (bytesD r).map fun bs => UInt8.ofNat n.toNat :: bs
  | _ => none
def CONVS (x : AV) (h : Heap) (K : AV → Prop) : Prop := ∃ xs bs, toD (bodyOf h) x = some (.list xs) ∧ bytesD xs = some bs ∧ xs.length ≤ 1000000 ∧ K (.d (.str bs))
def CONVB (e : TypeId) (x : AV) (new : Nat) (h : Heap) (K : AV → Heap → Prop) : Prop := match x with
  | .d (.str s) => s.length ≤ 1000000 ∧ K (.own new 0) ((new, some ⟨0, e, .lst (s.map fun c => .num .u8 (c.toNat : Int))⟩) :: h)
  | _ => False
def keyEq : D → D → Option Bool
  | .num k a, .num k' b => if k = k' then some (decide (a = b)) else none
  | .agg a, .agg b => beqAll a b
  | _, _ => none
def mfind (k : D) : List MEnt → Nat → Option (Option (Nat × MEnt))
  | [], _ => some none
  | e :: r, i => match keyEq k e.k with
    | some true => some (some (i, e))
    | some false => mfind k r (i + 1)
    | none => none
def MKMAP (new : Nat) (h : Heap) (K : AV → Heap → Prop) : Prop := K (.mapv new) ((new, some ⟨0, 0, .mp [] 0⟩) :: h)
def mapAt (B : BF) : AV → Option (Nat × TypeId × List MEnt × Nat)
  | .mapv id => match B id 0 with | some (e, .mp es ck) => some (id, e, es, ck) | _ => none
  | _ => none
def D.isNum : D → Bool
  | .num _ _ => true
  | _ => false
def keyOK (nk : Nat) : D → Bool
  | .agg cs => Nat.beq (cs.length + 1000) nk && cs.all D.isNum
  | _ => false
def LOOKUP (nk : Nat) (zero : D) (ok : Bool) (m k : AV) (h : Heap) (K : AV → Prop) : Prop :=
  ∃ id e es ck kd r, mapAt (bodyOf h) m = some (id, e, es, ck) ∧ k = .d kd ∧ keyOK nk kd = true ∧ mfind kd es 0 = some r ∧
    let v := match r with | some (_, x) => x.v | none => zero
    K (match ok with | true => .tup [.d v, .d (.bool r.isSome)] | false => .d v)
def mput (k v : D) (es : List MEnt) (ck : Nat) : Option (Nat × MEnt) → List MEnt × Nat
  | some (i, x) => (es.set i ⟨k, v, x.born⟩, ck)
  | none => (es ++ [⟨k, v, ck⟩], ck + 1)
def MUPD (nk : Nat) (m k v : AV) (h : Heap) (K : Heap → Prop) : Prop :=
  ∃ id e es ck kd vd r, mapAt (bodyOf h) m = some (id, e, es, ck) ∧ k = .d kd ∧ keyOK nk kd = true ∧ v = .d vd ∧ mfind kd es 0 = some r ∧ K ((id, some ⟨0, e, .mp (mput kd vd es ck r).1 (mput kd vd es ck r).2⟩) :: h)
def MENTRY (nk : Nat) (zero : D) (m k : AV) (h : Heap) (K : AV → Heap → Prop) : Prop :=
  ∃ id e es ck kd r, mapAt (bodyOf h) m = some (id, e, es, ck) ∧ k = .d kd ∧ keyOK nk kd = true ∧ mfind kd es 0 = some r ∧
    match r with
    | some (i, x) => K (.tup [.d x.v, .d (.num .i64 x.born)]) ((id, some ⟨0, e, .mp (es.set i ⟨kd, x.v, x.born⟩) ck⟩) :: h)
    | none => K (.tup [.d zero, .d (.num .i64 ck)]) ((id, some ⟨0, e, .mp (es ++ [⟨kd, zero, ck⟩]) (ck + 1)⟩) :: h)
def mstore (b : Int) (v : D) : List MEnt → Option (List MEnt)
  | [] => none
  | e :: r => if (e.born : Int) = b then some (⟨e.k, v, e.born⟩ :: r) else (mstore b v r).map (e :: ·)
def MSTORE (m s v : AV) (h : Heap) (K : Heap → Prop) : Prop :=
  ∃ id e es ck n vd es', mapAt (bodyOf h) m = some (id, e, es, ck) ∧ s = .d (.num .i64 n) ∧ v = .d vd ∧ mstore n vd es = some es' ∧ K ((id, some ⟨0, e, .mp es' ck⟩) :: h)
def MDEL (nk : Nat) (m k : AV) (h : Heap) (K : Heap → Prop) : Prop :=
  ∃ id e es ck kd r, mapAt (bodyOf h) m = some (id, e, es, ck) ∧ k = .d kd ∧ keyOK nk kd = true ∧ mfind kd es 0 = some r ∧ K ((id, some ⟨0, e, .mp (match r with | some (i, _) => es.eraseIdx i | none => es) ck⟩) :: h)
def RANGE (x : AV) (new : Nat) (h : Heap) (K : AV → Heap → Prop) : Prop := match x with
  | .d (.str s) => K (.iter new) ((new, some ⟨0, 0, .it s 0⟩) :: h)
  | _ => False
def NEXT (it : AV) (h : Heap) (K : AV → Heap → Prop) : Prop := match it with
  | .iter id => match bodyOf h id 0 with
    | some (e, .it s p) => (p < s.length → K (.tup [.d (.bool true), .d (.num .i64 p), .d (.num .i32 (Utf8.decode ⟨s.toArray⟩ p).1)]) ((id, some ⟨0, e, .it s (p + (Utf8.decode ⟨s.toArray⟩ p).2)⟩) :: h)) ∧
        (s.length ≤ p → K (.tup [.d (.bool false)]) h)
    | _ => False
  | _ => False
abbrev Dec := Option (Option Bool)
structure Slot where
  v : AV
  dec : Dec
abbrev Fr := List (Nat × AV × Dec)
def lk : Fr → Nat → AV
  | [], _ => .any
  | (k, v, _) :: r, i => match Nat.beq k i with | true => v | false => lk r i
def lkd : Fr → Nat → Dec
  | [], _ => none
  | (k, _, d) :: r, i => match Nat.beq k i with | true => d | false => lkd r i
def evf (fr : Fr) : Operand → AV
  | .tmp t => lk fr t
  | .const v => ofConst v
  | .func f => .d (.fn f [] [])
  | .global _ => .any
def decf (fr : Fr) : Operand → Dec
  | .tmp t => lkd fr t
  | .const (.bool b) => some (some b)
  | _ => none
def dstOf (ops : List Oper) (j : Nat) : Nat := ((ops[j]?).bind (·.dst)).getD 0
def putO (dst : Option Nat) (v : AV) (d : Dec) (fr : Fr) : Fr := match dst with | some t => (t, v, d) :: fr | none => fr
def MKSB (e : TypeId) (esz : Nat) (parts : List AV) (new : Nat) (h : Heap) (K : AV → Heap → Prop) : Prop :=
  esz = 1 ∧ ∃ id ver, parts = [.own id ver] ∧ K (.own new 0) ((new, some ⟨0, e, .box [.own id ver]⟩) :: h)
def MKSX (sl : Bool) (e : TypeId) (esz : Nat) (parts : List AV) (new : Nat) (h : Heap) (K : AV → Heap → Prop) : Prop := match sl with
  | false => MKS e esz parts new h K
  | true => MKS e esz parts new h K ∨ MKSB e esz parts new h K
def APPB (e : TypeId) (esz : Nat) (s x : AV) (new : Nat) (h : Heap) (K : AV → Heap → Prop) : Prop :=
  esz = 1 ∧ ∃ b vb e' zs, x = .own b vb ∧ bodyOf h b vb = some (e', .box zs) ∧
    ((s = .zc ∧ 1 ≤ zs.length ∧ zs.length ≤ 1000000 ∧ K (.own new 0) ((new, some ⟨0, e, .box zs⟩) :: h)) ∨
    ∃ id ver cs, s = .own id ver ∧ bodyOf h id ver = some (e, .box cs) ∧ cs.length + zs.length ≤ 1000000 ∧ K (.own id (ver + 1)) ((id, some ⟨ver + 1, e, .box (cs ++ zs)⟩) :: h))
def APPX (sl : Bool) (e : TypeId) (esz : Nat) (s x : AV) (new : Nat) (h : Heap) (K : AV → Heap → Prop) : Prop := match sl with
  | false => APP e esz s x new h K
  | true => APP e esz s x new h K ∨ APPB e esz s x new h K
theorem MKSX_or {sl : Bool} {e : TypeId} {esz : Nat} {parts : List AV} {new : Nat} {h : Heap} {K : AV → Heap → Prop} (hv : MKSX sl e esz parts new h K) : MKS e esz parts new h K ∨ MKSB e esz parts new h K := by
  cases sl with
  | false => exact .inl hv
  | true => exact hv
theorem APPX_or {sl : Bool} {e : TypeId} {esz : Nat} {s x : AV} {new : Nat} {h : Heap} {K : AV → Heap → Prop} (hv : APPX sl e esz s x new h K) : APP e esz s x new h K ∨ APPB e esz s x new h K := by
  cases sl with
  | false => exact .inl hv
  | true => exact hv
def SLICEH (tag : Nat) (x : AV) (lo hi mx : Option AV) (h : Heap) (K : AV → Heap → Prop) : Prop := match x with
  | .own id ver => match lo, mx with
    | none, mx => match bodyOf h id ver with
      | some (e, .lst xs) => tag ≠ 0 ∧ ∃ u, bnd hi xs.length = some u ∧ (mx = none ∨ hi.isSome = true ∧ bnd mx 0 = some u) ∧ 1 ≤ u ∧ u ≤ xs.length ∧ K (.own id (ver + 1)) ((id, some ⟨ver + 1, e, .lst (xs.take u.toNat)⟩) :: h)
      | _ => False
    | _, _ => False
  | x => SLICE tag x lo hi mx fun v => K v h
def looksF (ρ : Operand → AV) (o : Oper) : List Nat :=
  match o.op with
  | .load _ x => ids (ρ x)
  | .store _ x _ => ids (ρ x)
  | .indexAddr _ x _ => ids (ρ x)
  | .fieldAddr _ x _ => ids (ρ x)
  | .slice _ x _ _ _ => ids (ρ x)
  | .nilCheck x => ids (ρ x)
  | .convert _ _ x => ids (ρ x)
  | .lookup _ m _ _ => ids (ρ m)
  | .mapUpdate _ m _ _ => ids (ρ m)
  | .mapEntry _ m _ => ids (ρ m)
  | .entryStore _ m _ _ => ids (ρ m)
  | .next x _ => ids (ρ x)
  | .buildSlice _ _ parts => ids.idsL (parts.toList.map fun p => ρ p.2)
  | .call c => match c.callee with
    | .builtin b => match b with
      | .len => ids (ρ (c.args.getD 0 default))
      | .append => ids.idsL [ρ (c.args.getD 0 default), ρ (c.args.getD 1 default)]
      | .delete => ids (ρ (c.args.getD 0 default))
      | _ => []
    | _ => []
  | _ => []
def looks (fr : Fr) (o : Oper) : List Nat := looksF (evf fr) o
def vcOp (P : Ctx) (o : Oper) (new : Nat) (fr : Fr) (h : Heap) (KR : List Nat → Fr → Heap → Prop) (KP : List Nat → AV → Heap → Prop) : Prop :=
  let ρ := evf fr
  let K := KR (looks fr o)
  let k (v : AV) : Prop := K (putO o.dst v none fr) h
  let kh (v : AV) (h : Heap) : Prop := K (putO o.dst v none fr) h
  let kr (rd : List Nat) (v : AV) (h : Heap) : Prop := KR rd (putO o.dst v none fr) h
  match o.op with
  | .move x => K (putO o.dst (ρ x) (decf fr x) fr) h
  | .assign x => K (putO o.dst (ρ x) (decf fr x) fr) h
  | .pick c a b => match decf fr c with
    | some (some true) => K (putO o.dst (ρ a) (decf fr a) fr) h
    | some (some false) => K (putO o.dst (ρ b) (decf fr b) fr) h
    | _ => PICK (ρ c) (ρ a) (ρ b) k
  | .binOp op t x y _ => match tIface P.prog t with
    | true => match op with
      | .eql => isNil (ρ y) = true ∧ INIL false (ρ x) k
      | .neq => isNil (ρ y) = true ∧ INIL true (ρ x) k
      | _ => False
    | false => BIN (tTag P.prog t) op (ρ x) (ρ y) k
  | .unOp u _ x => match u with
    | .not => NOT (ρ x) k
    | .neg => NEG (ρ x) k
    | _ => False
  | .load t x => LOAD (tAgg P.prog t) (tSize P.prog t) (ρ x) h k
  | .store t x v => STORE (tSize P.prog t) (ρ x) (ρ v) h fun h => kh .any h
  | .fieldAddr s x f => FADDR ((tFields P.prog s).getD f (0, 0)).1 (ρ x) h k
  | .nilCheck x => FADDR 0 (ρ x) h k
  | .indexAddr t x i => match tArr P.prog t with
    | some n => AADDR (tSize P.prog (tElem P.prog t)) n (ρ x) (ρ i) h k
    | none => IADDR (tSize P.prog (tElem P.prog t)) (tElem P.prog t) (ρ x) (ρ i) h k
  | .index t x i => match tArr P.prog t with
    | some n => AIDX (tAgg P.prog (tElem P.prog t)) (tSize P.prog (tElem P.prog t)) n (ρ x) (ρ i) k
    | none => SIDX (ρ x) (ρ i) k
  | .field t x f => PART (tAgg P.prog (tFieldTy P.prog t f)) (tSize P.prog (tFieldTy P.prog t f)) ((tFields P.prog t).getD f (0, 0)).1 (ρ x) k
  | .slice t x lo hi mx => SLICEH (tSlice P.prog t) (ρ x) (lo.map ρ) (hi.map ρ) (mx.map ρ) h kh
  | .box e x => BOX e (ρ x) new h kh
  | .alloc e => ALLOC e (tZero P.prog e) new h kh
  | .build t parts => BUILD (tFields P.prog t) (tZero P.prog t) (parts.toList.map fun p => (p.1, ρ p.2)) k
  | .buildSlice t _ parts => MKSX (slTy P.prog (tElem P.prog t)) (tElem P.prog t) (tSize P.prog (tElem P.prog t)) (parts.toList.map fun p => ρ p.2) new h kh
  | .makeSlice t n _ => MAKE (tElem P.prog t) (tZeroD P.prog (tElem P.prog t)) (ρ n) new h kh
  | .extract t i => EXT (ρ t) i k
  | .makeFunc fn first caps => match fn with
    | .func f => k (.fn f (first.toList.map ρ) (caps.toList.map ρ))
    | _ => False
  | .makeInterface t x => k (.iface t (ρ x))
  | .convert s d x => match tConv P.prog s d with
    | some (some ik) => CONVI ik (ρ x) k
    | some none => CONVS (ρ x) h k
    | none => match tConvB P.prog s d with
      | some e => CONVB e (ρ x) new h kh
      | none => False
  | .typeAssert x _ t ok => match ok with
    | true => TASS t (match tAgg P.prog t with | true => mkAgg (tZero P.prog t) | false => (tZero P.prog t).headD .any) (ρ x) k
    | false => False
  | .makeMap _ r => match r with
    | none => MKMAP new h kh
    | some _ => False
  | .lookup t m x ok => LOOKUP (tTag P.prog (tMapKey P.prog t)) (toD0 (match tAgg P.prog (tMapElem P.prog t) with | true => mkAgg (tZero P.prog (tMapElem P.prog t)) | false => (tZero P.prog (tMapElem P.prog t)).headD .any)) ok (ρ m) (ρ x) h k
  | .mapUpdate t m x v => MUPD (tTag P.prog (tMapKey P.prog t)) (ρ m) (ρ x) (ρ v) h fun h => kh .any h
  | .mapEntry t m x => MENTRY (tTag P.prog (tMapKey P.prog t)) (toD0 (match tAgg P.prog (tMapElem P.prog t) with | true => mkAgg (tZero P.prog (tMapElem P.prog t)) | false => (tZero P.prog (tMapElem P.prog t)).headD .any)) (ρ m) (ρ x) h kh
  | .entryStore _ m s v => MSTORE (ρ m) (ρ s) (ρ v) h fun h => kh .any h
  | .range _ x => RANGE (ρ x) new h kh
  | .next x str => match str with
    | true => NEXT (ρ x) h kh
    | false => False
  | .panic x => PANIC (ρ x) fun v => KP [] v h
  | .call c => match c.callee with
    | .builtin b => match b with
      | .len => LEN (tIsStr P.prog (c.argTypes.getD 0 0)) (ρ (c.args.getD 0 default)) h k
      | .append => APPX (slTy P.prog (tElem P.prog (c.argTypes.getD 0 0))) (tElem P.prog (c.argTypes.getD 0 0)) (tSize P.prog (tElem P.prog (c.argTypes.getD 0 0))) (ρ (c.args.getD 0 default)) (ρ (c.args.getD 1 default)) new h kh
      | .min => MINK (ρ (c.args.getD 0 default)) (ρ (c.args.getD 1 default)) k
      | .max => MAXK (ρ (c.args.getD 0 default)) (ρ (c.args.getD 1 default)) k
      | .delete => MDEL (tTag P.prog (tMapKey P.prog (c.argTypes.getD 0 0))) (ρ (c.args.getD 0 default)) (ρ (c.args.getD 1 default)) h fun h => kh .any h
      | _ => False
    | .value f => match f with
      | .func f => CALLX (slArgs P.prog c.argTypes) P f (c.args.toList.map ρ) new h kr KP
      | .tmp t => CALLV P (lk fr t) (c.args.toList.map ρ) new h kr KP
      | _ => False
    | .invoke x name => INVK P name (ρ x) (c.args.toList.map ρ) new h kr KP
  | _ => False
def wr (h h' : Heap) : List Nat := (h'.take (h'.length - h.length)).map (·.1)
abbrev Touch := Nat × List Nat × List Nat
def befs : List Oper → Nat → List Nat → List Nat
  | [], _, acc => acc
  | o :: r, i, acc => befs r (i + 1) (acc ++ [o.after.toList.foldl (fun s e => if Region.binds .any e then s ||| 2 ^ e.on ||| acc.getD e.on 0 else s) 0])
def clash (x y : List Nat × List Nat) : Bool := x.1.any (fun i => y.1.contains i || y.2.contains i) || x.2.any (fun i => y.1.contains i)
def ordB (bef : List Nat) : List Touch → Bool
  | [] => true
  | (i, x) :: r => r.all (fun (j, y) => !clash x y || (bef.getD j 0).testBit i) && ordB bef r
def ORDL (bef : List Nat) (acc : List Touch) : Prop := ordB bef acc = true
def hasP (i j : Nat) : List (Nat × Nat) → Bool
  | [] => false
  | (a, b) :: r => (Nat.beq a i && Nat.beq b j) || hasP i j r
def ordX (ex : List (Nat × Nat)) (bef : List Nat) : List Touch → Bool
  | [] => true
  | (i, x) :: r => r.all (fun (j, y) => !clash x y || (bef.getD j 0).testBit i || hasP i j ex) && ordX ex bef r
def ORDX (ex : List (Nat × Nat)) (bef : List Nat) (acc : List Touch) : Prop := ordX ex bef acc = true
def notDst (o : Oper) (t : Nat) : Bool := match o.dst with | some d => !Nat.beq d t | none => true
def tchs (o : Oper) : Bool := match o.op with
  | .load _ _ => true
  | .store _ _ _ => true
  | .indexAddr _ _ _ => true
  | .fieldAddr _ _ _ => true
  | .slice _ _ _ _ _ => true
  | .nilCheck _ => true
  | .box _ _ => true
  | .alloc _ => true
  | .buildSlice _ _ _ => true
  | .makeSlice _ _ _ => true
  | .convert _ _ _ => true
  | .makeMap _ _ => true
  | .lookup _ _ _ _ => true
  | .mapUpdate _ _ _ _ => true
  | .mapEntry _ _ _ => true
  | .entryStore _ _ _ _ => true
  | .range _ _ => true
  | .next _ _ => true
  | .call c => match c.callee with
    | .builtin b => match b with
      | .min => false
      | .max => false
      | _ => true
    | _ => true
  | _ => false
def tch (i : Nat) (o : Oper) (h h' : Heap) (rd : List Nat) : List Touch := match tchs o with | true => [(i, wr h h', rd)] | false => []
def quietOp (o : Oper) : Bool := match o.op with
  | .move _ => true
  | .assign _ => true
  | .pick _ _ _ => true
  | .binOp _ _ _ _ _ => true
  | .unOp _ _ _ => true
  | .load _ _ => true
  | .fieldAddr _ _ _ => true
  | .nilCheck _ => true
  | .indexAddr _ _ _ => true
  | .index _ _ _ => true
  | .field _ _ _ => true
  | .extract _ _ => true
  | .makeInterface _ _ => true
  | .build _ _ => true
  | _ => false
def panOK (bef : Nat) (acc : List Touch) : Bool := acc.all fun (j, ups, _) => ups.isEmpty || bef.testBit j
def exFind (t m k : Nat) : List Oper → Nat → Option Nat
  | [], _ => none
  | o :: r, j => match o.op with
    | .mapEntry t' (.tmp m') (.tmp k') => match Nat.beq t t' && Nat.beq m m' && Nat.beq k k' && o.guard.isNone with
      | true => some j
      | false => none
    | _ => match quietOp o && notDst o m && notDst o k with
      | true => exFind t m k r (j + 1)
      | false => none
def exOf : List Oper → Nat → List (Nat × Nat)
  | [], _ => []
  | o :: r, i => match o.op with
    | .lookup t (.tmp m) (.tmp k) false => match notDst o m && notDst o k with
      | true => match exFind t m k r (i + 1) with
        | some j => (i, j) :: exOf r (i + 1)
        | none => exOf r (i + 1)
      | false => exOf r (i + 1)
    | _ => exOf r (i + 1)
def isAlloc (o : Oper) : Bool := match o.op with | .alloc _ => true | _ => false
def vcTail (P : Ctx) (all : List Oper) (bs : List Nat) (i0 : Nat) : List Oper → Nat → Nat → Fr → Heap → List Touch → Prop → Prop
  | [], _, _, _, _, acc, K => ORDL bs acc ∧ K
  | o :: rest, i, new, fr, h, acc, K =>
    match (bs.getD i 0).testBit i0 with
    | true => vcTail P all bs i0 rest (i + 1) (new + 8) (putO o.dst .any none fr) h acc K
    | false => match isAlloc o with
      | true => o.guard = none ∧ vcTail P all bs i0 rest (i + 1) (new + 8) (putO o.dst .any none fr) h (acc ++ [(i, [], [])]) K
      | false => quietOp o = true ∧ o.guard = none ∧ vcOp P o new fr h (fun rd fr' h' => vcTail P all bs i0 rest (i + 1) (new + 8) fr' h (acc ++ tch i o h h' rd) K) (fun _ _ _ => False)
def clr : List Oper → Fr → Fr
  | [], fr => fr
  | o :: r, fr => putO o.dst .any none (clr r fr)
def vcOps (P : Ctx) (pn : Bool) (all : List Oper) (draw : Bool) : List Oper → Nat → Nat → Fr → Heap → List Touch → (Fr → Heap → Prop) → (AV → Heap → Prop) → Prop
  | [], _, _, fr, h, acc, K, _ => match draw with | true => ORDX (exOf all 0) (befs all 0 []) acc ∧ K fr h | false => K fr h
  | o :: rest, i, new, fr, h, acc, K, KP =>
    let run (fr : Fr) : Prop := vcOp P o new fr h
      (fun rd fr' h' => vcOps P pn all draw rest (i + 1) (new + 8) fr' h' (match draw with | true => acc ++ tch i o h h' rd | false => acc) K KP)
      (fun _ v h' => match pn with
        | false => False
        | true => match draw with
        | true => panOK ((befs all 0 []).getD i 0) acc = true ∧ vcTail P all (befs all 0 []) i rest (i + 1) (new + 8) (putO o.dst .any none fr) h acc (KP v h')
        | false => KP v h')
    let skip (fr : Fr) : Prop := vcOps P pn all draw rest (i + 1) (new + 8) (putO o.dst .undef (some none) fr) h acc K KP
    match o.guard with
    | none => run fr
    | some (j, want) =>
      match lkd fr (dstOf all j) with
      | some none => skip fr
      | some (some b) => match b == want with
        | true => run fr
        | false => skip fr
      | none =>
        let frt := (dstOf all j, .d (.bool true), some (some true)) :: fr
        let frf := (dstOf all j, .d (.bool false), some (some false)) :: fr
        CONDG (lk fr (dstOf all j))
          (match want with | true => run frt | false => skip frt)
          (match want with | false => run frf | true => skip frf)
inductive AExit where
  | normal
  | exit (id : Nat)
  | ret
  | pan (v : AV)
def vals (fr : Fr) : List Nat → List AV
  | [] => []
  | t :: r => lk fr t :: vals fr r
def nth (vs : List AV) (i : Nat) : AV := vs.getD i .any
def zipF (vs : List AV) : List Nat → Nat → Fr
  | [], _ => []
  | t :: ts, i => (t, nth vs i, none) :: zipF vs ts (i + 1)
def okv (B : BF) (v v' : AV) : Prop := match v' with | .any => True | .d x => argD B v = some x | _ => v = v'
def weakV (B : BF) : List AV → List AV → Prop
  | [], [] => True
  | v :: vs, v' :: vs' => okv B v v' ∧ weakV B vs vs'
  | _, _ => False
def frz : List AV → List AV → List Nat
  | v :: vs, .d _ :: vs' => ids v ++ frz vs vs'
  | _ :: vs, _ :: vs' => frz vs vs'
  | _, _ => []
def gone (h : Heap) : List Nat → Prop
  | [] => True
  | k :: r => lookH h k = none ∧ gone h r
def heapIds : Heap → List Nat
  | [] => []
  | (k, some b) :: r => k :: (b.body.ids ++ heapIds r)
  | (k, none) :: r => k :: heapIds r
def lowB (N : Nat) (vs : List AV) (h : Heap) : Bool := (ids.idsL vs).all (fun i => Nat.blt i N) && (heapIds h).all (fun i => Nat.blt i N)
def weakH (h : Heap) : Heap → Prop
  | [] => True
  | (id, b) :: r => lookH h id = b ∧ weakH h r
def promote (nx : Nat) : List (Nat × TypeId) → Nat → List AV → Heap → List AV × Heap
  | [], _, vs, h => (vs, h)
  | (i, e) :: r, j, vs, h => match vs[i]? with
    | some .zc => promote nx r (j + 1) (vs.set i (.own (nx + j) 0)) ((nx + j, some ⟨0, e, .lst []⟩) :: h)
    | _ => promote nx r (j + 1) vs h
def promoteB (nx : Nat) : List (Nat × Nat × TypeId) → Nat → Heap → Heap
  | [], _, h => h
  | (id, c, e) :: r, j, h => match lookH h id with
    | some ⟨ver, e', .box cs⟩ => match cs[c]? with
      | some .zc => promoteB nx r (j + 1) ((id, some ⟨ver, e', .box (cs.set c (.own (nx + j) 0))⟩) :: (nx + j, some ⟨0, e, .lst []⟩) :: h)
      | _ => promoteB nx r (j + 1) h
    | _ => promoteB nx r (j + 1) h
def WEAK (vs : List AV) (h : Heap) (vs' : List AV) (h' : Heap) : Prop := weakV (bodyOf h) vs vs' ∧ weakH h h' ∧ gone h' (frz vs vs')
def renH (π : Nat → Nat) : Heap → Heap
  | [] => []
  | (k, b) :: r => (π k, b.map (ABlk.ren π)) :: renH π r
def WEAKP (vs : List AV) (h : Heap) (vs' : List AV) (h' : Heap) : Prop :=
  WEAK vs h vs' h' ∨ ∃ π : Nat → Nat, (∀ i, π (π i) = i) ∧ (∀ i, i < 24 → π i = i) ∧ WEAK (AV.ren.renL π vs) (renH π h) vs' h'
def LOOP (vs : List AV) (h : Heap) (nx : Nat) (body : List AV → Heap → (List AV → Heap → Prop) → Prop) : Prop :=
  ∃ (σ : Type) (F : σ → List AV) (G : σ → Heap) (pre : σ → Prop) (μ : σ → Nat) (pr : List (Nat × TypeId)) (pb : List (Nat × Nat × TypeId)) (W : List AV → Heap → List AV → Heap → Prop),
    (∀ vs h vs' h', W vs h vs' h' → WEAKP vs h vs' h') ∧ pr.length + pb.length ≤ 8 ∧ (∃ s, pre s ∧ WEAK (promote nx pr 0 vs h).1 (promoteB nx pb pr.length (promote nx pr 0 vs h).2) (F s) (G s)) ∧
    ∀ s, pre s → lowB (nx + 8) (F s) (G s) = true ∧ body (F s) (G s) fun vs' h' => ∃ s', pre s' ∧ W vs' h' (F s') (G s') ∧ μ s' < μ s
def firstRegion : Code → Nat
  | .region id _ _ => id
  | .seq a _ => firstRegion a
  | .block _ c => firstRegion c
  | .loop c => firstRegion c
  | _ => 0
def seqQ (K : Fr → Heap → Nat → Prop) (Q : AExit → Fr → Heap → Nat → Prop) : AExit → Fr → Heap → Nat → Prop
  | .normal, fr, h, nx => K fr h nx
  | .exit i, fr, h, nx => Q (.exit i) fr h nx
  | .ret, fr, h, nx => Q .ret fr h nx
  | .pan v, fr, h, nx => Q (.pan v) fr h nx
def blockQ (id : Nat) (Q : AExit → Fr → Heap → Nat → Prop) : AExit → Fr → Heap → Nat → Prop
  | .exit i, fr, h, nx => match Nat.beq i id with | true => Q .normal fr h nx | false => Q (.exit i) fr h nx
  | .normal, fr, h, nx => Q .normal fr h nx
  | .ret, fr, h, nx => Q .ret fr h nx
  | .pan v, fr, h, nx => Q (.pan v) fr h nx
def keepT (fr : Fr) : List Nat → List (Nat × AV)
  | [] => []
  | t :: r => (t, lk fr t) :: keepT fr r
def AFTER (id : Nat) (h : Heap) (K : Heap → Prop) (KX : Option Nat → Heap → Prop) : Prop := match lookH h id with
  | some ⟨0, _, .loop L⟩ => match L.st, L.pend with
    | .ready, none => K ((id, none) :: h)
    | .done, some .ret => KX none ((id, none) :: h)
    | .done, some (.exit i) => KX (some i) ((id, none) :: h)
    | _, _ => False
  | _ => False
def vcCode (P : Ctx) (pn : Bool) (n : Nat) (ann : Nat → List Nat) : Code → (AExit → Fr → Heap → Nat → Prop) → Fr → Heap → Nat → Prop
  | .skip, Q, fr, h, nx => Q .normal fr h nx
  | .label _, Q, fr, h, nx => Q .normal fr h nx
  | .region _ ops draw, Q, fr, h, nx => vcOps P pn ops.toList draw ops.toList 0 nx fr h [] (fun fr' h' => Q .normal fr' h' (nx + 8 * ops.toList.length)) (fun v h' => Q (.pan v) (clr ops.toList fr) h' (nx + 8 * ops.toList.length))
  | .seq a b, Q, fr, h, nx => vcCode P pn n ann a (seqQ (vcCode P pn n ann b Q) Q) fr h nx
  | .cond c x y, Q, fr, h, nx => match decf fr c with
    | some (some true) => vcCode P pn n ann x Q fr h nx
    | some (some false) => vcCode P pn n ann y Q fr h nx
    | _ => COND (evf fr c) (vcCode P pn n ann x Q fr h nx) (vcCode P pn n ann y Q fr h nx)
  | .block id c, Q, fr, h, nx => vcCode P pn n ann c (blockQ id Q) fr h nx
  | .scope c, Q, fr, h, nx => vcCode P pn n ann c Q fr h nx
  | .exit id, Q, fr, h, nx => Q (.exit id) fr h nx
  | .ret, Q, fr, h, nx => Q .ret fr h nx
  | .loop c, Q, fr, h, nx =>
    LOOP (vals fr (ann (firstRegion c))) h nx fun vs h next =>
      vcCode P pn n ann c (seqQ (fun fr h _ => next (vals fr (ann (firstRegion c))) h) Q)
        (zipF vs (ann (firstRegion c)) 0) h (nx + 8)
  | .rangeFunc f params assign body, Q, fr, h, nx =>
    CALLF P (evf fr f) [.yld nx] (nx + 8) ((nx, some ⟨0, 0, .loop ⟨.ready, none, n, keepT fr (ann (firstRegion assign)), params.toList, assign, body⟩⟩) :: h)
      (fun _ _ h' => AFTER nx h' (fun h'' => Q .normal fr h'' (nx + 16)) (fun x h'' => match x with | none => Q .ret fr h'' (nx + 16) | some i => Q (.exit i) fr h'' (nx + 16)))
      (fun _ v h' => Q (.pan v) fr h' (nx + 16))
  | _, _, _, _, _ => False
def resOf (P : Ctx) (fr : Fr) (h : Heap) : List ResultVar → (List AV → Prop) → Prop
  | [], K => K []
  | .tmp t :: r, K => resOf P fr h r fun vs => K (lk fr t :: vs)
  | .cell t ty :: r, K => LOAD (tAgg P.prog ty) (tSize P.prog ty) (lk fr t) h fun v => resOf P fr h r fun vs => K (v :: vs)
def yver (k j ver ver' : Nat) : Prop := if j < k then ver' = ver else ver' = 0
def src (k : Nat) (rs : List (Option Nat)) (j : Nat) : Option Nat := if j < k then some j else (rs[j - k]?).join
def yv (B : BF) (k : Nat) (rs : List (Option Nat)) : AV → AV → Prop
  | _, .any => True
  | v, .d x => argD B v = some x
  | .zc, .zc => True
  | .zc, .own j 0 => k ≤ j ∧ rs[j - k]? = some none
  | .own id ver, .own j ver' => src k rs j = some id ∧ yver k j ver ver' ∧ (B id ver).isSome = true
  | .ptr id ver row off, .ptr j ver' row' off' => src k rs j = some id ∧ yver k j ver ver' ∧ (B id ver).isSome = true ∧ row = row' ∧ off = off'
  | .mapv id, .mapv j => src k rs j = some id ∧ (B id 0).isSome = true
  | .iter id, .iter j => src k rs j = some id ∧ (B id 0).isSome = true
  | .yld id, .yld j => src k rs j = some id ∧ (B id 0).isSome = true
  | .agg vs, .agg ws => yvL B k rs vs ws
  | .tup vs, .tup ws => yvL B k rs vs ws
  | .fn f a b, .fn f' a' b' => f = f' ∧ yvL B k rs a a' ∧ yvL B k rs b b'
  | .iface t v, .iface t' v' => t = t' ∧ yv B k rs v v'
  | .d x, .agg ws => ∃ cs, x = .agg cs ∧ yvL B k rs (cs.map .d) ws
  | _, _ => False
  where yvL (B : BF) (k : Nat) (rs : List (Option Nat)) : List AV → List AV → Prop
  | [], [] => True
  | v :: vs, r :: ws => yv B k rs v r ∧ yvL B k rs vs ws
  | _, _ => False
def fz : AV → AV → List Nat
  | .agg vs, .agg ws => fzL vs ws
  | .tup vs, .tup ws => fzL vs ws
  | .fn _ a b, .fn _ a' b' => fzL a a' ++ fzL b b'
  | .iface _ v, .iface _ v' => fz v v'
  | v, .d _ => ids v
  | _, _ => []
  where fzL : List AV → List AV → List Nat
  | v :: vs, r :: ws => fz v r ++ fzL vs ws
  | _, _ => []
def yvT (B : BF) (k : Nat) (rs : List (Option Nat)) : List (Nat × AV) → List (Nat × AV) → Prop
  | [], [] => True
  | (t, v) :: vs, (t', r) :: ws => t = t' ∧ yv B k rs v r ∧ yvT B k rs vs ws
  | _, _ => False
def fzT : List (Nat × AV) → List (Nat × AV) → List Nat
  | (_, v) :: vs, (_, r) :: ws => fz v r ++ fzT vs ws
  | _, _ => []
def yb (B : BF) (k : Nat) (rs : List (Option Nat)) : Body → Body → Prop
  | .lst xs, .lst ys => xs = ys
  | .box cs, .box ds => yv.yvL B k rs cs ds
  | .mp es ck, .mp es' ck' => es = es' ∧ ck = ck'
  | .it s p, .it s' p' => s = s' ∧ p = p'
  | .loop L, .loop L' => L.st = L'.st ∧ L.pend = L'.pend ∧ L.n = L'.n ∧ L.params = L'.params ∧ L.assign = L'.assign ∧ L.body = L'.body ∧ yvT B k rs L.tmps L'.tmps
  | _, _ => False
def fzB : Body → Body → List Nat
  | .box cs, .box ds => fz.fzL cs ds
  | .loop L, .loop L' => fzT L.tmps L'.tmps
  | _, _ => []
def yh (B : BF) (h : Heap) (k : Nat) (pre : List ABlk) (rs : List (Option Nat)) : List PB → Nat → Prop
  | [], _ => True
  | .same :: r, j => j < k ∧ lookH h j = pre[j]? ∧ yh B h k pre rs r (j + 1)
  | .gone :: r, j => yh B h k pre rs r (j + 1)
  | .upd b :: r, j => (match (if j < k then some (some j) else rs[j - k]?) with
      | some (some id) => ∃ b0, lookH h id = some b0 ∧ b0.elem = b.elem ∧ yver k j b0.ver b.ver ∧ yb B k rs b0.body b.body
      | some none => b.ver = 0 ∧ b.body = .lst []
      | none => False) ∧ yh B h k pre rs r (j + 1)
def fzH (h : Heap) (k : Nat) (rs : List (Option Nat)) : List PB → Nat → List Nat
  | [], _ => []
  | .upd b :: r, j => (match src k rs j with | some id => (match lookH h id with | some b0 => fzB b0.body b.body | none => []) | none => []) ++ fzH h k rs r (j + 1)
  | _ :: r, j => fzH h k rs r (j + 1)
def stay (k : Nat) (rs : List (Option Nat)) : List PB → Nat → List Nat
  | [], _ => []
  | .gone :: r, j => stay k rs r (j + 1)
  | _ :: r, j => (match src k rs j with | some id => [id] | none => []) ++ stay k rs r (j + 1)
def oneOf : List AV → AV
  | [v] => v
  | vs => .tup vs
def ENDR (rs : List (Option Nat)) (v : AV) (h : Heap) (pre : List ABlk) (r : AV) (post : List PB) : Prop :=
  pre.length ≤ 24 ∧ post.length = pre.length + rs.length ∧ (rs.filterMap id).all (fun i => Nat.ble 24 i) = true ∧ NodupB (rs.filterMap id) = true ∧
  yv (bodyOf h) pre.length rs v r ∧ yh (bodyOf h) h pre.length pre rs post 0 ∧ disjB (fz v r ++ fzH h pre.length rs post 0) (stay pre.length rs post 0) = true
def POST (v : AV) (h : Heap) (pre : List ABlk) (r : AV) (post : List PB) : Prop := ∃ rs, ENDR rs v h pre r post
def zipA : List AV → Nat → Fr
  | [], _ => []
  | v :: vs, i => (i, v, none) :: zipA vs (i + 1)
def fnQ (P : Ctx) (f : Func) (pre : List ABlk) (out : Out) (post : List PB) : AExit → Fr → Heap → Nat → Prop
  | .normal, fr, h, _ => resOf P fr h f.results.toList fun vs => match out with | .ret r => POST (oneOf vs) h pre r post | .pan _ => False
  | .ret, fr, h, _ => resOf P fr h f.results.toList fun vs => match out with | .ret r => POST (oneOf vs) h pre r post | .pan _ => False
  | .exit _, _, _, _ => False
  | .pan v, _, h, _ => match out with | .pan r => POST v h pre r post | .ret _ => False
def vcFn (P : Ctx) (pn : Bool) (ann : Nat → List Nat) (f : Func) (pre : List ABlk) (args : List AV) (out : Out) (post : List PB) : Prop :=
  match f.body with
  | none => False
  | some c => vcCode P pn f.ntmps ann c (fnQ P f pre out post) (zipA args 0) (numbered 0 pre) 24
end Go.Vc
