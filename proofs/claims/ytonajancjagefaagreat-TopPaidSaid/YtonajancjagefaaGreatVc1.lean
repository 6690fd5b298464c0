/- A part of the proof: general laws of a reading of the model by abstract data, or contracts of the functions that the law calls. -/
import Derived.Test.YtonajancjagefaaGreatVc0
set_option maxRecDepth 100000
namespace Go.Vc
open Go Go.RowKit
def LOADR (agg : Bool) (size : Nat) (x : AV) (B : BF) (v : AV) : Prop :=
  match x with
  | .d (.cp cs) => match agg with | true => size ≤ cs.length ∧ v = .d (.agg (cs.take size)) | false => ∃ x, cs.head? = some x ∧ v = .d x
  | .ptr id ver row off => match B id ver with
    | some (_, .box cs) => row = 0 ∧ match agg with | true => off + size ≤ cs.length ∧ v = mkAgg ((cs.drop off).take size) | false => cs[off]? = some v
    | some (_, .lst xs) => ∃ x, xs[row]? = some x ∧ match agg with | true => off + size ≤ x.cells.length ∧ v = .d (.agg ((x.cells.drop off).take size)) | false => ∃ y, x.cells[off]? = some y ∧ v = .d y
    | _ => False
  | _ => False
def STORER (size : Nat) (p v : AV) (B : BF) (ups : Heap) : Prop :=
  v.cells.length = size ∧
  match p with
  | .ptr id ver row off => match B id ver with
    | some (e, .box cs) => row = 0 ∧ off + size ≤ cs.length ∧ ups = [(id, some ⟨ver, e, .box (splice cs off v.cells)⟩)]
    | some (e, .lst xs) => ∃ d x, v = .d d ∧ xs[row]? = some x ∧ off + size ≤ x.cells.length ∧ ups = [(id, some ⟨ver, e, .lst (xs.set row (rowSet x off d.cells))⟩)]
    | _ => False
  | _ => False
def FADDRR (off : Nat) (x : AV) (B : BF) (v : AV) : Prop := match x with
  | .d (.cp cs) => v = .d (.cp (cs.drop off))
  | .ptr id ver row o => (B id ver).isSome = true ∧ v = .ptr id ver row (o + off)
  | _ => False
def IADDRR (esz : Nat) (el : TypeId) (x i : AV) (B : BF) (v : AV) : Prop := match x, i with
  | .d (.list xs), .d (.num _ n) => 0 ≤ n ∧ ∃ e, xs[n.toNat]? = some e ∧ e.cells.length = esz ∧ v = .d (.cp e.cells)
  | .own id ver, .d (.num _ n) => match B id ver with
    | some (e, .lst xs) => e = el ∧ 0 ≤ n ∧ n < (xs.length : Int) ∧ v = .ptr id ver n.toNat 0
    | some (e, .box cs) => e = el ∧ esz = 1 ∧ 0 ≤ n ∧ n < (cs.length : Int) ∧ v = .ptr id ver 0 n.toNat
    | _ => False
  | _, _ => False
def SIDXR (x i : AV) (v : AV) : Prop := match x, i with
  | .d (.str s), .d (.num _ n) => 0 ≤ n ∧ ∃ c, s[n.toNat]? = some c ∧ v = .d (.num .u8 c.toNat)
  | _, _ => False
def SLICER (tag : Nat) (x : AV) (lo hi mx : Option AV) (v : AV) : Prop := match x, mx with
  | .d (.str s), none => tag = 0 ∧ ∃ l u, bnd lo 0 = some l ∧ bnd hi s.length = some u ∧ 0 ≤ l ∧ l ≤ u ∧ u ≤ s.length ∧ v = .d (.str ((s.take u.toNat).drop l.toNat))
  | .d (.list s), none => tag ≠ 0 ∧ (∀ z, z ∈ s → z.cells.length + 1 = tag) ∧ ∃ l u, bnd lo 0 = some l ∧ bnd hi s.length = some u ∧ 0 ≤ l ∧ l ≤ u ∧ u ≤ s.length ∧ v = .d (.list ((s.take u.toNat).drop l.toNat))
  | .d (.list _), some (.d (.num _ 0)) => tag ≠ 0 ∧ bnd lo 0 = some 0 ∧ bnd hi 1 = some 0 ∧ v = .zc
  | .zc, some (.d (.num _ 0)) => tag ≠ 0 ∧ bnd lo 0 = some 0 ∧ bnd hi 1 = some 0 ∧ v = .zc
  | _, _ => False
def SLICEOR (tag : Nat) (x : AV) (lo hi mx : Option AV) (B : BF) (v : AV) (ups : Heap) : Prop :=
  ∃ id ver e xs u, x = .own id ver ∧ lo = none ∧ B id ver = some (e, .lst xs) ∧ tag ≠ 0 ∧ bnd hi xs.length = some u ∧ (mx = none ∨ hi.isSome = true ∧ bnd mx 0 = some u) ∧ 1 ≤ u ∧ u ≤ xs.length ∧ v = .own id (ver + 1) ∧ ups = [(id, some ⟨ver + 1, e, .lst (xs.take u.toNat)⟩)]
def APPR (e : TypeId) (esz : Nat) (s x : AV) (new : Nat) (B : BF) (v : AV) (ups : Heap) : Prop :=
  ∃ ys, toD B x = some (.list ys) ∧ (∀ y ∈ ys, y.cells.length = esz) ∧
  match s with
  | .zc => ys.length ≤ 1000000 ∧ v = .own new 0 ∧ ups = [(new, some ⟨0, e, .lst ys⟩)]
  | .own id ver => match B id ver with
    | some (e', .lst xs) => e' = e ∧ xs.length + ys.length ≤ 1000000 ∧ v = .own id (ver + 1) ∧ ups = [(id, some ⟨ver + 1, e, .lst (xs ++ ys)⟩)]
    | _ => False
  | _ => False
def APPBR (e : TypeId) (esz : Nat) (s x : AV) (new : Nat) (B : BF) (v : AV) (ups : Heap) : Prop :=
  esz = 1 ∧ ∃ b vb e' zs, x = .own b vb ∧ B b vb = some (e', .box zs) ∧
    ((s = .zc ∧ 1 ≤ zs.length ∧ zs.length ≤ 1000000 ∧ v = .own new 0 ∧ ups = [(new, some ⟨0, e, .box zs⟩)]) ∨
    ∃ id ver cs, s = .own id ver ∧ B id ver = some (e, .box cs) ∧ cs.length + zs.length ≤ 1000000 ∧ v = .own id (ver + 1) ∧ ups = [(id, some ⟨ver + 1, e, .box (cs ++ zs)⟩)])
def MAKER (e : TypeId) (zero : D) (n : AV) (new : Nat) (v : AV) (ups : Heap) : Prop := match n with
  | .d (.num .i64 n) => 0 ≤ n ∧ n ≤ 1000000 ∧ v = .own new 0 ∧ ups = [(new, some ⟨0, e, .lst (List.replicate n.toNat zero)⟩)]
  | _ => False
def MAKEBR (zs : List AV) (e : TypeId) (n : AV) (new : Nat) (v : AV) (ups : Heap) : Prop := zs = [.zc] ∧ match n with
  | .d (.num .i64 n) => 0 ≤ n ∧ n ≤ 1000000 ∧ v = .own new 0 ∧ ups = [(new, some ⟨0, e, .box (List.replicate n.toNat .zc)⟩)]
  | _ => False
def CALLVR (C : Ctx) (f : AV) (args : List AV) (new : Nat) (B : BF) (rd : List Nat) (r : Eff) : Prop := match f with
  | .d (.fn f first caps) => CALLR C (.fnc f) (first.map .d ++ args ++ caps.map .d) new B rd r
  | .fn f first caps => CALLR C (.fnc f) (first ++ args ++ caps) new B rd r
  | .yld id => CALLR C (.yld id) args new B rd r
  | _ => False
def INVKR (C : Ctx) (name : String) (x : AV) (args : List AV) (new : Nat) (B : BF) (rd : List Nat) (r : Eff) : Prop :=
  ∃ t v f, ifaceOf x = some (t, v) ∧ tMeth C.prog t name = some f ∧ CALLR C (.fnc f) (v :: args) new B rd r
def PARTR (agg : Bool) (size off : Nat) (x : AV) (v : AV) : Prop := match x with
  | .d (.agg cs) => match agg with | true => off + size ≤ cs.length ∧ v = .d (.agg ((cs.drop off).take size)) | false => ∃ y, cs[off]? = some y ∧ v = .d y
  | .agg vs => match agg with | true => off + size ≤ vs.length ∧ v = mkAgg ((vs.drop off).take size) | false => vs[off]? = some v
  | _ => False
def AIDXR (agg : Bool) (size len : Nat) (x i : AV) (v : AV) : Prop := match i with
  | .d (.num _ n) => 0 ≤ n ∧ n < (len : Int) ∧ PARTR agg size (n.toNat * size) x v
  | _ => False
def AADDRR (esz len : Nat) (x i : AV) (B : BF) (v : AV) : Prop := match i with
  | .d (.num _ n) => 0 ≤ n ∧ n < (len : Int) ∧ FADDRR (n.toNat * esz) x B v
  | _ => False
def TASSR (t : TypeId) (zero : AV) (x : AV) (v : AV) : Prop :=
  (∃ y, ifaceOf x = some (t, y) ∧ v = .tup [y, .d (.bool true)]) ∨ (∃ t' y, ifaceOf x = some (t', y) ∧ t' ≠ t ∧ v = .tup [zero, .d (.bool false)]) ∨ (isNil x = true ∧ v = .tup [zero, .d (.bool false)])
def INILR (nq : Bool) (x : AV) (v : AV) : Prop := (∃ p, ifaceOf x = some p ∧ v = .d (.bool nq)) ∨ (isNil x = true ∧ v = .d (.bool !nq))
def CONVSR (x : AV) (B : BF) (v : AV) : Prop := ∃ xs bs, toD B x = some (.list xs) ∧ bytesD xs = some bs ∧ xs.length ≤ 1000000 ∧ v = .d (.str bs)
def CONVBR (e : TypeId) (x : AV) (new : Nat) (v : AV) (ups : Heap) : Prop := ∃ s, x = .d (.str s) ∧ s.length ≤ 1000000 ∧ v = .own new 0 ∧ ups = [(new, some ⟨0, e, .lst (s.map fun c => .num .u8 (c.toNat : Int))⟩)]
def LOOKUPR (nk : Nat) (zero : D) (ok : Bool) (m k : AV) (B : BF) (v : AV) : Prop :=
  ∃ id e es ck kd r, mapAt B m = some (id, e, es, ck) ∧ k = .d kd ∧ keyOK nk kd = true ∧ mfind kd es 0 = some r ∧
    v = (match ok with | true => .tup [.d (match r with | some (_, x) => x.v | none => zero), .d (.bool r.isSome)] | false => .d (match r with | some (_, x) => x.v | none => zero))
def MUPDR (nk : Nat) (m k x : AV) (B : BF) (ups : Heap) : Prop :=
  ∃ id e es ck kd vd r, mapAt B m = some (id, e, es, ck) ∧ k = .d kd ∧ keyOK nk kd = true ∧ x = .d vd ∧ mfind kd es 0 = some r ∧ ups = [(id, some ⟨0, e, .mp (mput kd vd es ck r).1 (mput kd vd es ck r).2⟩)]
def MENTRYR (nk : Nat) (zero : D) (m k : AV) (B : BF) (v : AV) (ups : Heap) : Prop :=
  ∃ id e es ck kd r, mapAt B m = some (id, e, es, ck) ∧ k = .d kd ∧ keyOK nk kd = true ∧ mfind kd es 0 = some r ∧
    v = .tup [.d (match r with | some (_, x) => x.v | none => zero), .d (.num .i64 (match r with | some (_, x) => x.born | none => ck))] ∧
    ups = [(id, some ⟨0, e, .mp (mput kd (match r with | some (_, x) => x.v | none => zero) es ck r).1 (mput kd (match r with | some (_, x) => x.v | none => zero) es ck r).2⟩)]
def MSTORER (m s x : AV) (B : BF) (ups : Heap) : Prop :=
  ∃ id e es ck n vd es', mapAt B m = some (id, e, es, ck) ∧ s = .d (.num .i64 n) ∧ x = .d vd ∧ mstore n vd es = some es' ∧ ups = [(id, some ⟨0, e, .mp es' ck⟩)]
def MDELR (nk : Nat) (m k : AV) (B : BF) (ups : Heap) : Prop :=
  ∃ id e es ck kd r, mapAt B m = some (id, e, es, ck) ∧ k = .d kd ∧ keyOK nk kd = true ∧ mfind kd es 0 = some r ∧ ups = [(id, some ⟨0, e, .mp (match r with | some (i, _) => es.eraseIdx i | none => es) ck⟩)]
def NEXTR (it : AV) (B : BF) (v : AV) (ups : Heap) : Prop := match it with
  | .iter id => match B id 0 with
    | some (e, .it s p) => (p < s.length ∧ v = .tup [.d (.bool true), .d (.num .i64 p), .d (.num .i32 (Utf8.decode ⟨s.toArray⟩ p).1)] ∧ ups = [(id, some ⟨0, e, .it s (p + (Utf8.decode ⟨s.toArray⟩ p).2)⟩)]) ∨
        (s.length ≤ p ∧ v = .tup [.d (.bool false)] ∧ ups = [])
    | _ => False
  | _ => False
def zeroA (P : Program) (t : TypeId) : AV := match tAgg P t with | true => mkAgg (tZero P t) | false => (tZero P t).headD .any
def EffR0 (P : Ctx) (op : Op) (new : Nat) (ρ : Operand → AV) (B : BF) (v : AV) (ups : Heap) : Prop :=
  match op with
  | .move x => v = ρ x ∧ ups = []
  | .assign x => v = ρ x ∧ ups = []
  | .pick c a b => ups = [] ∧ ((ρ c = .d (.bool true) ∧ v = ρ a) ∨ (ρ c = .d (.bool false) ∧ v = ρ b))
  | .binOp op t x y _ => ups = [] ∧ match tIface P.prog t with
    | true => isNil (ρ y) = true ∧ ((op = .eql ∧ INILR false (ρ x) v) ∨ (op = .neq ∧ INILR true (ρ x) v))
    | false => (∃ a b r, ρ x = .d a ∧ ρ y = .d b ∧ binD (tTag P.prog t) op a b = some r ∧ v = .d r) ∨ (nilCmp (tTag P.prog t) op (ρ x) (ρ y) = true ∧ v = nilV op (ρ x))
  | .unOp u _ x => ups = [] ∧ match u with
    | .not => ∃ b, ρ x = .d (.bool b) ∧ v = .d (.bool !b)
    | .neg => ∃ k n, ρ x = .d (.num k n) ∧ v = .d (.num k (k.wrap (0 - n)))
    | _ => False
  | .load t x => ups = [] ∧ LOADR (tAgg P.prog t) (tSize P.prog t) (ρ x) B v
  | .store t x y => v = .any ∧ STORER (tSize P.prog t) (ρ x) (ρ y) B ups
  | .fieldAddr s x f => ups = [] ∧ FADDRR ((tFields P.prog s).getD f (0, 0)).1 (ρ x) B v
  | .nilCheck x => ups = [] ∧ FADDRR 0 (ρ x) B v
  | .indexAddr t x i => ups = [] ∧ match tArr P.prog t with
    | some n => AADDRR (tSize P.prog (tElem P.prog t)) n (ρ x) (ρ i) B v
    | none => IADDRR (tSize P.prog (tElem P.prog t)) (tElem P.prog t) (ρ x) (ρ i) B v
  | .index t x i => ups = [] ∧ match tArr P.prog t with
    | some n => AIDXR (tAgg P.prog (tElem P.prog t)) (tSize P.prog (tElem P.prog t)) n (ρ x) (ρ i) v
    | none => SIDXR (ρ x) (ρ i) v
  | .field t x f => ups = [] ∧ PARTR (tAgg P.prog (tFieldTy P.prog t f)) (tSize P.prog (tFieldTy P.prog t f)) ((tFields P.prog t).getD f (0, 0)).1 (ρ x) v
  | .slice t x lo hi mx => (ups = [] ∧ SLICER (tSlice P.prog t) (ρ x) (lo.map ρ) (hi.map ρ) (mx.map ρ) v) ∨ SLICEOR (tSlice P.prog t) (ρ x) (lo.map ρ) (hi.map ρ) (mx.map ρ) B v ups
  | .box e x => v = .ptr new 0 0 0 ∧ ups = [(new, some ⟨0, e, .box (ρ x).cells⟩)]
  | .alloc e => (v = .ptr new 0 0 0 ∧ ups = [(new, some ⟨0, e, .box (tZero P.prog e)⟩)]) ∨ (v = .any ∧ ups = [])
  | .build t parts => ups = [] ∧ ∃ cs, fillA (tFields P.prog t) (tZero P.prog t) (parts.toList.map fun p => (p.1, ρ p.2)) = some cs ∧ v = mkAgg cs
  | .buildSlice t _ parts => (∃ xs ks, elemsD B (parts.toList.map fun p => ρ p.2) = some (xs, ks) ∧ (∀ x ∈ xs, x.cells.length = tSize P.prog (tElem P.prog t)) ∧ v = .own new 0 ∧ ups = (new, some ⟨0, tElem P.prog t, .lst xs⟩) :: kills ks) ∨ (tSize P.prog (tElem P.prog t) = 1 ∧ ∃ id ver, (parts.toList.map fun p => ρ p.2) = [.own id ver] ∧ v = .own new 0 ∧ ups = [(new, some ⟨0, tElem P.prog t, .box [.own id ver]⟩)])
  | .makeSlice t n _ => MAKER (tElem P.prog t) (tZeroD P.prog (tElem P.prog t)) (ρ n) new v ups ∨ MAKEBR (tZero P.prog (tElem P.prog t)) (tElem P.prog t) (ρ n) new v ups
  | .extract t i => ups = [] ∧ ∃ vs, ρ t = .tup vs ∧ vs[i]? = some v
  | .makeFunc fn first caps => ups = [] ∧ ∃ f, fn = .func f ∧ v = .fn f (first.toList.map ρ) (caps.toList.map ρ)
  | .makeInterface t x => ups = [] ∧ v = .iface t (ρ x)
  | .convert s d x => (ups = [] ∧ match tConv P.prog s d with
    | some (some ik) => ∃ k n, ρ x = .d (.num k n) ∧ v = .d (.num ik (ik.wrap n))
    | some none => CONVSR (ρ x) B v
    | none => False) ∨ (tConv P.prog s d = none ∧ ∃ e, tConvB P.prog s d = some e ∧ CONVBR e (ρ x) new v ups)
  | .typeAssert x _ t ok => ups = [] ∧ ok = true ∧ TASSR t (zeroA P.prog t) (ρ x) v
  | .makeMap _ r => r = none ∧ v = .mapv new ∧ ups = [(new, some ⟨0, 0, .mp [] 0⟩)]
  | .lookup t m x ok => ups = [] ∧ LOOKUPR (tTag P.prog (tMapKey P.prog t)) (toD0 (zeroA P.prog (tMapElem P.prog t))) ok (ρ m) (ρ x) B v
  | .mapUpdate t m x y => v = .any ∧ MUPDR (tTag P.prog (tMapKey P.prog t)) (ρ m) (ρ x) (ρ y) B ups
  | .mapEntry t m x => MENTRYR (tTag P.prog (tMapKey P.prog t)) (toD0 (zeroA P.prog (tMapElem P.prog t))) (ρ m) (ρ x) B v ups
  | .entryStore _ m s y => v = .any ∧ MSTORER (ρ m) (ρ s) (ρ y) B ups
  | .range _ x => ∃ s, ρ x = .d (.str s) ∧ v = .iter new ∧ ups = [(new, some ⟨0, 0, .it s 0⟩)]
  | .next x str => str = true ∧ NEXTR (ρ x) B v ups
  | .call c => match c.callee with
    | .builtin b => match b with
      | .len => ups = [] ∧ ∃ n : Nat, lenA (tIsStr P.prog (c.argTypes.getD 0 0)) B (ρ (c.args.getD 0 default)) = some n ∧ v = .d (.num .i64 n)
      | .append => APPR (tElem P.prog (c.argTypes.getD 0 0)) (tSize P.prog (tElem P.prog (c.argTypes.getD 0 0))) (ρ (c.args.getD 0 default)) (ρ (c.args.getD 1 default)) new B v ups ∨ APPBR (tElem P.prog (c.argTypes.getD 0 0)) (tSize P.prog (tElem P.prog (c.argTypes.getD 0 0))) (ρ (c.args.getD 0 default)) (ρ (c.args.getD 1 default)) new B v ups
      | .min => ups = [] ∧ ∃ k k' a b, ρ (c.args.getD 0 default) = .d (.num k a) ∧ ρ (c.args.getD 1 default) = .d (.num k' b) ∧ v = .d (.num k (min a b))
      | .max => ups = [] ∧ ∃ k k' a b, ρ (c.args.getD 0 default) = .d (.num k a) ∧ ρ (c.args.getD 1 default) = .d (.num k' b) ∧ v = .d (.num k (max a b))
      | .delete => v = .any ∧ MDELR (tTag P.prog (tMapKey P.prog (c.argTypes.getD 0 0))) (ρ (c.args.getD 0 default)) (ρ (c.args.getD 1 default)) B ups
      | _ => False
    | _ => False
  | _ => False
def EffR (P : Ctx) (o : Oper) (new : Nat) (ρ : Operand → AV) (B : BF) (rd : List Nat) (r : Eff) : Prop :=
  match o.op with
  | .panic x => rd = [] ∧ (ifaceOf (ρ x)).isSome = true ∧ r = .pan (ρ x) []
  | .call c => match c.callee with
    | .value f => match f with
      | .func f => CALLR P (.fnc f) (c.args.toList.map ρ) new B rd r ∨ CALLD P f (c.args.toList.map ρ) new B rd r
      | .tmp t => CALLVR P (ρ (.tmp t)) (c.args.toList.map ρ) new B rd r
      | _ => False
    | .invoke x name => INVKR P name (ρ x) (c.args.toList.map ρ) new B rd r
    | .builtin _ => ∃ v ups, EffR0 P o.op new ρ B v ups ∧ rd = looksF ρ o ∧ r = .ok v ups
  | _ => ∃ v ups, EffR0 P o.op new ρ B v ups ∧ rd = looksF ρ o ∧ r = .ok v ups
def DecOK (fr : Fr) : Prop := ∀ t, (∀ b, lkd fr t = some (some b) → lk fr t = .d (.bool b)) ∧ (lkd fr t = some none → lk fr t = .undef)
theorem lk_put (t : Nat) (v : AV) (d : Dec) (fr : Fr) (i : Nat) : lk (putO (some t) v d fr) i = if t = i then v else lk fr i := by
  simp only [putO, lk]
  by_cases hk : t = i
  · subst hk; simp
  · have hb : Nat.beq t i = false := by
      cases hb : Nat.beq t i
      · rfl
      · exact absurd (Nat.eq_of_beq_eq_true hb) hk
    rw [hb, if_neg hk]
theorem lkd_put (t : Nat) (v : AV) (d : Dec) (fr : Fr) (i : Nat) : lkd (putO (some t) v d fr) i = if t = i then d else lkd fr i := by
  simp only [putO, lkd]
  by_cases hk : t = i
  · subst hk; simp
  · have hb : Nat.beq t i = false := by
      cases hb : Nat.beq t i
      · rfl
      · exact absurd (Nat.eq_of_beq_eq_true hb) hk
    rw [hb, if_neg hk]
def decFits (v : AV) (d : Dec) : Prop := (∀ b, d = some (some b) → v = .d (.bool b)) ∧ (d = some none → v = .undef)
theorem decFits_none (v : AV) : decFits v none := ⟨fun _ h => (by cases h), fun h => (by cases h)⟩
theorem DecOK.put {fr : Fr} (h : DecOK fr) (dst : Option Nat) {v : AV} {d : Dec} (hd : decFits v d) : DecOK (putO dst v d fr) := by
  cases dst with
  | none => exact h
  | some t =>
    intro i
    rw [lk_put, lkd_put]
    by_cases hi : t = i
    · simp only [if_pos hi]; exact hd
    · simp only [if_neg hi]; exact h i
theorem DecOK.fits {fr : Fr} (h : DecOK fr) (x : Operand) : decFits (evf fr x) (decf fr x) := by
  cases x with
  | tmp t => exact h t
  | const v =>
    cases v <;> first | exact decFits_none _ | skip
    rename_i b
    exact ⟨fun b' hb => (by simp [decf] at hb; simp [evf, ofConst, hb]), fun hb => (by simp [decf] at hb)⟩
  | global g => exact decFits_none _
  | func f => exact decFits_none _
theorem PART_R {ag : Bool} {sz off : Nat} {x : AV} {K : AV → Prop} (hv : PART ag sz off x K) : ∃ v, PARTR ag sz off x v ∧ K v := by
  unfold PART at hv
  unfold PARTR
  split at hv
  · cases ag with
    | true => exact ⟨_, ⟨hv.1, rfl⟩, hv.2⟩
    | false => obtain ⟨y, h1, h2⟩ := hv; exact ⟨_, ⟨y, h1, rfl⟩, h2⟩
  · cases ag with
    | true => exact ⟨_, ⟨hv.1, rfl⟩, hv.2⟩
    | false => obtain ⟨y, h1, h2⟩ := hv; exact ⟨_, h1, h2⟩
  · exact hv.elim
theorem FADDR_R {off : Nat} {x : AV} {h : Heap} {K : AV → Prop} (hv : FADDR off x h K) : ∃ v, FADDRR off x (bodyOf h) v ∧ K v := by
  unfold FADDR at hv
  unfold FADDRR
  split at hv
  · exact ⟨_, rfl, hv⟩
  · exact ⟨_, ⟨hv.1, rfl⟩, hv.2⟩
  · exact hv.elim
theorem LOAD_R {ag : Bool} {sz : Nat} {x : AV} {h : Heap} {K : AV → Prop} (hv : LOAD ag sz x h K) : ∃ v, LOADR ag sz x (bodyOf h) v ∧ K v := by
  unfold LOAD at hv
  unfold LOADR
  split at hv
  · rename_i cs
    cases ag with
    | true => exact ⟨_, ⟨hv.1, rfl⟩, hv.2⟩
    | false => obtain ⟨y, h1, h2⟩ := hv; exact ⟨_, ⟨y, h1, rfl⟩, h2⟩
  · rename_i id ver row off
    simp only
    split at hv
    · rename_i e cs hb
      rw [hb]
      obtain ⟨hr0, hv⟩ := hv
      cases ag with
      | true => exact ⟨_, ⟨hr0, hv.1, rfl⟩, hv.2⟩
      | false => obtain ⟨y, h1, h2⟩ := hv; exact ⟨_, ⟨hr0, h1⟩, h2⟩
    · rename_i e xs hb
      rw [hb]
      obtain ⟨y, h1, h2⟩ := hv
      cases ag with
      | true => exact ⟨_, ⟨y, h1, h2.1, rfl⟩, h2.2⟩
      | false => obtain ⟨z, h3, h4⟩ := h2; exact ⟨_, ⟨y, h1, z, h3, rfl⟩, h4⟩
    · exact hv.elim
  · exact hv.elim
def effK (fr : Fr) (o : Oper) (h : Heap) (K : List Nat → Fr → Heap → Prop) (KP : List Nat → AV → Heap → Prop) (rd : List Nat) (d : Dec) : Eff → Prop
  | .ok v ups => decFits v d ∧ K rd (putO o.dst v d fr) (ups ++ h)
  | .pan v ups => KP rd v (ups ++ h)
theorem CALLG_R {C : Ctx} {cal : Cal} {args : List AV} {new : Nat} {h : Heap} {o : Oper} {fr : Fr} {K : List Nat → Fr → Heap → Prop} {KP : List Nat → AV → Heap → Prop}
    (hv : CALLG C cal args new h (fun rd v h => K rd (putO o.dst v none fr) h) KP) : ∃ rd r, CALLR C cal args new (bodyOf h) rd r ∧ effK fr o h K KP rd none r := by
  obtain ⟨rd, r, h1, h2⟩ := hv
  refine ⟨rd, r, h1, ?_⟩
  cases r with
  | ok v ups => exact ⟨decFits_none _, h2⟩
  | pan v ups => exact h2
def plainOp : Op → Prop
  | .panic _ => False
  | .call c => match c.callee with | .builtin _ => True | _ => False
  | _ => True
theorem vcOp_eff {P : Ctx} {o : Oper} {new : Nat} {fr : Fr} {h : Heap} {K : List Nat → Fr → Heap → Prop} {KP : List Nat → AV → Heap → Prop} (hD : DecOK fr) (hv : vcOp P o new fr h K KP) :
    ∃ rd r d, EffR P o new (evf fr) (bodyOf h) rd r ∧ effK fr o h K KP rd d r := by
  obtain ⟨dst, op, type, pos, after, guard⟩ := o
  have ok0 : ∀ (v : AV) (d : Dec) (ups : Heap), plainOp op → EffR0 P op new (evf fr) (bodyOf h) v ups → decFits v d → K (looks fr ⟨dst, op, type, pos, after, guard⟩) (putO dst v d fr) (ups ++ h) →
      ∃ rd r d, EffR P ⟨dst, op, type, pos, after, guard⟩ new (evf fr) (bodyOf h) rd r ∧ effK fr ⟨dst, op, type, pos, after, guard⟩ h K KP rd d r := fun v d ups hc h1 h2 h3 => by
    refine ⟨_, .ok v ups, d, ?_, h2, h3⟩
    cases op with
    | panic x => exact hc.elim
    | call c =>
      obtain ⟨callee, args, tys⟩ := c
      cases callee with
      | value f => exact hc.elim
      | invoke r m => exact hc.elim
      | builtin b => exact ⟨v, ups, h1, rfl, rfl⟩
    | _ => exact ⟨v, ups, h1, rfl, rfl⟩
  cases op with
  | move x => exact ok0 _ _ [] trivial ⟨rfl, rfl⟩ (hD.fits x) hv
  | assign x => exact ok0 _ _ [] trivial ⟨rfl, rfl⟩ (hD.fits x) hv
  | pick c a b =>
    simp only [vcOp] at hv
    have hf := hD.fits c
    split at hv
    · rename_i hc; exact ok0 _ _ [] trivial ⟨rfl, .inl ⟨hf.1 _ hc, rfl⟩⟩ (hD.fits a) hv
    · rename_i hc; exact ok0 _ _ [] trivial ⟨rfl, .inr ⟨hf.1 _ hc, rfl⟩⟩ (hD.fits b) hv
    · unfold PICK at hv
      split at hv
      · rename_i t ht
        cases t with
        | true => exact ok0 _ none [] trivial ⟨rfl, .inl ⟨ht, rfl⟩⟩ (decFits_none _) (hv.1 rfl)
        | false => exact ok0 _ none [] trivial ⟨rfl, .inr ⟨ht, rfl⟩⟩ (decFits_none _) (hv.2 rfl)
      · exact hv.elim
  | binOp op xt x y yt =>
    simp only [vcOp] at hv
    cases hi : tIface P.prog xt with
    | true =>
      rw [hi] at hv
      have go : ∀ nq, (op = .eql ∧ nq = false) ∨ (op = .neq ∧ nq = true) → (isNil (evf fr y) = true ∧ INIL nq (evf fr x) fun v => K (looks fr ⟨dst, .binOp op xt x y yt, type, pos, after, guard⟩) (putO dst v none fr) h) → ∃ rd r d, EffR P ⟨dst, .binOp op xt x y yt, type, pos, after, guard⟩ new (evf fr) (bodyOf h) rd r ∧ effK fr ⟨dst, .binOp op xt x y yt, type, pos, after, guard⟩ h K KP rd d r := fun nq hq ⟨hn, hI⟩ => by
        have : ∃ v, INILR nq (evf fr x) v ∧ K (looks fr ⟨dst, .binOp op xt x y yt, type, pos, after, guard⟩) (putO dst v none fr) h := by
          rcases hI with ⟨p, h1, h2⟩ | ⟨h1, h2⟩
          · exact ⟨_, .inl ⟨p, h1, rfl⟩, h2⟩
          · exact ⟨_, .inr ⟨h1, rfl⟩, h2⟩
        obtain ⟨v, h1, h2⟩ := this
        refine ok0 v none [] trivial ⟨rfl, ?_⟩ (decFits_none _) h2
        rw [hi]
        rcases hq with ⟨rfl, rfl⟩ | ⟨rfl, rfl⟩
        · exact ⟨hn, .inl ⟨rfl, h1⟩⟩
        · exact ⟨hn, .inr ⟨rfl, h1⟩⟩
      cases op <;> first | exact hv.elim | exact go false (.inl ⟨rfl, rfl⟩) hv | exact go true (.inr ⟨rfl, rfl⟩) hv
    | false =>
      rw [hi] at hv
      simp only [BIN] at hv
      split at hv
      · rename_i a b ha hb
        obtain ⟨r, hr, hk⟩ := hv
        exact ok0 _ none [] trivial ⟨rfl, by rw [hi]; exact .inl ⟨a, b, r, ha, hb, hr, rfl⟩⟩ (decFits_none _) hk
      · exact ok0 _ none [] trivial ⟨rfl, by rw [hi]; exact .inr ⟨hv.1, rfl⟩⟩ (decFits_none _) hv.2
  | unOp u xt x =>
    cases u with
    | not =>
      simp only [vcOp, NOT] at hv
      split at hv
      · rename_i b hb; exact ok0 _ none [] trivial ⟨rfl, b, hb, rfl⟩ (decFits_none _) hv
      · exact hv.elim
    | neg =>
      simp only [vcOp, NEG] at hv
      split at hv
      · rename_i k n hb; exact ok0 _ none [] trivial ⟨rfl, k, n, hb, rfl⟩ (decFits_none _) hv
      · exact hv.elim
    | xor => exact hv.elim
    | plus => exact hv.elim
  | load t x =>
    simp only [vcOp] at hv
    obtain ⟨v, h1, h2⟩ := LOAD_R hv
    exact ok0 v none [] trivial ⟨rfl, h1⟩ (decFits_none _) h2
  | store t x y =>
    simp only [vcOp, STORE] at hv
    suffices hs : ∃ ups, STORER (tSize P.prog t) (evf fr x) (evf fr y) (bodyOf h) ups ∧ K (looks fr ⟨dst, .store t x y, type, pos, after, guard⟩) (putO dst .any none fr) (ups ++ h) by
      obtain ⟨ups, h1, h2⟩ := hs
      exact ok0 _ none ups trivial ⟨rfl, h1⟩ (decFits_none _) h2
    unfold STORER
    obtain ⟨hl, hv⟩ := hv
    split at hv
    · rename_i id ver row off hx
      rw [hx]
      simp only
      split at hv
      · rename_i e cs hb
        rw [hb]
        exact ⟨_, ⟨hl, hv.1, hv.2.1, rfl⟩, hv.2.2⟩
      · rename_i e xs hb
        rw [hb]
        obtain ⟨d, x, h1, h2, h3, h4⟩ := hv
        exact ⟨_, ⟨hl, d, x, h1, h2, h3, rfl⟩, h4⟩
      · exact hv.elim
    · exact hv.elim
  | fieldAddr s x f =>
    simp only [vcOp] at hv
    obtain ⟨v, h1, h2⟩ := FADDR_R hv
    exact ok0 v none [] trivial ⟨rfl, h1⟩ (decFits_none _) h2
  | nilCheck x =>
    simp only [vcOp] at hv
    obtain ⟨v, h1, h2⟩ := FADDR_R hv
    exact ok0 v none [] trivial ⟨rfl, h1⟩ (decFits_none _) h2
  | indexAddr t x i =>
    simp only [vcOp] at hv
    cases ha : tArr P.prog t with
    | some n =>
      rw [ha] at hv
      simp only [AADDR] at hv
      split at hv
      · rename_i k m hi
        obtain ⟨h0, h1, h2⟩ := hv
        obtain ⟨v, h3, h4⟩ := FADDR_R h2
        exact ok0 v none [] trivial ⟨rfl, by rw [ha]; simp only [AADDRR, hi]; exact ⟨h0, h1, h3⟩⟩ (decFits_none _) h4
      · exact hv.elim
    | none =>
      rw [ha] at hv
      simp only [IADDR] at hv
      split at hv
      · rename_i xs k n hx hi
        obtain ⟨h0, e, h1, h2, h3⟩ := hv
        exact ok0 _ none [] trivial ⟨rfl, by rw [ha, hx, hi]; exact ⟨h0, e, h1, h2, rfl⟩⟩ (decFits_none _) h3
      · rename_i id ver k n hx hi
        split at hv
        · rename_i e xs hb
          exact ok0 (.ptr id ver n.toNat 0) none [] trivial ⟨rfl, by rw [ha, hx, hi]; simp only [IADDRR, hb]; exact ⟨hv.1, hv.2.1, hv.2.2.1, trivial⟩⟩ (decFits_none _) hv.2.2.2
        · rename_i e cs hb
          exact ok0 (.ptr id ver 0 n.toNat) none [] trivial ⟨rfl, by rw [ha, hx, hi]; simp only [IADDRR, hb]; exact ⟨hv.1, hv.2.1, hv.2.2.1, hv.2.2.2.1, trivial⟩⟩ (decFits_none _) hv.2.2.2.2
        · exact hv.elim
      · exact hv.elim
  | index t x i =>
    simp only [vcOp] at hv
    cases ha : tArr P.prog t with
    | some n =>
      rw [ha] at hv
      simp only [AIDX] at hv
      split at hv
      · rename_i k m hi
        obtain ⟨h0, h1, h2⟩ := hv
        obtain ⟨v, h3, h4⟩ := PART_R h2
        exact ok0 v none [] trivial ⟨rfl, by rw [ha]; simp only [AIDXR, hi]; exact ⟨h0, h1, h3⟩⟩ (decFits_none _) h4
      · exact hv.elim
    | none =>
      rw [ha] at hv
      simp only [SIDX] at hv
      split at hv
      · rename_i s k n hx hi
        obtain ⟨h0, c, h1, h2⟩ := hv
        exact ok0 _ none [] trivial ⟨rfl, by rw [ha, hx, hi]; exact ⟨h0, c, h1, rfl⟩⟩ (decFits_none _) h2
      · exact hv.elim
  | field t x f =>
    simp only [vcOp] at hv
    obtain ⟨v, h1, h2⟩ := PART_R hv
    exact ok0 v none [] trivial ⟨rfl, h1⟩ (decFits_none _) h2
  | slice t x lo hi mx =>
    simp only [vcOp, SLICEH] at hv
    split at hv
    · rename_i id ver hx
      split at hv
      · rename_i hlo
        split at hv
        · rename_i e xs hb
          obtain ⟨h0, u, h1, hmx, h2, h3, h4⟩ := hv
          exact ok0 (.own id (ver + 1)) none _ trivial (.inr ⟨id, ver, e, xs, u, hx, hlo, hb, h0, h1, hmx, h2, h3, rfl, rfl⟩) (decFits_none _) h4
        · exact hv.elim
      · exact hv.elim
    unfold SLICE at hv
    suffices hs : ∃ v, SLICER (tSlice P.prog t) (evf fr x) (lo.map (evf fr)) (hi.map (evf fr)) (mx.map (evf fr)) v ∧ K (looks fr ⟨dst, .slice t x lo hi mx, type, pos, after, guard⟩) (putO dst v none fr) h by
      obtain ⟨v, h1, h2⟩ := hs
      exact ok0 v none [] trivial (.inl ⟨rfl, h1⟩) (decFits_none _) h2
    unfold SLICER
    split at hv
    · rename_i s hx hm
      rw [hx, hm]
      obtain ⟨h0, l, u, h1, h2, h3, h4, h5, h6⟩ := hv
      exact ⟨_, ⟨h0, l, u, h1, h2, h3, h4, h5, rfl⟩, h6⟩
    · rename_i s hx hm
      rw [hx, hm]
      obtain ⟨h0, h0', l, u, h1, h2, h3, h4, h5, h6⟩ := hv
      exact ⟨_, ⟨h0, h0', l, u, h1, h2, h3, h4, h5, rfl⟩, h6⟩
    · rename_i xs k hx hm
      rw [hx, hm]
      exact ⟨_, ⟨hv.1, hv.2.1, hv.2.2.1, rfl⟩, hv.2.2.2⟩
    · rename_i k hx hm
      rw [hx, hm]
      exact ⟨_, ⟨hv.1, hv.2.1, hv.2.2.1, rfl⟩, hv.2.2.2⟩
    · exact hv.elim
  | box e x => exact ok0 _ none _ trivial ⟨rfl, rfl⟩ (decFits_none _) hv
  | alloc e => exact ok0 _ none _ trivial (.inl ⟨rfl, rfl⟩) (decFits_none _) hv
  | build t parts =>
    obtain ⟨cs, h1, h2⟩ := hv
    exact ok0 _ none [] trivial ⟨rfl, cs, h1, rfl⟩ (decFits_none _) h2
  | buildSlice t n parts =>
    rcases MKSX_or hv with hv | ⟨g1, id, ver, g2, g3⟩
    · obtain ⟨xs, us, h1, h2, h3⟩ := hv
      exact ok0 _ none _ trivial (.inl ⟨xs, us, h1, h2, rfl, rfl⟩) (decFits_none _) h3
    · exact ok0 _ none _ trivial (.inr ⟨g1, id, ver, g2, rfl, rfl⟩) (decFits_none _) g3
  | makeSlice t n c =>
    simp only [vcOp, MAKE] at hv
    split at hv
    · rename_i n' hn
      exact ok0 _ none _ trivial (.inl (by show MAKER _ _ (evf fr n) _ _ _; rw [hn]; exact ⟨hv.1, hv.2.1, rfl, rfl⟩)) (decFits_none _) hv.2.2
    · exact hv.elim
  | extract t i =>
    simp only [vcOp, EXT] at hv
    split at hv
    · rename_i vs ht
      obtain ⟨v, h1, h2⟩ := hv
      exact ok0 v none [] trivial ⟨rfl, vs, ht, h1⟩ (decFits_none _) h2
    · exact hv.elim
  | makeFunc fn first caps =>
    cases fn with
    | func f => exact ok0 _ none [] trivial ⟨rfl, f, rfl, rfl⟩ (decFits_none _) hv
    | _ => exact hv.elim
  | makeInterface t x => exact ok0 _ none [] trivial ⟨rfl, rfl⟩ (decFits_none _) hv
  | convert s d x =>
    simp only [vcOp] at hv
    cases hc : tConv P.prog s d with
    | none =>
      rw [hc] at hv
      simp only at hv
      cases hb : tConvB P.prog s d with
      | none => rw [hb] at hv; exact hv.elim
      | some e =>
        rw [hb] at hv
        simp only [CONVB] at hv
        split at hv
        · rename_i s' hx; exact ok0 _ none _ trivial (.inr ⟨hc, e, hb, s', hx, hv.1, rfl, rfl⟩) (decFits_none _) hv.2
        · exact hv.elim
    | some c =>
      rw [hc] at hv
      cases c with
      | some ik =>
        simp only [CONVI] at hv
        split at hv
        · rename_i k n hx; exact ok0 _ none [] trivial (.inl ⟨rfl, by rw [hc]; exact ⟨k, n, hx, rfl⟩⟩) (decFits_none _) hv
        · exact hv.elim
      | none =>
        obtain ⟨xs, bs, h1, h2, h3, h4⟩ := hv
        exact ok0 _ none [] trivial (.inl ⟨rfl, by rw [hc]; exact ⟨xs, bs, h1, h2, h3, rfl⟩⟩) (decFits_none _) h4
  | typeAssert x xt t ok =>
    simp only [vcOp] at hv
    cases ok with
    | false => exact hv.elim
    | true =>
      rcases hv with ⟨y, h1, h2⟩ | ⟨t', y, h1, h2, h3⟩ | ⟨h1, h2⟩
      · exact ok0 _ none [] trivial ⟨rfl, rfl, .inl ⟨y, h1, rfl⟩⟩ (decFits_none _) h2
      · exact ok0 _ none [] trivial ⟨rfl, rfl, .inr (.inl ⟨t', y, h1, h2, rfl⟩)⟩ (decFits_none _) h3
      · exact ok0 _ none [] trivial ⟨rfl, rfl, .inr (.inr ⟨h1, rfl⟩)⟩ (decFits_none _) h2
  | makeMap t r =>
    cases r with
    | some r => exact hv.elim
    | none => exact ok0 _ none _ trivial ⟨rfl, rfl, rfl⟩ (decFits_none _) hv
  | lookup t m x ok =>
    obtain ⟨id, e, es, ck, kd, r, h1, h2, h0, h3, h4⟩ := hv
    refine ok0 _ none [] trivial ⟨rfl, id, e, es, ck, kd, r, h1, h2, h0, h3, rfl⟩ (decFits_none _) ?_
    cases ok <;> exact h4
  | mapUpdate t m x y =>
    obtain ⟨id, e, es, ck, kd, vd, r, h1, h2, h0, h3, h4, h5⟩ := hv
    exact ok0 _ none _ trivial ⟨rfl, id, e, es, ck, kd, vd, r, h1, h2, h0, h3, h4, rfl⟩ (decFits_none _) h5
  | mapEntry t m x =>
    obtain ⟨id, e, es, ck, kd, r, h1, h2, h0, h3, h4⟩ := hv
    refine ok0 _ none _ trivial ⟨id, e, es, ck, kd, r, h1, h2, h0, h3, rfl, rfl⟩ (decFits_none _) ?_
    cases r with
    | none => exact h4
    | some p => exact h4
  | entryStore t m s y =>
    obtain ⟨id, e, es, ck, n, vd, es', h1, h2, h3, h4, h5⟩ := hv
    exact ok0 _ none _ trivial ⟨rfl, id, e, es, ck, n, vd, es', h1, h2, h3, h4, rfl⟩ (decFits_none _) h5
  | range t x =>
    simp only [vcOp, RANGE] at hv
    split at hv
    · rename_i s hx; exact ok0 _ none _ trivial ⟨s, hx, rfl, rfl⟩ (decFits_none _) hv
    · exact hv.elim
  | next x str =>
    simp only [vcOp] at hv
    cases str with
    | false => exact hv.elim
    | true =>
      simp only [NEXT] at hv
      suffices hs : ∃ v ups, NEXTR (evf fr x) (bodyOf h) v ups ∧ K (looks fr ⟨dst, .next x true, type, pos, after, guard⟩) (putO dst v none fr) (ups ++ h) by
        obtain ⟨v, ups, h1, h2⟩ := hs
        exact ok0 v none ups trivial ⟨rfl, h1⟩ (decFits_none _) h2
      unfold NEXTR
      split at hv
      · rename_i id hx
        rw [hx]
        simp only
        split at hv
        · rename_i e s p hb
          rw [hb]
          by_cases hp : p < s.length
          · exact ⟨_, _, .inl ⟨hp, rfl, rfl⟩, hv.1 hp⟩
          · exact ⟨_, _, .inr ⟨by omega, rfl, rfl⟩, hv.2 (by omega)⟩
        · exact hv.elim
      · exact hv.elim
  | panic x => exact ⟨[], .pan (evf fr x) [], none, ⟨rfl, hv.1, rfl⟩, hv.2⟩
  | call c =>
    obtain ⟨callee, args, argTypes⟩ := c
    cases callee with
    | value f =>
      cases f with
      | func f =>
        rcases CALLX_or hv with hv | ⟨rd, r, h1, h2⟩
        · obtain ⟨rd, r, h1, h2⟩ := CALLG_R (o := ⟨dst, .call ⟨.value (.func f), args, argTypes⟩, type, pos, after, guard⟩) (fr := fr) (K := K) (KP := KP) hv; exact ⟨rd, r, none, .inl h1, h2⟩
        · refine ⟨rd, r, none, .inr h1, ?_⟩
          cases r with
          | ok v ups => exact ⟨decFits_none _, h2⟩
          | pan v ups => exact h2
      | tmp t =>
        simp only [vcOp, CALLV] at hv
        simp only [EffR, evf, CALLVR]
        split at hv
        · rename_i f first caps hf; rw [hf]; obtain ⟨rd, r, h1, h2⟩ := CALLG_R (o := ⟨dst, .call ⟨.value (.tmp t), args, argTypes⟩, type, pos, after, guard⟩) (fr := fr) (K := K) (KP := KP) hv; exact ⟨rd, r, none, h1, h2⟩
        · rename_i f first caps hf; rw [hf]; obtain ⟨rd, r, h1, h2⟩ := CALLG_R (o := ⟨dst, .call ⟨.value (.tmp t), args, argTypes⟩, type, pos, after, guard⟩) (fr := fr) (K := K) (KP := KP) hv; exact ⟨rd, r, none, h1, h2⟩
        · rename_i id hf; rw [hf]; obtain ⟨rd, r, h1, h2⟩ := CALLG_R (o := ⟨dst, .call ⟨.value (.tmp t), args, argTypes⟩, type, pos, after, guard⟩) (fr := fr) (K := K) (KP := KP) hv; exact ⟨rd, r, none, h1, h2⟩
        · exact hv.elim
      | const v => exact hv.elim
      | global g => exact hv.elim
    | invoke x m =>
      obtain ⟨t, v, f, h1, h2, h3⟩ := hv
      obtain ⟨rd, r, h4, h5⟩ := CALLG_R h3
      exact ⟨rd, r, none, ⟨t, v, f, h1, h2, h4⟩, h5⟩
    | builtin b =>
      cases b with
      | len =>
        obtain ⟨n, h1, h2⟩ := hv
        exact ok0 _ none [] trivial ⟨rfl, n, h1, rfl⟩ (decFits_none _) h2
      | append =>
        have hv := APPX_or hv
        rcases hv with hv | ⟨g1, b, vb, e', zs, g2, g3, ⟨g4, g5, g6, g7⟩ | ⟨id, ver, cs, g4, g5, g6, g7⟩⟩
        rotate_left
        · exact ok0 (.own new 0) none _ trivial (.inr ⟨g1, b, vb, e', zs, g2, g3, .inl ⟨g4, g5, g6, rfl, rfl⟩⟩) (decFits_none _) g7
        · exact ok0 (.own id (ver + 1)) none _ trivial (.inr ⟨g1, b, vb, e', zs, g2, g3, .inr ⟨id, ver, cs, g4, g5, g6, rfl, rfl⟩⟩) (decFits_none _) g7
        simp only [APP] at hv
        obtain ⟨ys, h1, h2, hv⟩ := hv
        have fin : ∀ v ups, APPR (tElem P.prog (argTypes.getD 0 0)) (tSize P.prog (tElem P.prog (argTypes.getD 0 0))) (evf fr (args.getD 0 default)) (evf fr (args.getD 1 default)) new (bodyOf h) v ups → K (looks fr ⟨dst, .call ⟨.builtin .append, args, argTypes⟩, type, pos, after, guard⟩) (putO dst v none fr) (ups ++ h) → ∃ rd r d, EffR P ⟨dst, .call ⟨.builtin .append, args, argTypes⟩, type, pos, after, guard⟩ new (evf fr) (bodyOf h) rd r ∧ effK fr ⟨dst, .call ⟨.builtin .append, args, argTypes⟩, type, pos, after, guard⟩ h K KP rd d r := fun v ups h3 h4 => ok0 v none ups trivial (.inl h3) (decFits_none _) h4
        split at hv
        · rename_i hs
          exact fin _ _ ⟨ys, h1, h2, by rw [hs]; exact ⟨hv.1, rfl, rfl⟩⟩ hv.2
        · rename_i id ver hs
          split at hv
          · rename_i e' xs hb
            exact fin _ _ ⟨ys, h1, h2, by rw [hs]; simp only [hb]; exact ⟨hv.1, hv.2.1, rfl, rfl⟩⟩ hv.2.2
          · exact hv.elim
        · exact hv.elim
      | min =>
        simp only [vcOp, MINK] at hv
        split at hv
        · rename_i k a k' b ha hb
          exact ok0 _ none [] trivial ⟨rfl, k, k', a, b, ha, hb, rfl⟩ (decFits_none _) hv
        · exact hv.elim
      | max =>
        simp only [vcOp, MAXK] at hv
        split at hv
        · rename_i k a k' b ha hb
          exact ok0 _ none [] trivial ⟨rfl, k, k', a, b, ha, hb, rfl⟩ (decFits_none _) hv
        · exact hv.elim
      | delete =>
        obtain ⟨id, e, es, ck, kd, r, h1, h2, h0, h3, h4⟩ := hv
        exact ok0 _ none _ trivial ⟨rfl, id, e, es, ck, kd, r, h1, h2, h0, h3, rfl⟩ (decFits_none _) h4
      | _ => exact hv.elim
  | _ => exact hv.elim
end Go.Vc
