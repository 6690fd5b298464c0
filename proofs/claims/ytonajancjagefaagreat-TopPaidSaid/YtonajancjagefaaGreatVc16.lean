/- A part of the proof: general laws of a reading of the model by abstract data, or contracts of the functions that the law calls. -/
import Derived.Test.YtonajancjagefaaGreatVc14
set_option maxRecDepth 100000
namespace Go.Vc
open Go
def loadF (agg : Bool) (size : Nat) (x : AV) (B : BF) : Option AV :=
  match x with
  | .d (.cp cs) => match agg with | true => if size ≤ cs.length then some (.d (.agg (cs.take size))) else none | false => match cs.head? with | some y => some (.d y) | none => none
  | .ptr id ver row off => match B id ver with
    | some (_, .box cs) => if row = 0 then (match agg with | true => if off + size ≤ cs.length then some (mkAgg ((cs.drop off).take size)) else none | false => cs[off]?) else none
    | some (_, .lst xs) => match xs[row]? with
      | some x => (match agg with | true => if off + size ≤ x.cells.length then some (.d (.agg ((x.cells.drop off).take size))) else none | false => match x.cells[off]? with | some y => some (.d y) | none => none)
      | none => none
    | _ => none
  | _ => none
theorem loadF_R {agg : Bool} {size : Nat} {x v : AV} {B : BF} (h : loadF agg size x B = some v) : LOADR agg size x B v := by
  unfold loadF at h
  unfold LOADR
  split at h
  · cases agg with
    | true =>
      simp only at h ⊢
      split at h
      · injection h with h; exact ⟨by assumption, h.symm⟩
      · cases h
    | false =>
      simp only at h ⊢
      split at h
      · injection h with h; rename_i y hy; exact ⟨y, hy, h.symm⟩
      · cases h
  · simp only
    split at h
    · rename_i e cs hb
      rw [hb]
      simp only
      split at h
      · refine ⟨by assumption, ?_⟩
        cases agg with
        | true =>
          simp only at h ⊢
          split at h
          · injection h with h; exact ⟨by assumption, h.symm⟩
          · cases h
        | false => exact h
      · cases h
    · rename_i e xs hb
      rw [hb]
      simp only
      split at h
      · rename_i y hy
        refine ⟨y, hy, ?_⟩
        cases agg with
        | true =>
          simp only at h ⊢
          split at h
          · injection h with h; exact ⟨by assumption, h.symm⟩
          · cases h
        | false =>
          simp only at h ⊢
          split at h
          · injection h with h; rename_i z hz; exact ⟨z, hz, h.symm⟩
          · cases h
      · cases h
    · cases h
  · cases h
def storeF (size : Nat) (p v : AV) (B : BF) : Option Heap :=
  if v.cells.length = size then
  match p with
  | .ptr id ver row off => match B id ver with
    | some (e, .box cs) => if row = 0 ∧ off + size ≤ cs.length then some [(id, some ⟨ver, e, .box (splice cs off v.cells)⟩)] else none
    | some (e, .lst xs) => match v with
      | .d d => match xs[row]? with
        | some x => if off + size ≤ x.cells.length then some [(id, some ⟨ver, e, .lst (xs.set row (rowSet x off d.cells))⟩)] else none
        | none => none
      | _ => none
    | _ => none
  | _ => none
  else none
theorem storeF_R {size : Nat} {p v : AV} {B : BF} {ups : Heap} (h : storeF size p v B = some ups) : STORER size p v B ups := by
  unfold storeF at h
  unfold STORER
  split at h
  · refine ⟨by assumption, ?_⟩
    split at h
    · simp only
      split at h
      · rename_i e cs hb
        rw [hb]
        split at h
        · rename_i hc; injection h with h; exact ⟨hc.1, hc.2, h.symm⟩
        · cases h
      · rename_i e xs hb
        rw [hb]
        split at h
        · split at h
          · rename_i d x hx
            split at h
            · injection h with h; exact ⟨_, x, rfl, hx, by assumption, h.symm⟩
            · cases h
          · cases h
        · cases h
      · cases h
    · cases h
  · cases h
def faddrF (off : Nat) (x : AV) (B : BF) : Option AV := match x with
  | .d (.cp cs) => some (.d (.cp (cs.drop off)))
  | .ptr id ver row o => if (B id ver).isSome = true then some (.ptr id ver row (o + off)) else none
  | _ => none
theorem faddrF_R {off : Nat} {x v : AV} {B : BF} (h : faddrF off x B = some v) : FADDRR off x B v := by
  unfold faddrF at h
  unfold FADDRR
  split at h
  · injection h with h; exact h.symm
  · split at h
    · injection h with h; exact ⟨by assumption, h.symm⟩
    · cases h
  · cases h
def iaddrF (esz : Nat) (el : TypeId) (x i : AV) (B : BF) : Option AV := match x, i with
  | .d (.list xs), .d (.num _ n) => if 0 ≤ n then (match xs[n.toNat]? with | some e => if e.cells.length = esz then some (.d (.cp e.cells)) else none | none => none) else none
  | .own id ver, .d (.num _ n) => match B id ver with
    | some (e, .lst xs) => if e = el ∧ 0 ≤ n ∧ n < (xs.length : Int) then some (.ptr id ver n.toNat 0) else none
    | some (e, .box cs) => if e = el ∧ esz = 1 ∧ 0 ≤ n ∧ n < (cs.length : Int) then some (.ptr id ver 0 n.toNat) else none
    | _ => none
  | _, _ => none
theorem iaddrF_R {esz : Nat} {el : TypeId} {x i v : AV} {B : BF} (h : iaddrF esz el x i B = some v) : IADDRR esz el x i B v := by
  unfold iaddrF at h
  unfold IADDRR
  split at h
  · split at h
    · split at h
      · rename_i e he
        split at h
        · injection h with h; exact ⟨by assumption, e, he, by assumption, h.symm⟩
        · cases h
      · cases h
    · cases h
  · simp only
    split at h
    · rename_i e xs hb
      rw [hb]
      split at h
      · rename_i hc; injection h with h; exact ⟨hc.1, hc.2.1, hc.2.2, h.symm⟩
      · cases h
    · rename_i e cs hb
      rw [hb]
      split at h
      · rename_i hc; injection h with h; exact ⟨hc.1, hc.2.1, hc.2.2.1, hc.2.2.2, h.symm⟩
      · cases h
    · cases h
  · cases h
def aaddrF (esz len : Nat) (x i : AV) (B : BF) : Option AV := match i with
  | .d (.num _ n) => if 0 ≤ n ∧ n < (len : Int) then faddrF (n.toNat * esz) x B else none
  | _ => none
theorem aaddrF_R {esz len : Nat} {x i v : AV} {B : BF} (h : aaddrF esz len x i B = some v) : AADDRR esz len x i B v := by
  unfold aaddrF at h
  unfold AADDRR
  split at h
  · split at h
    · rename_i hc; exact ⟨hc.1, hc.2, faddrF_R h⟩
    · cases h
  · cases h
def partF (agg : Bool) (size off : Nat) (x : AV) : Option AV := match x with
  | .d (.agg cs) => match agg with | true => if off + size ≤ cs.length then some (.d (.agg ((cs.drop off).take size))) else none | false => match cs[off]? with | some y => some (.d y) | none => none
  | .agg vs => match agg with | true => if off + size ≤ vs.length then some (mkAgg ((vs.drop off).take size)) else none | false => vs[off]?
  | _ => none
theorem partF_R {agg : Bool} {size off : Nat} {x v : AV} (h : partF agg size off x = some v) : PARTR agg size off x v := by
  unfold partF at h
  unfold PARTR
  split at h
  · cases agg with
    | true =>
      simp only at h ⊢
      split at h
      · injection h with h; exact ⟨by assumption, h.symm⟩
      · cases h
    | false =>
      simp only at h ⊢
      split at h
      · rename_i y hy; injection h with h; exact ⟨y, hy, h.symm⟩
      · cases h
  · cases agg with
    | true =>
      simp only at h ⊢
      split at h
      · injection h with h; exact ⟨by assumption, h.symm⟩
      · cases h
    | false => exact h
  · cases h
def aidxF (agg : Bool) (size len : Nat) (x i : AV) : Option AV := match i with
  | .d (.num _ n) => if 0 ≤ n ∧ n < (len : Int) then partF agg size (n.toNat * size) x else none
  | _ => none
theorem aidxF_R {agg : Bool} {size len : Nat} {x i v : AV} (h : aidxF agg size len x i = some v) : AIDXR agg size len x i v := by
  unfold aidxF at h
  unfold AIDXR
  split at h
  · split at h
    · rename_i hc; exact ⟨hc.1, hc.2, partF_R h⟩
    · cases h
  · cases h
def sidxF (x i : AV) : Option AV := match x, i with
  | .d (.str s), .d (.num _ n) => if 0 ≤ n then (match s[n.toNat]? with | some c => some (.d (.num .u8 c.toNat)) | none => none) else none
  | _, _ => none
theorem sidxF_R {x i v : AV} (h : sidxF x i = some v) : SIDXR x i v := by
  unfold sidxF at h
  unfold SIDXR
  split at h
  · split at h
    · split at h
      · rename_i c hc; injection h with h; exact ⟨by assumption, c, hc, h.symm⟩
      · cases h
    · cases h
  · cases h
def sliceF (tag : Nat) (x : AV) (lo hi mx : Option AV) : Option AV := match x, mx with
  | .d (.str s), none => match bnd lo 0, bnd hi s.length with
    | some l, some u => if tag = 0 ∧ 0 ≤ l ∧ l ≤ u ∧ u ≤ s.length then some (.d (.str ((s.take u.toNat).drop l.toNat))) else none
    | _, _ => none
  | .d (.list s), none => match bnd lo 0, bnd hi s.length with
    | some l, some u => if tag ≠ 0 ∧ (s.all fun z => Nat.beq (z.cells.length + 1) tag) = true ∧ 0 ≤ l ∧ l ≤ u ∧ u ≤ s.length then some (.d (.list ((s.take u.toNat).drop l.toNat))) else none
    | _, _ => none
  | .d (.list _), some (.d (.num _ 0)) => if tag ≠ 0 ∧ bnd lo 0 = some 0 ∧ bnd hi 1 = some 0 then some .zc else none
  | .zc, some (.d (.num _ 0)) => if tag ≠ 0 ∧ bnd lo 0 = some 0 ∧ bnd hi 1 = some 0 then some .zc else none
  | _, _ => none
theorem sliceF_R {tag : Nat} {x v : AV} {lo hi mx : Option AV} (h : sliceF tag x lo hi mx = some v) : SLICER tag x lo hi mx v := by
  unfold sliceF at h
  unfold SLICER
  split at h
  · split at h
    · rename_i l u h1 h2
      split at h
      · rename_i hc; injection h with h; exact ⟨hc.1, l, u, h1, h2, hc.2.1, hc.2.2.1, hc.2.2.2, h.symm⟩
      · cases h
    · cases h
  · split at h
    · rename_i l u h1 h2
      split at h
      · rename_i hc
        injection h with h
        exact ⟨hc.1, fun z hz => Nat.eq_of_beq_eq_true (List.all_eq_true.1 hc.2.1 z hz), l, u, h1, h2, hc.2.2.1, hc.2.2.2.1, hc.2.2.2.2, h.symm⟩
      · cases h
    · cases h
  · split at h
    · rename_i hc; injection h with h; exact ⟨hc.1, hc.2.1, hc.2.2, h.symm⟩
    · cases h
  · split at h
    · rename_i hc; injection h with h; exact ⟨hc.1, hc.2.1, hc.2.2, h.symm⟩
    · cases h
  · cases h
def appF (e : TypeId) (esz : Nat) (s x : AV) (new : Nat) (B : BF) : Option (AV × Heap) :=
  match toD B x with
  | some (.list ys) => if (ys.all fun y => Nat.beq y.cells.length esz) = true then
    (match s with
    | .zc => if ys.length ≤ 1000000 then some (.own new 0, [(new, some ⟨0, e, .lst ys⟩)]) else none
    | .own id ver => match B id ver with
      | some (e', .lst xs) => if e' = e ∧ xs.length + ys.length ≤ 1000000 then some (.own id (ver + 1), [(id, some ⟨ver + 1, e, .lst (xs ++ ys)⟩)]) else none
      | _ => none
    | _ => none) else none
  | _ => none
theorem appF_R {e : TypeId} {esz : Nat} {s x v : AV} {new : Nat} {B : BF} {ups : Heap} (h : appF e esz s x new B = some (v, ups)) : APPR e esz s x new B v ups := by
  unfold appF at h
  unfold APPR
  split at h
  · rename_i ys hy
    split at h
    · rename_i hall
      refine ⟨ys, hy, fun y hm => Nat.eq_of_beq_eq_true (List.all_eq_true.1 hall y hm), ?_⟩
      split at h
      · split at h
        · injection h with h; injection h with h1 h2; exact ⟨by assumption, h1.symm, h2.symm⟩
        · cases h
      · simp only
        split at h
        · rename_i e' xs hb
          rw [hb]
          split at h
          · rename_i hc; injection h with h; injection h with h1 h2; exact ⟨hc.1, hc.2, h1.symm, h2.symm⟩
          · cases h
        · cases h
      · cases h
    · cases h
  · cases h
def makeBF (zs : List AV) (e : TypeId) (n : AV) (new : Nat) : Option (AV × Heap) := match zs with
  | [.zc] => match n with
    | .d (.num .i64 n) => if 0 ≤ n ∧ n ≤ 1000000 then some (.own new 0, [(new, some ⟨0, e, .box (List.replicate n.toNat .zc)⟩)]) else none
    | _ => none
  | _ => none
theorem makeBF_R {zs : List AV} {e : TypeId} {n v : AV} {new : Nat} {ups : Heap} (h : makeBF zs e n new = some (v, ups)) : MAKEBR zs e n new v ups := by
  unfold makeBF at h
  unfold MAKEBR
  split at h
  · refine ⟨rfl, ?_⟩
    split at h
    · split at h
      · rename_i hc; injection h with h; injection h with h1 h2; exact ⟨hc.1, hc.2, h1.symm, h2.symm⟩
      · cases h
    · cases h
  · cases h
def makeF (e : TypeId) (zero : D) (n : AV) (new : Nat) : Option (AV × Heap) := match n with
  | .d (.num .i64 n) => if 0 ≤ n ∧ n ≤ 1000000 then some (.own new 0, [(new, some ⟨0, e, .lst (List.replicate n.toNat zero)⟩)]) else none
  | _ => none
theorem makeF_R {e : TypeId} {zero : D} {n v : AV} {new : Nat} {ups : Heap} (h : makeF e zero n new = some (v, ups)) : MAKER e zero n new v ups := by
  unfold makeF at h
  unfold MAKER
  split at h
  · split at h
    · rename_i hc; injection h with h; injection h with h1 h2; exact ⟨hc.1, hc.2, h1.symm, h2.symm⟩
    · cases h
  · cases h
def tassF (t : TypeId) (zero x : AV) : Option AV := match ifaceOf x with
  | some (t', y) => if t' = t then some (.tup [y, .d (.bool true)]) else some (.tup [zero, .d (.bool false)])
  | none => if isNil x = true then some (.tup [zero, .d (.bool false)]) else none
theorem tassF_R {t : TypeId} {zero x v : AV} (h : tassF t zero x = some v) : TASSR t zero x v := by
  unfold tassF at h
  unfold TASSR
  split at h
  · rename_i t' y hx
    split at h
    · rename_i ht; subst ht; injection h with h; exact .inl ⟨y, hx, h.symm⟩
    · injection h with h; exact .inr (.inl ⟨t', y, hx, by assumption, h.symm⟩)
  · split at h
    · injection h with h; exact .inr (.inr ⟨by assumption, h.symm⟩)
    · cases h
def inilF (nq : Bool) (x : AV) : Option AV := match ifaceOf x with
  | some _ => some (.d (.bool nq))
  | none => if isNil x = true then some (.d (.bool !nq)) else none
theorem inilF_R {nq : Bool} {x v : AV} (h : inilF nq x = some v) : INILR nq x v := by
  unfold inilF at h
  unfold INILR
  split at h
  · rename_i p hp; injection h with h; exact .inl ⟨p, hp, h.symm⟩
  · split at h
    · injection h with h; exact .inr ⟨by assumption, h.symm⟩
    · cases h
def convsF (x : AV) (B : BF) : Option AV := match toD B x with
  | some (.list xs) => match bytesD xs with
    | some bs => if xs.length ≤ 1000000 then some (.d (.str bs)) else none
    | none => none
  | _ => none
theorem convsF_R {x v : AV} {B : BF} (h : convsF x B = some v) : CONVSR x B v := by
  unfold convsF at h
  unfold CONVSR
  split at h
  · rename_i xs hx
    split at h
    · rename_i bs hb
      split at h
      · injection h with h; exact ⟨xs, bs, hx, hb, by assumption, h.symm⟩
      · cases h
    · cases h
  · cases h
def lookupF (nk : Nat) (zero : D) (ok : Bool) (m k : AV) (B : BF) : Option AV := match mapAt B m, k with
  | some (_, _, es, _), .d kd => if keyOK nk kd = true then (match mfind kd es 0 with
    | some r => some (match ok with | true => .tup [.d (match r with | some (_, x) => x.v | none => zero), .d (.bool r.isSome)] | false => .d (match r with | some (_, x) => x.v | none => zero))
    | none => none) else none
  | _, _ => none
theorem lookupF_R {nk : Nat} {zero : D} {ok : Bool} {m k v : AV} {B : BF} (h : lookupF nk zero ok m k B = some v) : LOOKUPR nk zero ok m k B v := by
  unfold lookupF at h
  split at h
  · rename_i id e es ck kd hm
    split at h
    · split at h
      · rename_i r hr; injection h with h; exact ⟨_, _, es, _, kd, r, hm, rfl, by assumption, hr, h.symm⟩
      · cases h
    · cases h
  · cases h
def mupdF (nk : Nat) (m k x : AV) (B : BF) : Option Heap := match mapAt B m, k, x with
  | some (id, e, es, ck), .d kd, .d vd => if keyOK nk kd = true then (match mfind kd es 0 with
    | some r => some [(id, some ⟨0, e, .mp (mput kd vd es ck r).1 (mput kd vd es ck r).2⟩)]
    | none => none) else none
  | _, _, _ => none
theorem mupdF_R {nk : Nat} {m k x : AV} {B : BF} {ups : Heap} (h : mupdF nk m k x B = some ups) : MUPDR nk m k x B ups := by
  unfold mupdF at h
  split at h
  · rename_i id e es ck kd vd hm
    split at h
    · split at h
      · rename_i r hr; injection h with h; exact ⟨id, e, es, ck, kd, vd, r, hm, rfl, by assumption, rfl, hr, h.symm⟩
      · cases h
    · cases h
  · cases h
def mentryF (nk : Nat) (zero : D) (m k : AV) (B : BF) : Option (AV × Heap) := match mapAt B m, k with
  | some (id, e, es, ck), .d kd => if keyOK nk kd = true then (match mfind kd es 0 with
    | some r => some (.tup [.d (match r with | some (_, x) => x.v | none => zero), .d (.num .i64 (match r with | some (_, x) => x.born | none => ck))],
      [(id, some ⟨0, e, .mp (mput kd (match r with | some (_, x) => x.v | none => zero) es ck r).1 (mput kd (match r with | some (_, x) => x.v | none => zero) es ck r).2⟩)])
    | none => none) else none
  | _, _ => none
theorem mentryF_R {nk : Nat} {zero : D} {m k v : AV} {B : BF} {ups : Heap} (h : mentryF nk zero m k B = some (v, ups)) : MENTRYR nk zero m k B v ups := by
  unfold mentryF at h
  split at h
  · rename_i id e es ck kd hm
    split at h
    · split at h
      · rename_i r hr
        injection h with h
        injection h with h1 h2
        exact ⟨id, e, es, ck, kd, r, hm, rfl, by assumption, hr, h1.symm, h2.symm⟩
      · cases h
    · cases h
  · cases h
def mstoreF (m s x : AV) (B : BF) : Option Heap := match mapAt B m, s, x with
  | some (id, e, es, ck), .d (.num .i64 n), .d vd => match mstore n vd es with
    | some es' => some [(id, some ⟨0, e, .mp es' ck⟩)]
    | none => none
  | _, _, _ => none
theorem mstoreF_R {m s x : AV} {B : BF} {ups : Heap} (h : mstoreF m s x B = some ups) : MSTORER m s x B ups := by
  unfold mstoreF at h
  split at h
  · rename_i id e es ck n vd hm
    split at h
    · rename_i es' hr; injection h with h; exact ⟨id, e, es, ck, n, vd, es', hm, rfl, rfl, hr, h.symm⟩
    · cases h
  · cases h
def mdelF (nk : Nat) (m k : AV) (B : BF) : Option Heap := match mapAt B m, k with
  | some (id, e, es, ck), .d kd => if keyOK nk kd = true then (match mfind kd es 0 with
    | some r => some [(id, some ⟨0, e, .mp (match r with | some (i, _) => es.eraseIdx i | none => es) ck⟩)]
    | none => none) else none
  | _, _ => none
theorem mdelF_R {nk : Nat} {m k : AV} {B : BF} {ups : Heap} (h : mdelF nk m k B = some ups) : MDELR nk m k B ups := by
  unfold mdelF at h
  split at h
  · rename_i id e es ck kd hm
    split at h
    · split at h
      · rename_i r hr; injection h with h; exact ⟨id, e, es, ck, kd, r, hm, rfl, by assumption, hr, h.symm⟩
      · cases h
    · cases h
  · cases h
def nextF (it : AV) (B : BF) : Option (AV × Heap) := match it with
  | .iter id => match B id 0 with
    | some (e, .it s p) => if p < s.length then some (.tup [.d (.bool true), .d (.num .i64 p), .d (.num .i32 (Utf8.decode ⟨s.toArray⟩ p).1)], [(id, some ⟨0, e, .it s (p + (Utf8.decode ⟨s.toArray⟩ p).2)⟩)]) else some (.tup [.d (.bool false)], [])
    | _ => none
  | _ => none
theorem nextF_R {it v : AV} {B : BF} {ups : Heap} (h : nextF it B = some (v, ups)) : NEXTR it B v ups := by
  unfold nextF at h
  unfold NEXTR
  split at h
  · simp only
    split at h
    · rename_i e s p hb
      rw [hb]
      split at h
      · injection h with h; injection h with h1 h2; exact .inl ⟨by assumption, h1.symm, h2.symm⟩
      · injection h with h; injection h with h1 h2; exact .inr ⟨by omega, h1.symm, h2.symm⟩
    · cases h
  · cases h
end Go.Vc

namespace Go.Vc
open Go
def one1 (v : Option AV) : Option (AV × Heap) := match v with | some v => some (v, []) | none => none
theorem one1_eq {x : Option AV} {v : AV} {ups : Heap} (h : one1 x = some (v, ups)) : x = some v ∧ ups = [] := by
  cases x with
  | none => cases h
  | some y => simp only [one1, Option.some.injEq, Prod.mk.injEq] at h; exact ⟨by rw [h.1], h.2.symm⟩
def unit1 (v : Option Heap) : Option (AV × Heap) := match v with | some h => some (.any, h) | none => none
theorem unit1_eq {x : Option Heap} {v : AV} {ups : Heap} (h : unit1 x = some (v, ups)) : v = .any ∧ x = some ups := by
  cases x with
  | none => cases h
  | some y => simp only [unit1, Option.some.injEq, Prod.mk.injEq] at h; exact ⟨h.1.symm, by rw [h.2]⟩
def mksF (e : TypeId) (esz : Nat) (parts : List AV) (new : Nat) (B : BF) : Option (AV × Heap) := match elemsD B parts with
  | some (xs, ks) => if (xs.all fun x => Nat.beq x.cells.length esz) = true then some (.own new 0, (new, some ⟨0, e, .lst xs⟩) :: kills ks) else none
  | none => none
def binF (p : Program) (op : BinOp) (t : TypeId) (x y : AV) : Option AV := match tIface p t with
  | true => if isNil y = true then (match op with | .eql => inilF false x | .neq => inilF true x | _ => none) else none
  | false => match x, y with
    | .d a, .d b => match binD (tTag p t) op a b with | some r => some (.d r) | none => none
    | x, y => if nilCmp (tTag p t) op x y = true then some (nilV op x) else none
def pickF (c a b : AV) : Option AV := match c with | .d (.bool true) => some a | .d (.bool false) => some b | _ => none
def unF (u : UnOp) (x : AV) : Option AV := match u with
  | .not => match x with | .d (.bool b) => some (.d (.bool !b)) | _ => none
  | .neg => match x with | .d (.num k n) => some (.d (.num k (k.wrap (0 - n)))) | _ => none
  | _ => none
def convF (p : Program) (s d : TypeId) (x : AV) (B : BF) : Option AV := match tConv p s d with
  | some (some ik) => match x with | .d (.num _ n) => some (.d (.num ik (ik.wrap n))) | _ => none
  | some none => convsF x B
  | none => none
def minF (x y : AV) : Option AV := match x, y with | .d (.num k a), .d (.num _ b) => some (.d (.num k (min a b))) | _, _ => none
def maxF (x y : AV) : Option AV := match x, y with | .d (.num k a), .d (.num _ b) => some (.d (.num k (max a b))) | _, _ => none
def lenF (s : Bool) (B : BF) (x : AV) : Option AV := match lenA s B x with | some n => some (.d (.num .i64 n)) | none => none
def extF (t : AV) (i : Nat) : Option AV := match t with | .tup vs => vs[i]? | _ => none
def buildF (fs : List (Nat × Nat)) (zero : List AV) (parts : List (Nat × AV)) : Option AV := match fillA fs zero parts with | some cs => some (mkAgg cs) | none => none
def evOp0 (p : Program) (op : Op) (new : Nat) (ρ : Operand → AV) (B : BF) : Option (AV × Heap) :=
  match op with
  | .move x => some (ρ x, [])
  | .assign x => some (ρ x, [])
  | .pick c a b => one1 (pickF (ρ c) (ρ a) (ρ b))
  | .binOp op t x y _ => one1 (binF p op t (ρ x) (ρ y))
  | .unOp u _ x => one1 (unF u (ρ x))
  | .load t x => one1 (loadF (tAgg p t) (tSize p t) (ρ x) B)
  | .store t x y => unit1 (storeF (tSize p t) (ρ x) (ρ y) B)
  | .fieldAddr s x f => one1 (faddrF ((tFields p s).getD f (0, 0)).1 (ρ x) B)
  | .nilCheck x => one1 (faddrF 0 (ρ x) B)
  | .indexAddr t x i => match tArr p t with
    | some n => one1 (aaddrF (tSize p (tElem p t)) n (ρ x) (ρ i) B)
    | none => one1 (iaddrF (tSize p (tElem p t)) (tElem p t) (ρ x) (ρ i) B)
  | .index t x i => match tArr p t with
    | some n => one1 (aidxF (tAgg p (tElem p t)) (tSize p (tElem p t)) n (ρ x) (ρ i))
    | none => one1 (sidxF (ρ x) (ρ i))
  | .field t x f => one1 (partF (tAgg p (tFieldTy p t f)) (tSize p (tFieldTy p t f)) ((tFields p t).getD f (0, 0)).1 (ρ x))
  | .slice t x lo hi mx => one1 (sliceF (tSlice p t) (ρ x) (lo.map ρ) (hi.map ρ) (mx.map ρ))
  | .box e x => some (.ptr new 0 0 0, [(new, some ⟨0, e, .box (ρ x).cells⟩)])
  | .alloc e => some (.ptr new 0 0 0, [(new, some ⟨0, e, .box (tZero p e)⟩)])
  | .build t parts => one1 (buildF (tFields p t) (tZero p t) (parts.toList.map fun q => (q.1, ρ q.2)))
  | .buildSlice t _ parts => mksF (tElem p t) (tSize p (tElem p t)) (parts.toList.map fun q => ρ q.2) new B
  | .makeSlice t n _ => match makeBF (tZero p (tElem p t)) (tElem p t) (ρ n) new with | some x => some x | none => makeF (tElem p t) (tZeroD p (tElem p t)) (ρ n) new
  | .extract t i => one1 (extF (ρ t) i)
  | .makeFunc fn first caps => match fn with | .func f => some (.fn f (first.toList.map ρ) (caps.toList.map ρ), []) | _ => none
  | .makeInterface t x => some (.iface t (ρ x), [])
  | .convert s d x => one1 (convF p s d (ρ x) B)
  | .typeAssert x _ t ok => match ok with | true => one1 (tassF t (zeroA p t) (ρ x)) | false => none
  | .makeMap _ r => match r with | none => some (.mapv new, [(new, some ⟨0, 0, .mp [] 0⟩)]) | some _ => none
  | .lookup t m x ok => one1 (lookupF (tTag p (tMapKey p t)) (toD0 (zeroA p (tMapElem p t))) ok (ρ m) (ρ x) B)
  | .mapUpdate t m x y => unit1 (mupdF (tTag p (tMapKey p t)) (ρ m) (ρ x) (ρ y) B)
  | .mapEntry t m x => mentryF (tTag p (tMapKey p t)) (toD0 (zeroA p (tMapElem p t))) (ρ m) (ρ x) B
  | .entryStore _ m s y => unit1 (mstoreF (ρ m) (ρ s) (ρ y) B)
  | .range _ x => match ρ x with | .d (.str s) => some (.iter new, [(new, some ⟨0, 0, .it s 0⟩)]) | _ => none
  | .next x str => match str with | true => nextF (ρ x) B | false => none
  | .call c => match c.callee with
    | .builtin b => match b with
      | .len => one1 (lenF (tIsStr p (c.argTypes.getD 0 0)) B (ρ (c.args.getD 0 default)))
      | .append => appF (tElem p (c.argTypes.getD 0 0)) (tSize p (tElem p (c.argTypes.getD 0 0))) (ρ (c.args.getD 0 default)) (ρ (c.args.getD 1 default)) new B
      | .min => one1 (minF (ρ (c.args.getD 0 default)) (ρ (c.args.getD 1 default)))
      | .max => one1 (maxF (ρ (c.args.getD 0 default)) (ρ (c.args.getD 1 default)))
      | .delete => unit1 (mdelF (tTag p (tMapKey p (c.argTypes.getD 0 0))) (ρ (c.args.getD 0 default)) (ρ (c.args.getD 1 default)) B)
      | _ => none
    | _ => none
  | _ => none
theorem evOp0_R {C : Ctx} {op : Op} {new : Nat} {ρ : Operand → AV} {B : BF} {v : AV} {ups : Heap} (h : evOp0 C.prog op new ρ B = some (v, ups)) : EffR0 C op new ρ B v ups := by
  have pr : ∀ {a : AV} {b : Heap}, (some (a, b) : Option (AV × Heap)) = some (v, ups) → v = a ∧ ups = b := fun h => by
    injection h with h; injection h with h1 h2; exact ⟨h1.symm, h2.symm⟩
  unfold evOp0 at h
  unfold EffR0
  cases op <;> simp only at h ⊢ <;> try (cases h; done)
  case move x => exact pr h
  case assign x => exact pr h
  case pick c a b =>
    obtain ⟨h1, h2⟩ := one1_eq h
    refine ⟨h2, ?_⟩
    unfold pickF at h1
    split at h1
    · rename_i hc; injection h1 with h1; exact .inl ⟨hc, h1.symm⟩
    · rename_i hc; injection h1 with h1; exact .inr ⟨hc, h1.symm⟩
    · cases h1
  case binOp op t x y t' =>
    obtain ⟨h1, h2⟩ := one1_eq h
    refine ⟨h2, ?_⟩
    unfold binF at h1
    cases ht : tIface C.prog t <;> rw [ht] at h1 <;> simp only at h1 ⊢
    · split at h1
      · rename_i a b ha hb
        split at h1
        · rename_i r hr; injection h1 with h1; exact .inl ⟨a, b, r, ha, hb, hr, h1.symm⟩
        · cases h1
      · split at h1
        · injection h1 with h1; exact .inr ⟨by assumption, h1.symm⟩
        · cases h1
    · split at h1
      · refine ⟨by assumption, ?_⟩
        split at h1
        · exact .inl ⟨rfl, inilF_R h1⟩
        · exact .inr ⟨rfl, inilF_R h1⟩
        · cases h1
      · cases h1
  case unOp u t x =>
    obtain ⟨h1, h2⟩ := one1_eq h
    refine ⟨h2, ?_⟩
    unfold unF at h1
    cases u <;> simp only at h1 ⊢ <;> try (cases h1; done)
    · split at h1
      · rename_i k m hb; injection h1 with h1; exact ⟨k, m, hb, h1.symm⟩
      · cases h1
    · split at h1
      · rename_i b hb; injection h1 with h1; exact ⟨b, hb, h1.symm⟩
      · cases h1
  case load t x => obtain ⟨h1, h2⟩ := one1_eq h; exact ⟨h2, loadF_R h1⟩
  case store t x y => obtain ⟨h1, h2⟩ := unit1_eq h; exact ⟨h1, storeF_R h2⟩
  case fieldAddr s x f => obtain ⟨h1, h2⟩ := one1_eq h; exact ⟨h2, faddrF_R h1⟩
  case nilCheck x => obtain ⟨h1, h2⟩ := one1_eq h; exact ⟨h2, faddrF_R h1⟩
  case indexAddr t x i =>
    cases ht : tArr C.prog t <;> rw [ht] at h <;> simp only at h ⊢
    · obtain ⟨h1, h2⟩ := one1_eq h; exact ⟨h2, iaddrF_R h1⟩
    · obtain ⟨h1, h2⟩ := one1_eq h; exact ⟨h2, aaddrF_R h1⟩
  case index t x i =>
    cases ht : tArr C.prog t <;> rw [ht] at h <;> simp only at h ⊢
    · obtain ⟨h1, h2⟩ := one1_eq h; exact ⟨h2, sidxF_R h1⟩
    · obtain ⟨h1, h2⟩ := one1_eq h; exact ⟨h2, aidxF_R h1⟩
  case field t x f => obtain ⟨h1, h2⟩ := one1_eq h; exact ⟨h2, partF_R h1⟩
  case slice t x lo hi mx => obtain ⟨h1, h2⟩ := one1_eq h; exact .inl ⟨h2, sliceF_R h1⟩
  case box e x => exact pr h
  case alloc e => exact .inl (pr h)
  case build t parts =>
    obtain ⟨h1, h2⟩ := one1_eq h
    refine ⟨h2, ?_⟩
    unfold buildF at h1
    split at h1
    · rename_i cs hc; injection h1 with h1; exact ⟨cs, hc, h1.symm⟩
    · cases h1
  case buildSlice t len parts =>
    unfold mksF at h
    split at h
    · rename_i xs ks hx
      split at h
      · rename_i hall
        obtain ⟨h1, h2⟩ := pr h
        exact .inl ⟨xs, ks, hx, fun y hm => Nat.eq_of_beq_eq_true (List.all_eq_true.1 hall y hm), h1, h2⟩
      · cases h
    · cases h
  case makeSlice t n c =>
    cases hb : makeBF (tZero C.prog (tElem C.prog t)) (tElem C.prog t) (ρ n) new with
    | some x =>
      rw [hb] at h
      simp only at h
      injection h with h
      subst h
      exact .inr (makeBF_R hb)
    | none =>
      rw [hb] at h
      exact .inl (makeF_R h)
  case extract t i =>
    obtain ⟨h1, h2⟩ := one1_eq h
    refine ⟨h2, ?_⟩
    unfold extF at h1
    split at h1
    · rename_i vs hv; exact ⟨vs, hv, h1⟩
    · cases h1
  case makeFunc fn first caps =>
    cases fn <;> simp only at h <;> try (cases h; done)
    obtain ⟨h1, h2⟩ := pr h
    exact ⟨h2, _, rfl, h1⟩
  case makeInterface t x => obtain ⟨h1, h2⟩ := pr h; exact ⟨h2, h1⟩
  case convert s d x =>
    obtain ⟨h1, h2⟩ := one1_eq h
    refine .inl ⟨h2, ?_⟩
    unfold convF at h1
    cases hc : tConv C.prog s d with
    | none => rw [hc] at h1; cases h1
    | some c =>
      rw [hc] at h1
      cases c with
      | none => exact convsF_R h1
      | some ik =>
        simp only at h1 ⊢
        split at h1
        · rename_i k m hx; injection h1 with h1; exact ⟨k, m, hx, h1.symm⟩
        · cases h1
  case typeAssert x xt t ok =>
    cases ok <;> simp only at h <;> try (cases h; done)
    obtain ⟨h1, h2⟩ := one1_eq h
    exact ⟨h2, rfl, tassF_R h1⟩
  case makeMap t r =>
    cases r <;> simp only at h <;> try (cases h; done)
    obtain ⟨h1, h2⟩ := pr h
    exact ⟨rfl, h1, h2⟩
  case lookup t m x ok => obtain ⟨h1, h2⟩ := one1_eq h; exact ⟨h2, lookupF_R h1⟩
  case mapUpdate t m x y => obtain ⟨h1, h2⟩ := unit1_eq h; exact ⟨h1, mupdF_R h2⟩
  case mapEntry t m x => exact mentryF_R h
  case entryStore t m s y => obtain ⟨h1, h2⟩ := unit1_eq h; exact ⟨h1, mstoreF_R h2⟩
  case range t x =>
    split at h
    · rename_i s hs; obtain ⟨h1, h2⟩ := pr h; exact ⟨s, hs, h1, h2⟩
    · cases h
  case next x s =>
    cases s <;> simp only at h <;> try (cases h; done)
    exact ⟨rfl, nextF_R h⟩
  case call c =>
    obtain ⟨callee, args, argTypes⟩ := c
    cases callee with
    | builtin b =>
      cases b <;> simp only at h ⊢ <;> try (cases h; done)
      case len =>
        obtain ⟨h1, h2⟩ := one1_eq h
        refine ⟨h2, ?_⟩
        unfold lenF at h1
        split at h1
        · rename_i m hm; injection h1 with h1; exact ⟨m, hm, h1.symm⟩
        · cases h1
      case append => exact .inl (appF_R h)
      case min =>
        obtain ⟨h1, h2⟩ := one1_eq h
        refine ⟨h2, ?_⟩
        unfold minF at h1
        split at h1
        · rename_i k a k' b ha hb; injection h1 with h1; exact ⟨k, k', a, b, ha, hb, h1.symm⟩
        · cases h1
      case max =>
        obtain ⟨h1, h2⟩ := one1_eq h
        refine ⟨h2, ?_⟩
        unfold maxF at h1
        split at h1
        · rename_i k a k' b ha hb; injection h1 with h1; exact ⟨k, k', a, b, ha, hb, h1.symm⟩
        · cases h1
      case delete => obtain ⟨h1, h2⟩ := unit1_eq h; exact ⟨h1, mdelF_R h2⟩
    | _ => cases h
end Go.Vc
