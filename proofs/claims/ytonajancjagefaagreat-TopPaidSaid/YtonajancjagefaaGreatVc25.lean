/- A part of the proof: general laws of a reading of the model by abstract data, or contracts of the functions that the law calls. -/
import Derived.Test.YtonajancjagefaaGreatVc14
set_option maxRecDepth 100000
namespace Go.Vc
open Go
section
variable {h : Heap} {K : AV → Prop} {K1 : Heap → Prop} {K2 : AV → Heap → Prop} {id ver off row o sz esz : Nat} {e e2 : TypeId}
theorem bodyOf_look {b : Body} (hL : lookH h id = some ⟨ver, e, b⟩) : bodyOf h id ver = some (e, b) := by
  show bodyAt (lookH h id) ver = _
  rw [hL]
  simp [bodyAt]
theorem R_FADDR {b : Body} (hL : lookH h id = some ⟨ver, e, b⟩) (hK : K (.ptr id ver row (o + off))) : FADDR off (.ptr id ver row o) h K :=
  ⟨by rw [bodyOf_look hL]; rfl, hK⟩
theorem R_LOADb {cs : List AV} {v : AV} (hL : lookH h id = some ⟨ver, e, .box cs⟩) (hv : cs[off]? = some v) (hK : K v) : LOAD false sz (.ptr id ver 0 off) h K := by
  simp only [LOAD, bodyOf_look hL]
  exact ⟨trivial, v, hv, hK⟩
theorem R_LOADct {cs : List D} (hl : sz ≤ cs.length) (hK : K (.d (.agg (cs.take sz)))) : LOAD true sz (.d (.cp cs)) h K := ⟨hl, hK⟩
theorem R_STOREb {cs : List AV} {v : AV} (hc : v.cells = [v]) (hL : lookH h id = some ⟨ver, e, .box cs⟩) (hl : off < cs.length) (hK : K1 ((id, some ⟨ver, e, .box (cs.set off v)⟩) :: h)) : STORE 1 (.ptr id ver 0 off) v h K1 := by
  have e1 : splice cs off v.cells = cs.set off v := by
    rw [hc]
    unfold splice
    rw [List.set_eq_take_append_cons_drop, if_pos hl]
    simp
  refine ⟨by rw [hc]; rfl, ?_⟩
  simp only [bodyOf_look hL, e1]
  exact ⟨trivial, hl, hK⟩
theorem R_STOREall {cs : List AV} {v : AV} {n : Nat} (hc : v.cells.length = n) (hL : lookH h id = some ⟨ver, e, .box cs⟩) (hl : cs.length = n) (hK : K1 ((id, some ⟨ver, e, .box v.cells⟩) :: h)) : STORE n (.ptr id ver 0 0) v h K1 := by
  have e1 : splice cs 0 v.cells = v.cells := by
    unfold splice
    rw [List.take_zero, List.nil_append, Nat.zero_add, List.drop_eq_nil_of_le (by omega), List.append_nil]
  refine ⟨hc, ?_⟩
  simp only [bodyOf_look hL, e1]
  exact ⟨trivial, by omega, hK⟩
theorem R_ALLOC {z : List AV} {new : Nat} (hK : K2 (.ptr new 0 0 0) ((new, some ⟨0, e, .box z⟩) :: h)) : ALLOC e z new h K2 := hK
theorem R_MKS1 {x : D} {new : Nat} (hx : x.cells.length = esz) (hK : K2 (.own new 0) ((new, some ⟨0, e, .lst [x]⟩) :: h)) : MKS e esz [.d x] new h K2 :=
  ⟨[x], [], rfl, by simpa using hx, hK⟩
theorem R_APP {id2 ver2 new : Nat} {xs ys : List D} (hL2 : lookH h id2 = some ⟨ver2, e2, .lst ys⟩) (hy : ∀ y ∈ ys, y.cells.length = esz) (hL : lookH h id = some ⟨ver, e, .lst xs⟩) (hl : xs.length + ys.length ≤ 1000000) (hK : K2 (.own id (ver + 1)) ((id, some ⟨ver + 1, e, .lst (xs ++ ys)⟩) :: h)) : APP e esz (.own id ver) (.own id2 ver2) new h K2 := by
  refine ⟨ys, by simp only [toD, bodyOf_look hL2], hy, ?_⟩
  simp only [bodyOf_look hL]
  exact ⟨trivial, hl, hK⟩
theorem R_IADDRd {el : TypeId} {xs : List D} {n : Nat} {k : IntKind} {x : D} (hx : xs[n]? = some x) (hc : x.cells.length = esz) (hK : K (.d (.cp x.cells))) : IADDR esz el (.d (.list xs)) (.d (.num k (n : Int))) h K :=
  ⟨by omega, x, by simpa using hx, hc, hK⟩
theorem R_BIN {nf : Nat} {op : BinOp} {a b r : D} (hr : binD nf op a b = some r) (hK : K (.d r)) : BIN nf op (.d a) (.d b) K := ⟨r, hr, hK⟩
theorem R_AADDR {len : Nat} {n : Int} {k : IntKind} {b : Body} (h0 : 0 ≤ n) (h1 : n < (len : Int)) (hL : lookH h id = some ⟨ver, e, b⟩) (hK : K (.ptr id ver row (o + n.toNat * esz))) : AADDR esz len (.ptr id ver row o) (.d (.num k n)) h K :=
  ⟨h0, h1, R_FADDR hL hK⟩
theorem R_CALLV {C : Ctx} {f : FuncId} {first caps : List D} {args : List AV} {new : Nat} {K3 KP : List Nat → AV → Heap → Prop} (hK : CALL C f (first.map .d ++ args ++ caps.map .d) new h K3 KP) : CALLV C (.d (.fn f first caps)) args new h K3 KP := hK
theorem R_COND {b : Bool} {X Y : Prop} (h1 : b = true → X) (h2 : b = false → Y) : COND (.d (.bool b)) X Y := ⟨h1, h2⟩
end
end Go.Vc
