/- A part of the proof: general laws of a reading of the model by abstract data, or contracts of the functions that the law calls. -/
import Derived.Test.YtnbdfpppcdgkpaaGreatDoorVc14
set_option maxRecDepth 100000
namespace Go.Vc
open Go Go.RowKit
theorem CALLX.deep {P : Ctx} {f : FuncId} {args : List AV} {new : Nat} {h : Heap} {K KP : List Nat → AV → Heap → Prop} (ds : List D) (ext : List Nat) (r : Res) (h1 : argsX (bodyOf h) args = some (ds, ext)) (h2 : Meets P f ds r) (hb : r.bl.length ≤ 8)
    (h3 : K (ids.idsL args ++ ext) (r.val.ren (rho [] new)) (upsP (rho [] new) (r.bl.map .upd) 0 ++ kills (ids.idsL args ++ ext) ++ h)) : CALLX true P f args new h K KP :=
  .inr ⟨_, _, ⟨ds, ext, r.val, r.bl.map .upd, h1, h2, by simpa using hb, rfl, rfl⟩, h3⟩
theorem CALLX.of {P : Ctx} {f : FuncId} {args : List AV} {new : Nat} {h : Heap} {K KP : List Nat → AV → Heap → Prop} {sl : Bool} (hc : CALL P f args new h K KP) : CALLX sl P f args new h K KP := by
  cases sl with
  | false => exact hc
  | true => exact .inl hc
theorem MKSX.of {e : TypeId} {esz : Nat} {parts : List AV} {new : Nat} {h : Heap} {K : AV → Heap → Prop} {sl : Bool} (hc : MKS e esz parts new h K) : MKSX sl e esz parts new h K := by
  cases sl with
  | false => exact hc
  | true => exact .inl hc
theorem APPX.of {e : TypeId} {esz : Nat} {s x : AV} {new : Nat} {h : Heap} {K : AV → Heap → Prop} {sl : Bool} (hc : APP e esz s x new h K) : APPX sl e esz s x new h K := by
  cases sl with
  | false => exact hc
  | true => exact .inl hc
theorem MKSX.box {e : TypeId} {id ver new : Nat} {h : Heap} {K : AV → Heap → Prop} (hK : K (.own new 0) ((new, some ⟨0, e, .box [.own id ver]⟩) :: h)) : MKSX true e 1 [.own id ver] new h K :=
  .inr ⟨rfl, id, ver, rfl, hK⟩
theorem APPX.box0 {e e' : TypeId} {b vb new : Nat} {zs : List AV} {h : Heap} {K : AV → Heap → Prop} (hb : bodyOf h b vb = some (e', .box zs)) (h1 : 1 ≤ zs.length) (h2 : zs.length ≤ 1000000) (hK : K (.own new 0) ((new, some ⟨0, e, .box zs⟩) :: h)) : APPX true e 1 .zc (.own b vb) new h K :=
  .inr ⟨rfl, b, vb, e', zs, rfl, hb, .inl ⟨rfl, h1, h2, hK⟩⟩
theorem APPX.box {e e' : TypeId} {id ver b vb new : Nat} {cs zs : List AV} {h : Heap} {K : AV → Heap → Prop} (hx : bodyOf h id ver = some (e, .box cs)) (hb : bodyOf h b vb = some (e', .box zs)) (h2 : cs.length + zs.length ≤ 1000000) (hK : K (.own id (ver + 1)) ((id, some ⟨ver + 1, e, .box (cs ++ zs)⟩) :: h)) : APPX true e 1 (.own id ver) (.own b vb) new h K :=
  .inr ⟨rfl, b, vb, e', zs, rfl, hb, .inr ⟨id, ver, cs, rfl, hx, h2, hK⟩⟩
end Go.Vc
