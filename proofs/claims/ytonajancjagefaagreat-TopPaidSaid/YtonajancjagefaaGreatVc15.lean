/- A part of the proof: general laws of a reading of the model by abstract data, or contracts of the functions that the law calls. -/
import Derived.Test.YtonajancjagefaaGreatVc14
set_option maxRecDepth 100000
namespace Go.Vc
open Go
abbrev seqR (K : Fr → Heap → Nat → Prop) (Q : AExit → Fr → Heap → Nat → Prop) (e : AExit) (fr : Fr) (h : Heap) (nx : Nat) : Prop := match e with
  | .normal => K fr h nx
  | .exit i => Q (.exit i) fr h nx
  | .ret => Q .ret fr h nx
  | .pan v => Q (.pan v) fr h nx
theorem seqR_eq : seqR = seqQ := by
  funext K Q e fr h nx
  cases e <;> rfl
abbrev blockR (id : Nat) (Q : AExit → Fr → Heap → Nat → Prop) (e : AExit) (fr : Fr) (h : Heap) (nx : Nat) : Prop := match e with
  | .exit i => match Nat.beq i id with | true => Q .normal fr h nx | false => Q (.exit i) fr h nx
  | .normal => Q .normal fr h nx
  | .ret => Q .ret fr h nx
  | .pan v => Q (.pan v) fr h nx
theorem blockR_eq : blockR = blockQ := by
  funext id Q e fr h nx
  cases e <;> rfl
abbrev fnR (P : Ctx) (f : Func) (pre : List ABlk) (out : Out) (post : List PB) (e : AExit) (fr : Fr) (h : Heap) (_ : Nat) : Prop := match e with
  | .normal => resOf P fr h f.results.toList fun vs => match out with | .ret r => POST (oneOf vs) h pre r post | .pan _ => False
  | .ret => resOf P fr h f.results.toList fun vs => match out with | .ret r => POST (oneOf vs) h pre r post | .pan _ => False
  | .exit _ => False
  | .pan v => match out with | .pan r => POST v h pre r post | .ret _ => False
theorem fnR_eq : fnR = fnQ := by
  funext P f pre out post e fr h nx
  cases e <;> rfl
def vcCode2 (P : Ctx) (pn : Bool) (n : Nat) (ann : Nat → List Nat) : Code → (AExit → Fr → Heap → Nat → Prop) → Fr → Heap → Nat → Prop
  | .skip, Q, fr, h, nx => Q .normal fr h nx
  | .label _, Q, fr, h, nx => Q .normal fr h nx
  | .region _ ops draw, Q, fr, h, nx => vcOps P pn ops.toList draw ops.toList 0 nx fr h [] (fun fr' h' => Q .normal fr' h' (nx + 8 * ops.toList.length)) (fun v h' => Q (.pan v) (clr ops.toList fr) h' (nx + 8 * ops.toList.length))
  | .seq a b, Q, fr, h, nx => vcCode2 P pn n ann a (seqR (vcCode2 P pn n ann b Q) Q) fr h nx
  | .cond c x y, Q, fr, h, nx => match decf fr c with
    | some (some true) => vcCode2 P pn n ann x Q fr h nx
    | some (some false) => vcCode2 P pn n ann y Q fr h nx
    | _ => COND (evf fr c) (vcCode2 P pn n ann x Q fr h nx) (vcCode2 P pn n ann y Q fr h nx)
  | .block id c, Q, fr, h, nx => vcCode2 P pn n ann c (blockR id Q) fr h nx
  | .scope c, Q, fr, h, nx => vcCode2 P pn n ann c Q fr h nx
  | .exit id, Q, fr, h, nx => Q (.exit id) fr h nx
  | .ret, Q, fr, h, nx => Q .ret fr h nx
  | .loop c, Q, fr, h, nx =>
    LOOP (vals fr (ann (firstRegion c))) h nx fun vs h next =>
      vcCode2 P pn n ann c (seqR (fun fr h _ => next (vals fr (ann (firstRegion c))) h) Q)
        (zipF vs (ann (firstRegion c)) 0) h (nx + 8)
  | .rangeFunc f params assign body, Q, fr, h, nx =>
    CALLF P (evf fr f) [.yld nx] (nx + 8) ((nx, some ⟨0, 0, .loop ⟨.ready, none, n, keepT fr (ann (firstRegion assign)), params.toList, assign, body⟩⟩) :: h)
      (fun _ _ h' => AFTER nx h' (fun h'' => Q .normal fr h'' (nx + 16)) (fun x h'' => match x with | none => Q .ret fr h'' (nx + 16) | some i => Q (.exit i) fr h'' (nx + 16)))
      (fun _ v h' => Q (.pan v) fr h' (nx + 16))
  | _, _, _, _, _ => False
theorem vcCode2_eq (P : Ctx) (pn : Bool) (n : Nat) (ann : Nat → List Nat) : ∀ (c : Code) (Q : AExit → Fr → Heap → Nat → Prop) (fr : Fr) (h : Heap) (nx : Nat), vcCode2 P pn n ann c Q fr h nx = vcCode P pn n ann c Q fr h nx := by
  intro c
  induction c with
  | region id ops draw => intro Q fr h nx; rfl
  | seq a b iha ihb =>
    intro Q fr h nx
    have e : vcCode2 P pn n ann b Q = vcCode P pn n ann b Q := by
      funext fr h nx; exact ihb _ _ _ _
    have e2 : seqR (vcCode P pn n ann b Q) Q = seqQ (vcCode P pn n ann b Q) Q := by rw [seqR_eq]
    simp only [vcCode2, vcCode, iha, e]
    exact congrArg (fun q => vcCode P pn n ann a q fr h nx) e2
  | cond c x y ihx ihy => intro Q fr h nx; simp only [vcCode2, vcCode, ihx, ihy]; rfl
  | block id c ih =>
    intro Q fr h nx
    simp only [vcCode2, vcCode, ih]
    exact congrArg (fun q => vcCode P pn n ann c q fr h nx) (show blockR id Q = blockQ id Q by rw [blockR_eq])
  | scope c ih => intro Q fr h nx; simp only [vcCode2, vcCode, ih]
  | loop c ih =>
    intro Q fr h nx
    simp only [vcCode2, vcCode, ih]
    refine congrArg (LOOP (vals fr (ann (firstRegion c))) h nx) ?_
    funext vs h next
    exact congrArg (fun q => vcCode P pn n ann c q (zipF vs (ann (firstRegion c)) 0) h (nx + 8)) (show seqR (fun fr h _ => next (vals fr (ann (firstRegion c))) h) Q = seqQ (fun fr h _ => next (vals fr (ann (firstRegion c))) h) Q by rw [seqR_eq])
  | _ => intro Q fr h nx; rfl
def vcFn2 (P : Ctx) (pn : Bool) (ann : Nat → List Nat) (f : Func) (pre : List ABlk) (args : List AV) (out : Out) (post : List PB) : Prop :=
  match f.body with
  | none => False
  | some c => vcCode2 P pn f.ntmps ann c (fnR P f pre out post) (zipA args 0) (numbered 0 pre) 24
theorem vcFn2_eq (P : Ctx) (pn : Bool) (ann : Nat → List Nat) (f : Func) (pre : List ABlk) (args : List AV) (out : Out) (post : List PB) : vcFn P pn ann f pre args out post = vcFn2 P pn ann f pre args out post := by
  unfold vcFn vcFn2
  cases f.body with
  | none => rfl
  | some c =>
    simp only [vcCode2_eq]
    exact congrArg (fun q => vcCode P pn f.ntmps ann c q (zipA args 0) (numbered 0 pre) 24) (show fnQ P f pre out post = fnR P f pre out post by rw [fnR_eq])
end Go.Vc
