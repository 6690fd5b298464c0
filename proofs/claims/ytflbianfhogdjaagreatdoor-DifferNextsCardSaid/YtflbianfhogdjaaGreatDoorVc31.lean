/- A part of the proof: general laws of a reading of the model by abstract data, or contracts of the functions that the law calls. -/
import Derived.Test.YtflbianfhogdjaaGreatDoorVc22
import Derived.Test.YtflbianfhogdjaaGreatDoorVc11
import Derived.Test.YtflbianfhogdjaaGreatDoorVc30
set_option maxRecDepth 100000
namespace Go.Vc
open Go Go.Proofs Go.RowKit
def ann_differ_Sure : Nat → List Nat := fun n => match n with | 5 => [4, 11, 12, 13] | _ => []
def vc_differ_Sure (P : Ctx) (pre : List ABlk) (a0 : AV) (r : AV) (post : List PB) : Prop :=
  let h0 : Heap := numbered 0 pre
  BOX T_api_DifferPlan a0 24 h0 fun v1 h1 =>
  LOAD true 3 v1 h1 fun v7 =>
  CALL P f_differ_isPlan [v7] 56 h1 (fun _ v8 h2 =>
  NOT v8 fun v9 =>
  COND v9
  (POST (.tup [.zc, (.d (.num .i64 2))]) h2 pre r post)
  (LOAD true 3 v1 h2 fun v10 =>
  CALL P f_differ_printed [v10] 88 h2 (fun _ v11 h4 =>
  LEN false v11 h4 fun v12 =>
  LOOP [.zc, v11, v12, (.d (.num .i64 0))] h4 112 fun vs6 h7 next6 =>
  BIN 0 .lss (nth vs6 3) (nth vs6 2) fun v14 =>
  COND v14
  (IADDR 2 T_api_Span (nth vs6 1) (nth vs6 3) h7 fun v16 =>
  LOAD true 2 v16 h7 fun v17 =>
  ALLOC T_api_Span [.d (.num .i64 0), .d (.num .i64 0)] 152 h7 fun v6 h8 =>
  STORE 2 v6 v17 h8 fun h9 =>
  FADDR 0 v6 h9 fun v18 =>
  LOAD false 1 v18 h9 fun v19 =>
  FADDR 1 v6 h9 fun v20 =>
  LOAD false 1 v20 h9 fun v21 =>
  BIN 0 .eql v19 v21 fun v22 =>
  COND v22
  (MKS T_int 1 [(nth vs6 3)] 232 h9 fun v25 h10 =>
  APP T_int 1 (nth vs6 0) v25 240 h10 fun v26 h11 =>
  BIN 0 .add (nth vs6 3) (.d (.num .i64 1)) fun v27 =>
  next6 [v26, (nth vs6 1), (nth vs6 2), v27] h11)
  (BIN 0 .add (nth vs6 3) (.d (.num .i64 1)) fun v27 =>
  next6 [(nth vs6 0), (nth vs6 1), (nth vs6 2), v27] h9))
  (POST (.tup [(nth vs6 0), (.d (.num .i64 0))]) h7 pre r post))
  (fun _ _ _ => False)))
  (fun _ _ _ => False)
theorem vc_differ_Sure_eq (g : GG) (pre : List ABlk) (a0 : AV) (r : AV) (post : List PB) : vcFn2 (Tz g) false ann_differ_Sure Tryz.f51 pre [a0] (.ret r) post = vc_differ_Sure (Tz g) pre a0 r post := by kernel_rfl
theorem hf_differ_Sure : Tryz.prog.funcs[f_differ_Sure]? = some Tryz.f51 := by kernel_rfl
theorem ok_differ_Sure : fnVcOK Tryz.prog Tryz.f51 = true := by kernel_rfl
theorem nt_differ_Sure : Nat.ble 1 Tryz.f51.ntmps = true := by kernel_rfl
theorem meetsH_differ_Sure {g : GG} {pre : List ABlk} {a0 : AV} {r : AV} {post : List PB} (hk : Nat.ble pre.length 24 = true) (h : vc_differ_Sure (Tz g) pre a0 r post) : MeetsH (Tz g) f_differ_Sure pre [a0] (.ret r) post :=
  meetsH_of_vc (C := Tz g) ann_differ_Sure hf_differ_Sure ok_differ_Sure nt_differ_Sure hk (pn := false) (Eq.mpr ((vcFn2_eq _ _ _ _ _ _ _ _).trans (vc_differ_Sure_eq g pre a0 r post)) h)
theorem meets_differ_Sure {g : GG} {a0 : D} {r : Res} (h : vc_differ_Sure (Tz g) [] (.d a0) r.val (r.bl.map .upd)) : Meets (Tz g) f_differ_Sure [a0] r := meetsH_differ_Sure rfl h
def ann_differ_Doubt : Nat → List Nat := fun n => match n with  | _ => []
def vc_differ_Doubt (P : Ctx) (pre : List ABlk) (a0 : AV) (r : AV) (post : List PB) : Prop :=
  let h0 : Heap := numbered 0 pre
  BOX T_api_DifferPlan a0 24 h0 fun v1 h1 =>
  LOAD true 3 v1 h1 fun v6 =>
  CALL P f_differ_isPlan [v6] 56 h1 (fun _ v7 h2 =>
  NOT v7 fun v8 =>
  COND v8
  (POST (.tup [(.d (.num .i64 0)), (.d (.num .i64 2))]) h2 pre r post)
  (CALL P f_differ_attempt [(.fn f_differ_Doubt_1 [] [v1])] 80 h2 (fun _ v11 h4 =>
  EXT v11 0 fun v12 =>
  EXT v11 1 fun v13 =>
  BIN 0 .eql v13 (.d (.num .i64 0)) fun v15 =>
  COND v15
  (POST (.tup [(.d (.num .i64 0)), (.d (.num .i64 5))]) h4 pre r post)
  (POST (.tup [v12, (.d (.num .i64 0))]) h4 pre r post))
  (fun _ _ _ => False)))
  (fun _ _ _ => False)
theorem vc_differ_Doubt_eq (g : GG) (pre : List ABlk) (a0 : AV) (r : AV) (post : List PB) : vcFn2 (Tz g) false ann_differ_Doubt Tryz.f52 pre [a0] (.ret r) post = vc_differ_Doubt (Tz g) pre a0 r post := by kernel_rfl
theorem hf_differ_Doubt : Tryz.prog.funcs[f_differ_Doubt]? = some Tryz.f52 := by kernel_rfl
theorem ok_differ_Doubt : fnVcOK Tryz.prog Tryz.f52 = true := by kernel_rfl
theorem nt_differ_Doubt : Nat.ble 1 Tryz.f52.ntmps = true := by kernel_rfl
theorem meetsH_differ_Doubt {g : GG} {pre : List ABlk} {a0 : AV} {r : AV} {post : List PB} (hk : Nat.ble pre.length 24 = true) (h : vc_differ_Doubt (Tz g) pre a0 r post) : MeetsH (Tz g) f_differ_Doubt pre [a0] (.ret r) post :=
  meetsH_of_vc (C := Tz g) ann_differ_Doubt hf_differ_Doubt ok_differ_Doubt nt_differ_Doubt hk (pn := false) (Eq.mpr ((vcFn2_eq _ _ _ _ _ _ _ _).trans (vc_differ_Doubt_eq g pre a0 r post)) h)
theorem meets_differ_Doubt {g : GG} {a0 : D} {r : Res} (h : vc_differ_Doubt (Tz g) [] (.d a0) r.val (r.bl.map .upd)) : Meets (Tz g) f_differ_Doubt [a0] r := meetsH_differ_Doubt rfl h
def ann_differ_Doubt_1 : Nat → List Nat := fun n => match n with  | _ => []
def vc_differ_Doubt_1 (P : Ctx) (pre : List ABlk) (a0 : AV) (r : AV) (post : List PB) : Prop :=
  let h0 : Heap := numbered 0 pre
  LOAD true 3 a0 h0 fun v1 =>
  CALL P f_differ_mustBeSure [v1] 32 h0 (fun _ v2 h1 =>
  POST (.tup []) h1 pre r post)
  (fun _ _ _ => False)
theorem vc_differ_Doubt_1_eq (g : GG) (pre : List ABlk) (a0 : AV) (r : AV) (post : List PB) : vcFn2 (Tz g) false ann_differ_Doubt_1 Tryz.f84 pre [a0] (.ret r) post = vc_differ_Doubt_1 (Tz g) pre a0 r post := by kernel_rfl
theorem hf_differ_Doubt_1 : Tryz.prog.funcs[f_differ_Doubt_1]? = some Tryz.f84 := by kernel_rfl
theorem ok_differ_Doubt_1 : fnVcOK Tryz.prog Tryz.f84 = true := by kernel_rfl
theorem nt_differ_Doubt_1 : Nat.ble 1 Tryz.f84.ntmps = true := by kernel_rfl
theorem meetsH_differ_Doubt_1 {g : GG} {pre : List ABlk} {a0 : AV} {r : AV} {post : List PB} (hk : Nat.ble pre.length 24 = true) (h : vc_differ_Doubt_1 (Tz g) pre a0 r post) : MeetsH (Tz g) f_differ_Doubt_1 pre [a0] (.ret r) post :=
  meetsH_of_vc (C := Tz g) ann_differ_Doubt_1 hf_differ_Doubt_1 ok_differ_Doubt_1 nt_differ_Doubt_1 hk (pn := false) (Eq.mpr ((vcFn2_eq _ _ _ _ _ _ _ _).trans (vc_differ_Doubt_1_eq g pre a0 r post)) h)
theorem meets_differ_Doubt_1 {g : GG} {a0 : D} {r : Res} (h : vc_differ_Doubt_1 (Tz g) [] (.d a0) r.val (r.bl.map .upd)) : Meets (Tz g) f_differ_Doubt_1 [a0] r := meetsH_differ_Doubt_1 rfl h
def ann_differ_mustBeSure : Nat → List Nat := fun n => match n with | 2 => [5, 6, 7] | _ => []
def vc_differ_mustBeSure (P : Ctx) (pre : List ABlk) (a0 : AV) (r : AV) (post : List PB) : Prop :=
  let h0 : Heap := numbered 0 pre
  BOX T_api_DifferPlan a0 24 h0 fun v1 h1 =>
  LOAD true 3 v1 h1 fun v4 =>
  CALL P f_differ_printed [v4] 40 h1 (fun _ v5 h2 =>
  LEN false v5 h2 fun v6 =>
  LOOP [v5, v6, (.d (.num .i64 0))] h2 64 fun vs4 h5 next4 =>
  BIN 0 .lss (nth vs4 2) (nth vs4 1) fun v8 =>
  COND v8
  (IADDR 2 T_api_Span (nth vs4 0) (nth vs4 2) h5 fun v10 =>
  LOAD true 2 v10 h5 fun v11 =>
  ALLOC T_api_Span [.d (.num .i64 0), .d (.num .i64 0)] 104 h5 fun v3 h6 =>
  STORE 2 v3 v11 h6 fun h7 =>
  FADDR 0 v3 h7 fun v12 =>
  LOAD false 1 v12 h7 fun v13 =>
  FADDR 1 v3 h7 fun v14 =>
  LOAD false 1 v14 h7 fun v15 =>
  BIN 0 .neq v13 v15 fun v16 =>
  COND v16
  (BUILD [(0, 1)] [.d (.num .i64 0)] [(0, (nth vs4 2))] fun v18 =>
  PANIC (.iface T_differ_unsure v18) fun _ => False)
  (BIN 0 .add (nth vs4 2) (.d (.num .i64 1)) fun v20 =>
  next4 [(nth vs4 0), (nth vs4 1), v20] h7))
  (POST (.tup []) h5 pre r post))
  (fun _ _ _ => False)
theorem vc_differ_mustBeSure_eq (g : GG) (pre : List ABlk) (a0 : AV) (r : AV) (post : List PB) : vcFn2 (Tz g) false ann_differ_mustBeSure Tryz.f85 pre [a0] (.ret r) post = vc_differ_mustBeSure (Tz g) pre a0 r post := by kernel_rfl
theorem hf_differ_mustBeSure : Tryz.prog.funcs[f_differ_mustBeSure]? = some Tryz.f85 := by kernel_rfl
theorem ok_differ_mustBeSure : fnVcOK Tryz.prog Tryz.f85 = true := by kernel_rfl
theorem nt_differ_mustBeSure : Nat.ble 1 Tryz.f85.ntmps = true := by kernel_rfl
theorem meetsH_differ_mustBeSure {g : GG} {pre : List ABlk} {a0 : AV} {r : AV} {post : List PB} (hk : Nat.ble pre.length 24 = true) (h : vc_differ_mustBeSure (Tz g) pre a0 r post) : MeetsH (Tz g) f_differ_mustBeSure pre [a0] (.ret r) post :=
  meetsH_of_vc (C := Tz g) ann_differ_mustBeSure hf_differ_mustBeSure ok_differ_mustBeSure nt_differ_mustBeSure hk (pn := false) (Eq.mpr ((vcFn2_eq _ _ _ _ _ _ _ _).trans (vc_differ_mustBeSure_eq g pre a0 r post)) h)
theorem meets_differ_mustBeSure {g : GG} {a0 : D} {r : Res} (h : vc_differ_mustBeSure (Tz g) [] (.d a0) r.val (r.bl.map .upd)) : Meets (Tz g) f_differ_mustBeSure [a0] r := meetsH_differ_mustBeSure rfl h
def annp_differ_mustBeSure : Nat → List Nat := fun n => match n with | 2 => [5, 6, 7] | _ => []
def vcp_differ_mustBeSure (P : Ctx) (pre : List ABlk) (a0 : AV) (r : AV) (post : List PB) : Prop :=
  let h0 : Heap := numbered 0 pre
  BOX T_api_DifferPlan a0 24 h0 fun v1 h1 =>
  LOAD true 3 v1 h1 fun v4 =>
  CALL P f_differ_printed [v4] 40 h1 (fun _ v5 h2 =>
  LEN false v5 h2 fun v6 =>
  LOOP [v5, v6, (.d (.num .i64 0))] h2 64 fun vs6 h7 next6 =>
  BIN 0 .lss (nth vs6 2) (nth vs6 1) fun v8 =>
  COND v8
  (IADDR 2 T_api_Span (nth vs6 0) (nth vs6 2) h7 fun v10 =>
  LOAD true 2 v10 h7 fun v11 =>
  ALLOC T_api_Span [.d (.num .i64 0), .d (.num .i64 0)] 104 h7 fun v3 h8 =>
  STORE 2 v3 v11 h8 fun h9 =>
  FADDR 0 v3 h9 fun v12 =>
  LOAD false 1 v12 h9 fun v13 =>
  FADDR 1 v3 h9 fun v14 =>
  LOAD false 1 v14 h9 fun v15 =>
  BIN 0 .neq v13 v15 fun v16 =>
  COND v16
  (BUILD [(0, 1)] [.d (.num .i64 0)] [(0, (nth vs6 2))] fun v18 =>
  PANIC (.iface T_differ_unsure v18) fun pv10 =>
  POST pv10 h9 pre r post)
  (BIN 0 .add (nth vs6 2) (.d (.num .i64 1)) fun v20 =>
  next6 [(nth vs6 0), (nth vs6 1), v20] h9))
  (False))
  (fun _ pv4 ph5 =>
  POST pv4 ph5 pre r post)
theorem vcp_differ_mustBeSure_eq (g : GG) (pre : List ABlk) (a0 : AV) (r : AV) (post : List PB) : vcFn2 (Tz g) true annp_differ_mustBeSure Tryz.f85 pre [a0] (.pan r) post = vcp_differ_mustBeSure (Tz g) pre a0 r post := by kernel_rfl
theorem hfp_differ_mustBeSure : Tryz.prog.funcs[f_differ_mustBeSure]? = some Tryz.f85 := by kernel_rfl
theorem okp_differ_mustBeSure : fnVcOK Tryz.prog Tryz.f85 = true := by kernel_rfl
theorem ntp_differ_mustBeSure : Nat.ble 1 Tryz.f85.ntmps = true := by kernel_rfl
theorem meetsHp_differ_mustBeSure {g : GG} {pre : List ABlk} {a0 : AV} {r : AV} {post : List PB} (hk : Nat.ble pre.length 24 = true) (h : vcp_differ_mustBeSure (Tz g) pre a0 r post) : MeetsH (Tz g) f_differ_mustBeSure pre [a0] (.pan r) post :=
  meetsH_of_vc (C := Tz g) annp_differ_mustBeSure hfp_differ_mustBeSure okp_differ_mustBeSure ntp_differ_mustBeSure hk (pn := true) (Eq.mpr ((vcFn2_eq _ _ _ _ _ _ _ _).trans (vcp_differ_mustBeSure_eq g pre a0 r post)) h)
theorem meetsP_differ_mustBeSure {g : GG} {a0 : D} {x : D} (h : vcp_differ_mustBeSure (Tz g) [] (.d a0) (.d x) []) : MeetsP (Tz g) f_differ_mustBeSure [a0] x := meetsHp_differ_mustBeSure rfl h
def annp_differ_Doubt_1 : Nat → List Nat := fun n => match n with  | _ => []
def vcp_differ_Doubt_1 (P : Ctx) (pre : List ABlk) (a0 : AV) (r : AV) (post : List PB) : Prop :=
  let h0 : Heap := numbered 0 pre
  LOAD true 3 a0 h0 fun v1 =>
  CALL P f_differ_mustBeSure [v1] 32 h0 (fun _ v2 h1 =>
  False)
  (fun _ pv3 ph4 =>
  POST pv3 ph4 pre r post)
theorem vcp_differ_Doubt_1_eq (g : GG) (pre : List ABlk) (a0 : AV) (r : AV) (post : List PB) : vcFn2 (Tz g) true annp_differ_Doubt_1 Tryz.f84 pre [a0] (.pan r) post = vcp_differ_Doubt_1 (Tz g) pre a0 r post := by kernel_rfl
theorem hfp_differ_Doubt_1 : Tryz.prog.funcs[f_differ_Doubt_1]? = some Tryz.f84 := by kernel_rfl
theorem okp_differ_Doubt_1 : fnVcOK Tryz.prog Tryz.f84 = true := by kernel_rfl
theorem ntp_differ_Doubt_1 : Nat.ble 1 Tryz.f84.ntmps = true := by kernel_rfl
theorem meetsHp_differ_Doubt_1 {g : GG} {pre : List ABlk} {a0 : AV} {r : AV} {post : List PB} (hk : Nat.ble pre.length 24 = true) (h : vcp_differ_Doubt_1 (Tz g) pre a0 r post) : MeetsH (Tz g) f_differ_Doubt_1 pre [a0] (.pan r) post :=
  meetsH_of_vc (C := Tz g) annp_differ_Doubt_1 hfp_differ_Doubt_1 okp_differ_Doubt_1 ntp_differ_Doubt_1 hk (pn := true) (Eq.mpr ((vcFn2_eq _ _ _ _ _ _ _ _).trans (vcp_differ_Doubt_1_eq g pre a0 r post)) h)
theorem meetsP_differ_Doubt_1 {g : GG} {a0 : D} {x : D} (h : vcp_differ_Doubt_1 (Tz g) [] (.d a0) (.d x) []) : MeetsP (Tz g) f_differ_Doubt_1 [a0] x := meetsHp_differ_Doubt_1 rfl h
end Go.Vc

namespace Go.Vc
open Go Go.Proofs Go.RowKit
variable {g : GG}
attribute [local simp] and_assoc
abbrev GoT := List AV → Option (Out × List PB)
noncomputable abbrev evA (f : FuncId) (go : GoT) (c : D) := (evFn Tryz.prog tab [(f, go)] dm 100 3).2 (.fnc f_differ_attempt) [] [.d (.fn f [] [c])]
def unsureD (row : Int) : D := .iface T_differ_unsure (.agg [int row])
open Classical in
noncomputable def onAt (c : D) (out : Out) (post : List PB) : GoT := fun args => if args = [.d c] then some (out, post) else none
theorem onAt_at (c : D) (out : Out) (post : List PB) : onAt c out post [.d c] = some (out, post) := if_pos rfl
theorem onAt_ok {C : Ctx} {f : FuncId} {c : D} {out : Out} {post : List PB} (h : MeetsH C f [] [.d c] out post) : ExtOK C [(f, onAt c out post)] := by
  refine ⟨fun args o p ha => ?_, trivial⟩
  unfold onAt at ha
  split at ha
  · rename_i e
    simp only [Option.some.injEq, Prod.mk.injEq] at ha
    obtain ⟨rfl, rfl⟩ := ha
    rw [e]; exact h
  · cases ha
theorem att_meets {f : FuncId} {c : D} {out o2 : Out} {post p2 : List PB} (h : MeetsH (Tz g) f [] [.d c] out post) (h1 : evA f (onAt c out post) c = evA f (fun _ => onAt c out post [.d c]) c) (h2 : evA f (fun _ => some (out, post)) c = some (o2, p2)) : MeetsH (Tz g) f_differ_attempt [] [.d (.fn f [] [c])] o2 p2 := by
  refine ev_ok (C := Tz g) rfl tab_ok (onAt_ok h) dm 100 3 (.fnc f_differ_attempt) [] _ _ _ ?_
  rw [onAt_at] at h1
  exact h1.trans h2
theorem at_pan1 (c : D) (row : Int) : evA f_differ_Doubt_1 (fun _ => some (.pan (.d (unsureD row)), [])) c = some (.ret (.tup [.d (int row), .d (int 7)]), []) := by kernel_rfl
theorem at_ret1 (c : D) : evA f_differ_Doubt_1 (fun _ => some (.ret (.tup []), [])) c = some (.ret (.tup [.d (int 0), .d (int 0)]), []) := by kernel_rfl
theorem at_go1 (c : D) (go : GoT) : evA f_differ_Doubt_1 go c = evA f_differ_Doubt_1 (fun _ => go [.d c]) c := by kernel_rfl
theorem at_pan2 (c : D) (row : Int) : evA f_differ_allSure_1 (fun _ => some (.pan (.d (unsureD row)), [])) c = some (.ret (.tup [.d (int row), .d (int 7)]), []) := by kernel_rfl
theorem at_ret2 (c : D) : evA f_differ_allSure_1 (fun _ => some (.ret (.tup []), [])) c = some (.ret (.tup [.d (int 0), .d (int 0)]), []) := by kernel_rfl
theorem at_go2 (c : D) (go : GoT) : evA f_differ_allSure_1 go c = evA f_differ_allSure_1 (fun _ => go [.d c]) c := by kernel_rfl
end Go.Vc

namespace Go.Vc
open Go Go.Proofs
variable {g : GG}
attribute [local simp] and_assoc
@[simp] theorem POST_unit {h : Heap} : POST (.tup []) h [] (.tup []) [] ↔ True := ⟨fun _ => trivial, fun _ => POST.auto (by simp)⟩
def apart (s : Sp) : Bool := !decide (s.low = s.high)
def doubtL (p : Plan) : Int := idx apart (printedL p) 0
theorem printedL_len (p : Plan) (n : Nat) (hn : p.rows = n) : (printedL p).length = n := by simp [printedL, rowsL_len p n hn]
theorem mustBeSure_ret (p : Plan) (h : p.ok = true) (hd : doubtL p < 0) : Meets (Tz g) f_differ_mustBeSure [p.d] ⟨.tup [], []⟩ := by
  obtain ⟨a1, a2, a3, a4, a5⟩ := Plan.ok_len h
  obtain ⟨n, hn⟩ : ∃ n : Nat, p.rows = n := ⟨p.rows.toNat, by omega⟩
  have hr := printedL_len p n hn
  refine meets_differ_mustBeSure ?_
  unfold vc_differ_mustBeSure
  simp [Plan.d, spans]
  refine CALL.mk [p.d] _ rfl (differ_printed_meets p h) (.inl rfl) (by simp) ?_
  simp
  refine LOOP.mk Nat (fun k => [.own 40 0, .d (int n), .d (int k)]) (fun k => [(40, some ⟨0, T_api_Span, .lst ((printedL p).map Sp.d)⟩)]) (fun k => k ≤ n ∧ doubtL p = idx apart ((printedL p).drop k) k) (fun k => n - k) [] (by simp) 0 (by simp [doubtL]) (by simp [WEAK, hr]) (fun _ _ => rfl) ?_
  rintro k ⟨hk, he⟩
  simp
  intro hlt
  have hg : (printedL p)[k]? = some (printedL p)[k] := List.getElem?_eq_getElem (by omega)
  generalize (printedL p)[k] = s at hg
  rw [idx_drop _ _ _ _ hg] at he
  simp [hg, hr, Sp.d]
  have hq : s.low = s.high := by
    cases hq : decide (s.low = s.high) with
    | true => simpa using hq
    | false =>
      simp at hq
      simp [apart, hq] at he
      omega
  refine ⟨hlt, hq, fun _ => ?_⟩
  simp [apart, hq] at he
  rw [wrap_id (n := (k : Int) + 1) (by omega) (by omega)]
  exact ⟨k + 1, by omega, by simpa [apart] using he, by simp [WEAK], by omega⟩
theorem mustBeSure_pan (p : Plan) (h : p.ok = true) (hd : 0 ≤ doubtL p) : MeetsP (Tz g) f_differ_mustBeSure [p.d] (unsureD (doubtL p)) := by
  obtain ⟨a1, a2, a3, a4, a5⟩ := Plan.ok_len h
  obtain ⟨n, hn⟩ : ∃ n : Nat, p.rows = n := ⟨p.rows.toNat, by omega⟩
  have hr := printedL_len p n hn
  refine meetsP_differ_mustBeSure ?_
  unfold vcp_differ_mustBeSure
  simp [Plan.d, spans]
  refine CALL.mk [p.d] _ rfl (differ_printed_meets p h) (.inl rfl) (by simp) ?_
  simp
  refine LOOP.mk Nat (fun k => [.own 40 0, .d (int n), .d (int k)]) (fun k => [(40, some ⟨0, T_api_Span, .lst ((printedL p).map Sp.d)⟩)]) (fun k => k ≤ n ∧ doubtL p = idx apart ((printedL p).drop k) k) (fun k => n - k) [] (by simp) 0 (by simp [doubtL]) (by simp [WEAK, hr]) (fun _ _ => rfl) ?_
  rintro k ⟨hk, he⟩
  simp
  constructor
  · intro hlt
    have hg : (printedL p)[k]? = some (printedL p)[k] := List.getElem?_eq_getElem (by omega)
    generalize (printedL p)[k] = s at hg
    rw [idx_drop _ _ _ _ hg] at he
    simp [hg, hr, Sp.d]
    refine ⟨hlt, ?_, ?_⟩
    · intro hq
      simp [apart, hq] at he
      simp [unsureD, he]
    · intro hq
      simp [apart, hq] at he
      rw [wrap_id (n := (k : Int) + 1) (by omega) (by omega)]
      exact ⟨k + 1, by omega, by simpa [apart] using he, by simp [WEAK], by omega⟩
  · refine Classical.byContradiction fun hge => ?_
    rw [List.drop_eq_nil_of_le (by omega)] at he
    simp [idx] at he
    omega
def planC (p : Plan) : D := .cp [spans p.starts, int p.rows, int p.guard]
theorem Doubt_1_ret (p : Plan) (h : p.ok = true) (hd : doubtL p < 0) : MeetsH (Tz g) f_differ_Doubt_1 [] [.d (planC p)] (.ret (.tup [])) [] := by
  refine meetsH_differ_Doubt_1 rfl ?_
  unfold vc_differ_Doubt_1
  simp [planC]
  refine CALL.mk [p.d] _ rfl (mustBeSure_ret p h hd) (.inl rfl) (by simp) ?_
  simp
theorem Doubt_1_pan (p : Plan) (h : p.ok = true) (hd : 0 ≤ doubtL p) : MeetsH (Tz g) f_differ_Doubt_1 [] [.d (planC p)] (.pan (.d (unsureD (doubtL p)))) [] := by
  refine meetsHp_differ_Doubt_1 rfl ?_
  unfold vcp_differ_Doubt_1
  simp [planC]
  refine CALL.pan [p.d] _ rfl (mustBeSure_pan p h hd) ?_
  simp [unsureD]
theorem attempt_doubt (p : Plan) (h : p.ok = true) : Meets (Tz g) f_differ_attempt [.fn f_differ_Doubt_1 [] [planC p]] ⟨.tup [.d (int (if doubtL p < 0 then 0 else doubtL p)), .d (int (if doubtL p < 0 then 0 else 7))], []⟩ := by
  by_cases hd : doubtL p < 0
  · simp only [if_pos hd]
    exact att_meets (Doubt_1_ret p h hd) (at_go1 _ _) (at_ret1 _)
  · simp only [if_neg hd]
    exact att_meets (Doubt_1_pan p h (by omega)) (at_go1 _ _) (at_pan1 _ _)
theorem differ_Doubt_meets (p : Plan) (h : p.ok = true) : Meets (Tz g) f_differ_Doubt [p.d] ⟨.tup [.d (int (if doubtL p < 0 then 0 else doubtL p)), .d (int (if doubtL p < 0 then 5 else 0))], []⟩ := by
  refine meets_differ_Doubt ?_
  unfold vc_differ_Doubt
  simp [Plan.d, spans]
  refine CALL.val [p.d] _ rfl (differ_isPlan_meets p (by have := (Plan.ok_len h).2.1; omega)) (.inl rfl) ?_
  simp [h]
  refine CALL.mk [.fn f_differ_Doubt_1 [] [planC p]] _ (by simp [planC, spans]) (attempt_doubt p h) (.inr (by simp [Res.flatP, AV.flatB, AV.flatB.flatL, blksFlat, D.flatB])) (by simp) ?_
  by_cases hd : doubtL p < 0
  · simp [hd]
    omega
  · simp [hd]
    omega
theorem differ_Doubt_bad (p : Plan) (hl : p.starts.length ≤ 1000) (h : p.ok = false) : Meets (Tz g) f_differ_Doubt [p.d] ⟨.tup [.d (int 0), .d (int 2)], []⟩ := by
  refine meets_differ_Doubt ?_
  unfold vc_differ_Doubt
  simp [Plan.d, spans]
  refine CALL.val [p.d] _ rfl (differ_isPlan_meets p hl) (.inl rfl) ?_
  simp [h]
end Go.Vc
