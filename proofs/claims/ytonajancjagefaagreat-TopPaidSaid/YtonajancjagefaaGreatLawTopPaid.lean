/- Proves that the statement TopPaidSaid holds of the given program: for every input the law returns true and leaves its arguments as they were; no further condition. -/
import Derived.Test.YtonajancjagefaaGreatVc29
import Derived.Test.YtonajancjagefaaGreatVc15
import Derived.Test.YtonajancjagefaaGreatVc47
import Derived.Test.YtonajancjagefaaGreatVc49
import Derived.Test.YtonajancjagefaaGreatVc52
import Derived.Test.YtonajancjagefaaGreatVc40
import Derived.Test.YtonajancjagefaaGreatVc35
set_option maxRecDepth 100000
namespace Go.Vc
open Go Go.Proofs Go.RowKit
def ann_top_TopPaid : Nat → List Nat := fun n => match n with | 13 => [1, 2, 3, 7, 9, 11, 12] | _ => []
def vc_top_TopPaid_k0 (_P : Ctx) (_pre : List ABlk) (_r : AV) (_post : List PB) (vs0 : List AV) (v1 : AV) (h2 : Heap) (h4 : Heap) (v5 : AV) (v6 : AV) (v7 : AV) (v8 : AV) (v9 : AV) (v10 : AV) (h11 : Heap) (v12 : AV) (v13 : AV) (rd14 : List Nat) (next16 : List AV → Heap → Prop) : Prop :=
  STORE 3 (nth vs0 5) v1 h2 fun h3 =>
  ORDX [] [0, 0, 0, 6, 14, 0, 32, 0, 0, 384, 896, 2016, 4064, 8160, 16382, 32766, 65535, 131071] [(0, wr h4 h4, (ids (nth vs0 5))), (3, wr h4 h4, (ids (nth vs0 3))), (4, wr h4 h4, (ids v5)), (5, wr h4 h4, (ids (nth vs0 2))), (6, wr h4 h4, (ids v6)), (9, wr h4 h4, (ids (nth vs0 3))), (10, wr h4 h4, (ids v7)), (11, wr h4 h4, (ids v8)), (12, wr h4 h4, (ids v9)), (13, wr h4 h4, (ids v10)), (14, wr h4 h11, (ids.idsL [(.d (.num .i64 0)), v12, v13])), (16, wr h11 h2, rd14), (17, wr h2 h3, (ids (nth vs0 5)))] ∧
  BIN 0 .add (nth vs0 6) (.d (.num .i64 1)) fun v15 =>
  next16 [(nth vs0 0), (nth vs0 1), (nth vs0 2), (nth vs0 3), (nth vs0 4), (nth vs0 5), v15] h3
def vc_top_TopPaid_k1 (P : Ctx) (pre : List ABlk) (r : AV) (post : List PB) (v0 : AV) (h2 : Heap) (vs3 : List AV) (v4 : AV) (h5 : Heap) (rd6 : List Nat) (next23 : List AV → Heap → Prop) : Prop :=
  NOT v0 fun v1 =>
  ORDX [] [0, 0, 0, 6, 14, 31, 63] [(0, wr h2 h2, (ids (nth vs3 2))), (3, wr h2 h2, (ids (nth vs3 3))), (4, wr h2 h2, (ids v4)), (5, wr h2 h5, rd6)] ∧
  COND v1
  (POST (.d (.bool false)) h5 pre r post)
  (LOAD true 3 (nth vs3 5) h5 fun v7 =>
  IADDR 1 T_int (nth vs3 3) (nth vs3 6) h5 fun v8 =>
  LOAD false 1 v8 h5 fun v9 =>
  FADDR 1 (nth vs3 2) h5 fun v10 =>
  LOAD false 1 v10 h5 fun v11 =>
  IADDR 1 T_int (nth vs3 3) (nth vs3 6) h5 fun v12 =>
  LOAD false 1 v12 h5 fun v13 =>
  IADDR 3 T_api_ProofLine v11 v13 h5 fun v14 =>
  FADDR 1 v14 h5 fun v15 =>
  LOAD false 1 v15 h5 fun v16 =>
  MKS T_int 1 [(.d (.num .i64 0)), v9, v16] 888 h5 fun v17 h18 =>
  BUILD [(0, 1), (1, 1)] [.d (.num .i64 0), .zc] [(0, (.d (.num .i64 2))), (1, v17)] fun v19 =>
  CALL P f_ref09_With [v7, v19] 904 h18 (fun rd20 v21 h22 =>
  vc_top_TopPaid_k0 P pre r post vs3 v21 h22 h5 v8 v10 v12 v11 v14 v15 h18 v9 v16 rd20 next23)
  (fun _ _ _ => False))
def vc_top_TopPaid_k2 (P : Ctx) (pre : List ABlk) (r : AV) (post : List PB) (v0 : AV) (h3 : Heap) (vs7 : List AV) (v8 : AV) (v14 : AV) (v17 : AV) : Prop :=
  EXT v0 0 fun v1 =>
  EXT v0 1 fun v2 =>
  ALLOC T_api_Span [.d (.num .i64 0), .d (.num .i64 0)] 1088 h3 fun v4 h5 =>
  STORE 2 v4 v1 h5 fun h6 =>
  BIN 0 .mul (nth vs7 0) v8 fun v9 =>
  LEN false (nth vs7 3) h6 fun v10 =>
  BIN 0 .mul (nth vs7 1) v10 fun v11 =>
  BIN 0 .sub v9 v11 fun v12 =>
  MAXK (.d (.num .i64 0)) v12 fun v13 =>
  BIN 0 .eql v14 (.d (.num .i64 0)) fun v15 =>
  CONDG v15
  (BIN 0 .eql v2 (.d (.num .i64 0)) fun v16 =>
  CONDG v16
  (LOAD true 2 v17 h6 fun v18 =>
  BUILD [(0, 1), (1, 1)] [.d (.num .i64 0), .d (.num .i64 0)] [(0, v13), (1, v13)] fun v19 =>
  BIN 1002 .eql v18 v19 fun v20 =>
  CONDG v20
  (LOAD true 2 v4 h6 fun v21 =>
  BIN 0 .mul (nth vs7 0) v8 fun v22 =>
  BIN 0 .mul (nth vs7 0) v8 fun v23 =>
  BUILD [(0, 1), (1, 1)] [.d (.num .i64 0), .d (.num .i64 0)] [(0, v22), (1, v23)] fun v24 =>
  BIN 1002 .eql v21 v24 fun v25 =>
  CONDG v25
  (CALL P f_top_known11 [] 1392 h6 (fun _ v27 h28 =>
  POST v27 h28 pre r post)
  (fun _ _ _ => False))
  (POST (.d (.bool false)) h6 pre r post))
  (POST (.d (.bool false)) h6 pre r post))
  (POST (.d (.bool false)) h6 pre r post))
  (POST (.d (.bool false)) h6 pre r post)
def vc_top_TopPaid_k3 (P : Ctx) (pre : List ABlk) (r : AV) (post : List PB) (v0 : AV) (h3 : Heap) (v7 : AV) (vs12 : List AV) (v13 : AV) : Prop :=
  EXT v0 0 fun v1 =>
  EXT v0 1 fun v2 =>
  ALLOC T_api_Span [.d (.num .i64 0), .d (.num .i64 0)] 1024 h3 fun v4 h5 =>
  STORE 2 v4 v1 h5 fun h6 =>
  LOAD true 7 v7 h6 fun v8 =>
  CALL P f_pay_Owed [v8, (.d (.num .i64 1))] 1056 h6 (fun _ v10 h11 =>
  vc_top_TopPaid_k2 P pre r post v10 h11 vs12 v13 v2 v4)
  (fun _ _ _ => False)
def vc_top_TopPaid_k4 (P : Ctx) (pre : List ABlk) (r : AV) (post : List PB) (v0 : AV) (h4 : Heap) (vs7 : List AV) : Prop :=
  EXT v0 0 fun v1 =>
  EXT v0 1 fun v2 =>
  BIN 0 .neq v2 (.d (.num .i64 0)) fun v3 =>
  CONDG v3
  (POST (.d (.bool false)) h4 pre r post)
  (LEN false v1 h4 fun v5 =>
  BIN 0 .neq v5 (.d (.num .i64 0)) fun v6 =>
  COND v6
  (POST (.d (.bool false)) h4 pre r post)
  (FADDR 1 (nth vs7 2) h4 fun v8 =>
  LOAD false 1 v8 h4 fun v9 =>
  LEN false v9 h4 fun v10 =>
  LEN false (nth vs7 4) h4 fun v11 =>
  LEN false (nth vs7 4) h4 fun v12 =>
  BUILD [(0, 1), (1, 1)] [.d (.num .i64 0), .d (.num .i64 0)] [(0, v11), (1, v12)] fun v13 =>
  BUILD [(0, 1), (1, 1), (2, 2), (4, 1), (5, 1), (6, 4)] [.d (.num .i64 0), .d (.num .i64 0), .d (.num .i64 0), .d (.num .i64 0), .d (.num .i64 0), .d (.num .i64 0), .d (.num .i64 0), .d (.num .i64 0), .d (.num .i64 0), .d (.num .i64 0)] [(1, v10), (2, v13)] fun v14 =>
  BUILD [(0, 1), (1, 1), (2, 2), (4, 1), (5, 1), (6, 4)] [.d (.num .i64 0), .d (.num .i64 0), .d (.num .i64 0), .d (.num .i64 0), .d (.num .i64 0), .d (.num .i64 0), .d (.num .i64 0), .d (.num .i64 0), .d (.num .i64 0), .d (.num .i64 0)] [(1, v10)] fun v15 =>
  MKS T_api_PayLine 10 [v14, v15] 952 h4 fun v16 h17 =>
  BUILD [(0, 1), (1, 1), (2, 1), (3, 1), (4, 1), (5, 1), (6, 1)] [.d (.num .i64 0), .d (.num .i64 0), .d (.num .i64 0), .d (.num .i64 0), .d (.num .i64 0), .d (.num .i64 0), .zc] [(0, (.d (.num .i64 1))), (1, (.d (.num .i64 1))), (2, (nth vs7 0)), (3, (nth vs7 1)), (6, v16)] fun v18 =>
  ALLOC T_api_PayBook [.d (.num .i64 0), .d (.num .i64 0), .d (.num .i64 0), .d (.num .i64 0), .d (.num .i64 0), .d (.num .i64 0), .zc] 968 h17 fun v19 h20 =>
  STORE 7 v19 v18 h20 fun h21 =>
  LOAD true 7 v19 h21 fun v22 =>
  CALL P f_pay_Owed [v22, (.d (.num .i64 0))] 992 h21 (fun _ v24 h25 =>
  vc_top_TopPaid_k3 P pre r post v24 h25 v19 vs7 v10)
  (fun _ _ _ => False)))
def vc_top_TopPaid_k5 (P : Ctx) (pre : List ABlk) (r : AV) (post : List PB) (vs0 : List AV) (h1 : Heap) (next10 : List AV → Heap → Prop) : Prop :=
  LEN false (nth vs0 3) h1 fun v2 =>
  BIN 0 .lss (nth vs0 6) v2 fun v3 =>
  COND v3
  (LOAD true 3 (nth vs0 2) h1 fun v4 =>
  IADDR 1 T_int (nth vs0 3) (nth vs0 6) h1 fun v5 =>
  LOAD false 1 v5 h1 fun v6 =>
  CALL P f_ref09_Line [v4, v6] 760 h1 (fun rd7 v8 h9 =>
  vc_top_TopPaid_k1 P pre r post v8 h1 vs0 v5 h9 rd7 next10)
  (fun _ _ _ => False))
  (LOAD true 3 (nth vs0 5) h1 fun v11 =>
  CALL P f_proof_Errors [v11] 728 h1 (fun _ v13 h14 =>
  vc_top_TopPaid_k4 P pre r post v13 h14 vs0)
  (fun _ _ _ => False))
def vc_top_TopPaid_k6 (P : Ctx) (pre : List ABlk) (r : AV) (post : List PB) (v0 : AV) (h2 : Heap) (v3 : AV) (v5 : AV) (v16 : AV) (a24 : AV) (a25 : AV) : Prop :=
  BIN 0 .neq v0 (.d (.num .i64 5)) fun v1 =>
  CONDG v1
  (POST (.d (.bool false)) h2 pre r post)
  (LEN false v3 h2 fun v4 =>
  FADDR 1 v5 h2 fun v6 =>
  LOAD false 1 v6 h2 fun v7 =>
  LEN false v7 h2 fun v8 =>
  BIN 0 .gtr v4 v8 fun v9 =>
  COND v9
  (POST (.d (.bool false)) h2 pre r post)
  (BIN 0 .neq v0 (.d (.num .i64 0)) fun v10 =>
  COND v10
  (LEN false v3 h2 fun v11 =>
  BIN 0 .gtr v11 (.d (.num .i64 0)) fun v12 =>
  CONDG v12
  (CALL P f_top_known11 [] 640 h2 (fun _ v14 h15 =>
  POST v14 h15 pre r post)
  (fun _ _ _ => False))
  (POST (.d (.bool false)) h2 pre r post))
  (LEN false v16 h2 fun v17 =>
  LEN false v3 h2 fun v18 =>
  BIN 0 .neq v17 v18 fun v19 =>
  COND v19
  (POST (.d (.bool false)) h2 pre r post)
  (LOAD true 3 v5 h2 fun v20 =>
  ALLOC T_api_ProofPage [.d (.num .i64 0), .zc, .zc] 656 h2 fun v21 h22 =>
  STORE 3 v21 v20 h22 fun h23 =>
  LOOP [a24, a25, v5, v3, v16, v21, (.d (.num .i64 0))] h23 680 fun vs26 h27 next28 =>
  vc_top_TopPaid_k5 P pre r post vs26 h27 next28))))
def vc_top_TopPaid_k7 (P : Ctx) (pre : List ABlk) (r : AV) (post : List PB) (v0 : AV) (h1 : Heap) (v3 : AV) (v8 : AV) (v15 : AV) (a23 : AV) (a24 : AV) : Prop :=
  LEN false v0 h1 fun v2 =>
  FADDR 1 v3 h1 fun v4 =>
  LOAD false 1 v4 h1 fun v5 =>
  LEN false v5 h1 fun v6 =>
  BIN 0 .gtr v2 v6 fun v7 =>
  COND v7
  (POST (.d (.bool false)) h1 pre r post)
  (BIN 0 .neq v8 (.d (.num .i64 0)) fun v9 =>
  COND v9
  (LEN false v0 h1 fun v10 =>
  BIN 0 .gtr v10 (.d (.num .i64 0)) fun v11 =>
  CONDG v11
  (CALL P f_top_known11 [] 640 h1 (fun _ v13 h14 =>
  POST v13 h14 pre r post)
  (fun _ _ _ => False))
  (POST (.d (.bool false)) h1 pre r post))
  (LEN false v15 h1 fun v16 =>
  LEN false v0 h1 fun v17 =>
  BIN 0 .neq v16 v17 fun v18 =>
  COND v18
  (POST (.d (.bool false)) h1 pre r post)
  (LOAD true 3 v3 h1 fun v19 =>
  ALLOC T_api_ProofPage [.d (.num .i64 0), .zc, .zc] 656 h1 fun v20 h21 =>
  STORE 3 v20 v19 h21 fun h22 =>
  LOOP [a23, a24, v3, v0, v15, v20, (.d (.num .i64 0))] h22 680 fun vs25 h26 next27 =>
  vc_top_TopPaid_k5 P pre r post vs25 h26 next27)))
def vc_top_TopPaid_k8 (P : Ctx) (pre : List ABlk) (r : AV) (post : List PB) (v0 : AV) (v3 : AV) (h5 : Heap) (v7 : AV) (v8 : AV) (a9 : AV) (a10 : AV) : Prop :=
  EXT v0 0 fun v1 =>
  EXT v0 1 fun v2 =>
  BIN 0 .neq v3 (.d (.num .i64 0)) fun v4 =>
  CONDG v4
  (POST (.d (.bool false)) h5 pre r post)
  (BIN 0 .neq v2 (.d (.num .i64 0)) fun v6 =>
  CONDG v6
  (vc_top_TopPaid_k6 P pre r post v2 h5 v7 v8 v1 a9 a10)
  (vc_top_TopPaid_k7 P pre r post v7 h5 v8 v2 v1 a9 a10))
def vc_top_TopPaid_k9 (P : Ctx) (pre : List ABlk) (r : AV) (post : List PB) (v0 : AV) (h2 : Heap) (v6 : AV) (a13 : AV) (a20 : AV) : Prop :=
  NOT v0 fun v1 =>
  CONDG v1
  (CALL P f_top_known11 [] 336 h2 (fun _ v4 h5 =>
  POST v4 h5 pre r post)
  (fun _ _ _ => False))
  (FADDR 2 v6 h2 fun v7 =>
  LOAD false 1 v7 h2 fun v8 =>
  LEN false v8 h2 fun v9 =>
  BIN 0 .gtr v9 (.d (.num .i64 4)) fun v10 =>
  CONDG v10
  (CALL P f_top_known11 [] 336 h2 (fun _ v4 h12 =>
  POST v4 h12 pre r post)
  (fun _ _ _ => False))
  (BIN 0 .lss a13 (.d (.num .i64 0)) fun v14 =>
  CONDG v14
  (CALL P f_top_known11 [] 336 h2 (fun _ v4 h16 =>
  POST v4 h16 pre r post)
  (fun _ _ _ => False))
  (BIN 0 .gtr a13 (.d (.num .i64 800)) fun v17 =>
  CONDG v17
  (CALL P f_top_known11 [] 336 h2 (fun _ v4 h19 =>
  POST v4 h19 pre r post)
  (fun _ _ _ => False))
  (BIN 0 .lss a20 (.d (.num .i64 0)) fun v21 =>
  CONDG v21
  (CALL P f_top_known11 [] 336 h2 (fun _ v4 h23 =>
  POST v4 h23 pre r post)
  (fun _ _ _ => False))
  (BIN 0 .gtr a20 (.d (.num .i64 800)) fun v24 =>
  COND v24
  (CALL P f_top_known11 [] 336 h2 (fun _ v4 h26 =>
  POST v4 h26 pre r post)
  (fun _ _ _ => False))
  (LOAD true 3 v6 h2 fun v27 =>
  CALL P f_proof_Differs [v27] 344 h2 (fun _ v29 h30 =>
  EXT v29 0 fun v31 =>
  EXT v29 1 fun v32 =>
  LOAD true 3 v6 h30 fun v33 =>
  CALL P f_proof_Errors [v33] 400 h30 (fun _ v35 h36 =>
  vc_top_TopPaid_k8 P pre r post v35 v32 h36 v31 v6 a13 a20)
  (fun _ _ _ => False))
  (fun _ _ _ => False)))))))
def vc_top_TopPaid (P : Ctx) (pre : List ABlk) (a0 a1 a2 : AV) (r : AV) (post : List PB) : Prop :=
  let h0 : Heap := numbered 0 pre
  BOX T_api_ProofPage a0 24 h0 fun v3 h1 =>
  FADDR 1 v3 h1 fun v22 =>
  LOAD false 1 v22 h1 fun v23 =>
  LEN false v23 h1 fun v24 =>
  BIN 0 .gtr v24 (.d (.num .i64 8)) fun v25 =>
  CONDG v25
  (CALL P f_top_known11 [] 336 h1 (fun _ v59 h2 =>
  POST v59 h2 pre r post)
  (fun _ _ _ => False))
  (FADDR 2 v3 h1 fun v27 =>
  LOAD false 1 v27 h1 fun v28 =>
  LEN false v28 h1 fun v29 =>
  BIN 0 .gtr v29 (.d (.num .i64 12)) fun v30 =>
  CONDG v30
  (CALL P f_top_known11 [] 336 h1 (fun _ v59 h4 =>
  POST v59 h4 pre r post)
  (fun _ _ _ => False))
  (LOAD true 3 v3 h1 fun v33 =>
  CALL P f_ref09_Page [v33] 136 h1 (fun _ v34 h6 =>
  vc_top_TopPaid_k9 P pre r post v34 h6 v3 a1 a2)
  (fun _ _ _ => False)))
theorem vc_top_TopPaid_eq (g : GG) (pre : List ABlk) (a0 a1 a2 : AV) (r : AV) (post : List PB) : vcFn2 (Tz g) false ann_top_TopPaid Tryz.f3 pre [a0, a1, a2] (.ret r) post = vc_top_TopPaid (Tz g) pre a0 a1 a2 r post := by kernel_rfl
theorem hf_top_TopPaid : Tryz.prog.funcs[f_top_TopPaid]? = some Tryz.f3 := by kernel_rfl
theorem ok_top_TopPaid : fnVcOK Tryz.prog Tryz.f3 = true := by kernel_rfl
theorem nt_top_TopPaid : Nat.ble 3 Tryz.f3.ntmps = true := by kernel_rfl
theorem meetsH_top_TopPaid {g : GG} {pre : List ABlk} {a0 a1 a2 : AV} {r : AV} {post : List PB} (hk : Nat.ble pre.length 24 = true) (h : vc_top_TopPaid (Tz g) pre a0 a1 a2 r post) : MeetsH (Tz g) f_top_TopPaid pre [a0, a1, a2] (.ret r) post :=
  meetsH_of_vc (C := Tz g) ann_top_TopPaid hf_top_TopPaid ok_top_TopPaid nt_top_TopPaid hk (pn := false) (Eq.mpr ((vcFn2_eq _ _ _ _ _ _ _ _).trans (vc_top_TopPaid_eq g pre a0 a1 a2 r post)) h)
theorem meets_top_TopPaid {g : GG} {a0 a1 a2 : D} {r : Res} (h : vc_top_TopPaid (Tz g) [] (.d a0) (.d a1) (.d a2) r.val (r.bl.map .upd)) : Meets (Tz g) f_top_TopPaid [a0, a1, a2] r := meetsH_top_TopPaid rfl h
end Go.Vc

namespace Go.Vc
open Go Go.Proofs
variable {g : GG}
attribute [local simp] and_assoc
theorem known_call {new : Nat} {h : Heap} {K KP : List Nat → AV → Heap → Prop} (h3 : K [] (.d (.bool true)) h) : CALL (Tz g) f_top_known11 [] new h K KP :=
  CALL.val [] _ rfl known_meets (.inl rfl) h3
def pgX (q : Pg) : ABlk := ⟨0, T_api_ProofPage, .box [.d (int q.people), .d (.list (q.lines.map Ln.d)), .d (.list (q.log.map Nt.d))]⟩
set_option maxHeartbeats 8000000 in
theorem paid_end (p q : Pg) (rate fine : Int) (l : List (Int × Int)) (d : List Int) (h : Heap) (hr : 0 ≤ rate ∧ rate ≤ 800) (hf : 0 ≤ fine ∧ fine ≤ 800) (hpl : 1 ≤ p.lines.length ∧ p.lines.length ≤ 6) (hld : l.length = d.length) (hdl : d.length ≤ p.lines.length) :
    vc_top_TopPaid_k4 (Tz g) [] (.d (.bool true)) [] (.tup [.d (.list []), .d (int 0)]) ((656, some (pgX q)) :: (24, some (pgX p)) :: h) [.d (int rate), .d (int fine), .ptr 24 0 0 0, .d (ints d), .d (.list (l.map errD)), .ptr 656 0 0 0, .d (int d.length)] := by
  have hx : ∀ y, y ∈ [Pn.mk p.lines.length l.length, Pn.mk p.lines.length 0] → lineOK y := fun y hy => by
    simp at hy
    rcases hy with rfl | rfl <;> simp [lineOK] <;> omega
  have h0 := pay_Owed_meets (g := g) rate fine [Pn.mk p.lines.length l.length, Pn.mk p.lines.length 0] 0 _ hr hf (by simp) rfl hx
  have h1 := pay_Owed_meets (g := g) rate fine [Pn.mk p.lines.length l.length, Pn.mk p.lines.length 0] 1 _ hr hf (by simp) rfl hx
  obtain ⟨c1, c2⟩ := mul_bnd hr (b := (p.lines.length : Int)) (by omega)
  obtain ⟨c3, c4⟩ := mul_bnd hf (b := (d.length : Int)) (by omega)
  have e0 : owedI rate fine (Pn.mk p.lines.length l.length) = max 0 (rate * (p.lines.length : Int) - fine * (d.length : Int)) := by
    unfold owedI
    rw [hld]
  have e1 : owedI rate fine (Pn.mk p.lines.length 0) = rate * (p.lines.length : Int) := by
    unfold owedI
    simp
    omega
  rw [e0] at h0
  rw [e1] at h1
  have w1 := wrap_id (n := rate * (p.lines.length : Int)) (by omega) (by omega)
  have w2 := wrap_id (n := fine * (d.length : Int)) (by omega) (by omega)
  have w3 := wrap_id (n := rate * (p.lines.length : Int) - fine * (d.length : Int)) (by omega) (by omega)
  simp [vc_top_TopPaid_k4, pgX]
  refine CALL.mk [bookD rate fine [Pn.mk p.lines.length l.length, Pn.mk p.lines.length 0], int 0] _ (by simp [bookD, bookC, pns, Pn.d]) h0 (.inr ⟨rfl, trivial⟩) (by simp) ?_
  simp [vc_top_TopPaid_k3, AV.ren, AV.ren.renL]
  refine CALL.mk [bookD rate fine [Pn.mk p.lines.length l.length, Pn.mk p.lines.length 0], int 1] _ (by simp [bookD, bookC, pns, Pn.d]) h1 (.inr ⟨rfl, trivial⟩) (by simp) ?_
  simp [vc_top_TopPaid_k2, AV.ren, AV.ren.renL, ints, w1, w2, w3]
  exact known_call (by simp)
set_option maxHeartbeats 8000000 in
theorem paid_meets (p : Pg) (rate fine : Int) (_ : -9223372036854775808 ≤ rate ∧ rate ≤ 9223372036854775807) (_ : -9223372036854775808 ≤ fine ∧ fine ≤ 9223372036854775807) : Meets (Tz g) f_top_TopPaid [p.d, int rate, int fine] ⟨.d (.bool true), []⟩ := by
  refine meets_top_TopPaid ?_
  unfold vc_top_TopPaid
  simp [Pg.d, lns, ents]
  refine ⟨fun _ => known_call (by simp), fun b1 => ⟨fun _ => known_call (by simp), fun b2 => ?_⟩⟩
  refine CALL.val [p.d] _ rfl (ref09_Page_meets p (by omega) (by omega)) (.inl rfl) ?_
  cases hok : p.ok with
  | false =>
    simp [vc_top_TopPaid_k9]
    exact known_call (by simp)
  | true =>
    obtain ⟨a1, a2, a3, a4, a5, a6, a7⟩ := Pg.ok_len hok
    simp [vc_top_TopPaid_k9]
    refine ⟨fun _ => known_call (by simp), fun b3 => ⟨fun _ => known_call (by simp), fun b4 => ⟨fun _ => known_call (by simp), fun b5 => ⟨fun _ => known_call (by simp), fun b6 => ⟨fun _ => known_call (by simp), fun b7 => ?_⟩⟩⟩⟩⟩
    have hel := err_law hok
    have hdl := difL_len p
    obtain ⟨m1, m2⟩ := mend_all p hok (by omega)
    have hel2 := err_law m1
    have hml := mendK_law p hok (difL p) (fun x hx => mem_dif hx) (by omega)
    have hmm : ∀ x, x ∈ difL p → ∃ k : Nat, x = k ∧ k < p.lines.length := fun x hx => mem_dif hx
    refine CALL.mk [p.d] _ rfl (proof_Differs_data p hok) (.inl rfl) (by simp) ?_
    simp
    refine CALL.mk [p.d] _ rfl (proof_Errors_data p hok) (.inl rfl) (by simp) ?_
    generalize difL p = d at *
    have hdl1 : ¬ p.lines.length < d.length := by omega
    rcases hel with ⟨q1, q2, q3⟩ | ⟨q1, q2, q3⟩
    · have hle : (errLP p).length = d.length := by rw [← q2]; simp
      simp [vc_top_TopPaid_k8, q1, vc_top_TopPaid_k7, ints, hle]
      refine ⟨hdl, fun _ => ?_⟩
      refine LOOP.mk Nat (fun i => [.d (int rate), .d (int fine), .ptr 24 0 0 0, .d (ints d), .d (.list ((errLP p).map errD)), .ptr 656 0 0 0, .d (int i)]) (fun i => [(656, some (pgX (mendK p d i))), (24, some (pgX p))]) (fun i => i ≤ d.length) (fun i => d.length - i) [] (by simp) 0 (by omega) (by simp [WEAK, ints, pgX, mendK]) (fun _ _ => rfl) ?_
      intro i hi
      have hwi := wrap_id (n := (i : Int) + 1) (by omega) (by omega)
      obtain ⟨e1, e2, e3⟩ := mendK_same p d i
      simp [vc_top_TopPaid_k5, ints]
      refine ⟨fun hlt => ?_, fun hge => ?_⟩
      · have hx : d[i]? = some (d.getD i 0) := by
          rw [List.getD_eq_getElem?_getD, List.getElem?_eq_getElem hlt]
          rfl
        obtain ⟨k, hk, hkl⟩ := hmm _ (List.mem_of_getElem? hx)
        have hmk : mendK p d (i + 1) = withE (mendK p d i) (mendE p k) := by
          simp only [mendK]
          rw [hk]
        rw [hk] at hx
        obtain ⟨ln, hln⟩ : ∃ ln, p.lines[k]? = some ln := ⟨_, List.getElem?_eq_getElem hkl⟩
        have hE : mendE p k = ⟨2, [0, (k : Int), ln.right]⟩ := by
          unfold mendE
          simp only [Int.toNat_natCast]
          rw [rightL_at hln]
        have hlB : lineB p (k : Int) = true := by simp [lineB, inB]; omega
        have hW := ref09_With_meets (g := g) (mendK p d i) (mendE p k) (by omega)
        rw [← hmk, hE] at hW
        simp [hx, pgX]
        refine CALL.val [p.d, int k] _ rfl (ref09_Line_meets p k (by omega)) (.inl rfl) ?_
        obtain ⟨q', hmq⟩ : ∃ q', mendK p d (i + 1) = q' := ⟨_, rfl⟩
        rw [hmq] at hW
        generalize mendK p d i = q at *
        simp [hlB, vc_top_TopPaid_k1, hx, hln, Ln.d]
        refine ⟨rfl, ?_⟩
        refine CALL.data [q.d, (⟨2, [0, (k : Int), ln.right]⟩ : Nt).d] _ (by simp [Nt.d, ints, Pg.d, lns, ents]) hW ?_
        simp [vc_top_TopPaid_k0, Pg.d, lns, ents, hwi]
        exact ⟨rfl, i + 1, by omega, by simp [WEAK, lookH, hmq], by omega⟩
      · have hie : i = d.length := by omega
        subst hie
        obtain ⟨q, hq⟩ : ∃ q, mendK p d d.length = q := ⟨_, rfl⟩
        rw [hq] at m1 m2 hel2 e1 e2 e3
        rw [hq]
        obtain ⟨r1, r2⟩ : errCP q = 0 ∧ errLP q = [] := by
          rcases hel2 with ⟨r1, r2, r3⟩ | ⟨r1, r2, r3⟩
          · rw [m2] at r2
            exact ⟨r1, List.map_eq_nil_iff.1 r2⟩
          · exact absurd m2 r3
        have hE := proof_Errors_data (g := g) q m1
        rw [r1, r2] at hE
        simp [pgX]
        refine CALL.mk [q.d] _ rfl hE (.inl rfl) (by simp) ?_
        have := paid_end (g := g) p q rate fine (errLP p) d [] ⟨b4, b5⟩ ⟨b6, b7⟩ ⟨a3, a4⟩ hle hdl
        simp [pgX, ints] at this
        simpa [AV.ren, AV.ren.renL] using this
    · simp [vc_top_TopPaid_k8, q1, vc_top_TopPaid_k6, ints]
      exact ⟨hdl, fun _ => ⟨fun _ => known_call (by simp), fun h => q3 h⟩⟩
end Go.Vc

namespace Go.Vc
open Go Go.RowKit Go.ChangeShapes Go.WideShapes Go.ChangeAt Go.Proofs Go.Proofs.YtonajancjagefaaGreat
theorem paid_calls {H : Type} {enc : TypeId × Value → H} (W : World) (base : Nat) (args : Array Value) (ds : List (DataW H)) (ps : List MemPlace) (hval : ∀ (j : Nat) t v, Tryz.f3.params[j]? = some t → args[j]? = some v → Value.okWide Tryz.prog W .any base t v)
    (hA : DataW.TrodAll enc Tryz.prog W 0 (fun _ => true) true Tryz.f3.params.toList args.toList ds ps) (hsh : W.ShapedOpen Tryz.prog) : Calls Tryz.prog 3 args W fun e W' => e = .returned (.bool true) ∧ Below W.heap.size W W' := by
  rw [Tryz.params3] at hA hval
  obtain ⟨v0, v1, v2, d0, d1, d2, p0, p1, p2, rfl, rfl, rfl, h0, h1, h2⟩ := trodAll_three hA
  obtain ⟨x0, g0⟩ := open_page (hval 0 25 v0 rfl rfl) h0
  obtain ⟨x1, g1, b1⟩ := open_int' (hval 1 3 v1 rfl rfl) h1
  obtain ⟨x2, g2, b2⟩ := open_int' (hval 2 3 v2 rfl rfl) h2
  exact law_calls (C := Tz (gW W)) (paid_meets (g := gW W) x0 x1 x2 b1 b2) rfl (Below.refl _ _) (us := [v0, v1, v2]) rfl (fun i d u hd hu => by
    match i, hd, hu with
    | 0, hd, hu => simp at hd hu; subst hd; subst hu; exact g0
    | 1, hd, hu => simp at hd hu; subst hd; subst hu; exact g1
    | 2, hd, hu => simp at hd hu; subst hd; subst hu; exact g2
    | i + 3, hd, hu => simp at hd)
theorem paid_lifted (os : Os) (started : os.Started) (H : Type) (enc : TypeId × Value → H) :
    ReturnsInHanded {} Tryz.checked os 3 .any (fun w args => (Rows.topPaidSpec.pre enc Tryz.prog Tryz.f3 [] false w args ∧ laidMetH Tryz.prog [] w) ∧ sizedMet enc Tryz.prog Tryz.f3 (OpenSpec.ofChange Rows.topPaidSpec) false w args)
      (Rows.topPaidSpec.post enc Tryz.prog Tryz.f3 false true false false) :=
  law_lifted (C := Tryz.checked) (tb := 4) (n := 3) started own (by kernel_rfl) Tryz.func3
    (ChangeSpec.witness_shaped (enc := enc) (C := Tryz.checked) (os := os) (X := fun w _ => laidMetH Tryz.prog [] w) false (World.laidAll Tryz.prog os []) #[.agg #[.int .i64 0, .slice none 0 0, .slice none 0 0], .int .i64 0, .int .i64 0] 8 (World.laidAll_os _ _ _)
      (World.shaped_of_ZipB (by kernel_rfl) (by kernel_rfl)) (by kernel_rfl) (by kernel_rfl) (by kernel_rfl)
      ((laid0 _ _).2 trivial))
    laidOut (by kernel_rfl) (by kernel_rfl) Tryz.underlying4 rfl (by kernel_rfl) (fun ds hl => by
      match ds, hl with
      | [a, b, c], _ => rfl) (fun W base args ds ps hval hA _ hsh => paid_calls W base args ds ps hval hA hsh)
theorem paid_holds : Rows.TopPaidSaid :=
  OpenClaim.holds_of_wide 3 Tryz.f3 rfl rfl rfl rfl rfl rfl rfl ⟨rfl, rfl, rfl, rfl, rfl⟩ rfl rfl rfl rfl rfl (by kernel_rfl) Tryz.func3 (by kernel_rfl)
    (of_decide_eq_true (by kernel_rfl)) (by unfold Func.isWrapper; first | (rw [if_pos (by decide +kernel)]; kernel_rfl) | (rw [if_neg (by decide +kernel)]; exact ⟨rfl, rfl⟩))
    (fun os started H enc _ => by
      have h := paid_lifted os started H enc
      simp only [laid0, and_true] at h
      exact h)
end Go.Vc

namespace Go.Proofs.YtonajancjagefaaGreat
theorem law_TopPaidSaid : Rows.TopPaidSaid := Go.Vc.paid_holds
end Go.Proofs.YtonajancjagefaaGreat
