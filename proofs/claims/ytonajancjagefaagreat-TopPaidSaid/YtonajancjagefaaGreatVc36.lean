/- A part of the proof: general laws of a reading of the model by abstract data, or contracts of the functions that the law calls. -/
import Derived.Test.YtonajancjagefaaGreatVc29
import Derived.Test.YtonajancjagefaaGreatVc15
set_option maxRecDepth 100000
namespace Go.Vc
open Go Go.Proofs Go.RowKit
def ann_proof_pageOf : Nat → List Nat := fun n => match n with | 3 => [1, 3, 14, 15, 16] | 9 => [3, 6, 54, 55, 56] | _ => []
def vc_proof_pageOf_k0 (_P : Ctx) (_pre : List ABlk) (_r : AV) (_post : List PB) (h0 : Heap) (v1 : AV) (v2 : AV) (vs3 : List AV) (v4 : AV) (v5 : AV) (h6 : Heap) (rd7 : List Nat) (next9 : List AV → Heap → Prop) : Prop :=
  ORDX [] [0, 1, 3, 7, 15, 0, 0, 0, 128, 511] [(0, wr h0 h0, (ids v1)), (1, wr h0 h0, (ids v2)), (3, wr h0 h0, (ids (nth vs3 1))), (4, wr h0 h0, (ids v4)), (7, wr h0 h0, (ids v1)), (8, wr h0 h0, (ids v5)), (9, wr h0 h6, rd7)] ∧
  BIN 0 .add (nth vs3 4) (.d (.num .i64 1)) fun v8 =>
  next9 [(nth vs3 0), (nth vs3 1), (nth vs3 2), (nth vs3 3), v8] h6
def vc_proof_pageOf_k1 (P : Ctx) (pre : List ABlk) (r : AV) (post : List PB) (vs0 : List AV) (h2 : Heap) (next18 : List AV → Heap → Prop) : Prop :=
  BIN 0 .lss (nth vs0 4) (nth vs0 3) fun v1 =>
  COND v1
  (IADDR 2 T_api_ProofEntry (nth vs0 2) (nth vs0 4) h2 fun v3 =>
  LOAD true 2 v3 h2 fun v4 =>
  ALLOC T_api_ProofEntry [.d (.num .i64 0), .zc] 224 h2 fun v5 h6 =>
  STORE 2 v5 v4 h6 fun h7 =>
  FADDR 0 v5 h7 fun v8 =>
  LOAD false 1 v8 h7 fun v9 =>
  BIN 0 .sub v9 (.d (.num .i64 1)) fun v10 =>
  AADDR 1 3 (nth vs0 1) v10 h7 fun v11 =>
  LOAD false 1 v11 h7 fun v12 =>
  FADDR 1 v5 h7 fun v13 =>
  LOAD false 1 v13 h7 fun v14 =>
  CALLV P v12 [(nth vs0 0), (nth vs0 4), v14] 320 h7 (fun rd15 _ h17 =>
  vc_proof_pageOf_k0 P pre r post h7 v5 v8 vs0 v11 v13 h17 rd15 next18)
  (fun _ _ _ => False))
  (POST (nth vs0 0) h2 pre r post)
def vc_proof_pageOf_k2 (_P : Ctx) (_pre : List ABlk) (_r : AV) (_post : List PB) (vs0 : List AV) (h1 : Heap) (next42 : List AV → Heap → Prop) : Prop :=
  IADDR 3 T_api_ProofLine (nth vs0 2) (nth vs0 4) h1 fun v2 =>
  LOAD true 3 v2 h1 fun v3 =>
  ALLOC T_api_ProofLine [.d (.num .i64 0), .d (.num .i64 0), .d (.num .i64 0)] 144 h1 fun v4 h5 =>
  STORE 3 v4 v3 h5 fun h6 =>
  FADDR 0 (nth vs0 1) h6 fun v7 =>
  FADDR 3 v7 h6 fun v8 =>
  LOAD false 1 v8 h6 fun v9 =>
  FADDR 2 v4 h6 fun v10 =>
  LOAD false 1 v10 h6 fun v11 =>
  MKS T_int 1 [v11] 232 h6 fun v12 h13 =>
  APP T_int 1 v9 v12 240 h13 fun v14 h15 =>
  FADDR 0 (nth vs0 1) h15 fun v16 =>
  FADDR 4 v16 h15 fun v17 =>
  LOAD false 1 v17 h15 fun v18 =>
  FADDR 0 v4 h15 fun v19 =>
  LOAD false 1 v19 h15 fun v20 =>
  MKS T_int 1 [v20] 296 h15 fun v21 h22 =>
  APP T_int 1 v18 v21 304 h22 fun v23 h24 =>
  FADDR 0 (nth vs0 1) h24 fun v25 =>
  FADDR 6 v25 h24 fun v26 =>
  LOAD false 1 v26 h24 fun v27 =>
  MKS T_int 1 [(.d (.num .i64 (-1)))] 344 h24 fun v28 h29 =>
  APP T_int 1 v27 v28 352 h29 fun v30 h31 =>
  FADDR 0 (nth vs0 1) h31 fun v32 =>
  FADDR 3 v32 h31 fun v33 =>
  STORE 1 v33 v14 h31 fun h34 =>
  FADDR 0 (nth vs0 1) h34 fun v35 =>
  FADDR 4 v35 h34 fun v36 =>
  STORE 1 v36 v23 h34 fun h37 =>
  FADDR 0 (nth vs0 1) h37 fun v38 =>
  FADDR 6 v38 h37 fun v39 =>
  STORE 1 v39 v30 h37 fun h40 =>
  ORDX [] [0, 0, 0, 0, 8, 24, 56, 0, 128, 384, 1016, 0, 2048, 6144, 14336, 0, 32768, 98304, 262136, 0, 524288, 1572864, 3670016, 0, 16777208, 33554425, 67108857, 134217721, 268435451, 536870907, 1073741819, 2147483647, 4294967295, 8589934591] [(4, wr h6 h6, (ids (nth vs0 1))), (5, wr h6 h6, (ids v7)), (6, wr h6 h6, (ids v8)), (7, wr h6 h6, (ids v4)), (8, wr h6 h6, (ids v10)), (9, wr h6 h13, (ids.idsL [v11])), (10, wr h13 h15, (ids.idsL [v9, v12])), (12, wr h15 h15, (ids (nth vs0 1))), (13, wr h15 h15, (ids v16)), (14, wr h15 h15, (ids v17)), (15, wr h15 h15, (ids v4)), (16, wr h15 h15, (ids v19)), (17, wr h15 h22, (ids.idsL [v20])), (18, wr h22 h24, (ids.idsL [v18, v21])), (20, wr h24 h24, (ids (nth vs0 1))), (21, wr h24 h24, (ids v25)), (22, wr h24 h24, (ids v26)), (23, wr h24 h29, (ids.idsL [(.d (.num .i64 (-1)))])), (24, wr h29 h31, (ids.idsL [v27, v28])), (25, wr h31 h31, (ids (nth vs0 1))), (26, wr h31 h31, (ids v32)), (27, wr h31 h34, (ids v33)), (28, wr h34 h34, (ids (nth vs0 1))), (29, wr h34 h34, (ids v35)), (30, wr h34 h37, (ids v36)), (31, wr h37 h37, (ids (nth vs0 1))), (32, wr h37 h37, (ids v38)), (33, wr h37 h40, (ids v39))] ∧
  BIN 0 .add (nth vs0 4) (.d (.num .i64 1)) fun v41 =>
  next42 [(nth vs0 0), (nth vs0 1), (nth vs0 2), (nth vs0 3), v41] h40
def vc_proof_pageOf_k3 (P : Ctx) (pre : List ABlk) (r : AV) (post : List PB) (h1 : Heap) (vs5 : List AV) : Prop :=
  BUILD [(0, 1), (1, 1), (2, 1)] [.d .nilf, .d .nilf, .d .nilf] [(0, (.d (.fn f_p_proof_page_reads [] []))), (1, (.d (.fn f_p_proof_page_mends [] []))), (2, (.d (.fn f_p_proof_page_falls [] [])))] fun v0 =>
  ALLOC T_3_func_p_proof_page_int_l_int [.d .nilf, .d .nilf, .d .nilf] 136 h1 fun v2 h3 =>
  STORE 3 v2 v0 h3 fun h4 =>
  FADDR 2 (nth vs5 0) h4 fun v6 =>
  LOAD false 1 v6 h4 fun v7 =>
  LEN false v7 h4 fun v8 =>
  LOOP [(nth vs5 1), v2, v7, v8, (.d (.num .i64 0))] h4 184 fun vs9 h10 next11 =>
  vc_proof_pageOf_k1 P pre r post vs9 h10 next11
def vc_proof_pageOf (P : Ctx) (pre : List ABlk) (a0 : AV) (r : AV) (post : List PB) : Prop :=
  let h0 : Heap := numbered 0 pre
  BOX T_api_ProofPage a0 24 h0 fun v1 h1 =>
  LOAD true 3 v1 h1 fun v9 =>
  MKMAP 48 h1 fun v10 h2 =>
  BUILD [(0, 3), (3, 1), (4, 1), (5, 1), (6, 1), (7, 1)] [.d (.num .i64 0), .zc, .zc, .zc, .zc, .any, .zc, .zc] [(0, v9), (3, v10)] fun v11 =>
  BOX T_proof_page v11 64 h2 fun v12 h3 =>
  FADDR 1 v1 h3 fun v13 =>
  LOAD false 1 v13 h3 fun v14 =>
  LEN false v14 h3 fun v15 =>
  LOOP [v1, v12, v14, v15, (.d (.num .i64 0))] h3 112 fun vs4 h5 next4 =>
  BIN 0 .lss (nth vs4 4) (nth vs4 3) fun v17 =>
  COND v17
  (vc_proof_pageOf_k2 P pre r post vs4 h5 next4)
  (vc_proof_pageOf_k3 P pre r post h5 vs4)
theorem vc_proof_pageOf_eq (g : GG) (pre : List ABlk) (a0 : AV) (r : AV) (post : List PB) : vcFn2 (Tz g) false ann_proof_pageOf Tryz.f23 pre [a0] (.ret r) post = vc_proof_pageOf (Tz g) pre a0 r post := by kernel_rfl
theorem hf_proof_pageOf : Tryz.prog.funcs[f_proof_pageOf]? = some Tryz.f23 := by kernel_rfl
theorem ok_proof_pageOf : fnVcOK Tryz.prog Tryz.f23 = true := by kernel_rfl
theorem nt_proof_pageOf : Nat.ble 1 Tryz.f23.ntmps = true := by kernel_rfl
theorem meetsH_proof_pageOf {g : GG} {pre : List ABlk} {a0 : AV} {r : AV} {post : List PB} (hk : Nat.ble pre.length 24 = true) (h : vc_proof_pageOf (Tz g) pre a0 r post) : MeetsH (Tz g) f_proof_pageOf pre [a0] (.ret r) post :=
  meetsH_of_vc (C := Tz g) ann_proof_pageOf hf_proof_pageOf ok_proof_pageOf nt_proof_pageOf hk (pn := false) (Eq.mpr ((vcFn2_eq _ _ _ _ _ _ _ _).trans (vc_proof_pageOf_eq g pre a0 r post)) h)
def ann_p_proof_page_differs : Nat → List Nat := fun n => match n with  | _ => []
def vc_p_proof_page_differs (_P : Ctx) (pre : List ABlk) (a0 a1 : AV) (r : AV) (post : List PB) : Prop :=
  let h0 : Heap := numbered 0 pre
  FADDR 0 a0 h0 fun v6 =>
  FADDR 3 v6 h0 fun v7 =>
  LOAD false 1 v7 h0 fun v8 =>
  IADDR 1 T_int v8 a1 h0 fun v10 =>
  LOAD false 1 v10 h0 fun v11 =>
  FADDR 0 a0 h0 fun v13 =>
  FADDR 0 v13 h0 fun v14 =>
  FADDR 1 v14 h0 fun v15 =>
  LOAD false 1 v15 h0 fun v16 =>
  IADDR 3 T_api_ProofLine v16 a1 h0 fun v18 =>
  FADDR 1 v18 h0 fun v19 =>
  LOAD false 1 v19 h0 fun v20 =>
  BIN 0 .neq v11 v20 fun v21 =>
  ORDX [] [0, 1, 3, 7, 0, 31, 63, 0, 128, 384, 896, 1920, 0, 8064, 16256, 32640, 65535, 131071] [(1, wr h0 h0, (ids a0)), (2, wr h0 h0, (ids v6)), (3, wr h0 h0, (ids v7)), (5, wr h0 h0, (ids v8)), (6, wr h0 h0, (ids v10)), (8, wr h0 h0, (ids a0)), (9, wr h0 h0, (ids v13)), (10, wr h0 h0, (ids v14)), (11, wr h0 h0, (ids v15)), (13, wr h0 h0, (ids v16)), (14, wr h0 h0, (ids v18)), (15, wr h0 h0, (ids v19))] ∧
  POST v21 h0 pre r post
theorem vc_p_proof_page_differs_eq (g : GG) (pre : List ABlk) (a0 a1 : AV) (r : AV) (post : List PB) : vcFn2 (Tz g) false ann_p_proof_page_differs Tryz.f24 pre [a0, a1] (.ret r) post = vc_p_proof_page_differs (Tz g) pre a0 a1 r post := by kernel_rfl
theorem hf_p_proof_page_differs : Tryz.prog.funcs[f_p_proof_page_differs]? = some Tryz.f24 := by kernel_rfl
theorem ok_p_proof_page_differs : fnVcOK Tryz.prog Tryz.f24 = true := by kernel_rfl
theorem nt_p_proof_page_differs : Nat.ble 2 Tryz.f24.ntmps = true := by kernel_rfl
theorem meetsH_p_proof_page_differs {g : GG} {pre : List ABlk} {a0 a1 : AV} {r : AV} {post : List PB} (hk : Nat.ble pre.length 24 = true) (h : vc_p_proof_page_differs (Tz g) pre a0 a1 r post) : MeetsH (Tz g) f_p_proof_page_differs pre [a0, a1] (.ret r) post :=
  meetsH_of_vc (C := Tz g) ann_p_proof_page_differs hf_p_proof_page_differs ok_p_proof_page_differs nt_p_proof_page_differs hk (pn := false) (Eq.mpr ((vcFn2_eq _ _ _ _ _ _ _ _).trans (vc_p_proof_page_differs_eq g pre a0 a1 r post)) h)
def ann_p_proof_page_reads : Nat → List Nat := fun n => match n with | 1 => [0, 1, 2, 6] | _ => []
def vc_p_proof_page_reads_k0 (_P : Ctx) (_pre : List ABlk) (_r : AV) (_post : List PB) (v0 : AV) (vs1 : List AV) (h2 : Heap) (next15 : List AV → Heap → Prop) : Prop :=
  COND v0
  (FADDR 0 (nth vs1 0) h2 fun v3 =>
  FADDR 7 v3 h2 fun v4 =>
  LOAD false 1 v4 h2 fun v5 =>
  BUILD [(0, 1), (1, 1)] [.d (.num .i64 0), .d (.num .i64 0)] [(0, (nth vs1 1)), (1, (nth vs1 3))] fun v6 =>
  MKS T_api_ProofMiss 2 [v6] 352 h2 fun v7 h8 =>
  APP T_api_ProofMiss 2 v5 v7 360 h8 fun v9 h10 =>
  FADDR 0 (nth vs1 0) h10 fun v11 =>
  FADDR 7 v11 h10 fun v12 =>
  STORE 1 v12 v9 h10 fun h13 =>
  BIN 0 .add (nth vs1 3) (.d (.num .i64 1)) fun v14 =>
  next15 [(nth vs1 0), (nth vs1 1), (nth vs1 2), v14] h13)
  (BIN 0 .add (nth vs1 3) (.d (.num .i64 1)) fun v14 =>
  next15 [(nth vs1 0), (nth vs1 1), (nth vs1 2), v14] h2)
def vc_p_proof_page_reads_k1 (P : Ctx) (pre : List ABlk) (r : AV) (post : List PB) (vs0 : List AV) (h1 : Heap) (next22 : List AV → Heap → Prop) : Prop :=
  IADDR 1 T_int (nth vs0 2) (.d (.num .i64 3)) h1 fun v2 =>
  LOAD false 1 v2 h1 fun v3 =>
  BIN 0 .leq (nth vs0 3) v3 fun v4 =>
  COND v4
  (FADDR 0 (nth vs0 0) h1 fun v5 =>
  FADDR 5 v5 h1 fun v6 =>
  LOAD false 1 v6 h1 fun v7 =>
  IADDR 1 T_int (nth vs0 2) (.d (.num .i64 0)) h1 fun v8 =>
  LOAD false 1 v8 h1 fun v9 =>
  BUILD [(0, 1), (1, 1)] [.d (.num .i64 0), .d (.num .i64 0)] [(0, (nth vs0 3)), (1, v9)] fun v10 =>
  MUPD 1002 v7 v10 (.d (.bool true)) h1 fun h11 =>
  ORDX [] [0, 1, 3, 7, 0, 0, 32, 96, 240, 511] [(1, wr h1 h1, (ids (nth vs0 0))), (2, wr h1 h1, (ids v5)), (3, wr h1 h1, (ids v6)), (6, wr h1 h1, (ids (nth vs0 2))), (7, wr h1 h1, (ids v8)), (9, wr h1 h11, (ids v7))] ∧
  FADDR 0 (nth vs0 0) h11 fun v12 =>
  FADDR 5 v12 h11 fun v13 =>
  LOAD false 1 v13 h11 fun v14 =>
  IADDR 1 T_int (nth vs0 2) (.d (.num .i64 1)) h11 fun v15 =>
  LOAD false 1 v15 h11 fun v16 =>
  BUILD [(0, 1), (1, 1)] [.d (.num .i64 0), .d (.num .i64 0)] [(0, (nth vs0 3)), (1, v16)] fun v17 =>
  MUPD 1002 v14 v17 (.d (.bool true)) h11 fun h18 =>
  ORDX [] [0, 1, 3, 7, 0, 0, 32, 96, 240, 511] [(1, wr h11 h11, (ids (nth vs0 0))), (2, wr h11 h11, (ids v12)), (3, wr h11 h11, (ids v13)), (6, wr h11 h11, (ids (nth vs0 2))), (7, wr h11 h11, (ids v15)), (9, wr h11 h18, (ids v14))] ∧
  CALL P f_p_proof_page_differs [(nth vs0 0), (nth vs0 3)] 280 h18 (fun _ v20 h21 =>
  vc_p_proof_page_reads_k0 P pre r post v20 vs0 h21 next22)
  (fun _ _ _ => False))
  (POST (.tup []) h1 pre r post)
def vc_p_proof_page_reads (P : Ctx) (pre : List ABlk) (a0 a1 a2 : AV) (r : AV) (post : List PB) : Prop :=
  let h0 : Heap := numbered 0 pre
  IADDR 1 T_int a2 (.d (.num .i64 2)) h0 fun v8 =>
  LOAD false 1 v8 h0 fun v9 =>
  LOOP [a0, a1, a2, v9] h0 56 fun vs1 h2 next1 =>
  vc_p_proof_page_reads_k1 P pre r post vs1 h2 next1
theorem vc_p_proof_page_reads_eq (g : GG) (pre : List ABlk) (a0 a1 a2 : AV) (r : AV) (post : List PB) : vcFn2 (Tz g) false ann_p_proof_page_reads Tryz.f54 pre [a0, a1, a2] (.ret r) post = vc_p_proof_page_reads (Tz g) pre a0 a1 a2 r post := by kernel_rfl
theorem hf_p_proof_page_reads : Tryz.prog.funcs[f_p_proof_page_reads]? = some Tryz.f54 := by kernel_rfl
theorem ok_p_proof_page_reads : fnVcOK Tryz.prog Tryz.f54 = true := by kernel_rfl
theorem nt_p_proof_page_reads : Nat.ble 3 Tryz.f54.ntmps = true := by kernel_rfl
theorem meetsH_p_proof_page_reads {g : GG} {pre : List ABlk} {a0 a1 a2 : AV} {r : AV} {post : List PB} (hk : Nat.ble pre.length 24 = true) (h : vc_p_proof_page_reads (Tz g) pre a0 a1 a2 r post) : MeetsH (Tz g) f_p_proof_page_reads pre [a0, a1, a2] (.ret r) post :=
  meetsH_of_vc (C := Tz g) ann_p_proof_page_reads hf_p_proof_page_reads ok_p_proof_page_reads nt_p_proof_page_reads hk (pn := false) (Eq.mpr ((vcFn2_eq _ _ _ _ _ _ _ _).trans (vc_p_proof_page_reads_eq g pre a0 a1 a2 r post)) h)
def ann_p_proof_page_change : Nat → List Nat := fun n => match n with | 1 => [0, 1, 2, 3, 13, 14] | _ => []
def vc_p_proof_page_change_k0 (_P : Ctx) (_pre : List ABlk) (_r : AV) (_post : List PB) (vs0 : List AV) (h1 : Heap) (next8 : List AV → Heap → Prop) : Prop :=
  FADDR 0 (nth vs0 0) h1 fun v2 =>
  FADDR 5 v2 h1 fun v3 =>
  LOAD false 1 v3 h1 fun v4 =>
  BUILD [(0, 1), (1, 1)] [.d (.num .i64 0), .d (.num .i64 0)] [(0, (nth vs0 2)), (1, (nth vs0 5))] fun v5 =>
  MDEL 1002 v4 v5 h1 fun h6 =>
  BIN 0 .add (nth vs0 5) (.d (.num .i64 1)) fun v7 =>
  next8 [(nth vs0 0), (nth vs0 1), (nth vs0 2), (nth vs0 3), (nth vs0 4), v7] h6
def vc_p_proof_page_change_k1 (_P : Ctx) (pre : List ABlk) (r : AV) (post : List PB) (vs0 : List AV) (h1 : Heap) : Prop :=
  FADDR 0 (nth vs0 0) h1 fun v2 =>
  FADDR 3 v2 h1 fun v3 =>
  LOAD false 1 v3 h1 fun v4 =>
  IADDR 1 T_int v4 (nth vs0 2) h1 fun v5 =>
  STORE 1 v5 (nth vs0 3) h1 fun h6 =>
  FADDR 0 (nth vs0 0) h6 fun v7 =>
  FADDR 6 v7 h6 fun v8 =>
  LOAD false 1 v8 h6 fun v9 =>
  IADDR 1 T_int v9 (nth vs0 2) h6 fun v10 =>
  STORE 1 v10 (nth vs0 1) h6 fun h11 =>
  POST (.tup []) h11 pre r post
def vc_p_proof_page_change (P : Ctx) (pre : List ABlk) (a0 a1 a2 a3 : AV) (r : AV) (post : List PB) : Prop :=
  let h0 : Heap := numbered 0 pre
  FADDR 0 a0 h0 fun v10 =>
  FADDR 0 v10 h0 fun v11 =>
  FADDR 0 v11 h0 fun v12 =>
  LOAD false 1 v12 h0 fun v13 =>
  LOOP [a0, a1, a2, a3, v13, (.d (.num .i64 0))] h0 72 fun vs1 h2 next1 =>
  BIN 0 .lss (nth vs1 5) (nth vs1 4) fun v15 =>
  COND v15
  (vc_p_proof_page_change_k0 P pre r post vs1 h2 next1)
  (vc_p_proof_page_change_k1 P pre r post vs1 h2)
theorem vc_p_proof_page_change_eq (g : GG) (pre : List ABlk) (a0 a1 a2 a3 : AV) (r : AV) (post : List PB) : vcFn2 (Tz g) false ann_p_proof_page_change Tryz.f91 pre [a0, a1, a2, a3] (.ret r) post = vc_p_proof_page_change (Tz g) pre a0 a1 a2 a3 r post := by kernel_rfl
theorem hf_p_proof_page_change : Tryz.prog.funcs[f_p_proof_page_change]? = some Tryz.f91 := by kernel_rfl
theorem ok_p_proof_page_change : fnVcOK Tryz.prog Tryz.f91 = true := by kernel_rfl
theorem nt_p_proof_page_change : Nat.ble 4 Tryz.f91.ntmps = true := by kernel_rfl
theorem meetsH_p_proof_page_change {g : GG} {pre : List ABlk} {a0 a1 a2 a3 : AV} {r : AV} {post : List PB} (hk : Nat.ble pre.length 24 = true) (h : vc_p_proof_page_change (Tz g) pre a0 a1 a2 a3 r post) : MeetsH (Tz g) f_p_proof_page_change pre [a0, a1, a2, a3] (.ret r) post :=
  meetsH_of_vc (C := Tz g) ann_p_proof_page_change hf_p_proof_page_change ok_p_proof_page_change nt_p_proof_page_change hk (pn := false) (Eq.mpr ((vcFn2_eq _ _ _ _ _ _ _ _).trans (vc_p_proof_page_change_eq g pre a0 a1 a2 a3 r post)) h)
def ann_p_proof_page_mends : Nat → List Nat := fun n => match n with  | _ => []
def vc_p_proof_page_mends_k0 (_P : Ctx) (pre : List ABlk) (r : AV) (post : List PB) (h0 : Heap) (a1 : AV) (v2 : AV) (v3 : AV) (h4 : Heap) (rd5 : List Nat) (a6 : AV) : Prop :=
  ORDX [] [0, 0, 0, 4, 12, 0, 32, 96, 255] [(3, wr h0 h0, (ids a1)), (4, wr h0 h0, (ids v2)), (6, wr h0 h0, (ids a1)), (7, wr h0 h0, (ids v3)), (8, wr h0 h4, rd5)] ∧
  FADDR 0 a6 h4 fun v7 =>
  FADDR 4 v7 h4 fun v8 =>
  LOAD false 1 v8 h4 fun v9 =>
  IADDR 1 T_int a1 (.d (.num .i64 1)) h4 fun v10 =>
  LOAD false 1 v10 h4 fun v11 =>
  IADDR 1 T_int a1 (.d (.num .i64 0)) h4 fun v12 =>
  LOAD false 1 v12 h4 fun v13 =>
  IADDR 1 T_int v9 v11 h4 fun v14 =>
  STORE 1 v14 v13 h4 fun h15 =>
  ORDX [] [0, 1, 3, 7, 0, 16, 48, 0, 128, 384, 1023, 2047] [(1, wr h4 h4, (ids a6)), (2, wr h4 h4, (ids v7)), (3, wr h4 h4, (ids v8)), (5, wr h4 h4, (ids a1)), (6, wr h4 h4, (ids v10)), (8, wr h4 h4, (ids a1)), (9, wr h4 h4, (ids v12)), (10, wr h4 h4, (ids v9)), (11, wr h4 h15, (ids v14))] ∧
  POST (.tup []) h15 pre r post
def vc_p_proof_page_mends (P : Ctx) (pre : List ABlk) (a0 a1 a2 : AV) (r : AV) (post : List PB) : Prop :=
  let h0 : Heap := numbered 0 pre
  IADDR 1 T_int a2 (.d (.num .i64 1)) h0 fun v9 =>
  LOAD false 1 v9 h0 fun v10 =>
  IADDR 1 T_int a2 (.d (.num .i64 2)) h0 fun v12 =>
  LOAD false 1 v12 h0 fun v13 =>
  CALL P f_p_proof_page_change [a0, a1, v10, v13] 88 h0 (fun rd2 _ h1 =>
  vc_p_proof_page_mends_k0 P pre r post h0 a2 v9 v12 h1 rd2 a0)
  (fun _ _ _ => False)
theorem vc_p_proof_page_mends_eq (g : GG) (pre : List ABlk) (a0 a1 a2 : AV) (r : AV) (post : List PB) : vcFn2 (Tz g) false ann_p_proof_page_mends Tryz.f55 pre [a0, a1, a2] (.ret r) post = vc_p_proof_page_mends (Tz g) pre a0 a1 a2 r post := by kernel_rfl
theorem hf_p_proof_page_mends : Tryz.prog.funcs[f_p_proof_page_mends]? = some Tryz.f55 := by kernel_rfl
theorem ok_p_proof_page_mends : fnVcOK Tryz.prog Tryz.f55 = true := by kernel_rfl
theorem nt_p_proof_page_mends : Nat.ble 3 Tryz.f55.ntmps = true := by kernel_rfl
theorem meetsH_p_proof_page_mends {g : GG} {pre : List ABlk} {a0 a1 a2 : AV} {r : AV} {post : List PB} (hk : Nat.ble pre.length 24 = true) (h : vc_p_proof_page_mends (Tz g) pre a0 a1 a2 r post) : MeetsH (Tz g) f_p_proof_page_mends pre [a0, a1, a2] (.ret r) post :=
  meetsH_of_vc (C := Tz g) ann_p_proof_page_mends hf_p_proof_page_mends ok_p_proof_page_mends nt_p_proof_page_mends hk (pn := false) (Eq.mpr ((vcFn2_eq _ _ _ _ _ _ _ _).trans (vc_p_proof_page_mends_eq g pre a0 a1 a2 r post)) h)
def ann_p_proof_page_falls : Nat → List Nat := fun n => match n with  | _ => []
def vc_p_proof_page_falls (P : Ctx) (pre : List ABlk) (a0 a1 a2 : AV) (r : AV) (post : List PB) : Prop :=
  let h0 : Heap := numbered 0 pre
  FADDR 0 a0 h0 fun v8 =>
  FADDR 3 v8 h0 fun v9 =>
  LOAD false 1 v9 h0 fun v10 =>
  IADDR 1 T_int a2 (.d (.num .i64 0)) h0 fun v12 =>
  LOAD false 1 v12 h0 fun v13 =>
  IADDR 1 T_int v10 v13 h0 fun v14 =>
  LOAD false 1 v14 h0 fun v15 =>
  BIN 0 .quo v15 (.d (.num .i64 10)) fun v16 =>
  ORDX [] [0, 1, 3, 7, 0, 16, 48, 127, 255, 511, 1023] [(1, wr h0 h0, (ids a0)), (2, wr h0 h0, (ids v8)), (3, wr h0 h0, (ids v9)), (5, wr h0 h0, (ids a2)), (6, wr h0 h0, (ids v12)), (7, wr h0 h0, (ids v10)), (8, wr h0 h0, (ids v14))] ∧
  IADDR 1 T_int a2 (.d (.num .i64 0)) h0 fun v20 =>
  LOAD false 1 v20 h0 fun v21 =>
  CALL P f_p_proof_page_change [a0, a1, v21, v16] 160 h0 (fun _ _ h1 =>
  POST (.tup []) h1 pre r post)
  (fun _ _ _ => False)
theorem vc_p_proof_page_falls_eq (g : GG) (pre : List ABlk) (a0 a1 a2 : AV) (r : AV) (post : List PB) : vcFn2 (Tz g) false ann_p_proof_page_falls Tryz.f56 pre [a0, a1, a2] (.ret r) post = vc_p_proof_page_falls (Tz g) pre a0 a1 a2 r post := by kernel_rfl
theorem hf_p_proof_page_falls : Tryz.prog.funcs[f_p_proof_page_falls]? = some Tryz.f56 := by kernel_rfl
theorem ok_p_proof_page_falls : fnVcOK Tryz.prog Tryz.f56 = true := by kernel_rfl
theorem nt_p_proof_page_falls : Nat.ble 3 Tryz.f56.ntmps = true := by kernel_rfl
theorem meetsH_p_proof_page_falls {g : GG} {pre : List ABlk} {a0 a1 a2 : AV} {r : AV} {post : List PB} (hk : Nat.ble pre.length 24 = true) (h : vc_p_proof_page_falls (Tz g) pre a0 a1 a2 r post) : MeetsH (Tz g) f_p_proof_page_falls pre [a0, a1, a2] (.ret r) post :=
  meetsH_of_vc (C := Tz g) ann_p_proof_page_falls hf_p_proof_page_falls ok_p_proof_page_falls nt_p_proof_page_falls hk (pn := false) (Eq.mpr ((vcFn2_eq _ _ _ _ _ _ _ _).trans (vc_p_proof_page_falls_eq g pre a0 a1 a2 r post)) h)
end Go.Vc
