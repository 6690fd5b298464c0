/- Proves that the statement DifferAskedCardSaid holds of the given program: for every input the law returns true and leaves its arguments as they were; under the row's own conditions, that the listed tables are laid as the program's text has them. -/
import Derived.Test.YtflbianfhogdjaaGreatDoorVc22
import Derived.Test.YtflbianfhogdjaaGreatDoorVc11
import Derived.Test.YtflbianfhogdjaaGreatDoorVc47
import Derived.Test.YtflbianfhogdjaaGreatDoorVc30
import Derived.Test.YtflbianfhogdjaaGreatDoorVc43
set_option maxRecDepth 100000
namespace Go.Vc
open Go Go.Proofs Go.RowKit
def ann_law01_DifferAsked : Nat → List Nat := fun n => match n with  | _ => []
def vc_law01_DifferAsked_k0 (P : Ctx) (pre : List ABlk) (r : AV) (post : List PB) (v0 : AV) (v1 : AV) (h4 : Heap) (a8 : AV) (v9 : AV) : Prop :=
  BIN 0 .geq v0 v1 fun v2 =>
  CONDG v2
  (BIN 0 .gtr v0 v1 fun v3 =>
  CONDG v3
  (CALL P f_law01_known [] 984 h4 (fun _ v6 h7 =>
  POST v6 h7 pre r post)
  (fun _ _ _ => False))
  (BIN 0 .geq a8 v9 fun v10 =>
  CONDG v10
  (CALL P f_law01_known [] 984 h4 (fun _ v6 h12 =>
  POST v6 h12 pre r post)
  (fun _ _ _ => False))
  (POST (.d (.bool false)) h4 pre r post)))
  (POST (.d (.bool false)) h4 pre r post)
def vc_law01_DifferAsked_k1 (P : Ctx) (pre : List ABlk) (r : AV) (post : List PB) (v0 : AV) (h3 : Heap) (v4 : AV) (h5 : Heap) (a6 : AV) (v7 : AV) (v8 : AV) (h9 : Heap) (v10 : AV) (h11 : Heap) (v12 : AV) (v13 : AV) (h14 : Heap) (rd15 : List Nat) (v18 : AV) (a24 : AV) (v28 : AV) : Prop :=
  EXT v0 0 fun v1 =>
  EXT v0 1 fun v2 =>
  ORDX [] [0, 0, 2, 0, 0, 0, 48, 112, 248, 504, 1022, 2047, 4095, 8191, 8191, 16383, 65535] [(0, wr h3 h3, (ids v4)), (2, wr h3 h5, (ids.idsL [.zc, a6])), (6, wr h5 h5, (ids v7)), (7, wr h5 h5, (ids v8)), (9, wr h5 h9, (ids.idsL [v10])), (10, wr h9 h11, (ids.idsL [v12, v13])), (11, wr h11 h14, rd15)] ∧
  BIN 0 .neq v2 (.d (.num .i64 0)) fun v16 =>
  CONDG v16
  (POST (.d (.bool false)) h14 pre r post)
  (BIN 0 .lss v1 (.d (.num .i64 1)) fun v17 =>
  CONDG v17
  (POST (.d (.bool false)) h14 pre r post)
  (BIN 0 .gtr v1 v18 fun v19 =>
  COND v19
  (POST (.d (.bool false)) h14 pre r post)
  (LOAD true 3 v4 h14 fun v20 =>
  CALL P f_ref01_All [v20, a6] 840 h14 (fun _ v22 h23 =>
  CALL P f_ref01_Left [v22, a24] 856 h23 (fun _ v26 h27 =>
  vc_law01_DifferAsked_k0 P pre r post v26 v18 h27 a24 v28)
  (fun _ _ _ => False))
  (fun _ _ _ => False))))
def vc_law01_DifferAsked_k2 (P : Ctx) (pre : List ABlk) (r : AV) (post : List PB) (v0 : AV) (h2 : Heap) (v3 : AV) (a5 : AV) (v8 : AV) (v9 : AV) (v20 : AV) (a21 : AV) : Prop :=
  NOT v0 fun v1 =>
  COND v1
  (POST (.d (.bool false)) h2 pre r post)
  (LOAD true 3 v3 h2 fun v4 =>
  APP T_api_DifferSeen 2 .zc a5 616 h2 fun v6 h7 =>
  IADDR 1 T_int v8 v9 h7 fun v10 =>
  LOAD false 1 v10 h7 fun v11 =>
  BUILD [(0, 1), (1, 1)] [.d (.num .i64 0), .d (.num .i64 0)] [(0, v9), (1, v11)] fun v12 =>
  MKS T_api_DifferSeen 2 [v12] 672 h7 fun v13 h14 =>
  APP T_api_DifferSeen 2 v6 v13 680 h14 fun v15 h16 =>
  CALL P f_differ_Agree [v4, v15] 688 h16 (fun rd17 v18 h19 =>
  vc_law01_DifferAsked_k1 P pre r post v18 h2 v3 h7 a5 v8 v10 h14 v12 h16 v6 v13 h19 rd17 v20 a21 v9)
  (fun _ _ _ => False))
def vc_law01_DifferAsked_k3 (P : Ctx) (pre : List ABlk) (r : AV) (post : List PB) (v0 : AV) (v4 : AV) (h6 : Heap) (v8 : AV) (v10 : AV) (a18 : AV) (a19 : AV) : Prop :=
  EXT v0 0 fun v1 =>
  EXT v0 1 fun v2 =>
  EXT v0 2 fun v3 =>
  BIN 0 .neq v4 (.d (.num .i64 0)) fun v5 =>
  CONDG v5
  (POST (.d (.bool false)) h6 pre r post)
  (BIN 0 .neq v3 (.d (.num .i64 0)) fun v7 =>
  CONDG v7
  (POST (.d (.bool false)) h6 pre r post)
  (LEN false v8 h6 fun v9 =>
  FADDR 1 v10 h6 fun v11 =>
  LOAD false 1 v11 h6 fun v12 =>
  BIN 0 .neq v9 v12 fun v13 =>
  CONDG v13
  (POST (.d (.bool false)) h6 pre r post)
  (LOAD true 3 v10 h6 fun v14 =>
  CALL P f_ref01_Line [v14, v1] 576 h6 (fun _ v16 h17 =>
  vc_law01_DifferAsked_k2 P pre r post v16 h17 v10 a18 v8 v1 v2 a19)
  (fun _ _ _ => False))))
def vc_law01_DifferAsked_k4 (P : Ctx) (pre : List ABlk) (r : AV) (post : List PB) (v0 : AV) (h2 : Heap) (v6 : AV) (a8 : AV) (a15 : AV) (a19 : AV) : Prop :=
  NOT v0 fun v1 =>
  COND v1
  (CALL P f_law01_known [] 304 h2 (fun _ v4 h5 =>
  POST v4 h5 pre r post)
  (fun _ _ _ => False))
  (LOAD true 3 v6 h2 fun v7 =>
  CALL P f_differ_Table [v7, a8] 320 h2 (fun _ v10 h11 =>
  EXT v10 0 fun v12 =>
  EXT v10 1 fun v13 =>
  LOAD true 3 v6 h11 fun v14 =>
  CALL P f_differ_Next [v14, a15] 384 h11 (fun _ v17 h18 =>
  vc_law01_DifferAsked_k3 P pre r post v17 v13 h18 v12 v6 a15 a19)
  (fun _ _ _ => False))
  (fun _ _ _ => False))
def vc_law01_DifferAsked_k5 (P : Ctx) (pre : List ABlk) (r : AV) (post : List PB) (v0 : AV) (h2 : Heap) (v6 : AV) (a8 : AV) (a12 : AV) (a13 : AV) : Prop :=
  NOT v0 fun v1 =>
  CONDG v1
  (CALL P f_law01_known [] 304 h2 (fun _ v4 h5 =>
  POST v4 h5 pre r post)
  (fun _ _ _ => False))
  (LOAD true 3 v6 h2 fun v7 =>
  CALL P f_ref01_Line [v7, a8] 280 h2 (fun _ v10 h11 =>
  vc_law01_DifferAsked_k4 P pre r post v10 h11 v6 a12 a13 a8)
  (fun _ _ _ => False))
def vc_law01_DifferAsked_k6 (P : Ctx) (pre : List ABlk) (r : AV) (post : List PB) (v0 : AV) (h2 : Heap) (a6 : AV) (a7 : AV) (v11 : AV) (a12 : AV) : Prop :=
  NOT v0 fun v1 =>
  CONDG v1
  (CALL P f_law01_known [] 304 h2 (fun _ v4 h5 =>
  POST v4 h5 pre r post)
  (fun _ _ _ => False))
  (CALL P f_ref01_Fits [a6, a7] 232 h2 (fun _ v9 h10 =>
  vc_law01_DifferAsked_k5 P pre r post v9 h10 v11 a12 a6 a7)
  (fun _ _ _ => False))
def vc_law01_DifferAsked_k7 (P : Ctx) (pre : List ABlk) (r : AV) (post : List PB) (v0 : AV) (h2 : Heap) (v6 : AV) (a13 : AV) (a22 : AV) (a23 : AV) : Prop :=
  NOT v0 fun v1 =>
  CONDG v1
  (CALL P f_law01_known [] 304 h2 (fun _ v4 h5 =>
  POST v4 h5 pre r post)
  (fun _ _ _ => False))
  (FADDR 0 v6 h2 fun v7 =>
  LOAD false 1 v7 h2 fun v8 =>
  LEN false v8 h2 fun v9 =>
  BIN 0 .gtr v9 (.d (.num .i64 3)) fun v10 =>
  CONDG v10
  (CALL P f_law01_known [] 304 h2 (fun _ v4 h12 =>
  POST v4 h12 pre r post)
  (fun _ _ _ => False))
  (LEN false a13 h2 fun v14 =>
  BIN 0 .geq v14 (.d (.num .i64 6)) fun v15 =>
  CONDG v15
  (CALL P f_law01_known [] 304 h2 (fun _ v4 h17 =>
  POST v4 h17 pre r post)
  (fun _ _ _ => False))
  (LOAD true 3 v6 h2 fun v18 =>
  CALL P f_ref01_Seen [v18, a13] 184 h2 (fun _ v20 h21 =>
  vc_law01_DifferAsked_k6 P pre r post v20 h21 a22 a13 v6 a23)
  (fun _ _ _ => False))))
def vc_law01_DifferAsked (P : Ctx) (pre : List ABlk) (a0 a1 a2 a3 : AV) (r : AV) (post : List PB) : Prop :=
  let h0 : Heap := numbered 0 pre
  BOX T_api_DifferPlan a0 24 h0 fun v4 h1 =>
  LOAD true 3 v4 h1 fun v17 =>
  CALL P f_law01_right [v17, a2] 56 h1 (fun _ v19 h2 =>
  vc_law01_DifferAsked_k7 P pre r post v19 h2 v4 a1 a2 a3)
  (fun _ _ _ => False)
theorem vc_law01_DifferAsked_eq (g : GG) (pre : List ABlk) (a0 a1 a2 a3 : AV) (r : AV) (post : List PB) : vcFn2 (Tz g) false ann_law01_DifferAsked Tryz.f7 pre [a0, a1, a2, a3] (.ret r) post = vc_law01_DifferAsked (Tz g) pre a0 a1 a2 a3 r post := by kernel_rfl
theorem hf_law01_DifferAsked : Tryz.prog.funcs[f_law01_DifferAsked]? = some Tryz.f7 := by kernel_rfl
theorem ok_law01_DifferAsked : fnVcOK Tryz.prog Tryz.f7 = true := by kernel_rfl
theorem nt_law01_DifferAsked : Nat.ble 4 Tryz.f7.ntmps = true := by kernel_rfl
theorem meetsH_law01_DifferAsked {g : GG} {pre : List ABlk} {a0 a1 a2 a3 : AV} {r : AV} {post : List PB} (hk : Nat.ble pre.length 24 = true) (h : vc_law01_DifferAsked (Tz g) pre a0 a1 a2 a3 r post) : MeetsH (Tz g) f_law01_DifferAsked pre [a0, a1, a2, a3] (.ret r) post :=
  meetsH_of_vc (C := Tz g) ann_law01_DifferAsked hf_law01_DifferAsked ok_law01_DifferAsked nt_law01_DifferAsked hk (pn := false) (Eq.mpr ((vcFn2_eq _ _ _ _ _ _ _ _).trans (vc_law01_DifferAsked_eq g pre a0 a1 a2 a3 r post)) h)
theorem meets_law01_DifferAsked {g : GG} {a0 a1 a2 a3 : D} {r : Res} (h : vc_law01_DifferAsked (Tz g) [] (.d a0) (.d a1) (.d a2) (.d a3) r.val (r.bl.map .upd)) : Meets (Tz g) f_law01_DifferAsked [a0, a1, a2, a3] r := meetsH_law01_DifferAsked rfl h
end Go.Vc

namespace Go.Vc
open Go Go.Proofs
variable {g : GG}
attribute [local simp] and_assoc
attribute [local simp] ints_cells
set_option maxHeartbeats 4000000 in
theorem asked_meets (hg : GOK g) (p : Plan) (sn : List Sn) (t : List Int) (row : Int) (_ : ∀ n, n ∈ t → -9223372036854775808 ≤ n ∧ n ≤ 9223372036854775807) (_ : -9223372036854775808 ≤ row ∧ row ≤ 9223372036854775807) : Meets (Tz g) f_law01_DifferAsked [p.d, seens sn, ints t, int row] ⟨.d (.bool true), []⟩ := by
  refine meets_law01_DifferAsked ?_
  unfold vc_law01_DifferAsked
  simp [Plan.d, spans, ints]
  refine CALL.val [p.d, ints t] _ rfl (law01_right_meets p t) (.inl rfl) ?_
  simp [vc_law01_DifferAsked_k7]
  constructor
  · intro h
    exact known_call hg (by simp)
  · intro h
    simp [rightB] at h
    obtain ⟨b1, b2, b3, b4⟩ := h
    obtain ⟨a1, a2, a3, a4, a5⟩ := Plan.ok_len b3
    have hlen := within_length b4
    have hbd := within_bound a5 b4
    constructor
    · intro h
      exact known_call hg (by simp)
    · intro h3
      constructor
      · intro h
        exact known_call hg (by simp)
      · intro h6
        have hl2 : sn.length ≤ 1000 := by omega
        refine CALL.val [p.d, seens sn] _ rfl (ref01_Seen_meets p sn b3 hl2) (.inl rfl) ?_
        simp [vc_law01_DifferAsked_k6]
        constructor
        · intro h
          exact known_call hg (by simp)
        · intro hs
          obtain ⟨n, hn⟩ : ∃ n : Nat, p.rows = n := ⟨p.rows.toNat, by omega⟩
          obtain ⟨hs1, hs2⟩ := seensB_rows hn hs
          refine CALL.val [ints t, seens sn] _ rfl (ref01_Fits_meets p t sn n hn (by omega) (by omega) (by omega) (far_of hbd) hs1 hl2) (.inl rfl) ?_
          simp [vc_law01_DifferAsked_k5]
          constructor
          · intro h
            exact known_call hg (by simp)
          · intro hfit
            refine CALL.val [p.d, int row] _ rfl (ref01_Line_meets p row ⟨a3, a4⟩) (.inl rfl) ?_
            simp [vc_law01_DifferAsked_k4]
            constructor
            · intro h
              exact known_call hg (by simp)
            · intro hr
              obtain ⟨j, rfl, hj⟩ := inB_nat hr
              have hjn : j < n := by omega
              have hhl : (heads t n).length = n := by simp [heads]
              have hcnt : (fitL p sn).length ≤ 2401 := fitL_cnt b3
              have hmem : t ∈ fitL p sn := by
                have := truthsL_mem p.starts [] t b4
                simp only [fitL, List.mem_filter]
                exact ⟨by simpa using this, hfit⟩
              have hne : fitL p sn ≠ [] := fun h0 => by rw [h0] at hmem; simp at hmem
              obtain ⟨k, hk, hke, hkm⟩ := nextA_spec (fitL p sn) n (by omega)
              refine CALL.mk [p.d, ints t] _ rfl (differ_Table_data p t n b3 b4 hn) (.inl rfl) (by simp) ?_
              simp
              refine CALL.mk [p.d, seens sn] _ rfl (differ_Next_data p sn n b3 hn hs hne) (.inl rfl) (by simp) ?_
              have hh2 : (↑(heads t n).length : Int) = n := by omega
              simp [vc_law01_DifferAsked_k3, hke]
              refine ⟨n, by simp [ints, hhl], by omega, fun _ => ?_⟩
              refine CALL.val [p.d, int k] _ rfl (ref01_Line_meets p k ⟨a3, a4⟩) (.inl rfl) ?_
              have hkl : inB (k : Int) 0 (p.rows - 1) = true := by simp [inB]; omega
              obtain ⟨v, hv⟩ : ∃ v, (heads t n)[k]? = some v := ⟨_, List.getElem?_eq_getElem (by omega)⟩
              have hvv : v = valL t k 0 := by
                rw [heads_val t n (by omega)] at hv
                simp [hk] at hv
                exact hv.symm
              have hvb : -23199768 ≤ v ∧ v ≤ 23199768 := by
                rw [hvv]
                exact val_232 t k (by omega) (by omega) hbd
              have hs2' : seensB p (sn ++ [⟨k, v⟩]) = true := by
                simp [seensB] at hs ⊢
                exact ⟨by omega, hs.2, by simp [seenB, inB]; omega⟩
              have hac := fitL_append_count p sn n k v hn hk (by omega)
              have hmem2 : v ∈ valsR (fitL p sn) k := by
                rw [hvv]
                exact List.mem_map_of_mem hmem
              have hc1 : 1 ≤ (valsR (fitL p sn) k).count v := List.count_pos_iff.2 hmem2
              have hc2 := lftN_cnt (valsR (fitL p sn) k) v
              have hvl : (valsR (fitL p sn) k).length = (fitL p sn).length := by simp [valsR]
              rw [hvl] at hc2
              have hlk : leftR (fitL p sn) k = lftN (valsR (fitL p sn) k) (fitL p sn).length := rfl
              rw [← hlk, ← hac] at hc2
              rw [← hac] at hc1
              simp [vc_law01_DifferAsked_k2, hkl, ints, hv]
              refine ⟨by omega, by omega, ?_⟩
              refine CALL.mk [p.d, seens (sn ++ [⟨k, v⟩])] _ (by simp [Plan.d, spans, Sn.d]) (differ_Agree_ok p (sn ++ [⟨k, v⟩]) n b3 hn hs2') (.inr (by simp [Res.flatP, AV.flatB, AV.flatB.flatL, blksFlat, D.flatB])) (by simp) ?_
              have f1 : ¬ (fitL p (sn ++ [⟨k, v⟩])).length = 0 := by omega
              have f2 : ¬ leftR (fitL p sn) k < (fitL p (sn ++ [⟨k, v⟩])).length := by omega
              simp [vc_law01_DifferAsked_k1, f2]
              refine ⟨rfl, by omega, fun _ => ?_⟩
              refine CALL.mk [p.d, seens sn] _ rfl (ref01_All_meets p sn n b3 hn hs) (.inl rfl) (by simp) ?_
              simp
              refine CALL.val [.list ((fitL p sn).map ints), int j] _ (by simp) (ref01_Left_meets p (fitL p sn) j b3 (by omega) hne (fun x hx => fitL_within hx) hcnt) (.inr rfl) ?_
              have f3 := hkm j hjn
              simp [vc_law01_DifferAsked_k0]
              constructor
              · intro hge
                constructor
                · intro hgt
                  exact known_call hg (by simp)
                · intro hgt
                  have hkj : k ≤ j := by omega
                  exact ⟨fun _ => known_call hg (by simp), hkj⟩
              · omega
end Go.Vc

namespace Go.Vc
open Go Go.RowKit Go.ChangeShapes Go.WideShapes Go.ChangeAt Go.Proofs Go.Proofs.YtflbianfhogdjaaGreatDoor
theorem asked_calls {H : Type} {enc : TypeId × Value → H} (W : World) (base : Nat) (args : Array Value) (ds : List (DataW H)) (ps : List MemPlace) (hval : ∀ (j : Nat) t v, Tryz.f7.params[j]? = some t → args[j]? = some v → Value.okWide Tryz.prog W .any base t v)
    (hA : DataW.TrodAll enc Tryz.prog W 0 (fun _ => true) true Tryz.f7.params.toList args.toList ds ps) (hL : laidMetH Tryz.prog laidL W) (hsh : W.ShapedOpen Tryz.prog) : Calls Tryz.prog 7 args W fun e W' => e = .returned (.bool true) ∧ Below W.heap.size W W' := by
  rw [Tryz.params7] at hA hval
  obtain ⟨v0, v1, v2, v3, d0, d1, d2, d3, p0, p1, p2, p3, rfl, rfl, rfl, h0, h1, h2, h3⟩ := trodAll_four hA
  obtain ⟨x0, g0⟩ := open_plan (hval 0 24 v0 rfl rfl) h0
  obtain ⟨x1, g1⟩ := open_seens (hval 1 37 v1 rfl rfl) h1
  obtain ⟨x2, g2, b2⟩ := open_ints' (hval 2 25 v2 rfl rfl) h2
  obtain ⟨x3, g3, b3⟩ := open_int' (hval 3 3 v3 rfl rfl) h3
  exact law_calls (C := Tz (gW W)) (asked_meets (gok hL hsh) x0 x1 x2 x3 b2 b3) rfl (Below.refl _ _) (us := [v0, v1, v2, v3]) rfl (fun i d u hd hu => by
    match i, hd, hu with
    | 0, hd, hu => simp at hd hu; subst hd; subst hu; exact g0
    | 1, hd, hu => simp at hd hu; subst hd; subst hu; exact g1
    | 2, hd, hu => simp at hd hu; subst hd; subst hu; exact g2
    | 3, hd, hu => simp at hd hu; subst hd; subst hu; exact g3
    | i + 4, hd, hu => simp at hd)
theorem asked_lifted (os : Os) (started : os.Started) (H : Type) (enc : TypeId × Value → H) :
    ReturnsInHanded {} Tryz.checked os 7 .any (fun w args => (Rows.differAskedSpec.pre enc Tryz.prog Tryz.f7 [] false w args ∧ laidMetH Tryz.prog laidL w) ∧ sizedMet enc Tryz.prog Tryz.f7 (OpenSpec.ofChange Rows.differAskedSpec) false w args)
      (Rows.differAskedSpec.post enc Tryz.prog Tryz.f7 false true false false) :=
  law_lifted (C := Tryz.checked) (tb := 4) (n := 4) started own (by kernel_rfl) Tryz.func7
    (ChangeSpec.witness_shaped (enc := enc) (C := Tryz.checked) (os := os) (X := fun w _ => laidMetH Tryz.prog laidL w) false (World.laidAll Tryz.prog os laidL) #[.agg #[.slice none 0 0, .int .i64 0, .int .i64 0], .slice none 0 0, .slice none 0 0, .int .i64 0] 8 (World.laidAll_os _ _ _)
      (World.shaped_of_ZipB (by kernel_rfl) (by kernel_rfl)) (by kernel_rfl) (by kernel_rfl) (by kernel_rfl)
      (by rw [MakeChecks.laidMetH_plain _ _ _ (by kernel_rfl)]; exact laidMet_laidAll _ (by kernel_rfl) (by kernel_rfl)))
    laidOut (by kernel_rfl) (by kernel_rfl) Tryz.underlying4 rfl (by kernel_rfl) (fun ds hl => by
      match ds, hl with
      | [a, b, c, d], _ => rfl) asked_calls
theorem asked_holds : Rows.DifferAskedSaid :=
  OpenClaim.holds_of_wide 7 Tryz.f7 rfl rfl rfl rfl rfl rfl rfl ⟨rfl, rfl, rfl, rfl, rfl⟩ rfl rfl rfl rfl rfl (by kernel_rfl) Tryz.func7 (by kernel_rfl)
    (of_decide_eq_true (by kernel_rfl)) (by unfold Func.isWrapper; first | (rw [if_pos (by decide +kernel)]; kernel_rfl) | (rw [if_neg (by decide +kernel)]; exact ⟨rfl, rfl⟩))
    (fun os started H enc _ => asked_lifted os started H enc)
theorem asked_card : Rows.DifferAskedCardSaid :=
  Claim7.holds_tied_plain_at .later [] [.data, .data, .data, .data, .pinned] true (true, "9a542ac743afd7edcb6f3cbd989ac5534e57cf4118a8820287a37bb09b5416c8") true asked_holds (fun _ h => by cases h) (by kernel_rfl) (fun _ h => by cases h) differAsked_row_tie rfl ⟨rfl, rfl⟩ (by kernel_rfl) rfl
    (fun f fn hf hfn => by
      obtain rfl : f = 7 := Option.some.inj ((show Tryz.prog.funcNamed "ephemerist/ephemeristlaw01.DifferAsked" = some 7 by kernel_rfl).symm.trans hf) |>.symm
      obtain rfl : fn = Tryz.f7 := (Option.some.inj (Tryz.func7.symm.trans hfn)).symm
      exact ⟨by kernel_rfl, fun j t ht => by
        rw [Tryz.params7] at ht
        have hm : t ∈ [24, 37, 25, 3] := by simpa using Array.mem_of_getElem? ht
        have hall : ([24, 37, 25, 3].all fun u => !Tryz.prog.wantsStandIn u) = true := by kernel_rfl
        exact (show Tryz.prog.wantsStandIn t = false by simpa using List.all_eq_true.1 hall t hm)⟩)
    (by kernel_rfl)
end Go.Vc

namespace Go.Proofs.YtflbianfhogdjaaGreatDoor
theorem law_DifferAskedCardSaid : Rows.DifferAskedCardSaid := Go.Vc.asked_card
end Go.Proofs.YtflbianfhogdjaaGreatDoor
