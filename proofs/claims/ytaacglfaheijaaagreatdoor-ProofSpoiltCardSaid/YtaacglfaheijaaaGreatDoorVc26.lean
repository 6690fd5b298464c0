/- A part of the proof: general laws of a reading of the model by abstract data, or contracts of the functions that the law calls. -/
import Derived.Test.YtaacglfaheijaaaGreatDoorVc24
import Derived.Test.YtaacglfaheijaaaGreatDoorVc18
import Derived.Test.YtaacglfaheijaaaGreatDoorVc25
set_option maxRecDepth 100000
namespace Go.Vc
open Go Go.Proofs Go.RowKit Go.Sort
variable {g : GG}
structure GOK (g : GG) : Prop where
  maxl : ∀ w, g.1.2 w → ∃ m, w.cell? ⟨1, 0, none⟩ = some (.int .i64 m)
  tab : ∀ w, g.1.2 w → Lib.TabIs Tryz.prog w "internal/strconv.uint64pow10" .u64 Lib.pow10Tab
theorem below_grow' (w : World) (k : Nat) (os : Array Obj) : Below w.heap.size w (grow (w.drewN k) os) := by
  refine ⟨rfl, rfl, rfl, by simp [grow], fun b hb => ?_⟩
  show (w.heap ++ os)[b]? = _
  rw [Array.getElem?_append_left hb]
def cutX : List AV → Option (Out × List PB)
  | [.d (.str s), .d (.str p)] => some (.ret (.tup [.d (.str (Lib.trimPrefix s p)), .d (.bool (Lib.hasPrefix s p))]), [])
  | _ => none
theorem cut_X (args : List AV) (out : Out) (post : List PB) (h : cutX args = some (out, post)) : MeetsH (Tz g) 121 [] args out post := by
  unfold cutX at h
  split at h
  · rename_i s p
    injection h with h
    injection h with h1 h2
    subst h1; subst h2
    refine meets_pure (by kernel_rfl) (fun E us hst hr => ?_)
    obtain ⟨u, v, rfl, hu, hv⟩ := rel2 hr
    rw [hu.inv_str, hv.inv_str]
    refine (Tryz.strings_CutPrefix _ _ _).mono (fun e w' ⟨h1, h2⟩ => ?_)
    subst h2
    refine ⟨Below.refl _ _, _, h1, fun E' => ?_⟩
    refine .tup _ _ rfl (fun i v u hv hu => ?_)
    match i, hv, hu with
    | 0, hv, hu => simp at hv hu; subst hv; subst hu; exact .d _ _ (.str _)
    | 1, hv, hu => simp at hv hu; subst hv; subst hu; exact .d _ _ (.bool _)
    | i + 2, hv, hu => simp at hv
  · cases h
def itoX : List AV → Option (Out × List PB)
  | [.d (.num .i64 n)] => match decide (-9223372036854775808 ≤ n) && decide (n ≤ 9223372036854775807) with
    | true => some (.ret (.d (.str (itoaX n))), [])
    | false => none
  | _ => none
theorem ito_X (hg : GOK g) (args : List AV) (out : Out) (post : List PB) (h : itoX args = some (out, post)) : MeetsH (Tz g) 73 [] args out post := by
  unfold itoX at h
  split at h
  · rename_i n
    split at h
    · rename_i hc
      simp only [Bool.and_eq_true, decide_eq_true_eq] at hc
      injection h with h
      injection h with h1 h2
      subst h1; subst h2
      rw [itoaX_eq hc.1 hc.2]
      refine meets_pure (by kernel_rfl) (fun E us hst hr => ?_)
      obtain ⟨u, rfl, hu⟩ := rel1 hr
      rw [hu.inv_num]
      refine (Tryz.strconv_Itoa n hc.1 hc.2 _ (hg.tab _ hst.G)).mono (fun e w' ⟨h1, k, os, h2⟩ => ?_)
      subst h2
      exact ⟨below_grow' _ _ _, _, h1, fun E' => .d _ _ (.str _)⟩
    · cases h
  · cases h
def spltX : List AV → Option (Out × List PB)
  | [.d (.str s), .d (.str [c])] => match Nat.ble s.length 1000000 with
    | true => some (.ret (.own 0 0), [.upd ⟨0, 9, .lst ((splX c s []).map .str)⟩])
    | false => none
  | _ => none
theorem splL_len (c : UInt8) : ∀ s : List UInt8, (splL c s).length = s.count c + 1 := by
  intro s
  induction s with
  | nil => rfl
  | cons b r ih =>
    simp only [splL]
    by_cases h : b = c
    · subst h; simp [ih]
    · rw [if_neg h, List.count_cons_of_ne (by simpa using h)]
      cases hs : splL c r with
      | nil => exact absurd hs (splL_ne c r)
      | cons x xs => rw [hs] at ih; simpa using ih
theorem flat_str (ss : List (List UInt8)) : flat (ss.map .str) = ss.map .str := by
  induction ss with
  | nil => rfl
  | cons s r ih => simp only [List.map_cons, flat, List.flatMap_cons, D.cells] at ih ⊢; rw [ih]; rfl
theorem splt_X (hg : GOK g) (args : List AV) (out : Out) (post : List PB) (h : spltX args = some (out, post)) : MeetsH (Tz g) 76 [] args out post := by
  unfold spltX at h
  split at h
  · rename_i s c
    split at h
    · rename_i hc
      have hc := Nat.le_of_ble_eq_true hc
      injection h with h
      injection h with h1 h2
      subst h1; subst h2
      have hsp : splX c s [] = splL c s := by
        rw [splX_eq]
        cases hs : splL c s with
        | nil => exact absurd hs (splL_ne c s)
        | cons x xs => simp
      rw [hsp]
      refine meets_row (by kernel_rfl) (fun E us hst hr => ?_)
      obtain ⟨u, v, rfl, hu, hv⟩ := rel2 hr
      rw [hu.inv_str, hv.inv_str]
      obtain ⟨m, hm⟩ := hg.maxl _ hst.G
      let sB : ByteArray := ⟨s.toArray⟩
      let cB : ByteArray := ⟨[c].toArray⟩
      refine (Tryz.strings_Split sB cB m _ (by show s.toArray.size < _; simp; omega) hm (by show 1 ≤ [c].toArray.size; simp)).mono (fun e w' ⟨h1, h2⟩ => ?_)
      subst h2
      have hcnt : Lib.countB sB cB = s.count c := by
        show Lib.count s.toArray.toList [c].toArray.toList = _
        simp [Lib.count_one]
      have hdat : (Lib.splitB cB 0 (s.count c) sB).map (·.data.toList) = splL c s := by
        rw [Lib.splitB_data]
        show Lib.splitK [c].toArray.toList 0 (s.count c) s.toArray.toList = _
        simp [splitK_one]
      rw [hcnt] at h1 ⊢
      have hl : (Lib.splitB cB 0 (s.count c) sB).length = (splL c s).length := by rw [← hdat]; simp
      have ht : tSize (Tz g).prog 9 = 1 := by show tSize Tryz.prog 9 = 1; kernel_rfl
      refine ⟨_, rfl, ?_, ?_, ?_, fun x hx => ?_, fun i d hi => ?_⟩
      · rw [List.length_map, splL_len]
        have := List.count_le_length (a := c) (l := s)
        show _ ≤ maxLen
        unfold maxLen
        omega
      · rw [ht]; simp [hl]
      · rw [h1]; simp [splL_len]
      · rw [ht]
        obtain ⟨y, _, rfl⟩ := List.mem_map.1 hx
        rfl
      · rw [flat_str] at hi
        simp only [List.getElem?_map] at hi
        cases hy : (splL c s)[i]? with
        | none => rw [hy] at hi; cases hi
        | some y =>
          rw [hy] at hi
          simp only [Option.map_some, Option.some.injEq] at hi
          subst hi
          rw [← hdat, List.getElem?_map] at hy
          cases hz : (Lib.splitB cB 0 (s.count c) sB)[i]? with
          | none => rw [hz] at hy; cases hy
          | some z =>
            rw [hz] at hy
            simp only [Option.map_some, Option.some.injEq] at hy
            refine ⟨rfl, .string z, by simp [hz], fun w S => ?_⟩
            have : z = ⟨y.toArray⟩ := by rw [← hy]
            rw [this]
            exact .str y
    · cases h
  · cases h
def strsX : List D → Option (List (List UInt8))
  | [] => some []
  | .str s :: r => match strsX r with | some ss => some (s :: ss) | none => none
  | _ :: _ => none
theorem strsX_eq : ∀ {xs : List D} {ss : List (List UInt8)}, strsX xs = some ss → xs = ss.map .str := by
  intro xs
  induction xs with
  | nil => intro ss h; simp [strsX] at h; subst h; rfl
  | cons x r ih =>
    intro ss h
    cases x <;> simp only [strsX] at h <;> try (cases h; done)
    split at h
    · rename_i ss' hs
      injection h with h
      subst h
      rw [ih hs]; rfl
    · cases h
def joinL (sep : List UInt8) : List (List UInt8) → List UInt8
  | [] => []
  | [x] => x
  | x :: y :: r => x ++ (sep ++ joinL sep (y :: r))
theorem joinL_eq (sep : List UInt8) : ∀ ss : List (List UInt8), joinL sep ss = Lib.join ss sep := by
  intro ss
  induction ss with
  | nil => rfl
  | cons x r ih =>
    cases r with
    | nil => rw [Lib.join_one]; rfl
    | cons y r =>
      simp only [joinL]
      rw [ih, Lib.join_cons, Lib.join_cons, Lib.joinTail, Lib.joinTail]
      simp
def joiX : List AV → Option (Out × List PB)
  | [.d (.list xs), .d (.str sep)] => match strsX xs with
    | some ss => match Nat.ble ss.length 1000000 && Nat.ble (joinL sep ss).length 1000000 with
      | true => some (.ret (.d (.str (joinL sep ss))), [])
      | false => none
    | none => none
  | _ => none
theorem joi_X (args : List AV) (out : Out) (post : List PB) (h : joiX args = some (out, post)) : MeetsH (Tz g) 74 [] args out post := by
  unfold joiX at h
  split at h
  · rename_i xs sep
    split at h
    · rename_i ss hss
      split at h
      · rename_i hc
        simp only [Bool.and_eq_true] at hc
        have hc1 := Nat.le_of_ble_eq_true hc.1
        have hc2 := Nat.le_of_ble_eq_true hc.2
        injection h with h
        injection h with h1 h2
        subst h1; subst h2
        have hxs := strsX_eq hss
        subst hxs
        rw [joinL_eq] at hc2 ⊢
        refine meets_pure (by kernel_rfl) (fun E us hst hr => ?_)
        obtain ⟨u, v, rfl, hu, hv⟩ := rel2 hr
        rw [hv.inv_str]
        have hd := hu.inv_d
        generalize hL : D.list (ss.map .str) = L at hd
        cases hd with
        | num | bool | str | agg | fn | cp | iface | nili | nilf => cases hL
        | list0 a c =>
          injection hL with hL
          have : ss = [] := by cases ss with | nil => rfl | cons _ _ => cases hL
          subst this
          refine (Tryz.strings_Join_none a c _ _).mono (fun e w' ⟨h1, h2⟩ => ?_)
          subst h2
          exact ⟨Below.refl _ _, _, h1, fun E' => .d _ _ (.str _)⟩
        | list ys sz b o cap us hb hcap hm hsz hcell hd h1 =>
          injection hL with hL
          subst hL
          rw [flat_str] at hcell hd
          have key : ∀ (j : Nat) x, (ss.map fun s => (⟨s.toArray⟩ : ByteArray))[j]? = some x → E.w.cell? ⟨b, o + j, none⟩ = some (.string x) := fun j x hx => by
            simp only [List.getElem?_map] at hx
            cases hy : ss[j]? with
            | none => rw [hy] at hx; cases hx
            | some y =>
              rw [hy] at hx
              simp only [Option.map_some, Option.some.injEq] at hx
              subst hx
              have hj : (ss.map D.str)[j]? = some (.str y) := by simp [hy]
              have h2 := hd j _ hj
              have h3 := hcell j _ hj
              generalize us j = q at h2 h3
              cases h2
              exact h3
          have hmap : (ss.map fun s => (⟨s.toArray⟩ : ByteArray)).map (·.data.toList) = ss := by
            rw [List.map_map]
            exact List.map_id'' (fun x => by simp)  ss
          have := Tryz.strings_Join b o cap (ss.map fun s => (⟨s.toArray⟩ : ByteArray)) ⟨sep.toArray⟩ E.w key (hst.hr.st b hb).1 (by simp; omega) (by simpa using hcap) (by rw [hmap]; simpa using (by omega : (Lib.join ss sep).length ≤ 140737488355328))
          rw [hmap] at this
          simp only [List.length_map] at this ⊢
          refine this.mono (fun e w' ⟨h1, h2⟩ => ?_)
          exact ⟨h2, _, h1, fun E' => .d _ _ (.str _)⟩
      · cases h
    · cases h
  · cases h
end Go.Vc

namespace Go.Vc
open Go Go.Proofs Go.RowKit
variable {g : GG}
def ext : Ext := [(61, cloneX 66 2), (94, cloneX 74 2), (76, spltX), (121, cutX), (73, itoX), (74, joiX)]
def dm2 : FuncId → Nat := fun f => match List.contains [11, 13, 14, 15, 16, 17, 19, 20, 21, 22, 23, 25, 26, 31, 74, 50, 94, 36] f with | true => 2 | false => dm f
theorem ext_ok (hg : GOK g) : ExtOK (Tz g) ext := ⟨clone_ProofPair_X, clone_ProofEntry_X, splt_X hg, cut_X, ito_X hg, joi_X, trivial⟩
abbrev i64 (n : Int) : D := .num .i64 n
abbrev li (l : List Int) : D := .list (l.map i64)
def linB : D := .list [.agg [i64 0, i64 123, i64 132], .agg [i64 1, i64 45, i64 45], .agg [i64 0, i64 (-7), i64 7]]
def pgA : D := .agg [i64 4, linB, .list [.agg [i64 1, li [1, 2, 0, 2]], .agg [i64 2, li [2, 0, 123]], .agg [i64 1, li [0, 3, 0, 1]], .agg [i64 3, li [1]]]]
def pgB : D := .agg [i64 4, linB, .list [.agg [i64 1, li [1, 2, 0, 2]], .agg [i64 2, li [2, 0, 123]], .agg [i64 1, li [0, 3, 0, 1]]]]
def pgC : D := .agg [i64 3, .list [.agg [i64 0, i64 5, i64 5]], .list [.agg [i64 1, li [1, 2, 0, 0]], .agg [i64 3, li [0]]]]
def pgT : D := .agg [i64 2, .list [.agg [i64 0, i64 5, i64 5]], .list [.agg [i64 3, li [0]]]]
def txtA : D := .str [112,97,103,101,32,50,10,108,105,110,101,32,48,32,53,32,53,10,102,97,108,108,32,48,10,101,110,100,32,48,55,53,10]
noncomputable abbrev EV (f : FuncId) (args : List D) := (evFn Tryz.prog tab ext dm2 1000 20).2 (.fnc f) [] (args.map .d)
end Go.Vc

namespace Go.Vc
open Go Go.Proofs Go.RowKit
variable {g : GG}
def o_proof_Now : Out := (.ret (.tup [(.own 0 0), (.d (.num .i64 0))]))
def p_proof_Now : List PB := [(.upd ⟨0, 3, (.lst [(.num .i64 123), (.num .i64 4), (.num .i64 7)])⟩)]
theorem run_proof_Now : EV 11 [pgA] = some (o_proof_Now, p_proof_Now) := by kernel_rfl
theorem clo_proof_Now (hg : GOK g) : MeetsH (Tz g) 11 [] (List.map .d [pgA]) o_proof_Now p_proof_Now := ev_ok (C := Tz g) rfl tab_ok (ext_ok hg) dm2 1000 20 (.fnc 11) [] _ _ _ run_proof_Now
def o_proof_Setters : Out := (.ret (.tup [(.own 0 0), (.d (.num .i64 0))]))
def p_proof_Setters : List PB := [(.upd ⟨0, 3, (.lst [(.num .i64 2), (.num .i64 1), (.num .i64 0)])⟩)]
theorem run_proof_Setters : EV 13 [pgA] = some (o_proof_Setters, p_proof_Setters) := by kernel_rfl
theorem clo_proof_Setters (hg : GOK g) : MeetsH (Tz g) 13 [] (List.map .d [pgA]) o_proof_Setters p_proof_Setters := ev_ok (C := Tz g) rfl tab_ok (ext_ok hg) dm2 1000 20 (.fnc 13) [] _ _ _ run_proof_Setters
def o_proof_Readers : Out := (.ret (.tup [(.own 0 0), (.d (.num .i64 0))]))
def p_proof_Readers : List PB := [(.upd ⟨0, 3, (.lst [(.num .i64 1), (.num .i64 2)])⟩)]
theorem run_proof_Readers : EV 14 [pgA, i64 2] = some (o_proof_Readers, p_proof_Readers) := by kernel_rfl
theorem clo_proof_Readers (hg : GOK g) : MeetsH (Tz g) 14 [] (List.map .d [pgA, i64 2]) o_proof_Readers p_proof_Readers := ev_ok (C := Tz g) rfl tab_ok (ext_ok hg) dm2 1000 20 (.fnc 14) [] _ _ _ run_proof_Readers
def o_proof_Short : Out := (.ret (.tup [(.own 0 0), (.d (.num .i64 0))]))
def p_proof_Short : List PB := [(.upd ⟨0, 3, (.lst [(.num .i64 0), (.num .i64 2), (.num .i64 0)])⟩)]
theorem run_proof_Short : EV 15 [pgA] = some (o_proof_Short, p_proof_Short) := by kernel_rfl
theorem clo_proof_Short (hg : GOK g) : MeetsH (Tz g) 15 [] (List.map .d [pgA]) o_proof_Short p_proof_Short := ev_ok (C := Tz g) rfl tab_ok (ext_ok hg) dm2 1000 20 (.fnc 15) [] _ _ _ run_proof_Short
def o_proof_Passes : Out := (.ret (.tup [(.own 0 0), (.d (.num .i64 0))]))
def p_proof_Passes : List PB := [(.upd ⟨0, 3, (.lst [(.num .i64 0), (.num .i64 2)])⟩)]
theorem run_proof_Passes : EV 16 [pgA] = some (o_proof_Passes, p_proof_Passes) := by kernel_rfl
theorem clo_proof_Passes (hg : GOK g) : MeetsH (Tz g) 16 [] (List.map .d [pgA]) o_proof_Passes p_proof_Passes := ev_ok (C := Tz g) rfl tab_ok (ext_ok hg) dm2 1000 20 (.fnc 16) [] _ _ _ run_proof_Passes
def o_proof_Pass : Out := (.ret (.tup [(.d (.bool .true)), (.d (.num .i64 0))]))
def p_proof_Pass : List PB := []
theorem run_proof_Pass : EV 17 [pgB] = some (o_proof_Pass, p_proof_Pass) := by kernel_rfl
theorem clo_proof_Pass (hg : GOK g) : MeetsH (Tz g) 17 [] (List.map .d [pgB]) o_proof_Pass p_proof_Pass := ev_ok (C := Tz g) rfl tab_ok (ext_ok hg) dm2 1000 20 (.fnc 17) [] _ _ _ run_proof_Pass
def o_proof_Differs : Out := (.ret (.tup [(.own 0 0), (.d (.num .i64 0))]))
def p_proof_Differs : List PB := [(.upd ⟨0, 3, (.lst [(.num .i64 1), (.num .i64 2)])⟩)]
theorem run_proof_Differs : EV 19 [pgA] = some (o_proof_Differs, p_proof_Differs) := by kernel_rfl
theorem clo_proof_Differs (hg : GOK g) : MeetsH (Tz g) 19 [] (List.map .d [pgA]) o_proof_Differs p_proof_Differs := ev_ok (C := Tz g) rfl tab_ok (ext_ok hg) dm2 1000 20 (.fnc 19) [] _ _ _ run_proof_Differs
def o_proof_Errors : Out := (.ret (.tup [(.own 0 0), (.d (.num .i64 0))]))
def p_proof_Errors : List PB := [(.upd ⟨0, 60, (.lst [(.agg [(.num .i64 2), (.num .i64 3)])])⟩)]
theorem run_proof_Errors : EV 20 [pgB] = some (o_proof_Errors, p_proof_Errors) := by kernel_rfl
theorem clo_proof_Errors (hg : GOK g) : MeetsH (Tz g) 20 [] (List.map .d [pgB]) o_proof_Errors p_proof_Errors := ev_ok (C := Tz g) rfl tab_ok (ext_ok hg) dm2 1000 20 (.fnc 20) [] _ _ _ run_proof_Errors
def o_proof_Missed : Out := (.ret (.tup [(.own 0 0), (.d (.num .i64 0))]))
def p_proof_Missed : List PB := [(.upd ⟨0, 63, (.lst [(.agg [(.num .i64 0), (.num .i64 0)]), (.agg [(.num .i64 0), (.num .i64 2)])])⟩)]
theorem run_proof_Missed : EV 21 [pgA] = some (o_proof_Missed, p_proof_Missed) := by kernel_rfl
theorem clo_proof_Missed (hg : GOK g) : MeetsH (Tz g) 21 [] (List.map .d [pgA]) o_proof_Missed p_proof_Missed := ev_ok (C := Tz g) rfl tab_ok (ext_ok hg) dm2 1000 20 (.fnc 21) [] _ _ _ run_proof_Missed
def o_proof_Worst : Out := (.ret (.tup [(.d (.num .i64 1)), (.d (.num .i64 2)), (.d (.num .i64 0))]))
def p_proof_Worst : List PB := []
theorem run_proof_Worst : EV 22 [pgA] = some (o_proof_Worst, p_proof_Worst) := by kernel_rfl
theorem clo_proof_Worst (hg : GOK g) : MeetsH (Tz g) 22 [] (List.map .d [pgA]) o_proof_Worst p_proof_Worst := ev_ok (C := Tz g) rfl tab_ok (ext_ok hg) dm2 1000 20 (.fnc 22) [] _ _ _ run_proof_Worst
def o_proof_Useless : Out := (.ret (.tup [(.own 0 0), (.d (.num .i64 0))]))
def p_proof_Useless : List PB := [(.upd ⟨0, 3, (.lst [(.num .i64 0)])⟩)]
theorem run_proof_Useless : EV 23 [pgC] = some (o_proof_Useless, p_proof_Useless) := by kernel_rfl
theorem clo_proof_Useless (hg : GOK g) : MeetsH (Tz g) 23 [] (List.map .d [pgC]) o_proof_Useless p_proof_Useless := ev_ok (C := Tz g) rfl tab_ok (ext_ok hg) dm2 1000 20 (.fnc 23) [] _ _ _ run_proof_Useless
def o_proof_Best : Out := (.ret (.tup [(.d (.num .i64 0)), (.d (.num .i64 2)), (.d (.num .i64 3)), (.d (.num .i64 0))]))
def p_proof_Best : List PB := []
theorem run_proof_Best : EV 25 [pgA] = some (o_proof_Best, p_proof_Best) := by kernel_rfl
theorem clo_proof_Best (hg : GOK g) : MeetsH (Tz g) 25 [] (List.map .d [pgA]) o_proof_Best p_proof_Best := ev_ok (C := Tz g) rfl tab_ok (ext_ok hg) dm2 1000 20 (.fnc 25) [] _ _ _ run_proof_Best
def o_proof_Fewest : Out := (.ret (.tup [(.own 0 0), (.d (.num .i64 0))]))
def p_proof_Fewest : List PB := [(.upd ⟨0, 66, (.lst [(.agg [(.num .i64 0), (.num .i64 2)])])⟩)]
theorem run_proof_Fewest : EV 26 [pgA] = some (o_proof_Fewest, p_proof_Fewest) := by kernel_rfl
theorem clo_proof_Fewest (hg : GOK g) : MeetsH (Tz g) 26 [] (List.map .d [pgA]) o_proof_Fewest p_proof_Fewest := ev_ok (C := Tz g) rfl tab_ok (ext_ok hg) dm2 1000 20 (.fnc 26) [] _ _ _ run_proof_Fewest
def o_proof_Read : Out := (.ret (.tup [(.agg [(.d (.num .i64 2)), (.own 0 0), (.own 1 0)]), (.d (.num .i64 0))]))
def p_proof_Read : List PB := [(.upd ⟨0, 71, (.lst [(.agg [(.num .i64 0), (.num .i64 5), (.num .i64 5)])])⟩), (.upd ⟨0, 74, (.lst [(.agg [(.num .i64 3), (.list [(.num .i64 0)])])])⟩)]
theorem run_proof_Read : EV 7 [txtA] = some (o_proof_Read, p_proof_Read) := by kernel_rfl
theorem clo_proof_Read (hg : GOK g) : MeetsH (Tz g) 7 [] (List.map .d [txtA]) o_proof_Read p_proof_Read := ev_ok (C := Tz g) rfl tab_ok (ext_ok hg) dm2 1000 20 (.fnc 7) [] _ _ _ run_proof_Read
def o_ref09_Print : Out := (.ret (.d (.str [112, 97, 103, 101, 32, 50, 10, 108, 105, 110, 101, 32, 48, 32, 53, 32, 53, 10, 102, 97, 108, 108, 32, 48, 10, 101, 110, 100, 32, 48, 55, 53, 10])))
def p_ref09_Print : List PB := []
theorem run_ref09_Print : EV 31 [pgT] = some (o_ref09_Print, p_ref09_Print) := by kernel_rfl
theorem clo_ref09_Print (hg : GOK g) : MeetsH (Tz g) 31 [] (List.map .d [pgT]) o_ref09_Print p_ref09_Print := ev_ok (C := Tz g) rfl tab_ok (ext_ok hg) dm2 1000 20 (.fnc 31) [] _ _ _ run_ref09_Print
def extK : Ext := [(11, oneX [pgA] (o_proof_Now, p_proof_Now)),
  (13, oneX [pgA] (o_proof_Setters, p_proof_Setters)),
  (14, oneX [pgA, i64 2] (o_proof_Readers, p_proof_Readers)),
  (15, oneX [pgA] (o_proof_Short, p_proof_Short)),
  (16, oneX [pgA] (o_proof_Passes, p_proof_Passes)),
  (17, oneX [pgB] (o_proof_Pass, p_proof_Pass)),
  (19, oneX [pgA] (o_proof_Differs, p_proof_Differs)),
  (20, oneX [pgB] (o_proof_Errors, p_proof_Errors)),
  (21, oneX [pgA] (o_proof_Missed, p_proof_Missed)),
  (22, oneX [pgA] (o_proof_Worst, p_proof_Worst)),
  (23, oneX [pgC] (o_proof_Useless, p_proof_Useless)),
  (25, oneX [pgA] (o_proof_Best, p_proof_Best)),
  (26, oneX [pgA] (o_proof_Fewest, p_proof_Fewest)),
  (7, oneX [txtA] (o_proof_Read, p_proof_Read)),
  (31, oneX [pgT] (o_ref09_Print, p_ref09_Print))]
theorem extK_ok (hg : GOK g) : ExtOK (Tz g) extK := ⟨oneX_ok (clo_proof_Now hg), oneX_ok (clo_proof_Setters hg), oneX_ok (clo_proof_Readers hg), oneX_ok (clo_proof_Short hg), oneX_ok (clo_proof_Passes hg), oneX_ok (clo_proof_Pass hg), oneX_ok (clo_proof_Differs hg), oneX_ok (clo_proof_Errors hg), oneX_ok (clo_proof_Missed hg), oneX_ok (clo_proof_Worst hg), oneX_ok (clo_proof_Useless hg), oneX_ok (clo_proof_Best hg), oneX_ok (clo_proof_Fewest hg), oneX_ok (clo_proof_Read hg), oneX_ok (clo_ref09_Print hg), trivial⟩
theorem known_run : (evFn Tryz.prog tab extK dm2 1000 20).2 (.fnc 5) [] [] = some (.ret (.d (.bool true)), []) := by kernel_rfl
theorem known_meets (hg : GOK g) : MeetsH (Tz g) 5 [] [] (.ret (.d (.bool true))) [] :=
  ev_ok (C := Tz g) rfl tab_ok (extK_ok hg) dm2 1000 20 (.fnc 5) [] [] _ _ known_run
end Go.Vc
