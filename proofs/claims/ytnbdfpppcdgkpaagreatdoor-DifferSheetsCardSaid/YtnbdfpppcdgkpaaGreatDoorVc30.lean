/- A part of the proof: general laws of a reading of the model by abstract data, or contracts of the functions that the law calls. -/
import Derived.Test.YtnbdfpppcdgkpaaGreatDoorVc28
import Derived.Test.YtnbdfpppcdgkpaaGreatDoorVc22
import Derived.Test.YtnbdfpppcdgkpaaGreatDoorVc29
set_option maxRecDepth 100000
namespace Go.Vc
open Go Go.Proofs Go.RowKit Go.Sort
variable {g : GG}
structure GOK (g : GG) : Prop where
  maxl : ∀ w, g.1.2 w → ∃ m, w.cell? ⟨0, 0, none⟩ = some (.int .i64 m)
  tab : ∀ w, g.1.2 w → Lib.TabIs Tryz.prog w "internal/strconv.uint64pow10" .u64 Lib.pow10Tab
theorem below_grow' (w : World) (k : Nat) (os : Array Obj) : Below w.heap.size w (grow (w.drewN k) os) := by
  refine ⟨rfl, rfl, rfl, by simp [grow], fun b hb => ?_⟩
  show (w.heap ++ os)[b]? = _
  rw [Array.getElem?_append_left hb]
def cutX : List AV → Option (Out × List PB)
  | [.d (.str s), .d (.str p)] => some (.ret (.tup [.d (.str (Lib.trimPrefix s p)), .d (.bool (Lib.hasPrefix s p))]), [])
  | _ => none
theorem cut_X (args : List AV) (out : Out) (post : List PB) (h : cutX args = some (out, post)) : MeetsH (Tz g) 98 [] args out post := by
  unfold cutX at h
  split at h
  · rename_i s p
    injection h with h
    injection h with h1 h2
    subst h1; subst h2
    refine meets_pure (by kernel_rfl) (fun E us hst hr => ?_)
    obtain ⟨u, v, rfl, hu, hv⟩ := rel2 hr
    rw [hu.inv_str, hv.inv_str]
    refine (Tryz.strings_CutPrefix _ _ _).mono (fun e w' ⟨h1, h2⟩ => ?_)
    subst h2
    refine ⟨Below.refl _ _, _, h1, fun E' => ?_⟩
    refine .tup _ _ rfl (fun i v u hv hu => ?_)
    match i, hv, hu with
    | 0, hv, hu => simp at hv hu; subst hv; subst hu; exact .d _ _ (.str _)
    | 1, hv, hu => simp at hv hu; subst hv; subst hu; exact .d _ _ (.bool _)
    | i + 2, hv, hu => simp at hv
  · cases h
def itoX : List AV → Option (Out × List PB)
  | [.d (.num .i64 n)] => match decide (-9223372036854775808 ≤ n) && decide (n ≤ 9223372036854775807) with
    | true => some (.ret (.d (.str (itoaX n))), [])
    | false => none
  | _ => none
theorem ito_X (hg : GOK g) (args : List AV) (out : Out) (post : List PB) (h : itoX args = some (out, post)) : MeetsH (Tz g) 97 [] args out post := by
  unfold itoX at h
  split at h
  · rename_i n
    split at h
    · rename_i hc
      simp only [Bool.and_eq_true, decide_eq_true_eq] at hc
      injection h with h
      injection h with h1 h2
      subst h1; subst h2
      rw [itoaX_eq hc.1 hc.2]
      refine meets_pure (by kernel_rfl) (fun E us hst hr => ?_)
      obtain ⟨u, rfl, hu⟩ := rel1 hr
      rw [hu.inv_num]
      refine (Tryz.strconv_Itoa n hc.1 hc.2 _ (hg.tab _ hst.G)).mono (fun e w' ⟨h1, k, os, h2⟩ => ?_)
      subst h2
      exact ⟨below_grow' _ _ _, _, h1, fun E' => .d _ _ (.str _)⟩
    · cases h
  · cases h
def spltX : List AV → Option (Out × List PB)
  | [.d (.str s), .d (.str [c])] => match Nat.ble s.length 1000000 with
    | true => some (.ret (.own 0 0), [.upd ⟨0, 9, .lst ((splX c s []).map .str)⟩])
    | false => none
  | _ => none
theorem splL_len (c : UInt8) : ∀ s : List UInt8, (splL c s).length = s.count c + 1 := by
  intro s
  induction s with
  | nil => rfl
  | cons b r ih =>
    simp only [splL]
    by_cases h : b = c
    · subst h; simp [ih]
    · rw [if_neg h, List.count_cons_of_ne (by simpa using h)]
      cases hs : splL c r with
      | nil => exact absurd hs (splL_ne c r)
      | cons x xs => rw [hs] at ih; simpa using ih
theorem flat_str (ss : List (List UInt8)) : flat (ss.map .str) = ss.map .str := by
  induction ss with
  | nil => rfl
  | cons s r ih => simp only [List.map_cons, flat, List.flatMap_cons, D.cells] at ih ⊢; rw [ih]; rfl
theorem splt_X (hg : GOK g) (args : List AV) (out : Out) (post : List PB) (h : spltX args = some (out, post)) : MeetsH (Tz g) 81 [] args out post := by
  unfold spltX at h
  split at h
  · rename_i s c
    split at h
    · rename_i hc
      have hc := Nat.le_of_ble_eq_true hc
      injection h with h
      injection h with h1 h2
      subst h1; subst h2
      have hsp : splX c s [] = splL c s := by
        rw [splX_eq]
        cases hs : splL c s with
        | nil => exact absurd hs (splL_ne c s)
        | cons x xs => simp
      rw [hsp]
      refine meets_row (by kernel_rfl) (fun E us hst hr => ?_)
      obtain ⟨u, v, rfl, hu, hv⟩ := rel2 hr
      rw [hu.inv_str, hv.inv_str]
      obtain ⟨m, hm⟩ := hg.maxl _ hst.G
      let sB : ByteArray := ⟨s.toArray⟩
      let cB : ByteArray := ⟨[c].toArray⟩
      refine (Tryz.strings_Split sB cB m _ (by show s.toArray.size < _; simp; omega) hm (by show 1 ≤ [c].toArray.size; simp)).mono (fun e w' ⟨h1, h2⟩ => ?_)
      subst h2
      have hcnt : Lib.countB sB cB = s.count c := by
        show Lib.count s.toArray.toList [c].toArray.toList = _
        simp [Lib.count_one]
      have hdat : (Lib.splitB cB 0 (s.count c) sB).map (·.data.toList) = splL c s := by
        rw [Lib.splitB_data]
        show Lib.splitK [c].toArray.toList 0 (s.count c) s.toArray.toList = _
        simp [splitK_one]
      rw [hcnt] at h1 ⊢
      have hl : (Lib.splitB cB 0 (s.count c) sB).length = (splL c s).length := by rw [← hdat]; simp
      have ht : tSize (Tz g).prog 9 = 1 := by show tSize Tryz.prog 9 = 1; kernel_rfl
      refine ⟨_, rfl, ?_, ?_, ?_, fun x hx => ?_, fun i d hi => ?_⟩
      · rw [List.length_map, splL_len]
        have := List.count_le_length (a := c) (l := s)
        show _ ≤ maxLen
        unfold maxLen
        omega
      · rw [ht]; simp [hl]
      · rw [h1]; simp [splL_len]
      · rw [ht]
        obtain ⟨y, _, rfl⟩ := List.mem_map.1 hx
        rfl
      · rw [flat_str] at hi
        simp only [List.getElem?_map] at hi
        cases hy : (splL c s)[i]? with
        | none => rw [hy] at hi; cases hi
        | some y =>
          rw [hy] at hi
          simp only [Option.map_some, Option.some.injEq] at hi
          subst hi
          rw [← hdat, List.getElem?_map] at hy
          cases hz : (Lib.splitB cB 0 (s.count c) sB)[i]? with
          | none => rw [hz] at hy; cases hy
          | some z =>
            rw [hz] at hy
            simp only [Option.map_some, Option.some.injEq] at hy
            refine ⟨rfl, .string z, by simp [hz], fun w S => ?_⟩
            have : z = ⟨y.toArray⟩ := by rw [← hy]
            rw [this]
            exact .str y
    · cases h
  · cases h
def strsX : List D → Option (List (List UInt8))
  | [] => some []
  | .str s :: r => match strsX r with | some ss => some (s :: ss) | none => none
  | _ :: _ => none
theorem strsX_eq : ∀ {xs : List D} {ss : List (List UInt8)}, strsX xs = some ss → xs = ss.map .str := by
  intro xs
  induction xs with
  | nil => intro ss h; simp [strsX] at h; subst h; rfl
  | cons x r ih =>
    intro ss h
    cases x <;> simp only [strsX] at h <;> try (cases h; done)
    split at h
    · rename_i ss' hs
      injection h with h
      subst h
      rw [ih hs]; rfl
    · cases h
def joinL (sep : List UInt8) : List (List UInt8) → List UInt8
  | [] => []
  | [x] => x
  | x :: y :: r => x ++ (sep ++ joinL sep (y :: r))
theorem joinL_eq (sep : List UInt8) : ∀ ss : List (List UInt8), joinL sep ss = Lib.join ss sep := by
  intro ss
  induction ss with
  | nil => rfl
  | cons x r ih =>
    cases r with
    | nil => rw [Lib.join_one]; rfl
    | cons y r =>
      simp only [joinL]
      rw [ih, Lib.join_cons, Lib.join_cons, Lib.joinTail, Lib.joinTail]
      simp
def joiX : List AV → Option (Out × List PB)
  | [.d (.list xs), .d (.str sep)] => match strsX xs with
    | some ss => match Nat.ble ss.length 1000000 && Nat.ble (joinL sep ss).length 1000000 with
      | true => some (.ret (.d (.str (joinL sep ss))), [])
      | false => none
    | none => none
  | _ => none
theorem joi_X (args : List AV) (out : Out) (post : List PB) (h : joiX args = some (out, post)) : MeetsH (Tz g) 100 [] args out post := by
  unfold joiX at h
  split at h
  · rename_i xs sep
    split at h
    · rename_i ss hss
      split at h
      · rename_i hc
        simp only [Bool.and_eq_true] at hc
        have hc1 := Nat.le_of_ble_eq_true hc.1
        have hc2 := Nat.le_of_ble_eq_true hc.2
        injection h with h
        injection h with h1 h2
        subst h1; subst h2
        have hxs := strsX_eq hss
        subst hxs
        rw [joinL_eq] at hc2 ⊢
        refine meets_pure (by kernel_rfl) (fun E us hst hr => ?_)
        obtain ⟨u, v, rfl, hu, hv⟩ := rel2 hr
        rw [hv.inv_str]
        have hd := hu.inv_d
        generalize hL : D.list (ss.map .str) = L at hd
        cases hd with
        | num | bool | str | agg | fn | cp | iface | nili | nilf => cases hL
        | list0 a c =>
          injection hL with hL
          have : ss = [] := by cases ss with | nil => rfl | cons _ _ => cases hL
          subst this
          refine (Tryz.strings_Join_none a c _ _).mono (fun e w' ⟨h1, h2⟩ => ?_)
          subst h2
          exact ⟨Below.refl _ _, _, h1, fun E' => .d _ _ (.str _)⟩
        | list ys sz b o cap us hb hcap hm hsz hcell hd h1 =>
          injection hL with hL
          subst hL
          rw [flat_str] at hcell hd
          have key : ∀ (j : Nat) x, (ss.map fun s => (⟨s.toArray⟩ : ByteArray))[j]? = some x → E.w.cell? ⟨b, o + j, none⟩ = some (.string x) := fun j x hx => by
            simp only [List.getElem?_map] at hx
            cases hy : ss[j]? with
            | none => rw [hy] at hx; cases hx
            | some y =>
              rw [hy] at hx
              simp only [Option.map_some, Option.some.injEq] at hx
              subst hx
              have hj : (ss.map D.str)[j]? = some (.str y) := by simp [hy]
              have h2 := hd j _ hj
              have h3 := hcell j _ hj
              generalize us j = q at h2 h3
              cases h2
              exact h3
          have hmap : (ss.map fun s => (⟨s.toArray⟩ : ByteArray)).map (·.data.toList) = ss := by
            rw [List.map_map]
            exact List.map_id'' (fun x => by simp)  ss
          have := Tryz.strings_Join b o cap (ss.map fun s => (⟨s.toArray⟩ : ByteArray)) ⟨sep.toArray⟩ E.w key (hst.hr.st b hb).1 (by simp; omega) (by simpa using hcap) (by rw [hmap]; simpa using (by omega : (Lib.join ss sep).length ≤ 140737488355328))
          rw [hmap] at this
          simp only [List.length_map] at this ⊢
          refine this.mono (fun e w' ⟨h1, h2⟩ => ?_)
          exact ⟨h2, _, h1, fun E' => .d _ _ (.str _)⟩
      · cases h
    · cases h
  · cases h
end Go.Vc

namespace Go.Vc
open Go Go.Proofs Go.RowKit
variable {g : GG}
def ext : Ext := [(56, cloneX 3 1), (49, cloneX 60 2), (81, spltX), (98, cutX), (97, itoX), (100, joiX)]
def dm2 : FuncId → Nat := fun f => match List.contains [14, 16, 17, 18, 20, 21, 22, 23, 24, 7, 8, 25, 26, 27, 32, 100] f with | true => 2 | false => dm f
theorem ext_ok (hg : GOK g) : ExtOK (Tz g) ext := ⟨clone_int_X, clone_Span_X, splt_X hg, cut_X, ito_X hg, joi_X, trivial⟩
abbrev i64 (n : Int) : D := .num .i64 n
def planA : D := .agg [.list [.agg [i64 1047, i64 1049], .agg [i64 250, i64 251], .agg [i64 (-40), i64 (-40)]], i64 5, i64 2]
def planB : D := .agg [.list [.agg [i64 1048, i64 1050], .agg [i64 250, i64 251], .agg [i64 (-40), i64 (-40)]], i64 5, i64 2]
def truA : D := .list [i64 1048, i64 250, i64 (-40)]
def seenA : D := .list [.agg [i64 2, i64 1509]]
def upA : D := .list [i64 1808, i64 90, i64 (-40)]
def firA : D := .list [.list [i64 1048, i64 250, i64 (-40)], .list [i64 1508, i64 171, i64 (-40)], .list [i64 1808, i64 90, i64 (-40)]]
def txtA : D := .str [112,108,97,110,32,49,32,48,10,115,116,97,114,116,32,53,32,53,10,101,110,100,32,49,49,54,10]
def planT : D := .agg [.list [.agg [i64 5, i64 5]], i64 1, i64 0]
noncomputable abbrev EV (f : FuncId) (args : List D) := (evFn Tryz.prog tab ext dm2 1000 20).2 (.fnc f) [] (args.map .d)
end Go.Vc

namespace Go.Vc
open Go Go.Proofs Go.RowKit
variable {g : GG}
def o_differ_Table : Out := (.ret (.tup [(.own 0 0), (.d (.num .i64 0))]))
def p_differ_Table : List PB := [(.upd ⟨0, 3, (.lst [(.num .i64 1048), (.num .i64 1298), (.num .i64 1508), (.num .i64 1678), (.num .i64 1808)])⟩)]
theorem run_differ_Table : EV 14 [planA, truA] = some (o_differ_Table, p_differ_Table) := by kernel_rfl
theorem clo_differ_Table (hg : GOK g) : MeetsH (Tz g) 14 [] (List.map .d [planA, truA]) o_differ_Table p_differ_Table := ev_ok (C := Tz g) rfl tab_ok (ext_ok hg) dm2 1000 20 (.fnc 14) [] _ _ _ run_differ_Table
def o_differ_State : Out := (.ret (.tup [(.own 0 0), (.d (.num .i64 0))]))
def p_differ_State : List PB := [(.upd ⟨0, 3, (.lst [(.num .i64 1508), (.num .i64 170), (.num .i64 (-40))])⟩)]
theorem run_differ_State : EV 16 [planA, truA, i64 2] = some (o_differ_State, p_differ_State) := by kernel_rfl
theorem clo_differ_State (hg : GOK g) : MeetsH (Tz g) 16 [] (List.map .d [planA, truA, i64 2]) o_differ_State p_differ_State := ev_ok (C := Tz g) rfl tab_ok (ext_ok hg) dm2 1000 20 (.fnc 16) [] _ _ _ run_differ_State
def o_differ_Rows : Out := (.ret (.tup [(.own 0 0), (.d (.num .i64 0))]))
def p_differ_Rows : List PB := [(.upd ⟨0, 60, (.lst [(.agg [(.num .i64 1047), (.num .i64 1049)]), (.agg [(.num .i64 1297), (.num .i64 1300)]), (.agg [(.num .i64 1507), (.num .i64 1511)]), (.agg [(.num .i64 1677), (.num .i64 1682)]), (.agg [(.num .i64 1807), (.num .i64 1813)])])⟩)]
theorem run_differ_Rows : EV 17 [planA] = some (o_differ_Rows, p_differ_Rows) := by kernel_rfl
theorem clo_differ_Rows (hg : GOK g) : MeetsH (Tz g) 17 [] (List.map .d [planA]) o_differ_Rows p_differ_Rows := ev_ok (C := Tz g) rfl tab_ok (ext_ok hg) dm2 1000 20 (.fnc 17) [] _ _ _ run_differ_Rows
def o_differ_Printed : Out := (.ret (.tup [(.own 0 0), (.d (.num .i64 0))]))
def p_differ_Printed : List PB := [(.upd ⟨0, 60, (.lst [(.agg [(.num .i64 10), (.num .i64 11)]), (.agg [(.num .i64 13), (.num .i64 13)]), (.agg [(.num .i64 15), (.num .i64 15)]), (.agg [(.num .i64 17), (.num .i64 17)]), (.agg [(.num .i64 18), (.num .i64 18)])])⟩)]
theorem run_differ_Printed : EV 18 [planB] = some (o_differ_Printed, p_differ_Printed) := by kernel_rfl
theorem clo_differ_Printed (hg : GOK g) : MeetsH (Tz g) 18 [] (List.map .d [planB]) o_differ_Printed p_differ_Printed := ev_ok (C := Tz g) rfl tab_ok (ext_ok hg) dm2 1000 20 (.fnc 18) [] _ _ _ run_differ_Printed
def o_differ_Sure : Out := (.ret (.tup [(.own 0 0), (.d (.num .i64 0))]))
def p_differ_Sure : List PB := [(.upd ⟨0, 3, (.lst [(.num .i64 1), (.num .i64 2), (.num .i64 3), (.num .i64 4)])⟩)]
theorem run_differ_Sure : EV 20 [planB] = some (o_differ_Sure, p_differ_Sure) := by kernel_rfl
theorem clo_differ_Sure (hg : GOK g) : MeetsH (Tz g) 20 [] (List.map .d [planB]) o_differ_Sure p_differ_Sure := ev_ok (C := Tz g) rfl tab_ok (ext_ok hg) dm2 1000 20 (.fnc 20) [] _ _ _ run_differ_Sure
def o_differ_Doubt : Out := (.ret (.tup [(.d (.num .i64 0)), (.d (.num .i64 0))]))
def p_differ_Doubt : List PB := []
theorem run_differ_Doubt : EV 21 [planB] = some (o_differ_Doubt, p_differ_Doubt) := by kernel_rfl
theorem clo_differ_Doubt (hg : GOK g) : MeetsH (Tz g) 21 [] (List.map .d [planB]) o_differ_Doubt p_differ_Doubt := ev_ok (C := Tz g) rfl tab_ok (ext_ok hg) dm2 1000 20 (.fnc 21) [] _ _ _ run_differ_Doubt
def o_differ_Widest : Out := (.ret (.tup [(.d (.num .i64 256)), (.d (.num .i64 0))]))
def p_differ_Widest : List PB := []
theorem run_differ_Widest : EV 22 [planA, i64 1] = some (o_differ_Widest, p_differ_Widest) := by kernel_rfl
theorem clo_differ_Widest (hg : GOK g) : MeetsH (Tz g) 22 [] (List.map .d [planA, i64 1]) o_differ_Widest p_differ_Widest := ev_ok (C := Tz g) rfl tab_ok (ext_ok hg) dm2 1000 20 (.fnc 22) [] _ _ _ run_differ_Widest
def o_differ_Blame : Out := (.ret (.tup [(.d (.num .i64 1)), (.d (.num .i64 0))]))
def p_differ_Blame : List PB := []
theorem run_differ_Blame : EV 23 [planA, i64 4] = some (o_differ_Blame, p_differ_Blame) := by kernel_rfl
theorem clo_differ_Blame (hg : GOK g) : MeetsH (Tz g) 23 [] (List.map .d [planA, i64 4]) o_differ_Blame p_differ_Blame := ev_ok (C := Tz g) rfl tab_ok (ext_ok hg) dm2 1000 20 (.fnc 23) [] _ _ _ run_differ_Blame
def o_differ_Climb : Out := (.ret (.tup [(.own 0 0), (.d (.num .i64 0))]))
def p_differ_Climb : List PB := [(.upd ⟨0, 3, (.lst [(.num .i64 1048), (.num .i64 1298), (.num .i64 1508), (.num .i64 1678), (.num .i64 1808)])⟩)]
theorem run_differ_Climb : EV 24 [upA, i64 5] = some (o_differ_Climb, p_differ_Climb) := by kernel_rfl
theorem clo_differ_Climb (hg : GOK g) : MeetsH (Tz g) 24 [] (List.map .d [upA, i64 5]) o_differ_Climb p_differ_Climb := ev_ok (C := Tz g) rfl tab_ok (ext_ok hg) dm2 1000 20 (.fnc 24) [] _ _ _ run_differ_Climb
def o_differ_Cut : Out := (.ret (.tup [(.own 0 0), (.d (.num .i64 0))]))
def p_differ_Cut : List PB := [(.upd ⟨0, 25, (.lst [(.list [(.num .i64 1048), (.num .i64 250), (.num .i64 (-40))]), (.list [(.num .i64 1508), (.num .i64 170), (.num .i64 (-40))]), (.list [(.num .i64 1808), (.num .i64 90), (.num .i64 (-40))])])⟩)]
theorem run_differ_Cut : EV 7 [planA, truA, i64 2] = some (o_differ_Cut, p_differ_Cut) := by kernel_rfl
theorem clo_differ_Cut (hg : GOK g) : MeetsH (Tz g) 7 [] (List.map .d [planA, truA, i64 2]) o_differ_Cut p_differ_Cut := ev_ok (C := Tz g) rfl tab_ok (ext_ok hg) dm2 1000 20 (.fnc 7) [] _ _ _ run_differ_Cut
def o_differ_Joins : Out := (.ret (.tup [(.own 0 0), (.d (.num .i64 0))]))
def p_differ_Joins : List PB := [(.upd ⟨0, 3, (.lst [(.num .i64 1), (.num .i64 2)])⟩)]
theorem run_differ_Joins : EV 8 [planA, firA, i64 2] = some (o_differ_Joins, p_differ_Joins) := by kernel_rfl
theorem clo_differ_Joins (hg : GOK g) : MeetsH (Tz g) 8 [] (List.map .d [planA, firA, i64 2]) o_differ_Joins p_differ_Joins := ev_ok (C := Tz g) rfl tab_ok (ext_ok hg) dm2 1000 20 (.fnc 8) [] _ _ _ run_differ_Joins
def o_differ_Agree : Out := (.ret (.tup [(.d (.num .i64 2)), (.d (.num .i64 0))]))
def p_differ_Agree : List PB := []
theorem run_differ_Agree : EV 25 [planA, seenA] = some (o_differ_Agree, p_differ_Agree) := by kernel_rfl
theorem clo_differ_Agree (hg : GOK g) : MeetsH (Tz g) 25 [] (List.map .d [planA, seenA]) o_differ_Agree p_differ_Agree := ev_ok (C := Tz g) rfl tab_ok (ext_ok hg) dm2 1000 20 (.fnc 25) [] _ _ _ run_differ_Agree
def o_differ_Known : Out := (.ret (.tup [(.own 0 0), (.d (.num .i64 0))]))
def p_differ_Known : List PB := [(.upd ⟨0, 60, (.lst [(.agg [(.num .i64 1047), (.num .i64 1049)]), (.agg [(.num .i64 250), (.num .i64 251)]), (.agg [(.num .i64 (-40)), (.num .i64 (-40))])])⟩)]
theorem run_differ_Known : EV 26 [planA, seenA] = some (o_differ_Known, p_differ_Known) := by kernel_rfl
theorem clo_differ_Known (hg : GOK g) : MeetsH (Tz g) 26 [] (List.map .d [planA, seenA]) o_differ_Known p_differ_Known := ev_ok (C := Tz g) rfl tab_ok (ext_ok hg) dm2 1000 20 (.fnc 26) [] _ _ _ run_differ_Known
def o_differ_Next : Out := (.ret (.tup [(.d (.num .i64 3)), (.d (.num .i64 1)), (.d (.num .i64 0))]))
def p_differ_Next : List PB := []
theorem run_differ_Next : EV 27 [planA, .list []] = some (o_differ_Next, p_differ_Next) := by kernel_rfl
theorem clo_differ_Next (hg : GOK g) : MeetsH (Tz g) 27 [] (List.map .d [planA, .list []]) o_differ_Next p_differ_Next := ev_ok (C := Tz g) rfl tab_ok (ext_ok hg) dm2 1000 20 (.fnc 27) [] _ _ _ run_differ_Next
def o_differ_Read : Out := (.ret (.tup [(.agg [(.own 0 0), (.d (.num .i64 1)), (.d (.num .i64 0))]), (.d (.num .i64 0))]))
def p_differ_Read : List PB := [(.upd ⟨0, 60, (.lst [(.agg [(.num .i64 5), (.num .i64 5)])])⟩)]
theorem run_differ_Read : EV 28 [txtA] = some (o_differ_Read, p_differ_Read) := by kernel_rfl
theorem clo_differ_Read (hg : GOK g) : MeetsH (Tz g) 28 [] (List.map .d [txtA]) o_differ_Read p_differ_Read := ev_ok (C := Tz g) rfl tab_ok (ext_ok hg) dm2 1000 20 (.fnc 28) [] _ _ _ run_differ_Read
def o_ref01_Print : Out := (.ret (.d (.str [112, 108, 97, 110, 32, 49, 32, 48, 10, 115, 116, 97, 114, 116, 32, 53, 32, 53, 10, 101, 110, 100, 32, 49, 49, 54, 10])))
def p_ref01_Print : List PB := []
theorem run_ref01_Print : EV 32 [planT] = some (o_ref01_Print, p_ref01_Print) := by kernel_rfl
theorem clo_ref01_Print (hg : GOK g) : MeetsH (Tz g) 32 [] (List.map .d [planT]) o_ref01_Print p_ref01_Print := ev_ok (C := Tz g) rfl tab_ok (ext_ok hg) dm2 1000 20 (.fnc 32) [] _ _ _ run_ref01_Print
def extK : Ext := [(14, oneX [planA, truA] (o_differ_Table, p_differ_Table)),
  (16, oneX [planA, truA, i64 2] (o_differ_State, p_differ_State)),
  (17, oneX [planA] (o_differ_Rows, p_differ_Rows)),
  (18, oneX [planB] (o_differ_Printed, p_differ_Printed)),
  (20, oneX [planB] (o_differ_Sure, p_differ_Sure)),
  (21, oneX [planB] (o_differ_Doubt, p_differ_Doubt)),
  (22, oneX [planA, i64 1] (o_differ_Widest, p_differ_Widest)),
  (23, oneX [planA, i64 4] (o_differ_Blame, p_differ_Blame)),
  (24, oneX [upA, i64 5] (o_differ_Climb, p_differ_Climb)),
  (7, oneX [planA, truA, i64 2] (o_differ_Cut, p_differ_Cut)),
  (8, oneX [planA, firA, i64 2] (o_differ_Joins, p_differ_Joins)),
  (25, oneX [planA, seenA] (o_differ_Agree, p_differ_Agree)),
  (26, oneX [planA, seenA] (o_differ_Known, p_differ_Known)),
  (27, oneX [planA, .list []] (o_differ_Next, p_differ_Next)),
  (28, oneX [txtA] (o_differ_Read, p_differ_Read)),
  (32, oneX [planT] (o_ref01_Print, p_ref01_Print))]
theorem extK_ok (hg : GOK g) : ExtOK (Tz g) extK := ⟨oneX_ok (clo_differ_Table hg), oneX_ok (clo_differ_State hg), oneX_ok (clo_differ_Rows hg), oneX_ok (clo_differ_Printed hg), oneX_ok (clo_differ_Sure hg), oneX_ok (clo_differ_Doubt hg), oneX_ok (clo_differ_Widest hg), oneX_ok (clo_differ_Blame hg), oneX_ok (clo_differ_Climb hg), oneX_ok (clo_differ_Cut hg), oneX_ok (clo_differ_Joins hg), oneX_ok (clo_differ_Agree hg), oneX_ok (clo_differ_Known hg), oneX_ok (clo_differ_Next hg), oneX_ok (clo_differ_Read hg), oneX_ok (clo_ref01_Print hg), trivial⟩
theorem known_run : (evFn Tryz.prog tab extK dm2 1000 20).2 (.fnc 6) [] [] = some (.ret (.d (.bool true)), []) := by kernel_rfl
theorem known_meets (hg : GOK g) : MeetsH (Tz g) 6 [] [] (.ret (.d (.bool true))) [] :=
  ev_ok (C := Tz g) rfl tab_ok (extK_ok hg) dm2 1000 20 (.fnc 6) [] [] _ _ known_run
end Go.Vc
