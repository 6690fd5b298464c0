/- A part of the proof: general laws of a reading of the model by abstract data, or contracts of the functions that the law calls. -/
import Derived.Test.YtonajancjagefaaGreatVc21
import Derived.Test.YtonajancjagefaaGreatVc14
set_option maxRecDepth 100000
namespace Go.Vc
open Go Go.RowKit
theorem evTab_ok {C : Ctx} (hmk : C.marks = true) {tab : Tab} (hT : TabOK C.prog tab) {orc : Orc} (ho : OrcOK C orc) (fuel : Nat) {f : FuncId} {pre : List ABlk} {args : List AV} {out : Out} {post : List PB} (he : evTab C.prog tab orc fuel f pre args = some (out, post)) : MeetsH C f pre args out post := by
  unfold evTab at he
  split at he
  · cases he
  · rename_i fn ann htab
    obtain ⟨hf, hok⟩ := hT.get htab
    simp only [fnEvOK, Bool.and_eq_true] at hok
    obtain ⟨⟨hname, hres⟩, hbody⟩ := hok
    cases hb : fn.body with
    | none => rw [hb] at he; cases he
    | some c =>
      rw [hb] at he hbody
      simp only at he hbody
      split at he
      · cases he
      · rename_i hn
        have hn := Nat.le_of_ble_eq_true hn
        split at he
        · cases he
        · rename_i hrp
          rw [hrp] at hbody
          simp only at hbody
          split at he
          · rename_i c1 o1 o2 c2 hdp
            rw [hdp] at hbody
            simp only [Bool.and_eq_true] at hbody
            have hname' : fn.name ≠ "runtime.NumGoroutine" := by simpa using hname
            have hm := def_ev (C := { C with marks := false }) rfl hT (ho.withMarks false) fuel hf hname' hres hb hdp hbody.1.1 hbody.1.2 hbody.2 hn he
            have hm := hm.withMarks true
            have hC : ({ ({ C with marks := false } : Ctx) with marks := true } : Ctx) = C := by cases C; simp_all
            rw [hC] at hm
            exact hm
          · rename_i hdp
            rw [hdp] at hbody
            simp only at hbody
            show MeetsH C f pre args out post
            cases hev : evCode C.prog f fn.ntmps ann orc fuel c (zipA args 0) (numbered 0 pre) 24 with
            | none => rw [hev] at he; cases he
            | some cr =>
              obtain ⟨e, fr', h', nx'⟩ := cr
              rw [hev] at he
              have hk : pre.length ≤ 24 := by
                have key : ∀ v h x, endF v h pre = some x → pre.length ≤ 24 := fun v h x hx => by
                  unfold endF at hx
                  simp only at hx
                  split at hx
                  · rename_i hc; simp only [Bool.and_eq_true] at hc; exact Nat.le_of_ble_eq_true hc.1
                  · cases hx
                cases e with
                | exit i => cases he
                | normal =>
                  simp only at he
                  split at he
                  · split at he
                    · rename_i hx; exact key _ _ _ hx
                    · cases he
                  · cases he
                | ret =>
                  simp only at he
                  split at he
                  · split at he
                    · rename_i hx; exact key _ _ _ hx
                    · cases he
                  · cases he
                | pan v =>
                  simp only at he
                  split at he
                  · rename_i hx; exact key _ _ _ hx
                  · cases he
              refine ⟨by simp only [fnOK, hf, hb]; simpa using hname, fun E0 us hst hrel => ?_⟩
              have hS := start_rel hst hk hrel hn []
              refine (callsIn_wide (n := 0)).1 ?_
              refine callsIn_of_wp_marks (F := Wf none) (n := 0) hf hb trivial ?_ rfl
              refine code_ev (ro := none) ho (rf := true) (fun _ => ⟨hmk, rfl⟩) f ann fuel c hbody _ _ _ e fr' h' nx' hev E0 _ hS _ (fun x E' a' hS' hx => ?_)
              have leave : ∀ (u : FrameMode), u ≠ .run →
                  (∀ E1, Rel C fn.ntmps [] E0 (fun id => id < nx') (lk fr') E1 { tmps := a'.tmps, defers := [] } → E1.H = lookH h' → E'.Step E1 → LeavesIn (Wf none) 0 C.prog fn a'.tmps (fun e w' => ∃ E', E'.w = w' ∧ FinOK C pre post E0 E' ∧ OutR E' out e) [] u E1.w) →
                  LeavesInM (Wf none) 0 C.prog fn a'.tmps (fun e w' => ∃ E', E'.w = w' ∧ FinOK C pre post E0 E' ∧ OutR E' out e) a'.defers u E'.w := fun u hu hK => by
                have hR := hS'.rel
                obtain ⟨rs, d1, d2, d3⟩ := hR.defers
                rw [List.append_nil] at d1
                rw [d1]
                exact marks_leave hu rs E' ⟨hR.prog, hR.base, hR.hr, hR.go, ⟨[], rfl, List.nodup_nil, fun r hr => by cases hr⟩, hR.tmps, hR.fr, hR.used⟩ d2 (fun r hr => ⟨(d3 r hr).1.1, (d3 r hr).2⟩) (fun E1 g1 g2 g3 => hK E1 g1 (g2.trans hS'.H) g3)
              have fin : ∀ vs r post', evRes C.prog fr' h' fn.results.toList = some vs → endF (oneOf vs) h' pre = some (r, post') → out = .ret r → post = post' →
                  LeavesInM (Wf none) 0 C.prog fn a'.tmps (fun e w' => ∃ E', E'.w = w' ∧ FinOK C pre post E0 E' ∧ OutR E' out e) a'.defers .returning E'.w := fun vs r post' h1 h2 h3 h4 => by
                subst h3; subst h4
                refine leave .returning (by simp) (fun E1 g1 g2 g3 => ?_)
                have hq := evRes_ok (C := C) fn.results.toList vs (fun vs => POST (oneOf vs) h' pre r post) h1 (endF_ok h2)
                obtain ⟨vs', v, k1, k2, k3⟩ := one_sound g1 g2 hres hq
                obtain ⟨E2, e1, e2, e3⟩ := end_sound hst g1 g2 k3 k1
                exact ⟨v, k2, E2, e1, e2, e3⟩
              cases e with
              | exit i => cases he
              | normal =>
                cases x <;> first | exact hx.elim | skip
                simp only at he
                split at he
                · rename_i vs hvs
                  split at he
                  · rename_i r post' hp
                    injection he with he; injection he with e1 e2
                    exact fin vs r post' hvs hp e1.symm e2.symm
                  · cases he
                · cases he
              | ret =>
                cases x <;> first | exact hx.elim | skip
                simp only at he
                split at he
                · rename_i vs hvs
                  split at he
                  · rename_i r post' hp
                    injection he with he; injection he with e1 e2
                    exact fin vs r post' hvs hp e1.symm e2.symm
                  · cases he
                · cases he
              | pan v =>
                cases x <;> first | exact hx.elim | skip
                obtain ⟨u, rfl, hu⟩ := hx
                simp only at he
                split at he
                · rename_i r post' hp
                  injection he with he; injection he with e1 e2
                  subst e1; subst e2
                  refine leave _ (by simp) (fun E1 g1 g2 g3 => ?_)
                  obtain ⟨E2, e1, e2, e3⟩ := end_sound hst g1 g2 (hu.step g3) (endF_ok hp)
                  exact ⟨E2, e1, e2, u, rfl, e3⟩
                · cases he
end Go.Vc
