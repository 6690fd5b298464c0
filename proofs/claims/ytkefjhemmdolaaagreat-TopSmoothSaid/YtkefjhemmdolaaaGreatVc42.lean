/- A part of the proof: general laws of a reading of the model by abstract data, or contracts of the functions that the law calls. -/
import Derived.WalkSmall
import Derived.Test.YtkefjhemmdolaaaGreatVc41
import Derived.Test.YtkefjhemmdolaaaGreatVc40
import Derived.Test.YtkefjhemmdolaaaGreatVc35
import Derived.Test.YtkefjhemmdolaaaGreatVc18
import Derived.Test.YtkefjhemmdolaaaGreatVc26
set_option maxRecDepth 100000
namespace Go.Vc
open Go Go.Proofs Go.RowKit
variable {g : GG}
attribute [local simp] and_assoc
set_option maxHeartbeats 4000000 in
theorem isKept_meets (t : Tb) (k : List Int) (hl : t.vals.length ≤ 1000000) (hK : KeptOK t.vals.length k) : Meets (Tz g) f_step_isKept [t.d, ints k] ⟨.d (.bool true), []⟩ := by
  have h2 := hK.len
  have hs := hK.short
  have w2 := wrap_id (n := (t.vals.length : Int) - 1) (by omega) (by omega)
  have w1 := wrap_id (n := (k.length : Int) - 1) (by omega) (by omega)
  have e1 : ((k.length : Int) - 1).toNat = k.length - 1 := by omega
  refine meets_step_isKept ?_
  unfold vc_step_isKept
  simp [Tb.d, ints, lookH, spans]
  refine LOOP.mk Nat (fun i => [.d (ints k), .ptr 24 0 0 0, .d (ints k), .d (int k.length), .d (int i)]) (fun i => [(24, some ⟨0, T_api_StepTable, .box [.d (spans t.vals), .d (int t.rule), .d (int t.off)]⟩)]) (fun i => i ≤ k.length) (fun i => k.length - i) [] (by simp) 0 (by omega) (by simp [WEAK, lookH, ints, spans]) (fun _ _ => rfl) ?_
  intro i hi
  have w3 := wrap_id (n := (i : Int) + 1) (by omega) (by omega)
  simp [ints]
  refine ⟨fun hlt => ?_, fun hge => ?_⟩
  · obtain ⟨x, hx⟩ : ∃ x, k[i]? = some x := ⟨_, List.getElem?_eq_getElem (by omega)⟩
    obtain ⟨b0, b1⟩ := hK.bnd hx
    simp [vc_step_isKept_k3, hx, lookH, spans, w2]
    refine CALL.val [int x, int 0, int ((t.vals.length : Int) - 1)] _ rfl (step_in_meets _ _ _) (.inl rfl) ?_
    have e2 : inB x 0 ((t.vals.length : Int) - 1) = true := by simp [inB]; omega
    rw [e2]
    simp [vc_step_isKept_k0]
    refine ⟨fun h0 => ?_, fun h0 => ?_⟩
    · obtain ⟨y, hy⟩ : ∃ y, k[i - 1]? = some y := ⟨_, List.getElem?_eq_getElem (by omega)⟩
      have hyx := inc_next hK.inc (i - 1) y x hy (by rw [show i - 1 + 1 = i by omega]; exact hx)
      have w4 := wrap_id (n := (i : Int) - 1) (by omega) (by omega)
      have e3 : ((i : Int) - 1).toNat = i - 1 := by omega
      simp [w3, w4, e3, hy]
      exact ⟨by omega, hyx, fun _ => ⟨i + 1, by omega, by simp [WEAK, lookH, ints, spans], by omega⟩⟩
    · simp [w3]
      exact ⟨i + 1, by omega, by simp [WEAK, lookH, ints, spans], by omega⟩
  · have : i = k.length := by omega
    subst this
    have hf := hK.first
    have hl2 := hK.last
    simp [vc_step_isKept_k4, vc_step_isKept_k1, lookH, spans, hf, w1, w2, e1, hl2]
    exact ⟨fun _ => ⟨by omega, rfl⟩, by omega⟩
def lbI (k : List Int) (x : Int) : Nat := (k.takeWhile fun y => decide (y < x)).length
theorem lb_le (k : List Int) (x : Int) : lbI k x ≤ k.length := (List.takeWhile_sublist _).length_le
theorem lb_iff {k : List Int} (h : incB k = true) (x : Int) : ∀ {i : Nat} {a : Int}, k[i]? = some a → (a < x ↔ i < lbI k x) := by
  induction k with
  | nil => intro i a ha; simp at ha
  | cons y r ih =>
    intro i a ha
    have hr : incB r = true := by
      cases r with
      | nil => rfl
      | cons z r => simp only [incB, Bool.and_eq_true] at h; exact h.2
    by_cases hy : y < x
    · have e : lbI (y :: r) x = lbI r x + 1 := by simp [lbI, hy]
      rw [e]
      cases i with
      | zero => simp at ha; subst ha; exact ⟨fun _ => by omega, fun _ => hy⟩
      | succ i =>
        have := ih hr (i := i) (a := a) (by simpa using ha)
        omega
    · have e : lbI (y :: r) x = 0 := by simp [lbI, hy]
      rw [e]
      have := inc_le h (Nat.zero_le i) (show (y :: r)[0]? = some y from rfl) ha
      omega
theorem lb_count : ∀ {k : List Int}, incB k = true → ∀ x : Int, k.countP (· < x) = lbI k x
  | [], _, x => rfl
  | y :: r, h, x => by
    have hr : incB r = true := by
      cases r with
      | nil => rfl
      | cons z r => simp only [incB, Bool.and_eq_true] at h; exact h.2
    have ih := lb_count hr x
    by_cases hy : y < x
    · have e : lbI (y :: r) x = lbI r x + 1 := by simp [lbI, hy]
      rw [e, ← ih, List.countP_cons]
      simp [hy]
    · have e : lbI (y :: r) x = 0 := by simp [lbI, hy]
      rw [e, List.countP_eq_zero]
      intro z hz
      obtain ⟨i, hi⟩ := List.getElem?_of_mem hz
      have := inc_le h (Nat.zero_le i) (show (y :: r)[0]? = some y from rfl) hi
      simp
      omega
theorem lb_mem {k : List Int} (h : incB k = true) (x : Int) : k.contains x = decide (k[lbI k x]? = some x) := by
  by_cases hm : k[lbI k x]? = some x
  · rw [decide_eq_true hm]
    simpa using List.mem_of_getElem? hm
  · rw [decide_eq_false hm]
    have : ¬ x ∈ k := fun hx => by
      obtain ⟨i, hi⟩ := List.getElem?_of_mem hx
      have h1 := lb_iff h x hi
      have hlt := (List.getElem?_eq_some_iff.1 hi).1
      obtain ⟨y, hy⟩ : ∃ y, k[lbI k x]? = some y := ⟨_, List.getElem?_eq_getElem (by omega)⟩
      have h2 := lb_iff h x hy
      have h3 := inc_le h (show lbI k x ≤ i by omega) hy hi
      exact hm (by rw [hy]; congr 1; omega)
    simpa using this
theorem inc_pair : ∀ {k : List Int}, incB k = true → k.Pairwise (· ≤ ·)
  | [], _ => .nil
  | y :: r, h => by
    have hr : incB r = true := by
      cases r with
      | nil => rfl
      | cons z r => simp only [incB, Bool.and_eq_true] at h; exact h.2
    refine .cons (fun z hz => ?_) (inc_pair hr)
    obtain ⟨i, hi⟩ := List.getElem?_of_mem hz
    exact inc_le h (Nat.zero_le (i + 1)) (show (y :: r)[0]? = some y from rfl) (by simpa using hi)
theorem flat_ints : ∀ k : List Int, flat (k.map int) = k.map int
  | [] => rfl
  | x :: r => by
    have ih := flat_ints r
    simp only [List.map_cons, flat, List.flatMap_cons, D.cells] at ih ⊢
    rw [ih]
    rfl
theorem search_meets (k : List Int) (x : Int) (hk : k.length ≤ 1000000) (h : incB k = true) : Meets (Tz g) f_slices_BinarySearch_l_int_int [ints k, int x] ⟨.tup [.d (int (lbI k x)), .d (.bool (decide (k[lbI k x]? = some x)))], []⟩ := by
  refine meets_pure (by kernel_rfl) (fun E us hst hr => ?_)
  obtain ⟨u, v, rfl, hu, hv⟩ := rel2 hr
  rw [hv.inv_num]
  have hres : ∀ E' : Env, VRel E' (.tup [.d (int (lbI k x)), .d (.bool (decide (k[lbI k x]? = some x)))]) (.tuple #[.int .i64 (lbI k x : Nat), .bool (decide (k[lbI k x]? = some x))]) := fun E' => by
    refine .tup _ _ rfl (fun i v u hv hu => ?_)
    match i, hv, hu with
    | 0, hv, hu => simp at hv hu; subst hv; subst hu; exact .d _ _ (.num _ _)
    | 1, hv, hu => simp at hv hu; subst hv; subst hu; exact .d _ _ (.bool _)
    | i + 2, hv, hu => simp at hv
  have hd := hu.inv_d
  unfold ints at hd
  generalize hxs : k.map int = xs at hd
  cases hd with
  | list0 a c =>
    have hk0 : k = [] := by simpa using hxs
    subst hk0
    refine (Tryz.slices_BinarySearch_int_empty a c x _).mono (fun e w' ⟨h1, h2⟩ => ?_)
    subst h2
    exact ⟨Below.refl _ _, _, h1, fun E' => hres E'⟩
  | list _ sz b o cap us' hb hc hm hsz hcell hd' h1' =>
    have hl : xs.length = k.length := by rw [← hxs]; simp
    have hfx : flat xs = k.map int := by rw [← hxs, flat_ints]
    rw [hl]
    refine (Tryz.slices_BinarySearch_int b o k.length cap k x E.w (Nat.le_refl _) (by omega) (fun j hj => ?_) (by rw [List.take_of_length_le (Nat.le_refl _)]; exact inc_pair h)).mono (fun e w' ⟨h1, q, h2⟩ => ?_)
    · have hg : (flat xs)[j]? = some (int k[j]) := by rw [hfx, List.getElem?_map, List.getElem?_eq_getElem hj]; rfl
      have hd := hd' j _ hg
      rw [hcell j _ hg]
      have : us' j = .int .i64 k[j] := by
        generalize us' j = z at hd
        cases hd
        rfl
      rw [this]
      simp [hj]
    · subst h2
      rw [List.take_of_length_le (Nat.le_refl _), lb_count h x, lb_mem h x] at h1
      exact ⟨below_drewN (Below.refl _ _) q, _, h1, fun E' => hres E'⟩
end Go.Vc
