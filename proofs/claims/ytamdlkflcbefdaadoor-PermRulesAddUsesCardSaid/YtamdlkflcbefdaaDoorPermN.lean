/- Grant of the program. -/
import Derived.Test.YtamdlkflcbefdaaDoorPermK
namespace Go.Proofs.YtamdlkflcbefdaaDoor
open Go.RowKit Go.Shelf
set_option linter.unusedSimpArgs false
set_option linter.unusedVariables false
/-- what Grant answers for a type -/
def grF (s1 s2 : Bool) (lg u li : Int) : Int × Int × Int :=
  if s1 = false ∨ li < 0 ∨ 1099511627776 < li then (0, 0, 1)
  else if s2 = false ∨ (0 < lg ∧ lg < li) then (0, 0, 10)
  else (u, if li = 0 then lg else li, 0)
theorem grF_parts (s1 s2 : Bool) (lg u li : Int) :
    (s1 = false ∧ grF s1 s2 lg u li = (0, 0, 1)) ∨
    (s1 = true ∧ li < 0 ∧ grF s1 s2 lg u li = (0, 0, 1)) ∨
    (s1 = true ∧ ¬ li < 0 ∧ 1099511627776 < li ∧ grF s1 s2 lg u li = (0, 0, 1)) ∨
    (s1 = true ∧ ¬ li < 0 ∧ ¬ 1099511627776 < li ∧ s2 = false ∧ grF s1 s2 lg u li = (0, 0, 10)) ∨
    (s1 = true ∧ ¬ li < 0 ∧ ¬ 1099511627776 < li ∧ s2 = true ∧ 0 < lg ∧ lg < li ∧ grF s1 s2 lg u li = (0, 0, 10)) ∨
    (s1 = true ∧ ¬ li < 0 ∧ ¬ 1099511627776 < li ∧ s2 = true ∧ 0 < lg ∧ ¬ lg < li ∧ (li == 0) = true ∧ grF s1 s2 lg u li = (u, lg, 0)) ∨
    (s1 = true ∧ ¬ li < 0 ∧ ¬ 1099511627776 < li ∧ s2 = true ∧ 0 < lg ∧ ¬ lg < li ∧ (li == 0) = false ∧ grF s1 s2 lg u li = (u, li, 0)) ∨
    (s1 = true ∧ ¬ li < 0 ∧ ¬ 1099511627776 < li ∧ s2 = true ∧ ¬ 0 < lg ∧ (li == 0) = true ∧ grF s1 s2 lg u li = (u, lg, 0)) ∨
    (s1 = true ∧ ¬ li < 0 ∧ ¬ 1099511627776 < li ∧ s2 = true ∧ ¬ 0 < lg ∧ (li == 0) = false ∧ grF s1 s2 lg u li = (u, li, 0)) := by
  unfold grF
  cases s1
  · simp
  by_cases h1 : li < 0
  · simp [h1]
  by_cases h2 : 1099511627776 < li
  · simp [h1, h2]
  cases s2
  · simp [h1, h2]
  by_cases h3 : 0 < lg
  · by_cases h4 : lg < li
    · simp [h1, h2, h3, h4]
    · by_cases h5 : li = 0
      · simp [h1, h2, h3, h4, h5]; omega
      · simp [h1, h2, h3, h4, h5]
  · by_cases h5 : li = 0
    · simp [h1, h2, h3, h5]
    · simp [h1, h2, h3, h5]
/-- .. and for a policy -/
def grP (tl : List TyP) (rl : List RuP) (t u li : Int) : Int × Int × Int :=
  if ex t tl.length = true then grF (subB u 956) (subB u (usesP tl rl t)) (nth tl t.toNat).li u li else (0, 0, 11)
attribute [local irreducible] Calls subB usesP grF
set_option maxRecDepth 100000 in
set_option maxHeartbeats 8000000 in
theorem grant_c (s : ByteArray) (vt vr vq : Value) (tl : List TyP) (l : List RuP) (t u li : Int) (w : World) (hT : RdE eT w vt tl) (hv : RdE eR w vr l) (htab : TabAt w) :
    Calls Tryd.prog 28 #[.agg #[.string s, vt, vr, vq], .int .i64 t, .int .i64 u, .int .i64 li] w fun e w' => e = .returned (.tuple #[.int .i64 (grP tl l t u li).1, .int .i64 (grP tl l t u li).2.1, .int .i64 (grP tl l t u li).2.2]) ∧ Below w.heap.size w w' := by
  have hlenT := hT.len
  unfold maxLen at hlenT
  obtain ⟨W0, hW0⟩ : ∃ W0, W0 = w.alloc (.cells #[.string s, vt, vr, vq] 26) := ⟨_, rfl⟩
  have HV : Hid (RdE eR W0 vr l) := Lib.hid (by rw [hW0]; exact hv.alloc _)
  have HT : Hid (RdE eT W0 vt tl) := Lib.hid (by rw [hW0]; exact hT.alloc _)
  have HTAB : Hid (TabAt W0) := Lib.hid (by rw [hW0]; exact htab.alloc _)
  have HBX : Hid (∀ w1, Below W0.heap.size W0 w1 → w1.cell? ⟨w.heap.size, 0, none⟩ = some (.string s) ∧ w1.cell? ⟨w.heap.size, 1, none⟩ = some vt ∧ w1.cell? ⟨w.heap.size, 2, none⟩ = some vr ∧ w1.cell? ⟨w.heap.size, 3, none⟩ = some vq ∧ Below w.heap.size w w1) :=
    Lib.hid (fun w1 h => by rw [hW0] at h; exact ⟨boxed1 _ _ _ h 0, boxed1 _ _ _ h 1, boxed1 _ _ _ h 2, boxed1 _ _ _ h 3, below1 _ _ h⟩)
  have HX := Lib.hid (exists_c s vt vr vq tl t W0 HT.out)
  have HUS := Lib.hid (fun w1 (h : Below W0.heap.size W0 w1) => uses_c s vt vr vq tl l t w1 (HT.out.on h) (HV.out.on h) (HTAB.out.on h))
  have HS1 := Lib.hid (fun w1 => subset_c u 956 w1)
  have HS2 := Lib.hid (fun w1 => subset_c u (usesP tl l t) w1)
  obtain ⟨a, cap, rfl, _, _, _⟩ := hv
  obtain ⟨aT, capT, rfl, _, _, _⟩ := hT
  have HW := Lib.hid hW0
  rw [hW0] at HX
  clear htab
  rcases ex_parts t tl.length with ⟨h0, h1⟩ | ⟨h0, h1, h2⟩ | ⟨h0, i, rfl, h2⟩
  · have e : grP tl l t u li = (0, 0, 11) := by unfold grP; rw [h0]; rfl
    rw [e]
    rw [h0] at HX
    clear hW0
    go_enter Tryd.func28, Tryd.ntmps28
    go_wp2_with (go_at_call 36; refine HX.out.mono ?_; rintro e w1 ⟨rfl, hb⟩; rw [← HW.out] at hb)
    go_ret3
    exact ⟨rfl, (HBX.out _ hb).2.2.2.2⟩
  · have e : grP tl l t u li = (0, 0, 11) := by unfold grP; rw [h0]; rfl
    rw [e]
    rw [h0] at HX
    clear hW0
    go_enter Tryd.func28, Tryd.ntmps28
    go_wp2_with (go_at_call 36; refine HX.out.mono ?_; rintro e w1 ⟨rfl, hb⟩; rw [← HW.out] at hb)
    go_ret3
    exact ⟨rfl, (HBX.out _ hb).2.2.2.2⟩
  · have e : grP tl l i u li = grF (subB u 956) (subB u (usesP tl l i)) (nth tl i).li u li := by unfold grP; rw [h0]; rfl
    rw [e]
    rw [h0] at HX
    have j1 : (i : Int) < tl.length := by omega
    have HI := Lib.hid h2
    have HP := Lib.hid (grF_parts (subB u 956) (subB u (usesP tl l i)) (nth tl i).li u li)
    clear hW0 h0 e h2
    generalize subB u 956 = s1 at HS1 HP ⊢
    generalize subB u (usesP tl l i) = s2 at HS2 HP ⊢
    rcases HP.out with ⟨rfl, hr⟩ | ⟨rfl, q1, hr⟩ | ⟨rfl, q1, q2, hr⟩ | ⟨rfl, q1, q2, rfl, hr⟩ | ⟨rfl, q1, q2, rfl, q3, q4, hr⟩ | ⟨rfl, q1, q2, rfl, q3, q4, q5, hr⟩ | ⟨rfl, q1, q2, rfl, q3, q4, q5, hr⟩ | ⟨rfl, q1, q2, rfl, q3, q5, hr⟩ | ⟨rfl, q1, q2, rfl, q3, q5, hr⟩
    all_goals
      rw [hr]
      clear hr HP
      go_enter Tryd.func28, Tryd.ntmps28
      go_wp2_with (first
        | (go_at_call 36; refine HX.out.mono ?_; rintro e w1 ⟨rfl, hb⟩; rw [← HW.out] at hb; obtain ⟨t0, t1, t2, t3, _⟩ := HBX.out w1 hb; have HB := Lib.hid hb; obtain ⟨b, off, rfl, hbl, hrow⟩ := ((HT.out.on hb).cellsT) (by have := HI.out; omega); obtain ⟨d0, d1, d2⟩ := hrow i HI.out; clear hrow hb)
        | (go_at_call 17; first
            | (refine (HS1.out _).mono ?_; rintro e w2 ⟨rfl, rfl⟩)
            | (refine (HS2.out _).mono ?_; rintro e w2 ⟨rfl, rfl⟩))
        | (go_at_call 26; refine (HUS.out _ HB.out).mono ?_; rintro e w3 ⟨rfl, hb3⟩; have HB3 := Lib.hid (HB.out.trans (hb3.mono HB.out.size)); clear hb3))
      go_ret3
      first
        | exact ⟨rfl, (HBX.out _ HB3.out).2.2.2.2⟩
        | exact ⟨rfl, (HBX.out _ HB.out).2.2.2.2⟩
end Go.Proofs.YtamdlkflcbefdaaDoor
