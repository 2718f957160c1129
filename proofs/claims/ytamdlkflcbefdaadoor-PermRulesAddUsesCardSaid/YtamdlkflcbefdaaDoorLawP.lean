/- What the laws' walks share: the policy and the three numbers in their boxes. -/
import Derived.Test.YtamdlkflcbefdaaDoorSanQ
namespace Go.Proofs.YtamdlkflcbefdaaDoor
open Go.RowKit Go.Shelf
set_option linter.unusedSimpArgs false
set_option linter.unusedVariables false
theorem row_on {W W' : World} {g : Nat} {X : Obj} (h : W.heap[g]? = some X) (hb : Below W.heap.size W W') : W'.heap[g]? = some X := by
  rw [hb.block _ (Array.getElem?_eq_some_iff.1 h).1]; exact h
/-- the policy in block P, three numbers in block A -/
structure LW (w : World) (P A : Nat) (s : ByteArray) (vt vr vq : Value) (tl : List TyP) (rl : List RuP) (ql : List QuP) (n0 n1 n2 : Int) : Prop where
  t : RdE eT w vt tl
  r : RdE eR w vr rl
  q : RdE eQ w vq ql
  tab : TabAt w
  box : w.heap[P]? = some (.cells #[.string s, vt, vr, vq] 26 (0, 0))
  arr : w.heap[A]? = some (.cells #[.int .i64 n0, .int .i64 n1, .int .i64 n2] 27 (0, 0))
variable {w w' : World} {P A : Nat} {s : ByteArray} {vt vr vq : Value} {tl : List TyP} {rl : List RuP} {ql : List QuP} {n0 n1 n2 : Int}
theorem LW.on (h : LW w P A s vt vr vq tl rl ql n0 n1 n2) (hb : Below w.heap.size w w') : LW w' P A s vt vr vq tl rl ql n0 n1 n2 :=
  ⟨h.t.on hb, h.r.on hb, h.q.on hb, h.tab.on hb, row_on h.box hb, row_on h.arr hb⟩
theorem LW.cells (h : LW w P A s vt vr vq tl rl ql n0 n1 n2) : w.cell? ⟨P, 0, none⟩ = some (.string s) ∧ w.cell? ⟨P, 1, none⟩ = some vt ∧ w.cell? ⟨P, 2, none⟩ = some vr ∧ w.cell? ⟨P, 3, none⟩ = some vq ∧
    w.cell? ⟨A, 0, none⟩ = some (.int .i64 n0) ∧ w.cell? ⟨A, 1, none⟩ = some (.int .i64 n1) ∧ w.cell? ⟨A, 2, none⟩ = some (.int .i64 n2) :=
  ⟨cell_of_row _ _ _ _ _ _ h.box, cell_of_row _ _ _ _ _ _ h.box, cell_of_row _ _ _ _ _ _ h.box, cell_of_row _ _ _ _ _ _ h.box, cell_of_row _ _ _ _ _ _ h.arr, cell_of_row _ _ _ _ _ _ h.arr, cell_of_row _ _ _ _ _ _ h.arr⟩
theorem LW.lt (h : LW w P A s vt vr vq tl rl ql n0 n1 n2) : P < w.heap.size ∧ A < w.heap.size := ⟨(Array.getElem?_eq_some_iff.1 h.box).1, (Array.getElem?_eq_some_iff.1 h.arr).1⟩
theorem lw_start (w : World) (hT : RdE eT w vt tl) (hR : RdE eR w vr rl) (hQ : RdE eQ w vq ql) (htab : TabAt w) :
    LW ((w.alloc (.cells #[.string s, vt, vr, vq] 26)).alloc (.cells #[.int .i64 n0, .int .i64 n1, .int .i64 n2] 27)) w.heap.size (w.heap.size + 1) s vt vr vq tl rl ql n0 n1 n2 :=
  ⟨(hT.alloc _).alloc _, (hR.alloc _).alloc _, (hQ.alloc _).alloc _, (htab.alloc _).alloc _,
    by simp only [alloc_get, World.size_alloc]; rw [if_neg (by omega), if_pos trivial], by simp only [alloc_get, World.size_alloc]; rw [if_pos trivial]⟩
/-- what is granted is granted again, and so is less of it -/
theorem grP_narrow (tl : List TyP) (rl : List RuP) (t u li : Int) : (∃ e, (e = 11 ∨ e = 1 ∨ e = 10) ∧ grP tl rl t u li = (0, 0, e)) ∨
    (∃ L, grP tl rl t u li = (u, L, 0) ∧ subB u (usesP tl rl t) = true ∧ subB u 956 = true ∧ (0 ≤ L → L ≤ 1099511627776 → grP tl rl t u L = (u, L, 0) ∧
      ∀ f sh, 0 ≤ sh → sh ≤ L → (sh = 0 → L = 0) → grP tl rl t (band u f) sh = (band u f, sh, 0))) := by
  have key : ∀ U lf, subB U 956 = true → subB U (usesP tl rl t) = true → ex t tl.length = true → 0 ≤ lf → lf ≤ 1099511627776 → ¬ (0 < (nth tl t.toNat).li ∧ (nth tl t.toNat).li < lf) → (lf = 0 → (nth tl t.toNat).li = 0) → grP tl rl t U lf = (U, lf, 0) := by
    intro U lf h1 h2 h3 h4 h5 h6 h7
    unfold grP
    rw [if_pos h3]
    unfold grF
    rw [h1, h2, if_neg (by simp; omega), if_neg (by simpa using h6)]
    by_cases h8 : lf = 0
    · rw [if_pos h8, h7 h8, h8]
    · rw [if_neg h8]
  by_cases hx : ex t tl.length = true
  · cases h1 : subB u 956 with
    | false =>
      refine .inl ⟨1, by simp, ?_⟩
      unfold grP grF
      rw [if_pos hx, h1, if_pos (by simp)]
    | true =>
      by_cases h2 : li < 0 ∨ 1099511627776 < li
      · refine .inl ⟨1, by simp, ?_⟩
        unfold grP grF
        rw [if_pos hx, if_pos (by right; exact h2)]
      · cases h3 : subB u (usesP tl rl t) with
        | false =>
          refine .inl ⟨10, by simp, ?_⟩
          unfold grP grF
          rw [if_pos hx, h1, if_neg (by simpa using h2), h3, if_pos (by simp)]
        | true =>
          by_cases h4 : 0 < (nth tl t.toNat).li ∧ (nth tl t.toNat).li < li
          · refine .inl ⟨10, by simp, ?_⟩
            unfold grP grF
            rw [if_pos hx, h1, if_neg (by simpa using h2), if_pos (by right; exact h4)]
          · refine .inr ⟨if li = 0 then (nth tl t.toNat).li else li, ?_, rfl, rfl, fun g1 g2 => ?_⟩
            · unfold grP grF
              rw [if_pos hx, h1, if_neg (by simpa using h2), h3, if_neg (by simpa using h4)]
            · by_cases h5 : li = 0
              · rw [if_pos h5] at g1 g2 ⊢
                refine ⟨key u _ h1 h3 hx g1 g2 (by omega) (fun h => h), fun f sh k1 k2 k3 => key _ sh (subB_of_and _ _ _ h1) (subB_of_and _ _ _ h3) hx k1 (by omega) (by omega) k3⟩
              · rw [if_neg h5] at g1 g2 ⊢
                refine ⟨key u _ h1 h3 hx g1 g2 h4 (fun h => absurd h h5), fun f sh k1 k2 k3 => key _ sh (subB_of_and _ _ _ h1) (subB_of_and _ _ _ h3) hx k1 (by omega) (by omega) (fun h => absurd (k3 h) h5)⟩
  · refine .inl ⟨11, by simp, ?_⟩
    unfold grP
    rw [if_neg hx]
/-- a is a source for b exactly if there is the rule -/
theorem sources_mem (rl : List RuP) (k a b : Int) : decide (a ∈ srt (sourcesP rl k b)) = decide (RuP.mk k a b ∈ rl) := by
  apply decide_eq_decide.2
  rw [mem_srt]
  unfold sourcesP picked
  simp only [List.mem_map, List.mem_filter, Bool.and_eq_true, beq_iff_eq]
  constructor
  · rintro ⟨r, ⟨h1, h2, h3⟩, h4⟩
    obtain ⟨x, y, z⟩ := r
    simp only at h2 h3 h4
    subst h2 h3 h4
    exact h1
  · intro h
    exact ⟨_, ⟨h, rfl, rfl⟩, rfl⟩
theorem targets_mem (rl : List RuP) (k a b : Int) : decide (b ∈ srt (targetsP rl k a)) = decide (RuP.mk k a b ∈ rl) := by
  apply decide_eq_decide.2
  rw [mem_srt]
  unfold targetsP picked
  simp only [List.mem_map, List.mem_filter, Bool.and_eq_true, beq_iff_eq]
  constructor
  · rintro ⟨r, ⟨h1, h2, h3⟩, h4⟩
    obtain ⟨x, y, z⟩ := r
    simp only at h2 h3 h4
    subst h2 h3 h4
    exact h1
  · intro h
    exact ⟨_, ⟨h, rfl, rfl⟩, rfl⟩
theorem inc_at (l : List Int) (h : Inc l) (j : Nat) (hj : j + 1 < l.length) : nth l j < nth l (j + 1) := by
  rw [nth_eq l j (by omega), nth_eq l (j + 1) hj]
  exact List.pairwise_iff_getElem.1 h j (j + 1) (by omega) hj (by omega)
end Go.Proofs.YtamdlkflcbefdaaDoor
