/- The specification's Plan, refused at once. -/
import Derived.Test.YtjbndfnhollfnaaPlanB
namespace Go.Proofs.Ytjbndfnhollfnaa
open Go.RowKit Go.Shelf
set_option linter.unusedSimpArgs false
set_option linter.unusedVariables false
theorem ld_bk2 {w : World} (b : BK) (u : Value) (A C : Obj) : ((((w.alloc A).alloc (.cells (bc b u) 28)).alloc C).heap[w.heap.size + 1]?) = some (.cells (bc b u) 28 (0, 0)) := by
  have h := heap_alloc_new (w.alloc A) (.cells (bc b u) 28)
  rw [World.size_alloc] at h
  have h2 := (Below.refl ((w.alloc A).alloc (.cells (bc b u) 28)).heap.size ((w.alloc A).alloc (.cells (bc b u) 28))).alloc (Nat.le_refl _) C
  rw [h2.block _ (by simp)]
  exact h
attribute [local irreducible] Calls validB planK
set_option maxRecDepth 100000 in
set_option maxHeartbeats 2000000 in
theorem plan_rn (nx now : Int) (v u : Value) (tl bl : List K) (b : BK) (w : World) (hu : RdK w u bl) (he : validB b bl = false ∨ now < 0 ∨ 1099511627776 < now) :
    Calls Try.prog 11 #[.agg #[.int .i64 nx, v], .agg (bc b u), .int .i64 now] w fun e w' => e = .returned (.agg (pl 0 (.slice none 0 0) (.slice none 0 0) 1)) ∧ Below w.heap.size w w' := by
  obtain ⟨W0, hW0⟩ : ∃ W0, W0 = ((w.alloc (.cells #[.int .i64 nx, v] 24)).alloc (.cells (bc b u) 28)).alloc (.cells #[.int .i64 0, .slice none 0 0, .slice none 0 0, .int .i64 0] 41) := ⟨_, rfl⟩
  have hval := validB_r b u bl W0 (by rw [hW0]; exact ((hu.alloc _).alloc _).alloc _)
  have HB0 := Lib.hid (ld_bk2 (w := w) b u (.cells #[.int .i64 nx, v] 24) (.cells #[.int .i64 0, .slice none 0 0, .slice none 0 0, .int .i64 0] 41))
  have hbx : ∀ w1, Below W0.heap.size W0 w1 → w1.heap[w.heap.size + 1 + 1]? = some (.cells #[.int .i64 0, .slice none 0 0, .slice none 0 0, .int .i64 0] 41 (0, 0)) ∧ Below w.heap.size w w1 := by
    intro w1 h
    rw [hW0] at h
    exact ⟨by rw [h.block _ (by simp)]; exact heap3_2' _ _ _ _, below3 _ _ _ _ h⟩
  have HBX := Lib.hid hbx
  rw [hW0] at hval
  have HW := Lib.hid hW0
  clear hW0 hbx
  have ways : (validB b bl = false) ∨ (validB b bl = true ∧ now < 0) ∨ (validB b bl = true ∧ ¬ now < 0 ∧ 1099511627776 < now) := by
    cases hvv : validB b bl
    · exact .inl rfl
    · by_cases h : now < 0
      · exact .inr (.inl ⟨rfl, h⟩)
      · exact .inr (.inr ⟨rfl, h, by rw [hvv] at he; rcases he with h1 | h1 | h1 <;> first | cases h1 | omega⟩)
  clear he
  rcases ways with h1 | ⟨h1, h2⟩ | ⟨h1, h2, h3⟩
  all_goals
    rw [h1] at hval
    have HVAL := Lib.hid hval
    clear hval h1
    go_enter Try.func11, Try.ntmps11
    go_wp2_with (first
      | (refine ld_bk b u rfl (.tmp 4) rfl _ rfl _ HB0.out ?_)
      | (go_at_call 20; refine HVAL.out.mono ?_; rintro e w1 ⟨rfl, hb⟩; rw [← HW.out] at hb; obtain ⟨hg, hbb⟩ := HBX.out _ hb; have r0 : w1.cell? ⟨w.heap.size + 1 + 1, 0, none⟩ = some (.int .i64 0) := cell_of_row _ _ _ _ _ _ hg; have r1 : w1.cell? ⟨w.heap.size + 1 + 1, 1, none⟩ = some (.slice none 0 0) := cell_of_row _ _ _ _ _ _ hg; have r2 : w1.cell? ⟨w.heap.size + 1 + 1, 2, none⟩ = some (.slice none 0 0) := cell_of_row _ _ _ _ _ _ hg; have r3 : w1.cell? ⟨w.heap.size + 1 + 1, 3, none⟩ = some (.int .i64 0) := cell_of_row _ _ _ _ _ _ hg; have g0 := frow hg 0; have g1 := frow hg 1; have g2 := frow hg 2; have g3 := frow hg 3; have HBB := Lib.hid hbb; clear hg hb hbb))
    have hle : w.heap.size ≤ w.heap.size + 1 + 1 := by omega
    refine bodyPost_ret (v := .agg (pl 0 (.slice none 0 0) (.slice none 0 0) 1)) (by simp [results, Try.results11, go_sem, r0, r1, r2, r3, pl]) rfl ⟨rfl, ?_⟩
    exact (((HBB.out.setCell (p := ⟨w.heap.size + 1 + 1, 0, none⟩) hle _).setCell (p := ⟨w.heap.size + 1 + 1, 1, none⟩) hle _).setCell (p := ⟨w.heap.size + 1 + 1, 2, none⟩) hle _).setCell (p := ⟨w.heap.size + 1 + 1, 3, none⟩) hle _
end Go.Proofs.Ytjbndfnhollfnaa
