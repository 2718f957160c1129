/- The specification's functions of the cipher. -/
import Derived.Test.YtackbjbmadkkhaaDoorCipherA
import Derived.Test.YtackbjbmadkkhaaDoorRow16
import Derived.Laws.CopyOwn
namespace Go.Proofs.YtackbjbmadkkhaaDoor
open Go.RowKit
set_option linter.unusedSimpArgs false
set_option linter.unusedVariables false

set_option maxHeartbeats 4000000 in
theorem quarter_ref (w : World) (s : List UInt32) (hl : s.length = 16) (i j k l : Nat) (hi : i < 16) (hj : j < 16) (hk : k < 16) (hl' : l < 16)
    (h1 : ¬ i = j) (h2 : ¬ i = k) (h3 : ¬ i = l) (h4 : ¬ j = k) (h5 : ¬ j = l) (h6 : ¬ k = l) :
    Calls Tryd.prog 67 #[.agg (row s), .int .i64 i, .int .i64 j, .int .i64 k, .int .i64 l] w fun e w' => e = .returned (.agg (row (C3.qset s i j k l))) ∧ Below w.heap.size w w' := by
  have hw := w16_set
  have g1 : ¬ j = i := fun e => h1 e.symm
  have g2 : ¬ k = i := fun e => h2 e.symm
  have g3 : ¬ l = i := fun e => h3 e.symm
  have g4 : ¬ k = j := fun e => h4 e.symm
  have g5 : ¬ l = j := fun e => h5 e.symm
  have g6 : ¬ l = k := fun e => h6 e.symm
  have bi : (i : Int) < 16 := by omega
  have bj : (j : Int) < 16 := by omega
  have bk : (k : Int) < 16 := by omega
  have bl : (l : Int) < 16 := by omega
  go_enter Tryd.func67, Tryd.ntmps67
  go_wp2
  first | refine tailD 9 (by kernel_rfl) (by kernel_rfl) ?_ | refine tail0 9 (by kernel_rfl) (by kernel_rfl) ?_
  simp only [List.take_succ_cons, List.take_zero, List.drop_succ_cons, List.drop_zero]
  repeat (quiet_step (fail))
  refine wpQuiet_nil ?_
  rintro _ ⟨nq, rfl⟩
  go_wp2
  first | refine tailD 10 (by kernel_rfl) (by kernel_rfl) ?_ | refine tail0 10 (by kernel_rfl) (by kernel_rfl) ?_
  simp only [List.take_succ_cons, List.take_zero, List.drop_succ_cons, List.drop_zero]
  repeat (quiet_step ((go_at_call 69; exact Calls.quiet_of (rotl_ref _ _ (by omega) (by omega) _))))
  refine wpQuiet_nil ?_
  rintro _ ⟨nq, rfl⟩
  go_wp2
  first | refine tailD 9 (by kernel_rfl) (by kernel_rfl) ?_ | refine tail0 9 (by kernel_rfl) (by kernel_rfl) ?_
  simp only [List.take_succ_cons, List.take_zero, List.drop_succ_cons, List.drop_zero]
  repeat (quiet_step (fail))
  refine wpQuiet_nil ?_
  rintro _ ⟨nq, rfl⟩
  go_wp2
  first | refine tailD 10 (by kernel_rfl) (by kernel_rfl) ?_ | refine tail0 10 (by kernel_rfl) (by kernel_rfl) ?_
  simp only [List.take_succ_cons, List.take_zero, List.drop_succ_cons, List.drop_zero]
  repeat (quiet_step ((go_at_call 69; exact Calls.quiet_of (rotl_ref _ _ (by omega) (by omega) _))))
  refine wpQuiet_nil ?_
  rintro _ ⟨nq, rfl⟩
  go_wp2
  first | refine tailD 9 (by kernel_rfl) (by kernel_rfl) ?_ | refine tail0 9 (by kernel_rfl) (by kernel_rfl) ?_
  simp only [List.take_succ_cons, List.take_zero, List.drop_succ_cons, List.drop_zero]
  repeat (quiet_step (fail))
  refine wpQuiet_nil ?_
  rintro _ ⟨nq, rfl⟩
  go_wp2
  first | refine tailD 10 (by kernel_rfl) (by kernel_rfl) ?_ | refine tail0 10 (by kernel_rfl) (by kernel_rfl) ?_
  simp only [List.take_succ_cons, List.take_zero, List.drop_succ_cons, List.drop_zero]
  repeat (quiet_step ((go_at_call 69; exact Calls.quiet_of (rotl_ref _ _ (by omega) (by omega) _))))
  refine wpQuiet_nil ?_
  rintro _ ⟨nq, rfl⟩
  go_wp2
  first | refine tailD 9 (by kernel_rfl) (by kernel_rfl) ?_ | refine tail0 9 (by kernel_rfl) (by kernel_rfl) ?_
  simp only [List.take_succ_cons, List.take_zero, List.drop_succ_cons, List.drop_zero]
  repeat (quiet_step (fail))
  refine wpQuiet_nil ?_
  rintro _ ⟨nq, rfl⟩
  go_wp2
  first | refine tailD 10 (by kernel_rfl) (by kernel_rfl) ?_ | refine tail0 10 (by kernel_rfl) (by kernel_rfl) ?_
  simp only [List.take_succ_cons, List.take_zero, List.drop_succ_cons, List.drop_zero]
  repeat (quiet_step ((go_at_call 69; exact Calls.quiet_of (rotl_ref _ _ (by omega) (by omega) _))))
  refine wpQuiet_nil ?_
  rintro _ ⟨nq, rfl⟩
  clear hw
  go_wp2_with (first
    | (refine ld_row rfl (.tmp 5) rfl _ rfl _ 71 (heap2_first _ _ _ _) (by simp [hl]) ?_)
    | (refine st_row rfl (.tmp 10) (.tmp 87) rfl _ _ rfl rfl 71 _ (heap2_second _ _ _ _) rfl (by simp [hl]) ?_))
  refine bodyPost_ret (v := .agg (row _)) (res_row rfl _ _ _ _ _ rfl (setRow_heap _ _ _ _ _ _ (heap2_second _ _ _ _)) (by simp [hl])) rfl ⟨?_, ?_⟩
  · rw [C3.set_chain _ _ _ _ _ h1 h2 h3 h4 h5 h6]; rfl
  · exact below_setRow (below_drewN _ (((Below.refl _ _).alloc (Nat.le_refl _) _).alloc (by simp) _)) (by omega) _

end Go.Proofs.YtackbjbmadkkhaaDoor
