/- The specification's functions of the cipher. -/
import Derived.Test.YtbkkffdgkkcbfaaCipherA
import Derived.Laws.CopyOwn
namespace Go.Proofs.Ytbkkffdgkkcbfaa
open Go.RowKit
set_option linter.unusedSimpArgs false
set_option linter.unusedVariables false

@[go_sem] theorem row16 (s : List UInt32) (h : s.length = 16) : #[Value.int .u32 (W32 (w16 s 0)), .int .u32 (W32 (w16 s 1)), .int .u32 (W32 (w16 s 2)), .int .u32 (W32 (w16 s 3)), .int .u32 (W32 (w16 s 4)), .int .u32 (W32 (w16 s 5)), .int .u32 (W32 (w16 s 6)), .int .u32 (W32 (w16 s 7)), .int .u32 (W32 (w16 s 8)), .int .u32 (W32 (w16 s 9)), .int .u32 (W32 (w16 s 10)), .int .u32 (W32 (w16 s 11)), .int .u32 (W32 (w16 s 12)), .int .u32 (W32 (w16 s 13)), .int .u32 (W32 (w16 s 14)), .int .u32 (W32 (w16 s 15))] = row s := by
  match s, h with
  | [a, b, c, d, e, f, g, h, i, j, k, l, m, n, o, p], _ => rfl
@[go_sem] theorem row_toList (s : List UInt32) (h : s.length = 16) : (row s).toList = [Value.int .u32 (W32 (w16 s 0)), .int .u32 (W32 (w16 s 1)), .int .u32 (W32 (w16 s 2)), .int .u32 (W32 (w16 s 3)), .int .u32 (W32 (w16 s 4)), .int .u32 (W32 (w16 s 5)), .int .u32 (W32 (w16 s 6)), .int .u32 (W32 (w16 s 7)), .int .u32 (W32 (w16 s 8)), .int .u32 (W32 (w16 s 9)), .int .u32 (W32 (w16 s 10)), .int .u32 (W32 (w16 s 11)), .int .u32 (W32 (w16 s 12)), .int .u32 (W32 (w16 s 13)), .int .u32 (W32 (w16 s 14)), .int .u32 (W32 (w16 s 15))] := by
  rw [← row16 s h]

def zero16 : Array Value := #[.int .u32 0, .int .u32 0, .int .u32 0, .int .u32 0, .int .u32 0, .int .u32 0, .int .u32 0, .int .u32 0, .int .u32 0, .int .u32 0, .int .u32 0, .int .u32 0, .int .u32 0, .int .u32 0, .int .u32 0, .int .u32 0]
theorem info23 : (Try.prog.info? 23).map (·.size) = some 16 := by kernel_rfl
theorem size_row (s : List UInt32) (h : s.length = 16) : (Try.prog.info? 23).map (·.size) = some (row s).size := by rw [row_size, h]; exact info23
theorem row_one (s : List UInt32) : (row s).all (·.oneCell') = true := by
  rw [Array.all_eq_true_iff_forall_mem]
  intro x hx
  simp only [row, List.mem_toArray, List.mem_map] at hx
  obtain ⟨y, _, rfl⟩ := hx
  rfl
/-- a whole row out of memory, and into it -/
theorem ld_row {ops : Array Oper} {rest : List Oper} {o : Oper} {a : Act} {w : World} {Q : Exit → Act → World → Prop} (hgd : o.guard = none) (x : Operand) (ho : o.op = .load 23 x)
    (g : Nat) (hx : a.eval x = .pointer (some ⟨g, 0, none⟩)) (s : List UInt32) (T : TypeId) (hg : w.heap[g]? = some (.cells (row s) T (0, 0))) (hl : s.length = 16)
    (h : wpList Try.prog ops Q rest (a.put o.dst (.agg (row s))) w) : wpList Try.prog ops Q (o :: rest) a w :=
  wpList_load_row hgd _ x ho g hx T (row s) (0, 0) _ hg Try.underlying23 rfl (size_row s hl) h
theorem st_row {ops : Array Oper} {rest : List Oper} {o : Oper} {a : Act} {w : World} {Q : Exit → Act → World → Prop} (hgd : o.guard = none) (x y : Operand) (ho : o.op = .store 23 x y)
    (g : Nat) (s : List UInt32) (hx : a.eval x = .pointer (some ⟨g, 0, none⟩)) (hy : a.eval y = .agg (row s)) (T : TypeId) (old : Array Value) (hg : w.heap[g]? = some (.cells old T (0, 0))) (hold : old.size = 16) (hl : s.length = 16)
    (h : wpList Try.prog ops Q rest (a.put o.dst undef) (w.setRow g (row s))) : wpList Try.prog ops Q (o :: rest) a w :=
  wpList_store_row hgd _ x y ho g (row s) hx hy T old hg (size_row s hl) (by rw [row_size, hl, hold]) (row_one s) h
theorem res_row {fn : Func} {p : Tmp} (h : fn.results = #[.cell p 23]) (tmps : Array Value) (w : World) (g : Nat) (T : TypeId) (s : List UInt32)
    (hp : tmps.getD p undef = .pointer (some ⟨g, 0, none⟩)) (hg : w.heap[g]? = some (.cells (row s) T (0, 0))) (hl : s.length = 16) : (results fn tmps).run Try.prog w = .ok (.agg (row s)) w :=
  results_cell_row h tmps w g T (row s) (0, 0) _ hp hg Try.underlying23 rfl (size_row s hl)
theorem res_row2 {fn : Func} {p q : Tmp} (h : fn.results = #[.cell p 23, .tmp q]) (tmps : Array Value) (w : World) (g : Nat) (T : TypeId) (s : List UInt32)
    (hp : tmps.getD p undef = .pointer (some ⟨g, 0, none⟩)) (hg : w.heap[g]? = some (.cells (row s) T (0, 0))) (hl : s.length = 16) : (results fn tmps).run Try.prog w = .ok (.tuple #[.agg (row s), tmps.getD q undef]) w := by
  rw [results_cell_tmp h, hp]
  have : (loadVar 23 ⟨g, 0, none⟩).run Try.prog w = .ok (.agg (row s)) w := run_loadVar_row w g T _ (row s) (0, 0) _ hg Try.underlying23 rfl (size_row s hl)
  simp [asAddr, this, Result.andThen]
theorem heap1 (w : World) (A : Obj) (n : Nat) : ((w.alloc A).drewN n).heap[w.heap.size]? = some A := heap_alloc_new w A
theorem setRow_alloc_last (w : World) (c d : Array Value) (T : TypeId) (n : Nat) (hn : n = w.heap.size) : (w.alloc (.cells c T)).setRow n d = w.alloc (.cells d T) := by
  subst hn
  simp only [World.setRow, World.alloc]
  congr 1
  apply Array.ext_getElem?
  intro i
  rw [Array.getElem?_modify]
  by_cases h : w.heap.size = i
  · subst h; simp
  · have h' : ¬ i = w.heap.size := fun e => h e.symm
    simp [h, h', Array.getElem?_push]
attribute [go_sem] setRow_alloc_last
theorem setRow_alloc_under (w : World) (d : Array Value) (o : Obj) (n : Nat) (hn : n < w.heap.size) : (w.alloc o).setRow n d = (w.setRow n d).alloc o := by
  simp only [World.setRow, World.alloc]
  congr 1
  apply Array.ext_getElem?
  intro i
  rw [Array.getElem?_modify, Array.getElem?_push, Array.getElem?_push]
  simp only [Array.size_modify, Array.getElem?_modify]
  by_cases h : n = i
  · subst h; simp [Nat.ne_of_lt hn]
  · simp [h]
attribute [go_sem] setRow_alloc_under
theorem heap_last (w : World) (o : Obj) (n : Nat) (hn : n = w.heap.size) : (w.alloc o).heap[n]? = some o := by subst hn; exact heap_alloc_new w o
theorem heap_past (w : World) (o : Obj) (n : Nat) (hn : n < w.heap.size) : (w.alloc o).heap[n]? = w.heap[n]? := by rw [World.alloc]; simp [Array.getElem?_push, Nat.ne_of_lt hn]

theorem heap2_first (w : World) (A Z : Obj) (n : Nat) : (((w.alloc A).alloc Z).drewN n).heap[w.heap.size]? = some A := by
  show ((w.alloc A).alloc Z).heap[w.heap.size]? = some A
  rw [heap_past _ _ _ (by simp), heap_last _ _ _ rfl]
theorem heap2_second (w : World) (A Z : Obj) (n : Nat) : (((w.alloc A).alloc Z).drewN n).heap[w.heap.size + 1]? = some Z := by
  show ((w.alloc A).alloc Z).heap[w.heap.size + 1]? = some Z
  rw [heap_last _ _ _ (by simp)]

set_option maxHeartbeats 4000000 in
theorem quarter_ref (w : World) (s : List UInt32) (hl : s.length = 16) (i j k l : Nat) (hi : i < 16) (hj : j < 16) (hk : k < 16) (hl' : l < 16)
    (h1 : ¬ i = j) (h2 : ¬ i = k) (h3 : ¬ i = l) (h4 : ¬ j = k) (h5 : ¬ j = l) (h6 : ¬ k = l) :
    Calls Try.prog 25 #[.agg (row s), .int .i64 i, .int .i64 j, .int .i64 k, .int .i64 l] w fun e w' => e = .returned (.agg (row (C3.qset s i j k l))) ∧ Below w.heap.size w w' := by
  have hw := w16_set
  have g1 : ¬ j = i := fun e => h1 e.symm
  have g2 : ¬ k = i := fun e => h2 e.symm
  have g3 : ¬ l = i := fun e => h3 e.symm
  have g4 : ¬ k = j := fun e => h4 e.symm
  have g5 : ¬ l = j := fun e => h5 e.symm
  have g6 : ¬ l = k := fun e => h6 e.symm
  have bi : (i : Int) < 16 := by omega
  have bj : (j : Int) < 16 := by omega
  have bk : (k : Int) < 16 := by omega
  have bl : (l : Int) < 16 := by omega
  go_enter Try.func25, Try.ntmps25
  go_wp2
  first | refine tailD 9 (by kernel_rfl) (by kernel_rfl) ?_ | refine tail0 9 (by kernel_rfl) (by kernel_rfl) ?_
  simp only [List.take_succ_cons, List.take_zero, List.drop_succ_cons, List.drop_zero]
  repeat (quiet_step (fail))
  refine wpQuiet_nil ?_
  rintro _ ⟨nq, rfl⟩
  go_wp2
  first | refine tailD 10 (by kernel_rfl) (by kernel_rfl) ?_ | refine tail0 10 (by kernel_rfl) (by kernel_rfl) ?_
  simp only [List.take_succ_cons, List.take_zero, List.drop_succ_cons, List.drop_zero]
  repeat (quiet_step ((go_at_call 28; exact Calls.quiet_of (rotl_ref _ _ (by omega) (by omega) _))))
  refine wpQuiet_nil ?_
  rintro _ ⟨nq, rfl⟩
  go_wp2
  first | refine tailD 9 (by kernel_rfl) (by kernel_rfl) ?_ | refine tail0 9 (by kernel_rfl) (by kernel_rfl) ?_
  simp only [List.take_succ_cons, List.take_zero, List.drop_succ_cons, List.drop_zero]
  repeat (quiet_step (fail))
  refine wpQuiet_nil ?_
  rintro _ ⟨nq, rfl⟩
  go_wp2
  first | refine tailD 10 (by kernel_rfl) (by kernel_rfl) ?_ | refine tail0 10 (by kernel_rfl) (by kernel_rfl) ?_
  simp only [List.take_succ_cons, List.take_zero, List.drop_succ_cons, List.drop_zero]
  repeat (quiet_step ((go_at_call 28; exact Calls.quiet_of (rotl_ref _ _ (by omega) (by omega) _))))
  refine wpQuiet_nil ?_
  rintro _ ⟨nq, rfl⟩
  go_wp2
  first | refine tailD 9 (by kernel_rfl) (by kernel_rfl) ?_ | refine tail0 9 (by kernel_rfl) (by kernel_rfl) ?_
  simp only [List.take_succ_cons, List.take_zero, List.drop_succ_cons, List.drop_zero]
  repeat (quiet_step (fail))
  refine wpQuiet_nil ?_
  rintro _ ⟨nq, rfl⟩
  go_wp2
  first | refine tailD 10 (by kernel_rfl) (by kernel_rfl) ?_ | refine tail0 10 (by kernel_rfl) (by kernel_rfl) ?_
  simp only [List.take_succ_cons, List.take_zero, List.drop_succ_cons, List.drop_zero]
  repeat (quiet_step ((go_at_call 28; exact Calls.quiet_of (rotl_ref _ _ (by omega) (by omega) _))))
  refine wpQuiet_nil ?_
  rintro _ ⟨nq, rfl⟩
  go_wp2
  first | refine tailD 9 (by kernel_rfl) (by kernel_rfl) ?_ | refine tail0 9 (by kernel_rfl) (by kernel_rfl) ?_
  simp only [List.take_succ_cons, List.take_zero, List.drop_succ_cons, List.drop_zero]
  repeat (quiet_step (fail))
  refine wpQuiet_nil ?_
  rintro _ ⟨nq, rfl⟩
  go_wp2
  first | refine tailD 10 (by kernel_rfl) (by kernel_rfl) ?_ | refine tail0 10 (by kernel_rfl) (by kernel_rfl) ?_
  simp only [List.take_succ_cons, List.take_zero, List.drop_succ_cons, List.drop_zero]
  repeat (quiet_step ((go_at_call 28; exact Calls.quiet_of (rotl_ref _ _ (by omega) (by omega) _))))
  refine wpQuiet_nil ?_
  rintro _ ⟨nq, rfl⟩
  clear hw
  go_wp2_with (first
    | (refine ld_row rfl (.tmp 5) rfl _ rfl _ 23 (heap2_first _ _ _ _) (by simp [hl]) ?_)
    | (refine st_row rfl (.tmp 10) (.tmp 87) rfl _ _ rfl rfl 23 _ (heap2_second _ _ _ _) rfl (by simp [hl]) ?_))
  refine bodyPost_ret (v := .agg (row _)) (res_row rfl _ _ _ _ _ rfl (setRow_heap _ _ _ _ _ _ (heap2_second _ _ _ _)) (by simp [hl])) rfl ⟨?_, ?_⟩
  · rw [C3.set_chain _ _ _ _ _ h1 h2 h3 h4 h5 h6]; rfl
  · exact below_setRow (below_drewN _ (((Below.refl _ _).alloc (Nat.le_refl _) _).alloc (by simp) _)) (by omega) _

set_option maxHeartbeats 4000000 in
theorem undo_ref (w : World) (s : List UInt32) (hl : s.length = 16) (i j k l : Nat) (hi : i < 16) (hj : j < 16) (hk : k < 16) (hl' : l < 16)
    (h1 : ¬ i = j) (h2 : ¬ i = k) (h3 : ¬ i = l) (h4 : ¬ j = k) (h5 : ¬ j = l) (h6 : ¬ k = l) :
    Calls Try.prog 26 #[.agg (row s), .int .i64 i, .int .i64 j, .int .i64 k, .int .i64 l] w fun e w' => e = .returned (.agg (row (C3.uset s i j k l))) ∧ Below w.heap.size w w' := by
  have hw := w16_set
  have g1 : ¬ j = i := fun e => h1 e.symm
  have g2 : ¬ k = i := fun e => h2 e.symm
  have g3 : ¬ l = i := fun e => h3 e.symm
  have g4 : ¬ k = j := fun e => h4 e.symm
  have g5 : ¬ l = j := fun e => h5 e.symm
  have g6 : ¬ l = k := fun e => h6 e.symm
  have bi : (i : Int) < 16 := by omega
  have bj : (j : Int) < 16 := by omega
  have bk : (k : Int) < 16 := by omega
  have bl : (l : Int) < 16 := by omega
  go_enter Try.func26, Try.ntmps26
  go_wp2
  first | refine tailD 10 (by kernel_rfl) (by kernel_rfl) ?_ | refine tail0 10 (by kernel_rfl) (by kernel_rfl) ?_
  simp only [List.take_succ_cons, List.take_zero, List.drop_succ_cons, List.drop_zero]
  repeat (quiet_step ((go_at_call 28; exact Calls.quiet_of (rotl_ref _ _ (by omega) (by omega) _))))
  refine wpQuiet_nil ?_
  rintro _ ⟨nq, rfl⟩
  go_wp2
  first | refine tailD 9 (by kernel_rfl) (by kernel_rfl) ?_ | refine tail0 9 (by kernel_rfl) (by kernel_rfl) ?_
  simp only [List.take_succ_cons, List.take_zero, List.drop_succ_cons, List.drop_zero]
  repeat (quiet_step (fail))
  refine wpQuiet_nil ?_
  rintro _ ⟨nq, rfl⟩
  go_wp2
  first | refine tailD 10 (by kernel_rfl) (by kernel_rfl) ?_ | refine tail0 10 (by kernel_rfl) (by kernel_rfl) ?_
  simp only [List.take_succ_cons, List.take_zero, List.drop_succ_cons, List.drop_zero]
  repeat (quiet_step ((go_at_call 28; exact Calls.quiet_of (rotl_ref _ _ (by omega) (by omega) _))))
  refine wpQuiet_nil ?_
  rintro _ ⟨nq, rfl⟩
  go_wp2
  first | refine tailD 9 (by kernel_rfl) (by kernel_rfl) ?_ | refine tail0 9 (by kernel_rfl) (by kernel_rfl) ?_
  simp only [List.take_succ_cons, List.take_zero, List.drop_succ_cons, List.drop_zero]
  repeat (quiet_step (fail))
  refine wpQuiet_nil ?_
  rintro _ ⟨nq, rfl⟩
  go_wp2
  first | refine tailD 10 (by kernel_rfl) (by kernel_rfl) ?_ | refine tail0 10 (by kernel_rfl) (by kernel_rfl) ?_
  simp only [List.take_succ_cons, List.take_zero, List.drop_succ_cons, List.drop_zero]
  repeat (quiet_step ((go_at_call 28; exact Calls.quiet_of (rotl_ref _ _ (by omega) (by omega) _))))
  refine wpQuiet_nil ?_
  rintro _ ⟨nq, rfl⟩
  go_wp2
  first | refine tailD 9 (by kernel_rfl) (by kernel_rfl) ?_ | refine tail0 9 (by kernel_rfl) (by kernel_rfl) ?_
  simp only [List.take_succ_cons, List.take_zero, List.drop_succ_cons, List.drop_zero]
  repeat (quiet_step (fail))
  refine wpQuiet_nil ?_
  rintro _ ⟨nq, rfl⟩
  go_wp2
  first | refine tailD 10 (by kernel_rfl) (by kernel_rfl) ?_ | refine tail0 10 (by kernel_rfl) (by kernel_rfl) ?_
  simp only [List.take_succ_cons, List.take_zero, List.drop_succ_cons, List.drop_zero]
  repeat (quiet_step ((go_at_call 28; exact Calls.quiet_of (rotl_ref _ _ (by omega) (by omega) _))))
  refine wpQuiet_nil ?_
  rintro _ ⟨nq, rfl⟩
  go_wp2
  first | refine tailD 9 (by kernel_rfl) (by kernel_rfl) ?_ | refine tail0 9 (by kernel_rfl) (by kernel_rfl) ?_
  simp only [List.take_succ_cons, List.take_zero, List.drop_succ_cons, List.drop_zero]
  repeat (quiet_step (fail))
  refine wpQuiet_nil ?_
  rintro _ ⟨nq, rfl⟩
  clear hw
  go_wp2_with (first
    | (refine ld_row rfl (.tmp 5) rfl _ rfl _ 23 (heap2_first _ _ _ _) (by simp [hl]) ?_)
    | (refine st_row rfl (.tmp 10) (.tmp 87) rfl _ _ rfl rfl 23 _ (heap2_second _ _ _ _) rfl (by simp [hl]) ?_))
  refine bodyPost_ret (v := .agg (row _)) (res_row rfl _ _ _ _ _ rfl (setRow_heap _ _ _ _ _ _ (heap2_second _ _ _ _)) (by simp [hl])) rfl ⟨?_, ?_⟩
  · rw [C3.set_chain2 _ _ _ _ _ h1 h2 h3 h4 h5 h6]; rfl
  · exact below_setRow (below_drewN _ (((Below.refl _ _).alloc (Nat.le_refl _) _).alloc (by simp) _)) (by omega) _
end Go.Proofs.Ytbkkffdgkkcbfaa
