/- The specification's functions of the cipher. -/
import Derived.Test.YtackbjbmadkkhaaDoorCipherA
import Derived.Laws.CopyOwn
namespace Go.Proofs.YtackbjbmadkkhaaDoor
open Go.RowKit
set_option linter.unusedSimpArgs false
set_option linter.unusedVariables false

@[go_sem] theorem row16 (s : List UInt32) (h : s.length = 16) : #[Value.int .u32 (W32 (w16 s 0)), .int .u32 (W32 (w16 s 1)), .int .u32 (W32 (w16 s 2)), .int .u32 (W32 (w16 s 3)), .int .u32 (W32 (w16 s 4)), .int .u32 (W32 (w16 s 5)), .int .u32 (W32 (w16 s 6)), .int .u32 (W32 (w16 s 7)), .int .u32 (W32 (w16 s 8)), .int .u32 (W32 (w16 s 9)), .int .u32 (W32 (w16 s 10)), .int .u32 (W32 (w16 s 11)), .int .u32 (W32 (w16 s 12)), .int .u32 (W32 (w16 s 13)), .int .u32 (W32 (w16 s 14)), .int .u32 (W32 (w16 s 15))] = row s := by
  match s, h with
  | [a, b, c, d, e, f, g, h, i, j, k, l, m, n, o, p], _ => rfl
@[go_sem] theorem row_toList (s : List UInt32) (h : s.length = 16) : (row s).toList = [Value.int .u32 (W32 (w16 s 0)), .int .u32 (W32 (w16 s 1)), .int .u32 (W32 (w16 s 2)), .int .u32 (W32 (w16 s 3)), .int .u32 (W32 (w16 s 4)), .int .u32 (W32 (w16 s 5)), .int .u32 (W32 (w16 s 6)), .int .u32 (W32 (w16 s 7)), .int .u32 (W32 (w16 s 8)), .int .u32 (W32 (w16 s 9)), .int .u32 (W32 (w16 s 10)), .int .u32 (W32 (w16 s 11)), .int .u32 (W32 (w16 s 12)), .int .u32 (W32 (w16 s 13)), .int .u32 (W32 (w16 s 14)), .int .u32 (W32 (w16 s 15))] := by
  rw [← row16 s h]

def zero16 : Array Value := #[.int .u32 0, .int .u32 0, .int .u32 0, .int .u32 0, .int .u32 0, .int .u32 0, .int .u32 0, .int .u32 0, .int .u32 0, .int .u32 0, .int .u32 0, .int .u32 0, .int .u32 0, .int .u32 0, .int .u32 0, .int .u32 0]
theorem info23 : (Tryd.prog.info? 71).map (·.size) = some 16 := by kernel_rfl
theorem size_row (s : List UInt32) (h : s.length = 16) : (Tryd.prog.info? 71).map (·.size) = some (row s).size := by rw [row_size, h]; exact info23
theorem row_one (s : List UInt32) : (row s).all (·.oneCell') = true := by
  rw [Array.all_eq_true_iff_forall_mem]
  intro x hx
  simp only [row, List.mem_toArray, List.mem_map] at hx
  obtain ⟨y, _, rfl⟩ := hx
  rfl
/-- a whole row out of memory, and into it -/
theorem ld_row {ops : Array Oper} {rest : List Oper} {o : Oper} {a : Act} {w : World} {Q : Exit → Act → World → Prop} (hgd : o.guard = none) (x : Operand) (ho : o.op = .load 71 x)
    (g : Nat) (hx : a.eval x = .pointer (some ⟨g, 0, none⟩)) (s : List UInt32) (T : TypeId) (hg : w.heap[g]? = some (.cells (row s) T (0, 0))) (hl : s.length = 16)
    (h : wpList Tryd.prog ops Q rest (a.put o.dst (.agg (row s))) w) : wpList Tryd.prog ops Q (o :: rest) a w :=
  wpList_load_row hgd _ x ho g hx T (row s) (0, 0) _ hg Tryd.underlying71 rfl (size_row s hl) h
theorem st_row {ops : Array Oper} {rest : List Oper} {o : Oper} {a : Act} {w : World} {Q : Exit → Act → World → Prop} (hgd : o.guard = none) (x y : Operand) (ho : o.op = .store 71 x y)
    (g : Nat) (s : List UInt32) (hx : a.eval x = .pointer (some ⟨g, 0, none⟩)) (hy : a.eval y = .agg (row s)) (T : TypeId) (old : Array Value) (hg : w.heap[g]? = some (.cells old T (0, 0))) (hold : old.size = 16) (hl : s.length = 16)
    (h : wpList Tryd.prog ops Q rest (a.put o.dst undef) (w.setRow g (row s))) : wpList Tryd.prog ops Q (o :: rest) a w :=
  wpList_store_row hgd _ x y ho g (row s) hx hy T old hg (size_row s hl) (by rw [row_size, hl, hold]) (row_one s) h
theorem res_row {fn : Func} {p : Tmp} (h : fn.results = #[.cell p 71]) (tmps : Array Value) (w : World) (g : Nat) (T : TypeId) (s : List UInt32)
    (hp : tmps.getD p undef = .pointer (some ⟨g, 0, none⟩)) (hg : w.heap[g]? = some (.cells (row s) T (0, 0))) (hl : s.length = 16) : (results fn tmps).run Tryd.prog w = .ok (.agg (row s)) w :=
  results_cell_row h tmps w g T (row s) (0, 0) _ hp hg Tryd.underlying71 rfl (size_row s hl)
theorem res_row2 {fn : Func} {p q : Tmp} (h : fn.results = #[.cell p 71, .tmp q]) (tmps : Array Value) (w : World) (g : Nat) (T : TypeId) (s : List UInt32)
    (hp : tmps.getD p undef = .pointer (some ⟨g, 0, none⟩)) (hg : w.heap[g]? = some (.cells (row s) T (0, 0))) (hl : s.length = 16) : (results fn tmps).run Tryd.prog w = .ok (.tuple #[.agg (row s), tmps.getD q undef]) w := by
  rw [results_cell_tmp h, hp]
  have : (loadVar 71 ⟨g, 0, none⟩).run Tryd.prog w = .ok (.agg (row s)) w := run_loadVar_row w g T _ (row s) (0, 0) _ hg Tryd.underlying71 rfl (size_row s hl)
  simp [asAddr, this, Result.andThen]
theorem heap1 (w : World) (A : Obj) (n : Nat) : ((w.alloc A).drewN n).heap[w.heap.size]? = some A := heap_alloc_new w A
theorem setRow_alloc_last (w : World) (c d : Array Value) (T : TypeId) (n : Nat) (hn : n = w.heap.size) : (w.alloc (.cells c T)).setRow n d = w.alloc (.cells d T) := by
  subst hn
  simp only [World.setRow, World.alloc]
  congr 1
  apply Array.ext_getElem?
  intro i
  rw [Array.getElem?_modify]
  by_cases h : w.heap.size = i
  · subst h; simp
  · have h' : ¬ i = w.heap.size := fun e => h e.symm
    simp [h, h', Array.getElem?_push]
attribute [go_sem] setRow_alloc_last
theorem setRow_alloc_under (w : World) (d : Array Value) (o : Obj) (n : Nat) (hn : n < w.heap.size) : (w.alloc o).setRow n d = (w.setRow n d).alloc o := by
  simp only [World.setRow, World.alloc]
  congr 1
  apply Array.ext_getElem?
  intro i
  rw [Array.getElem?_modify, Array.getElem?_push, Array.getElem?_push]
  simp only [Array.size_modify, Array.getElem?_modify]
  by_cases h : n = i
  · subst h; simp [Nat.ne_of_lt hn]
  · simp [h]
attribute [go_sem] setRow_alloc_under
theorem heap_last (w : World) (o : Obj) (n : Nat) (hn : n = w.heap.size) : (w.alloc o).heap[n]? = some o := by subst hn; exact heap_alloc_new w o
theorem heap_past (w : World) (o : Obj) (n : Nat) (hn : n < w.heap.size) : (w.alloc o).heap[n]? = w.heap[n]? := by rw [World.alloc]; simp [Array.getElem?_push, Nat.ne_of_lt hn]

theorem heap2_first (w : World) (A Z : Obj) (n : Nat) : (((w.alloc A).alloc Z).drewN n).heap[w.heap.size]? = some A := by
  show ((w.alloc A).alloc Z).heap[w.heap.size]? = some A
  rw [heap_past _ _ _ (by simp), heap_last _ _ _ rfl]
theorem heap2_second (w : World) (A Z : Obj) (n : Nat) : (((w.alloc A).alloc Z).drewN n).heap[w.heap.size + 1]? = some Z := by
  show ((w.alloc A).alloc Z).heap[w.heap.size + 1]? = some Z
  rw [heap_last _ _ _ (by simp)]

end Go.Proofs.YtackbjbmadkkhaaDoor
