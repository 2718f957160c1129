/- A row's cells that stay; guarded loads. -/
import Derived.Test.YtbkkffdgkkcbfaaCipherI
namespace Go.Proofs.Ytbkkffdgkkcbfaa
open Go.RowKit
set_option linter.unusedSimpArgs false
set_option linter.unusedVariables false
structure At (w : World) (g : Nat) (S : List UInt32) : Prop where
  lt : g < w.heap.size
  cells : w.heap[g]? = some (.cells (row S) 23 (0, 0))
theorem At.new (w : World) (S : List UInt32) : At (w.alloc (.cells (row S) 23)) w.heap.size S := ⟨by simp, heap_alloc_new _ _⟩
theorem At.alloc {w : World} {g : Nat} {S : List UInt32} (h : At w g S) (X : Obj) : At (w.alloc X) g S :=
  ⟨by have := h.lt; simp; omega, by rw [heap_past _ _ _ h.lt]; exact h.cells⟩
theorem At.keep {w w' : World} {g : Nat} {S : List UInt32} (h : At w g S) (hb : Below w.heap.size w w') : At w' g S :=
  ⟨Nat.lt_of_lt_of_le h.lt hb.size, by rw [hb.block _ h.lt]; exact h.cells⟩
theorem ld_rowG {ops : Array Oper} {rest : List Oper} {o : Oper} {a : Act} {w : World} {Q : Exit → Act → World → Prop} (hgd : Region.wanted o (yielded ops a.tmps) = true) (x : Operand) (ho : o.op = .load 23 x)
    (g : Nat) (hx : a.eval x = .pointer (some ⟨g, 0, none⟩)) (s : List UInt32) (hg : At w g s) (hl : s.length = 16)
    (h : wpList Try.prog ops Q rest (a.put o.dst (.agg (row s))) w) : wpList Try.prog ops Q (o :: rest) a w :=
  wpList_step fun K hK => by
    rw [if_pos hgd]
    exact wp_load_row _ x ho g hx _ (row s) (0, 0) _ hg.cells Try.underlying23 rfl (size_row s hl) (hK _ _ h)
end Go.Proofs.Ytbkkffdgkkcbfaa
