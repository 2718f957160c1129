/- A made row of bytes. -/
import Derived.Test.YtbkkffdgkkcbfabOwnBytes
namespace Go.Proofs.Ytbkkffdgkkcbfab
open Go.RowKit
set_option linter.unusedSimpArgs false
set_option linter.unusedVariables false
/-- block g holds the bytes l and nothing else -/
structure BAt (w : World) (g : Nat) (l : List UInt8) : Prop where
  lt : g < w.heap.size
  cells : w.heap[g]? = some (.cells (brow l) 5 (0, 0))
theorem BAt.keep {w w' : World} {g : Nat} {l : List UInt8} (h : BAt w g l) {B : Nat} (hb : Below B w w') (hB : g < B) : BAt w' g l :=
  ⟨Nat.lt_of_lt_of_le h.lt hb.size, by rw [hb.block _ hB]; exact h.cells⟩
theorem BAt.alloc {w : World} {g : Nat} {l : List UInt8} (h : BAt w g l) (X : Obj) : BAt (w.alloc X) g l :=
  h.keep (B := w.heap.size) ((Below.refl _ _).alloc (Nat.le_refl _) X) h.lt
theorem BAt.drew {w : World} {g : Nat} {l : List UInt8} (n : Nat) (h : BAt w g l) : BAt (w.drewN n) g l :=
  h.keep (B := w.heap.size) (below_drewN n (Below.refl _ _)) h.lt
theorem BAt.at {w : World} {g : Nat} {l : List UInt8} (h : BAt w g l) (i : Nat) (hi : i < l.length) : w.cell? ⟨g, i, none⟩ = some (.int .u8 (B8 (byteAt l i))) := by
  rw [cell_of_row _ _ _ _ _ _ h.cells, brow_get _ _ hi]
theorem BAt.own {w : World} {g base : Nat} {l : List UInt8} (h : BAt w g l) (hb : base ≤ g) (hl : l.length ≤ maxLen) : OwnB w base (.slice (some ⟨g, 0, none⟩) l.length l.length) l :=
  ⟨by simp [bv], .inr ⟨g, l.length, brow l, rfl, hb, h.cells, Nat.le_refl _, hl, by simp [brow], by simp only [brow, bv, Nat.mul_one]; exact List.take_of_length_le (by simp)⟩⟩
theorem setRow_setRow (w : World) (g : Nat) (c d : Array Value) : (w.setRow g c).setRow g d = w.setRow g d := by
  unfold World.setRow
  simp only [World.mk.injEq, and_true]
  apply Array.ext_getElem?
  intro i
  simp only [Array.getElem?_modify]
  by_cases h : g = i
  · simp only [h, if_true]
    cases w.heap[i]? with
    | none => rfl
    | some o => cases o <;> rfl
  · simp [h]
theorem setCell_row (w : World) (g i : Nat) (cs : Array Value) (T : TypeId) (fr : Nat × Nat) (v : Value) (h : w.heap[g]? = some (.cells cs T fr)) : w.setCell ⟨g, i, none⟩ v = w.setRow g (cs.setIfInBounds i v) := by
  unfold World.setCell World.setRow
  simp only [World.mk.injEq, and_true]
  apply Array.ext_getElem?
  intro j
  simp only [Array.getElem?_modify]
  by_cases h' : g = j
  · subst h'
    simp [h]
  · simp [h']
theorem setCell_setRow (w : World) (g i : Nat) (old cs : Array Value) (T : TypeId) (v : Value) (h : w.heap[g]? = some (.cells old T (0, 0))) : (w.setRow g cs).setCell ⟨g, i, none⟩ v = w.setRow g (cs.setIfInBounds i v) := by
  rw [setCell_row _ _ _ _ _ _ _ (setRow_heap w g old cs T _ h), setRow_setRow]
theorem BAt.free {w : World} {g : Nat} {l : List UInt8} (h : BAt w g l) (k : Nat) : w.frozen? ⟨g, k, none⟩ = false := by
  simp [World.frozen?, h.cells]
theorem BAt.set {w : World} {g : Nat} {l : List UInt8} (h : BAt w g l) (k : Nat) (x : UInt8) : BAt (w.setCell ⟨g, k, none⟩ (.int .u8 (B8 x))) g (l.set k x) := by
  refine ⟨by rw [setCell_row _ _ _ _ _ _ _ h.cells]; simpa [World.setRow] using h.lt, ?_⟩
  rw [setCell_row _ _ _ _ _ _ _ h.cells, setRow_heap _ _ _ _ _ _ h.cells, brow_set]
/-- make([]byte, n) -/
theorem mk_full {w : World} {ops : Array Oper} {rest : List Oper} {o : Oper} {a : Act} {Q : Exit → Act → World → Prop} (hgd : o.guard = none) (l c : Operand) (hop : o.op = Op.makeSlice 30 l c)
    (n : Nat) (hl : a.eval l = .int .i64 (n : Int)) (hc : a.eval c = .int .i64 (n : Int)) (hn : n ≤ 1000000000)
    (h : ∀ w', BAt w' w.heap.size (List.replicate n 0) → Below w.heap.size w w' → wpList Try.prog ops Q rest (a.put o.dst (.slice (some ⟨w.heap.size, 0, none⟩) n n)) w') : wpList Try.prog ops Q (o :: rest) a w := by
  obtain ⟨i0, hi, hz0, hz1, hz2⟩ := info_parts info5
  refine wpList_make_full w hgd l c 30 hop w.heap.size 5 i0 (.int .u8 0) 1 Try.underlying30 hi hz0 hz1 .i64 .i64 n n n hl hc rfl rfl (by rw [hz2]; omega) (by unfold maxLen; omega) (Nat.le_refl _) ?_
  intro w' h1 h2
  refine h w' ?_ ((Below.refl _ w).grown h2 (Nat.le_refl _) (fun k hk => by cases hk))
  rcases h1.2 with ⟨e, _⟩ | ⟨g, cap, cur, e, _, hg, h3, _, h5, h6⟩
  · cases e
  · simp only [Value.slice.injEq, Option.some.injEq, Addr.mk.injEq, and_true, true_and] at e
    obtain ⟨e1, e2⟩ := e
    subst e1 e2
    have hcur : cur = brow (List.replicate n 0) := by
      apply Array.ext'
      rw [List.take_of_length_le (by rw [Array.length_toList, h5]; exact Nat.le_refl _)] at h6
      rw [h6]
      apply List.ext_getElem (by simp [madeCells, brow])
      intro i h7 h8
      simp [madeCells, brow, Value.cells]
      rw [Nat.mod_one]
      rfl
    rw [hcur] at hg
    exact ⟨(Array.getElem?_eq_some_iff.1 hg).1, hg⟩
end Go.Proofs.Ytbkkffdgkkcbfab
