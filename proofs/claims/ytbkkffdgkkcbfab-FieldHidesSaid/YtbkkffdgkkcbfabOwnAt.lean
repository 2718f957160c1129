/- Bytes of one's own, their block under a name. -/
import Derived.Test.YtbkkffdgkkcbfabOwnRow
import Derived.Maps.AppendAt
namespace Go.Proofs.Ytbkkffdgkkcbfab
open Go.RowKit
set_option linter.unusedSimpArgs false
set_option linter.unusedVariables false
/-- block g, of cap bytes, begins with the bytes l -/
def OwnAt (w : World) (g cap : Nat) (l : List UInt8) : Prop :=
  ∃ cur, w.heap[g]? = some (.cells cur 5 (0, 0)) ∧ l.length ≤ cap ∧ cap ≤ maxLen ∧ cur.size = cap ∧ cur.toList.take l.length = bv l
theorem OwnAt.lt {w : World} {g cap : Nat} {l : List UInt8} (h : OwnAt w g cap l) : g < w.heap.size := by
  obtain ⟨cur, hg, _⟩ := h
  exact (Array.getElem?_eq_some_iff.1 hg).1
theorem OwnAt.le {w : World} {g cap : Nat} {l : List UInt8} (h : OwnAt w g cap l) : l.length ≤ cap ∧ cap ≤ maxLen := by
  obtain ⟨cur, hg, h1, h2, _⟩ := h
  exact ⟨h1, h2⟩
theorem OwnAt.keep {w w' : World} {g cap : Nat} {l : List UInt8} (h : OwnAt w g cap l) {B : Nat} (hb : Below B w w') (hB : g < B) : OwnAt w' g cap l := by
  obtain ⟨cur, hg, r⟩ := h
  exact ⟨cur, by rw [hb.block _ hB]; exact hg, r⟩
theorem OwnAt.drew {w : World} {g cap : Nat} {l : List UInt8} (n : Nat) (h : OwnAt w g cap l) : OwnAt (w.drewN n) g cap l :=
  h.keep (B := w.heap.size) (below_drewN n (Below.refl _ _)) h.lt
theorem OwnAt.at {w : World} {g cap : Nat} {l : List UInt8} (h : OwnAt w g cap l) (i : Nat) (hi : i < l.length) : w.cell? ⟨g, i, none⟩ = some (.int .u8 (B8 (byteAt l i))) := by
  obtain ⟨cur, hg, h1, h2, h3, h4⟩ := h
  rw [cell_of_row _ _ _ _ _ _ hg]
  have e : (cur.toList.take l.length)[i]? = (bv l)[i]? := by rw [h4]
  rw [List.getElem?_take, if_pos hi, Array.getElem?_toList] at e
  rw [e]
  simp [bv, byteAt, List.getD_eq_getElem?_getD, List.getElem?_eq_getElem hi]
theorem OwnAt.free {w : World} {g cap : Nat} {l : List UInt8} (h : OwnAt w g cap l) (k : Nat) : w.frozen? ⟨g, k, none⟩ = false := by
  obtain ⟨cur, hg, _⟩ := h
  simp [World.frozen?, hg]
theorem OwnAt.set {w : World} {g cap : Nat} {l : List UInt8} (h : OwnAt w g cap l) (k : Nat) (x : UInt8) : OwnAt (w.setCell ⟨g, k, none⟩ (.int .u8 (B8 x))) g cap (l.set k x) := by
  obtain ⟨cur, hg, h1, h2, h3, h4⟩ := h
  refine ⟨cur.setIfInBounds k (.int .u8 (B8 x)), ?_, by simpa using h1, h2, by simpa using h3, ?_⟩
  · rw [setCell_row _ _ _ _ _ _ _ hg, setRow_heap _ _ _ _ _ _ hg]
  · rw [List.length_set, Array.toList_setIfInBounds, List.take_set, h4]
    simp [bv, List.map_set]
theorem setCell_block {w : World} {g g2 k : Nat} {v : Value} (h : g2 ≠ g) : (w.setCell ⟨g2, k, none⟩ v).heap[g]? = w.heap[g]? := by
  unfold World.setCell
  simp [Array.getElem?_modify, h]
theorem OwnAt.other {w : World} {g cap g2 k : Nat} {l : List UInt8} {v : Value} (h : OwnAt w g cap l) (hn : g2 ≠ g) : OwnAt (w.setCell ⟨g2, k, none⟩ v) g cap l := by
  obtain ⟨cur, hg, r⟩ := h
  exact ⟨cur, by rw [setCell_block hn]; exact hg, r⟩
theorem BAt.other {w : World} {g g2 k : Nat} {l : List UInt8} {v : Value} (h : BAt w g l) (hn : g2 ≠ g) : BAt (w.setCell ⟨g2, k, none⟩ v) g l :=
  ⟨by simpa [World.setCell] using h.lt, by rw [setCell_block hn]; exact h.cells⟩
theorem BAt.grown {w w' : World} {g : Nat} {l : List UInt8} {row : Option Nat} (h : BAt w g l) (hg : w.grownBy w' row) (hn : some g ≠ row) : BAt w' g l :=
  ⟨Nat.lt_of_lt_of_le h.lt hg.size, by rw [hg.block _ h.lt hn]; exact h.cells⟩
theorem OwnAt.rd {w : World} {g cap : Nat} {l : List UInt8} (h : OwnAt w g cap l) : RdB w (.slice (some ⟨g, 0, none⟩) l.length cap) l :=
  ⟨_, cap, rfl, h.le.1, h.le.2, fun _ => ⟨g, 0, rfl, h.lt, fun i hi => by rw [Nat.zero_add]; exact h.at i hi⟩⟩
theorem BAt.rd {w : World} {g : Nat} {l : List UInt8} (h : BAt w g l) (hl : l.length ≤ maxLen) : RdB w (.slice (some ⟨g, 0, none⟩) l.length l.length) l :=
  ⟨_, _, rfl, Nat.le_refl _, hl, fun _ => ⟨g, 0, rfl, h.lt, fun i hi => by rw [Nat.zero_add]; exact h.at i hi⟩⟩
theorem OwnAt.own {w : World} {g cap base : Nat} {l : List UInt8} (h : OwnAt w g cap l) (hb : base ≤ g) : OwnB w base (.slice (some ⟨g, 0, none⟩) l.length cap) l := by
  obtain ⟨cur, hg, h1, h2, h3, h4⟩ := h
  exact ⟨by simp [bv], .inr ⟨g, cap, cur, rfl, hb, hg, h1, h2, by simpa using h3, by simpa using h4⟩⟩
theorem BAt.ownAt {w : World} {g : Nat} {l : List UInt8} (h : BAt w g l) (hl : l.length ≤ maxLen) : OwnAt w g l.length l :=
  ⟨brow l, h.cells, Nat.le_refl _, hl, by simp [brow], by simp only [brow, bv]; exact List.take_of_length_le (by simp)⟩
theorem run_mk (n m : Nat) (hn : n ≤ m) (hm : m ≤ 1000000000) (w : World) :
    (Instr.makeSlice 30 (.int .i64 (n : Int)) (.int .i64 (m : Int))).run Try.prog w = .ok (.slice (some ⟨w.heap.size, 0, none⟩) n m) (w.alloc (.cells (brow (List.replicate m 0)) 5)) := by
  obtain ⟨i0, hi, hz0, hz1, hz2⟩ := info_parts info5
  rw [run_make w 30 5 i0 (.int .u8 0) Try.underlying30 hi hz0 .i64 .i64 n m (by omega) (by omega) (by rw [hz2]; omega) (by omega)]
  have e : madeCells (Value.int .u8 0).cells ((m : Int).toNat * i0.size) = brow (List.replicate m 0) := by
    rw [hz1, Nat.mul_one, Int.toNat_natCast]
    apply Array.ext' 
    apply List.ext_getElem (by simp [madeCells, brow])
    intro i h7 h8
    simp [madeCells, brow, Value.cells]
    rw [Nat.mod_one]
    rfl
  rw [e, Int.toNat_natCast, Int.toNat_natCast]
theorem made_at (n m : Nat) (hn : n ≤ m) (hm : m ≤ 1000000000) (w : World) : OwnAt (w.alloc (.cells (brow (List.replicate m 0)) 5)) w.heap.size m (List.replicate n 0) := by
  refine ⟨_, heap_alloc_new _ _, by simpa using hn, by unfold maxLen; omega, by simp [brow], ?_⟩
  simp [brow, bv, List.take_replicate, Nat.min_eq_left hn]
theorem made_b (m : Nat) (w : World) : BAt (w.alloc (.cells (brow (List.replicate m 0)) 5)) w.heap.size (List.replicate m 0) :=
  ⟨by simp, heap_alloc_new _ _⟩
theorem setCell_below {w : World} {g k B : Nat} {v : Value} (h : B ≤ g) : Below B w (w.setCell ⟨g, k, none⟩ v) := (Below.refl B w).setCell (p := ⟨g, k, none⟩) h v
theorem run_stb (w : World) (g k : Nat) (x : UInt8) (c : Value) (hc : w.cell? ⟨g, k, none⟩ = some c) (hf : w.frozen? ⟨g, k, none⟩ = false) :
    (storeVar 5 ⟨g, k, none⟩ (.int .u8 (B8 x))).run Try.prog w = .ok () (w.setCell ⟨g, k, none⟩ (.int .u8 (B8 x))) := by
  obtain ⟨i0, hi, hz0, hz1, hz2⟩ := info_parts info5
  have h1 : ∀ j, j < [Value.int .u8 (B8 x)].length → (w.cell? ⟨g, k + 0 + j, none⟩).isSome = true := by
    intro j hj
    have e : j = 0 := by simpa using hj
    subst e
    simp [hc]
  have h2 : ∀ j, j < [Value.int .u8 (B8 x)].length → w.frozen? ⟨g, k + 0 + j, none⟩ = false := by
    intro j hj
    have e : j = 0 := by simpa using hj
    subst e
    simpa using hf
  have h3 : ∀ v ∈ [Value.int .u8 (B8 x)], v.oneCell' = true := by
    intro v hv
    simp at hv
    subst hv
    rfl
  have := run_storeCells_cells (P := Try.prog) g k [.int .u8 (B8 x)] 0 w h1 h2 h3
  simp only [Nat.add_zero] at this
  simp [World.setCells] at this
  simp [storeVar, sizeOf, typeInfo, hi, hz1, Value.cells, this]
/-- a store of one byte: the new world under a name -/
theorem st_b {ops : Array Oper} {rest : List Oper} {o : Oper} {a : Act} {w : World} {Q : Exit → Act → World → Prop} (hgd : o.guard = none) (x y : Operand) (ho : o.op = .store 5 x y)
    (g k : Nat) (b : UInt8) (hx : a.eval x = .pointer (some ⟨g, k, none⟩)) (hy : a.eval y = .int .u8 (B8 b)) (c : Value) (hc : w.cell? ⟨g, k, none⟩ = some c) (hf : w.frozen? ⟨g, k, none⟩ = false)
    (h : ∀ w', w' = w.setCell ⟨g, k, none⟩ (.int .u8 (B8 b)) → wpList Try.prog ops Q rest (a.put o.dst undef) w') : wpList Try.prog ops Q (o :: rest) a w :=
  wpList_plain hgd fun _ hK => by
    unfold Oper.wp execOp
    simp only [ho, hx, hy, Instr.storeAt, Instr.sureAddr, Sem.run_bind, Sem.run_pure, Result.andThen_ok, run_stb w g k b c hc hf]
    exact hK _ _ (h _ rfl)
/-- append of bytes that lie somewhere to one's own bytes -/
theorem app_at {w : World} {ops : Array Oper} {rest : List Oper} {o : Oper} {a : Act} {Q : Exit → Act → World → Prop} (hgd : o.guard = none) (s x : Operand)
    (ho : o.op = .call { callee := .builtin .append, args := #[s, x], argTypes := #[30, 30] })
    (g cap n : Nat) (l : List UInt8) (hs : a.eval s = .slice (some ⟨g, 0, none⟩) n cap) (hown : OwnAt w g cap l) (hn : l.length = n) (ad : Addr) (m c : Nat) (news : List UInt8) (hx : a.eval x = .slice (some ad) m c) (hl : news.length = m)
    (hnews : ∀ j u, (bv news)[j]? = some u → w.cell? (ad.add j) = some u) (hsz : l.length + m ≤ 1000000000)
    (h : ∀ g' cap' w', OwnAt w' g' cap' (l ++ news) → (g' = g ∨ g' = w.heap.size) → w.grownBy w' (some g) → wpList Try.prog ops Q rest (a.put o.dst (.slice (some ⟨g', 0, none⟩) (n + m) cap')) w') : wpList Try.prog ops Q (o :: rest) a w := by
  obtain ⟨i0, hi, hz0, hz1, hz2⟩ := info_parts info5
  subst hn
  refine wpList_append_own_at w hgd s x 30 ho 0 5 i0 (.int .u8 0) 1 1 Try.underlying30 hi hz0 hz1 hz2 rfl (by decide) _ l.length (bv l) hs (hown.own (Nat.zero_le _)) ad m c (bv news) hx (by simp [bv, hl]) hnews (bv_one news)
    (by unfold maxLen; omega) (by omega) (Nat.zero_le _) ?_
  intro v' w' h1 h2 h3 h4
  rcases h1.2 with ⟨e, e2⟩ | ⟨g', cap', cur, rfl, _, hg, h5, h6, h7, h8⟩
  · have h9 := h3.1 e
    have := h9.1
    cases this
  · refine h g' cap' w' ⟨cur, hg, by rw [List.length_append, hl]; exact h5, h6, by simpa using h7, ?_⟩ ?_ h2
    · rw [List.length_append, hl]
      rw [Nat.mul_one] at h8
      rw [h8]
      simp [bv]
    · rcases h4 with h4 | h4
      · exact .inl (by simpa [Value.ownBlock] using h4)
      · exact .inr (by simpa [Value.ownBlock] using h4)
end Go.Proofs.Ytbkkffdgkkcbfab
