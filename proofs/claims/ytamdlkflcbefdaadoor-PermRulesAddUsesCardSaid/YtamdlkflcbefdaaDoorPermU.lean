/- The uses of a type, in plain words; the table byRule in memory. -/
import Derived.Test.YtamdlkflcbefdaaDoorPermG
namespace Go.Proofs.YtamdlkflcbefdaaDoor
open Go.RowKit Go.Shelf
set_option linter.unusedSimpArgs false
set_option linter.unusedVariables false
/-- the table byRule -/
def tabK (i : Nat) : Int := i + 1
def tabA (i : Nat) : Int := if i = 4 then 256 else 128
def tabB (i : Nat) : Int := if i = 0 ∨ i = 2 then 512 else 0
def tabC : Array Value := #[.int .i64 1, .int .i64 128, .int .i64 512, .int .i64 2, .int .i64 128, .int .i64 0, .int .i64 3, .int .i64 128, .int .i64 512, .int .i64 4, .int .i64 128, .int .i64 0, .int .i64 5, .int .i64 256, .int .i64 0]
/-- .. lies in memory -/
def TabAt (w : World) : Prop := ∃ t, w.heap[0]? = some (.cells tabC t (0, 0))
theorem TabAt.lt {w : World} (h : TabAt w) : 0 < w.heap.size := by obtain ⟨t, h⟩ := h; exact (Array.getElem?_eq_some_iff.1 h).1
theorem TabAt.on {w w' : World} (h : TabAt w) (hb : Below w.heap.size w w') : TabAt w' := by
  have hlt := h.lt
  obtain ⟨t, h⟩ := h
  exact ⟨t, by rw [hb.block 0 hlt]; exact h⟩
theorem TabAt.alloc {w : World} (h : TabAt w) (X : Obj) : TabAt (w.alloc X) := h.on ((Below.refl _ w).alloc (Nat.le_refl _) X)
/-- one row of the table at one rule -/
def stU (t : Int) (y : RuP) (i : Nat) (u : Int) : Int := if tabK i = y.k then (if y.b = t then bor (if y.a = t then bor u (tabA i) else u) (tabB i) else (if y.a = t then bor u (tabA i) else u)) else u
/-- .. the first rows -/
def uIn (t : Int) (y : RuP) : Nat → Int → Int
  | 0, u => u
  | k + 1, u => stU t y k (uIn t y k u)
/-- .. and all rules -/
def uAll (t : Int) (l : List RuP) (u : Int) : Int := l.foldl (fun u y => uIn t y 5 u) u
theorem uAll_snoc (t : Int) (l : List RuP) (u : Int) (k : Nat) (h : k < l.length) : uAll t (l.take (k + 1)) u = uIn t (nth l k) 5 (uAll t (l.take k) u) := by
  unfold uAll
  rw [nth_take l k h, List.foldl_append]
  rfl
/-- the uses of a type -/
def usesP (tl : List TyP) (l : List RuP) (t : Int) : Int := if ex t tl.length = true then uAll t l (band (nth tl t.toNat).fl 60) else 0
end Go.Proofs.YtamdlkflcbefdaaDoor
