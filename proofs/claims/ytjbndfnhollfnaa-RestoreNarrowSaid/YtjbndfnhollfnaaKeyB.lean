/- Keys that are alike. -/
import Derived.Test.YtjbndfnhollfnaaKeyA
import Derived.Shelf.GgClosure.Gives
import Derived.Below
namespace Go.Proofs.Ytjbndfnhollfnaa
open Go.RowKit
set_option linter.unusedSimpArgs false
set_option linter.unusedVariables false
/-- equal but for Id and Parent -/
def alikeK (a b : K) : Bool := (a.ty == b.ty) && (a.val == b.val) && (a.uses == b.uses) && (a.start == b.start) && (a.fin == b.fin) && (a.ver == b.ver) && (a.raw == b.raw)
attribute [local irreducible] Calls
set_option maxHeartbeats 1000000 in
theorem alike_r (a b : K) (w : World) : Calls Try.prog 30 #[kv a, kv b] w fun e w' => e = .returned (.bool (alikeK a b)) ∧ Below w.heap.size w w' := by
  unfold kv kc
  go_enter Try.func30, Try.ntmps30
  go_wp2
  all_goals
    go_ret
    refine ⟨by simp_all [alikeK], ((Below.refl w.heap.size w).alloc (Nat.le_refl _) _).alloc (by simp) _⟩
/-- block B holds the key k -/
def KAt (w : World) (B : Nat) (k : K) : Prop := w.heap[B]? = some (.cells (kc k) 30 (0, 0))
theorem KAt.lt {w : World} {B : Nat} {k : K} (h : KAt w B k) : B < w.heap.size := (Array.getElem?_eq_some_iff.1 h).1
theorem KAt.keep {w w' : World} {B : Nat} {k : K} (h : KAt w B k) {n : Nat} (hb : Below n w w') (hn : B < n) : KAt w' B k := by
  unfold KAt
  rw [hb.block _ hn]
  exact h
theorem KAt.on {w w' : World} {B : Nat} {k : K} (h : KAt w B k) (hb : Below w.heap.size w w') : KAt w' B k := h.keep hb h.lt
theorem KAt.cell {w : World} {B : Nat} {k : K} (h : KAt w B k) (j : Nat) : w.cell? ⟨B, j, none⟩ = (kc k)[j]? := cell_of_row _ _ _ _ _ _ h
theorem KAt.new (w : World) (k : K) : KAt (w.alloc (.cells (kc k) 30)) w.heap.size k := heap_alloc_new _ _
/-- a function value that answers p and leaves what was there -/
def PredB (g : Nat) (lb : Array Value) (p : K → Bool) (w : World) : Prop :=
  ∀ (W : World) (x : K), Below w.heap.size w W → Calls Try.prog g (#[kv x] ++ lb) W fun e w' => e = .returned (.bool (p x)) ∧ Below w.heap.size w w'
set_option maxHeartbeats 2000000 in
theorem twin_pred (k : K) (B : Nat) (w : World) (h : KAt w B k) : PredB 29 #[.pointer (some ⟨B, 0, none⟩)] (fun x => alikeK x k) w := fun W x hb => by
  have hk := h.on hb
  have c0 : W.cell? ⟨B, 0, none⟩ = some (.int .i64 k.id) := hk.cell 0
  have c1 : W.cell? ⟨B, 1, none⟩ = some (.int .i64 k.ty) := hk.cell 1
  have c2 : W.cell? ⟨B, 2, none⟩ = some (.string ⟨k.val.toArray⟩) := hk.cell 2
  have c3 : W.cell? ⟨B, 3, none⟩ = some (.int .i64 k.uses) := hk.cell 3
  have c4 : W.cell? ⟨B, 4, none⟩ = some (.int .i64 k.start) := hk.cell 4
  have c5 : W.cell? ⟨B, 5, none⟩ = some (.int .i64 k.fin) := hk.cell 5
  have c6 : W.cell? ⟨B, 6, none⟩ = some (.int .i64 k.ver) := hk.cell 6
  have c7 : W.cell? ⟨B, 7, none⟩ = some (.int .i64 k.par) := hk.cell 7
  have c8 : W.cell? ⟨B, 8, none⟩ = some (.bool k.raw) := hk.cell 8
  have hlt := hk.lt
  have hne : B ≠ W.heap.size := by omega
  have hb2 : ∀ X, Below w.heap.size w (W.alloc X) := fun X => hb.alloc hb.size X
  have HB := Lib.hid hb2
  clear hb2 hb hk h
  show Calls Try.prog 29 #[.agg #[.int .i64 x.id, .int .i64 x.ty, .string ⟨x.val.toArray⟩, .int .i64 x.uses, .int .i64 x.start, .int .i64 x.fin, .int .i64 x.ver, .int .i64 x.par, .bool x.raw], .pointer (some ⟨B, 0, none⟩)] W _
  go_enter Try.func29, Try.ntmps29
  go_wp2
  go_region
  all_goals go_wp2
  all_goals
    go_ret
    refine ⟨by simp_all [alikeK], ?_⟩
    first | exact HB.out _ | exact (HB.out _).drew | exact below_drewN _ (HB.out _)
end Go.Proofs.Ytjbndfnhollfnaa
