/- A map from numbers to numbers that the call makes, as a function. -/
import Derived.Test.YtjbndfnhollfnaaRowE
import Derived.Maps.OwnOps
import Derived.Maps.Views
import Derived.WalkArith
namespace Go.Proofs.Ytjbndfnhollfnaa
open Go.RowKit Go.Maps
set_option linter.unusedSimpArgs false
set_option linter.unusedVariables false
theorem lawI : Keyed Try.prog 3 := int_keyed Try.underlying3
theorem zeroI (w : World) : (zeroValue 3).run Try.prog w = .ok (.int .i64 0) w := by kernel_rfl
/-- a number of the machine's -/
def Wf (x : Int) : Prop := (Lit.int .i64 x).wf = true
theorem wf_of {x : Int} (h1 : -9223372036854775808 ≤ x) (h2 : x ≤ 9223372036854775807) : Wf x := WalkArith.wf_i64 ⟨h1, h2⟩
/-- block M is a map of at most n entries that answers f -/
def MapI (w : World) (M n : Nat) (f : Int → Int) : Prop :=
  ∃ D : DataW Unit, w.ownsMap Try.prog 3 (plainElem Try.prog 3) M n D ∧ IsMap D ∧ ∀ x : Int, Wf x → D.atKey (.int .i64 x) (.lit (.int .i64 0)) = .lit (.int .i64 (f x))
theorem MapI.made (w : World) : MapI (w.alloc (.map #[] 0)) w.heap.size 0 (fun _ => 0) := ⟨_, World.ownsMap_made _ _ _ _, isMap_empty, fun _ _ => rfl⟩
theorem MapI.block {w w' : World} {M n : Nat} {f : Int → Int} (h : MapI w M n f) (hb : w'.heap[M]? = w.heap[M]?) : MapI w' M n f := by
  obtain ⟨D, ⟨es, clock, hh, r⟩, h2⟩ := h
  exact ⟨D, ⟨es, clock, hb.trans hh, r⟩, h2⟩
theorem MapI.at {w : World} {M n : Nat} {f : Int → Int} (h : MapI w M n f) : ∃ es clock, w.heap[M]? = some (.map es clock) := by
  obtain ⟨D, ⟨es, clock, hh, r⟩, h2⟩ := h
  exact ⟨es, clock, hh⟩
theorem MapI.lt {w : World} {M n : Nat} {f : Int → Int} (h : MapI w M n f) : M < w.heap.size := by
  obtain ⟨es, clock, hh⟩ := h.at
  exact (Array.getElem?_eq_some_iff.1 hh).1
theorem MapI.on {w w' : World} {M n : Nat} {f : Int → Int} (h : MapI w M n f) (hb : Below w.heap.size w w') : MapI w' M n f := h.block (hb.block _ h.lt)
theorem MapI.eq {w : World} {M n : Nat} {f g : Int → Int} (h : MapI w M n f) (e : f = g) : MapI w M n g := e ▸ h
/-- a block of cells is not the map's -/
theorem MapI.ne {w : World} {M n : Nat} {f : Int → Int} (h : MapI w M n f) {g : Nat} {cs : Array Value} {T : TypeId} {fr : Nat × Nat} (hg : w.heap[g]? = some (.cells cs T fr)) : g ≠ M := by
  intro e
  subst e
  obtain ⟨es, clock, hh⟩ := h.at
  rw [hg] at hh
  cases hh
/-- m[k] -/
theorem look_i {w : World} {ops : Array Oper} {rest : List Oper} {o : Oper} {a : Act} {Q : Exit → Act → World → Prop}
    (hgd : o.guard = none) (m x : Operand) (hop : o.op = Op.lookup 59 m x false) (M n : Nat) (f : Int → Int) (hm : a.eval m = .map (some M)) (h : MapI w M n f) (k : Int) (hx : a.eval x = .int .i64 k) (hk : Wf k)
    (hK : wpList Try.prog ops Q rest (a.put o.dst (.int .i64 (f k))) w) : wpList Try.prog ops Q (o :: rest) a w := by
  obtain ⟨D, hown, _, hf⟩ := h
  refine wpList_lookup_own_int w hgd m x 59 hop 3 3 .i64 lawI Try.underlying59 Try.underlying3 (zeroI _) M n D hm hown _ (.int .i64 k) hx (keyOf_int_mk Try.underlying3 hk) ?_
  intro c hat _
  rw [hf k hk] at hat
  cases hat
  exact hK
/-- m[k] = v -/
theorem put_i {w : World} {ops : Array Oper} {rest : List Oper} {o : Oper} {a : Act} {Q : Exit → Act → World → Prop}
    (hgd : o.guard = none) (m x v : Operand) (hop : o.op = Op.mapUpdate 59 m x v) (M n : Nat) (f : Int → Int) (hm : a.eval m = .map (some M)) (h : MapI w M n f) (hn : n < 1000000) (k c : Int) (hx : a.eval x = .int .i64 k) (hv : a.eval v = .int .i64 c) (hk : Wf k) (hc : Wf c)
    (hK : ∀ w', MapI w' M (n + 1) (fun y => if k = y then c else f y) → w.grownBy w' (some M) → wpList Try.prog ops Q rest (a.put o.dst undef) w') : wpList Try.prog ops Q (o :: rest) a w := by
  obtain ⟨D, hown, hD, hf⟩ := h
  refine wpList_mapUpdate_own w hgd m x v 59 hop 3 3 lawI Try.underlying59 _ M n D hm hown (by unfold maxLen; omega) _ _ (.int .i64 k) hx hv (keyOf_int_mk Try.underlying3 hk) (.lit (.int .i64 c)) [] (plainElem_int Try.underlying3 hc) ?_
  intro w' h1 h2
  refine hK w' ⟨_, h1, hD.put _ _, fun y hy => ?_⟩ h2
  dsimp only
  by_cases e : k = y
  · subst e
    rw [if_pos rfl]
    exact atKey_put_same hD (show Go.WideAt.IsKeyLit (.int .i64 k) from trivial) _ _
  · rw [if_neg e, atKey_put_other (fun e2 => e (by cases e2; rfl))]
    exact hf y hy
end Go.Proofs.Ytjbndfnhollfnaa
