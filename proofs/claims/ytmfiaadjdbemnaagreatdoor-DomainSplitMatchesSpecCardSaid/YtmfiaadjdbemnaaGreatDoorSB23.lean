/- Contracts and lemmas. No condition. -/
import Derived.Test.YtmfiaadjdbemnaaGreatDoorSB21
set_option linter.unusedSimpArgs false
set_option linter.unusedVariables false
namespace Go.Proofs.YtmfiaadjdbemnaaGreatDoor
open Tryz
section
open Go.RowKit Go.Shelf
theorem jt {ops:Array Oper} {rest:List Oper} {o:Oper} {a:Act} {w:World} {Q:Exit→Act→World→Prop} (d:List UInt8) (g off:Nat) (x:Operand) (ho:o.op = .load 23 x) (hc:w.rangeAt g off (am d).toList)
  (hx:a.eval x = .pointer (some ⟨g,off,none⟩)) (hgd:Region.wanted o (yielded ops a.tmps)=true)
  (h:wpList prog ops Q rest (a.put o.dst (.agg (am d))) w):wpList prog ops Q (o::rest) a w:=Dh d g off hc hgd x ho hx h
theorem db {ops:Array Oper} {rest:List Oper} {o:Oper} {a:Act} {w:World} {Q:Exit→Act→World→Prop} (d:List UInt8) (g off:Nat) (x:Operand) (ho:o.op = .load 23 x) (hc:w.rangeAt g off (am d).toList)
  (hx:a.eval x = .pointer (some ⟨g,off,none⟩)) (hgd:o.guard=none)
  (h:wpList prog ops Q rest (a.put o.dst (.agg (am d))) w):wpList prog ops Q (o::rest) a w :=
 wpList_plain hgd fun _ hK=>wp_load_mid _ x ho g off hx (am d).toList _ hc underlying23 rfl cC (hK _ _ h)
attribute [local irreducible] Calls am dEq
end
end Go.Proofs.YtmfiaadjdbemnaaGreatDoor
