/- Contracts and lemmas. No condition. -/
import Derived.Test.YtmfiaadjdbemnaaGreatDoorSB20
namespace Go.Proofs.YtmfiaadjdbemnaaGreatDoor
section
open Go.RowKit Go.Shelf
theorem jt {ops:Array Oper} {rest:List Oper} {o:Oper} {a:Act} {w:World} {Q:Exit→Act→World→Prop} (d:List UInt8) (g off:Nat) (x:Operand) (ho:o.op = .load 23 x) (hc:w.rangeAt g off (am d).toList)
  (hx:a.eval x = .pointer (some ⟨g,off,none⟩)) (hgd:Region.wanted o (yielded ops a.tmps)=true)
  (h:wpList Tryz.prog ops Q rest (a.put o.dst (.agg (am d))) w):wpList Tryz.prog ops Q (o::rest) a w:=Dh d g off hc hgd x ho hx h
theorem db {ops:Array Oper} {rest:List Oper} {o:Oper} {a:Act} {w:World} {Q:Exit→Act→World→Prop} (d:List UInt8) (g off:Nat) (x:Operand) (ho:o.op = .load 23 x) (hc:w.rangeAt g off (am d).toList)
  (hx:a.eval x = .pointer (some ⟨g,off,none⟩)) (hgd:o.guard=none)
  (h:wpList Tryz.prog ops Q rest (a.put o.dst (.agg (am d))) w):wpList Tryz.prog ops Q (o::rest) a w :=
 wpList_plain hgd fun _ hK=>wp_load_mid _ x ho g off hx (am d).toList _ hc Tryz.underlying23 rfl cC (hK _ _ h)
attribute [local irreducible] Calls am dEq
end
end Go.Proofs.YtmfiaadjdbemnaaGreatDoor
