/- Contracts and lemmas. No condition. -/
import Derived.Test.YtmfiaadjdbemnaaGreatDoorSB27
import Derived.Test.YtmfiaadjdbemnaaGreatDoorLAny04
import Derived.Test.YtmfiaadjdbemnaaGreatDoorLAny05
namespace Go.Proofs.YtmfiaadjdbemnaaGreatDoor
section
open Go.RowKit
theorem mh {ops:Array Oper} {rest:List Oper} {o:Oper} {a:Act} {w:World} {Q:Exit→Act→World→Prop} (b:BinOp) (T T':TypeId) (x y:Operand) (v1 v2 v:Value) (ho:o.op = .binOp b T x y T') (hgd:Region.wanted o (yielded ops a.tmps)=true) (hx:a.eval x=v1) (hy:a.eval y=v2) (hg:∀w,(eqGuard b T x y v1 v2).run Tryz.prog w = .ok () w) (hr:∀w,(binOp b T v1 v2).run Tryz.prog w = .ok v w)
  (h:wpList Tryz.prog ops Q rest (a.put o.dst v) w):wpList Tryz.prog ops Q (o::rest) a w :=
 wpList_step fun K hK=>by
  rw[if_pos hgd];unfold Oper.wp execOp;simp only[ho,hx,hy,hg,hr,Sem.run_bind,Sem.run_pure,Result.andThen_ok];exact hK _ _ h
theorem xi (m n:Tmp) (x y:Array Value) (w:World):(eqGuard .eql 23 (.tmp m) (.tmp n) (.agg x) (.agg y)).run Tryz.prog w = .ok () w:=by kernel_rfl
end
end Go.Proofs.YtmfiaadjdbemnaaGreatDoor
