/- Contracts and lemmas. No condition. -/
import Derived.Test.YtmfiaadjdbemnaaGreatDoorLSm03
import Derived.Test.YtmfiaadjdbemnaaGreatDoorLSm04
set_option linter.unusedSimpArgs false
set_option linter.unusedVariables false
namespace Go.Proofs.YtmfiaadjdbemnaaGreatDoor
open Go.Proofs.Tryz
section
open Go.RowKit Go.Shelf
theorem Ot:(prog.info? 86).map (·.size)=some 9:=by kernel_rfl
theorem Oa (km:K):Instr.fill (fun i=>some (i*9,9)) ((Array.range (1*9)).map ((Value.agg (kc zK)).cells[· % (Value.agg (kc zK)).cells.size]!)) [(0,Value.agg (kc km))]=some (kc km):=by kernel_rfl
theorem CG {ops:Array Oper} {rest:List Oper} {o:Oper} {a:Act} {w:World} {Q:Exit→Act→World→Prop} (km:K) (hg:o.guard=none) (x:Operand) (ho:o.op = .buildSlice 43 1 #[(0,x)]) (hx:a.eval x = .agg (kc km))
  (h:wpList prog ops Q rest (a.put o.dst (.slice (some ⟨w.heap.size,0,none⟩) 1 1)) (w.alloc (.cells (kc km) 86))):wpList prog ops Q (o::rest) a w:=by
 have hz:=yu;have hs:=Ot
 cases hi:prog.info? 86 with
 | none=>rw[hi] at hs;cases hs
 | some i =>
   rw[hi] at hs hz;simp only[Option.map_some,Option.some.injEq] at hs hz;refine wpList_buildSlice hg _ 86 1 _ ho (kc km) i (.agg (kc zK)) underlying43 hi hz (by rw[hs];decide) (by rw[hs];decide) ?_ h
   have hp:((#[(0,x)]:Array (Nat × Operand)).map fun (i,x)=>(i,a.eval x)).toList=[(0,Value.agg (kc km))]:=by simp[hx]
   rw[hp,hs];exact Oa km
attribute [local irreducible] Calls am aL aE blE blB pkB opE opB opK ctE ctK blT blO aI mac aV aJ gU eG kc
end
end Go.Proofs.YtmfiaadjdbemnaaGreatDoor
