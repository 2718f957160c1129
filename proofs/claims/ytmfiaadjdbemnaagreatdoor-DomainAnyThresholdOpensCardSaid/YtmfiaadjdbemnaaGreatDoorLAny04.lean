/- Contracts and lemmas. No condition. -/
import Derived.Test.YtmfiaadjdbemnaaGreatDoorLAny02
import Derived.Test.YtmfiaadjdbemnaaGreatDoorLAny03
import Derived.Test.YtmfiaadjdbemnaaGreatDoorSB19
import Derived.ChangeSame
import Derived.Deep.Fields
import Derived.Deep.Slices
import Derived.Maps.OwnOps
import Derived.Maps.Views
import Derived.WalkArith
set_option maxRecDepth 100000
set_option maxHeartbeats 8000000
namespace Go.Proofs.YtmfiaadjdbemnaaGreatDoor
section
open Go.RowKit Go.Shelf
theorem QF {l m:List K} (h:l.length=m.length) (h2:∀j,j<l.length→ae l j=ae m j):l=m:=by
 refine List.ext_getElem h (fun i h3 h4 => ?_);have := h2 i h3
 rwa [az l i h3,az m i h4] at this
attribute [local irreducible] Calls kEq
theorem Rh (n1 n2:Int) (v u:Value) (l m:List K) (w:World) (hv:RdK w v l) (hu:RdK w u m) :
  Calls Tryz.prog 26 #[.agg #[.int .i64 n1,v],.agg #[.int .i64 n2,u]] w fun e w'=>e = .returned (.bool (decide (n1=n2∧l=m)))∧Below w.heap.size w w':=by
 have hlen:=hv.len;unfold maxLen at hlen;have hbe:∀(A B:Obj) (n:Nat),Below w.heap.size w (((w.alloc A).alloc B).drewN n):=fun A B n=>ak n (((Oo _ _).alloc (Nat.le_refl _) A).alloc (by simp) B);have HBE:=O hbe;have HV:=O ((hv.alloc (.cells #[.int .i64 n1,v] 45)).alloc (.cells #[.int .i64 n2,u] 45));have HU:=O ((hu.alloc (.cells #[.int .i64 n1,v] 45)).alloc (.cells #[.int .i64 n2,u] 45));obtain⟨a,cap,rfl,_,_,_⟩:=hv;obtain⟨a2,cap2,rfl,_,_,_⟩:=hu;clear hbe
 by_cases hn:n1=n2
 ·have hnn : (n1 == n2) = true := by rw[hn]; simp
  have hnn2:(n1 != n2)=false:=by rw[bne,hnn];rfl
  have HN:=O hn
  by_cases hl:l.length=m.length
  ·have hne:((l.length:Int) == m.length)=true:=by rw[beq_iff_eq];omega
   have hne2:((l.length:Int) != m.length)=false:=by rw[bne,hne];rfl
   have HL:=O hl;clear hl hn
   go_enter Tryz.func26,Tryz.ntmps26
   go_wp2
   go_loopw [5] (fun o wr=>∃i:Nat,i≤l.length∧o = .int .i64 i∧Hid (∀j,j<i→ae l j=ae m j)∧∃n,wr=((w.alloc (.cells #[.int .i64 n1,.slice a l.length cap] 45)).alloc (.cells #[.int .i64 n2,.slice a2 m.length cap2] 45)).drewN n) (fun o _=>l.length-(intOf o).toNat)
   case atStart=>exact⟨0,Nat.zero_le _,rfl,O (fun j hj=>absurd hj (by omega)),0,rfl⟩
   case round =>
    obtain⟨i,hi,rfl,hno,n,rfl⟩:=hrel
    by_cases hlt:i<l.length
    ·obtain⟨b,off,rfl,hb1,aO⟩:=(HV.out.cells) (by omega)
     obtain⟨b2,off2,rfl,hb2,hrow2⟩:=(HU.out.cells) (by have := HL.out;omega);have hneq:=fun w'=>Fa (ae l i) (ae m i) w';rw[Ke] at hneq;unfold kc at hneq;obtain⟨d0,d1,d2,d3,d4,d5,d6,d7,d8⟩:=aO i hlt;obtain⟨x0,x1,x2,x3,x4,x5,x6,x7,x8⟩:=hrow2 i (by have := HL.out;omega)
     have i1:(i:Int)<l.length:=by omega
     have i2:(i:Int)<m.length:=by have := HL.out;omega
     have i3:i<m.length:=by have := HL.out;omega
     have HK:=O hlt;have HNO:=hno;clear aO hrow2 hno
     by_cases hq:ae l i=ae m i
     ·rw[decide_eq_true hq] at hneq
      have HQ:=O hq;clear hq;go_wp2
      first |refine fR (by kernel_rfl) (by kernel_rfl) ?_|refine fG (by kernel_rfl) (by kernel_rfl) ?_
      repeat (go_big_quiet_step (fail))
      refine wpQuiet_nil ?_;rintro _ ⟨nq,rfl⟩;go_wp2;go_roundw
      case rel=>exact⟨i+1,HK.out,by go_num,O (fun j hj=>by
       by_cases e:j=i
       ·subst e;exact HQ.out
       ·exact HNO.out j (by omega)),_,rfl⟩
      case measure=>have := HK.out;simp[intOf];omega
     ·rw[decide_eq_false hq] at hneq
      have hres:decide (n1=n2∧l=m)=false:=decide_eq_false (fun e=>hq (by rw[e.2]));have HRES:=O hres;clear hq hres;go_wp2
      first |refine fR (by kernel_rfl) (by kernel_rfl) ?_|refine fG (by kernel_rfl) (by kernel_rfl) ?_
      repeat (go_big_quiet_step (fail))
      refine wpQuiet_nil ?_;rintro _ ⟨nq,rfl⟩;go_wp2;go_ret;exact⟨by rw[HRES.out];rfl,HBE.out _ _ _⟩
    ·have i1:(l.length:Int)≤i:=by omega
     have hres:decide (n1=n2∧l=m)=true:=decide_eq_true ⟨HN.out,QF HL.out (fun j hj=>hno.out j (by omega))⟩;have HRES:=O hres;clear hres hno;go_wp2;go_ret;exact⟨by rw[HRES.out];rfl,HBE.out _ _ _⟩
  ·have hne:((l.length:Int) == m.length)=false:=by rw[beq_eq_false_iff_ne];omega
   have hne2:((l.length:Int) != m.length)=true:=by rw[bne,hne];rfl
   rw[decide_eq_false (fun e=>hl (by rw[e.2]))];clear hl hn
   go_enter Tryz.func26,Tryz.ntmps26
   go_wp2;go_ret;exact⟨rfl,HBE.out _ _ 0⟩
 ·have hnn:(n1 == n2)=false:=by rw[beq_eq_false_iff_ne];exact hn
  have hnn2:(n1 != n2)=true:=by rw[bne,hnn];rfl
  rw[decide_eq_false (fun e=>hn e.1)];clear hn
  go_enter Tryz.func26,Tryz.ntmps26
  go_wp2;go_ret;exact⟨rfl,HBE.out _ _ 0⟩
end
section
open Go.RowKit Go.Shelf
theorem dC (l m:List K) (i:Nat) (h:i<l.length):ae (l++m) i=ae l i:=by
 rw[az _ _ (by rw[List.length_append];omega),az _ _ h,List.getElem_append_left]
theorem pq (l m:List K) (i:Nat) (h:i<m.length):ae (l++m) (l.length+i)=ae m i:=by
 rw[az _ _ (by rw[List.length_append];omega),az _ _ h,List.getElem_append_right (by omega)]
 simp
theorem pu (l:List K) (x:K):ae (l++[x]) l.length=x:=by
 have := pq l [x] 0 (by simp);rw[Nat.add_zero] at this;rw[this];rfl
open Go.ChangeShapes Go.WideShapes Go.ChangeAt Go.RowKit Go.Deep
set_option maxRecDepth 10000
section fk
variable {H:Type} {enc:TypeId × Value→H} {w:World} {ai:Nat} {sp:Nat→Bool} {held:Bool}
theorem fld {T t:TypeId} {fs:Array Field} {fuel:Nat} {cs:List Value} {x:DataW H × List MemPlace} (ht:Tryz.prog.underlying T=some (.struct fs)) (h:DataW.trod enc Tryz.prog w ai sp held fuel T cs=some x) (i o c:Nat)
  (hf:(fs.toList.map fun f=>(f.type,f.offset))[i]?=some (t,o)) (hc:Tryz.prog.cellsOf t=c):∃n y,DataW.trod enc Tryz.prog w ai sp held n t ((cs.drop o).take c)=some y:=by
 obtain⟨xs,n,_,_,_,hxs,hh⟩:=DataW.trod_struct ht h;rw[List.getElem?_map] at hf
 cases hfi:fs.toList[i]? with
 | none=>rw[hfi] at hf;cases hf
 | some f =>
   rw[hfi] at hf;simp only[Option.map_some,Option.some.injEq,Prod.mk.injEq] at hf
   have hfa:fs[i]?=some f:=by rw[←Array.getElem?_toList];exact hfi
   have h1:=hh i f hfa;rw[hf.1,hf.2,hc] at h1
   have hlt:i<xs.length:=by rw[hxs];exact(Array.getElem?_eq_some_iff.1 hfa).1
   exact⟨n,xs[i],by rw[h1,List.getElem?_eq_getElem hlt]⟩
theorem iR {T:TypeId} {fs:Array Field} {fuel c:Nat} {cs:List Value} {x:DataW H × List MemPlace} (ht:Tryz.prog.underlying T=some (.struct fs)) (hc:Tryz.prog.cellsOf T=c) (h:DataW.trod enc Tryz.prog w ai sp held fuel T cs=some x):cs.length=c:=by
 obtain⟨xs,n,_,_,hl,_⟩:=DataW.trod_struct ht h;rw[hl,hc]
theorem CN {cs:List Value} {o:Nat} {v:Value} (h:(cs.drop o).take 1=[v]):cs[o]?=some v:=cell_of_cut h
theorem bR {T:TypeId} {fs:Array Field} {fuel:Nat} {cs:List Value} {x:DataW H × List MemPlace} (ht:Tryz.prog.underlying T=some (.struct fs)) (h:DataW.trod enc Tryz.prog w ai sp held fuel T cs=some x) (i o:Nat)
  (hf:(fs.toList.map fun f=>(f.type,f.offset))[i]?=some (3,o)):∃z:Int,cs[o]?=some (.int .i64 z)∧(Lit.int .i64 z).wf=true:=by
 obtain⟨n,y,hy⟩:=fld ht h i o 1 hf (by kernel_rfl);obtain⟨z,hz,_,hw⟩:=DataW.trod_int Tryz.underlying3 hy;exact⟨z,CN hz,hw⟩
theorem kq {T:TypeId} {fs:Array Field} {fuel:Nat} {cs:List Value} {x:DataW H × List MemPlace} (ht:Tryz.prog.underlying T=some (.struct fs)) (h:DataW.trod enc Tryz.prog w ai sp held fuel T cs=some x) (i o:Nat)
  (hf:(fs.toList.map fun f=>(f.type,f.offset))[i]?=some (9,o)):∃l:List UInt8,cs[o]?=some (.string ⟨l.toArray⟩)∧l.length≤maxLen:=by
 obtain⟨n,y,hy⟩:=fld ht h i o 1 hf (by kernel_rfl);obtain⟨s,hs,_,hl⟩:=DataW.trod_string Tryz.underlying9 hy;obtain⟨l,rfl⟩:=vW s;exact⟨l,CN hs,hl⟩
theorem A6 {T:TypeId} {fs:Array Field} {fuel:Nat} {cs:List Value} {x:DataW H × List MemPlace} (ht:Tryz.prog.underlying T=some (.struct fs)) (h:DataW.trod enc Tryz.prog w ai sp held fuel T cs=some x) (i o:Nat)
  (hf:(fs.toList.map fun f=>(f.type,f.offset))[i]?=some (4,o)):∃b:Bool,cs[o]?=some (.bool b):=by
 obtain⟨n,y,hy⟩:=fld ht h i o 1 hf (by kernel_rfl);obtain⟨b,hb,_⟩:=DataW.trod_bool Tryz.underlying4 hy;exact⟨b,CN hb⟩
theorem Mm {a:Int} (h:(Lit.int .u8 a).wf=true):∃c:UInt8,a=B8 c:=by
 simp only[Lit.wf,Bool.and_eq_true,decide_eq_true_eq] at h;have h1:(0:Int)≤a:=h.1;have h2:a≤255:=h.2;refine⟨UInt8.ofNat a.toNat,?_⟩;unfold B8;rw[UInt8.toNat_ofNat_of_lt' (by show a.toNat<256;omega)]
 omega
theorem gB:Tryz.prog.underlying 86=some (.struct (Tryz.prog.fieldsOf 86)):=by kernel_rfl
theorem s5:Tryz.prog.underlying 45=some (.struct (Tryz.prog.fieldsOf 45)):=by kernel_rfl
theorem mE:((Tryz.prog.fieldsOf 86).toList.map fun f=>(f.type,f.offset))=[(3,0),(3,1),(9,2),(3,3),(3,4),(3,5),(3,6),(3,7),(4,8)]:=by kernel_rfl
theorem Oj:((Tryz.prog.fieldsOf 45).toList.map fun f=>(f.type,f.offset))=[(3,0),(43,1)]:=by kernel_rfl
theorem QO (l:List Value) (h:l.length=9):∃c0 c1 c2 c3 c4 c5 c6 c7 c8,l=[c0,c1,c2,c3,c4,c5,c6,c7,c8]:=by
 match l,h with
 | [c0,c1,c2,c3,c4,c5,c6,c7,c8],_=>exact⟨c0,c1,c2,c3,c4,c5,c6,c7,c8,rfl⟩
theorem E5 (l:List Value) (h:l.length=2):∃c0 c1,l=[c0,c1]:=by
 match l,h with
 | [c0,c1],_=>exact⟨c0,c1,rfl⟩
theorem Ay {Q:Nat→K→Prop} (n:Nat) (h:∀i,i<n→∃c,Q i c):∃d:List K,d.length=n∧∀i,i<n→Q i (ae d i):=by
 induction n with
 | zero=>exact⟨[],rfl,fun i hi=>absurd hi (by omega)⟩
 | succ n ih =>
   obtain⟨d,hd,hq⟩:=ih (fun i hi=>h i (by omega));obtain⟨c,hc⟩:=h n (by omega);refine⟨d++[c],by simp[hd],fun i hi => ?_⟩
   by_cases e:i<n
   ·rw[dC _ _ _ (by omega)];exact hq i e
   ·obtain rfl:i=d.length:=by omega
    rw[pu,hd];exact hc
theorem mK {r:Reach} {b0:Nat} {T:TypeId} {fs:Array Field} {v:Value} (ht:Tryz.prog.underlying T=some (.struct fs)) (hval:Value.okWide Tryz.prog w r b0 T v) {d:DataW H} {ps:List MemPlace} (hd:DataW.Trod enc Tryz.prog w ai sp held T v d ps) :
  ∃cs:Array Value,v = .agg cs∧∃fuel,DataW.trod enc Tryz.prog w ai sp held fuel T cs.toList=some (d,ps):=by
 obtain⟨cs,rfl,_⟩:=okWide_struct ht hval;obtain⟨fuel,hf⟩:=hd;exact⟨cs,rfl,fuel,hf⟩
theorem oN {cs:Array Value} {l:List Value} (h:cs.toList=l):cs=l.toArray:=by rw[←h]
end fk
end
end Go.Proofs.YtmfiaadjdbemnaaGreatDoor
