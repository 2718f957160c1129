/- Contracts and lemmas. No condition. -/
import Derived.Test.YtmfiaadjdbemnaaGreatDoorLMg05
import Derived.Test.YtmfiaadjdbemnaaGreatDoorSB24
import Derived.Test.YtmfiaadjdbemnaaGreatDoorSB23
import Derived.ChangeSame
import Derived.Deep.Fields
import Derived.Deep.Slices
import Derived.LaidLaws
import Derived.LaidMore
import Derived.Maps.OwnOps
import Derived.Maps.Views
import Derived.WalkArith
set_option maxRecDepth 100000
set_option maxHeartbeats 8000000
set_option linter.unusedSimpArgs false
set_option linter.unusedVariables false
namespace Go.Proofs.YtmfiaadjdbemnaaGreatDoor
open Go.Proofs.Tryz
section
open Go.ChangeShapes Go.WideShapes Go.ChangeAt Go.RowKit Go.Deep
set_option maxRecDepth 10000
section fk
variable {H:Type} {enc:TypeId × Value→H} {w:World} {ai:Nat} {sp:Nat→Bool} {held:Bool}
theorem fld {T t:TypeId} {fs:Array Field} {fuel:Nat} {cs:List Value} {x:DataW H × List MemPlace} (ht:prog.underlying T=some (.struct fs)) (h:DataW.trod enc prog w ai sp held fuel T cs=some x) (i o c:Nat)
  (hf:(fs.toList.map fun f=>(f.type,f.offset))[i]?=some (t,o)) (hc:prog.cellsOf t=c):∃n y,DataW.trod enc prog w ai sp held n t ((cs.drop o).take c)=some y:=by
 obtain⟨xs,n,_,_,_,hxs,hh⟩:=DataW.trod_struct ht h;rw[List.getElem?_map] at hf
 cases hfi:fs.toList[i]? with
 | none=>rw[hfi] at hf;cases hf
 | some f =>
   rw[hfi] at hf;simp only[Option.map_some,Option.some.injEq,Prod.mk.injEq] at hf
   have hfa:fs[i]?=some f:=by rw[←Array.getElem?_toList];exact hfi
   have h1:=hh i f hfa;rw[hf.1,hf.2,hc] at h1
   have hlt:i<xs.length:=by rw[hxs];exact(Q_.1 hfa).1
   exact⟨n,xs[i],by rw[h1,K_ hlt]⟩
theorem iR {T:TypeId} {fs:Array Field} {fuel c:Nat} {cs:List Value} {x:DataW H × List MemPlace} (ht:prog.underlying T=some (.struct fs)) (hc:prog.cellsOf T=c) (h:DataW.trod enc prog w ai sp held fuel T cs=some x):cs.length=c:=by
 obtain⟨xs,n,_,_,hl,_⟩:=DataW.trod_struct ht h;rw[hl,hc]
theorem CN {cs:List Value} {o:Nat} {v:Value} (h:(cs.drop o).take 1=[v]):cs[o]?=some v:=cell_of_cut h
theorem bR {T:TypeId} {fs:Array Field} {fuel:Nat} {cs:List Value} {x:DataW H × List MemPlace} (ht:prog.underlying T=some (.struct fs)) (h:DataW.trod enc prog w ai sp held fuel T cs=some x) (i o:Nat)
  (hf:(fs.toList.map fun f=>(f.type,f.offset))[i]?=some (3,o)):∃z:Int,cs[o]?=some (.int .i64 z)∧(Lit.int .i64 z).wf=true:=by
 obtain⟨n,y,hy⟩:=fld ht h i o 1 hf (by kernel_rfl);obtain⟨z,hz,_,hw⟩:=DataW.trod_int underlying3 hy;exact⟨z,CN hz,hw⟩
theorem kq {T:TypeId} {fs:Array Field} {fuel:Nat} {cs:List Value} {x:DataW H × List MemPlace} (ht:prog.underlying T=some (.struct fs)) (h:DataW.trod enc prog w ai sp held fuel T cs=some x) (i o:Nat)
  (hf:(fs.toList.map fun f=>(f.type,f.offset))[i]?=some (9,o)):∃l:List UInt8,cs[o]?=some (.string ⟨l.toArray⟩)∧l.length≤maxLen:=by
 obtain⟨n,y,hy⟩:=fld ht h i o 1 hf (by kernel_rfl);obtain⟨s,hs,_,hl⟩:=DataW.trod_string underlying9 hy;obtain⟨l,rfl⟩:=vW s;exact⟨l,CN hs,hl⟩
theorem A6 {T:TypeId} {fs:Array Field} {fuel:Nat} {cs:List Value} {x:DataW H × List MemPlace} (ht:prog.underlying T=some (.struct fs)) (h:DataW.trod enc prog w ai sp held fuel T cs=some x) (i o:Nat)
  (hf:(fs.toList.map fun f=>(f.type,f.offset))[i]?=some (4,o)):∃b:Bool,cs[o]?=some (.bool b):=by
 obtain⟨n,y,hy⟩:=fld ht h i o 1 hf (by kernel_rfl);obtain⟨b,hb,_⟩:=DataW.trod_bool underlying4 hy;exact⟨b,CN hb⟩
theorem Mm {a:Int} (h:(Lit.int .u8 a).wf=true):∃c:UInt8,a=B8 c:=by
 simp only[Lit.wf,T_,decide_eq_true_eq] at h;have h1:(0:Int)≤a:=h.1;have h2:a≤255:=h.2;refine⟨UInt8.ofNat a.toNat,?_⟩;unfold B8;rw[UInt8.toNat_ofNat_of_lt' (by show a.toNat<256;omega)]
 omega
theorem qf {Q:Nat→UInt8→Prop} (n:Nat) (h:∀i,i<n→∃c,Q i c):∃d:List UInt8,d.length=n∧∀i,i<n→Q i (byteAt d i):=by
 induction n with
 | zero=>exact⟨[],rfl,fun i hi=>absurd hi (by omega)⟩
 | succ n ih =>
   obtain⟨d,hd,hq⟩:=ih (fun i hi=>h i (by omega));obtain⟨c,hc⟩:=h n (by omega);refine⟨d++[c],by simp[hd],fun i hi => ?_⟩
   by_cases e:i<n
   ·have : byteAt (d++[c]) i=byteAt d i:=by unfold byteAt;rw[I_,I_,List.getElem?_append_left (by omega)]
    rw[this];exact hq i e
   ·obtain rfl:i=n:=by omega
    have : byteAt (d++[c]) i=c:=by unfold byteAt;rw[I_,List.getElem?_append_right (by omega),hd];simp
    rw[this];exact hc
theorem gB:prog.underlying 86=some (.struct (prog.fieldsOf 86)):=by kernel_rfl
theorem s5:prog.underlying 45=some (.struct (prog.fieldsOf 45)):=by kernel_rfl
theorem mE:((prog.fieldsOf 86).toList.map fun f=>(f.type,f.offset))=[(3,0),(3,1),(9,2),(3,3),(3,4),(3,5),(3,6),(3,7),(4,8)]:=by kernel_rfl
theorem Oj:((prog.fieldsOf 45).toList.map fun f=>(f.type,f.offset))=[(3,0),(43,1)]:=by kernel_rfl
theorem QO (l:List Value) (h:l.length=9):∃c0 c1 c2 c3 c4 c5 c6 c7 c8,l=[c0,c1,c2,c3,c4,c5,c6,c7,c8]:=by
 match l,h with
 | [c0,c1,c2,c3,c4,c5,c6,c7,c8],_=>exact⟨c0,c1,c2,c3,c4,c5,c6,c7,c8,rfl⟩
theorem E5 (l:List Value) (h:l.length=2):∃c0 c1,l=[c0,c1]:=by
 match l,h with
 | [c0,c1],_=>exact⟨c0,c1,rfl⟩
theorem Ay {Q:Nat→K→Prop} (n:Nat) (h:∀i,i<n→∃c,Q i c):∃d:List K,d.length=n∧∀i,i<n→Q i (ae d i):=by
 induction n with
 | zero=>exact⟨[],rfl,fun i hi=>absurd hi (by omega)⟩
 | succ n ih =>
   obtain⟨d,hd,hq⟩:=ih (fun i hi=>h i (by omega));obtain⟨c,hc⟩:=h n (by omega);refine⟨d++[c],by simp[hd],fun i hi => ?_⟩
   by_cases e:i<n
   ·rw[dC _ _ _ (by omega)];exact hq i e
   ·obtain rfl:i=d.length:=by omega
    rw[pu,hd];exact hc
theorem mK {r:Reach} {b0:Nat} {T:TypeId} {fs:Array Field} {v:Value} (ht:prog.underlying T=some (.struct fs)) (hval:Value.okWide prog w r b0 T v) {d:DataW H} {ps:List MemPlace} (hd:DataW.Trod enc prog w ai sp held T v d ps) :
  ∃cs:Array Value,v = .agg cs∧∃fuel,DataW.trod enc prog w ai sp held fuel T cs.toList=some (d,ps):=by
 obtain⟨cs,rfl,_⟩:=okWide_struct ht hval;obtain⟨fuel,hf⟩:=hd;exact⟨cs,rfl,fuel,hf⟩
theorem oN {cs:Array Value} {l:List Value} (h:cs.toList=l):cs=l.toArray:=by rw[←h]
end fk
end
section
open Go.ChangeShapes Go.WideShapes Go.ChangeAt Go.RowKit Go.Deep
set_option maxRecDepth 10000
theorem okN {a:Int} (h:(Lit.int .i64 a).wf=true):okI a:=by
 have := J1 h;unfold okI
 omega
theorem YZ {a b c d e f g:Int} {v:List UInt8} {r:Bool} (ha:(Lit.int .i64 a).wf=true) (hb:(Lit.int .i64 b).wf=true) (hc:(Lit.int .i64 c).wf=true) (hd:(Lit.int .i64 d).wf=true) (he:(Lit.int .i64 e).wf=true) (hf:(Lit.int .i64 f).wf=true) (hg:(Lit.int .i64 g).wf=true) :
  ∀x∈bO ⟨a,b,v,c,d,e,f,g,r⟩,okI x:=by
 intro x hx;unfold bO at hx;simp only[List.mem_cons,List.not_mem_nil,or_false] at hx
 rcases hx with rfl|rfl|rfl|rfl|rfl|rfl|rfl|rfl
 ·exact okN ha
 ·exact okN hb
 ·exact okN hc
 ·exact okN hd
 ·exact okN he
 ·exact okN hf
 ·exact okN hg
 ·unfold oG okI;split <;> omega
section
variable {H:Type} {enc:TypeId × Value→H} {w:World} {ai:Nat} {sp:Nat→Bool} {held:Bool}
theorem qm {fuel:Nat} {cs:List Value} {x:DataW H × List MemPlace} (h:DataW.trod enc prog w ai sp held fuel 23 cs=some x):∃d:List UInt8,cs=(am d).toList∧d.length=16:=by
 obtain⟨xs,m,_,_,hl,hxs,hh⟩:=DataW.trod_array underlying23 h
 have hc:prog.cellsOf 23=16:=by kernel_rfl
 have hu:prog.cellsOf 5=1:=by kernel_rfl
 rw[hc] at hl;rw[hu] at hh
 have key:∀i,i<16→∃c:UInt8,cs[i]?=some (.int .u8 (B8 c)):=by
  intro i hi;have h1:=hh i hi;rw[K_ (by omega:i<xs.length),Nat.mul_one] at h1;obtain⟨z,hz,_,hw⟩:=DataW.trod_int underlying5 h1;obtain⟨c,rfl⟩:=Mm hw;exact⟨c,CN hz⟩
 obtain⟨d,hd,hq⟩:=qf 16 key;refine⟨d,List.ext_getElem? fun i => ?_,hd⟩;have e:(am d).toList=(List.range 16).map (aq d):=rfl;rw[e]
 by_cases hi:i<16
 ·rw[hq i hi];simp[hi,aq]
 ·rw[List.getElem?_eq_none (by omega),List.getElem?_eq_none (by simp;omega)]
theorem Oy {fuel:Nat} {cs:List Value} {x:DataW H × List MemPlace} (h:DataW.trod enc prog w ai sp held fuel 86 cs=some x):∃k:K,cs=(kc k).toList∧∀x∈bO k,okI x:=by
 have hl:=iR gB (c:=9) (by kernel_rfl) h;obtain⟨z0,e0,w0⟩:=bR gB h 0 0 (by rw[mE];rfl);obtain⟨z1,e1,w1⟩:=bR gB h 1 1 (by rw[mE];rfl);obtain⟨z2,e2,w2⟩:=kq gB h 2 2 (by rw[mE];rfl);obtain⟨z3,e3,w3⟩:=bR gB h 3 3 (by rw[mE];rfl);obtain⟨z4,e4,w4⟩:=bR gB h 4 4 (by rw[mE];rfl);obtain⟨z5,e5,w5⟩:=bR gB h 5 5 (by rw[mE];rfl);obtain⟨z6,e6,w6⟩:=bR gB h 6 6 (by rw[mE];rfl);obtain⟨z7,e7,w7⟩:=bR gB h 7 7 (by rw[mE];rfl);obtain⟨z8,e8⟩:=A6 gB h 8 8 (by rw[mE];rfl);refine⟨⟨z0,z1,z2,z3,z4,z5,z6,z7,z8⟩,?_,YZ w0 w1 w3 w4 w5 w6 w7⟩;obtain⟨c0,c1,c2,c3,c4,c5,c6,c7,c8,rfl⟩:=QO cs hl
 simp at e0 e1 e2 e3 e4 e5 e6 e7 e8
 subst e0 e1 e2 e3 e4 e5 e6 e7 e8
 rfl
theorem Bn {fuel:Nat} {v:Value} {x:DataW H × List MemPlace} (h:DataW.trod enc prog w ai sp held fuel 43 [v]=some x):∃l:List K,RdK w v l∧cQ l:=by
 rcases open_slice underlying43 h with⟨hcs,_⟩|⟨a,len,cap,m,n,D,Pl,hcs,_,hl,hm,hmm,_,hi⟩
 ·simp only[List.cons.injEq,and_true] at hcs
  subst hcs;exact⟨[],RdK.nil w,fun i hi=>absurd hi (by simp)⟩
 ·simp only[List.cons.injEq,and_true] at hcs
  subst hcs
  have hle:len≤m:=by rw[hmm];split <;> omega
  have hc:prog.cellsOf 86=9:=by kernel_rfl
  rw[hc] at hi
  obtain⟨l,hlen,hq⟩:=Ay (Q:=fun i k=>(∀j,j<9→w.cell? (a.add (i*9+j))=(kc k)[j]?)∧∀x∈bO k,okI x) len (fun i hil=>by
   obtain⟨cs',h1,h2⟩:=hi i (by omega);obtain⟨k,rfl,hwf⟩:=Oy h2;obtain⟨_,_,h3⟩:=World.cells?_some h1;refine⟨k,fun j hj => ?_,hwf⟩;have := h3 j hj
   rw[←Go.Deep.add_add,this,Array.getElem?_toList])
  refine⟨l,⟨some a,cap,by rw[hlen],by omega,hm,fun h0 => ?_⟩,fun i hil=>(hq i (by omega)).2⟩;obtain⟨b,off,spot⟩:=a;have h1:=(hq 0 (by omega)).1 0 (by omega);have hk0:(kc (ae l 0))[0]?=some (.int .i64 (ae l 0).id):=rfl;rw[hk0] at h1
  have hspot:spot=none:=by simpa [Addr.add] using World.cell?_spot h1
  subst hspot
  have gX:∀i,(⟨b,off,none⟩:Addr).add i=⟨b,off+i,none⟩:=by intro i;unfold Addr.add;split <;> simp_all
  refine⟨b,off,rfl,?_,fun j hj i hi9 => ?_⟩
  ·have := World.block_lt_of_cell? _ _ h1
   simpa [Addr.add] using this
  ·have := (hq j (by omega)).1 i hi9
   rw[gX,←Nat.add_assoc] at this;exact this
theorem si {fuel:Nat} {cs:List Value} {x:DataW H × List MemPlace} (h:DataW.trod enc prog w ai sp held fuel 45 cs=some x):∃(nx:Int) (v:Value) (l:List K),cs=[.int .i64 nx,v]∧(Lit.int .i64 nx).wf=true∧RdK w v l∧cQ l:=by
 have hl:=iR s5 (c:=2) (by kernel_rfl) h;obtain⟨z0,e0,w0⟩:=bR s5 h 0 0 (by rw[Oj];rfl);obtain⟨n,y,hy⟩:=fld s5 h 1 1 1 (by rw[Oj];rfl) (by kernel_rfl);obtain⟨c0,c1,rfl⟩:=E5 cs hl;obtain⟨l,hr,hw⟩:=Bn (v:=c1) hy
 simp at e0
 subst e0;exact⟨z0,c1,l,rfl,w0,hr,hw⟩
theorem DI {fuel:Nat} {cs:List Value} {x:DataW H × List MemPlace} (h:DataW.trod enc prog w ai sp held fuel 213 cs=some x) (hx:x.1 = .agg (KK.map fun k => .lit (.int .u32 (W32 k)))):cs=(row KK).toList:=by
 obtain⟨xs,m,_,hxx,hl,hxs,hi⟩:=DataW.trod_array underlying213 h
 have hc:prog.cellsOf 213=64:=by kernel_rfl
 have hu:prog.cellsOf 130=1:=by kernel_rfl
 rw[hc] at hl;rw[hu] at hi
 have e1:xs.map (·.1)=KK.map fun k => .lit (.int .u32 (W32 k)):=by
  rw[hxx] at hx
  simpa using hx
 have hkl:KK.length=64:=lB
 apply List.ext_getElem?
 intro i
 have hr:(row KK).toList=KK.map fun k=>Value.int .u32 (W32 k):=by simp[row]
 rw[hr]
 by_cases hlt:i<64
 ·have h1:=hi i hlt
  rw[K_ (by omega:i<xs.length)] at h1;obtain⟨z,hz,he,_⟩:=DataW.trod_int underlying130 h1
  have e2:(xs.map (·.1))[i]? = (KK.map fun k=>(DataW.lit (.int .u32 (W32 k)):DataW H))[i]? := by rw[e1]
  rw[List.getElem?_map,K_ (by omega:i<xs.length),List.getElem?_map,K_ (by omega:i<KK.length),Option.map_some,Option.map_some,he] at e2;simp only[Option.some.injEq,DataW.lit.injEq,Lit.int.injEq,true_and] at e2;rw[List.getElem?_map,K_ (by omega:i<KK.length),Option.map_some,←e2]
  have h2:((cs.drop (i*1)).take 1)[0]?=some (.int .u32 z):=by rw[hz];rfl
  rw[List.getElem?_take,G_ (by omega),List.getElem?_drop,Nat.mul_one,Nat.add_zero] at h2;exact h2
 ·rw[List.getElem?_eq_none (by omega),List.getElem?_eq_none (by rw[List.length_map];omega)]
end
theorem zx (cs:Array Value) (h:cs.toList=(row KK).toList):cs=row KK:=Array.ext' h
end
section
open Go.RowKit Go.Shelf
def mS (s:List UInt8) (j:Nat):Array Value:=((List.range 16).map (fun i=>if i<j then aq s i else .int .u8 0)).toArray
theorem uN (s:List UInt8):mS s 0=am z16:=by kernel_rfl
theorem uM (s:List UInt8):mS s 16=am (s.take 16):=by
 have h:∀i∈List.range 16,(if i<16 then aq s i else .int .u8 0)=aq (s.take 16) i:=by
  intro i hi;have hi':=List.mem_range.1 hi;rw[G_ hi',uE s i hi']
 unfold mS;rw[List.map_congr_left h]
 rfl
theorem xg (s:List UInt8) (j:Nat) (hj:j<16):(mS s j).setIfInBounds j (.int .u8 (B8 (byteAt s j)))=mS s (j+1):=by
 rcases (by omega:j=0∨j=1∨j=2∨j=3∨j=4∨j=5∨j=6∨j=7∨j=8∨j=9∨j=10∨j=11∨j=12∨j=13∨j=14∨j=15) with rfl|rfl|rfl|rfl|rfl|rfl|rfl|rfl|rfl|rfl|rfl|rfl|rfl|rfl|rfl|rfl <;> rfl
theorem AL (s:List UInt8) (j:Nat) (hj:j<16):(mS s j)[j]?=some (.int .u8 0):=by
 rcases (by omega:j=0∨j=1∨j=2∨j=3∨j=4∨j=5∨j=6∨j=7∨j=8∨j=9∨j=10∨j=11∨j=12∨j=13∨j=14∨j=15) with rfl|rfl|rfl|rfl|rfl|rfl|rfl|rfl|rfl|rfl|rfl|rfl|rfl|rfl|rfl|rfl <;> rfl
attribute [local irreducible] Calls am mS
theorem AH (s:List UInt8) (hs:¬s.length<16) (w:World) :
  Calls prog 95 #[.string ⟨s.toArray⟩] w fun e w'=>e = .returned (.agg (am (s.take 16)))∧Below w.heap.size w w':=by
 have hz:=ja;have HS:Hid (16≤s.length):=O (by omega);have HZ:=O (uN s);have HFU:=O (uM s);clear hs
 go_enter func95,ntmps95
 go_wp2
 go_loopw [4] (fun o wr=>∃j:Nat,j≤16∧o = .int .i64 j∧Hid (wr.heap[w.heap.size+1]?=some (.cells (mS s j) 23 (0,0)))∧Hid (wr.heap[w.heap.size]?=some (.cells (am z16) 23 (0,0)))∧Hid (Below w.heap.size w wr)) (fun o _=>16-(intOf o).toNat)
 case atStart=>exact⟨0,N_ _,rfl,O (by rw[HZ.out];exact al _ _ _ (by simp)),O (by rw[bx _ _ _ (by simp),al _ _ _ rfl]),O (((O_ _ _).alloc (A_ _) _).alloc (by simp) _)⟩
 case round =>
  obtain⟨j,hj,rfl,hg,hr,hb⟩:=hrel
  by_cases hlt:j<16
  ·have j1:(j:Int)<16:=by omega
   have j2:(j:Int)<s.length:=by have := HS.out;omega
   have j3:j<s.length:=by have := HS.out;omega
   have c9:wr.cell? ⟨w.heap.size+1,j,none⟩=some (.int .u8 0):=by rw[e_ _ _ _ _ _ _ hg.out];exact AL s j hlt
   have f9:=frozen_of_row _ _ j _ _ hg.out;have HW4:Hid (wr.setCell ⟨w.heap.size+1,j,none⟩ (.int .u8 (B8 (byteAt s j)))=wr.setRow (w.heap.size+1) (mS s (j+1))):=O (by rw[au _ _ _ _ _ _ _ hg.out,xg s j hlt]);have HJ:=O hlt;clear hlt;go_wp2;go_roundw
   case rel=>exact⟨j+1,HJ.out,by go_num,O (by rw[HW4.out];exact setRow_heap _ _ _ _ _ _ hg.out),O (by rw[HW4.out,aj _ _ _ _ (by omega)];exact hr.out),O (by rw[HW4.out];exact hb.out.trans (aK (by omega)))⟩
   case measure=>have := HJ.out;simp[intOf];omega
  ·have he:j=16:=by omega
   have j1:¬(j:Int)<16:=by omega
   have HG:Hid (wr.heap[w.heap.size+1]?=some (.cells (am (s.take 16)) 23 (0,0))):=O (by rw[←HFU.out,←he];exact hg.out);clear he hlt hj hg
   go_wp2_with (first
    |(refine wpList_load_row rfl 23 (.tmp 3) rfl (w.heap.size+1) rfl _ (am (s.take 16)) (0,0) _ HG.out underlying23 rfl (by rw[aF];exact cC) ?_)
    |(refine aM (T:=23) (am (s.take 16)) (by rw[aF];exact cC) rfl (.tmp 2) (.tmp 14) rfl w.heap.size (am z16) rfl rfl (jO _) (by rw[aF,aF]) hr.out ?_;intro we hge hoe hbe))
   refine g_ (results_cell_row rfl _ _ w.heap.size _ (am (s.take 16)) (0,0) _ rfl hge underlying23 rfl (by rw[aF];exact cC)) rfl ?_;exact⟨rfl,hb.out.trans (hbe _ (A_ _))⟩
theorem I1:prog.built 86 []=some (kc zK):=by kernel_rfl
theorem mO {ops:Array Oper} {rest:List Oper} {o:Oper} {a:Act} {w:World} {Q:Exit→Act→World→Prop} (hgd:Region.wanted o (yielded ops a.tmps)=true) (ho:o.op = .build 86 #[])
  (h:wpList prog ops Q rest (a.put o.dst (.agg (kc zK))) w):wpList prog ops Q (o::rest) a w :=
 wpList_step fun K hK=>by
  rw[G_ hgd];have hr:=run_build (P:=prog) w 86 #[] _ I1;unfold Oper.wp execOp;simp only[ho,List.map_toArray,List.map_nil,hr,Sem.run_bind,Sem.run_pure,Result.andThen_ok];exact hK _ _ h
theorem Ox {s:List UInt8} (h:dZ s 0≠0):fV s 0=zK:=by unfold fV;rw[H_ h]
theorem TU {l:List (List UInt8)} (h:l.length=2):∃p0 p1,l=[p0,p1]:=by
 match l,h with
 | [a,b],_=>exact⟨a,b,rfl⟩
theorem AQ {l:List Int} (h:l.length=8):∃m0 m1 m2 m3 m4 m5 m6 m7,l=[m0,m1,m2,m3,m4,m5,m6,m7]:=by
 match l,h with
 | [m0,m1,m2,m3,m4,m5,m6,m7],_=>exact⟨m0,m1,m2,m3,m4,m5,m6,m7,rfl⟩
theorem Oh {l:List Int} (h:l.length=4):∃m0 m1 m2 m3,l=[m0,m1,m2,m3]:=by
 match l,h with
 | [m0,m1,m2,m3],_=>exact⟨m0,m1,m2,m3,rfl⟩
theorem RdE.form {α:Type} {E:El α} {w:World} {v:Value} {l:List α} (h:RdE E w v l):∃a c,v = .slice a l.length c:=by
 obtain⟨a,c,rfl,_⟩:=h;exact⟨a,c,rfl⟩
attribute [local irreducible] kc aE aB dZ fV kN
theorem Wn (s:List UInt8) (w:World) (hl:s.length≤900000) :
  Calls prog 100 #[.string ⟨s.toArray⟩] w fun e w'=>e = .returned (.tuple #[.agg (kc (fV s 0)),.int .i64 (dZ s 0)])∧Below w.heap.size w w':=by
 have hz:=rp;have HL:=O hl;obtain⟨W0,hW0⟩:∃W0,W0=w.alloc (.cells (kc zK) 86):=⟨_,rfl⟩;have HW:=O hW0
 have HRES:Hid (∀u,Below W0.heap.size W0 u→u.heap[w.heap.size]?=some (.cells (kc zK) 86 (0,0))∧Below w.heap.size w u):=O (by
  intro u h;rw[hW0] at h;have h2:=cJ _ _ h
  exact⟨by rw[h.block _ (by simp)];exact al _ _ _ rfl,h2⟩)
 have hcv:=cw W0 s;have HSB:=O (bU W0 s);have HSR:=O (fo W0 s (by unfold maxLen;omega));generalize Lib.bytesWorld W0 5 ⟨s.toArray⟩=ws at hcv HSB HSR;have HP:=O (G3 s);have HKN:=O (fun (h:dZ s 0≠0)=>Ox h);have HG:=O (oK _ s ws HSR.out hl);have HLEN:Hid (∀x∈(aE s).1,(aE s).2.2=0→x.length≤s.length):=O (fun x hx h0=>qM s 0 x (by rw[kC h0];exact hx));generalize aE s=d at HP HG HLEN;obtain⟨l,n,er⟩:=d;simp only at HP HLEN;generalize dZ s 0=ke at HP HKN ⊢;generalize fV s 0=kk at HP HKN ⊢
 have hsl:(s.length:Int)≤900000:=by omega
 clear hl hW0
 rcases HP.out with⟨p1,p2⟩|⟨p1,p2,p3⟩|⟨p1,p2,p3,p4⟩|⟨p1,p2,p3,p4,p5⟩
 ·have h3:(er != 0)=true:=by simpa using p1
  have HKZ:Hid (kk=zK):=O (HKN.out (by rw[p2];exact p1));subst p2;clear p1 HP HKN
  go_enter func100,ntmps100
  go_upto_region 1 with fail
  rw[←HW.out]
  go_wp2_with (first
   |(go_at_call 99;refine HG.out.mono ?_;rintro e w1 ⟨v1,rfl,ho1,hb1⟩;obtain⟨a1,c1,rfl⟩:=ho1.rd.form;have HO1:=O ho1;have HB1:=O (HSB.out.trans (hb1.mono HSB.out.size));clear ho1 hb1)
   |(refine mO rfl rfl ?_)
   |(refine fZ zK zK rfl (.tmp 2) (.tmp 19) rfl w.heap.size rfl rfl _ (HRES.out _ HB1.out).1 ?_))
  refine g_ (aA rfl _ _ w.heap.size _ rfl (cM _ _ zK _ (setRow_heap _ _ _ _ _ _ (HRES.out _ HB1.out).1))) rfl ?_;exact⟨by rw[HKZ.out];rfl,(HRES.out _ HB1.out).2.trans (aK (A_ _))⟩
 ·subst p1
  have h3:((n:Int) != (s.length:Int))=true:=by rw[bne_iff_ne];omega
  have HKZ:Hid (kk=zK):=O (HKN.out (by rw[p3];decide));subst p3;clear p2 HP HKN
  go_enter func100,ntmps100
  go_upto_region 1 with fail
  rw[←HW.out]
  go_wp2_with (first
   |(go_at_call 99;refine HG.out.mono ?_;rintro e w1 ⟨v1,rfl,ho1,hb1⟩;obtain⟨a1,c1,rfl⟩:=ho1.rd.form;have HO1:=O ho1;have HB1:=O (HSB.out.trans (hb1.mono HSB.out.size));clear ho1 hb1)
   |(refine mO rfl rfl ?_)
   |(refine fZ zK zK rfl (.tmp 2) (.tmp 30) rfl w.heap.size rfl rfl _ (HRES.out _ HB1.out).1 ?_))
  refine g_ (aA rfl _ _ w.heap.size _ rfl (cM _ _ zK _ (setRow_heap _ _ _ _ _ _ (HRES.out _ HB1.out).1))) rfl ?_;exact⟨by rw[HKZ.out];rfl,(HRES.out _ HB1.out).2.trans (aK (A_ _))⟩
 ·subst p1
  have h3:((n:Int) != (s.length:Int))=false:=by rw[p2];simp
  have h4:((l.length:Int) != 2)=true:=by rw[bne_iff_ne];omega
  have HKZ:Hid (kk=zK):=O (HKN.out (by rw[p4];decide));subst p4;clear p2 p3 HP HKN
  go_enter func100,ntmps100
  go_upto_region 1 with fail
  rw[←HW.out]
  go_wp2_with (first
   |(go_at_call 99;refine HG.out.mono ?_;rintro e w1 ⟨v1,rfl,ho1,hb1⟩;obtain⟨a1,c1,rfl⟩:=ho1.rd.form;have HO1:=O ho1;have HB1:=O (HSB.out.trans (hb1.mono HSB.out.size));clear ho1 hb1)
   |(refine mO rfl rfl ?_)
   |(refine fZ zK zK rfl (.tmp 2) (.tmp 30) rfl w.heap.size rfl rfl _ (HRES.out _ HB1.out).1 ?_))
  refine g_ (aA rfl _ _ w.heap.size _ rfl (cM _ _ zK _ (setRow_heap _ _ _ _ _ _ (HRES.out _ HB1.out).1))) rfl ?_;exact⟨by rw[HKZ.out];rfl,(HRES.out _ HB1.out).2.trans (aK (A_ _))⟩
 ·subst p1
  have h3:((n:Int) != (s.length:Int))=false:=by rw[p2];simp
  obtain⟨p0,q0,rfl⟩:=TU p3;have hp0:=HLEN.out p0 (by simp) rfl;have HKP:=O (Kg p0);simp only[W_,X_] at p4 p5;have HP5:=O p5;have HP4:=O p4;have HGI:=O (fun (v:Value) (y:World) (h:RdE eB y v p0)=>uY v p0 y h (by have := HL.out;omega));have HPL:=O hp0;generalize kN p0=kn at HKP HP4;generalize hdI:rdV [] aB p0 0=rv at HKP HP5;generalize aB p0=d at HKP HGI;obtain⟨li,n2,e2⟩:=d;simp only at HKP
  have hp0i:(p0.length:Int)≤900000:=by have := HL.out;omega
  clear hdI p2 p3 p4 p5 HP HLEN hp0
  rcases HKP.out with⟨r1,r2⟩|⟨r1,r2,r3⟩|⟨r1,r2,r3,r4⟩|⟨r1,r2,r3,r4,r5⟩|⟨r1,r2,r3,r4,r5,r6⟩
  ·have h5:(e2 != 0)=true:=by simpa using r1
   have HKZ:Hid (kk=zK):=O (HKN.out (by rw[HP4.out,r2];first |exact r1|decide));have HKE:Hid (ke=_):=O (HP4.out.trans r2);clear r1 r2 HKP HP5 HP4 HKN
   go_enter func100,ntmps100
   go_upto_region 1 with fail
   rw[←HW.out]
   go_wp2_with (first
    |(go_at_call 99;refine HG.out.mono ?_;rintro e w1 ⟨v1,rfl,ho1,hb1⟩;obtain⟨a1,c1,rfl⟩:=ho1.rd.form;obtain⟨b1,o1,rfl,hbl,aO⟩:=dQ ho1.rd (by simp);have HQ:Hid (∀u,Below w1.heap.size w1 u→u.cell? ⟨b1,o1,none⟩=some (.string ⟨p0.toArray⟩)∧u.cell? ⟨b1,o1+1,none⟩=some (.string ⟨q0.toArray⟩)):=(O (fun u hu=>⟨by rw[hu.cell (p:=⟨b1,o1,none⟩) hbl];exact aO 0 (by simp),by rw[hu.cell (p:=⟨b1,o1+1,none⟩) hbl];exact aO 1 (by simp)⟩));have x0:=(HQ.out _ (O_ _ _)).1;have HB1:=O (HSB.out.trans (hb1.mono HSB.out.size));have hcv2:=cw w1 p0;have HSB2:=O (bU w1 p0);have HSR2:=O (fo w1 p0 (by unfold maxLen;have := HPL.out;have := HL.out;omega));generalize Lib.bytesWorld w1 5 ⟨p0.toArray⟩=w1s at hcv2 HSB2 HSR2;clear aO ho1 hb1)
    |(go_at_call 94;refine(HGI.out _ _ HSR2.out).mono ?_;rintro e w2 ⟨v2,rfl,ho2,hb2⟩;obtain⟨a2,c2,rfl⟩:=ho2.rd.form;have hB12:=HSB2.out.trans (hb2.mono HSB2.out.size);have HB2:=O (HB1.out.trans (hB12.mono HB1.out.size));obtain⟨z0,z1⟩:=HQ.out _ hB12;have HO2:=O ho2;clear ho2 hb2 x0 hB12)
    |(refine mO rfl rfl ?_)
    |(refine fZ zK zK rfl (.tmp 2) (.tmp 42) rfl w.heap.size rfl rfl _ (HRES.out _ HB2.out).1 ?_))
   refine g_ (aA rfl _ _ w.heap.size _ rfl (cM _ _ zK _ (setRow_heap _ _ _ _ _ _ (HRES.out _ HB2.out).1))) rfl ?_;exact⟨by rw[HKZ.out,HKE.out];rfl,(HRES.out _ HB2.out).2.trans (aK (A_ _))⟩
  ·subst r1
   have h5:((n2:Int) != (p0.length:Int))=true:=by rw[bne_iff_ne];omega
   have HKZ:Hid (kk=zK):=O (HKN.out (by rw[HP4.out,r3];first |exact r1|decide));have HKE:Hid (ke=_):=O (HP4.out.trans r3);clear r2 r3 HKP HP5 HP4 HKN
   go_enter func100,ntmps100
   go_upto_region 1 with fail
   rw[←HW.out]
   go_wp2_with (first
    |(go_at_call 99;refine HG.out.mono ?_;rintro e w1 ⟨v1,rfl,ho1,hb1⟩;obtain⟨a1,c1,rfl⟩:=ho1.rd.form;obtain⟨b1,o1,rfl,hbl,aO⟩:=dQ ho1.rd (by simp);have HQ:Hid (∀u,Below w1.heap.size w1 u→u.cell? ⟨b1,o1,none⟩=some (.string ⟨p0.toArray⟩)∧u.cell? ⟨b1,o1+1,none⟩=some (.string ⟨q0.toArray⟩)):=(O (fun u hu=>⟨by rw[hu.cell (p:=⟨b1,o1,none⟩) hbl];exact aO 0 (by simp),by rw[hu.cell (p:=⟨b1,o1+1,none⟩) hbl];exact aO 1 (by simp)⟩));have x0:=(HQ.out _ (O_ _ _)).1;have HB1:=O (HSB.out.trans (hb1.mono HSB.out.size));have hcv2:=cw w1 p0;have HSB2:=O (bU w1 p0);have HSR2:=O (fo w1 p0 (by unfold maxLen;have := HPL.out;have := HL.out;omega));generalize Lib.bytesWorld w1 5 ⟨p0.toArray⟩=w1s at hcv2 HSB2 HSR2;clear aO ho1 hb1)
    |(go_at_call 94;refine(HGI.out _ _ HSR2.out).mono ?_;rintro e w2 ⟨v2,rfl,ho2,hb2⟩;obtain⟨a2,c2,rfl⟩:=ho2.rd.form;have hB12:=HSB2.out.trans (hb2.mono HSB2.out.size);have HB2:=O (HB1.out.trans (hB12.mono HB1.out.size));obtain⟨z0,z1⟩:=HQ.out _ hB12;have HO2:=O ho2;clear ho2 hb2 x0 hB12)
    |(refine mO rfl rfl ?_)
    |(refine fZ zK zK rfl (.tmp 2) (.tmp 55) rfl w.heap.size rfl rfl _ (HRES.out _ HB2.out).1 ?_))
   refine g_ (aA rfl _ _ w.heap.size _ rfl (cM _ _ zK _ (setRow_heap _ _ _ _ _ _ (HRES.out _ HB2.out).1))) rfl ?_;exact⟨by rw[HKZ.out,HKE.out];rfl,(HRES.out _ HB2.out).2.trans (aK (A_ _))⟩
  ·subst r1
   have h5:((n2:Int) != (p0.length:Int))=false:=by rw[r2];simp
   have h6:((li.length:Int) != 8)=true:=by rw[bne_iff_ne];omega
   have HKZ:Hid (kk=zK):=O (HKN.out (by rw[HP4.out,r4];first |exact r1|decide));have HKE:Hid (ke=_):=O (HP4.out.trans r4);clear r2 r3 r4 HKP HP5 HP4 HKN
   go_enter func100,ntmps100
   go_upto_region 1 with fail
   rw[←HW.out]
   go_wp2_with (first
    |(go_at_call 99;refine HG.out.mono ?_;rintro e w1 ⟨v1,rfl,ho1,hb1⟩;obtain⟨a1,c1,rfl⟩:=ho1.rd.form;obtain⟨b1,o1,rfl,hbl,aO⟩:=dQ ho1.rd (by simp);have HQ:Hid (∀u,Below w1.heap.size w1 u→u.cell? ⟨b1,o1,none⟩=some (.string ⟨p0.toArray⟩)∧u.cell? ⟨b1,o1+1,none⟩=some (.string ⟨q0.toArray⟩)):=(O (fun u hu=>⟨by rw[hu.cell (p:=⟨b1,o1,none⟩) hbl];exact aO 0 (by simp),by rw[hu.cell (p:=⟨b1,o1+1,none⟩) hbl];exact aO 1 (by simp)⟩));have x0:=(HQ.out _ (O_ _ _)).1;have HB1:=O (HSB.out.trans (hb1.mono HSB.out.size));have hcv2:=cw w1 p0;have HSB2:=O (bU w1 p0);have HSR2:=O (fo w1 p0 (by unfold maxLen;have := HPL.out;have := HL.out;omega));generalize Lib.bytesWorld w1 5 ⟨p0.toArray⟩=w1s at hcv2 HSB2 HSR2;clear aO ho1 hb1)
    |(go_at_call 94;refine(HGI.out _ _ HSR2.out).mono ?_;rintro e w2 ⟨v2,rfl,ho2,hb2⟩;obtain⟨a2,c2,rfl⟩:=ho2.rd.form;have hB12:=HSB2.out.trans (hb2.mono HSB2.out.size);have HB2:=O (HB1.out.trans (hB12.mono HB1.out.size));obtain⟨z0,z1⟩:=HQ.out _ hB12;have HO2:=O ho2;clear ho2 hb2 x0 hB12)
    |(refine mO rfl rfl ?_)
    |(refine fZ zK zK rfl (.tmp 2) (.tmp 55) rfl w.heap.size rfl rfl _ (HRES.out _ HB2.out).1 ?_))
   refine g_ (aA rfl _ _ w.heap.size _ rfl (cM _ _ zK _ (setRow_heap _ _ _ _ _ _ (HRES.out _ HB2.out).1))) rfl ?_;exact⟨by rw[HKZ.out,HKE.out];rfl,(HRES.out _ HB2.out).2.trans (aK (A_ _))⟩
  ·subst r1
   have h5:((n2:Int) != (p0.length:Int))=false:=by rw[r2];simp
   obtain⟨m0,m1,m2,m3,m4,m5,m6,m7,rfl⟩:=AQ r3;simp only[W_,X_] at r4
   have h6:(m7 != 0)=true:=by rw[bne_iff_ne];omega
   have h7:(m7 != 1)=true:=by rw[bne_iff_ne];omega
   have HKZ:Hid (kk=zK):=O (HKN.out (by rw[HP4.out,r5];first |exact r1|decide));have HKE:Hid (ke=_):=O (HP4.out.trans r5);clear r2 r3 r4 r5 HKP HP5 HP4 HKN
   go_enter func100,ntmps100
   go_upto_region 1 with fail
   rw[←HW.out]
   go_wp2_with (first
    |(go_at_call 99;refine HG.out.mono ?_;rintro e w1 ⟨v1,rfl,ho1,hb1⟩;obtain⟨a1,c1,rfl⟩:=ho1.rd.form;obtain⟨b1,o1,rfl,hbl,aO⟩:=dQ ho1.rd (by simp);have HQ:Hid (∀u,Below w1.heap.size w1 u→u.cell? ⟨b1,o1,none⟩=some (.string ⟨p0.toArray⟩)∧u.cell? ⟨b1,o1+1,none⟩=some (.string ⟨q0.toArray⟩)):=(O (fun u hu=>⟨by rw[hu.cell (p:=⟨b1,o1,none⟩) hbl];exact aO 0 (by simp),by rw[hu.cell (p:=⟨b1,o1+1,none⟩) hbl];exact aO 1 (by simp)⟩));have x0:=(HQ.out _ (O_ _ _)).1;have HB1:=O (HSB.out.trans (hb1.mono HSB.out.size));have hcv2:=cw w1 p0;have HSB2:=O (bU w1 p0);have HSR2:=O (fo w1 p0 (by unfold maxLen;have := HPL.out;have := HL.out;omega));generalize Lib.bytesWorld w1 5 ⟨p0.toArray⟩=w1s at hcv2 HSB2 HSR2;clear aO ho1 hb1)
    |(go_at_call 94;refine(HGI.out _ _ HSR2.out).mono ?_;rintro e w2 ⟨v2,rfl,ho2,hb2⟩;obtain⟨a2,c2,rfl⟩:=ho2.rd.form;have hB12:=HSB2.out.trans (hb2.mono HSB2.out.size);have HB2:=O (HB1.out.trans (hB12.mono HB1.out.size));obtain⟨z0,z1⟩:=HQ.out _ hB12;have HO2:=O ho2;clear ho2 hb2 x0 hB12;obtain⟨b2,o2,rfl,hbl2,hrow2⟩:=iE HO2.out.rd (by simp);have y7:=hrow2 7 (by simp);have HROW2:=O hrow2;simp only[List.getElem_cons_zero,List.getElem_cons_succ] at y7;clear hrow2)
    |(refine mO rfl rfl ?_)
    |(refine fZ zK zK rfl (.tmp 2) (.tmp 66) rfl w.heap.size rfl rfl _ (HRES.out _ HB2.out).1 ?_))
   refine g_ (aA rfl _ _ w.heap.size _ rfl (cM _ _ zK _ (setRow_heap _ _ _ _ _ _ (HRES.out _ HB2.out).1))) rfl ?_;exact⟨by rw[HKZ.out,HKE.out];rfl,(HRES.out _ HB2.out).2.trans (aK (A_ _))⟩
  ·subst r1
   have h5:((n2:Int) != (p0.length:Int))=false:=by rw[r2];simp
   obtain⟨m0,m1,m2,m3,m4,m5,m6,m7,rfl⟩:=AQ r3;simp only[W_,X_] at r4;have HKE:Hid (ke=0):=O (HP4.out.trans r5);have HKK:Hid (kk=mkK [m0,m1,m2,m3,m4,m5,m6,m7] q0):=O (by rw[HP5.out HKE.out,r6]);have HMK:Hid (kc (mkK [m0,m1,m2,m3,m4,m5,m6,m7] q0) = #[.int .i64 m0,.int .i64 m1,.string ⟨q0.toArray⟩,.int .i64 m2,.int .i64 m3,.int .i64 m4,.int .i64 m5,.int .i64 m6,.bool (m7 == 1)]):=O (by unfold kc;rfl);generalize mkK [m0,m1,m2,m3,m4,m5,m6,m7] q0=km at HKK HMK;have H67:Hid ((m7 != 0)=false∨((m7 != 0)=true∧(m7 != 1)=false)):=O (by rcases r4 with h|h <;> rw[h] <;> simp);clear r2 r3 r4 r5 r6 HKP HP5 HP4 HKN
   rcases H67.out with h6|⟨h6,h7⟩
   all_goals (
    go_enter func100,ntmps100
    go_upto_region 1 with fail
    rw[←HW.out]
    go_upto_region 13 with (first
     |(go_at_call 99;refine HG.out.mono ?_;rintro e w1 ⟨v1,rfl,ho1,hb1⟩;obtain⟨a1,c1,rfl⟩:=ho1.rd.form;obtain⟨b1,o1,rfl,hbl,aO⟩:=dQ ho1.rd (by simp);have HQ:Hid (∀u,Below w1.heap.size w1 u→u.cell? ⟨b1,o1,none⟩=some (.string ⟨p0.toArray⟩)∧u.cell? ⟨b1,o1+1,none⟩=some (.string ⟨q0.toArray⟩)):=(O (fun u hu=>⟨by rw[hu.cell (p:=⟨b1,o1,none⟩) hbl];exact aO 0 (by simp),by rw[hu.cell (p:=⟨b1,o1+1,none⟩) hbl];exact aO 1 (by simp)⟩));have x0:=(HQ.out _ (O_ _ _)).1;have HB1:=O (HSB.out.trans (hb1.mono HSB.out.size));have hcv2:=cw w1 p0;have HSB2:=O (bU w1 p0);have HSR2:=O (fo w1 p0 (by unfold maxLen;have := HPL.out;have := HL.out;omega));generalize Lib.bytesWorld w1 5 ⟨p0.toArray⟩=w1s at hcv2 HSB2 HSR2;clear aO ho1 hb1)
     |(go_at_call 94;refine(HGI.out _ _ HSR2.out).mono ?_;rintro e w2 ⟨v2,rfl,ho2,hb2⟩;obtain⟨a2,c2,rfl⟩:=ho2.rd.form;have hB12:=HSB2.out.trans (hb2.mono HSB2.out.size);have HB2:=O (HB1.out.trans (hB12.mono HB1.out.size));obtain⟨z0,z1⟩:=HQ.out _ hB12;have HO2:=O ho2;clear ho2 hb2 x0 hB12;obtain⟨b2,o2,rfl,hbl2,hrow2⟩:=iE HO2.out.rd (by simp);have y7:=hrow2 7 (by simp);have HROW2:=O hrow2;simp only[List.getElem_cons_zero,List.getElem_cons_succ] at y7;clear hrow2))
    have y0':=HROW2.out 0 (by simp);have y1':=HROW2.out 1 (by simp);have y2':=HROW2.out 2 (by simp);have y3':=HROW2.out 3 (by simp);have y4':=HROW2.out 4 (by simp);have y5':=HROW2.out 5 (by simp);have y6':=HROW2.out 6 (by simp);have y7':=HROW2.out 7 (by simp);simp only[List.getElem_cons_zero,List.getElem_cons_succ] at y0' y1' y2' y3' y4' y5' y6' y7';rw[Nat.add_zero] at y0';clear y7
    try dsimp only[Act.put]
    refine dD 29 (by kernel_rfl) (by kernel_rfl) ?_;simp only[F_,c_,J_,L_]
    repeat (first
     |(refine Ff rfl 86 #[(0,.tmp 69),(1,.tmp 72),(2,.tmp 75),(3,.tmp 78),(4,.tmp 81),(5,.tmp 84),(6,.tmp 87),(7,.tmp 90),(8,.tmp 94)] rfl (kc km) (by rw[HMK.out];kernel_rfl) ?_;simp only[Act.put,B_,C_,D_])
     | go_big_quiet_step (fail))
    refine h_ ?_;rintro _ ⟨nq,rfl⟩;have HR9:Hid ((w2.drewN nq).heap[w.heap.size]?=some (.cells (kc zK) 86 (0,0))):=O (HRES.out _ HB2.out).1
    go_wp2_with (refine fZ km zK rfl (.tmp 2) (.tmp 95) rfl w.heap.size rfl rfl _ HR9.out ?_)
    refine g_ (aA rfl _ _ w.heap.size _ rfl (cM _ _ km _ (setRow_heap _ _ _ _ _ _ HR9.out))) rfl ?_
    exact⟨by rw[HKK.out,HKE.out];rfl,(ak nq (HRES.out _ HB2.out).2).trans (aK (A_ _))⟩)
end
section
open Go.RowKit Go.Shelf
attribute [local irreducible] Calls am mac aV
theorem Ov (s:List UInt8) (w:World) (hl:s.length≤100000) :
  Calls prog 114 #[.string ⟨s.toArray⟩,.slice none 0 0] w fun e w'=>e = .returned (.string ⟨(aV s).toArray⟩)∧Below w.heap.size w w':=by
 have HE:=O (yQ (E:=eB) w rfl);have HL:=O hl;have HEL:=O (cW s);have HBA:Hid (Below w.heap.size w (w.alloc (.cells #[] 5))):=O ((O_ _ _).alloc (A_ _) _);clear hl
 go_enter func114,ntmps114
 go_wp2_with (first
  |(go_at_call 84;refine(lH s _ (by have := HL.out;omega)).mono ?_;rintro e w1 ⟨v1,rfl,ho1,hb1⟩;have HO1:=O ho1;have HB1:=O hb1;clear ho1 hb1)
  |(at_builtin;go_loud (refine br aN rfl (.tmp 7) (.tmp 9) rfl w.heap.size _ [] rfl (HE.out.on HB1.out) v1 (aV s) rfl HO1.out.rd (by have := HEL.out;have := HL.out;simp;omega) (M_ HBA.out.size HB1.out.size) ?_);intro v2 w2 ho2 hg2 hloc;have HB2:=O ((HBA.out.trans (HB1.out.mono HBA.out.size)).trans ((HE.out.on HB1.out).below hg2 (M_ HBA.out.size HB1.out.size)));have HO2:Hid (ap eB w2 w.heap.size v2 (aV s)):=(O ho2);clear ho2 hg2 hloc))
 go_loopw [6,5] (fun i o wr=>i = .int .i64 0∧o=v2∧wr=w2) (fun _ _ _=>0)
 case atStart=>exact⟨rfl,rfl,rfl⟩
 case round =>
  obtain⟨rfl,rfl,hwr⟩:=hrel;rw[hwr];clear hwr;have hcv:=b6 HO2.out.rd;go_wp2;go_ret;exact⟨rfl,HB2.out⟩
theorem uI (key label:List UInt8) (w:World) (hk:cA w) (hl:key.length≤400000) (hm:label.length≤1000) :
  Calls prog 70 #[.string ⟨key.toArray⟩,.string ⟨label.toArray⟩,.slice none 0 0] w fun e w'=>e = .returned (.string ⟨(aJ key label).toArray⟩)∧Below w.heap.size w w':=by
 have HK:=O hk;have HL:=O hl;have HM:=O hm;have HD:Hid (mac key (aV label)=aJ key label):=O rfl;have HE:=O (cW label);clear hk hl hm
 go_enter func70,ntmps70
 go_wp2_with (first
  |(go_at_call 114;refine(Ov label _ (by have := HM.out;omega)).mono ?_;rintro e w1 ⟨rfl,hb1⟩;have HB1:=O hb1;clear hb1)
  |(go_at_call 113;refine(Bs key (aV label) _ (HK.out.on HB1.out) HL.out (by have := HE.out;have := HM.out;omega)).mono ?_;rintro e w2 ⟨rfl,hb2⟩;have HB2:=O (HB1.out.trans (hb2.mono HB1.out.size));clear hb2;rw[HD.out]))
 go_ret;exact⟨rfl,HB2.out⟩
end
section
namespace Fld
open Go.RowKit
theorem uv (l:List UInt8):∀u∈bv l,u.oneCell'=true:=by
 intro u hu;obtain⟨b,_,rfl⟩:=List.mem_map.1 hu
 rfl
theorem D7 {w:World} {ops:Array Oper} {rest:List Oper} {o:Oper} {a:Act} {Q:Exit→Act→World→Prop} (hgd:o.guard=none) (s x:Operand)
  (ho:o.op = .call { callee := .builtin .append,args := #[s,x],argTypes := #[80,80] })
  (ai:Nat) (v:Value) (l:List UInt8) (hs:a.eval s=v) (hown:cR w ai v l) (ad:Addr) (m c:Nat) (news:List UInt8) (hx:a.eval x = .slice (some ad) m c) (hl:news.length=m)
  (hnews:∀j u,(bv news)[j]?=some u→w.cell? (ad.add j)=some u) (hsz:l.length+m≤1000000000) (hbase:ai≤w.heap.size)
  (h:∀v' w',cR w' ai v' (l++news)→Below ai w w'→wpList prog ops Q rest (a.put o.dst v') w'):wpList prog ops Q (o::rest) a w:=by
 obtain⟨i0,hi,hz0,hz1,hz2⟩:=info_parts sH
 refine wpList_append_own w hgd s x 80 ho ai 5 i0 (.int .u8 0) 1 1 underlying80 hi hz0 hz1 hz2 rfl (by decide) v l.length (bv l) hs hown ad m c (bv news) hx (by simp[bv,hl]) hnews (uv news)
  (by unfold maxLen;omega) (by omega) hbase ?_
 intro v' w' h1 h2 _;refine h v' w' ?_ ((O_ ai w).grown h2 hbase (fun k hk=>(hown.lt k hk).1));unfold cR;rw[E_,hl]
 have : bv (l++news)=bv l++bv news:=by simp[bv]
 rw[this];exact h1
theorem mR (w:World) (cs:Array Value) (T:TypeId) (j:Nat) (u:Value) (h:cs.toList[j]?=some u):(w.alloc (.cells cs T)).cell? ((⟨w.heap.size,0,none⟩:Addr).add j)=some u:=by
 have gX:(⟨w.heap.size,0,none⟩:Addr).add j=⟨w.heap.size,j,none⟩:=by unfold Addr.add;split <;> simp_all
 rw[gX,e_ _ _ j cs T (0,0) (heap_alloc_new w _),←Array.getElem?_toList];exact h
theorem cR.below {w w':World} {ai:Nat} {v:Value} {l:List UInt8} (h:cR w ai v l) (hb:Below w.heap.size w w'):cR w' ai v l:=by
 refine⟨h.1,?_⟩
 rcases h.2 with hn|⟨g,cap,cur,rfl,hg,hgg,r⟩
 ·exact .inl hn
 ·exact .inr ⟨g,cap,cur,rfl,hg,by rw[hb.block _ (Q_.1 hgg).1];exact hgg,r⟩
theorem cR.nil (w:World) (ai:Nat):cR w ai (.slice none 0 0) []:=World.ownsRow_nil w ai _ 1
theorem cR.drew {w:World} {ai:Nat} {v:Value} {l:List UInt8} (n:Nat) (h:cR w ai v l):cR (w.drewN n) ai v l:=h.below (ak n (O_ _ _))
end Fld
end
section
namespace Fld
open Go.RowKit F6
theorem MF (xs:List UInt8) (x:UInt8):wts xs x 0=[]:=rfl
attribute [local irreducible] mul ev pp wt wts
theorem yt (v:Value) (xs:List UInt8) (x:UInt8) (w:World) (hv:RdB w v xs) (hok:okX xs=true) :
  Calls prog 176 #[v,.int .u8 (B8 x)] w fun e w'=>∃u,e = .returned (.tuple #[u,.int .i64 0])∧cR w' w.heap.size u (wts xs x xs.length)∧Below w.heap.size w w':=by
 obtain⟨hnd,hl1,hl2⟩:=nQ hok;have HOK:=O hok;have HV:=O hv;have HND:=O hnd;obtain⟨a,cap,rfl,hl,hcap,hcells⟩:=hv;obtain⟨b,off,rfl,hbl,hc⟩:=hcells (by omega);clear hok hnd hcells
 go_enter func176,ntmps176
 go_wp2_with (go_at_call 190;refine(uK _ xs _ HV.out).mono ?_;rw[HOK.out];rintro e _ ⟨rfl,n0,rfl⟩)
 go_loopw [7,8] (fun u i wr=>∃k:Nat,k≤xs.length∧i = .int .i64 k∧cR wr w.heap.size u (wts xs x k)∧Below w.heap.size w wr) (fun _ i _=>xs.length-(intOf i).toNat)
 case atStart=>exact⟨0,N_ _,rfl,by rw[MF];exact cR.nil _ _,ak _ (O_ _ _)⟩
 case round =>
  obtain⟨i,hi,rfl,ho,hb⟩:=hrel
  by_cases hlt:i<xs.length
  ·have hii:(i:Int)<xs.length:=by omega
   have HI:=O hlt;go_wp2
   go_loopw [9,10,11] (fun up dn j ws=>∃k:Nat,k≤xs.length∧j = .int .i64 k∧up = .int .u8 (B8 (pp xs i x k))∧dn = .int .u8 (B8 (pp xs i (byteAt xs i) k))∧∃n,ws=wr.drewN n) (fun _ _ j _=>xs.length-(intOf j).toNat)
   case atStart=>exact⟨0,N_ _,rfl,by rw[zo];rfl,by rw[zo];rfl,0,rfl⟩
   case round =>
    obtain⟨k,hk,rfl,rfl,rfl,n,rfl⟩:=hrel;have hi:=HI.out
    by_cases hlt:k<xs.length
    ·have c1:wr.cell? ⟨b,off+i,none⟩=some (.int .u8 (B8 (byteAt xs i))):=by rw[hb.cell (p:=⟨b,off+i,none⟩) hbl];exact hc i hi
     have c2:wr.cell? ⟨b,off+k,none⟩=some (.int .u8 (B8 (byteAt xs k))):=by rw[hb.cell (p:=⟨b,off+k,none⟩) hbl];exact hc k hlt
     have i1:(i:Int)<xs.length:=by omega
     have i2:(k:Int)<xs.length:=by omega
     have HK:=O hlt
     by_cases hki:k=i
     ·have s1:=zm xs i x hi
      have s2:=zm xs i (byteAt xs i) hi;have S1:=O s1;have S2:=O s2
      have hne:((k:Int) == i)=true:=by rw[beq_iff_eq];omega
      have HKI:=O hki;clear s1 s2 hki;go_wp2;go_roundw
      case rel=>exact⟨k+1,HK.out,by go_num,by rw[HKI.out,S1.out],by rw[HKI.out,S2.out],_,rfl⟩
      case measure=>have := HK.out;simp[intOf];omega
     ·have s1:=zn xs i x k hlt hki
      have s2:=zn xs i (byteAt xs i) k hlt hki;have S1:=O s1;have S2:=O s2
      have hne:((k:Int) == i)=false:=by rw[U_];omega
      clear s1 s2 hki
      go_wp2_with (go_at_call 116;refine(xL _ _ _).mono ?_;rintro e _ ⟨rfl,rfl⟩)
      first |refine fR (by kernel_rfl) (by kernel_rfl) ?_|refine fG (by kernel_rfl) (by kernel_rfl) ?_
      repeat (go_big_quiet_step ((go_at_call 116;refine Calls.quiet_of_same (xL _ _ _))))
      refine h_ ?_;rintro _ ⟨nq,rfl⟩;go_wp2;go_roundw
      case rel=>exact⟨k+1,HK.out,by go_num,by rw[S1.out],by rw[S2.out],_,rfl⟩
      case measure=>have := HK.out;simp[intOf];omega
    ·have he:k=xs.length:=by omega
     have hp:=Rd xs i x;have hne:=Rc xs i HND.out hi;rw[←he] at hp hne;have hs:=Cq xs x i;have hz:w.heap.size≤wr.heap.size:=hb.size;have ho2:=ho.drew n;have hb2:=ak n hb;have hwl:=rm xs x i;have HP:=O hp;have HS:=O hs;have HW:=O hwl
     have hki:(xs.length:Int)≤k:=by omega
     clear hp hs hwl he
     go_wp2_with (first
      |(go_at_call 191;refine(VE _ _ hne _).mono ?_;rintro e _ ⟨rfl,rfl⟩;rw[HP.out])
      |(at_builtin;refine D7 rfl (.tmp 58) (.tmp 60) rfl w.heap.size _ _ rfl (cR.drew n (World.ownsRow.alloc ho _)) ⟨wr.heap.size,0,none⟩ 1 1 [wt xs x i] rfl rfl ?h1 ?h2 ?h3 ?h4))
     case h1 =>
      intro j u hj;exact mR _ _ _ _ _ hj
     case h2=>rw[HW.out];have := HI.out;omega
     case h3=>simp;omega
     case h4 =>
      intro v' w' ho' hb';go_wp2;go_roundw
      case rel=>exact⟨i+1,HI.out,by go_num,by rw[HS.out];exact ho',(ak n (hb.alloc hz _)).trans hb'⟩
      case measure=>have := HI.out;simp[intOf];omega
  ·have he:i=xs.length:=by omega
   have HE:=O he;clear he;go_wp2
   go_ret2
   exact⟨_,rfl,by rw[←HE.out];exact ho,hb⟩
end Fld
end
section
namespace Fld
open Go.RowKit F6
attribute [local irreducible] mul ev pp wt wts yZ interp
theorem interp_r (v u:Value) (xs ys:List UInt8) (x:UInt8) (w:World) (hv:RdB w v xs) (hu:RdB w u ys) (hok:okX xs=true) (hl:xs.length=ys.length) :
  Calls prog 148 #[v,u,.int .u8 (B8 x)] w fun e w'=>e = .returned (.tuple #[.int .u8 (B8 (interp xs ys x)),.int .i64 0])∧Below w.heap.size w w':=by
 obtain⟨hnd,hl1,hl2⟩:=nQ hok;have hwt:=fun w' hv=>yt v xs x w' hv hok;have HWT:=O hwt;have HV:=O hv;have HU:=O hu;clear hok hnd hwt;obtain⟨a,cap,rfl,_,_,_⟩:=hv;obtain⟨a2,cap2,rfl,_,_,hcells2⟩:=hu;obtain⟨b2,off2,rfl,hb2,hc2⟩:=hcells2 (by omega);have hwl:=rm xs x xs.length
 have hne:((xs.length:Int) == ys.length)=true:=by rw[beq_iff_eq];omega
 have HWL:=O hwl;have HL:=O hl;clear hcells2 hwl hl
 go_enter func148,ntmps148
 go_wp2_with (go_at_call 176;refine(HWT.out _ HV.out).mono ?_;rintro e w1 ⟨q,rfl,ho,hb⟩;obtain⟨qa,qcap,rfl,_,_,hq⟩:=ho.opened HWL.out)
 obtain⟨g,rfl,hg1,hg2,hqc⟩:=hq (by omega);have hbs:=hb.size;clear hq
 go_loopw [10,11] (fun o i wr=>∃k:Nat,k≤xs.length∧i = .int .i64 k∧o = .int .u8 (B8 (yZ xs ys x k))∧∃n,wr=w1.drewN n) (fun _ i _=>xs.length-(intOf i).toNat)
 case atStart=>exact⟨0,N_ _,rfl,by rw[xE];rfl,0,rfl⟩
 case round =>
  obtain⟨k,hk,rfl,rfl,n,rfl⟩:=hrel
  by_cases hlt:k<xs.length
  ·have c1:=hqc k hlt
   have c2:w1.cell? ⟨b2,off2+k,none⟩=some (.int .u8 (B8 (byteAt ys k))):=by rw[hb.cell (p:=⟨b2,off2+k,none⟩) hb2];exact hc2 k (by have := HL.out;omega)
   have i1:(k:Int)<xs.length:=by omega
   have i2:(k:Int)<ys.length:=by have := HL.out;omega
   have i3:k<ys.length:=by have := HL.out;omega
   have hs:=xD xs ys x k;have HS:=O hs;have HK:=O hlt;clear hs;go_wp2
   first |refine fR (by kernel_rfl) (by kernel_rfl) ?_|refine fG (by kernel_rfl) (by kernel_rfl) ?_
   repeat (go_big_quiet_step ((go_at_call 116;refine Calls.quiet_of_same (xL _ _ _))))
   refine h_ ?_;rintro _ ⟨nq,rfl⟩;go_wp2;go_roundw
   case rel=>exact⟨k+1,HK.out,by go_num,by rw[HS.out];try rw[ME xs x xs.length k HK.out],_,rfl⟩
   case measure=>have := HK.out;simp[intOf];omega
  ·have he:k=xs.length:=by omega
   have HE:=O he
   have i1:(xs.length:Int)≤k:=by omega
   clear he;go_wp2
   go_ret2
   exact⟨by rw[HE.out,Bm];rfl,ak _ hb⟩
end Fld
end
section
open Go.RowKit Go.Shelf
theorem Ja:prog.built 47 []=some (bc zB ah):=by kernel_rfl
theorem jJ {ops:Array Oper} {rest:List Oper} {o:Oper} {a:Act} {w:World} {Q:Exit→Act→World→Prop} (hgd:Region.wanted o (yielded ops a.tmps)=true) (ho:o.op = .build 47 #[])
  (h:wpList prog ops Q rest (a.put o.dst (.agg (bc zB ah))) w):wpList prog ops Q (o::rest) a w :=
 wpList_step fun K hK=>by
  rw[G_ hgd];have hr:=run_build (P:=prog) w 47 #[] _ Ja;unfold Oper.wp execOp;simp only[ho,List.map_toArray,List.map_nil,hr,Sem.run_bind,Sem.run_pure,Result.andThen_ok];exact hK _ _ h
theorem KN (dk blob:List UInt8) (h:opE dk blob≠0):opB dk blob=zB∧opK dk blob=[]:=by
 unfold opB opK;rw[H_ h,H_ h];exact⟨rfl,rfl⟩
end
end Go.Proofs.YtmfiaadjdbemnaaGreatDoor
