/- Contracts and lemmas. No condition. -/
import Derived.Test.YtmfiaadjdbemnaaGreatDoorLSm01
import Derived.Test.YtmfiaadjdbemnaaGreatDoorLSm02
import Derived.Test.YtmfiaadjdbemnaaGreatDoorSB26
import Derived.ChangeOld
import Derived.ChangeSame
import Derived.Deep.Cut
import Derived.Deep.Fields
import Derived.Deep.Slices
import Derived.LaidLaws
import Derived.LaidMore
import Derived.Maps.OwnOps
import Derived.Maps.Views
import Derived.OpenShut
import Derived.ProofKit
import Derived.ShutString
import Derived.Test.YtmfiaadjdbemnaaGreatDoorRows
import Derived.WalkArith
set_option maxRecDepth 100000
set_option maxHeartbeats 8000000
set_option linter.unusedSimpArgs false
set_option linter.unusedVariables false
namespace Go.Proofs.YtmfiaadjdbemnaaGreatDoor
section
open Go.RowKit Go.Shelf
attribute [local irreducible] Calls
theorem E7 (k:K) (now:Int) (w:World):Calls Tryz.prog 31 #[kv k,.int .i64 now] w fun e w'=>e = .returned (.bool (dW now k))∧Below w.heap.size w w':=by
 unfold kv kc dW;have HB:=O ((O_ w.heap.size w).alloc (A_ _) (.cells #[.int .i64 k.id,.int .i64 k.ty,.string ⟨k.val.toArray⟩,.int .i64 k.uses,.int .i64 k.start,.int .i64 k.fin,.int .i64 k.ver,.int .i64 k.par,.bool k.raw] 86))
 by_cases h1:k.start≤now
 ·by_cases h2:now<k.fin
  ·rw[decide_eq_true h1,decide_eq_true h2]
   go_enter Tryz.func31,Tryz.ntmps31
   go_wp2;go_ret;exact⟨rfl,HB.out⟩
  ·rw[decide_eq_true h1,V_ h2]
   go_enter Tryz.func31,Tryz.ntmps31
   go_wp2;go_ret;exact⟨rfl,HB.out⟩
 ·rw[V_ h1]
  have h1':now<k.start:=by omega
  go_enter Tryz.func31,Tryz.ntmps31
  go_wp2;go_ret;exact⟨rfl,HB.out⟩
attribute [local irreducible] dW
end
section
theorem Tryz.own:ownKnob Tryz.prog.godebug=none:=by kernel_rfl
theorem Tryz.laidOut:laidOutB Tryz.prog=true:=by kernel_rfl
theorem vW (a:ByteArray):∃l:List UInt8,a=⟨l.toArray⟩:=⟨a.data.toList,by simp⟩
theorem J1 {a:Int} (h:(Lit.int .i64 a).wf=true) : -9223372036854775808≤a∧a≤9223372036854775807:=by
 simp only[Lit.wf,T_,decide_eq_true_eq] at h;exact h
open Go.ChangeShapes Go.WideShapes Go.ChangeAt Go.RowKit Go.Deep
set_option maxRecDepth 10000
section fk
variable {H:Type} {enc:TypeId × Value→H} {w:World} {ai:Nat} {sp:Nat→Bool} {held:Bool}
theorem fld {T t:TypeId} {fs:Array Field} {fuel:Nat} {cs:List Value} {x:DataW H × List MemPlace} (ht:Tryz.prog.underlying T=some (.struct fs)) (h:DataW.trod enc Tryz.prog w ai sp held fuel T cs=some x) (i o c:Nat)
  (hf:(fs.toList.map fun f=>(f.type,f.offset))[i]?=some (t,o)) (hc:Tryz.prog.cellsOf t=c):∃n y,DataW.trod enc Tryz.prog w ai sp held n t ((cs.drop o).take c)=some y:=by
 obtain⟨xs,n,_,_,_,hxs,hh⟩:=DataW.trod_struct ht h;rw[List.getElem?_map] at hf
 cases hfi:fs.toList[i]? with
 | none=>rw[hfi] at hf;cases hf
 | some f =>
   rw[hfi] at hf;simp only[Option.map_some,Option.some.injEq,Prod.mk.injEq] at hf
   have hfa:fs[i]?=some f:=by rw[←Array.getElem?_toList];exact hfi
   have h1:=hh i f hfa;rw[hf.1,hf.2,hc] at h1
   have hlt:i<xs.length:=by rw[hxs];exact(Q_.1 hfa).1
   exact⟨n,xs[i],by rw[h1,K_ hlt]⟩
theorem iR {T:TypeId} {fs:Array Field} {fuel c:Nat} {cs:List Value} {x:DataW H × List MemPlace} (ht:Tryz.prog.underlying T=some (.struct fs)) (hc:Tryz.prog.cellsOf T=c) (h:DataW.trod enc Tryz.prog w ai sp held fuel T cs=some x):cs.length=c:=by
 obtain⟨xs,n,_,_,hl,_⟩:=DataW.trod_struct ht h;rw[hl,hc]
theorem CN {cs:List Value} {o:Nat} {v:Value} (h:(cs.drop o).take 1=[v]):cs[o]?=some v:=cell_of_cut h
theorem bR {T:TypeId} {fs:Array Field} {fuel:Nat} {cs:List Value} {x:DataW H × List MemPlace} (ht:Tryz.prog.underlying T=some (.struct fs)) (h:DataW.trod enc Tryz.prog w ai sp held fuel T cs=some x) (i o:Nat)
  (hf:(fs.toList.map fun f=>(f.type,f.offset))[i]?=some (3,o)):∃z:Int,cs[o]?=some (.int .i64 z)∧(Lit.int .i64 z).wf=true:=by
 obtain⟨n,y,hy⟩:=fld ht h i o 1 hf (by kernel_rfl);obtain⟨z,hz,_,hw⟩:=DataW.trod_int Tryz.underlying3 hy;exact⟨z,CN hz,hw⟩
theorem kq {T:TypeId} {fs:Array Field} {fuel:Nat} {cs:List Value} {x:DataW H × List MemPlace} (ht:Tryz.prog.underlying T=some (.struct fs)) (h:DataW.trod enc Tryz.prog w ai sp held fuel T cs=some x) (i o:Nat)
  (hf:(fs.toList.map fun f=>(f.type,f.offset))[i]?=some (9,o)):∃l:List UInt8,cs[o]?=some (.string ⟨l.toArray⟩)∧l.length≤maxLen:=by
 obtain⟨n,y,hy⟩:=fld ht h i o 1 hf (by kernel_rfl);obtain⟨s,hs,_,hl⟩:=DataW.trod_string Tryz.underlying9 hy;obtain⟨l,rfl⟩:=vW s;exact⟨l,CN hs,hl⟩
theorem A6 {T:TypeId} {fs:Array Field} {fuel:Nat} {cs:List Value} {x:DataW H × List MemPlace} (ht:Tryz.prog.underlying T=some (.struct fs)) (h:DataW.trod enc Tryz.prog w ai sp held fuel T cs=some x) (i o:Nat)
  (hf:(fs.toList.map fun f=>(f.type,f.offset))[i]?=some (4,o)):∃b:Bool,cs[o]?=some (.bool b):=by
 obtain⟨n,y,hy⟩:=fld ht h i o 1 hf (by kernel_rfl);obtain⟨b,hb,_⟩:=DataW.trod_bool Tryz.underlying4 hy;exact⟨b,CN hb⟩
theorem gB:Tryz.prog.underlying 86=some (.struct (Tryz.prog.fieldsOf 86)):=by kernel_rfl
theorem s5:Tryz.prog.underlying 45=some (.struct (Tryz.prog.fieldsOf 45)):=by kernel_rfl
theorem mE:((Tryz.prog.fieldsOf 86).toList.map fun f=>(f.type,f.offset))=[(3,0),(3,1),(9,2),(3,3),(3,4),(3,5),(3,6),(3,7),(4,8)]:=by kernel_rfl
theorem Oj:((Tryz.prog.fieldsOf 45).toList.map fun f=>(f.type,f.offset))=[(3,0),(43,1)]:=by kernel_rfl
theorem QO (l:List Value) (h:l.length=9):∃c0 c1 c2 c3 c4 c5 c6 c7 c8,l=[c0,c1,c2,c3,c4,c5,c6,c7,c8]:=by
 match l,h with
 | [c0,c1,c2,c3,c4,c5,c6,c7,c8],_=>exact⟨c0,c1,c2,c3,c4,c5,c6,c7,c8,rfl⟩
theorem E5 (l:List Value) (h:l.length=2):∃c0 c1,l=[c0,c1]:=by
 match l,h with
 | [c0,c1],_=>exact⟨c0,c1,rfl⟩
theorem Ay {Q:Nat→K→Prop} (n:Nat) (h:∀i,i<n→∃c,Q i c):∃d:List K,d.length=n∧∀i,i<n→Q i (ae d i):=by
 induction n with
 | zero=>exact⟨[],rfl,fun i hi=>absurd hi (by omega)⟩
 | succ n ih =>
   obtain⟨d,hd,hq⟩:=ih (fun i hi=>h i (by omega));obtain⟨c,hc⟩:=h n (by omega);refine⟨d++[c],by simp[hd],fun i hi => ?_⟩
   by_cases e:i<n
   ·rw[dC _ _ _ (by omega)];exact hq i e
   ·obtain rfl:i=d.length:=by omega
    rw[pu,hd];exact hc
theorem mK {r:Reach} {b0:Nat} {T:TypeId} {fs:Array Field} {v:Value} (ht:Tryz.prog.underlying T=some (.struct fs)) (hval:Value.okWide Tryz.prog w r b0 T v) {d:DataW H} {ps:List MemPlace} (hd:DataW.Trod enc Tryz.prog w ai sp held T v d ps) :
  ∃cs:Array Value,v = .agg cs∧∃fuel,DataW.trod enc Tryz.prog w ai sp held fuel T cs.toList=some (d,ps):=by
 obtain⟨cs,rfl,_⟩:=okWide_struct ht hval;obtain⟨fuel,hf⟩:=hd;exact⟨cs,rfl,fuel,hf⟩
theorem oN {cs:Array Value} {l:List Value} (h:cs.toList=l):cs=l.toArray:=by rw[←h]
end fk
end
section
open Go.ChangeShapes Go.WideShapes Go.ChangeAt Go.RowKit Go.Deep
set_option maxRecDepth 10000
theorem okN {a:Int} (h:(Lit.int .i64 a).wf=true):okI a:=by
 have := J1 h;unfold okI
 omega
theorem YZ {a b c d e f g:Int} {v:List UInt8} {r:Bool} (ha:(Lit.int .i64 a).wf=true) (hb:(Lit.int .i64 b).wf=true) (hc:(Lit.int .i64 c).wf=true) (hd:(Lit.int .i64 d).wf=true) (he:(Lit.int .i64 e).wf=true) (hf:(Lit.int .i64 f).wf=true) (hg:(Lit.int .i64 g).wf=true) :
  ∀x∈bO ⟨a,b,v,c,d,e,f,g,r⟩,okI x:=by
 intro x hx;unfold bO at hx;simp only[List.mem_cons,List.not_mem_nil,or_false] at hx
 rcases hx with rfl|rfl|rfl|rfl|rfl|rfl|rfl|rfl
 ·exact okN ha
 ·exact okN hb
 ·exact okN hc
 ·exact okN hd
 ·exact okN he
 ·exact okN hf
 ·exact okN hg
 ·unfold oG okI;split <;> omega
section
variable {H:Type} {enc:TypeId × Value→H} {w:World} {ai:Nat} {sp:Nat→Bool} {held:Bool}
theorem Oy {fuel:Nat} {cs:List Value} {x:DataW H × List MemPlace} (h:DataW.trod enc Tryz.prog w ai sp held fuel 86 cs=some x):∃k:K,cs=(kc k).toList∧∀x∈bO k,okI x:=by
 have hl:=iR gB (c:=9) (by kernel_rfl) h;obtain⟨z0,e0,w0⟩:=bR gB h 0 0 (by rw[mE];rfl);obtain⟨z1,e1,w1⟩:=bR gB h 1 1 (by rw[mE];rfl);obtain⟨z2,e2,w2⟩:=kq gB h 2 2 (by rw[mE];rfl);obtain⟨z3,e3,w3⟩:=bR gB h 3 3 (by rw[mE];rfl);obtain⟨z4,e4,w4⟩:=bR gB h 4 4 (by rw[mE];rfl);obtain⟨z5,e5,w5⟩:=bR gB h 5 5 (by rw[mE];rfl);obtain⟨z6,e6,w6⟩:=bR gB h 6 6 (by rw[mE];rfl);obtain⟨z7,e7,w7⟩:=bR gB h 7 7 (by rw[mE];rfl);obtain⟨z8,e8⟩:=A6 gB h 8 8 (by rw[mE];rfl);refine⟨⟨z0,z1,z2,z3,z4,z5,z6,z7,z8⟩,?_,YZ w0 w1 w3 w4 w5 w6 w7⟩;obtain⟨c0,c1,c2,c3,c4,c5,c6,c7,c8,rfl⟩:=QO cs hl
 simp at e0 e1 e2 e3 e4 e5 e6 e7 e8
 subst e0 e1 e2 e3 e4 e5 e6 e7 e8
 rfl
theorem Bn {fuel:Nat} {v:Value} {x:DataW H × List MemPlace} (h:DataW.trod enc Tryz.prog w ai sp held fuel 43 [v]=some x):∃l:List K,RdK w v l∧cQ l:=by
 rcases open_slice Tryz.underlying43 h with⟨hcs,_⟩|⟨a,len,cap,m,n,D,Pl,hcs,_,hl,hm,hmm,_,hi⟩
 ·simp only[List.cons.injEq,and_true] at hcs
  subst hcs;exact⟨[],RdK.nil w,fun i hi=>absurd hi (by simp)⟩
 ·simp only[List.cons.injEq,and_true] at hcs
  subst hcs
  have hle:len≤m:=by rw[hmm];split <;> omega
  have hc:Tryz.prog.cellsOf 86=9:=by kernel_rfl
  rw[hc] at hi
  obtain⟨l,hlen,hq⟩:=Ay (Q:=fun i k=>(∀j,j<9→w.cell? (a.add (i*9+j))=(kc k)[j]?)∧∀x∈bO k,okI x) len (fun i hil=>by
   obtain⟨cs',h1,h2⟩:=hi i (by omega);obtain⟨k,rfl,hwf⟩:=Oy h2;obtain⟨_,_,h3⟩:=World.cells?_some h1;refine⟨k,fun j hj => ?_,hwf⟩;have := h3 j hj
   rw[←Go.Deep.add_add,this,Array.getElem?_toList])
  refine⟨l,⟨some a,cap,by rw[hlen],by omega,hm,fun h0 => ?_⟩,fun i hil=>(hq i (by omega)).2⟩;obtain⟨b,off,spot⟩:=a;have h1:=(hq 0 (by omega)).1 0 (by omega);have hk0:(kc (ae l 0))[0]?=some (.int .i64 (ae l 0).id):=rfl;rw[hk0] at h1
  have hspot:spot=none:=by simpa [Addr.add] using World.cell?_spot h1
  subst hspot
  have gX:∀i,(⟨b,off,none⟩:Addr).add i=⟨b,off+i,none⟩:=by intro i;unfold Addr.add;split <;> simp_all
  refine⟨b,off,rfl,?_,fun j hj i hi9 => ?_⟩
  ·have := World.block_lt_of_cell? _ _ h1
   simpa [Addr.add] using this
  ·have := (hq j (by omega)).1 i hi9
   rw[gX,←Nat.add_assoc] at this;exact this
theorem si {fuel:Nat} {cs:List Value} {x:DataW H × List MemPlace} (h:DataW.trod enc Tryz.prog w ai sp held fuel 45 cs=some x):∃(nx:Int) (v:Value) (l:List K),cs=[.int .i64 nx,v]∧(Lit.int .i64 nx).wf=true∧RdK w v l∧cQ l:=by
 have hl:=iR s5 (c:=2) (by kernel_rfl) h;obtain⟨z0,e0,w0⟩:=bR s5 h 0 0 (by rw[Oj];rfl);obtain⟨n,y,hy⟩:=fld s5 h 1 1 1 (by rw[Oj];rfl) (by kernel_rfl);obtain⟨c0,c1,rfl⟩:=E5 cs hl;obtain⟨l,hr,hw⟩:=Bn (v:=c1) hy
 simp at e0
 subst e0;exact⟨z0,c1,l,rfl,w0,hr,hw⟩
theorem zT {r:Reach} {b0:Nat} {v:Value} {d:DataW H} {ps:List MemPlace} (hval:Value.okWide Tryz.prog w r b0 45 v) (hd:DataW.Trod enc Tryz.prog w ai sp held 45 v d ps) :
  ∃(nx:Int) (u:Value) (l:List K),v = .agg #[.int .i64 nx,u]∧(Lit.int .i64 nx).wf=true∧RdK w u l∧cQ l:=by
 obtain⟨cs,rfl,fuel,hf⟩:=mK s5 hval hd;obtain⟨nx,u,l,hcs,h1,h2,h3⟩:=si hf;exact⟨nx,u,l,by rw[oN hcs],h1,h2,h3⟩
theorem DI {fuel:Nat} {cs:List Value} {x:DataW H × List MemPlace} (h:DataW.trod enc Tryz.prog w ai sp held fuel 213 cs=some x) (hx:x.1 = .agg (KK.map fun k => .lit (.int .u32 (W32 k)))):cs=(row KK).toList:=by
 obtain⟨xs,m,_,hxx,hl,hxs,hi⟩:=DataW.trod_array Tryz.underlying213 h
 have hc:Tryz.prog.cellsOf 213=64:=by kernel_rfl
 have hu:Tryz.prog.cellsOf 130=1:=by kernel_rfl
 rw[hc] at hl;rw[hu] at hi
 have e1:xs.map (·.1)=KK.map fun k => .lit (.int .u32 (W32 k)):=by
  rw[hxx] at hx
  simpa using hx
 have hkl:KK.length=64:=lB
 apply List.ext_getElem?
 intro i
 have hr:(row KK).toList=KK.map fun k=>Value.int .u32 (W32 k):=by simp[row]
 rw[hr]
 by_cases hlt:i<64
 ·have h1:=hi i hlt
  rw[K_ (by omega:i<xs.length)] at h1;obtain⟨z,hz,he,_⟩:=DataW.trod_int Tryz.underlying130 h1
  have e2:(xs.map (·.1))[i]? = (KK.map fun k=>(DataW.lit (.int .u32 (W32 k)):DataW H))[i]? := by rw[e1]
  rw[List.getElem?_map,K_ (by omega:i<xs.length),List.getElem?_map,K_ (by omega:i<KK.length),Option.map_some,Option.map_some,he] at e2;simp only[Option.some.injEq,DataW.lit.injEq,Lit.int.injEq,true_and] at e2;rw[List.getElem?_map,K_ (by omega:i<KK.length),Option.map_some,←e2]
  have h2:((cs.drop (i*1)).take 1)[0]?=some (.int .u32 z):=by rw[hz];rfl
  rw[List.getElem?_take,G_ (by omega),List.getElem?_drop,Nat.mul_one,Nat.add_zero] at h2;exact h2
 ·rw[List.getElem?_eq_none (by omega),List.getElem?_eq_none (by rw[List.length_map];omega)]
end
theorem V4 {H:Type}:(Rows.laid_custody_hash_constants:DataW H) = .agg (KK.map fun k => .lit (.int .u32 (W32 k))):=by kernel_rfl
abbrev qD:List (String × DataW Unit):=[("custody/hash.constants",Rows.laid_custody_hash_constants)]
theorem gH:Tryz.prog.globalNamed "custody/hash.constants" = some 0:=by kernel_rfl
theorem tH:(Tryz.prog.globals[0]?).map (·.type)=some 213:=by kernel_rfl
theorem zx (cs:Array Value) (h:cs.toList=(row KK).toList):cs=row KK:=Array.ext' h
theorem FF {W:World} (h:laidMetH Tryz.prog qD W):KAt W:=by
 have h':laidMet Tryz.prog qD W:=h;obtain⟨ps,⟨g,t,cs,fuel,p,q,hg,ht,hvar,hd,_,hps⟩,_,hr⟩:=h';obtain rfl:=Option.some.inj (gH.symm.trans hg);obtain rfl:=Option.some.inj (tH.symm.trans ht);have e0:=zx cs (DI hd V4)
 have hz0:cs.size=63+1:=by rw[e0,co,lB]
 have hm0:MemPlace.cell 0 0∈ps:=by
  rw[hps,hz0]
  simp[MemPlace.row]
 obtain⟨⟨c,t,hb⟩,_⟩:=hr 0 0 hm0;simp only[World.var?,hg,Option.bind_some,hb,Option.some.injEq] at hvar;exact⟨t,by rw[←e0,←hvar];exact hb⟩
theorem AJ (os:Os) (args:Array Value):laidMetH Tryz.prog qD ((World.doorLaid Tryz.prog 222 os).forCall (fun _ _=>0) ⟨#[],args,[]⟩).memory :=
 laidMet_of_run' 8 (by kernel_rfl) (by kernel_rfl)
end
end Go.Proofs.YtmfiaadjdbemnaaGreatDoor
