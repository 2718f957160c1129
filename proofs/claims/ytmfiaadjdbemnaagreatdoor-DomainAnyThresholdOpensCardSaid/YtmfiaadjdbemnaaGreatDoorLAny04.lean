/- Contracts and lemmas. No condition. -/
import Derived.Test.YtmfiaadjdbemnaaGreatDoorLAny01
import Derived.Test.YtmfiaadjdbemnaaGreatDoorLAny02
import Derived.Test.YtmfiaadjdbemnaaGreatDoorSB26
import Derived.LaidLaws
import Derived.LaidMore
set_option linter.unusedSimpArgs false
set_option linter.unusedVariables false
namespace Go.Proofs.YtmfiaadjdbemnaaGreatDoor
open Go.Proofs.Tryz
section
open Go.ChangeShapes Go.WideShapes Go.ChangeAt Go.RowKit Go.Deep
set_option maxRecDepth 10000
theorem okN {a:Int} (h:(Lit.int .i64 a).wf=true):okI a:=by
 have := J1 h;unfold okI
 omega
theorem YZ {a b c d e f g:Int} {v:List UInt8} {r:Bool} (ha:(Lit.int .i64 a).wf=true) (hb:(Lit.int .i64 b).wf=true) (hc:(Lit.int .i64 c).wf=true) (hd:(Lit.int .i64 d).wf=true) (he:(Lit.int .i64 e).wf=true) (hf:(Lit.int .i64 f).wf=true) (hg:(Lit.int .i64 g).wf=true) :
  ∀x∈bO ⟨a,b,v,c,d,e,f,g,r⟩,okI x:=by
 intro x hx;unfold bO at hx;simp only[List.mem_cons,List.not_mem_nil,or_false] at hx
 rcases hx with rfl|rfl|rfl|rfl|rfl|rfl|rfl|rfl
 ·exact okN ha
 ·exact okN hb
 ·exact okN hc
 ·exact okN hd
 ·exact okN he
 ·exact okN hf
 ·exact okN hg
 ·unfold oG okI;split <;> omega
section
variable {H:Type} {enc:TypeId × Value→H} {w:World} {ai:Nat} {sp:Nat→Bool} {held:Bool}
theorem Oy {fuel:Nat} {cs:List Value} {x:DataW H × List MemPlace} (h:DataW.trod enc prog w ai sp held fuel 86 cs=some x):∃k:K,cs=(kc k).toList∧∀x∈bO k,okI x:=by
 have hl:=iR gB (c:=9) (by kernel_rfl) h;obtain⟨z0,e0,w0⟩:=bR gB h 0 0 (by rw[mE];rfl);obtain⟨z1,e1,w1⟩:=bR gB h 1 1 (by rw[mE];rfl);obtain⟨z2,e2,w2⟩:=kq gB h 2 2 (by rw[mE];rfl);obtain⟨z3,e3,w3⟩:=bR gB h 3 3 (by rw[mE];rfl);obtain⟨z4,e4,w4⟩:=bR gB h 4 4 (by rw[mE];rfl);obtain⟨z5,e5,w5⟩:=bR gB h 5 5 (by rw[mE];rfl);obtain⟨z6,e6,w6⟩:=bR gB h 6 6 (by rw[mE];rfl);obtain⟨z7,e7,w7⟩:=bR gB h 7 7 (by rw[mE];rfl);obtain⟨z8,e8⟩:=A6 gB h 8 8 (by rw[mE];rfl);refine⟨⟨z0,z1,z2,z3,z4,z5,z6,z7,z8⟩,?_,YZ w0 w1 w3 w4 w5 w6 w7⟩;obtain⟨c0,c1,c2,c3,c4,c5,c6,c7,c8,rfl⟩:=QO cs hl
 simp at e0 e1 e2 e3 e4 e5 e6 e7 e8
 subst e0 e1 e2 e3 e4 e5 e6 e7 e8
 rfl
theorem Bn {fuel:Nat} {v:Value} {x:DataW H × List MemPlace} (h:DataW.trod enc prog w ai sp held fuel 43 [v]=some x):∃l:List K,RdK w v l∧cQ l:=by
 rcases open_slice underlying43 h with⟨hcs,_⟩|⟨a,len,cap,m,n,D,Pl,hcs,_,hl,hm,hmm,_,hi⟩
 ·simp only[List.cons.injEq,and_true] at hcs
  subst hcs;exact⟨[],RdK.nil w,fun i hi=>absurd hi (by simp)⟩
 ·simp only[List.cons.injEq,and_true] at hcs
  subst hcs
  have hle:len≤m:=by rw[hmm];split <;> omega
  have hc:prog.cellsOf 86=9:=by kernel_rfl
  rw[hc] at hi
  obtain⟨l,hlen,hq⟩:=Ay (Q:=fun i k=>(∀j,j<9→w.cell? (a.add (i*9+j))=(kc k)[j]?)∧∀x∈bO k,okI x) len (fun i hil=>by
   obtain⟨cs',h1,h2⟩:=hi i (by omega);obtain⟨k,rfl,hwf⟩:=Oy h2;obtain⟨_,_,h3⟩:=World.cells?_some h1;refine⟨k,fun j hj => ?_,hwf⟩;have := h3 j hj
   rw[←Go.Deep.add_add,this,Array.getElem?_toList])
  refine⟨l,⟨some a,cap,by rw[hlen],by omega,hm,fun h0 => ?_⟩,fun i hil=>(hq i (by omega)).2⟩;obtain⟨b,off,spot⟩:=a;have h1:=(hq 0 (by omega)).1 0 (by omega);have hk0:(kc (ae l 0))[0]?=some (.int .i64 (ae l 0).id):=rfl;rw[hk0] at h1
  have hspot:spot=none:=by simpa [Addr.add] using World.cell?_spot h1
  subst hspot
  have gX:∀i,(⟨b,off,none⟩:Addr).add i=⟨b,off+i,none⟩:=by intro i;unfold Addr.add;split <;> simp_all
  refine⟨b,off,rfl,?_,fun j hj i hi9 => ?_⟩
  ·have := World.block_lt_of_cell? _ _ h1
   simpa [Addr.add] using this
  ·have := (hq j (by omega)).1 i hi9
   rw[gX,←Nat.add_assoc] at this;exact this
theorem si {fuel:Nat} {cs:List Value} {x:DataW H × List MemPlace} (h:DataW.trod enc prog w ai sp held fuel 45 cs=some x):∃(nx:Int) (v:Value) (l:List K),cs=[.int .i64 nx,v]∧(Lit.int .i64 nx).wf=true∧RdK w v l∧cQ l:=by
 have hl:=iR s5 (c:=2) (by kernel_rfl) h;obtain⟨z0,e0,w0⟩:=bR s5 h 0 0 (by rw[Oj];rfl);obtain⟨n,y,hy⟩:=fld s5 h 1 1 1 (by rw[Oj];rfl) (by kernel_rfl);obtain⟨c0,c1,rfl⟩:=E5 cs hl;obtain⟨l,hr,hw⟩:=Bn (v:=c1) hy
 simp at e0
 subst e0;exact⟨z0,c1,l,rfl,w0,hr,hw⟩
theorem zT {r:Reach} {b0:Nat} {v:Value} {d:DataW H} {ps:List MemPlace} (hval:Value.okWide prog w r b0 45 v) (hd:DataW.Trod enc prog w ai sp held 45 v d ps) :
  ∃(nx:Int) (u:Value) (l:List K),v = .agg #[.int .i64 nx,u]∧(Lit.int .i64 nx).wf=true∧RdK w u l∧cQ l:=by
 obtain⟨cs,rfl,fuel,hf⟩:=mK s5 hval hd;obtain⟨nx,u,l,hcs,h1,h2,h3⟩:=si hf;exact⟨nx,u,l,by rw[oN hcs],h1,h2,h3⟩
theorem DI {fuel:Nat} {cs:List Value} {x:DataW H × List MemPlace} (h:DataW.trod enc prog w ai sp held fuel 213 cs=some x) (hx:x.1 = .agg (KK.map fun k => .lit (.int .u32 (W32 k)))):cs=(row KK).toList:=by
 obtain⟨xs,m,_,hxx,hl,hxs,hi⟩:=DataW.trod_array underlying213 h
 have hc:prog.cellsOf 213=64:=by kernel_rfl
 have hu:prog.cellsOf 130=1:=by kernel_rfl
 rw[hc] at hl;rw[hu] at hi
 have e1:xs.map (·.1)=KK.map fun k => .lit (.int .u32 (W32 k)):=by
  rw[hxx] at hx
  simpa using hx
 have hkl:KK.length=64:=lB
 apply List.ext_getElem?
 intro i
 have hr:(row KK).toList=KK.map fun k=>Value.int .u32 (W32 k):=by simp[row]
 rw[hr]
 by_cases hlt:i<64
 ·have h1:=hi i hlt
  rw[K_ (by omega:i<xs.length)] at h1;obtain⟨z,hz,he,_⟩:=DataW.trod_int underlying130 h1
  have e2:(xs.map (·.1))[i]? = (KK.map fun k=>(DataW.lit (.int .u32 (W32 k)):DataW H))[i]? := by rw[e1]
  rw[List.getElem?_map,K_ (by omega:i<xs.length),List.getElem?_map,K_ (by omega:i<KK.length),Option.map_some,Option.map_some,he] at e2;simp only[Option.some.injEq,DataW.lit.injEq,Lit.int.injEq,true_and] at e2;rw[List.getElem?_map,K_ (by omega:i<KK.length),Option.map_some,←e2]
  have h2:((cs.drop (i*1)).take 1)[0]?=some (.int .u32 z):=by rw[hz];rfl
  rw[List.getElem?_take,G_ (by omega),List.getElem?_drop,Nat.mul_one,Nat.add_zero] at h2;exact h2
 ·rw[List.getElem?_eq_none (by omega),List.getElem?_eq_none (by rw[List.length_map];omega)]
end
theorem V4 {H:Type}:(Rows.laid_custody_hash_constants:DataW H) = .agg (KK.map fun k => .lit (.int .u32 (W32 k))):=by kernel_rfl
abbrev qD:List (String × DataW Unit):=[("custody/hash.constants",Rows.laid_custody_hash_constants)]
theorem gH:prog.globalNamed "custody/hash.constants" = some 0:=by kernel_rfl
theorem tH:(prog.globals[0]?).map (·.type)=some 213:=by kernel_rfl
theorem zx (cs:Array Value) (h:cs.toList=(row KK).toList):cs=row KK:=Array.ext' h
theorem FF {W:World} (h:laidMetH prog qD W):KAt W:=by
 have h':laidMet prog qD W:=h;obtain⟨ps,⟨g,t,cs,fuel,p,q,hg,ht,hvar,hd,_,hps⟩,_,hr⟩:=h';obtain rfl:=Option.some.inj (gH.symm.trans hg);obtain rfl:=Option.some.inj (tH.symm.trans ht);have e0:=zx cs (DI hd V4)
 have hz0:cs.size=63+1:=by rw[e0,co,lB]
 have hm0:MemPlace.cell 0 0∈ps:=by
  rw[hps,hz0]
  simp[MemPlace.row]
 obtain⟨⟨c,t,hb⟩,_⟩:=hr 0 0 hm0;simp only[World.var?,hg,Option.bind_some,hb,Option.some.injEq] at hvar;exact⟨t,by rw[←e0,←hvar];exact hb⟩
theorem AJ (os:Os) (args:Array Value):laidMetH prog qD ((World.doorLaid prog 222 os).forCall (fun _ _=>0) ⟨#[],args,[]⟩).memory :=
 laidMet_of_run' 8 (by kernel_rfl) (by kernel_rfl)
end
section
open Go.ChangeShapes Go.WideShapes Go.ChangeAt Go.RowKit Go.Deep
set_option maxRecDepth 10000
theorem g0:prog.globalNamed "custody/custodyref02.constants" = some 1:=by kernel_rfl
theorem g1:prog.globalNamed "custody/hash.constants" = some 0:=by kernel_rfl
theorem t0:(prog.globals[1]?).map (·.type)=some 213:=by kernel_rfl
theorem t1:(prog.globals[0]?).map (·.type)=some 213:=by kernel_rfl
open Go.ChangeShapes Go.WideShapes Go.ChangeAt Go.RowKit Go.Deep
set_option maxRecDepth 10000
section
variable {H:Type} {enc:TypeId × Value→H} {w:World} {ai:Nat} {sp:Nat→Bool} {held:Bool}
theorem Jd {α:Type} {Q:Nat→α→Prop} (n:Nat) (h:∀i,i<n→∃c,Q i c):∃d:List α,d.length=n∧∀i (hi:i<d.length),Q i d[i]:=by
 induction n with
 | zero=>exact⟨[],rfl,fun i hi=>absurd hi (by simp)⟩
 | succ n ih =>
   obtain⟨d,hd,hq⟩:=ih (fun i hi=>h i (by omega));obtain⟨c,hc⟩:=h n (by omega);refine⟨d++[c],by simp[hd],fun i hi => ?_⟩
   by_cases e:i<d.length
   ·rw[List.getElem_append_left e];exact hq i e
   ·obtain rfl:i=n:=by simp at hi;omega
    rw[List.getElem_append_right (by omega)]
    simpa using hc
theorem DE {α:Type} {E:El α} (hE:E.OK) (P:α→Prop) (hcells:prog.cellsOf E.T=E.c)
  (hel:∀fuel cs x,DataW.trod enc prog w ai sp held fuel E.T cs=some x→∃a,cs=E.cf a∧P a)
  {fuel:Nat} {v:Value} {x:DataW H × List MemPlace} (h:DataW.trod enc prog w ai sp held fuel E.S [v]=some x):∃l:List α,RdE E w v l∧∀a∈l,P a:=by
 rcases open_slice hE.und h with⟨hcs,_⟩|⟨a,len,cap,m,n,D,Pl,hcs,_,hl,hm,hmm,_,hi⟩
 ·simp only[List.cons.injEq,and_true] at hcs
  subst hcs;exact⟨[],RdE.nil w,fun i hi=>absurd hi (by simp)⟩
 ·simp only[List.cons.injEq,and_true] at hcs
  subst hcs
  have hle:len≤m:=by rw[hmm];split <;> omega
  rw[hcells] at hi
  obtain⟨l,hlen,hq⟩:=Jd (Q:=fun i k=>(∀j,j<E.c→w.cell? (a.add (i*E.c+j))=(E.cf k)[j]?)∧P k) len (fun i hil=>by
   obtain⟨cs',h1,h2⟩:=hi i (by omega);obtain⟨k,rfl,hp⟩:=hel _ _ _ h2;obtain⟨_,_,h3⟩:=World.cells?_some h1;refine⟨k,fun j hj => ?_,hp⟩;have := h3 j hj
   rw[←Go.Deep.add_add,this])
  refine⟨l,⟨some a,cap,by rw[hlen],by omega,hm,fun h0 => ?_⟩,fun y hy => ?_⟩
  ·obtain⟨b,off,spot⟩:=a
   have h1:=(hq 0 h0).1 0 hE.pos
   have hc0:0<(E.cf l[0]).length:=by rw[hE.len];exact hE.pos
   rw[K_ hc0] at h1
   have hspot:spot=none:=by simpa [Addr.add] using World.cell?_spot h1
   subst hspot
   have gX:∀i,(⟨b,off,none⟩:Addr).add i=⟨b,off+i,none⟩:=by intro i;unfold Addr.add;split <;> simp_all
   refine⟨b,off,rfl,?_,fun j u hu => ?_⟩
   ·have := World.block_lt_of_cell? _ _ h1
    simpa [Addr.add] using this
   ·have hj:j<l.length*E.c:=by
     have := (d_.1 hu).1
     rwa [El.flat_len hE] at this
    have hq1:j / E.c<l.length:=Nat.div_lt_of_lt_mul (by rw[Nat.mul_comm];exact hj);have hm1:j % E.c<E.c:=Nat.mod_lt _ hE.pos
    have hj2:j / E.c*E.c+j % E.c=j:=by rw[Nat.mul_comm];exact Nat.div_add_mod _ _
    have h5:=El.flat_at hE l (j / E.c) (j % E.c) hq1 hm1;rw[hj2,hu] at h5;have h6:=(hq (j / E.c) hq1).1 (j % E.c) hm1;rw[hj2,gX,←h5] at h6;exact h6
  ·obtain⟨i,hi2,rfl⟩:=List.mem_iff_getElem.1 hy
   exact(hq i hi2).2
theorem Dp {α:Type} {E:El α} (hE:E.OK) (P:α→Prop) (hcells:prog.cellsOf E.T=E.c)
  (hel:∀fuel cs x,DataW.trod enc prog w ai sp held fuel E.T cs=some x→∃a,cs=E.cf a∧P a)
  {r:Reach} {b0:Nat} {v:Value} {d:DataW H} {ps:List MemPlace} (hval:Value.okWide prog w r b0 E.S v) (hd:DataW.Trod enc prog w ai sp held E.S v d ps):∃l:List α,RdE E w v l∧∀a∈l,P a:=by
 obtain⟨a,len,cap,rfl⟩:=okWide_slice hE.und hval;obtain⟨fuel,hf⟩:=hd;exact DE hE P hcells hel hf
theorem En {fuel:Nat} {cs:List Value} {x:DataW H × List MemPlace} (h:DataW.trod enc prog w ai sp held fuel 5 cs=some x):∃c:UInt8,cs=eB.cf c∧True:=by
 obtain⟨z,hz,_,hw⟩:=DataW.trod_int underlying5 h;obtain⟨c,rfl⟩:=Mm hw;exact⟨c,hz,trivial⟩
theorem Aw:prog.cellsOf 5=1:=by kernel_rfl
theorem KS {r:Reach} {b0:Nat} {v:Value} {d:DataW H} {ps:List MemPlace} (hval:Value.okWide prog w r b0 80 v) (hd:DataW.Trod enc prog w ai sp held 80 v d ps):∃l:List UInt8,RdE eB w v l:=by
 obtain⟨l,h,_⟩:=Dp aN (fun _=>True) Aw (fun _ _ _ h=>En h) hval hd;exact⟨l,h⟩
theorem Xb {fuel:Nat} {cs:List Value} {x:DataW H × List MemPlace} (h:DataW.trod enc prog w ai sp held fuel 81 cs=some x):∃n0 n1:UInt8,cs=[.int .u8 (B8 n0),.int .u8 (B8 n1)]:=by
 obtain⟨xs,m,_,_,hl,hxs,hh⟩:=DataW.trod_array underlying81 h
 have hc:prog.cellsOf 81=2:=by kernel_rfl
 rw[hc] at hl;rw[Aw] at hh
 have key:∀i,i<2→∃z:UInt8,cs[i]?=some (.int .u8 (B8 z)):=by
  intro i hi;have h1:=hh i hi;rw[K_ (by omega:i<xs.length),Nat.mul_one] at h1;obtain⟨z,hz,_⟩:=En h1;exact⟨z,CN hz⟩
 obtain⟨z0,e0⟩:=key 0 (by omega);obtain⟨z1,e1⟩:=key 1 (by omega);obtain⟨c0,c1,rfl⟩:=E5 cs hl
 simp at e0 e1
 subst e0 e1;exact⟨z0,z1,rfl⟩
theorem O3 {r:Reach} {b0:Nat} {v:Value} {d:DataW H} {ps:List MemPlace} (hval:Value.okWide prog w r b0 81 v) (hd:DataW.Trod enc prog w ai sp held 81 v d ps):∃n0 n1:UInt8,v = .agg #[.int .u8 (B8 n0),.int .u8 (B8 n1)]:=by
 simp only[Value.okWide,underlying81] at hval;obtain⟨cs,rfl,_,_⟩:=hval;obtain⟨fuel,hf⟩:=hd;obtain⟨n0,n1,hcs⟩:=Xb hf;have hcs':cs.toList=[.int .u8 (B8 n0),.int .u8 (B8 n1)]:=hcs;exact⟨n0,n1,by rw[oN hcs']⟩
end
end
end Go.Proofs.YtmfiaadjdbemnaaGreatDoor
