/- Contracts and lemmas. No condition. -/
import Derived.Test.YtmfiaadjdbemnaaGreatDoorLMg07
import Derived.Test.YtmfiaadjdbemnaaGreatDoorLMg08
import Derived.Test.YtmfiaadjdbemnaaGreatDoorSB34
import Derived.Deep.Cut
set_option maxRecDepth 100000
set_option maxHeartbeats 8000000
set_option linter.unusedSimpArgs false
set_option linter.unusedVariables false
namespace Go.Proofs.YtmfiaadjdbemnaaGreatDoor
open Go.Proofs.Tryz
section
variable {ops:Array Oper} {rest:List Oper} {o:Oper} {a:Act} {w:World} {Q:Exit→Act→World→Prop}
section
open Go.ChangeShapes Go.WideShapes Go.ChangeAt Go.RowKit Go.Deep
set_option maxRecDepth 10000
theorem SB {H:Type}:(Rows.laid_custody_custodyref02_constants:DataW H) = .agg (KK.map fun k => .lit (.int .u32 (W32 k))):=by kernel_rfl
theorem SC {H:Type}:(Rows.laid_custody_hash_constants:DataW H) = .agg (KK.map fun k => .lit (.int .u32 (W32 k))):=by kernel_rfl
abbrev lU:List (String × DataW Unit):=[("custody/custodyref02.constants",Rows.laid_custody_custodyref02_constants),("custody/hash.constants",Rows.laid_custody_hash_constants)]
theorem g0:prog.globalNamed "custody/custodyref02.constants" = some 1:=by kernel_rfl
theorem g1:prog.globalNamed "custody/hash.constants" = some 0:=by kernel_rfl
theorem t0:(prog.globals[1]?).map (·.type)=some 213:=by kernel_rfl
theorem t1:(prog.globals[0]?).map (·.type)=some 213:=by kernel_rfl
theorem Cj {W:World} (h:laidMetH prog lU W):cA W∧KAt W:=by
 have h':laidMet prog lU W:=h;obtain⟨ps,⟨g,t,cs,fuel,p,q,hg,ht,hvar,hd,⟨g',t',cs',fuel',p',q',hg',ht',hvar',hd',_,hps'⟩,hps⟩,_,hr⟩:=h';obtain rfl:=Option.some.inj (g0.symm.trans hg);obtain rfl:=Option.some.inj (t0.symm.trans ht);obtain rfl:=Option.some.inj (g1.symm.trans hg');obtain rfl:=Option.some.inj (t1.symm.trans ht');have e0:=zx cs (DI hd SB);have e1:=zx cs' (DI hd' SC)
 have hz0:cs.size=63+1:=by rw[e0,co,lB]
 have hz1:cs'.size=63+1:=by rw[e1,co,lB]
 have hm0:MemPlace.cell 1 0∈ps:=by
  rw[hps,hz0]
  simp[MemPlace.row]
 have hm1:MemPlace.cell 0 0∈ps:=by
  rw[hps,hps',hz1]
  simp[MemPlace.row]
 obtain⟨⟨c,t,hb⟩,_⟩:=hr 1 0 hm0;obtain⟨⟨c',t',hb'⟩,_⟩:=hr 0 0 hm1;simp only[World.var?,hg,Option.bind_some,hb,Option.some.injEq] at hvar;simp only[World.var?,hg',Option.bind_some,hb',Option.some.injEq] at hvar';refine⟨⟨t,?_⟩,⟨t',?_⟩⟩
 ·rw[←e0,←hvar];exact hb
 ·rw[←e1,←hvar'];exact hb'
theorem xe (os:Os) (args:Array Value):laidMetH prog lU ((World.doorLaid prog 222 os).forCall (fun _ _=>0) ⟨#[],args,[]⟩).memory :=
 laidMet_of_run' 8 (by kernel_rfl) (by kernel_rfl)
open Go.ChangeShapes Go.WideShapes Go.ChangeAt Go.RowKit Go.Deep
set_option maxRecDepth 10000
section
variable {H:Type} {enc:TypeId × Value→H} {w:World} {ai:Nat} {sp:Nat→Bool} {held:Bool}
theorem sn:prog.underlying 25=some (.struct (prog.fieldsOf 25)):=by kernel_rfl
theorem EJ:((prog.fieldsOf 25).toList.map fun f=>(f.type,f.offset))=[(23,0),(9,16),(3,17),(3,18)]:=by kernel_rfl
theorem Ks (l:List Value) (h:l.length=19):∃c0 c1 c2 c3 c4 c5 c6 c7 c8 c9 c10 c11 c12 c13 c14 c15 c16 c17 c18,l=[c0,c1,c2,c3,c4,c5,c6,c7,c8,c9,c10,c11,c12,c13,c14,c15,c16,c17,c18]:=by
 match l,h with
 | c0::c1::c2::c3::c4::c5::c6::c7::c8::c9::c10::c11::c12::c13::c14::c15::c16::c17::c18::[],_=>exact⟨c0,c1,c2,c3,c4,c5,c6,c7,c8,c9,c10,c11,c12,c13,c14,c15,c16,c17,c18,rfl⟩
theorem Ey {fuel:Nat} {cs:List Value} {x:DataW H × List MemPlace} (h:DataW.trod enc prog w ai sp held fuel 25 cs=some x):∃(d:DO),cs=(doA d).toList∧d.mach:=by
 have hl:=iR sn (c:=19) (by kernel_rfl) h;obtain⟨n0,y0,h0⟩:=fld sn h 0 0 16 (by rw[EJ];rfl) (by kernel_rfl);obtain⟨d0,f0,g0⟩:=qm h0;obtain⟨z1,e1,w1⟩:=kq sn h 1 16 (by rw[EJ];rfl);obtain⟨z2,e2,w2⟩:=bR sn h 2 17 (by rw[EJ];rfl);obtain⟨z3,e3,w3⟩:=bR sn h 3 18 (by rw[EJ];rfl);clear h h0;obtain⟨c0,c1,c2,c3,c4,c5,c6,c7,c8,c9,c10,c11,c12,c13,c14,c15,c16,c17,c18,rfl⟩:=Ks cs hl;refine⟨⟨d0,z1,z2,z3⟩,?_,⟨g0,okN w2,okN w3⟩⟩;unfold am at f0
 simp at f0 e1 e2 e3
 obtain⟨rfl,rfl,rfl,rfl,rfl,rfl,rfl,rfl,rfl,rfl,rfl,rfl,rfl,rfl,rfl,rfl⟩:=f0;subst e1 e2 e3;unfold doA dmc
 rfl
end
end
section
open Go.ChangeShapes Go.WideShapes Go.ChangeAt Go.RowKit Go.Deep
set_option maxRecDepth 10000
section
variable {H:Type} {enc:TypeId × Value→H} {w:World} {ai:Nat} {sp:Nat→Bool} {held:Bool}
theorem Jd {α:Type} {Q:Nat→α→Prop} (n:Nat) (h:∀i,i<n→∃c,Q i c):∃d:List α,d.length=n∧∀i (hi:i<d.length),Q i d[i]:=by
 induction n with
 | zero=>exact⟨[],rfl,fun i hi=>absurd hi (by simp)⟩
 | succ n ih =>
   obtain⟨d,hd,hq⟩:=ih (fun i hi=>h i (by omega));obtain⟨c,hc⟩:=h n (by omega);refine⟨d++[c],by simp[hd],fun i hi => ?_⟩
   by_cases e:i<d.length
   ·rw[List.getElem_append_left e];exact hq i e
   ·obtain rfl:i=n:=by simp at hi;omega
    rw[List.getElem_append_right (by omega)]
    simpa using hc
theorem DE {α:Type} {E:El α} (hE:E.OK) (P:α→Prop) (hcells:prog.cellsOf E.T=E.c)
  (hel:∀fuel cs x,DataW.trod enc prog w ai sp held fuel E.T cs=some x→∃a,cs=E.cf a∧P a)
  {fuel:Nat} {v:Value} {x:DataW H × List MemPlace} (h:DataW.trod enc prog w ai sp held fuel E.S [v]=some x):∃l:List α,RdE E w v l∧∀a∈l,P a:=by
 rcases open_slice hE.und h with⟨hcs,_⟩|⟨a,len,cap,m,n,D,Pl,hcs,_,hl,hm,hmm,_,hi⟩
 ·simp only[List.cons.injEq,and_true] at hcs
  subst hcs;exact⟨[],RdE.nil w,fun i hi=>absurd hi (by simp)⟩
 ·simp only[List.cons.injEq,and_true] at hcs
  subst hcs
  have hle:len≤m:=by rw[hmm];split <;> omega
  rw[hcells] at hi
  obtain⟨l,hlen,hq⟩:=Jd (Q:=fun i k=>(∀j,j<E.c→w.cell? (a.add (i*E.c+j))=(E.cf k)[j]?)∧P k) len (fun i hil=>by
   obtain⟨cs',h1,h2⟩:=hi i (by omega);obtain⟨k,rfl,hp⟩:=hel _ _ _ h2;obtain⟨_,_,h3⟩:=World.cells?_some h1;refine⟨k,fun j hj => ?_,hp⟩;have := h3 j hj
   rw[←Go.Deep.add_add,this])
  refine⟨l,⟨some a,cap,by rw[hlen],by omega,hm,fun h0 => ?_⟩,fun y hy => ?_⟩
  ·obtain⟨b,off,spot⟩:=a
   have h1:=(hq 0 h0).1 0 hE.pos
   have hc0:0<(E.cf l[0]).length:=by rw[hE.len];exact hE.pos
   rw[K_ hc0] at h1
   have hspot:spot=none:=by simpa [Addr.add] using World.cell?_spot h1
   subst hspot
   have gX:∀i,(⟨b,off,none⟩:Addr).add i=⟨b,off+i,none⟩:=by intro i;unfold Addr.add;split <;> simp_all
   refine⟨b,off,rfl,?_,fun j u hu => ?_⟩
   ·have := World.block_lt_of_cell? _ _ h1
    simpa [Addr.add] using this
   ·have hj:j<l.length*E.c:=by
     have := (d_.1 hu).1
     rwa [El.flat_len hE] at this
    have hq1:j / E.c<l.length:=Nat.div_lt_of_lt_mul (by rw[Nat.mul_comm];exact hj);have hm1:j % E.c<E.c:=Nat.mod_lt _ hE.pos
    have hj2:j / E.c*E.c+j % E.c=j:=by rw[Nat.mul_comm];exact Nat.div_add_mod _ _
    have h5:=El.flat_at hE l (j / E.c) (j % E.c) hq1 hm1;rw[hj2,hu] at h5;have h6:=(hq (j / E.c) hq1).1 (j % E.c) hm1;rw[hj2,gX,←h5] at h6;exact h6
  ·obtain⟨i,hi2,rfl⟩:=List.mem_iff_getElem.1 hy
   exact(hq i hi2).2
structure SH.mach (s:SH):Prop where
 set:s.set.length=16
 need:okI s.need
 idx:okI s.idx
theorem wj:prog.underlying 103=some (.struct (prog.fieldsOf 103)):=by kernel_rfl
theorem EN:((prog.fieldsOf 103).toList.map fun f=>(f.type,f.offset))=[(23,0),(3,16),(3,17),(9,18)]:=by kernel_rfl
theorem LH {fuel:Nat} {cs:List Value} {x:DataW H × List MemPlace} (h:DataW.trod enc prog w ai sp held fuel 103 cs=some x):∃(s:SH),cs=eH.cf s∧s.mach:=by
 have hl:=iR wj (c:=19) (by kernel_rfl) h;obtain⟨n0,y0,h0⟩:=fld wj h 0 0 16 (by rw[EN];rfl) (by kernel_rfl);obtain⟨d0,f0,g0⟩:=qm h0;obtain⟨z1,e1,w1⟩:=bR wj h 1 16 (by rw[EN];rfl);obtain⟨z2,e2,w2⟩:=bR wj h 2 17 (by rw[EN];rfl);obtain⟨z3,e3,w3⟩:=kq wj h 3 18 (by rw[EN];rfl);clear h h0;obtain⟨c0,c1,c2,c3,c4,c5,c6,c7,c8,c9,c10,c11,c12,c13,c14,c15,c16,c17,c18,rfl⟩:=Ks cs hl;refine⟨⟨d0,z1,z2,z3⟩,?_,⟨g0,okN w1,okN w2⟩⟩;unfold am at f0
 simp at f0 e1 e2 e3
 obtain⟨rfl,rfl,rfl,rfl,rfl,rfl,rfl,rfl,rfl,rfl,rfl,rfl,rfl,rfl,rfl,rfl⟩:=f0;subst e1 e2 e3
 show _=shc _
 unfold shc am
 rfl
theorem Av:prog.cellsOf 103=19:=by kernel_rfl
end
end
section
open Go.ChangeShapes Go.WideShapes Go.ChangeAt Go.RowKit Go.Deep
set_option maxRecDepth 10000
def miC (d:DO) (nx:Int) (v:Value) (pol:List UInt8) (now:Int) (blob:List UInt8) (vl:Value):List Value:=dmc d++([.int .i64 nx,v]++((am pol).toList++([.int .i64 now]++([.string ⟨blob.toArray⟩]++[vl]))))
theorem ec (l:List Value) (a b:Nat):l.drop a=(l.drop a).take b++l.drop (a+b):=by rw[←List.drop_drop,List.take_append_drop]
theorem rK {l:List Value} {a:Nat} {v:Value} (h:l[a]?=some v):(l.drop a).take 1=[v]:=by
 obtain⟨hlt,e⟩:=d_.1 h;rw[List.drop_eq_getElem_cons hlt,e]
 rfl
theorem KL {l:List Value} {a:Nat} (h:a<l.length):∃v,(l.drop a).take 1=[v]:=⟨l[a],rK (K_ h)⟩
section
variable {H:Type} {enc:TypeId × Value→H} {w:World} {ai:Nat} {sp:Nat→Bool} {held:Bool}
theorem nz:prog.underlying 73=some (.struct (prog.fieldsOf 73)):=by kernel_rfl
theorem xu:((prog.fieldsOf 73).toList.map fun f=>(f.type,f.offset))=[(25,0),(45,19),(23,21),(3,37),(9,38),(28,39)]:=by kernel_rfl
theorem V9 {fuel:Nat} {cs:List Value} {x:DataW H × List MemPlace} (h:DataW.trod enc prog w ai sp held fuel 73 cs=some x) :
  ∃(d:DO) (nx:Int) (v:Value) (tl:List K) (pol:List UInt8) (now:Int) (blob:List UInt8) (vl:Value) (l:List SH),cs=miC d nx v pol now blob vl∧d.mach∧RdK w v tl∧cQ tl∧pol.length=16∧okI now∧blob.length≤maxLen∧RdE eH w vl l∧∀s∈l,s.mach:=by
 have hl:=iR nz (c:=40) (by kernel_rfl) h;obtain⟨n0,y0,h0⟩:=fld nz h 0 0 19 (by rw[xu];rfl) (by kernel_rfl);obtain⟨d,e0,g0⟩:=Ey h0;obtain⟨n1,y1,h1⟩:=fld nz h 1 19 2 (by rw[xu];rfl) (by kernel_rfl);obtain⟨nx,v,tl,e1,_,g1,k1⟩:=si h1;obtain⟨n2,y2,h2⟩:=fld nz h 2 21 16 (by rw[xu];rfl) (by kernel_rfl);obtain⟨pol,e2,g2⟩:=qm h2;obtain⟨now,e3,g3⟩:=bR nz h 3 37 (by rw[xu];rfl);obtain⟨blob,e4,g4⟩:=kq nz h 4 38 (by rw[xu];rfl);obtain⟨n5,y5,h5⟩:=fld nz h 5 39 1 (by rw[xu];rfl) (by kernel_rfl);obtain⟨vl,e5⟩:=KL (l:=cs) (a:=39) (by omega);rw[e5] at h5;obtain⟨l,g5,k5⟩:=DE oI SH.mach Av (fun _ _ _ h=>LH h) h5;refine⟨d,nx,v,tl,pol,now,blob,vl,l,?_,g0,g1,k1,g2,okN g3,g4,g5,k5⟩;have q:cs=cs.drop 0:=rfl;rw[q,ec cs 0 19,ec cs (0+19) 2,ec cs (0+19+2) 16,ec cs (0+19+2+16) 1,ec cs (0+19+2+16+1) 1,ec cs (0+19+2+16+1+1) 1];simp only[a_,Nat.reduceAdd];rw[e0,e1,e2,rK e3,rK e4,e5,List.drop_of_length_le (by omega),List.append_nil];unfold miC doA
 rfl
theorem XV {r:Reach} {b0:Nat} {v:Value} {dd:DataW H} {ps:List MemPlace} (hval:Value.okWide prog w r b0 73 v) (hd:DataW.Trod enc prog w ai sp held 73 v dd ps) :
  ∃(d:DO) (nx:Int) (u:Value) (tl:List K) (pol:List UInt8) (now:Int) (blob:List UInt8) (vl:Value) (l:List SH),v = .agg (miC d nx u pol now blob vl).toArray∧d.mach∧RdK w u tl∧cQ tl∧pol.length=16∧okI now∧blob.length≤maxLen∧RdE eH w vl l∧∀s∈l,s.mach:=by
 obtain⟨cs,rfl,fuel,hf⟩:=mK nz hval hd;obtain⟨d,nx,u,tl,pol,now,blob,vl,l,hcs,h1⟩:=V9 hf;exact⟨d,nx,u,tl,pol,now,blob,vl,l,by rw[oN hcs],h1⟩
end
end
section
open Go.RowKit
def rn:Except Int PS→Int
 | .ok s=>s.nx
 | .error _=>0
def ri:Except Int PS→List Int
 | .ok s=>s.ids
 | .error _=>[]
def re:Except Int PS→Int
 | .ok _=>0
 | .error c=>c
open Go.RowKit Go.Shelf
attribute [local irreducible] Calls
theorem E7 (k:K) (now:Int) (w:World):Calls prog 31 #[kv k,.int .i64 now] w fun e w'=>e = .returned (.bool (dW now k))∧Below w.heap.size w w':=by
 unfold kv kc dW;have HB:=O ((O_ w.heap.size w).alloc (A_ _) (.cells #[.int .i64 k.id,.int .i64 k.ty,.string ⟨k.val.toArray⟩,.int .i64 k.uses,.int .i64 k.start,.int .i64 k.fin,.int .i64 k.ver,.int .i64 k.par,.bool k.raw] 86))
 by_cases h1:k.start≤now
 ·by_cases h2:now<k.fin
  ·rw[decide_eq_true h1,decide_eq_true h2]
   go_enter func31,ntmps31
   go_wp2;go_ret;exact⟨rfl,HB.out⟩
  ·rw[decide_eq_true h1,V_ h2]
   go_enter func31,ntmps31
   go_wp2;go_ret;exact⟨rfl,HB.out⟩
 ·rw[V_ h1]
  have h1':now<k.start:=by omega
  go_enter func31,ntmps31
  go_wp2;go_ret;exact⟨rfl,HB.out⟩
attribute [local irreducible] dW
end
section
open Go.RowKit Go.Shelf
theorem RH (dk blob:List UInt8):blT dk blob=gU (aJ dk bkL) (blH blob) (rdR aL blob 0):=rfl
theorem RG (dk blob:List UInt8):blO dk blob=eG (aJ dk bkL) (blH blob) (rdR aL blob 0):=rfl
theorem Zb {dk blob:List UInt8} (h32:dk.length=32) (h:blE blob≠0):opE dk blob=blE blob:=by unfold opE;rw[G_ h32,H_ h]
theorem Zc {dk blob:List UInt8} (h32:dk.length=32) (h:blE blob=0) (h2:blO dk blob≠0):opE dk blob=blO dk blob:=by unfold opE;rw[G_ h32,G_ h,H_ h2]
theorem Zd {dk blob:List UInt8} (h32:dk.length=32) (h:blE blob=0) (h2:blO dk blob=0) (h3:ctE (blT dk blob)≠0):opE dk blob=ctE (blT dk blob):=by unfold opE;rw[G_ h32,G_ h,G_ h2,H_ (fun hq=>h3 hq.1)]
theorem Ze {dk blob:List UInt8} (h32:dk.length=32) (h:blE blob=0) (h2:blO dk blob=0) (h3:ctE (blT dk blob)=0) (h4:aI (blB blob) (ctK (blT dk blob))=false):opE dk blob=6:=by unfold opE;rw[G_ h32,G_ h,G_ h2,G_ ⟨h3,h4⟩]
theorem Zf {dk blob:List UInt8} (h32:dk.length=32) (h:blE blob=0) (h2:blO dk blob=0) (h3:ctE (blT dk blob)=0) (h4:aI (blB blob) (ctK (blT dk blob))=true):opE dk blob=0∧opB dk blob=blB blob∧opK dk blob=ctK (blT dk blob):=by
 have e:opE dk blob=0:=by unfold opE;rw[G_ h32,G_ h,G_ h2,H_ (fun hq=>by rw[h4] at hq;cases hq.2),h3]
 refine⟨e,?_,?_⟩
 ·unfold opB;rw[G_ e]
 ·unfold opK;rw[G_ e]
theorem RdK.formK {w:World} {v:Value} {l:List K} (h:RdK w v l):∃a c,v = .slice a l.length c:=by
 obtain⟨a,c,rfl,_⟩:=h;exact⟨a,c,rfl⟩
theorem Ot:(prog.info? 86).map (·.size)=some 9:=by kernel_rfl
theorem Oa (km:K):Instr.fill (fun i=>some (i*9,9)) ((Array.range (1*9)).map ((Value.agg (kc zK)).cells[· % (Value.agg (kc zK)).cells.size]!)) [(0,Value.agg (kc km))]=some (kc km):=by kernel_rfl
theorem CG (km:K) (hg:o.guard=none) (x:Operand) (ho:o.op = .buildSlice 43 1 #[(0,x)]) (hx:a.eval x = .agg (kc km))
  (h:wpList prog ops Q rest (a.put o.dst (.slice (some ⟨w.heap.size,0,none⟩) 1 1)) (w.alloc (.cells (kc km) 86))):wpList prog ops Q (o::rest) a w:=by
 have hz:=yu;have hs:=Ot
 cases hi:prog.info? 86 with
 | none=>rw[hi] at hs;cases hs
 | some i =>
   rw[hi] at hs hz;simp only[Option.map_some,Option.some.injEq] at hs hz;refine wpList_buildSlice hg _ 86 1 _ ho (kc km) i (.agg (kc zK)) underlying43 hi hz (by rw[hs];decide) (by rw[hs];decide) ?_ h
   have hp:((#[(0,x)]:Array (Nat × Operand)).map fun (i,x)=>(i,a.eval x)).toList=[(0,Value.agg (kc km))]:=by simp[hx]
   rw[hp,hs];exact Oa km
structure tY (WL:World) (g6:Nat) (b:BK) (vk:Value) (ks:List K) (x:World):Prop where
 row:x.heap[g6]?=some (.cells (bc b vk) 47 (0,0))
 own:b7 x WL.heap.size vk ks
 grown:WL.grownBy x (some g6)
 lt:g6<WL.heap.size
theorem tY.on {WL:World} {g6:Nat} {b:BK} {vk:Value} {ks:List K} {x y:World} (h:tY WL g6 b vk ks x) (hb:Below x.heap.size x y):tY WL g6 b vk ks y :=
 ⟨by rw[hb.block _ (Q_.1 h.row).1];exact h.row,h.own.keep hb (A_ _),dT h.grown hb,h.lt⟩
theorem tY.app {WL:World} {g6:Nat} {b:BK} {vk vk':Value} {ks ks':List K} {x y:World} (h:tY WL g6 b vk ks x) (hb:Below WL.heap.size x y) (ho:b7 y WL.heap.size vk' ks'):tY WL g6 b vk' ks' (y.setRow g6 (bc b vk')):=by
 have aO:y.heap[g6]?=some (.cells (bc b vk) 47 (0,0)):=by rw[hb.block _ h.lt];exact h.row
 have hg:WL.grownBy y (some g6):=⟨hb.os.trans h.grown.os,hb.tape.trans h.grown.tape,hb.output.trans h.grown.output,M_ h.grown.size hb.size,fun k hk hne=>(hb.block k hk).trans (h.grown.block k hk hne)⟩;refine⟨setRow_heap _ _ _ _ _ _ aO,?_,bg hg (aD _ _ _),h.lt⟩;exact ho.grown (aD _ _ _) (fun g2 hg2=>by cases hg2;exact ho.neOld h.lt)
theorem tY.bel {w WL:World} {g6:Nat} {b:BK} {vk:Value} {ks:List K} {x:World} (h:tY WL g6 b vk ks x) (hw:Below w.heap.size w WL) (hg:w.heap.size≤g6):Below w.heap.size w x :=
 hw.trans (iV h.grown hg h.lt)
theorem tY.keep {WL:World} {g6:Nat} {b:BK} {vk:Value} {ks:List K} {x:World} (h:tY WL g6 b vk ks x) {g:Nat} {o:Obj} (hg:WL.heap[g]?=some o) (hne:g≠g6):x.heap[g]?=some o:=by
 rw[h.grown.block g (Q_.1 hg).1 (fun e=>hne (Option.some.inj e))];exact hg
attribute [local irreducible] Calls am aL aE blE blB pkB opE opB opK ctE ctK blT blO aI mac aV aJ gU eG kc
theorem KO (dk blob:List UInt8) (w:World) (hk:cA w) (hl:blob.length≤100000) :
  Calls prog 48 #[.string ⟨dk.toArray⟩,.string ⟨blob.toArray⟩] w fun e w'=>∃a c,e = .returned (.tuple #[.agg (bc (opB dk blob) (.slice a (opK dk blob).length c)),.int .i64 (opE dk blob)])∧RdK w' (.slice a (opK dk blob).length c) (opK dk blob)∧Below w.heap.size w w':=by
 have hz:=fh;have hzk:=rp;have HL:=O hl;obtain⟨W0,hW0⟩:∃W0,W0=w.alloc (.cells (bc zB (.slice none 0 0)) 47):=⟨_,rfl⟩;have HW:=O hW0
 have HRES:Hid (∀u,Below W0.heap.size W0 u→u.heap[w.heap.size]?=some (.cells (bc zB ah) 47 (0,0))∧Below w.heap.size w u∧cA u):=O (by
  intro u h;rw[hW0] at h;have h2:=cJ _ _ h
  exact⟨by rw[h.block _ (by simp)];exact al _ _ _ rfl,h2,hk.on h2⟩)
 have HSZ:Hid (w.heap.size<W0.heap.size):=O (by rw[hW0];simp);have HNO:=O (fun (h:opE dk blob≠0)=>KN dk blob h);have HB00:=O (O_ W0.heap.size W0);clear hW0 hk
 by_cases h32:dk.length=32
 case neg =>
  have HE:Hid (opE dk blob=1):=O (by unfold opE;rw[H_ h32])
  have i1:((dk.length:Int) != 32)=true:=by rw[bne_iff_ne];omega
  clear h32 hl
  go_enter func48,ntmps48
  go_upto_region 1 with fail
  rw[←HW.out]
  go_wp2_with (first
   |(refine jJ rfl rfl ?_)
   |(refine aM (T:=47) (bc zB ah) (dM zB) rfl (.tmp 4) (.tmp 23) rfl w.heap.size (bc zB ah) rfl rfl (ey zB) rfl (HRES.out _ HB00.out).1 ?_;intro we hge hoe hbe))
  refine g_ (aA rfl _ _ w.heap.size _ rfl (aX _ _ zB ah _ hge)) rfl ?_;obtain⟨z1,z2⟩:=HNO.out (by rw[HE.out];first |decide|assumption);exact⟨none,0,by rw[z1,z2,HE.out];rfl,by rw[z2];exact gF _,(HRES.out _ HB00.out).2.1.trans (hbe _ (A_ _))⟩
 have i1:((dk.length:Int) != 32)=false:=by rw[h32];rfl
 have HPK:=O (fun (y:World)=>K5 blob y (by omega))
 by_cases hbl:blE blob=0
 case neg =>
  have HE:=O (Zb h32 hbl)
  have i2:(blE blob != 0)=true:=by rw[bne_iff_ne];exact hbl
  have HBL:=O hbl;generalize pkB blob=pk at HPK;clear h32 hl hbl
  go_enter func48,ntmps48
  go_upto_region 1 with fail
  rw[←HW.out]
  go_upto_region 4 with (first
   |(go_at_call 46;refine(HPK.out _).mono ?_;rintro e w1 ⟨rfl,hb1⟩;have HB1:=O hb1;clear hb1)
   |(refine aH (bc pk ah) 47 rfl (.tmp 6) (.tmp 27) rfl _ rfl rfl rfl (by rw[aC];exact dU) (by rw[aC,aC]) (ey _) ?_))
  have HX6:Hid ((w1.alloc (.cells (bc pk ah) 47)).heap[w1.heap.size]?=some (.cells (bc pk ah) 47 (0,0))):=O (heap_alloc_new _ _);have HB2:Hid (Below W0.heap.size W0 (w1.alloc (.cells (bc pk ah) 47))):=O (HB1.out.alloc HB1.out.size _);have HL6:Hid (W0.heap.size≤w1.heap.size):=O HB1.out.size;generalize hw2:w1.alloc (.cells (bc pk ah) 47)=W2 at HX6 HB2 ⊢;generalize hg6:w1.heap.size=g6 at HX6 HL6 ⊢;clear hw2 hg6
  go_wp2_with (first
   |(refine jJ rfl rfl ?_)
   |(refine aM (T:=47) (bc zB ah) (dM zB) rfl (.tmp 4) (.tmp 31) rfl w.heap.size (bc zB ah) rfl rfl (ey zB) rfl (HRES.out _ HB2.out).1 ?_;intro we hge hoe hbe))
  refine g_ (aA rfl _ _ w.heap.size _ rfl (aX _ _ zB ah _ hge)) rfl ?_;obtain⟨z1,z2⟩:=HNO.out (by rw[HE.out];exact HBL.out);exact⟨none,0,by rw[z1,z2,HE.out];rfl,by rw[z2];exact gF _,(HRES.out _ HB2.out).2.1.trans (hbe _ (A_ _))⟩
 have hd0:(aL blob).2.2=0:=by
  refine Decidable.of_not_not (fun hq => ?_);have := IM hq;rw[hbl] at this;exact hq this.symm
 obtain⟨_,_,hH,hR⟩:=Eg hd0;have hu:=(hI.used blob hd0).1
 have hhl:(aL blob).1.length≤blob.length:=by have := jT blob 0;rw[kC hd0] at this;exact this
 have HGB:=O (fun (v:Value) (y:World) (hv:RdE eB y v blob)=>kr v blob y hv);have hT:=RH dk blob;have hO:=RG dk blob;rw[hH,hR] at hT hO
 have hdd:aL blob=((aL blob).1,(aL blob).2.1,(0:Int)):=by rw[←hd0]
 rw[hdd] at HGB;clear hdd hH hR;generalize (aL blob).1=h at HGB hT hO hhl;generalize (aL blob).2.1=n at HGB hT hO hu;obtain⟨rr,hrr⟩:∃rr,rr=blob.drop n:=⟨_,rfl⟩;rw[←hrr] at hT hO;have HRR:=O hrr;have HHL:=O hhl;have HU:=O hu;have HRL:Hid (rr.length≤blob.length):=O (by rw[hrr,S_];omega);have HTL:Hid ((gU (aJ dk bkL) h rr).length≤rr.length):=O (xT _ _ _);have HDL:=O (cE dk bkL);have HDR:=O (fun (y:World) (a:cA y)=>uI dk bkL y a (by omega) (by decide));have HOP:=O (fun (y:World) (a:cA y)=>O2 (aJ dk bkL) h rr y a (fun _ => .inl ⟨by omega,by have := HRL.out;omega⟩));generalize aJ dk bkL=dp at HDR HOP HTL hT hO HDL;rw[←hT] at HTL HOP;rw[←hO] at HOP;have HOB:=O (fun (h2:blO dk blob≠0)=>Zc h32 hbl h2);have HOC:=O (fun (h2:blO dk blob=0) (h3:ctE (blT dk blob)≠0)=>Zd h32 hbl h2 h3);have HOD:=O (fun (h2:blO dk blob=0) (h3:ctE (blT dk blob)=0) (h4:aI (blB blob) (ctK (blT dk blob))=false)=>Ze h32 hbl h2 h3 h4);have HOE:=O (fun (h2:blO dk blob=0) (h3:ctE (blT dk blob)=0) (h4:aI (blB blob) (ctK (blT dk blob))=true)=>Zf h32 hbl h2 h3 h4)
 have hpk:pkB blob=blB blob:=by unfold pkB;rw[G_ hbl]
 rw[hbl,hpk] at HPK;generalize blB blob=pk at HPK HOD HOE;generalize blT dk blob=T at HOP HTL HOC HOD HOE;generalize blO dk blob=f at HOP HOB HOC HOD HOE;have HBK:Hid (bkL=[98,97,99,107,117,112]):=O rfl
 have hbi:(blob.length:Int)≤100000:=by omega
 clear hl h32 hbl hd0 hpk hT hO hrr hhl hu
 go_enter func48,ntmps48
 go_upto_region 1 with fail
 rw[←HW.out]
 go_upto_region 4 with (first
  |(go_at_call 46;refine(HPK.out _).mono ?_;rintro e w1 ⟨rfl,hb1⟩;have HB1:=O hb1;clear hb1)
  |(refine aH (bc pk ah) 47 rfl (.tmp 6) (.tmp 27) rfl _ rfl rfl rfl (by rw[aC];exact dU) (by rw[aC,aC]) (ey _) ?_))
 have HX6:Hid ((w1.alloc (.cells (bc pk ah) 47)).heap[w1.heap.size]?=some (.cells (bc pk ah) 47 (0,0))):=O (heap_alloc_new _ _);have HB2:Hid (Below W0.heap.size W0 (w1.alloc (.cells (bc pk ah) 47))):=O (HB1.out.alloc HB1.out.size _);have HL6:Hid (W0.heap.size≤w1.heap.size):=O HB1.out.size;generalize hw2:w1.alloc (.cells (bc pk ah) 47)=W2 at HX6 HB2 ⊢;generalize hg6:w1.heap.size=g6 at HX6 HL6 ⊢;clear hw2 hg6;have HX:Hid (∀u,Below W2.heap.size W2 u→u.heap[g6]?=some (.cells (bc pk ah) 47 (0,0))∧Below W0.heap.size W0 u):=O (fun u hu=>⟨by rw[hu.block _ (Q_.1 HX6.out).1];exact HX6.out,HB2.out.trans (hu.mono HB2.out.size)⟩);have HG6:=O (Q_.1 HX6.out).1;have hcv:=cw W2 blob;have HSB:=O (bU W2 blob);have HSR:=O (fo W2 blob (by unfold maxLen;have := HL.out;omega));generalize Lib.bytesWorld W2 5 ⟨blob.toArray⟩=ws at hcv HSB HSR
 go_upto_region 7 with (first
  |(go_at_call 93;refine(HGB.out _ _ HSR.out).mono ?_;rintro e w3 ⟨rfl,hb3⟩;have HB3:=O (HSB.out.trans (hb3.mono HSB.out.size));simp only[mH];clear hb3))
 try dsimp only[Act.put]
 refine aY 11 [[],[0],[],[],[],[3,4],[1,2,5],[6],[7],[7],[8]] (SP.of [.eq (.string ⟨dk.toArray⟩),.eq (.string ⟨dp.toArray⟩),.eq (.string ⟨h.toArray⟩),.eq (.string ⟨blob.toArray⟩),.eq (.int .i64 n),.eq (.string ⟨rr.toArray⟩),.eq (.tuple #[.string ⟨T.toArray⟩,.int .i64 f]),.eq (.tuple #[.string ⟨T.toArray⟩,.int .i64 f]),.eq (.string ⟨T.toArray⟩),.eq (.int .i64 f),.eq (.string ⟨T.toArray⟩)]) (fun _=>undef) ?h1 ?h2 ?h3 ?h4 ?h5 ?h6
 case h1=>kernel_rfl
 case h2=>kernel_rfl
 case h3=>kernel_rfl
 case h4 =>
  simp only[F_,c_]
  repeat (first |exact trivial|refine⟨fun vals v=>by kernel_rfl,?_⟩)
 case h5 =>
  simp only[F_,c_];refine⟨?_,?_,?_,?_,?_,?_,?_,?_,?_,?_,?_,trivial⟩
  all_goals (intro wq hbq vals;simp only[Nat.reduceAdd,a_,X_,W_];have HQ:=O (HX.out _ (HB3.out.trans (hbq.mono HB3.out.size)));clear hbq;repeat (first |refine ar ?_|refine aw rfl ?_);intro Q hQ;simp only[ay,upd,Act.put,B_,C_,D_,Nat.reduceAdd,a_,Nat.reduceEqDiff,if_true,if_false,reduceIte])
  case refine_2 =>
   go_wp2_with (go_at_call 70;refine(HDR.out _ (HRES.out _ HQ.out.2).2.2).mono ?_;rintro e x1 ⟨rfl,hx1⟩)
   exact ab hQ _ (by kernel_rfl) hx1 rfl
  case refine_6 =>
   have hs:=jW blob n HU.out;rw[←HRR.out] at hs
   have tk:(blob.drop n).take (blob.length-n)=rr:=by rw[eE,HRR.out]
   have i5:(n:Int)≤blob.length:=by have := HU.out;omega
   have i6:=HU.out;go_wp2;exact ab hQ _ (by kernel_rfl) (O_ _ _) rfl
  case refine_7 =>
   go_wp2_with (go_at_call 98;refine(HOP.out _ (HRES.out _ HQ.out.2).2.2).mono ?_;rintro e x1 ⟨rfl,hx1⟩)
   exact ab hQ _ (by kernel_rfl) hx1 rfl
  all_goals go_wp2
  all_goals exact ab hQ _ (by kernel_rfl) (O_ _ _) rfl
 case h6 =>
  intro wq hbq vals;rw[show List.range 11=[0,1,2,3,4,5,6,7,8,9,10] from by decide]
  repeat (first |refine ar ?_|refine aw rfl ?_)
  simp only[F_,c_,J_,L_];simp only[ay,upd,Act.put,B_,C_,D_,Nat.reduceAdd,a_,Nat.reduceEqDiff,if_true,if_false,reduceIte];have HBQ:=O (HB3.out.trans (hbq.mono HB3.out.size));clear hbq
  by_cases hf:f=0
  case neg =>
   have j1:(f != 0)=true:=by rw[bne_iff_ne];exact hf
   have HE:=O (HOB.out hf);clear HOB HOC HOD HOE;have HF:=O hf;clear hf
   go_wp2_with (first
    |(refine jJ rfl rfl ?_)
    |(refine aM (T:=47) (bc zB ah) (dM zB) rfl (.tmp 4) (.tmp 52) rfl w.heap.size (bc zB ah) rfl rfl (ey zB) rfl (HRES.out _ (HX.out _ HBQ.out).2).1 ?_;intro we hge hoe hbe))
   refine g_ (aA rfl _ _ w.heap.size _ rfl (aX _ _ zB ah _ hge)) rfl ?_;obtain⟨z1,z2⟩:=HNO.out (by rw[HE.out];exact HF.out);exact⟨none,0,by rw[z1,z2,HE.out];rfl,by rw[z2];exact gF _,(HRES.out _ (HX.out _ HBQ.out).2).2.1.trans (hbe _ (A_ _))⟩
  subst hf;have hcv3:=cw wq T;have HSB3:=O (bU wq T);have HSR3:=O (fo wq T (by unfold maxLen;have := HTL.out;have := HRL.out;have := HL.out;omega));generalize Lib.bytesWorld wq 5 ⟨T.toArray⟩=wqs at hcv3 HSB3 HSR3;have HTL2:Hid (T.length≤100000):=O (by have := HTL.out;have := HRL.out;have := HL.out;omega)
  have hti:(T.length:Int)≤100000:=by have := HTL2.out;omega
  have HGS:=O (oK _ T wqs HSR3.out (by have := HTL2.out;omega));have HCE:=O (fun (h:(aE T).2.2≠0)=>Sc h);have HCL:=O (fun (h:(aE T).2.2=0) (h2:¬(aE T).2.1=T.length)=>NY h h2);have HCA:=O (fun (h:(aE T).2.2=0) (h2:(aE T).2.1=T.length)=>Sa h h2);have HSL:Hid ((aE T).2.2=0→(aE T).1.length≤T.length∧∀x∈(aE T).1,x.length≤T.length):=O (fun h0=>⟨by have := BU T 0;rw[kC h0] at this;exact this,fun x hx=>qM T 0 x (by rw[kC h0];exact hx)⟩);generalize aE T=d at HGS HCE HCL HCA HSL;obtain⟨ss,m,er⟩:=d;simp only at HCE HCL HCA HSL;have tok1:True:=trivial
  by_cases he:er=0
  case neg =>
   have j2:(er != 0)=true:=by rw[bne_iff_ne];exact he
   have HE:Hid (opE dk blob=er):=O (by have hc:=HCE.out he;rw[HOC.out rfl (by rw[hc];exact he),hc]);have HF:=O he;clear he HOB HOC HOD HOE HCE HCL HCA HSL
   go_wp2_with (first
    |(clear tok1;go_at_call 99;refine HGS.out.mono ?_;rintro e w5 ⟨v5,rfl,ho5,hb5⟩;obtain⟨a5,c5,rfl⟩:=ho5.rd.form;have HO5:=O ho5;have HB5:=O (HBQ.out.trans ((HSB3.out.trans (hb5.mono HSB3.out.size)).mono HBQ.out.size));clear ho5 hb5)
    |(refine jJ rfl rfl ?_)
    |(refine aM (T:=47) (bc zB ah) (dM zB) rfl (.tmp 4) (.tmp 63) rfl w.heap.size (bc zB ah) rfl rfl (ey zB) rfl (HRES.out _ (HX.out _ HB5.out).2).1 ?_;intro we hge hoe hbe))
   refine g_ (aA rfl _ _ w.heap.size _ rfl (aX _ _ zB ah _ hge)) rfl ?_;obtain⟨z1,z2⟩:=HNO.out (by rw[HE.out];exact HF.out);exact⟨none,0,by rw[z1,z2,HE.out];rfl,by rw[z2];exact gF _,(HRES.out _ (HX.out _ HB5.out).2).2.1.trans (hbe _ (A_ _))⟩
  subst he
  by_cases hm:m=T.length
  case neg =>
   have j2:((m:Int) != (T.length:Int))=true:=by rw[bne_iff_ne];omega
   have HE:Hid (opE dk blob=6):=O (by have hc:=HCL.out rfl hm;rw[HOC.out rfl (by rw[hc];decide),hc]);clear hm HOB HOC HOD HOE HCE HCL HCA HSL
   go_wp2_with (first
    |(clear tok1;go_at_call 99;refine HGS.out.mono ?_;rintro e w5 ⟨v5,rfl,ho5,hb5⟩;obtain⟨a5,c5,rfl⟩:=ho5.rd.form;have HO5:=O ho5;have HB5:=O (HBQ.out.trans ((HSB3.out.trans (hb5.mono HSB3.out.size)).mono HBQ.out.size));clear ho5 hb5)
    |(refine jJ rfl rfl ?_)
    |(refine aM (T:=47) (bc zB ah) (dM zB) rfl (.tmp 4) (.tmp 69) rfl w.heap.size (bc zB ah) rfl rfl (ey zB) rfl (HRES.out _ (HX.out _ HB5.out).2).1 ?_;intro we hge hoe hbe))
   refine g_ (aA rfl _ _ w.heap.size _ rfl (aX _ _ zB ah _ hge)) rfl ?_;obtain⟨z1,z2⟩:=HNO.out (by rw[HE.out];first |decide|assumption);exact⟨none,0,by rw[z1,z2,HE.out];rfl,by rw[z2];exact gF _,(HRES.out _ (HX.out _ HB5.out).2).2.1.trans (hbe _ (A_ _))⟩
  have j2:((m:Int) != (T.length:Int))=false:=by rw[hm];simp
  obtain⟨hc1,hc2⟩:=HCA.out rfl hm;rw[hc1] at HOC;rw[hc1,hc2] at HOD HOE;have HS1:=O (HSL.out rfl)
  have hssi:(ss.length:Int)≤100000:=by have := HS1.out.1;have := HTL2.out;omega
  clear hm hc1 hc2 HCE HCL HCA HSL HOB
  go_wp2_with (first
   |(clear tok1;go_at_call 99;refine HGS.out.mono ?_;rintro e w5 ⟨v5,rfl,ho5,hb5⟩;obtain⟨a5,c5,rfl⟩:=ho5.rd.form;have HO5:=O ho5;have HB5:=O (HBQ.out.trans ((HSB3.out.trans (hb5.mono HSB3.out.size)).mono HBQ.out.size));clear ho5 hb5))
  have HX5:=O (HX.out _ HB5.out);have HR5:Hid (RdE eS w5 (.slice a5 ss.length c5) ss):=O HO5.out.rd;have HNE:Hid ((Value.slice a5 ss.length c5).ownBlock≠some g6):=O (HO5.out.neOld (P_ HG6.out (M_ HBQ.out.size HSB3.out.size)));have HL56:Hid (g6<w5.heap.size):=O (Q_.1 HX5.out.1).1;have HGW:Hid (w.heap.size≤g6):=O (Nat.le_of_lt (P_ HSZ.out HL6.out));have HNW:Hid (w.heap.size≠g6):=O (by have := P_ HSZ.out HL6.out;omega)
  go_loopw [16] (fun o wr=>∃(j:Nat) (vk:Value),j≤ss.length∧o = .int .i64 j∧Hid ((b5 (ss.take j) 0).2=0)∧Hid (tY w5 g6 pk vk (b5 (ss.take j) 0).1 wr)) (fun o _=>ss.length-(intOf o).toNat)
  case atStart=>exact⟨0,ah,N_ _,rfl,O rfl,O ⟨HX5.out.1,b7.nil _ _,iK _ _,HL56.out⟩⟩
  case round =>
   obtain⟨j,vk,hj,rfl,hz0,hor⟩:=hrel;have HRD:=O (HR5.out.other hor.out.grown HNE.out)
   by_cases hlt:j<ss.length
   case pos =>
    have k1:(j:Int)<ss.length:=by omega
    obtain⟨bb,off,hae,hbl,aO⟩:=dQ HRD.out (by omega);subst hae;have cj:=aO j hlt;have hsl:=HS1.out.2 ss[j] (List.getElem_mem hlt);have HFT:=O (oY ss j hlt 0);have HFF:=O (fun h1=>A8 ss j hlt hz0.out h1);rw[hz0.out] at HFT;have HON:=O (Wn ss[j] wr (by have := HTL2.out;omega));have HKL:Hid ((b5 (ss.take j) 0).1.length≤100000):=O (by rw[xr,b_];have := HS1.out.1;have := HTL2.out;omega);generalize ss[j]=s at cj HFT HFF HON hsl;generalize (b5 (ss.take j) 0).1=ks at HFT HKL hor;have HJ:=O hlt;clear aO hlt hz0 hsl
    by_cases hke:dZ s 0=0
    case neg =>
     have k2:(dZ s 0 != 0)=true:=by rw[bne_iff_ne];exact hke
     have HE:Hid (opE dk blob=dZ s 0):=O (by have h1:=HFF.out hke;rw[HOC.out (by first |exact rfl|exact trivial) (by rw[h1];exact hke),h1]);have HF:=O hke;clear hke HOC HOD HOE HFT HFF;have HRW:Hid (∀u,Below wr.heap.size wr u→u.heap[w.heap.size]?=some (.cells (bc zB ah) 47 (0,0))∧Below w.heap.size w u):=O (fun u hu=>by have h1:=hor.out.on hu;exact⟨h1.keep (HRES.out _ HX5.out.2).1 HNW.out,h1.bel (HRES.out _ HX5.out.2).2.1 HGW.out⟩)
     go_wp2_with (first
      |(go_at_call 100;refine HON.out.mono ?_;rintro e w6 ⟨rfl,hb6⟩;have HB6:=O hb6;clear hb6)
      |(refine aH (kc (fV s 0)) 86 rfl (.tmp 17) (.tmp 82) rfl _ rfl rfl rfl (by kernel_rfl) (by kernel_rfl) (jR _) ?_;have HB7:=O (HRW.out _ (HB6.out.alloc HB6.out.size (.cells (kc (fV s 0)) 86))))
      |(refine jJ rfl rfl ?_)
      |(refine aM (T:=47) (bc zB ah) (dM zB) rfl (.tmp 4) (.tmp 86) rfl w.heap.size (bc zB ah) rfl rfl (ey zB) rfl HB7.out.1 ?_;intro we hge hoe hbe))
     refine g_ (aA rfl _ _ w.heap.size _ rfl (aX _ _ zB ah _ hge)) rfl ?_;obtain⟨z1,z2⟩:=HNO.out (by rw[HE.out];exact HF.out);exact⟨none,0,by rw[z1,z2,HE.out];rfl,by rw[z2];exact gF _,HB7.out.2.trans (hbe _ (A_ _))⟩
    rw[hke] at HON HFT;clear hke HFF;obtain⟨ka,kcap,hvk⟩:∃ka kcap,vk = .slice ka ks.length kcap:=hor.out.own.rd.formK;subst hvk;generalize fV s 0=km at HON HFT
    go_upto_region 21 with (first
     |(go_at_call 100;refine HON.out.mono ?_;rintro e w6 ⟨rfl,hb6⟩;have HB6:=O hb6;clear hb6)
     |(refine aH (kc km) 86 rfl (.tmp 17) (.tmp 82) rfl _ rfl rfl rfl (by kernel_rfl) (by kernel_rfl) (jR _) ?_))
    have HA7:=O (HB6.out.alloc HB6.out.size (.cells (kc km) 86));have HK7:Hid ((w6.alloc (.cells (kc km) 86)).heap[w6.heap.size]?=some (.cells (kc km) 86 (0,0))):=O (heap_alloc_new _ _);generalize hw7:w6.alloc (.cells (kc km) 86)=w7 at HA7 HK7 ⊢;generalize hg7:w6.heap.size=g7 at HK7 ⊢;clear hw7 hg7;have HO7:=O (hor.out.on HA7.out)
    have c37:w7.cell? ⟨g6,37,none⟩=some (.slice ka ks.length kcap):=by rw[e_ _ _ _ _ _ _ HO7.out.row];exact iU _ _
    have hsz7:w5.heap.size≤w7.heap.size:=HO7.out.grown.size
    go_wp2_with (first
     |(refine dY km g7 _ HK7.out rfl (.tmp 17) rfl rfl ?_)
     |(refine CG km rfl (.tmp 90) rfl rfl ?_)
     |(at_builtin;refine wO rfl (.tmp 89) (.tmp 91) rfl w5.heap.size _ ks rfl (HO7.out.own.keep ((O_ _ _).alloc (A_ _) _) (A_ _)) _ [km] rfl (Q9 w7 km) (by have := HKL.out;simp only[Z_,List.length_nil];omega) (by rw[World.size_alloc];omega) ?_;intro v8 w8 ho8 hb8;have HB78:Hid (Below w5.heap.size w7 w8):=(O ((((O_ w7.heap.size w7).alloc (A_ _) (.cells (kc km) 86)).mono hsz7).trans hb8));obtain⟨na,nc,hnv⟩:∃na nc,v8 = .slice na (ks.length+1) nc:=(by obtain⟨a,c,e⟩:=ho8.rd.formK;exact⟨a,c,by rw[e,E_];rfl⟩);subst hnv;have HO8:=O ho8;clear ho8;have HR8:Hid (w8.heap[g6]?=some (.cells (bc pk (.slice ka ks.length kcap)) 47 (0,0))):=(O (by rw[HB78.out.block _ HL56.out];exact HO7.out.row));have c37b:w8.cell? ⟨g6,37,none⟩=some (.slice ka ks.length kcap):=(by rw[e_ _ _ _ _ _ _ HR8.out];exact iU _ _);have f37:=frozen_of_row _ _ 37 _ _ HR8.out;clear hb8 c37))
    go_roundw
    case rel=>exact⟨j+1,.slice na (ks.length+1) nc,HJ.out,by go_num,O (by rw[HFT.out]),O (by rw[HFT.out,au _ _ _ _ _ _ _ HR8.out,us];exact HO7.out.app HB78.out HO8.out)⟩
    case measure=>have := HJ.out;simp[intOf];omega
   have he:j=ss.length:=by omega
   have k1:¬(j:Int)<ss.length:=by omega
   subst he;rw[List.take_length] at hz0 hor;rw[hz0.out] at HOD HOE;generalize (b5 ss 0).1=ks at HOD HOE hor;clear hlt hj HOC;obtain⟨ka,kcap,hvk⟩:∃ka kcap,vk = .slice ka ks.length kcap:=hor.out.own.rd.formK;subst hvk;have HVR:=O (rg pk (.slice ka ks.length kcap) ks wr hor.out.own.rd);have HRW:Hid (∀u,Below wr.heap.size wr u→u.heap[w.heap.size]?=some (.cells (bc zB ah) 47 (0,0))∧Below w.heap.size w u∧u.heap[g6]?=some (.cells (bc pk (.slice ka ks.length kcap)) 47 (0,0))∧b7 u w5.heap.size (.slice ka ks.length kcap) ks):=O (fun u hu=>by have h1:=hor.out.on hu;exact⟨h1.keep (HRES.out _ HX5.out.2).1 HNW.out,h1.bel (HRES.out _ HX5.out.2).2.1 HGW.out,h1.row,h1.own⟩);have tok2:True:=trivial
   cases hvv:aI pk ks with
   | false =>
     have HE:=O (HOD.out (by first |exact rfl|exact trivial) (by first |exact rfl|exact trivial) hvv);rw[hvv] at HVR;clear hvv HOD HOE
     go_wp2_with (first
      |(clear tok2;refine cH pk _ rfl (.tmp 6) rfl g6 rfl _ hor.out.row ?_)
      |(go_at_call 80;refine HVR.out.mono ?_;rintro e w6 ⟨rfl,hb6⟩;have HB6:=O (HRW.out _ hb6);clear hb6)
      |(refine jJ rfl rfl ?_)
      |(refine aM (T:=47) (bc zB ah) (dM zB) rfl (.tmp 4) (.tmp 98) rfl w.heap.size (bc zB ah) rfl rfl (ey zB) rfl HB6.out.1 ?_;intro we hge hoe hbe))
     refine g_ (aA rfl _ _ w.heap.size _ rfl (aX _ _ zB ah _ hge)) rfl ?_;obtain⟨z1,z2⟩:=HNO.out (by rw[HE.out];first |decide|assumption);exact⟨none,0,by rw[z1,z2,HE.out];rfl,by rw[z2];exact gF _,HB6.out.2.1.trans (hbe _ (A_ _))⟩
   | true =>
     obtain⟨e1,e2,e3⟩:=HOE.out (by first |exact rfl|exact trivial) (by first |exact rfl|exact trivial) hvv;have HE:=O e1;have HE2:=O e2;have HE3:=O e3;rw[hvv] at HVR;clear hvv HOD HOE e1 e2 e3
     go_wp2_with (first
      |(clear tok2;refine cH pk _ rfl (.tmp 6) rfl g6 rfl _ hor.out.row ?_)
      |(go_at_call 80;refine HVR.out.mono ?_;rintro e w6 ⟨rfl,hb6⟩;have HB6:=O (HRW.out _ hb6);clear hb6)
      |(refine cH pk _ rfl (.tmp 6) rfl g6 rfl _ HB6.out.2.2.1 ?_)
      |(refine aM (T:=47) (bc pk (.slice ka ks.length kcap)) (by rw[aC];exact dU) rfl (.tmp 4) (.tmp 99) rfl w.heap.size (bc zB ah) rfl rfl (dl _ _ _ _) (by rw[aC,aC]) HB6.out.1 ?_;intro we hge hoe hbe))
     refine g_ (aA rfl _ _ w.heap.size _ rfl (aX _ _ pk _ _ hge)) rfl ?_;have hgr:w6.grownBy we (some w.heap.size):=⟨(hbe 0 (N_ _)).os,(hbe 0 (N_ _)).tape,(hbe 0 (N_ _)).output,(hbe 0 (N_ _)).size,fun k _ hne=>hoe k (fun e=>hne (by rw[e]))⟩;exact⟨ka,kcap,by rw[HE.out,HE2.out,HE3.out];rfl,by rw[HE3.out];exact(HB6.out.2.2.2.grown hgr (fun g hg=>by cases hg;exact HB6.out.2.2.2.neOld (by have := HL56.out;have := HGW.out;omega))).rd,HB6.out.2.1.trans (hbe _ (A_ _))⟩
end
section
open Go.RowKit Go.Shelf
theorem GK (l:List K) (k:K) (i:Nat) (hi:i<l.length):bI (l.take (i+1)) k=(bI (l.take i) k || ip k (ae l i)):=by
 unfold bI;rw[List.take_succ_eq_append_getElem hi,List.any_append,az l i hi]
 simp
attribute [local irreducible] Calls
theorem So (nx:Int) (v:Value) (l:List K) (k:K) (w:World) (hv:RdK w v l) :
  Calls prog 62 #[.agg (tbA nx v),.agg (kc k)] w fun e w'=>e = .returned (.bool (bI l k))∧Below w.heap.size w w':=by
 have hlen:=hv.len;unfold maxLen at hlen;obtain⟨W0,hW0⟩:∃W0,W0=(w.alloc (.cells (tbA nx v) 45)).alloc (.cells (kc k) 86):=⟨_,rfl⟩;have HW:=O hW0
 have hb0:Below w.heap.size w W0:=by rw[hW0];exact dm w _ _ (O_ _ _)
 have HX:Hid (∀y,Below W0.heap.size W0 y→y.cell? ⟨w.heap.size,1,none⟩=some v∧y.cell? ⟨w.heap.size+1,1,none⟩=some (.int .i64 k.ty)∧y.cell? ⟨w.heap.size+1,2,none⟩=some (.string ⟨k.val.toArray⟩)∧Below w.heap.size w y∧RdK y v l):=O (fun y hy=>by
  have h2:=hb0.trans (hy.mono hb0.size);rw[hW0] at hy
  exact⟨(e_ _ _ _ _ _ _ (aa (eP _ _ _) hy)).trans rfl,(e_ _ _ _ _ _ _ (aa (eR _ _ _) hy)).trans rfl,(e_ _ _ _ _ _ _ (aa (eR _ _ _) hy)).trans rfl,h2,hv.on h2⟩)
 obtain⟨va,vc,rfl,_,_,_⟩:=id hv;clear hW0 hb0 hv
 go_enter func62,ntmps62
 go_upto_region 1 with fail
 rw[←HW.out]
 try dsimp only[Act.put]
 go_wp2
 go_loopw [5] (fun o wr=>∃i:Nat,i≤l.length∧o = .int .i64 i∧Hid (bI (l.take i) k=false)∧Hid (Below W0.heap.size W0 wr)) (fun o _=>l.length-(intOf o).toNat)
 case atStart=>exact⟨0,N_ _,rfl,O (by simp[bI]),O (O_ _ _)⟩
 case round =>
  obtain⟨i,hi,rfl,hno,hb⟩:=hrel;obtain⟨t1,k1,k2,hbw,hrd⟩:=HX.out wr hb.out;have HBW:=O hbw;clear hbw
  by_cases hlt:i<l.length
  ·obtain⟨b,off,rfl,hbl,aO⟩:=hrd.cells (by omega)
   obtain⟨_,d1,d2,_,_,_,_,_,_⟩:=aO i hlt
   have i1:(i:Int)<l.length:=by omega
   have HK:=O hlt;have HN:=O (GK l k i hlt)
   have HPRE:Hid (bI (l.take (i+1)) k=true→bI l k=true):=O (fun h=>by
    unfold bI at h ⊢;rw[List.any_eq_true] at h ⊢;obtain⟨x,hx,hs⟩:=h
    exact⟨x,List.mem_of_mem_take hx,hs⟩)
   generalize ae l i=x at d1 d2 HN;have HC:Hid (wr.cell? ⟨b,off+i*9+1,none⟩=some (.int .i64 x.ty)∧wr.cell? ⟨b,off+i*9+2,none⟩=some (.string ⟨x.val.toArray⟩)∧wr.cell? ⟨w.heap.size,1,none⟩=some (.slice (some ⟨b,off,none⟩) l.length vc)∧wr.cell? ⟨w.heap.size+1,1,none⟩=some (.int .i64 k.ty)∧wr.cell? ⟨w.heap.size+1,2,none⟩=some (.string ⟨k.val.toArray⟩)):=O ⟨d1,d2,t1,k1,k2⟩;clear aO hlt hrd d1 d2 k1 k2
   have HALL:Hid (∀u:dj wr,u.now.cell? ⟨b,off+i*9+1,none⟩=some (.int .i64 x.ty)∧u.now.cell? ⟨b,off+i*9+2,none⟩=some (.string ⟨x.val.toArray⟩)∧u.now.cell? ⟨w.heap.size,1,none⟩=some (.slice (some ⟨b,off,none⟩) l.length vc)∧u.now.cell? ⟨w.heap.size+1,1,none⟩=some (.int .i64 k.ty)∧u.now.cell? ⟨w.heap.size+1,2,none⟩=some (.string ⟨k.val.toArray⟩)):=O (fun u =>
    ⟨by rw[u.cell _ _ hbl];exact HC.out.1,by rw[u.cell _ _ hbl];exact HC.out.2.1,by rw[u.cell _ _ (World.block_lt_of_cell? _ _ HC.out.2.2.1)];exact HC.out.2.2.1,by rw[u.cell _ _ (World.block_lt_of_cell? _ _ HC.out.2.2.2.1)];exact HC.out.2.2.2.1,by rw[u.cell _ _ (World.block_lt_of_cell? _ _ HC.out.2.2.2.2)];exact HC.out.2.2.2.2⟩)
   have a1:∀u:dj wr,u.now.cell? ⟨b,off+i*9+1,none⟩=some (.int .i64 x.ty):=fun u=>(HALL.out u).1;have a2:∀u:dj wr,u.now.cell? ⟨b,off+i*9+2,none⟩=some (.string ⟨x.val.toArray⟩):=fun u=>(HALL.out u).2.1;have a3:∀u:dj wr,u.now.cell? ⟨w.heap.size,1,none⟩=some (.slice (some ⟨b,off,none⟩) l.length vc):=fun u=>(HALL.out u).2.2.1;have a4:∀u:dj wr,u.now.cell? ⟨w.heap.size+1,1,none⟩=some (.int .i64 k.ty):=fun u=>(HALL.out u).2.2.2.1;have a5:∀u:dj wr,u.now.cell? ⟨w.heap.size+1,2,none⟩=some (.string ⟨k.val.toArray⟩):=fun u=>(HALL.out u).2.2.2.2;clear HC hbl
   rcases (by unfold ip;by_cases h1:x.ty=k.ty <;> by_cases h2:x.val=k.val <;> simp[h1,h2]:(x.ty≠k.ty∧ip k x=false)∨(x.ty=k.ty∧x.val≠k.val∧ip k x=false)∨(x.ty=k.ty∧x.val=k.val∧ip k x=true)) with⟨h1,hs⟩|⟨h1,h2,hs⟩|⟨h1,h2,hs⟩
   ·have e1:(x.ty == k.ty)=false:=by rw[U_];exact h1
    have HR:Hid (bI (l.take (i+1)) k=false):=O (by rw[HN.out,hno.out,hs];rfl);clear h1 hs HN HPRE hno;go_wp2;refine Nm (by kernel_rfl) (by kernel_rfl) ?_
    repeat (go_big_quiet_step (fail))
    refine h_ ?_;rintro _ ⟨u,rfl⟩;go_wp2;go_roundw
    case rel=>exact⟨i+1,HK.out,by go_num,HR,O (hb.out.trans (u.below.mono hb.out.size))⟩
    case measure=>have := HK.out;simp[intOf];omega
   ·have e1:(x.ty == k.ty)=true:=by rw[beq_iff_eq];exact h1
    have e2:(x.val == k.val)=false:=by rw[U_];exact h2
    have HR:Hid (bI (l.take (i+1)) k=false):=O (by rw[HN.out,hno.out,hs];rfl);clear h1 h2 hs HN HPRE hno;go_wp2;refine Nm (by kernel_rfl) (by kernel_rfl) ?_
    repeat (go_big_quiet_step (fail))
    refine h_ ?_;rintro _ ⟨u,rfl⟩;go_wp2;go_roundw
    case rel=>exact⟨i+1,HK.out,by go_num,HR,O (hb.out.trans (u.below.mono hb.out.size))⟩
    case measure=>have := HK.out;simp[intOf];omega
   ·have e1:(x.ty == k.ty)=true:=by rw[beq_iff_eq];exact h1
    have e2:(x.val == k.val)=true:=by rw[beq_iff_eq];exact h2
    have HR:Hid (bI l k=true):=O (HPRE.out (by rw[HN.out,hs];simp));clear h1 h2 hs HN HPRE hno;go_wp2;refine Nm (by kernel_rfl) (by kernel_rfl) ?_
    repeat (go_big_quiet_step (fail))
    refine h_ ?_;rintro _ ⟨u,rfl⟩;go_wp2;go_ret;exact⟨by rw[HR.out];rfl,HBW.out.trans (u.below.mono HBW.out.size)⟩
  ·have i1:(l.length:Int)≤i:=by omega
   have HR:Hid (bI l k=false):=O (by have := hno.out;rwa [Y_ (by omega)] at this);clear hno;go_wp2;go_ret;exact⟨by rw[HR.out];rfl,HBW.out⟩
end
section
open Go.RowKit
variable {P:Program} {ops:Array Oper} {S:World→Prop}
theorem u4 {Q:Exit→Act→World→Prop} (hsel:Region.noSelect ops=true) (hQ:∀c (a:Act) d v w,Q (.panic c) (a.put d v) w→Q (.panic c) a w) (w:World) (hS:S w) (n:Nat) (K:Act→Prop) :
  ∀(l:List Nat) (m:Array Bool) (a:Act),vY ops m l=true→(∀a',K a'→wpAnyH P .any ops Q S n (r8 m l) a' w)→gu P ops S K (cT ops l) a→wpAnyH P .any ops Q S (l.length+n) m a w
 | [], m, a, _, hK, h => by
   rw[List.length_nil,a_];exact hK a h
 | i :: l, m, a, hB, hK, h => by
   unfold vY at hB;rw[T_,T_] at hB;obtain⟨⟨h1,h2⟩,h3⟩:=hB
   have hr:i∈Region.ready .any ops m:=by simpa using h1
   obtain⟨_,o,ho,_⟩:=mem_ready.1 hr;unfold cT at h;rw[List.filterMap_cons,ho] at h;obtain⟨v,hy,hk⟩:=h;rw[Z_,show l.length+1+n=(l.length+n)+1 by omega];exact wpAnyH_take ho hsel h2 h1 (fun c a w=>hQ c a _ _ w) hy hS (u4 hsel hQ w hS n K l _ _ h3 hK hk)
def JZ (ops:Array Oper) (hs:List Nat) (i j:Nat) (ts:List Nat):Bool :=
 Region.noSelect ops && vY ops (Array.replicate ops.size false) hs && (Region.ready .any ops (r8 (Array.replicate ops.size false) hs) == [i,j]) &&
 ni ops ((r8 (Array.replicate ops.size false) hs).setIfInBounds i true) (j::ts) && ni ops ((r8 (Array.replicate ops.size false) hs).setIfInBounds j true) (i::ts) && (hs.length+(ts.length+2) == ops.size)
theorem xC {Q:Exit→Act→World→Prop} {m:Array Bool} {i:Nat} {r:List Nat} {a:Act} {w:World} (hm:i∈Region.ready .any ops m) (hB:ni ops (m.setIfInBounds i true) r=true) (h:ei P ops S Q (cT ops (i::r)) a w) :
  wpOp P ops Q i (fun a' w'=>S w'∧wpAnyH P .any ops Q S r.length (m.setIfInBounds i true) a' w') a w:=by
 obtain⟨_,o,ho,_⟩:=mem_ready.1 hm;unfold cT at h;rw[List.filterMap_cons,ho] at h;exact iw ho (h _ (O (fun a' w' hS hT=>⟨hS,lO r _ a' w' hB hT⟩)))
theorem zu {id:Nat} {Q:Exit→Act→World→Prop} {a:Act} {w:World} {l:List Oper} (S:World→Prop) (hs:List Nat) (i j:Nat) (ts:List Nat) (hQ:∀c (a:Act) d v w,Q (.panic c) (a.put d v) w→Q (.panic c) a w) (hm:P.follows .mixedOrders=true) (hB:JZ l.toArray hs i j ts=true) (hS:S w.drew)
  (h:gu P l.toArray S (fun a'=>ei P l.toArray S Q (cT l.toArray (i::j::ts)) a' w.drew∧ei P l.toArray S Q (cT l.toArray (j::i::ts)) a' w.drew) (cT l.toArray hs) a):(Code.region id l.toArray true).wp P Q a w:=by
 refine wp_region_held (S:=S) hm ?_;simp only[JZ,T_,beq_iff_eq] at hB;obtain⟨⟨⟨⟨⟨h1,h2⟩,h3⟩,h4⟩,h5⟩,h6⟩:=hB
 have := u4 h1 hQ w.drew hS (ts.length+2) _ hs _ a h2 (fun a' hK=>by
  refine wpAnyH_all h3 (by simp) (fun q hq => ?_)
  rcases List.mem_cons.1 hq with rfl|hq
  ·exact xC (by rw[h3];simp) h4 hK.1
  ·obtain rfl:q=j:=by simpa using hq
   exact xC (by rw[h3];simp) h5 hK.2) h
 rw[h6] at this;exact this
end
section
open Go.RowKit
theorem SA (k:K) (n:Int):(kc k).setIfInBounds 7 (.int .i64 n)=kc (aU k n):=rfl
theorem Hk (y:World) (g i:Nat) (k k':K) (x:Int) (T:TypeId) (hg:y.heap[g]?=some (.cells (kc k) T (0,0))) (hi:i<9) (he:(kc k).setIfInBounds i (.int .i64 x)=kc k'):(storeVar 3 ⟨g,i,none⟩ (.int .i64 x)).run prog y = .ok () (y.setRow g (kc k')):=by
 have hs:(kc k).size=9:=rfl;rw[vJ y ⟨g,i,none⟩ x ((kc k)[i]'(by rw[hs];exact hi)) (by rw[e_ _ _ _ _ _ _ hg];simp[hs,hi]) (frozen_of_row _ _ i _ _ hg),au _ _ _ _ _ _ _ hg,he]
theorem mh (b:BinOp) (T T':TypeId) (x y:Operand) (v1 v2 v:Value) (ho:o.op = .binOp b T x y T') (hgd:Region.wanted o (yielded ops a.tmps)=true) (hx:a.eval x=v1) (hy:a.eval y=v2) (hg:∀w,(eqGuard b T x y v1 v2).run prog w = .ok () w) (hr:∀w,(binOp b T v1 v2).run prog w = .ok v w)
  (h:wpList prog ops Q rest (a.put o.dst v) w):wpList prog ops Q (o::rest) a w :=
 wpList_step fun K hK=>by
  rw[G_ hgd];unfold Oper.wp execOp;simp only[ho,hx,hy,hg,hr,Sem.run_bind,Sem.run_pure,Result.andThen_ok];exact hK _ _ h
theorem xi (m n:Tmp) (x y:Array Value) (w:World):(eqGuard .eql 23 (.tmp m) (.tmp n) (.agg x) (.agg y)).run prog w = .ok () w:=by kernel_rfl
theorem QY (m n:Tmp) (x y:Array Value) (w:World):(eqGuard .neq 23 (.tmp m) (.tmp n) (.agg x) (.agg y)).run prog w = .ok () w:=by kernel_rfl
structure bS (J:World→Prop):Prop where
 on:∀y y':World,J y→Below y.heap.size y y'→J y'
theorem bS.and {J L:World→Prop} (h:bS J) (k:bS L):bS fun y=>J y∧L y:=⟨fun y y' hj hb=>⟨h.on y y' hj.1 hb,k.on y y' hj.2 hb⟩⟩
theorem bS.row (g:Nat) (cs:Array Value) (T:TypeId):bS fun y=>y.heap[g]?=some (.cells cs T (0,0)):=⟨fun _ _ h hb=>aa h hb⟩
theorem bS.rdK (v:Value) (l:List K):bS fun y=>RdK y v l:=⟨fun _ _ h hb=>h.on hb⟩
theorem bS.rdE {α:Type} (E:El α) (v:Value) (l:List α):bS fun y=>RdE E y v l:=⟨fun _ _ h hb=>h.on hb⟩
theorem bS.b (w:World):bS fun y=>Below w.heap.size w y:=⟨fun _ _ h hb=>h.trans (hb.mono h.size)⟩
theorem bS.new {J:World→Prop} (hs:bS J) {y:World} (h:J y) (cs:Array Value) (T:TypeId):∃g,g=y.heap.size∧(J (y.alloc (.cells cs T))∧(y.alloc (.cells cs T)).heap[g]?=some (.cells cs T (0,0))) :=
 ⟨_,rfl,hs.on y _ h ((O_ y.heap.size y).alloc (A_ _) _),heap_alloc_new _ _⟩
open Go.RowKit
theorem FW:prog.built 47 []=some (bc zB ah):=by kernel_rfl
theorem lD (hgd:Region.wanted o (yielded ops a.tmps)=true) (ho:o.op = .build 47 #[])
  (h:wpList prog ops Q rest (a.put o.dst (.agg (bc zB ah))) w):wpList prog ops Q (o::rest) a w :=
 wpList_step fun K hK=>by
  rw[G_ hgd];have hr:=run_build (P:=prog) w 47 #[] _ FW;unfold Oper.wp execOp;simp only[ho,List.map_toArray,List.map_nil,hr,Sem.run_bind,Sem.run_pure,Result.andThen_ok];exact hK _ _ h
theorem Iz (nx:Int) (v u:Value) (l:List K) (w:World) (hv:RdK w v l) (hu:RdK w u l) :
  Calls prog 26 #[.agg (tbA nx v),.agg (tbA nx u)] w fun e w'=>e = .returned (.bool true)∧Below w.heap.size w w':=by
 have h:=Rh nx nx v u l l w hv hu;rw[show decide (nx=nx∧l=l)=true by simp] at h;exact h
theorem D5 (nx:Int) (v:Value) (l:List K) (w:World) (hv:RdK w v l):Calls prog 17 #[.agg (tbA nx v),.agg (bc zB ah)] w fun e w'=>e = .returned (.bool (oC nx l zB []))∧Below w.heap.size w w' :=
 EG nx v l zB ah [] w hv (RdK.nil w)
end
end
end Go.Proofs.YtmfiaadjdbemnaaGreatDoor
