/- Contracts and lemmas. No condition. -/
import Derived.Test.YtmfiaadjdbemnaaGreatDoorLBack03
import Derived.Test.YtmfiaadjdbemnaaGreatDoorLBack06
import Derived.Test.YtmfiaadjdbemnaaGreatDoorSB32
set_option maxRecDepth 100000
set_option maxHeartbeats 8000000
set_option linter.unusedSimpArgs false
set_option linter.unusedVariables false
namespace Go.Proofs.YtmfiaadjdbemnaaGreatDoor
open Go.Proofs.Tryz
section
variable {ops:Array Oper} {rest:List Oper} {o:Oper} {a:Act} {w:World} {Q:Exit→Act→World→Prop}
section
open Go.RowKit Go.Shelf
def mS (s:List UInt8) (j:Nat):Array Value:=((List.range 16).map (fun i=>if i<j then aq s i else .int .u8 0)).toArray
theorem uN (s:List UInt8):mS s 0=am z16:=by kernel_rfl
theorem uM (s:List UInt8):mS s 16=am (s.take 16):=by
 have h:∀i∈List.range 16,(if i<16 then aq s i else .int .u8 0)=aq (s.take 16) i:=by
  intro i hi;have hi':=List.mem_range.1 hi;rw[G_ hi',uE s i hi']
 unfold mS;rw[List.map_congr_left h]
 rfl
theorem xg (s:List UInt8) (j:Nat) (hj:j<16):(mS s j).setIfInBounds j (.int .u8 (B8 (byteAt s j)))=mS s (j+1):=by
 rcases (by omega:j=0∨j=1∨j=2∨j=3∨j=4∨j=5∨j=6∨j=7∨j=8∨j=9∨j=10∨j=11∨j=12∨j=13∨j=14∨j=15) with rfl|rfl|rfl|rfl|rfl|rfl|rfl|rfl|rfl|rfl|rfl|rfl|rfl|rfl|rfl|rfl <;> rfl
theorem AL (s:List UInt8) (j:Nat) (hj:j<16):(mS s j)[j]?=some (.int .u8 0):=by
 rcases (by omega:j=0∨j=1∨j=2∨j=3∨j=4∨j=5∨j=6∨j=7∨j=8∨j=9∨j=10∨j=11∨j=12∨j=13∨j=14∨j=15) with rfl|rfl|rfl|rfl|rfl|rfl|rfl|rfl|rfl|rfl|rfl|rfl|rfl|rfl|rfl|rfl <;> rfl
attribute [local irreducible] Calls am mS
theorem AH (s:List UInt8) (hs:¬s.length<16) (w:World) :
  Calls prog 95 #[.string ⟨s.toArray⟩] w fun e w'=>e = .returned (.agg (am (s.take 16)))∧Below w.heap.size w w':=by
 have hz:=ja;have HS:Hid (16≤s.length):=O (by omega);have HZ:=O (uN s);have HFU:=O (uM s);clear hs
 go_enter func95,ntmps95
 go_wp2
 go_loopw [4] (fun o wr=>∃j:Nat,j≤16∧o = .int .i64 j∧Hid (wr.heap[w.heap.size+1]?=some (.cells (mS s j) 23 (0,0)))∧Hid (wr.heap[w.heap.size]?=some (.cells (am z16) 23 (0,0)))∧Hid (Below w.heap.size w wr)) (fun o _=>16-(intOf o).toNat)
 case atStart=>exact⟨0,N_ _,rfl,O (by rw[HZ.out];exact al _ _ _ (by simp)),O (by rw[bx _ _ _ (by simp),al _ _ _ rfl]),O (((O_ _ _).alloc (A_ _) _).alloc (by simp) _)⟩
 case round =>
  obtain⟨j,hj,rfl,hg,hr,hb⟩:=hrel
  by_cases hlt:j<16
  ·have j1:(j:Int)<16:=by omega
   have j2:(j:Int)<s.length:=by have := HS.out;omega
   have j3:j<s.length:=by have := HS.out;omega
   have c9:wr.cell? ⟨w.heap.size+1,j,none⟩=some (.int .u8 0):=by rw[e_ _ _ _ _ _ _ hg.out];exact AL s j hlt
   have f9:=frozen_of_row _ _ j _ _ hg.out;have HW4:Hid (wr.setCell ⟨w.heap.size+1,j,none⟩ (.int .u8 (B8 (byteAt s j)))=wr.setRow (w.heap.size+1) (mS s (j+1))):=O (by rw[au _ _ _ _ _ _ _ hg.out,xg s j hlt]);have HJ:=O hlt;clear hlt;go_wp2;go_roundw
   case rel=>exact⟨j+1,HJ.out,by go_num,O (by rw[HW4.out];exact setRow_heap _ _ _ _ _ _ hg.out),O (by rw[HW4.out,aj _ _ _ _ (by omega)];exact hr.out),O (by rw[HW4.out];exact hb.out.trans (aK (by omega)))⟩
   case measure=>have := HJ.out;simp[intOf];omega
  ·have he:j=16:=by omega
   have j1:¬(j:Int)<16:=by omega
   have HG:Hid (wr.heap[w.heap.size+1]?=some (.cells (am (s.take 16)) 23 (0,0))):=O (by rw[←HFU.out,←he];exact hg.out);clear he hlt hj hg
   go_wp2_with (first
    |(refine wpList_load_row rfl 23 (.tmp 3) rfl (w.heap.size+1) rfl _ (am (s.take 16)) (0,0) _ HG.out underlying23 rfl (by rw[aF];exact cC) ?_)
    |(refine aM (T:=23) (am (s.take 16)) (by rw[aF];exact cC) rfl (.tmp 2) (.tmp 14) rfl w.heap.size (am z16) rfl rfl (jO _) (by rw[aF,aF]) hr.out ?_;intro we hge hoe hbe))
   refine g_ (results_cell_row rfl _ _ w.heap.size _ (am (s.take 16)) (0,0) _ rfl hge underlying23 rfl (by rw[aF];exact cC)) rfl ?_;exact⟨rfl,hb.out.trans (hbe _ (A_ _))⟩
theorem I1:prog.built 86 []=some (kc zK):=by kernel_rfl
theorem mO (hgd:Region.wanted o (yielded ops a.tmps)=true) (ho:o.op = .build 86 #[])
  (h:wpList prog ops Q rest (a.put o.dst (.agg (kc zK))) w):wpList prog ops Q (o::rest) a w :=
 wpList_step fun K hK=>by
  rw[G_ hgd];have hr:=run_build (P:=prog) w 86 #[] _ I1;unfold Oper.wp execOp;simp only[ho,List.map_toArray,List.map_nil,hr,Sem.run_bind,Sem.run_pure,Result.andThen_ok];exact hK _ _ h
theorem Ox {s:List UInt8} (h:dZ s 0≠0):fV s 0=zK:=by unfold fV;rw[H_ h]
theorem TU {l:List (List UInt8)} (h:l.length=2):∃p0 p1,l=[p0,p1]:=by
 match l,h with
 | [a,b],_=>exact⟨a,b,rfl⟩
theorem AQ {l:List Int} (h:l.length=8):∃m0 m1 m2 m3 m4 m5 m6 m7,l=[m0,m1,m2,m3,m4,m5,m6,m7]:=by
 match l,h with
 | [m0,m1,m2,m3,m4,m5,m6,m7],_=>exact⟨m0,m1,m2,m3,m4,m5,m6,m7,rfl⟩
theorem Oh {l:List Int} (h:l.length=4):∃m0 m1 m2 m3,l=[m0,m1,m2,m3]:=by
 match l,h with
 | [m0,m1,m2,m3],_=>exact⟨m0,m1,m2,m3,rfl⟩
theorem RdE.form {α:Type} {E:El α} {w:World} {v:Value} {l:List α} (h:RdE E w v l):∃a c,v = .slice a l.length c:=by
 obtain⟨a,c,rfl,_⟩:=h;exact⟨a,c,rfl⟩
attribute [local irreducible] kc aE aB dZ fV kN
theorem Wn (s:List UInt8) (w:World) (hl:s.length≤900000) :
  Calls prog 100 #[.string ⟨s.toArray⟩] w fun e w'=>e = .returned (.tuple #[.agg (kc (fV s 0)),.int .i64 (dZ s 0)])∧Below w.heap.size w w':=by
 have hz:=rp;have HL:=O hl;obtain⟨W0,hW0⟩:∃W0,W0=w.alloc (.cells (kc zK) 86):=⟨_,rfl⟩;have HW:=O hW0
 have HRES:Hid (∀u,Below W0.heap.size W0 u→u.heap[w.heap.size]?=some (.cells (kc zK) 86 (0,0))∧Below w.heap.size w u):=O (by
  intro u h;rw[hW0] at h;have h2:=cJ _ _ h
  exact⟨by rw[h.block _ (by simp)];exact al _ _ _ rfl,h2⟩)
 have hcv:=cw W0 s;have HSB:=O (bU W0 s);have HSR:=O (fo W0 s (by unfold maxLen;omega));generalize Lib.bytesWorld W0 5 ⟨s.toArray⟩=ws at hcv HSB HSR;have HP:=O (G3 s);have HKN:=O (fun (h:dZ s 0≠0)=>Ox h);have HG:=O (oK _ s ws HSR.out hl);have HLEN:Hid (∀x∈(aE s).1,(aE s).2.2=0→x.length≤s.length):=O (fun x hx h0=>qM s 0 x (by rw[kC h0];exact hx));generalize aE s=d at HP HG HLEN;obtain⟨l,n,er⟩:=d;simp only at HP HLEN;generalize dZ s 0=ke at HP HKN ⊢;generalize fV s 0=kk at HP HKN ⊢
 have hsl:(s.length:Int)≤900000:=by omega
 clear hl hW0
 rcases HP.out with⟨p1,p2⟩|⟨p1,p2,p3⟩|⟨p1,p2,p3,p4⟩|⟨p1,p2,p3,p4,p5⟩
 ·have h3:(er != 0)=true:=by simpa using p1
  have HKZ:Hid (kk=zK):=O (HKN.out (by rw[p2];exact p1));subst p2;clear p1 HP HKN
  go_enter func100,ntmps100
  go_upto_region 1 with fail
  rw[←HW.out]
  go_wp2_with (first
   |(go_at_call 99;refine HG.out.mono ?_;rintro e w1 ⟨v1,rfl,ho1,hb1⟩;obtain⟨a1,c1,rfl⟩:=ho1.rd.form;have HO1:=O ho1;have HB1:=O (HSB.out.trans (hb1.mono HSB.out.size));clear ho1 hb1)
   |(refine mO rfl rfl ?_)
   |(refine fZ zK zK rfl (.tmp 2) (.tmp 19) rfl w.heap.size rfl rfl _ (HRES.out _ HB1.out).1 ?_))
  refine g_ (aA rfl _ _ w.heap.size _ rfl (cM _ _ zK _ (setRow_heap _ _ _ _ _ _ (HRES.out _ HB1.out).1))) rfl ?_;exact⟨by rw[HKZ.out];rfl,(HRES.out _ HB1.out).2.trans (aK (A_ _))⟩
 ·subst p1
  have h3:((n:Int) != (s.length:Int))=true:=by rw[bne_iff_ne];omega
  have HKZ:Hid (kk=zK):=O (HKN.out (by rw[p3];decide));subst p3;clear p2 HP HKN
  go_enter func100,ntmps100
  go_upto_region 1 with fail
  rw[←HW.out]
  go_wp2_with (first
   |(go_at_call 99;refine HG.out.mono ?_;rintro e w1 ⟨v1,rfl,ho1,hb1⟩;obtain⟨a1,c1,rfl⟩:=ho1.rd.form;have HO1:=O ho1;have HB1:=O (HSB.out.trans (hb1.mono HSB.out.size));clear ho1 hb1)
   |(refine mO rfl rfl ?_)
   |(refine fZ zK zK rfl (.tmp 2) (.tmp 30) rfl w.heap.size rfl rfl _ (HRES.out _ HB1.out).1 ?_))
  refine g_ (aA rfl _ _ w.heap.size _ rfl (cM _ _ zK _ (setRow_heap _ _ _ _ _ _ (HRES.out _ HB1.out).1))) rfl ?_;exact⟨by rw[HKZ.out];rfl,(HRES.out _ HB1.out).2.trans (aK (A_ _))⟩
 ·subst p1
  have h3:((n:Int) != (s.length:Int))=false:=by rw[p2];simp
  have h4:((l.length:Int) != 2)=true:=by rw[bne_iff_ne];omega
  have HKZ:Hid (kk=zK):=O (HKN.out (by rw[p4];decide));subst p4;clear p2 p3 HP HKN
  go_enter func100,ntmps100
  go_upto_region 1 with fail
  rw[←HW.out]
  go_wp2_with (first
   |(go_at_call 99;refine HG.out.mono ?_;rintro e w1 ⟨v1,rfl,ho1,hb1⟩;obtain⟨a1,c1,rfl⟩:=ho1.rd.form;have HO1:=O ho1;have HB1:=O (HSB.out.trans (hb1.mono HSB.out.size));clear ho1 hb1)
   |(refine mO rfl rfl ?_)
   |(refine fZ zK zK rfl (.tmp 2) (.tmp 30) rfl w.heap.size rfl rfl _ (HRES.out _ HB1.out).1 ?_))
  refine g_ (aA rfl _ _ w.heap.size _ rfl (cM _ _ zK _ (setRow_heap _ _ _ _ _ _ (HRES.out _ HB1.out).1))) rfl ?_;exact⟨by rw[HKZ.out];rfl,(HRES.out _ HB1.out).2.trans (aK (A_ _))⟩
 ·subst p1
  have h3:((n:Int) != (s.length:Int))=false:=by rw[p2];simp
  obtain⟨p0,q0,rfl⟩:=TU p3;have hp0:=HLEN.out p0 (by simp) rfl;have HKP:=O (Kg p0);simp only[W_,X_] at p4 p5;have HP5:=O p5;have HP4:=O p4;have HGI:=O (fun (v:Value) (y:World) (h:RdE eB y v p0)=>uY v p0 y h (by have := HL.out;omega));have HPL:=O hp0;generalize kN p0=kn at HKP HP4;generalize hdI:rdV [] aB p0 0=rv at HKP HP5;generalize aB p0=d at HKP HGI;obtain⟨li,n2,e2⟩:=d;simp only at HKP
  have hp0i:(p0.length:Int)≤900000:=by have := HL.out;omega
  clear hdI p2 p3 p4 p5 HP HLEN hp0
  rcases HKP.out with⟨r1,r2⟩|⟨r1,r2,r3⟩|⟨r1,r2,r3,r4⟩|⟨r1,r2,r3,r4,r5⟩|⟨r1,r2,r3,r4,r5,r6⟩
  ·have h5:(e2 != 0)=true:=by simpa using r1
   have HKZ:Hid (kk=zK):=O (HKN.out (by rw[HP4.out,r2];first |exact r1|decide));have HKE:Hid (ke=_):=O (HP4.out.trans r2);clear r1 r2 HKP HP5 HP4 HKN
   go_enter func100,ntmps100
   go_upto_region 1 with fail
   rw[←HW.out]
   go_wp2_with (first
    |(go_at_call 99;refine HG.out.mono ?_;rintro e w1 ⟨v1,rfl,ho1,hb1⟩;obtain⟨a1,c1,rfl⟩:=ho1.rd.form;obtain⟨b1,o1,rfl,hbl,aO⟩:=dQ ho1.rd (by simp);have HQ:Hid (∀u,Below w1.heap.size w1 u→u.cell? ⟨b1,o1,none⟩=some (.string ⟨p0.toArray⟩)∧u.cell? ⟨b1,o1+1,none⟩=some (.string ⟨q0.toArray⟩)):=(O (fun u hu=>⟨by rw[hu.cell (p:=⟨b1,o1,none⟩) hbl];exact aO 0 (by simp),by rw[hu.cell (p:=⟨b1,o1+1,none⟩) hbl];exact aO 1 (by simp)⟩));have x0:=(HQ.out _ (O_ _ _)).1;have HB1:=O (HSB.out.trans (hb1.mono HSB.out.size));have hcv2:=cw w1 p0;have HSB2:=O (bU w1 p0);have HSR2:=O (fo w1 p0 (by unfold maxLen;have := HPL.out;have := HL.out;omega));generalize Lib.bytesWorld w1 5 ⟨p0.toArray⟩=w1s at hcv2 HSB2 HSR2;clear aO ho1 hb1)
    |(go_at_call 94;refine(HGI.out _ _ HSR2.out).mono ?_;rintro e w2 ⟨v2,rfl,ho2,hb2⟩;obtain⟨a2,c2,rfl⟩:=ho2.rd.form;have hB12:=HSB2.out.trans (hb2.mono HSB2.out.size);have HB2:=O (HB1.out.trans (hB12.mono HB1.out.size));obtain⟨z0,z1⟩:=HQ.out _ hB12;have HO2:=O ho2;clear ho2 hb2 x0 hB12)
    |(refine mO rfl rfl ?_)
    |(refine fZ zK zK rfl (.tmp 2) (.tmp 42) rfl w.heap.size rfl rfl _ (HRES.out _ HB2.out).1 ?_))
   refine g_ (aA rfl _ _ w.heap.size _ rfl (cM _ _ zK _ (setRow_heap _ _ _ _ _ _ (HRES.out _ HB2.out).1))) rfl ?_;exact⟨by rw[HKZ.out,HKE.out];rfl,(HRES.out _ HB2.out).2.trans (aK (A_ _))⟩
  ·subst r1
   have h5:((n2:Int) != (p0.length:Int))=true:=by rw[bne_iff_ne];omega
   have HKZ:Hid (kk=zK):=O (HKN.out (by rw[HP4.out,r3];first |exact r1|decide));have HKE:Hid (ke=_):=O (HP4.out.trans r3);clear r2 r3 HKP HP5 HP4 HKN
   go_enter func100,ntmps100
   go_upto_region 1 with fail
   rw[←HW.out]
   go_wp2_with (first
    |(go_at_call 99;refine HG.out.mono ?_;rintro e w1 ⟨v1,rfl,ho1,hb1⟩;obtain⟨a1,c1,rfl⟩:=ho1.rd.form;obtain⟨b1,o1,rfl,hbl,aO⟩:=dQ ho1.rd (by simp);have HQ:Hid (∀u,Below w1.heap.size w1 u→u.cell? ⟨b1,o1,none⟩=some (.string ⟨p0.toArray⟩)∧u.cell? ⟨b1,o1+1,none⟩=some (.string ⟨q0.toArray⟩)):=(O (fun u hu=>⟨by rw[hu.cell (p:=⟨b1,o1,none⟩) hbl];exact aO 0 (by simp),by rw[hu.cell (p:=⟨b1,o1+1,none⟩) hbl];exact aO 1 (by simp)⟩));have x0:=(HQ.out _ (O_ _ _)).1;have HB1:=O (HSB.out.trans (hb1.mono HSB.out.size));have hcv2:=cw w1 p0;have HSB2:=O (bU w1 p0);have HSR2:=O (fo w1 p0 (by unfold maxLen;have := HPL.out;have := HL.out;omega));generalize Lib.bytesWorld w1 5 ⟨p0.toArray⟩=w1s at hcv2 HSB2 HSR2;clear aO ho1 hb1)
    |(go_at_call 94;refine(HGI.out _ _ HSR2.out).mono ?_;rintro e w2 ⟨v2,rfl,ho2,hb2⟩;obtain⟨a2,c2,rfl⟩:=ho2.rd.form;have hB12:=HSB2.out.trans (hb2.mono HSB2.out.size);have HB2:=O (HB1.out.trans (hB12.mono HB1.out.size));obtain⟨z0,z1⟩:=HQ.out _ hB12;have HO2:=O ho2;clear ho2 hb2 x0 hB12)
    |(refine mO rfl rfl ?_)
    |(refine fZ zK zK rfl (.tmp 2) (.tmp 55) rfl w.heap.size rfl rfl _ (HRES.out _ HB2.out).1 ?_))
   refine g_ (aA rfl _ _ w.heap.size _ rfl (cM _ _ zK _ (setRow_heap _ _ _ _ _ _ (HRES.out _ HB2.out).1))) rfl ?_;exact⟨by rw[HKZ.out,HKE.out];rfl,(HRES.out _ HB2.out).2.trans (aK (A_ _))⟩
  ·subst r1
   have h5:((n2:Int) != (p0.length:Int))=false:=by rw[r2];simp
   have h6:((li.length:Int) != 8)=true:=by rw[bne_iff_ne];omega
   have HKZ:Hid (kk=zK):=O (HKN.out (by rw[HP4.out,r4];first |exact r1|decide));have HKE:Hid (ke=_):=O (HP4.out.trans r4);clear r2 r3 r4 HKP HP5 HP4 HKN
   go_enter func100,ntmps100
   go_upto_region 1 with fail
   rw[←HW.out]
   go_wp2_with (first
    |(go_at_call 99;refine HG.out.mono ?_;rintro e w1 ⟨v1,rfl,ho1,hb1⟩;obtain⟨a1,c1,rfl⟩:=ho1.rd.form;obtain⟨b1,o1,rfl,hbl,aO⟩:=dQ ho1.rd (by simp);have HQ:Hid (∀u,Below w1.heap.size w1 u→u.cell? ⟨b1,o1,none⟩=some (.string ⟨p0.toArray⟩)∧u.cell? ⟨b1,o1+1,none⟩=some (.string ⟨q0.toArray⟩)):=(O (fun u hu=>⟨by rw[hu.cell (p:=⟨b1,o1,none⟩) hbl];exact aO 0 (by simp),by rw[hu.cell (p:=⟨b1,o1+1,none⟩) hbl];exact aO 1 (by simp)⟩));have x0:=(HQ.out _ (O_ _ _)).1;have HB1:=O (HSB.out.trans (hb1.mono HSB.out.size));have hcv2:=cw w1 p0;have HSB2:=O (bU w1 p0);have HSR2:=O (fo w1 p0 (by unfold maxLen;have := HPL.out;have := HL.out;omega));generalize Lib.bytesWorld w1 5 ⟨p0.toArray⟩=w1s at hcv2 HSB2 HSR2;clear aO ho1 hb1)
    |(go_at_call 94;refine(HGI.out _ _ HSR2.out).mono ?_;rintro e w2 ⟨v2,rfl,ho2,hb2⟩;obtain⟨a2,c2,rfl⟩:=ho2.rd.form;have hB12:=HSB2.out.trans (hb2.mono HSB2.out.size);have HB2:=O (HB1.out.trans (hB12.mono HB1.out.size));obtain⟨z0,z1⟩:=HQ.out _ hB12;have HO2:=O ho2;clear ho2 hb2 x0 hB12)
    |(refine mO rfl rfl ?_)
    |(refine fZ zK zK rfl (.tmp 2) (.tmp 55) rfl w.heap.size rfl rfl _ (HRES.out _ HB2.out).1 ?_))
   refine g_ (aA rfl _ _ w.heap.size _ rfl (cM _ _ zK _ (setRow_heap _ _ _ _ _ _ (HRES.out _ HB2.out).1))) rfl ?_;exact⟨by rw[HKZ.out,HKE.out];rfl,(HRES.out _ HB2.out).2.trans (aK (A_ _))⟩
  ·subst r1
   have h5:((n2:Int) != (p0.length:Int))=false:=by rw[r2];simp
   obtain⟨m0,m1,m2,m3,m4,m5,m6,m7,rfl⟩:=AQ r3;simp only[W_,X_] at r4
   have h6:(m7 != 0)=true:=by rw[bne_iff_ne];omega
   have h7:(m7 != 1)=true:=by rw[bne_iff_ne];omega
   have HKZ:Hid (kk=zK):=O (HKN.out (by rw[HP4.out,r5];first |exact r1|decide));have HKE:Hid (ke=_):=O (HP4.out.trans r5);clear r2 r3 r4 r5 HKP HP5 HP4 HKN
   go_enter func100,ntmps100
   go_upto_region 1 with fail
   rw[←HW.out]
   go_wp2_with (first
    |(go_at_call 99;refine HG.out.mono ?_;rintro e w1 ⟨v1,rfl,ho1,hb1⟩;obtain⟨a1,c1,rfl⟩:=ho1.rd.form;obtain⟨b1,o1,rfl,hbl,aO⟩:=dQ ho1.rd (by simp);have HQ:Hid (∀u,Below w1.heap.size w1 u→u.cell? ⟨b1,o1,none⟩=some (.string ⟨p0.toArray⟩)∧u.cell? ⟨b1,o1+1,none⟩=some (.string ⟨q0.toArray⟩)):=(O (fun u hu=>⟨by rw[hu.cell (p:=⟨b1,o1,none⟩) hbl];exact aO 0 (by simp),by rw[hu.cell (p:=⟨b1,o1+1,none⟩) hbl];exact aO 1 (by simp)⟩));have x0:=(HQ.out _ (O_ _ _)).1;have HB1:=O (HSB.out.trans (hb1.mono HSB.out.size));have hcv2:=cw w1 p0;have HSB2:=O (bU w1 p0);have HSR2:=O (fo w1 p0 (by unfold maxLen;have := HPL.out;have := HL.out;omega));generalize Lib.bytesWorld w1 5 ⟨p0.toArray⟩=w1s at hcv2 HSB2 HSR2;clear aO ho1 hb1)
    |(go_at_call 94;refine(HGI.out _ _ HSR2.out).mono ?_;rintro e w2 ⟨v2,rfl,ho2,hb2⟩;obtain⟨a2,c2,rfl⟩:=ho2.rd.form;have hB12:=HSB2.out.trans (hb2.mono HSB2.out.size);have HB2:=O (HB1.out.trans (hB12.mono HB1.out.size));obtain⟨z0,z1⟩:=HQ.out _ hB12;have HO2:=O ho2;clear ho2 hb2 x0 hB12;obtain⟨b2,o2,rfl,hbl2,hrow2⟩:=iE HO2.out.rd (by simp);have y7:=hrow2 7 (by simp);have HROW2:=O hrow2;simp only[List.getElem_cons_zero,List.getElem_cons_succ] at y7;clear hrow2)
    |(refine mO rfl rfl ?_)
    |(refine fZ zK zK rfl (.tmp 2) (.tmp 66) rfl w.heap.size rfl rfl _ (HRES.out _ HB2.out).1 ?_))
   refine g_ (aA rfl _ _ w.heap.size _ rfl (cM _ _ zK _ (setRow_heap _ _ _ _ _ _ (HRES.out _ HB2.out).1))) rfl ?_;exact⟨by rw[HKZ.out,HKE.out];rfl,(HRES.out _ HB2.out).2.trans (aK (A_ _))⟩
  ·subst r1
   have h5:((n2:Int) != (p0.length:Int))=false:=by rw[r2];simp
   obtain⟨m0,m1,m2,m3,m4,m5,m6,m7,rfl⟩:=AQ r3;simp only[W_,X_] at r4;have HKE:Hid (ke=0):=O (HP4.out.trans r5);have HKK:Hid (kk=mkK [m0,m1,m2,m3,m4,m5,m6,m7] q0):=O (by rw[HP5.out HKE.out,r6]);have HMK:Hid (kc (mkK [m0,m1,m2,m3,m4,m5,m6,m7] q0) = #[.int .i64 m0,.int .i64 m1,.string ⟨q0.toArray⟩,.int .i64 m2,.int .i64 m3,.int .i64 m4,.int .i64 m5,.int .i64 m6,.bool (m7 == 1)]):=O (by unfold kc;rfl);generalize mkK [m0,m1,m2,m3,m4,m5,m6,m7] q0=km at HKK HMK;have H67:Hid ((m7 != 0)=false∨((m7 != 0)=true∧(m7 != 1)=false)):=O (by rcases r4 with h|h <;> rw[h] <;> simp);clear r2 r3 r4 r5 r6 HKP HP5 HP4 HKN
   rcases H67.out with h6|⟨h6,h7⟩
   all_goals (
    go_enter func100,ntmps100
    go_upto_region 1 with fail
    rw[←HW.out]
    go_upto_region 13 with (first
     |(go_at_call 99;refine HG.out.mono ?_;rintro e w1 ⟨v1,rfl,ho1,hb1⟩;obtain⟨a1,c1,rfl⟩:=ho1.rd.form;obtain⟨b1,o1,rfl,hbl,aO⟩:=dQ ho1.rd (by simp);have HQ:Hid (∀u,Below w1.heap.size w1 u→u.cell? ⟨b1,o1,none⟩=some (.string ⟨p0.toArray⟩)∧u.cell? ⟨b1,o1+1,none⟩=some (.string ⟨q0.toArray⟩)):=(O (fun u hu=>⟨by rw[hu.cell (p:=⟨b1,o1,none⟩) hbl];exact aO 0 (by simp),by rw[hu.cell (p:=⟨b1,o1+1,none⟩) hbl];exact aO 1 (by simp)⟩));have x0:=(HQ.out _ (O_ _ _)).1;have HB1:=O (HSB.out.trans (hb1.mono HSB.out.size));have hcv2:=cw w1 p0;have HSB2:=O (bU w1 p0);have HSR2:=O (fo w1 p0 (by unfold maxLen;have := HPL.out;have := HL.out;omega));generalize Lib.bytesWorld w1 5 ⟨p0.toArray⟩=w1s at hcv2 HSB2 HSR2;clear aO ho1 hb1)
     |(go_at_call 94;refine(HGI.out _ _ HSR2.out).mono ?_;rintro e w2 ⟨v2,rfl,ho2,hb2⟩;obtain⟨a2,c2,rfl⟩:=ho2.rd.form;have hB12:=HSB2.out.trans (hb2.mono HSB2.out.size);have HB2:=O (HB1.out.trans (hB12.mono HB1.out.size));obtain⟨z0,z1⟩:=HQ.out _ hB12;have HO2:=O ho2;clear ho2 hb2 x0 hB12;obtain⟨b2,o2,rfl,hbl2,hrow2⟩:=iE HO2.out.rd (by simp);have y7:=hrow2 7 (by simp);have HROW2:=O hrow2;simp only[List.getElem_cons_zero,List.getElem_cons_succ] at y7;clear hrow2))
    have y0':=HROW2.out 0 (by simp);have y1':=HROW2.out 1 (by simp);have y2':=HROW2.out 2 (by simp);have y3':=HROW2.out 3 (by simp);have y4':=HROW2.out 4 (by simp);have y5':=HROW2.out 5 (by simp);have y6':=HROW2.out 6 (by simp);have y7':=HROW2.out 7 (by simp);simp only[List.getElem_cons_zero,List.getElem_cons_succ] at y0' y1' y2' y3' y4' y5' y6' y7';rw[Nat.add_zero] at y0';clear y7
    try dsimp only[Act.put]
    refine dD 29 (by kernel_rfl) (by kernel_rfl) ?_;simp only[F_,c_,J_,L_]
    repeat (first
     |(refine Ff rfl 86 #[(0,.tmp 69),(1,.tmp 72),(2,.tmp 75),(3,.tmp 78),(4,.tmp 81),(5,.tmp 84),(6,.tmp 87),(7,.tmp 90),(8,.tmp 94)] rfl (kc km) (by rw[HMK.out];kernel_rfl) ?_;simp only[Act.put,B_,C_,D_])
     | go_big_quiet_step (fail))
    refine h_ ?_;rintro _ ⟨nq,rfl⟩;have HR9:Hid ((w2.drewN nq).heap[w.heap.size]?=some (.cells (kc zK) 86 (0,0))):=O (HRES.out _ HB2.out).1
    go_wp2_with (refine fZ km zK rfl (.tmp 2) (.tmp 95) rfl w.heap.size rfl rfl _ HR9.out ?_)
    refine g_ (aA rfl _ _ w.heap.size _ rfl (cM _ _ km _ (setRow_heap _ _ _ _ _ _ HR9.out))) rfl ?_
    exact⟨by rw[HKK.out,HKE.out];rfl,(ak nq (HRES.out _ HB2.out).2).trans (aK (A_ _))⟩)
end
section
open Go.RowKit Go.Shelf
theorem Jm (d:List UInt8) (i:Nat):aq d i = .int .u8 (B8 (byteAt d i)):=rfl
theorem Jv (d:List UInt8) (j:Nat) (h:j<16):(am d)[j]?=some (.int .u8 (B8 (byteAt d j))):=by
 have e:am d=((List.range 16).map (aq d)).toArray:=rfl;rw[e,←Jm]
 simp[h]
theorem Mf (d:List UInt8) (i:Nat) (h:i<d.length):d.take i++[byteAt d i]=d.take (i+1):=by
 rw[List.take_add_one,K_ h];unfold byteAt;rw[I_,K_ h]
 rfl
attribute [local irreducible] Calls am mac aV
theorem Mh (d:List UInt8) (hd:d.length=16) (w:World) :
  Calls prog 129 #[.agg (am d)] w fun e w'=>e = .returned (.string ⟨d.toArray⟩)∧Below w.heap.size w w':=by
 obtain⟨W0,hW0⟩:∃W0,W0=w.alloc (.cells (am d) 23):=⟨_,rfl⟩;have HBE:Hid (Below w.heap.size w W0):=O (by rw[hW0];exact(O_ _ _).alloc (A_ _) _);have HROW:Hid (W0.heap[w.heap.size]?=some (.cells (am d) 23 (0,0))):=O (by rw[hW0];exact al _ _ _ rfl);have HW:=O hW0;have HD:=O hd;clear hW0 hd
 go_enter func129,ntmps129
 go_upto_region 1 with fail
 rw[←HW.out];go_wp2
 go_loopw [4,3] (fun i o wr=>∃j:Nat,j≤16∧i = .int .i64 j∧Hid (ap eB wr W0.heap.size o (d.take j))∧Hid (Below W0.heap.size W0 wr)) (fun i _ _=>16-(intOf i).toNat)
 case atStart=>exact⟨0,N_ _,rfl,O (ap.nil _ _),O (O_ _ _)⟩
 case round =>
  obtain⟨j,hj,rfl,hown,hb⟩:=hrel
  by_cases hlt:j<16
  ·have j1:(j:Int)<16:=by omega
   have hlt0:=(Q_.1 HROW.out).1
   have cj:wr.cell? ⟨w.heap.size,j,none⟩=some (.int .u8 (B8 (byteAt d j))):=by
    rw[hb.out.cell (p:=⟨w.heap.size,j,none⟩) hlt0,e_ _ _ _ _ _ _ HROW.out];exact Jv d j hlt
   have HT:=O (Mf d j (by rw[HD.out];exact hlt));generalize byteAt d j=c at cj HT;have HJ:=O hlt;have HL:Hid ((d.take j).length≤16):=O (by rw[b_];omega);clear hlt hlt0
   go_wp2_with (at_builtin;go_loud (refine br aN rfl (.tmp 9) (.tmp 13) rfl W0.heap.size _ _ rfl (hown.out.on ((O_ _ _).alloc (A_ _) _)) (.slice (some ⟨wr.heap.size,0,none⟩) 1 1) [c] rfl (bP wr c aN) (by have := HL.out;simp;omega) (by have := hb.out.size;simp;omega) ?_);intro v5 w4 ho4 hg4 hloc;have HB4:=O (hb.out.trans (((O_ wr.heap.size wr).alloc (A_ _) (.cells #[.int .u8 (B8 c)] 5)).mono hb.out.size |>.trans ((hown.out.on ((O_ _ _).alloc (A_ _) _)).below hg4 (by have := hb.out.size;simp;omega))));have HO4:=O ho4;clear ho4 hg4 hloc)
   go_roundw
   case rel=>exact⟨j+1,HJ.out,by go_num,O (by rw[←HT.out];exact HO4.out),HB4⟩
   case measure=>have := HJ.out;simp[intOf];omega
  ·have he:j=16:=by omega
   have j1:¬(j:Int)<16:=by omega
   have HF:Hid (d.take j=d):=O (by rw[he,←HD.out,List.take_length]);have hcv:=b6 hown.out.rd;rw[HF.out] at hcv;clear he hlt hj;go_wp2;go_ret;exact⟨rfl,HBE.out.trans (hb.out.mono HBE.out.size)⟩
theorem Ov (s:List UInt8) (w:World) (hl:s.length≤100000) :
  Calls prog 114 #[.string ⟨s.toArray⟩,.slice none 0 0] w fun e w'=>e = .returned (.string ⟨(aV s).toArray⟩)∧Below w.heap.size w w':=by
 have HE:=O (yQ (E:=eB) w rfl);have HL:=O hl;have HEL:=O (cW s);have HBA:Hid (Below w.heap.size w (w.alloc (.cells #[] 5))):=O ((O_ _ _).alloc (A_ _) _);clear hl
 go_enter func114,ntmps114
 go_wp2_with (first
  |(go_at_call 84;refine(lH s _ (by have := HL.out;omega)).mono ?_;rintro e w1 ⟨v1,rfl,ho1,hb1⟩;have HO1:=O ho1;have HB1:=O hb1;clear ho1 hb1)
  |(at_builtin;go_loud (refine br aN rfl (.tmp 7) (.tmp 9) rfl w.heap.size _ [] rfl (HE.out.on HB1.out) v1 (aV s) rfl HO1.out.rd (by have := HEL.out;have := HL.out;simp;omega) (M_ HBA.out.size HB1.out.size) ?_);intro v2 w2 ho2 hg2 hloc;have HB2:=O ((HBA.out.trans (HB1.out.mono HBA.out.size)).trans ((HE.out.on HB1.out).below hg2 (M_ HBA.out.size HB1.out.size)));have HO2:Hid (ap eB w2 w.heap.size v2 (aV s)):=(O ho2);clear ho2 hg2 hloc))
 go_loopw [6,5] (fun i o wr=>i = .int .i64 0∧o=v2∧wr=w2) (fun _ _ _=>0)
 case atStart=>exact⟨rfl,rfl,rfl⟩
 case round =>
  obtain⟨rfl,rfl,hwr⟩:=hrel;rw[hwr];clear hwr;have hcv:=b6 HO2.out.rd;go_wp2;go_ret;exact⟨rfl,HB2.out⟩
theorem uI (key label:List UInt8) (w:World) (hk:cA w) (hl:key.length≤400000) (hm:label.length≤1000) :
  Calls prog 70 #[.string ⟨key.toArray⟩,.string ⟨label.toArray⟩,.slice none 0 0] w fun e w'=>e = .returned (.string ⟨(aJ key label).toArray⟩)∧Below w.heap.size w w':=by
 have HK:=O hk;have HL:=O hl;have HM:=O hm;have HD:Hid (mac key (aV label)=aJ key label):=O rfl;have HE:=O (cW label);clear hk hl hm
 go_enter func70,ntmps70
 go_wp2_with (first
  |(go_at_call 114;refine(Ov label _ (by have := HM.out;omega)).mono ?_;rintro e w1 ⟨rfl,hb1⟩;have HB1:=O hb1;clear hb1)
  |(go_at_call 113;refine(Bs key (aV label) _ (HK.out.on HB1.out) HL.out (by have := HE.out;have := HM.out;omega)).mono ?_;rintro e w2 ⟨rfl,hb2⟩;have HB2:=O (HB1.out.trans (hb2.mono HB1.out.size));clear hb2;rw[HD.out]))
 go_ret;exact⟨rfl,HB2.out⟩
end
section
open Go.RowKit Go.Shelf
theorem Gr (x:List UInt8):dEq x x=true:=by unfold dEq;simp
theorem DC (b:BK) (l:List K):sY b l b l=true:=by unfold sY kt;simp[Gr]
theorem Ja:prog.built 47 []=some (bc zB ah):=by kernel_rfl
theorem jJ (hgd:Region.wanted o (yielded ops a.tmps)=true) (ho:o.op = .build 47 #[])
  (h:wpList prog ops Q rest (a.put o.dst (.agg (bc zB ah))) w):wpList prog ops Q (o::rest) a w :=
 wpList_step fun K hK=>by
  rw[G_ hgd];have hr:=run_build (P:=prog) w 47 #[] _ Ja;unfold Oper.wp execOp;simp only[ho,List.map_toArray,List.map_nil,hr,Sem.run_bind,Sem.run_pure,Result.andThen_ok];exact hK _ _ h
theorem KN (dk blob:List UInt8) (h:opE dk blob≠0):opB dk blob=zB∧opK dk blob=[]:=by
 unfold opB opK;rw[H_ h,H_ h];exact⟨rfl,rfl⟩
open Go.RowKit Go.Shelf
attribute [local irreducible] Calls
theorem T4 (nx:Int) (v:Value) (l:List K) (w:World) (hv:RdK w v l):Calls prog 40 #[.agg (tbA nx v)] w fun e w'=>e = .returned (.bool (aP nx l))∧Below w.heap.size w w':=Ab nx v l w hv
def nw (l:List SH):Bool:=decide (l.length≤20) && l.all fun s=>decide (s.data.length≤100)
attribute [local irreducible] shc shA
theorem Hs (l:List SH) (v:Value) (w:World) (hv:RdE eH w v l):Calls prog 18 #[v] w fun e w'=>e = .returned (.bool (nw l))∧Below w.heap.size w w':=by
 have HV:=O hv;obtain⟨a,cap,rfl,hml2,hml,_⟩:=hv;unfold maxLen at hml
 by_cases h20:l.length≤20
 ·have e20:¬(20:Int)<l.length:=by omega
  have HS:Hid (nw l=l.all fun s=>decide (s.data.length≤100)):=O (by unfold nw;rw[decide_eq_true h20,Bool.true_and]);clear h20
  go_enter func18,ntmps18
  go_wp2
  go_loopw [3] (fun o wr=>∃i:Nat,i≤l.length∧o = .int .i64 i∧Hid (∀j (hj:j<l.length),j<i→l[j].data.length≤100)∧wr=w) (fun o _=>l.length-(intOf o).toNat)
  case atStart=>exact⟨0,N_ _,rfl,O (fun j _ hj=>absurd hj (by omega)),rfl⟩
  case round =>
   obtain⟨i,hi,rfl,hno,hwr⟩:=hrel;rw[hwr];clear hwr
   by_cases hlt:i<l.length
   ·obtain⟨b,off,rfl,_,hc⟩:=dA HV.out (by omega)
    have c18:=(hc i hlt).2.2.2
    have i1:(i:Int)<l.length:=by omega
    have HK:=O hlt
    have HNX:Hid (l[i].data.length≤100→∀j (hj:j<l.length),j<i+1→l[j].data.length≤100):=O (fun h j hj hji=>by
     by_cases e:j=i
     ·subst e;exact h
     ·exact hno.out j hj (by omega))
    have HNO:Hid (¬l[i].data.length≤100→nw l=false):=O (fun h=>by rw[HS.out,List.all_eq_false];exact⟨l[i],List.getElem_mem hlt,by simpa using h⟩);generalize l[i]=s at c18 HNX HNO;clear hc hlt hno hi
    by_cases hq:s.data.length≤100
    ·have i2:¬(100:Int)<s.data.length:=by omega
     have HQ:=O (HNX.out hq);clear hq;go_wp2;go_roundw
     case rel=>exact⟨i+1,HK.out,by go_num,HQ,by first |exact rfl|exact trivial⟩
     case measure=>have := HK.out;simp[intOf];omega
    ·have i2:(100:Int)<s.data.length:=by omega
     have HQ:=O (HNO.out hq);clear hq;go_wp2;go_ret;exact⟨by rw[HQ.out];rfl,O_ _ _⟩
   ·have i1:(l.length:Int)≤i:=by omega
    have HR:Hid (nw l=true):=O (by
     rw[HS.out,List.all_eq_true];intro s hs;obtain⟨j,hj,rfl⟩:=List.mem_iff_getElem.1 hs
     exact decide_eq_true (hno.out j hj (by omega)))
    clear hno hlt hi;go_wp2;go_ret;exact⟨by rw[HR.out];rfl,O_ _ _⟩
 ·have e20:(20:Int)<l.length:=by omega
  have HS:Hid (nw l=false):=O (by unfold nw;rw[V_ h20];rfl);clear h20
  go_enter func18,ntmps18
  go_wp2;go_ret;exact⟨by rw[HS.out];rfl,O_ _ _⟩
def oC (nx:Int) (tl:List K) (b:BK) (bl:List K):Bool:=decide (tl.length≤12) && (decide (b.mo.length≤100) && (decide (bl.length≤12) && (bl.all (fun k=>decide (k.val.length≤100)) && aP nx tl)))
attribute [local irreducible] tbA aP
theorem EG (nx:Int) (vt:Value) (tl:List K) (b:BK) (v:Value) (l:List K) (w:World) (ht:RdK w vt tl) (hv:RdK w v l) :
  Calls prog 17 #[.agg (tbA nx vt),.agg (bc b v)] w fun e w'=>e = .returned (.bool (oC nx tl b l))∧Below w.heap.size w w':=by
 have hlen:=hv.len;unfold maxLen at hlen;have hlen2:=ht.len;unfold maxLen at hlen2;obtain⟨va,vc,rfl,_,_,_⟩:=id hv;obtain⟨ta,tc,rfl,_,_,_⟩:=id ht;obtain⟨W0,hW0⟩:∃W0,W0=(w.alloc (.cells (tbA nx (.slice ta tl.length tc)) 45)).alloc (.cells (bc b (.slice va l.length vc)) 47):=⟨_,rfl⟩;have HW:=O hW0;have HBE:Hid (Below w.heap.size w W0):=O (by rw[hW0];exact dm _ _ _ (O_ _ _));have HR1:Hid (W0.heap[w.heap.size+1]?=some (.cells (bc b (.slice va l.length vc)) 47 (0,0))):=O (by rw[hW0];exact eR _ _ _);have HR0:Hid (W0.heap[w.heap.size]?=some (.cells (tbA nx (.slice ta tl.length tc)) 45 (0,0))):=O (by rw[hW0];exact eP _ _ _);have HV:Hid (RdK W0 (.slice va l.length vc) l):=O (hv.on HBE.out);have HT:=O (T4 nx (.slice ta tl.length tc) tl W0 (ht.on HBE.out))
 have a1:W0.cell? ⟨w.heap.size,1,none⟩=some (.slice ta tl.length tc):=by rw[e_ _ _ _ _ _ _ HR0.out];unfold tbA;rfl
 have a36:W0.cell? ⟨w.heap.size+1,36,none⟩=some (.string ⟨b.mo.toArray⟩):=by rw[e_ _ _ _ _ _ _ HR1.out];exact uo _ _
 have a37:W0.cell? ⟨w.heap.size+1,37,none⟩=some (.slice va l.length vc):=by rw[e_ _ _ _ _ _ _ HR1.out];exact iU _ _
 have hcs:(¬tl.length≤12∧oC nx tl b l=false)∨(tl.length≤12∧¬b.mo.length≤100∧oC nx tl b l=false)∨(tl.length≤12∧b.mo.length≤100∧¬l.length≤12∧oC nx tl b l=false) ∨
   (tl.length≤12∧b.mo.length≤100∧l.length≤12∧oC nx tl b l=(l.all (fun k=>decide (k.val.length≤100)) && aP nx tl)):=by
  unfold oC
  by_cases h1:tl.length≤12
  ·by_cases h2:b.mo.length≤100
   ·by_cases h3:l.length≤12
    ·simp[h1,h2,h3]
    ·simp[h1,h2,h3]
   ·simp[h1,h2]
  ·simp[h1]
 have HCS:=O hcs;clear hv ht hW0 hcs
 rcases HCS.out with⟨h1,hr⟩|⟨h1,h2,hr⟩|⟨h1,h2,h3,hr⟩|⟨h1,h2,h3,hr⟩
 case inr.inr.inr =>
  have i1:¬(12:Int)<tl.length:=by omega
  have i2:¬(100:Int)<b.mo.length:=by omega
  have i3:¬(12:Int)<l.length:=by omega
  have HF:=O hr;clear hr h1 h2 h3 HCS
  go_enter func17,ntmps17
  go_upto_region 1 with fail
  rw[←HW.out]
  try dsimp only[Act.put]
  go_wp2
  go_loopw [5] (fun o wr=>∃i:Nat,i≤l.length∧o = .int .i64 i∧Hid (∀j,j<i→(ae l j).val.length≤100)∧wr=W0) (fun o _=>l.length-(intOf o).toNat)
  case atStart=>exact⟨0,N_ _,rfl,O (fun j hj=>absurd hj (by omega)),rfl⟩
  case round =>
   obtain⟨i,hi,rfl,hno,hwr⟩:=hrel;rw[hwr];clear hwr
   by_cases hlt:i<l.length
   ·obtain⟨bb,off,rfl,hb1,aO⟩:=(HV.out.cells) (by omega)
    obtain⟨d0,d1,d2,d3,d4,d5,d6,d7,d8⟩:=aO i hlt
    have j1:(i:Int)<l.length:=by omega
    have HK:=O hlt;have HNO:=hno;clear aO hno
    by_cases hq:(ae l i).val.length≤100
    ·have j2:¬(100:Int)<(ae l i).val.length:=by omega
     have HQ:=O hq;clear hq;go_wp2;go_roundw
     case rel=>exact⟨i+1,HK.out,by go_num,O (fun j hj=>by
      by_cases e:j=i
      ·subst e;exact HQ.out
      ·exact HNO.out j (by omega)),by first |exact rfl|exact trivial⟩
     case measure=>have := HK.out;simp[intOf];omega
    ·have j2:(100:Int)<(ae l i).val.length:=by omega
     have HRES:Hid (oC nx tl b l=false):=O (by
      rw[HF.out]
      have : l.all (fun k=>decide (k.val.length≤100))=false:=by
       rw[List.all_eq_false];refine⟨ae l i,?_,by simpa using hq⟩;rw[az l i hlt];exact List.getElem_mem hlt
      rw[this]
      rfl)
     clear hq hlt;go_wp2;go_ret;exact⟨by rw[HRES.out];rfl,HBE.out⟩
   ·have j1:(l.length:Int)≤i:=by omega
    have HA:Hid (oC nx tl b l=aP nx tl):=O (by
     rw[HF.out]
     have : l.all (fun k=>decide (k.val.length≤100))=true:=by
      rw[List.all_eq_true];intro k hk;obtain⟨j,hj,rfl⟩:=List.mem_iff_getElem.1 hk;have := hno.out j (by omega);rw[az l j hj] at this
      simpa using this
     rw[this,Bool.true_and])
    clear hno hlt hi
    go_wp2_with (first
     |(refine dw nx (.slice ta tl.length tc) rfl (.tmp 2) rfl w.heap.size rfl _ HR0.out ?_)
     |(go_at_call 40;refine HT.out.mono ?_;rintro e x1 ⟨rfl,hx1⟩;have HX:=O (HBE.out.trans (hx1.mono HBE.out.size));clear hx1))
    go_ret;exact⟨by rw[HA.out];rfl,HX.out⟩
 ·have HF:=O hr
  have i1:(12:Int)<tl.length:=by omega
  clear hr h1 HCS
  go_enter func17,ntmps17
  go_upto_region 1 with fail
  rw[←HW.out]
  try dsimp only[Act.put]
  go_wp2;go_ret;exact⟨by rw[HF.out];rfl,HBE.out⟩
 ·have HF:=O hr
  have i1:¬(12:Int)<tl.length:=by omega
  have i2:(100:Int)<b.mo.length:=by omega
  clear hr h1 h2 HCS
  go_enter func17,ntmps17
  go_upto_region 1 with fail
  rw[←HW.out]
  try dsimp only[Act.put]
  go_wp2;go_ret;exact⟨by rw[HF.out];rfl,HBE.out⟩
 ·have HF:=O hr
  have i1:¬(12:Int)<tl.length:=by omega
  have i2:¬(100:Int)<b.mo.length:=by omega
  have i3:(12:Int)<l.length:=by omega
  clear hr h1 h2 h3 HCS
  go_enter func17,ntmps17
  go_upto_region 1 with fail
  rw[←HW.out]
  try dsimp only[Act.put]
  go_wp2;go_ret;exact⟨by rw[HF.out];rfl,HBE.out⟩
end
section
open Go.RowKit
theorem mh (b:BinOp) (T T':TypeId) (x y:Operand) (v1 v2 v:Value) (ho:o.op = .binOp b T x y T') (hgd:Region.wanted o (yielded ops a.tmps)=true) (hx:a.eval x=v1) (hy:a.eval y=v2) (hg:∀w,(eqGuard b T x y v1 v2).run prog w = .ok () w) (hr:∀w,(binOp b T v1 v2).run prog w = .ok v w)
  (h:wpList prog ops Q rest (a.put o.dst v) w):wpList prog ops Q (o::rest) a w :=
 wpList_step fun K hK=>by
  rw[G_ hgd];unfold Oper.wp execOp;simp only[ho,hx,hy,hg,hr,Sem.run_bind,Sem.run_pure,Result.andThen_ok];exact hK _ _ h
structure bS (J:World→Prop):Prop where
 on:∀y y':World,J y→Below y.heap.size y y'→J y'
theorem bS.and {J L:World→Prop} (h:bS J) (k:bS L):bS fun y=>J y∧L y:=⟨fun y y' hj hb=>⟨h.on y y' hj.1 hb,k.on y y' hj.2 hb⟩⟩
theorem bS.row (g:Nat) (cs:Array Value) (T:TypeId):bS fun y=>y.heap[g]?=some (.cells cs T (0,0)):=⟨fun _ _ h hb=>aa h hb⟩
theorem bS.rdK (v:Value) (l:List K):bS fun y=>RdK y v l:=⟨fun _ _ h hb=>h.on hb⟩
theorem bS.rdE {α:Type} (E:El α) (v:Value) (l:List α):bS fun y=>RdE E y v l:=⟨fun _ _ h hb=>h.on hb⟩
theorem bS.b (w:World):bS fun y=>Below w.heap.size w y:=⟨fun _ _ h hb=>h.trans (hb.mono h.size)⟩
theorem bS.new {J:World→Prop} (hs:bS J) {y:World} (h:J y) (cs:Array Value) (T:TypeId):∃g,g=y.heap.size∧(J (y.alloc (.cells cs T))∧(y.alloc (.cells cs T)).heap[g]?=some (.cells cs T (0,0))) :=
 ⟨_,rfl,hs.on y _ h ((O_ y.heap.size y).alloc (A_ _) _),heap_alloc_new _ _⟩
end
end
end Go.Proofs.YtmfiaadjdbemnaaGreatDoor
