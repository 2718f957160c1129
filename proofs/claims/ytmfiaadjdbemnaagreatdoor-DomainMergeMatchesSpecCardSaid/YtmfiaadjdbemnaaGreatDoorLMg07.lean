/- Contracts and lemmas. No condition. -/
import Derived.Test.YtmfiaadjdbemnaaGreatDoorLMg06
set_option maxRecDepth 100000
set_option maxHeartbeats 8000000
set_option linter.unusedSimpArgs false
set_option linter.unusedVariables false
namespace Go.Proofs.YtmfiaadjdbemnaaGreatDoor
open Go.Proofs.Tryz
section
open Go.RowKit Go.Shelf
theorem jW (h:List UInt8) (i:Nat) (hi:i≤h.length) (w:World):(Instr.slice 9 (.string ⟨h.toArray⟩) (some (.int .i64 i)) none none).run prog w = .ok (.string ⟨(h.drop i).toArray⟩) w:=by
 rw[run_slice_string_l w _ _ underlying9 .i64 _ (by omega) (by show (i:Int)≤((h.toArray.size:Nat):Int);simp;omega)]
 have e:(ByteArray.mk h.toArray).extract ((i:Int).toNat) (ByteArray.mk h.toArray).size=⟨(h.drop i).toArray⟩:=by
  rw[CX,Int.toNat_natCast,Y_ (by rw[S_];exact A_ _)]
 rw[e]
theorem eE (h:List UInt8) (i:Nat):(h.drop i).take (h.length-i)=h.drop i:=Y_ (by rw[S_];exact A_ _)
theorem IX (b:BK):prog.built 47 [(0,.agg (am b.dom)),(1,.int .i64 b.ep),(2,.int .i64 b.num),(3,.int .i64 b.fw),(4,.int .i64 b.tm),(5,.agg (am b.pol)),(6,.string ⟨b.mo.toArray⟩)]=some (bc b ah):=by kernel_rfl
theorem RJ {ops:Array Oper} {rest:List Oper} {o:Oper} {a:Act} {w:World} {Q:Exit→Act→World→Prop} (b:BK) (hgd:Region.wanted o (yielded ops a.tmps)=true) (x0 x1 x2 x3 x4 x5 x6:Operand)
  (ho:o.op = .build 47 #[(0,x0),(1,x1),(2,x2),(3,x3),(4,x4),(5,x5),(6,x6)]) (h0:a.eval x0 = .agg (am b.dom)) (h1:a.eval x1 = .int .i64 b.ep) (h2:a.eval x2 = .int .i64 b.num) (h3:a.eval x3 = .int .i64 b.fw) (h4:a.eval x4 = .int .i64 b.tm) (h5:a.eval x5 = .agg (am b.pol)) (h6:a.eval x6 = .string ⟨b.mo.toArray⟩)
  (h:wpList prog ops Q rest (a.put o.dst (.agg (bc b ah))) w):wpList prog ops Q (o::rest) a w :=
 wpList_step fun K hK=>by
  rw[G_ hgd];have hb:=IX b;generalize am b.dom=D at hb h0;generalize am b.pol=P at hb h5;have hr:=run_build (P:=prog) w 47 #[(0,.agg D),(1,.int .i64 b.ep),(2,.int .i64 b.num),(3,.int .i64 b.fw),(4,.int .i64 b.tm),(5,.agg P),(6,.string ⟨b.mo.toArray⟩)] _ hb;unfold Oper.wp execOp;simp only[ho,List.map_toArray,List.map_cons,List.map_nil,h0,h1,h2,h3,h4,h5,h6,hr,Sem.run_bind,Sem.run_pure,Result.andThen_ok];exact hK _ _ h
theorem ey (b:BK):((bc b ah).all fun u=>u.oneCell')=true:=dl b none 0 0
theorem dM (b:BK):(prog.info? 47).map (·.size)=some (bc b ah).size:=by rw[aC];exact dU
attribute [local irreducible] Calls am aL aB blE blB pkB hdX hdE hdB aI
theorem K5 (blob:List UInt8) (w:World) (hl:blob.length≤800000) :
  Calls prog 46 #[.string ⟨blob.toArray⟩] w fun e w'=>e = .returned (.tuple #[.agg (bc (pkB blob) ah),.int .i64 (blE blob)])∧Below w.heap.size w w':=by
 have hz:=fh;have HL:=O hl;obtain⟨W0,hW0⟩:∃W0,W0=w.alloc (.cells (bc zB (.slice none 0 0)) 47):=⟨_,rfl⟩;have HW:=O hW0
 have HRES:Hid (∀u,Below W0.heap.size W0 u→u.heap[w.heap.size]?=some (.cells (bc zB ah) 47 (0,0))∧Below w.heap.size w u):=O (by
  intro u h;rw[hW0] at h;have h2:=cJ _ _ h
  exact⟨by rw[h.block _ (by simp)];exact al _ _ _ rfl,h2⟩)
 have hcv:=cw W0 blob;have HSB:=O (bU W0 blob);have HSR:=O (fo W0 blob (by unfold maxLen;omega));generalize Lib.bytesWorld W0 5 ⟨blob.toArray⟩=ws at hcv HSB HSR;have HG:=O (kr _ blob ws HSR.out);have HPZ:Hid (blE blob≠0→pkB blob=zB):=O (fun h=>by unfold pkB;rw[H_ h]);have HPY:Hid (blE blob=0→pkB blob=blB blob):=O (fun h=>by unfold pkB;rw[G_ h]);have HNO:=O (fun (h:(aL blob).2.2≠0)=>IM h);have HYES:=O (fun (h:(aL blob).2.2=0)=>Eg h);have HHL:Hid ((aL blob).2.2=0→(aL blob).1.length≤blob.length):=O (fun h0=>by have := jT blob 0;rw[kC h0] at this;exact this);generalize aL blob=d at HG HNO HYES HHL;obtain⟨h,n,er⟩:=d;simp only at HNO HYES HHL;generalize pkB blob=pb at HPZ HPY ⊢;clear hl hW0
 by_cases h1:er=0
 case neg =>
  have i1:(er != 0)=true:=by simpa using h1
  have HE:=O (HNO.out h1);have HZ:=O (HPZ.out (by rw[HE.out];exact h1));clear h1 HNO HYES HHL HPY HPZ;have tok1:True:=trivial
  go_enter func46,ntmps46
  go_upto_region 1 with fail
  rw[←HW.out]
  go_wp2_with (first
   |(clear tok1;go_at_call 93;refine HG.out.mono ?_;rintro e w1 ⟨rfl,hb1⟩;have HB1:=O (HSB.out.trans (hb1.mono HSB.out.size));simp only[mH];clear hb1)
   |(refine jJ rfl rfl ?_)
   |(refine aM (T:=47) (bc zB ah) (dM zB) rfl (.tmp 2) (.tmp 25) rfl w.heap.size (bc zB ah) rfl rfl (ey zB) rfl (HRES.out _ HB1.out).1 ?_;intro we hge hoe hbe))
  refine g_ (aA rfl _ _ w.heap.size _ rfl (aX _ _ zB ah _ hge)) rfl ?_;exact⟨by rw[HZ.out,HE.out];rfl,(HRES.out _ HB1.out).2.trans (hbe _ (A_ _))⟩
 subst h1;obtain⟨hE,hBB,_,_⟩:=HYES.out rfl;have HH:=O (M_ (HHL.out rfl) HL.out);have HEX:=O hE;have HBB:=O hBB;obtain⟨t,ht⟩:∃t,t=h.drop 16:=⟨_,rfl⟩;have HT:=O ht;have HTL:Hid (t.length=h.length-16):=O (by rw[ht,S_]);have HP1:=O (GH h);have HP2:=O (fun rest (hr:rest=(h.drop 16).drop (aB (h.drop 16)).2.1)=>GI h rest hr);have HQ1:Hid (hdE h 0≠0→hdX h 0=hdE h 0):=O (fun hq=>Sn h hq);rw[←ht] at HP1 HP2;clear ht;have HGI:=O (fun (v:Value) (y:World) (hv:RdE eB y v t)=>uY v t y hv (by have := HH.out;have := HTL.out;omega));have HUI:=O (fun (hq:(aB t).2.2=0)=>(ko.used _ hq).1);generalize aB t=d2 at HP1 HP2 HGI HUI;obtain⟨li,n2,e2⟩:=d2;simp only at HP1 HP2 HUI;clear hE hBB HNO HYES HHL
 have hhi:(h.length:Int)≤800000:=by have := HH.out;omega
 rcases HP1.out with⟨p1,p2⟩|⟨p1,p2,p3⟩|⟨p1,p2,p3,p4⟩|⟨p1,p2,p3,p4⟩
 ·have i2:(h.length:Int)<16:=by omega
  have HE:Hid (blE blob=_):=O (HEX.out.trans ((HQ1.out (by rw[p2];first |decide|assumption)).trans p2));have HZ:=O (HPZ.out (by rw[HE.out];first |decide|assumption));clear p1 p2 HP1 HP2 HPZ HPY HQ1 HUI;have tok1:True:=trivial
  go_enter func46,ntmps46
  go_upto_region 1 with fail
  rw[←HW.out]
  go_wp2_with (first
   |(clear tok1;go_at_call 93;refine HG.out.mono ?_;rintro e w1 ⟨rfl,hb1⟩;have HB1:=O (HSB.out.trans (hb1.mono HSB.out.size));simp only[mH];clear hb1)
   |(refine jJ rfl rfl ?_)
   |(refine aM (T:=47) (bc zB ah) (dM zB) rfl (.tmp 2) (.tmp 30) rfl w.heap.size (bc zB ah) rfl rfl (ey zB) rfl (HRES.out _ HB1.out).1 ?_;intro we hge hoe hbe))
  refine g_ (aA rfl _ _ w.heap.size _ rfl (aX _ _ zB ah _ hge)) rfl ?_;exact⟨by rw[HZ.out,HE.out];rfl,(HRES.out _ HB1.out).2.trans (hbe _ (A_ _))⟩
 ·have i5:(e2 != 0)=true:=by simpa using p2
  have i2:¬(h.length:Int)<16:=by omega
  have hs1:=jW h 16 (by omega);rw[←HT.out] at hs1
  have tk1:(h.drop 16).take (h.length-16)=t:=by rw[eE,HT.out]
  have i3:(16:Int)≤h.length:=by omega
  have i4:16≤h.length:=by omega
  have HE:Hid (blE blob=_):=O (HEX.out.trans ((HQ1.out (by rw[p3];first |decide|assumption)).trans p3));have HZ:=O (HPZ.out (by rw[HE.out];first |decide|assumption));clear p1 p2 p3 HP1 HP2 HPZ HPY HQ1 HUI;have tok1:True:=trivial
  go_enter func46,ntmps46
  go_upto_region 1 with fail
  rw[←HW.out]
  go_wp2_with (first
   |(clear tok1;go_at_call 93;refine HG.out.mono ?_;rintro e w1 ⟨rfl,hb1⟩;have HB1:=O (HSB.out.trans (hb1.mono HSB.out.size));simp only[mH];have hcv2:=cw w1 t;have HSB2:=O (bU w1 t);have HSR2:=O (fo w1 t (by unfold maxLen;have := HH.out;have := HTL.out;omega));generalize Lib.bytesWorld w1 5 ⟨t.toArray⟩=w1s at hcv2 HSB2 HSR2;clear hb1)
   |(go_at_call 94;refine(HGI.out _ _ HSR2.out).mono ?_;rintro e w2 ⟨v2,rfl,ho2,hb2⟩;obtain⟨a2,c2,rfl⟩:=ho2.rd.form;have HB2:=O (HB1.out.trans ((HSB2.out.trans (hb2.mono HSB2.out.size)).mono HB1.out.size));have HO2:=O ho2;clear ho2 hb2)
   |(refine jJ rfl rfl ?_)
   |(refine aM (T:=47) (bc zB ah) (dM zB) rfl (.tmp 2) (.tmp 41) rfl w.heap.size (bc zB ah) rfl rfl (ey zB) rfl (HRES.out _ HB2.out).1 ?_;intro we hge hoe hbe))
  refine g_ (aA rfl _ _ w.heap.size _ rfl (aX _ _ zB ah _ hge)) rfl ?_;exact⟨by rw[HZ.out,HE.out];rfl,(HRES.out _ HB2.out).2.trans (hbe _ (A_ _))⟩
 ·subst p2
  have i2:¬(h.length:Int)<16:=by omega
  have hs1:=jW h 16 (by omega);rw[←HT.out] at hs1
  have tk1:(h.drop 16).take (h.length-16)=t:=by rw[eE,HT.out]
  have i3:(16:Int)≤h.length:=by omega
  have i4:16≤h.length:=by omega
  have i5:((li.length:Int) != 4)=true:=by rw[bne_iff_ne];omega
  have HE:Hid (blE blob=_):=O (HEX.out.trans ((HQ1.out (by rw[p4];first |decide|assumption)).trans p4));have HZ:=O (HPZ.out (by rw[HE.out];first |decide|assumption));clear p1 p3 p4 HP1 HP2 HPZ HPY HQ1 HUI;have tok1:True:=trivial
  go_enter func46,ntmps46
  go_upto_region 1 with fail
  rw[←HW.out]
  go_wp2_with (first
   |(clear tok1;go_at_call 93;refine HG.out.mono ?_;rintro e w1 ⟨rfl,hb1⟩;have HB1:=O (HSB.out.trans (hb1.mono HSB.out.size));simp only[mH];have hcv2:=cw w1 t;have HSB2:=O (bU w1 t);have HSR2:=O (fo w1 t (by unfold maxLen;have := HH.out;have := HTL.out;omega));generalize Lib.bytesWorld w1 5 ⟨t.toArray⟩=w1s at hcv2 HSB2 HSR2;clear hb1)
   |(go_at_call 94;refine(HGI.out _ _ HSR2.out).mono ?_;rintro e w2 ⟨v2,rfl,ho2,hb2⟩;obtain⟨a2,c2,rfl⟩:=ho2.rd.form;have HB2:=O (HB1.out.trans ((HSB2.out.trans (hb2.mono HSB2.out.size)).mono HB1.out.size));have HO2:=O ho2;clear ho2 hb2)
   |(refine jJ rfl rfl ?_)
   |(refine aM (T:=47) (bc zB ah) (dM zB) rfl (.tmp 2) (.tmp 46) rfl w.heap.size (bc zB ah) rfl rfl (ey zB) rfl (HRES.out _ HB2.out).1 ?_;intro we hge hoe hbe))
  refine g_ (aA rfl _ _ w.heap.size _ rfl (aX _ _ zB ah _ hge)) rfl ?_;exact⟨by rw[HZ.out,HE.out];rfl,(HRES.out _ HB2.out).2.trans (hbe _ (A_ _))⟩
 ·subst p2
  have i2:¬(h.length:Int)<16:=by omega
  have hs1:=jW h 16 (by omega);rw[←HT.out] at hs1
  have tk1:(h.drop 16).take (h.length-16)=t:=by rw[eE,HT.out]
  have i3:(16:Int)≤h.length:=by omega
  have i4:16≤h.length:=by omega
  have i5:((li.length:Int) != 4)=false:=by rw[p3];rfl
  obtain⟨m0,m1,m2,m3,rfl⟩:=Oh p3;have hu:=HUI.out rfl;rw[HTL.out] at hu;obtain⟨rest,hrest⟩:∃rest,rest=t.drop n2:=⟨_,rfl⟩;have HP3:=O (HP2.out rest hrest p1 rfl p4)
  have hrd:rest=h.drop (16+n2):=by rw[hrest,HT.out,List.drop_drop]
  have hs2:=jW h (16+n2) (by omega);rw[←hrd] at hs2;rw[Int.natCast_add] at hs2
  have tk2:List.take (h.length-(16+n2)) (List.drop (16+n2) h)=rest:=by rw[eE,hrd]
  have i6:(16:Int)+n2≤h.length:=by omega
  have i7:16+n2≤h.length:=by omega
  have HRL:Hid (rest.length≤800000):=O (by rw[hrd,S_];have := HH.out;omega)
  have hri:(rest.length:Int)≤800000:=by have := HRL.out;omega
  obtain⟨t2,ht2⟩:∃t2,t2=rest.drop 16:=⟨_,rfl⟩;have HT2:=O ht2;have HTL2:Hid (t2.length=rest.length-16):=O (by rw[ht2,S_]);rw[←ht2] at HP3;clear ht2;have HGB:=O (fun (v:Value) (y:World) (hv:RdE eB y v t2)=>kr v t2 y hv);have HB4:Hid (Ap h rest [m0,m1,m2,m3]=Ap h rest [m0,m1,m2,m3]):=O rfl;generalize aL t2=d3 at HP3 HGB;obtain⟨mo,n3,e3⟩:=d3;simp only at HP3;clear p1 p3 p4 HP1 HP2 HQ1 HUI hu hrest hrd
  rcases HP3.out with⟨q1,q2⟩|⟨q1,q2,q3⟩|q
  ·have i8:(rest.length:Int)<16:=by omega
   have HE:Hid (blE blob=_):=O (HEX.out.trans q2);have HZ:=O (HPZ.out (by rw[HE.out];first |decide|assumption));clear q1 q2 HP3 HPZ HPY;have tok1:True:=trivial
   go_enter func46,ntmps46
   go_upto_region 1 with fail
   rw[←HW.out]
   go_wp2_with (first
    |(clear tok1;go_at_call 93;refine HG.out.mono ?_;rintro e w1 ⟨rfl,hb1⟩;have HB1:=O (HSB.out.trans (hb1.mono HSB.out.size));simp only[mH];have hcv2:=cw w1 t;have HSB2:=O (bU w1 t);have HSR2:=O (fo w1 t (by unfold maxLen;have := HH.out;have := HTL.out;omega));generalize Lib.bytesWorld w1 5 ⟨t.toArray⟩=w1s at hcv2 HSB2 HSR2;clear hb1)
    |(go_at_call 94;refine(HGI.out _ _ HSR2.out).mono ?_;rintro e w2 ⟨v2,rfl,ho2,hb2⟩;obtain⟨a2,c2,rfl⟩:=ho2.rd.form;have HB2:=O (HB1.out.trans ((HSB2.out.trans (hb2.mono HSB2.out.size)).mono HB1.out.size));have HO2:=O ho2;clear ho2 hb2)
    |(refine jJ rfl rfl ?_)
    |(refine aM (T:=47) (bc zB ah) (dM zB) rfl (.tmp 2) (.tmp 54) rfl w.heap.size (bc zB ah) rfl rfl (ey zB) rfl (HRES.out _ HB2.out).1 ?_;intro we hge hoe hbe))
   refine g_ (aA rfl _ _ w.heap.size _ rfl (aX _ _ zB ah _ hge)) rfl ?_;exact⟨by rw[HZ.out,HE.out];rfl,(HRES.out _ HB2.out).2.trans (hbe _ (A_ _))⟩
  ·have j1:(e3 != 0)=true:=by simpa using q2
   have i8:¬(rest.length:Int)<16:=by have := q1;omega
   have hs3:=jW rest 16 (by have := q1;omega);rw[←HT2.out] at hs3
   have tk3:(rest.drop 16).take (rest.length-16)=t2:=by rw[eE,HT2.out]
   have i9:(16:Int)≤rest.length:=by have := q1;omega
   have i10:16≤rest.length:=by have := q1;omega
   have HE:Hid (blE blob=_):=O (HEX.out.trans q3);have HZ:=O (HPZ.out (by rw[HE.out];first |decide|assumption));clear q1 q2 q3 HP3 HPZ HPY;have tok1:True:=trivial
   go_enter func46,ntmps46
   go_upto_region 1 with fail
   rw[←HW.out]
   go_wp2_with (first
    |(clear tok1;go_at_call 93;refine HG.out.mono ?_;rintro e w1 ⟨rfl,hb1⟩;have HB1:=O (HSB.out.trans (hb1.mono HSB.out.size));simp only[mH];have hcv2:=cw w1 t;have HSB2:=O (bU w1 t);have HSR2:=O (fo w1 t (by unfold maxLen;have := HH.out;have := HTL.out;omega));generalize Lib.bytesWorld w1 5 ⟨t.toArray⟩=w1s at hcv2 HSB2 HSR2;clear hb1)
    |(go_at_call 94;refine(HGI.out _ _ HSR2.out).mono ?_;rintro e w2 ⟨v2,rfl,ho2,hb2⟩;obtain⟨a2,c2,rfl⟩:=ho2.rd.form;have HB2:=O (HB1.out.trans ((HSB2.out.trans (hb2.mono HSB2.out.size)).mono HB1.out.size));have HO2:=O ho2;clear ho2 hb2;have hcv3:=cw w2 t2;have HSB3:=O (bU w2 t2);have HSR3:=O (fo w2 t2 (by unfold maxLen;have := HRL.out;have := HTL2.out;omega));generalize Lib.bytesWorld w2 5 ⟨t2.toArray⟩=w2s at hcv3 HSB3 HSR3)
    |(go_at_call 93;refine(HGB.out _ _ HSR3.out).mono ?_;rintro e w3 ⟨rfl,hb3⟩;have hb23:=HSB3.out.trans (hb3.mono HSB3.out.size);have HB3:=O (HB2.out.trans (hb23.mono HB2.out.size));have HO3:=O (HO2.out.on hb23);simp only[mH];clear hb3 hb23)
    |(refine jJ rfl rfl ?_)
    |(refine aM (T:=47) (bc zB ah) (dM zB) rfl (.tmp 2) (.tmp 65) rfl w.heap.size (bc zB ah) rfl rfl (ey zB) rfl (HRES.out _ HB3.out).1 ?_;intro we hge hoe hbe))
   refine g_ (aA rfl _ _ w.heap.size _ rfl (aX _ _ zB ah _ hge)) rfl ?_;exact⟨by rw[HZ.out,HE.out];rfl,(HRES.out _ HB3.out).2.trans (hbe _ (A_ _))⟩
  ·have hq1:¬rest.length<16:=by rcases q with q|q|q <;> exact q.1
   have hq2:e3=0:=by rcases q with q|q|q <;> exact q.2.1
   subst hq2
   have i8:¬(rest.length:Int)<16:=by have := hq1;omega
   have hs3:=jW rest 16 (by have := hq1;omega);rw[←HT2.out] at hs3
   have tk3:(rest.drop 16).take (rest.length-16)=t2:=by rw[eE,HT2.out]
   have i9:(16:Int)≤rest.length:=by have := hq1;omega
   have i10:16≤rest.length:=by have := hq1;omega
   obtain⟨bk,hbk⟩:∃bk,bk=Ap h rest [m0,m1,m2,m3] mo:=⟨_,rfl⟩;rw[←hbk] at q;have HBK:=O hbk;have HHL2:=O i2;have HRL2:=O hq1;have HQ:=O q;have HVR:=O (fun (y:World)=>rg bk ah [] y (gF y));clear q hbk hq1 HP3;have tok1:True:=trivial
   go_enter func46,ntmps46
   go_upto_region 1 with fail
   rw[←HW.out]
   go_upto_region 17 with (first
    |(clear tok1;go_at_call 93;refine HG.out.mono ?_;rintro e w1 ⟨rfl,hb1⟩;have HB1:=O (HSB.out.trans (hb1.mono HSB.out.size));simp only[mH];have hcv2:=cw w1 t;have HSB2:=O (bU w1 t);have HSR2:=O (fo w1 t (by unfold maxLen;have := HH.out;have := HTL.out;omega));generalize Lib.bytesWorld w1 5 ⟨t.toArray⟩=w1s at hcv2 HSB2 HSR2;clear hb1)
    |(go_at_call 94;refine(HGI.out _ _ HSR2.out).mono ?_;rintro e w2 ⟨v2,rfl,ho2,hb2⟩;obtain⟨a2,c2,rfl⟩:=ho2.rd.form;have HB2:=O (HB1.out.trans ((HSB2.out.trans (hb2.mono HSB2.out.size)).mono HB1.out.size));have HO2:=O ho2;clear ho2 hb2;have hcv3:=cw w2 t2;have HSB3:=O (bU w2 t2);have HSR3:=O (fo w2 t2 (by unfold maxLen;have := HRL.out;have := HTL2.out;omega));generalize Lib.bytesWorld w2 5 ⟨t2.toArray⟩=w2s at hcv3 HSB3 HSR3)
    |(go_at_call 93;refine(HGB.out _ _ HSR3.out).mono ?_;rintro e w3 ⟨rfl,hb3⟩;have hb23:=HSB3.out.trans (hb3.mono HSB3.out.size);have HB3:=O (HB2.out.trans (hb23.mono HB2.out.size));have HO3:=O (HO2.out.on hb23);simp only[mH];clear hb3 hb23))
   rw[tk2];obtain⟨b2,o2,hae,hbl2,hrow2⟩:=iE HO3.out.rd (by simp);subst hae;have HROW2:=O hrow2;clear hrow2
   try dsimp only[Act.put]
   refine aY 19 [[],[0],[],[2],[3],[],[5],[6],[],[8],[9],[],[11],[12],[],[14],[],[1,4,7,10,13,15,16],[]] (SP.of [.eq (.string ⟨h.toArray⟩),.eq (.agg (am bk.dom)),.eq (.slice (some ⟨b2,o2,none⟩) [m0,m1,m2,m3].length c2),.eq (.pointer (some ⟨b2,o2,none⟩)),.eq (.int .i64 m0),.eq (.slice (some ⟨b2,o2,none⟩) [m0,m1,m2,m3].length c2),.eq (.pointer (some ⟨b2,o2+1,none⟩)),.eq (.int .i64 m1),.eq (.slice (some ⟨b2,o2,none⟩) [m0,m1,m2,m3].length c2),.eq (.pointer (some ⟨b2,o2+2,none⟩)),.eq (.int .i64 m2),.eq (.slice (some ⟨b2,o2,none⟩) [m0,m1,m2,m3].length c2),.eq (.pointer (some ⟨b2,o2+3,none⟩)),.eq (.int .i64 m3),.eq (.string ⟨rest.toArray⟩),.eq (.agg (am bk.pol)),.eq (.string ⟨mo.toArray⟩),.eq (.agg (bc bk ah)),.fresh w3.heap.size (bc zB ah) 47]) (fun _=>undef) ?h1 ?h2 ?h3 ?h4 ?h5 ?h6
   case h1=>kernel_rfl
   case h2=>kernel_rfl
   case h3=>kernel_rfl
   case h4 =>
    simp only[F_,c_]
    repeat (first |exact trivial|refine⟨fun vals v=>by kernel_rfl,?_⟩)
   case h5 =>
    simp only[F_,c_];refine⟨?_,?_,?_,?_,?_,?_,?_,?_,?_,?_,?_,?_,?_,?_,?_,?_,?_,?_,?_,trivial⟩
    all_goals (intro wq hbq vals;simp only[Nat.reduceAdd,a_,X_,W_];have HBQ:=O hbq;clear hbq;repeat (first |refine ar ?_|refine aw rfl ?_);intro Q hQ;simp only[ay,upd,Act.put,B_,C_,D_,Nat.reduceAdd,a_,Nat.reduceEqDiff,if_true,if_false,reduceIte])
    case refine_2 =>
     have hd:h.take 16=bk.dom:=by rw[HBK.out];rfl
     go_wp2_with (go_at_call 95;refine(AH h (by have := HHL2.out;omega) wq).mono ?_;rintro e x1 ⟨rfl,hx1⟩;rw[hd])
     exact ab hQ _ (by kernel_rfl) hx1 rfl
    case refine_16 =>
     have hd:rest.take 16=bk.pol:=by rw[HBK.out];rfl
     go_wp2_with (go_at_call 95;refine(AH rest HRL2.out wq).mono ?_;rintro e x1 ⟨rfl,hx1⟩;rw[hd])
     exact ab hQ _ (by kernel_rfl) hx1 rfl
    case refine_5 =>
     have c:wq.cell? ⟨b2,o2,none⟩=some (.int .i64 m0):=by rw[HBQ.out.cell (p:=⟨b2,o2,none⟩) hbl2];exact HROW2.out 0 (by simp)
     go_wp2;exact ab hQ _ (by kernel_rfl) (O_ _ _) rfl
    case refine_8 =>
     have c:wq.cell? ⟨b2,o2+1,none⟩=some (.int .i64 m1):=by rw[HBQ.out.cell (p:=⟨b2,o2+1,none⟩) hbl2];exact HROW2.out 1 (by simp)
     go_wp2;exact ab hQ _ (by kernel_rfl) (O_ _ _) rfl
    case refine_11 =>
     have c:wq.cell? ⟨b2,o2+2,none⟩=some (.int .i64 m2):=by rw[HBQ.out.cell (p:=⟨b2,o2+2,none⟩) hbl2];exact HROW2.out 2 (by simp)
     go_wp2;exact ab hQ _ (by kernel_rfl) (O_ _ _) rfl
    case refine_14 =>
     have c:wq.cell? ⟨b2,o2+3,none⟩=some (.int .i64 m3):=by rw[HBQ.out.cell (p:=⟨b2,o2+3,none⟩) hbl2];exact HROW2.out 3 (by simp)
     go_wp2;exact ab hQ _ (by kernel_rfl) (O_ _ _) rfl
    case refine_18 =>
     have e0:Hid (m0=bk.ep):=O (by rw[HBK.out];rfl);have e1:Hid (m1=bk.num):=O (by rw[HBK.out];rfl);have e2:Hid (m2=bk.fw):=O (by rw[HBK.out];rfl);have e3:Hid (m3=bk.tm):=O (by rw[HBK.out];rfl);have e4:Hid (mo=bk.mo):=O (by rw[HBK.out];rfl)
     go_wp2_with (refine RJ bk rfl (.tmp 68) (.tmp 71) (.tmp 74) (.tmp 77) (.tmp 80) (.tmp 82) (.tmp 83) rfl rfl (by rw[←e0.out];rfl) (by rw[←e1.out];rfl) (by rw[←e2.out];rfl) (by rw[←e3.out];rfl) rfl (by rw[←e4.out];rfl) ?_)
     exact ab hQ _ (by kernel_rfl) (O_ _ _) rfl
    case refine_19 =>
     have hz2:=fh;go_wp2;exact ab hQ _ (by kernel_rfl) ((O_ _ _).alloc (A_ _) _) ⟨wq.heap.size,rfl,HBQ.out.size,al _ _ _ rfl⟩
    all_goals go_wp2
    all_goals exact ab hQ _ (by kernel_rfl) (O_ _ _) rfl
   case h6 =>
    intro wq hbq vals;rw[show List.range 19=[0,1,2,3,4,5,6,7,8,9,10,11,12,13,14,15,16,17,18] from by decide]
    repeat (first |refine aw rfl ?_)
    refine aG rfl ?_;rintro _ ⟨g,rfl,hg1,hg2⟩;refine ar ?_;simp only[F_,c_,J_,L_];simp only[ay,upd,Act.put,B_,C_,D_,Nat.reduceAdd,a_,Nat.reduceEqDiff,if_true,if_false,reduceIte];have HBQ:=O (HB3.out.trans (hbq.mono HB3.out.size));have HG2:=O hg2;have HGW:Hid (w.heap.size<g):=O (P_ (Q_.1 (HRES.out _ HB3.out).1).1 hg1);have HW0G:Hid (W0.heap.size≤g):=O (M_ HB3.out.size hg1);clear hbq hg1 hg2 HROW2 HO2 HO3 hbl2;have tok2:True:=trivial;have tok3:True:=trivial;have HVX:=HVR
    rcases HQ.out with⟨_,_,q3,q4⟩|⟨_,_,q3,q4,q5⟩|⟨_,_,q3,q4,q5,q6⟩
    ·have j2:((n3:Int) != (rest.length:Int)-16)=true:=by rw[bne_iff_ne];omega
     have HE:Hid (blE blob=_):=O (HEX.out.trans q4);have HZ:=O (HPZ.out (by rw[HE.out];first |decide|assumption));generalize aI bk []=vb at HVX;clear q3 q4 HQ HPZ HPY HVR
     go_wp2_with (first
      |(clear tok2;refine aM (T:=47) (bc bk ah) (dM bk) rfl (.tmp 14) (.tmp 84) rfl g (bc zB ah) rfl rfl (ey bk) (by rw[aC,aC]) HG2.out ?_;intro w5 hg5 ho5 hb5;have HG5:=O hg5;have HB5:=O (HBQ.out.trans (hb5 _ HW0G.out));clear hg5 ho5 hb5)
      |(clear tok3;refine cH bk ah rfl (.tmp 14) rfl g rfl _ HG5.out ?_)
      |(go_at_call 80;refine(HVX.out _).mono ?_;rintro e w6 ⟨rfl,hb6⟩;have HG6:Hid (w6.heap[g]?=some (.cells (bc bk ah) 47 (0,0))):=(O (by rw[hb6.block _ (Q_.1 HG5.out).1];exact HG5.out));have HB6:=O (HB5.out.trans (hb6.mono HB5.out.size));clear hb6)
      |(refine jJ rfl rfl ?_)
      |(refine aM (T:=47) (bc zB ah) (dM zB) rfl (.tmp 2) (.tmp 96) rfl w.heap.size (bc zB ah) rfl rfl (ey zB) rfl (HRES.out _ HB6.out).1 ?_;intro we hge hoe hbe))
     refine g_ (aA rfl _ _ w.heap.size _ rfl (aX _ _ zB ah _ hge)) rfl ?_;exact⟨by rw[HZ.out,HE.out];rfl,(HRES.out _ HB6.out).2.trans (hbe _ (A_ _))⟩
    ·have j2:((n3:Int) != (rest.length:Int)-16)=false:=by rw[bne_eq_false_iff_eq];omega
     have HE:Hid (blE blob=_):=O (HEX.out.trans q5);have HZ:=O (HPZ.out (by rw[HE.out];first |decide|assumption));rw[q4] at HVX;clear q3 q4 q5 HQ HPZ HPY HVR
     go_wp2_with (first
      |(clear tok2;refine aM (T:=47) (bc bk ah) (dM bk) rfl (.tmp 14) (.tmp 84) rfl g (bc zB ah) rfl rfl (ey bk) (by rw[aC,aC]) HG2.out ?_;intro w5 hg5 ho5 hb5;have HG5:=O hg5;have HB5:=O (HBQ.out.trans (hb5 _ HW0G.out));clear hg5 ho5 hb5)
      |(clear tok3;refine cH bk ah rfl (.tmp 14) rfl g rfl _ HG5.out ?_)
      |(go_at_call 80;refine(HVX.out _).mono ?_;rintro e w6 ⟨rfl,hb6⟩;have HG6:Hid (w6.heap[g]?=some (.cells (bc bk ah) 47 (0,0))):=(O (by rw[hb6.block _ (Q_.1 HG5.out).1];exact HG5.out));have HB6:=O (HB5.out.trans (hb6.mono HB5.out.size));clear hb6)
      |(refine jJ rfl rfl ?_)
      |(refine aM (T:=47) (bc zB ah) (dM zB) rfl (.tmp 2) (.tmp 96) rfl w.heap.size (bc zB ah) rfl rfl (ey zB) rfl (HRES.out _ HB6.out).1 ?_;intro we hge hoe hbe))
     refine g_ (aA rfl _ _ w.heap.size _ rfl (aX _ _ zB ah _ hge)) rfl ?_;exact⟨by rw[HZ.out,HE.out];rfl,(HRES.out _ HB6.out).2.trans (hbe _ (A_ _))⟩
    ·have j2:((n3:Int) != (rest.length:Int)-16)=false:=by rw[bne_eq_false_iff_eq];omega
     have HE:Hid (blE blob=0):=O (HEX.out.trans q5);have HZ:Hid (pb=bk):=O (by rw[HPY.out HE.out,HBB.out,q6]);rw[q4] at HVX;clear q3 q4 q5 q6 HQ HPZ HPY HVR
     go_wp2_with (first
      |(clear tok2;refine aM (T:=47) (bc bk ah) (dM bk) rfl (.tmp 14) (.tmp 84) rfl g (bc zB ah) rfl rfl (ey bk) (by rw[aC,aC]) HG2.out ?_;intro w5 hg5 ho5 hb5;have HG5:=O hg5;have HB5:=O (HBQ.out.trans (hb5 _ HW0G.out));clear hg5 ho5 hb5)
      |(clear tok3;refine cH bk ah rfl (.tmp 14) rfl g rfl _ HG5.out ?_)
      |(go_at_call 80;refine(HVX.out _).mono ?_;rintro e w6 ⟨rfl,hb6⟩;have HG6:Hid (w6.heap[g]?=some (.cells (bc bk ah) 47 (0,0))):=(O (by rw[hb6.block _ (Q_.1 HG5.out).1];exact HG5.out));have HB6:=O (HB5.out.trans (hb6.mono HB5.out.size));clear hb6)
      |(refine cH bk ah rfl (.tmp 14) rfl g rfl _ HG6.out ?_)
      |(refine aM (T:=47) (bc bk ah) (dM bk) rfl (.tmp 2) (.tmp 97) rfl w.heap.size (bc zB ah) rfl rfl (ey bk) (by rw[aC,aC]) (HRES.out _ HB6.out).1 ?_;intro we hge hoe hbe))
     refine g_ (aA rfl _ _ w.heap.size _ rfl (aX _ _ bk ah _ hge)) rfl ?_;exact⟨by rw[HZ.out,HE.out];rfl,(HRES.out _ HB6.out).2.trans (hbe _ (A_ _))⟩
end
end Go.Proofs.YtmfiaadjdbemnaaGreatDoor
