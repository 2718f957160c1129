/- The law DomainSplitsAndMerges holds for every input: it returns true and leaves its arguments as they were. No condition. -/
import Derived.Test.YtmfiaadjdbemnaaGreatDoorLSm07
import Derived.SevenTiedAt
import Derived.Test.YtmfiaadjdbemnaaGreatDoorCards
import Derived.Test.YtmfiaadjdbemnaaGreatDoorTie
set_option maxRecDepth 100000
set_option maxHeartbeats 8000000
set_option linter.unusedSimpArgs false
set_option linter.unusedVariables false
namespace Go.Proofs.YtmfiaadjdbemnaaGreatDoor
open Go.Proofs.Tryz
section
open Go.ChangeShapes Go.WideShapes Go.ChangeAt Go.RowKit
open Go.ChangeMaps (open_string shut_string)
attribute [local irreducible] Calls doA ag tbA sb bE fdP ptA zPA am smI smV smT smX smD ddK
theorem jM (n0 : Int) (u0 : Value) (a0 : List K) (a1 : Int) (a2 : ByteArray) (a3 : Int) (w : World) (x0 : (Lit.int .i64 n0).wf = true) (w0 : RdK w u0 a0) (f0 : cQ a0) (w1 : (Lit.int .u16 a1).wf = true) (w2 : a2.size ≤ maxLen) (w3 : (Lit.int .i64 a3).wf = true) (htab : KAt w) :
  Calls prog 8 #[.agg #[.int .i64 n0,u0],.int .u16 a1,.string a2,.int .i64 a3] w fun e w'=>e = .returned (.bool true)∧Below w.heap.size w w':=by
 obtain⟨sd,rfl⟩:=vW a2;have TK0:=O w0;obtain⟨ta,tc,rfl,_,_,_⟩:=id w0;obtain⟨W0,hW0⟩:∃W0,W0=w.alloc (.cells #[.int .i64 n0,(.slice ta a0.length tc)] 45):=⟨_,rfl⟩;have HW:=O hW0
 have hb0:Below w.heap.size w W0:=by rw[hW0];exact cJ _ _ (O_ _ _)
 have ST:Hid (bS fun y=>(Below w.heap.size w y)∧(y.heap[w.heap.size]?=some (.cells (tbA n0 (.slice ta a0.length tc)) 45 (0,0)))∧(RdK y (.slice ta a0.length tc) a0)):=O ((bS.b w).and ((bS.row _ _ _).and (bS.rdK _ _)));have HJ:Hid ((Below w.heap.size w W0)∧(W0.heap[w.heap.size]?=some (.cells (tbA n0 (.slice ta a0.length tc)) 45 (0,0)))∧(RdK W0 (.slice ta a0.length tc) a0)):=O ⟨hb0,by rw[hW0,DL];exact heap_alloc_new _ _,TK0.out.on hb0⟩;have HK:Hid (∀y,Below w.heap.size w y→KAt y):=O (fun y h=>htab.on h);have HS:=O (fun (y:World) (a:KAt y)=>mf y a);have HFW:=O (fun (y:World) (h:RdK y (.slice ta a0.length tc) a0)=>D5 n0 (.slice ta a0.length tc) a0 y h);have hzero_do:=iy;have hzero_rc:=fi;have hzero_bk:=fh;have hzero_pt:=tV;have hzero_tb:=rq;have hzero_kk:=oz;clear hW0 htab TK0 w0 w1 w2 w3 hb0 x0;have tok1:True:=trivial;have tok2:True:=trivial;have tok3:True:=trivial;have tok4:True:=trivial;have tok5:True:=trivial
 cases hf:oC n0 a0 zB [] with
 | false =>
   rw[hf] at HFW;clear hf
   go_enter func8,ntmps8
   go_upto_region 1 with fail
   rw[←HW.out]
   try dsimp only[Act.put]
   go_wp2_with (first
    |(clear tok1;go_at_call 9;refine(HS.out _ (HK.out _ (HJ.out.1))).mono ?_;rintro e yy ⟨rfl,hb⟩;replace HJ:=O (ST.out.on _ _ HJ.out hb);clear hb)
    |(clear tok2;go_at_call 17;refine(HFW.out _ (HJ.out.2.2)).mono ?_;rintro e yy ⟨rfl,hb⟩;replace HJ:=O (ST.out.on _ _ HJ.out hb);clear hb)
    |(refine dw n0 (.slice ta a0.length tc) ?r1 (.tmp 4) ?r2 w.heap.size ?r3 _ (HJ.out.2.1) ?_;(case r2=>exact rfl);(case r1=>exact rfl);(case r3=>exact rfl))
    |(refine lD ?r1 ?r2 ?_;(case r2=>exact rfl);(case r1=>exact rfl)))
   go_ret;exact⟨rfl,(HJ.out.1)⟩
 | true =>
   rw[hf] at HFW;have hvt:=uU hf;have hln:=AX hf;clear hf
   rcases Nat.lt_or_ge 100 sd.length with hl|hl
   ·have i1:(100:Int)<(sd.length:Int):=by omega
    clear hl
    go_enter func8,ntmps8
    go_upto_region 1 with fail
    rw[←HW.out]
    try dsimp only[Act.put]
    go_wp2_with (first
     |(clear tok1;go_at_call 9;refine(HS.out _ (HK.out _ (HJ.out.1))).mono ?_;rintro e yy ⟨rfl,hb⟩;replace HJ:=O (ST.out.on _ _ HJ.out hb);clear hb)
     |(clear tok2;go_at_call 17;refine(HFW.out _ (HJ.out.2.2)).mono ?_;rintro e yy ⟨rfl,hb⟩;replace HJ:=O (ST.out.on _ _ HJ.out hb);clear hb)
     |(refine dw n0 (.slice ta a0.length tc) ?r1 (.tmp 4) ?r2 w.heap.size ?r3 _ (HJ.out.2.1) ?_;(case r2=>exact rfl);(case r1=>exact rfl);(case r3=>exact rfl))
     |(refine lD ?r1 ?r2 ?_;(case r2=>exact rfl);(case r1=>exact rfl)))
    go_ret;exact⟨rfl,(HJ.out.1)⟩
   have i1:¬(100:Int)<(sd.length:Int):=by omega
   obtain⟨P,hP⟩:∃P:Nat→Bool,∀i:Nat,(bits BinOp.and IntKind.u16 (a1 / 2 ^ i) 1 == 1)=P i:=⟨_,fun i=>rfl⟩;have HP:=O hP;have HLN:=O hln;have HVT:=O hvt;have HF:=O f0;have HL:=O hl
   have hn12:(a0.length:Int)≤12:=by omega
   have HSP:=O (fun (hne:smI P a0≠[]) (vi:Value) (y:World) (a:KAt y) (h:RdK y (.slice ta a0.length tc) a0) (h2:RdE eI y vi (smI P a0))=>PR (s:=sd) P hvt f0 hln hl hne (.slice ta a0.length tc) vi y a h h2);have HNW:=O (fun (y:World) (a:KAt y)=>PO sd hl y a);have HM1:=O (fun (he:dEq (bE sd).id (bE (nx3 sd)).id=true) (vl:Value) (y:World) (a:KAt y) (h:RdE eH y vl (fdP (nxS sd) 0 [0]))=>TN (s:=sd) P a3 hvt f0 hln he vl y a h);have HM2:=O (fun (he:dEq (bE sd).id (bE (nx3 sd)).id=false) (vl:Value) (y:World) (a:KAt y) (h:RdE eH y vl (fdP (nxS sd) 0 [0]))=>TO (s:=sd) P a3 hvt f0 hln he vl y a h);have HM3:=O (fun (he:dEq (bE sd).id (bE (nx3 sd)).id=false) (n:Int) (v vl:Value) (y:World) (a:KAt y) (hv:RdK y v (smD P a3 a0)) (h:RdE eH y vl (fdP (nxS sd) 0 [0]))=>TP (s:=sd) P a3 hvt f0 hln he n v vl y a hv h);unfold smD at HM2 HM3;have HTN:=O (fun (i:Nat) (hi:i<a0.length)=>LW P a0 i hi);have HSUM:=O (TM P a0);have HID2:Hid (({ bE sd with bk:=0+1 }:DO).id=(bE sd).id):=O rfl;generalize bE sd=D at HSP HM1 HM2 HM3 HID2;generalize { D with bk:=0+1 }=D2 at HSP HID2;generalize smX sd P a0=X at HSP HM1 HM2 HM3;generalize bE (nx3 sd)=E at HNW HM1 HM2 HM3;generalize nx3 sd=r3 at HSP HNW;generalize fdP (nxS sd) 0 [0]=SL at HSP HM1 HM2 HM3;clear hP hvt hln hl f0;have hlv:=fun (k:K) (y:World)=>E7 k a3 y;have HLV:=O hlv;clear hlv
   go_enter func8,ntmps8
   go_upto_region 1 with fail
   rw[←HW.out]
   try dsimp only[Act.put]
   go_upto_region 6 with (first
    |(clear tok1;go_at_call 9;refine(HS.out _ (HK.out _ (HJ.out.1))).mono ?_;rintro e yy ⟨rfl,hb⟩;replace HJ:=O (ST.out.on _ _ HJ.out hb);clear hb)
    |(clear tok2;go_at_call 17;refine(HFW.out _ (HJ.out.2.2)).mono ?_;rintro e yy ⟨rfl,hb⟩;replace HJ:=O (ST.out.on _ _ HJ.out hb);clear hb)
    |(refine dw n0 (.slice ta a0.length tc) ?r1 (.tmp 4) ?r2 w.heap.size ?r3 _ (HJ.out.2.1) ?_;(case r2=>exact rfl);(case r1=>exact rfl);(case r3=>exact rfl))
    |(refine lD ?r1 ?r2 ?_;(case r2=>exact rfl);(case r1=>exact rfl)))
   have HJ1:=O HJ.out;go_wp2
   go_loopw [12,10,11] (fun o12 o10 o11 wr=>∃i:Nat,i≤a0.length∧o12 = .int .i64 i∧Hid (ap eI wr yy.heap.size o10 (smI P (a0.take i)))∧Hid (ap eK wr yy.heap.size o11 (smV P a3 (a0.take i)))∧Hid (Below yy.heap.size yy wr)) (fun o12 _ _ _=>a0.length-(intOf o12).toNat)
   case atStart=>exact⟨0,N_ _,rfl,O (by rw[PI];exact ap.nil _ _),O (by rw[PM];exact ap.nil _ _),O (O_ _ _)⟩
   case round =>
    obtain⟨i,hi,rfl,ho10,ho11,hb⟩:=hrel;have HR:=O (ST.out.on _ _ HJ1.out hb.out);have t1:=(e_ _ _ 1 _ _ _ (HR.out.2.1)).trans (zS n0 (.slice ta a0.length tc))
    by_cases hlt:i<a0.length
    ·have i2 : (i : Int) < a0.length := by omega
     obtain⟨bb,off,rfl,hbl,aO⟩:=((HR.out.2.2)).cells (by omega);obtain⟨d0,_,_,_,_,_,_,_,_⟩:=aO i hlt;have HRG:Hid (∀y,RdK y (.slice (some ⟨bb,off,none⟩) a0.length tc) a0→y.rangeAt bb (off+i*9) (kc (ae a0 i)).toList):=O (zw hlt);have HLT:=O hlt;have hpi:=HP.out i;have HNI:=O (LV P a0 i hlt);have HNV:=O (LX P a3 a0 i hlt);have HII:Hid ((smI P (a0.take i)).length≤12):=O (TI P a0 i HLN.out);have HVV:Hid ((smV P a3 (a0.take i)).length≤12):=O (TJ P a3 a0 i HLN.out);generalize ae a0 i=ky at d0 HRG HNI HNV;have hlv:=HLV.out ky;have HLVK:=O hlv;clear aO hlt hlv
     cases hp:P i with
     | false =>
       rw[hp] at hpi HNI HNV;simp only[Bool.false_and,Bool.false_eq_true,if_false] at HNI HNV;clear hp;go_wp2;go_roundw
       case rel=>exact⟨i+1,HLT.out,by go_num,O (by rw[HNI.out];exact ho10.out),O (by rw[HNV.out];exact ho11.out),hb⟩
       case measure=>have := HLT.out;simp[intOf];omega
     | true =>
       rw[hp] at hpi HNI HNV;simp only[Bool.true_and,if_true] at HNI HNV;clear hp;have HNE:=O (ho11.out.neOwn ho10.out (by decide));have HA:Hid (Below wr.heap.size wr (wr.alloc (.cells #[.int .i64 ky.id] 3))):=O ((O_ wr.heap.size wr).alloc (A_ _) _)
       go_upto_region 11 with (at_builtin;refine br iB rfl (.tmp 56) (.tmp 63) rfl yy.heap.size _ _ rfl (ho10.out.on HA.out) (.slice (some ⟨wr.heap.size,0,none⟩) 1 1) [ky.id] rfl (bP wr ky.id iB) (by have := HII.out;simp;omega) (M_ hb.out.size HA.out.size) ?_;intro v8 y8 ho8 hg8 hl8;have HO8:=O ho8;have HG8:=O hg8;clear ho8 hg8 hl8)
       have HB8:Hid (Below yy.heap.size yy y8):=O ((hb.out.trans (HA.out.mono hb.out.size)).trans ((ho10.out.on HA.out).below HG8.out (M_ hb.out.size HA.out.size)));have HV8:Hid (ap eK y8 yy.heap.size u11 (smV P a3 (a0.take i))):=O ((ho11.out.on HA.out).grown HG8.out HNE.out);rw[←HNI.out] at HO8;clear t1 d0 HR HNE HG8 HA ho10 ho11 hb HNI HII;have HR8:=O (ST.out.on _ _ HJ1.out HB8.out);have t1:=(e_ _ _ 1 _ _ _ (HR8.out.2.1)).trans (zS n0 (.slice (some ⟨bb,off,none⟩) a0.length tc))
       cases hlv:dW a3 ky with
       | false =>
         rw[hlv] at HNV HLVK;simp only[Bool.false_eq_true,if_false] at HNV;clear hlv;unfold kv at HLVK
         go_wp2_with (first
          |(refine Kn ky bb (off+i*9) (.tmp 74) ?r1 (HRG.out _ (HR8.out.2.2)) ?r2 ?r3 ?_;(case r1=>exact rfl);(case r2=>exact rfl);(case r3=>exact rfl))
          |(go_at_call 31;refine(HLVK.out _).mono ?_;rintro e y9 ⟨rfl,hb⟩;have HB9:=O (HB8.out.trans (hb.mono HB8.out.size));have HO9:=O (HO8.out.on hb);have HV9:=O (HV8.out.on hb);have HR9:=O (ST.out.on _ _ HJ1.out HB9.out);clear hb))
         go_roundw
         case rel=>exact⟨i+1,HLT.out,by go_num,HO9,O (by rw[HNV.out];exact HV9.out),HB9⟩
         case measure=>have := HLT.out;simp[intOf];omega
       | true =>
         rw[hlv] at HNV HLVK;simp only[if_true] at HNV;clear hlv;unfold kv at HLVK
         go_upto_region 12 with (first
          |(refine Kn ky bb (off+i*9) (.tmp 74) ?r1 (HRG.out _ (HR8.out.2.2)) ?r2 ?r3 ?_;(case r1=>exact rfl);(case r2=>exact rfl);(case r3=>exact rfl))
          |(go_at_call 31;refine(HLVK.out _).mono ?_;rintro e y9 ⟨rfl,hb⟩;have HB9:=O (HB8.out.trans (hb.mono HB8.out.size));have HO9:=O (HO8.out.on hb);have HV9:=O (HV8.out.on hb);have HR9:=O (ST.out.on _ _ HJ1.out HB9.out);clear hb))
         clear t1 HO8 HV8 HR8 HB8;have t1:=(e_ _ _ 1 _ _ _ (HR9.out.2.1)).trans (zS n0 (.slice (some ⟨bb,off,none⟩) a0.length tc));have HA:Hid (Below y9.heap.size y9 (y9.alloc (.cells (kc ky) 86))):=O ((O_ y9.heap.size y9).alloc (A_ _) _);have HAR:Hid (RdE eK (y9.alloc (.cells (kc ky) 86)) (.slice (some ⟨y9.heap.size,0,none⟩) 1 1) [ky]):=O (Fi (heap_alloc_new _ _));have HNE:=O (HO9.out.neOwn HV9.out (by decide))
         go_wp2_with (first
          |(refine Kn ky bb (off+i*9) (.tmp 83) ?r1 (HRG.out _ (HR9.out.2.2)) ?r2 ?r3 ?_;(case r1=>exact rfl);(case r2=>exact rfl);(case r3=>exact rfl))
          |(refine CG ky ?r1 (.tmp 84) ?r2 ?r3 ?_;(case r2=>exact rfl);(case r1=>exact rfl);(case r3=>exact rfl))
          |(at_builtin;refine br AN rfl (.tmp 79) (.tmp 85) rfl yy.heap.size _ _ rfl (HV9.out.on HA.out) (.slice (some ⟨y9.heap.size,0,none⟩) 1 1) [ky] rfl HAR.out (by have := HVV.out;simp;omega) (M_ HB9.out.size HA.out.size) ?_;intro v7 y7 ho7 hg7 hl7;have HO7:=O ho7;have HG7:=O hg7;clear ho7 hg7 hl7))
         have HB7:Hid (Below yy.heap.size yy y7):=O ((HB9.out.trans (HA.out.mono HB9.out.size)).trans ((HV9.out.on HA.out).below HG7.out (M_ HB9.out.size HA.out.size)));have HI7:=O ((HO9.out.on HA.out).grown HG7.out HNE.out);go_roundw
         case rel=>exact⟨i+1,HLT.out,by go_num,HI7,O (by rw[HNV.out];exact HO7.out),HB7⟩
         case measure=>have := HLT.out;simp[intOf];omega
    ·have i2 : ¬ (i : Int) < a0.length := by omega
     have i3:(a0.length:Int)≤i:=by omega
     go_upto_region 13 with fail
     have he:a0.take i=a0:=Y_ (by omega);rw[he] at ho10 ho11;obtain⟨ia,ic,rfl⟩:=ho10.out.rd.form;obtain⟨va,vc,rfl⟩:=ho11.out.rd.form;have HVL:=O (zL P a3 a0);have HVK:=O ho11.out.rd;have HIK:=O ho10.out.rd;replace HJ:=HR;clear he;replace HJ:=HR;clear HJ1 HR ho10 ho11 t1 i2;have HX0:=hb;clear hb hi
     as_aux_lemma =>
      replace HJ:=O (And.intro HJ.out HIK.out);replace ST:=O (ST.out.and (bS.rdE eI (.slice ia (smI P a0).length ic) (smI P a0)));replace HJ:=O (And.intro HJ.out HVK.out);replace ST:=O (ST.out.and (bS.rdE eK (.slice va (smV P a3 a0).length vc) (smV P a3 a0)));clear HIK HVK HX0
      rcases Nat.eq_zero_or_pos (smI P a0).length with h0|h0
      ·have e1:(((smI P a0).length:Int) == 0)=true:=by rw[beq_iff_eq];omega
       clear h0;go_wp2;go_ret;exact⟨rfl,(HJ.out.1.1.1)⟩
      have e1:(((smI P a0).length:Int) == 0)=false:=by rw[U_];omega
      have HSPL:=O (HSP.out (fun h=>by rw[h] at h0;simp at h0));clear HSP h0;generalize smV P a3 a0=V at HJ ST HM2 HM3 HVL ⊢;generalize smT P a0=TT at HSPL HSUM HTN;generalize smI P a0=I at HJ ST HSPL HSUM e1 ⊢
      go_upto_region 16 with (first
       |(refine dw n0 (.slice ta a0.length tc) ?r1 (.tmp 4) ?r2 w.heap.size ?r3 _ (HJ.out.1.1.2.1) ?_;(case r2=>exact rfl);(case r1=>exact rfl);(case r3=>exact rfl))
       |(refine CB ?r1 (.const (.string ⟨#[109]⟩)) ?r2 ?r3 ?_;(case r2=>exact rfl);(case r1=>exact rfl);(case r3=>exact rfl))
       |(refine oS sd ?r1 (.tmp 95) ?r2 ?r3 ?_;(case r2=>exact rfl);(case r1=>exact rfl);(case r3=>exact rfl))
       |(go_at_call 24;refine(HSPL.out _ _ (HK.out _ (HJ.out.1.1.1)) (HJ.out.1.1.2.2) (HJ.out.1.2)).mono ?_;rintro e yy ⟨b1,c1,b2,c2,b3,k3,c3,rfl,⟨hkt,hks⟩,hb⟩;replace HJ:=O (ST.out.on _ _ HJ.out hb);have HKT:=O hkt;have HKS:=O hks;clear hkt hks;clear hb)
       |(refine aM (T:=63) (ptA n0 (.slice b1 TT.length c1) D2 (.slice b2 1 c2) X (.slice b3 k3 c3)) (qz _ _ _ _ _ _) ?r1 (.tmp 13) (.tmp 98) ?r2 yy.heap.size zPA ?r3 ?r4 (nS _ _ _ _ _ _ _ _ _ _ _ _) (Tm _ _ _ _ _ _) (eP _ _ _) ?_;(case r2=>exact rfl);(case r1=>exact rfl);(case r3=>exact rfl);(case r4=>exact rfl);intro wa hga hoa hba;have HWA:=O (And.intro hga (And.intro hoa hba));clear hga hoa hba)
       |(refine aM (T:=30) (ag r3) (bu _) ?r1 (.tmp 14) (.tmp 99) ?r2 (yy.heap.size+1) (ag []) ?r3 ?r4 (aS _) (bM _ _) ((HWA.out.2.1 _ (by omega)).trans (eR _ _ _)) ?_;(case r2=>exact rfl);(case r1=>exact rfl);(case r3=>exact rfl);(case r4=>exact rfl);intro wb hgb hob hbb;have HWB:=O (And.intro hgb (And.intro hob hbb));clear hgb hob hbb))
      replace HJ:=O (And.intro HJ.out HKT.out);replace ST:=O (ST.out.and (bS.rdK (.slice b1 TT.length c1) TT));replace HJ:=O (And.intro HJ.out HKS.out);replace ST:=O (ST.out.and (bS.rdE eH (.slice b2 1 c2) SL));clear HKT HKS
      try simp only[Act.put]
      have hj:=ST.out.new2 HJ.out rfl HWA.out.1 HWA.out.2.1 HWA.out.2.2 HWB.out.1 HWB.out.2.1 HWB.out.2.2;obtain⟨gR13,hg⟩:∃g,g=yy.heap.size:=⟨_,rfl⟩;rw[←hg] at hj ⊢;clear hg;obtain⟨gR14,hg⟩:∃g,g=gR13+1:=⟨_,rfl⟩;rw[←hg] at hj ⊢;clear hg HWA HWB;replace HJ:=O hj;clear hj;replace ST:=O ((ST.out.and (bS.row gR13 (ptA n0 (.slice b1 TT.length c1) D2 (.slice b2 1 c2) X (.slice b3 k3 c3)) 63)).and (bS.row gR14 (ag r3) 30))
      as_aux_lemma =>
       go_upto_region 17 with (first
        |(refine jl r3 ?r1 (.tmp 14) ?r2 gR14 ?r3 _ (HJ.out.2) ?_;(case r2=>exact rfl);(case r1=>exact rfl);(case r3=>exact rfl))
        |(go_at_call 10;refine(HNW.out _ (HK.out _ (HJ.out.1.1.1.1.1.1.1))).mono ?_;rintro e yy ⟨b4,c4,r4,rfl,hb⟩;replace HJ:=O (ST.out.on _ _ HJ.out hb);clear hb)
        |(refine aM (T:=25) (doA E) (b8 _) ?r1 (.tmp 16) (.tmp 104) ?r2 yy.heap.size (doA zD) ?r3 ?r4 (cr _) (dE _ _) (eP _ _ _) ?_;(case r2=>exact rfl);(case r1=>exact rfl);(case r3=>exact rfl);(case r4=>exact rfl);intro wa hga hoa hba;have HWA:=O (And.intro hga (And.intro hoa hba));clear hga hoa hba)
        |(refine aM (T:=30) (ag r4) (bu _) ?r1 (.tmp 18) (.tmp 106) ?r2 (yy.heap.size+1) (ag []) ?r3 ?r4 (aS _) (bM _ _) ((HWA.out.2.1 _ (by omega)).trans (eR _ _ _)) ?_;(case r2=>exact rfl);(case r1=>exact rfl);(case r3=>exact rfl);(case r4=>exact rfl);intro wb hgb hob hbb;have HWB:=O (And.intro hgb (And.intro hob hbb));clear hgb hob hbb))
       try simp only[Act.put]
       have hj:=ST.out.new2 HJ.out rfl HWA.out.1 HWA.out.2.1 HWA.out.2.2 HWB.out.1 HWB.out.2.1 HWB.out.2.2;obtain⟨gR16,hg⟩:∃g,g=yy.heap.size:=⟨_,rfl⟩;rw[←hg] at hj ⊢;clear hg;obtain⟨gR18,hg⟩:∃g,g=gR16+1:=⟨_,rfl⟩;rw[←hg] at hj ⊢;clear hg HWA HWB;replace HJ:=O hj;clear hj;replace ST:=O ((ST.out.and (bS.row gR16 (doA E) 25)).and (bS.row gR18 (ag r4) 30))
       have hsum:((TT.length:Int)+(I.length:Int))=a0.length:=by have := HSUM.out;omega
       have hsw:IntKind.i64.wrap ((TT.length:Int)+(I.length:Int))=a0.length:=by rw[hsum,IntKind.wrap_i64];omega
       have p0:=(e_ _ _ 0 _ _ _ (HJ.out.1.1.1.2)).trans (Tn _ _ _ _ _ _);have p1:=(e_ _ _ 1 _ _ _ (HJ.out.1.1.1.2)).trans (Pg _ _ _ _ _ _ _ _ _ _ _ _);have q0:=(e_ _ _ 0 _ _ _ (HJ.out.1.1.1.1.1.1.1.1.2.1)).trans (WY _ _);have q1:=(e_ _ _ 1 _ _ _ (HJ.out.1.1.1.1.1.1.1.1.2.1)).trans (zS _ _)
       go_upto_region 20 with fail
       clear p0 p1 q0 q1 hsum hsw
       as_aux_lemma =>
        have HJ2:=O HJ.out;go_wp2
        go_loopw [21,20] (fun o21 o20 wr=>∃i:Nat,i≤a0.length∧o21 = .int .i64 i∧o20 = .int .i64 ((smT P (a0.take i)).length:Nat)∧Hid (Below wb.heap.size wb wr)) (fun o21 _ _=>a0.length-(intOf o21).toNat)
        case atStart=>exact⟨0,N_ _,rfl,by rw[PL];rfl,O (O_ _ _)⟩
        case round =>
         obtain⟨j,hj,rfl,rfl,hb⟩:=hrel;have HR:=O (ST.out.on _ _ HJ2.out hb.out);have t1:=(e_ _ _ 1 _ _ _ (HR.out.1.1.1.1.1.1.1.1.2.1)).trans (zS n0 (.slice ta a0.length tc));have t2:=(e_ _ _ 1 _ _ _ (HR.out.1.1.1.2)).trans (Pg _ _ _ _ _ _ _ _ _ _ _ _)
         by_cases hlt:j<a0.length
         ·have j1:(j:Int)<a0.length:=by omega
          have hpj:=HP.out j;have HLT:=O hlt
          rcases HTN.out j hlt with⟨hp,he⟩|⟨hp,he1,he2,he3⟩
          ·rw[hp] at hpj
           have HE:=O he;clear hp he hlt;go_wp2;go_roundw
           case rel=>exact⟨j+1,HLT.out,by go_num,by rw[HE.out],hb⟩
           case measure=>have := HLT.out;simp[intOf];omega
          ·rw[hp] at hpj
           have HE:=O he1;obtain⟨bb,off,rfl,hbl,_⟩:=((HR.out.1.1.1.1.1.1.1.1.2.2)).cells (by omega);obtain⟨cb,cof,rfl,hcl,_⟩:=((HR.out.1.1.1.1.1.2)).cells (by omega);have HG1:Hid (∀y,RdK y (.slice (some ⟨bb,off,none⟩) a0.length tc) a0→y.rangeAt bb (off+j*9) (kc (ae a0 j)).toList):=O (zw hlt);have HG2:Hid (∀y,RdK y (.slice (some ⟨cb,cof,none⟩) TT.length c1) TT→y.rangeAt cb (cof+(smT P (a0.take j)).length*9) (kc (ae TT (smT P (a0.take j)).length)).toList):=O (zw he2);rw[he3] at HG2
           have k1:((smT P (a0.take j)).length:Int)<TT.length:=by omega
           have k2:(TT.length:Int)≤12:=by have := HSUM.out;have := HLN.out;omega
           generalize (smT P (a0.take j)).length=q at HG2 HE k1;generalize ae a0 j=ky at HG1 HG2;clear hp he1 he2 he3 hlt
           go_upto_region 24 with fail
           have HRD:=O (ST.out.on _ _ HR.out (O_ _ _).drew);refine fe (fun y=>y.rangeAt bb (off+j*9) (kc ky).toList∧y.rangeAt cb (cof+q*9) (kc ky).toList∧y.cell? ⟨w.heap.size,1,none⟩=some (.slice (some ⟨bb,off,none⟩) a0.length tc)∧y.cell? ⟨gR13,1,none⟩=some (.slice (some ⟨cb,cof,none⟩) TT.length c1)) [0,1,2,3,4,5,6,7,8,9,10,11] [] ?h1 ?h2 ?h3 ?h4 ?h5
           case h1=>intro c a d v w h;cases d <;> exact h
           case h2=>kernel_rfl
           case h3=>kernel_rfl
           case h4=>exact⟨HG1.out _ (HRD.out.1.1.1.1.1.1.1.1.2.2),HG2.out _ (HRD.out.1.1.1.1.1.2),(e_ _ _ 1 _ _ _ (HRD.out.1.1.1.1.1.1.1.1.2.1)).trans (zS n0 (.slice (some ⟨bb,off,none⟩) a0.length tc)),(e_ _ _ 1 _ _ _ (HRD.out.1.1.1.2)).trans (Pg _ _ _ _ _ _ _ _ _ _ _ _)⟩
           case h5 =>
            simp only[cT,List.filterMap_cons,List.filterMap_nil,List.getElem?_toArray,List.getElem?_cons_succ,List.getElem?_cons_zero];refine⟨_,aR (.pointer (some ⟨gR13,0,none⟩)) rfl (fun y hy=>by kernel_rfl),?_⟩;simp only[Act.put,B_,C_,D_];refine⟨_,aR (.pointer (some ⟨gR13,1,none⟩)) rfl (fun y hy=>by kernel_rfl),?_⟩;simp only[Act.put,B_,C_,D_];refine⟨_,gC (.slice (some ⟨cb,cof,none⟩) TT.length c1) ⟨gR13,1,none⟩ 43 (.tmp 148) rfl rfl rfl (fun y hy=>nW y _ _ _ _ hy.2.2.2),?_⟩;simp only[Act.put,B_,C_,D_];refine⟨_,aR (.int .i64 q) rfl (fun y hy=>by kernel_rfl),?_⟩;simp only[Act.put,B_,C_,D_];refine⟨_,Rs cb cof TT.length c1 q (.tmp 149) (.tmp 150) k1 rfl rfl rfl rfl,?_⟩;simp only[Act.put,B_,C_,D_];refine⟨_,Rt ky cb (cof+q*9) (.tmp 151) rfl rfl rfl (fun y hy=>hy.2.1),?_⟩;simp only[Act.put,B_,C_,D_];refine⟨_,aR (.pointer (some ⟨w.heap.size,1,none⟩)) rfl (fun y hy=>by kernel_rfl),?_⟩;simp only[Act.put,B_,C_,D_];refine⟨_,gC (.slice (some ⟨bb,off,none⟩) a0.length tc) ⟨w.heap.size,1,none⟩ 43 (.tmp 153) rfl rfl rfl (fun y hy=>nW y _ _ _ _ hy.2.2.1),?_⟩;simp only[Act.put,B_,C_,D_];refine⟨_,aR (.int .i64 j) rfl (fun y hy=>by kernel_rfl),?_⟩;simp only[Act.put,B_,C_,D_];refine⟨_,Rs bb off a0.length tc j (.tmp 154) (.tmp 155) j1 rfl rfl rfl rfl,?_⟩;simp only[Act.put,B_,C_,D_];refine⟨_,Rt ky bb (off+j*9) (.tmp 156) rfl rfl rfl (fun y hy=>hy.1),?_⟩;simp only[Act.put,B_,C_,D_];refine⟨_,y_b .neq 86 86 (.tmp 152) (.tmp 157) (.agg (kc ky)) (.agg (kc ky)) (.bool false) rfl rfl rfl rfl (fun y=>YW _ _ _ _ y) (fun y=>SU ky y),?_⟩;simp only[Act.put,B_,C_,D_]
            try dsimp only[gu,ei]
            have HB9:Hid (Below wb.heap.size wb wr.drew):=O hb.out.drew;clear HR HRD HG1 HG2 t1 t2 hb;go_wp2;go_roundw
            case rel=>exact⟨j+1,HLT.out,by go_num,by rw[HE.out];go_num,HB9⟩
            case measure=>have := HLT.out;simp[intOf];omega
         as_aux_lemma =>
          ·have j1 : (a0.length : Int) ≤ j := by omega
           go_upto_region 27 with fail
           replace HJ:=HR;clear HJ2 HR t1 t2 hb j1 hlt HTN HSUM
           cases he:dEq D.id E.id with
           | true =>
             have HMG:=O (HM1.out he);clear HM1 HM2 HM3
             have heq:∀y,(binOp .eql 23 (.agg (am E.id)) (.agg (am D2.id))).run prog y = .ok (.bool true) y:=fun y=>by rw[oJ,HID2.out,qi,he]
             have HEQ:=O heq;clear heq he;have s21:=(e_ _ _ 21 _ _ _ (HJ.out.1.1.1.2)).trans (K8 _ _ _ _ _ _ _ _ _ _ _ _);have s22:=(e_ _ _ 22 _ _ _ (HJ.out.1.1.1.2)).trans (K9 _ _ _ _ _ _ _ _ _ _ _ _)
             go_upto_region 28 with (first
              |(refine cz E ?r1 (.tmp 16) ?r2 gR16 ?r3 _ (HJ.out.1.2) ?_;(case r2=>exact rfl);(case r1=>exact rfl);(case r3=>exact rfl))
              |(refine yI 1 ?r1 (.const (.int .i64 1)) ?r2 ?r3 ?_;(case r2=>exact rfl);(case r1=>exact rfl);(case r3=>exact rfl))
              |(refine p8 ?r1 ?r2 ?_;(case r2=>exact rfl);(case r1=>exact rfl))
              |(go_at_call 28;refine(HMG.out _ _ (HK.out _ (HJ.out.1.1.1.1.1.1.1.1.1)) (HJ.out.1.1.1.1.2)).mono ?_;clear s21 s22;rintro e yy ⟨m1,mn,e1,m2,mk,e2,rfl,hb⟩;replace HJ:=O (ST.out.on _ _ HJ.out hb);clear hb)
              |(refine aH (tbA 0 (.slice m1 mn e1)) 45 ?r1 (.tmp 22) (.tmp 171) ?r2 yy.heap.size ?r3 ?r4 ?r5 (cZ _ _) (fg _ _ _ _) (dP _ _ _ _) ?_;(case r2=>exact rfl);(case r1=>exact rfl);(case r3=>exact rfl);(case r4=>exact rfl);(case r5=>exact rfl)))
             try simp only[Act.put]
             obtain⟨gR22,hg,hj⟩:=ST.out.new HJ.out (tbA 0 (.slice m1 mn e1)) 45;rw[←hg];generalize yy.alloc (.cells (tbA 0 (.slice m1 mn e1)) 45)=Y3 at hj ⊢;replace HJ:=O hj;replace ST:=O (ST.out.and (bS.row gR22 (tbA 0 (.slice m1 mn e1)) 45));clear hj hg
             go_wp2_with (first
              |(refine jt E.id gR16 0 (.tmp 174) ?r1 (eT (HJ.out.1.1.2)) ?r2 ?r3 ?_;(case r1=>exact rfl);(case r2=>exact rfl);(case r3=>exact rfl))
              |(refine jt D2.id gR13 2 (.tmp 177) ?r1 (ye (HJ.out.1.1.1.1.2)) ?r2 ?r3 ?_;(case r1=>exact rfl);(case r2=>exact rfl);(case r3=>exact rfl))
              |(refine mh .eql 23 23 (.tmp 175) (.tmp 178) (.agg (am E.id)) (.agg (am D2.id)) (.bool true) ?r1 ?r2 ?r3 ?r4 (fun y=>xi _ _ _ _ y) HEQ.out ?_;(case r1=>exact rfl);(case r2=>exact rfl);(case r3=>exact rfl);(case r4=>exact rfl)))
             go_ret;exact⟨rfl,(HJ.out.1.1.1.1.1.1.1.1.1.1)⟩
           | false =>
             have HMG:=O (HM2.out he);clear HM1 HM2;have HMH:=O (HM3.out he);clear HM3
             have heq:∀y,(binOp .eql 23 (.agg (am E.id)) (.agg (am D2.id))).run prog y = .ok (.bool false) y:=fun y=>by rw[oJ,HID2.out,qi,he]
             have HEQ:=O heq;clear heq he;have s21:=(e_ _ _ 21 _ _ _ (HJ.out.1.1.1.2)).trans (K8 _ _ _ _ _ _ _ _ _ _ _ _);have s22:=(e_ _ _ 22 _ _ _ (HJ.out.1.1.1.2)).trans (K9 _ _ _ _ _ _ _ _ _ _ _ _)
             go_upto_region 28 with (first
              |(refine cz E ?r1 (.tmp 16) ?r2 gR16 ?r3 _ (HJ.out.1.2) ?_;(case r2=>exact rfl);(case r1=>exact rfl);(case r3=>exact rfl))
              |(refine yI 1 ?r1 (.const (.int .i64 1)) ?r2 ?r3 ?_;(case r2=>exact rfl);(case r1=>exact rfl);(case r3=>exact rfl))
              |(refine p8 ?r1 ?r2 ?_;(case r2=>exact rfl);(case r1=>exact rfl))
              |(go_at_call 28;refine(HMG.out _ _ (HK.out _ (HJ.out.1.1.1.1.1.1.1.1.1)) (HJ.out.1.1.1.1.2)).mono ?_;clear s21 s22;rintro e yy ⟨m1,e1,m2,e2,rfl,hmk,hb⟩;replace HJ:=O (ST.out.on _ _ HJ.out hb);have HMK:=O hmk;clear hmk;clear hb)
              |(refine aH (tbA (((ddK V).length:Int)+1) (.slice m1 (ddK V).length e1)) 45 ?r1 (.tmp 22) (.tmp 171) ?r2 yy.heap.size ?r3 ?r4 ?r5 (cZ _ _) (fg _ _ _ _) (dP _ _ _ _) ?_;(case r2=>exact rfl);(case r1=>exact rfl);(case r3=>exact rfl);(case r4=>exact rfl);(case r5=>exact rfl)))
             replace HJ:=O (And.intro HJ.out HMK.out);replace ST:=O (ST.out.and (bS.rdK (.slice m1 (ddK V).length e1) (ddK V)));clear HMK
             try simp only[Act.put]
             obtain⟨gR22,hg,hj⟩:=ST.out.new HJ.out (tbA (((ddK V).length:Int)+1) (.slice m1 (ddK V).length e1)) 45;rw[←hg];generalize yy.alloc (.cells (tbA (((ddK V).length:Int)+1) (.slice m1 (ddK V).length e1)) 45)=Y4 at hj ⊢;replace HJ:=O hj;replace ST:=O (ST.out.and (bS.row gR22 (tbA (((ddK V).length:Int)+1) (.slice m1 (ddK V).length e1)) 45));clear hj hg;have p1:=(e_ _ _ 1 _ _ _ (HJ.out.2)).trans (zS _ _)
             go_upto_region 33 with (first
              |(refine jt E.id gR16 0 (.tmp 174) ?r1 (eT (HJ.out.1.1.1.2)) ?r2 ?r3 ?_;(case r1=>exact rfl);(case r2=>exact rfl);(case r3=>exact rfl))
              |(refine jt D2.id gR13 2 (.tmp 177) ?r1 (ye (HJ.out.1.1.1.1.1.2)) ?r2 ?r3 ?_;(case r1=>exact rfl);(case r2=>exact rfl);(case r3=>exact rfl))
              |(refine mh .eql 23 23 (.tmp 175) (.tmp 178) (.agg (am E.id)) (.agg (am D2.id)) (.bool false) ?r1 ?r2 ?r3 ?r4 (fun y=>xi _ _ _ _ y) HEQ.out ?_;(case r1=>exact rfl);(case r2=>exact rfl);(case r3=>exact rfl);(case r4=>exact rfl)))
             clear p1 HEQ
             as_aux_lemma =>
              have HVN:=O (PQ V)
              have hv12:(V.length:Int)≤12:=by have := HVL.out;have := HLN.out;omega
              have HJ3:=O HJ.out;go_wp2
              go_loopw [25,20] (fun o25 o20 wr=>∃i q:Nat,i≤V.length∧o25 = .int .i64 i∧o20 = .int .i64 q∧Hid (q=(ddK (V.take i)).length)∧Hid (Below Y4.heap.size Y4 wr)) (fun o25 _ _=>V.length-(intOf o25).toNat)
              case atStart=>exact⟨0,0,N_ _,rfl,rfl,O (by rw[NZ];rfl),O (O_ _ _)⟩
              case round =>
               obtain⟨i,q,hi,rfl,rfl,hq,hb⟩:=hrel
               rename World=>wo
               have HR:=O (ST.out.on _ _ HJ3.out hb.out)
               by_cases hlt:i<V.length
               ·have j1 : (i : Int) < V.length := by omega
                have HLT:=O hlt;have HNX:=O (HVN.out i hlt);obtain⟨vb,vo,rfl,hvl,_⟩:=(Lg (HR.out.1.1.1.1.1.1.1.1.2)).cells (by omega);have HKV:Hid (∀y,RdE eK y (.slice (some ⟨vb,vo,none⟩) V.length vc) V→∀j,j<V.length→s7 y vb (vo+j*9) (ae V j)):=O (fun y hy j hj=>OS (Lg hy) hj);have HKR:Hid (∀y,RdE eK y (.slice (some ⟨vb,vo,none⟩) V.length vc) V→y.rangeAt vb (vo+i*9) (kc (ae V i)).toList):=O (fun y hy=>zw hlt y (Lg hy));clear hi hlt hvl;go_wp2
                go_loopw [27,26] (fun o27 o26 wq=>∃(j:Nat) (A:Bool),j≤i∧o27 = .int .i64 j∧o26 = .bool A∧Hid (bI (V.take j) (ae V i)=A)∧Hid (Below wo.heap.size wo wq)) (fun o27 _ _=>i-(intOf o27).toNat)
                case atStart=>exact⟨0,false,N_ _,rfl,rfl,O (GL _ _),O (O_ _ _)⟩
                case round =>
                 obtain⟨j,A,hj,rfl,rfl,hA,hbq⟩:=hrel;have HQ:=O (ST.out.on _ _ HR.out hbq.out)
                 by_cases hlj:j<i
                 ·have k1 : (j : Int) < i := by omega
                  have k2:(j:Int)<V.length:=by omega
                  have HLJ:=O hlj;have HJV:Hid (j<V.length):=O (by omega)
                  go_upto_region 40 with fail
                  clear hj hlj;have HQD:=O (ST.out.on _ _ HQ.out (O_ _ _).drew);have HBD:Hid (Below wo.heap.size wo wr.drew):=O hbq.out.drew;have HSD:Hid ((fun y=>(y.cell? ⟨vb,vo+j*9+1,none⟩=some (.int .i64 (ae V j).ty)∧y.cell? ⟨vb,vo+j*9+2,none⟩=some (.string ⟨(ae V j).val.toArray⟩))∧(y.cell? ⟨vb,vo+i*9+1,none⟩=some (.int .i64 (ae V i).ty)∧y.cell? ⟨vb,vo+i*9+2,none⟩=some (.string ⟨(ae V i).val.toArray⟩))) wr.drew):=O ⟨⟨(HKV.out _ (HQD.out.1.1.1.1.1.1.1.1.2) j HJV.out).2.1,(HKV.out _ (HQD.out.1.1.1.1.1.1.1.1.2) j HJV.out).2.2.1⟩,⟨(HKV.out _ (HQD.out.1.1.1.1.1.1.1.1.2) i HLT.out).2.1,(HKV.out _ (HQD.out.1.1.1.1.1.1.1.1.2) i HLT.out).2.2.1⟩⟩;have HH1:=O (fun (h:A=true)=>YK HJV.out (hA.out.trans h));have HH2:=O (fun (h:A=false)=>YJ HJV.out (hA.out.trans h));have HH3:=O (fun (h:A=false)=>YL HJV.out (hA.out.trans h));clear HQ HQD hbq hA;generalize (ae V j).ty=tj at HSD HH2 HH3;generalize (ae V j).val=xj at HSD HH3;generalize (ae V i).ty=ti at HSD HH2 HH3;generalize (ae V i).val=xi at HSD HH3
                  as_aux_lemma =>
                   cases A with
                   | true =>
                     refine fe (fun y=>(y.cell? ⟨vb,vo+j*9+1,none⟩=some (.int .i64 tj)∧y.cell? ⟨vb,vo+j*9+2,none⟩=some (.string ⟨xj.toArray⟩))∧(y.cell? ⟨vb,vo+i*9+1,none⟩=some (.int .i64 ti)∧y.cell? ⟨vb,vo+i*9+2,none⟩=some (.string ⟨xi.toArray⟩))) [0,1,2,3,4,5,6,7,8,9,10,11,12,13,14,15,16,17,18,19,20,21,22,23,24,25,26] [27] ?h1 ?h2 ?h3 ?h4 ?h5
                     case h1=>intro c a d v w h;cases d <;> exact h
                     case h2=>kernel_rfl
                     case h3=>kernel_rfl
                     case h4=>exact HSD.out
                     case h5 =>
                      simp only[cT,List.filterMap_cons,List.filterMap_nil,List.getElem?_toArray,List.getElem?_cons_succ,List.getElem?_cons_zero];refine⟨_,aR (.bool true) rfl (fun y hy=>by kernel_rfl),?_⟩;simp only[Act.put,B_,C_,D_];refine⟨_,aR (.bool true) rfl (fun y hy=>by kernel_rfl),?_⟩;simp only[Act.put,B_,C_,D_];refine⟨_,X9 rfl,?_⟩;simp only[Act.put,B_,C_,D_];refine⟨_,X9 rfl,?_⟩;simp only[Act.put,B_,C_,D_];refine⟨_,X9 rfl,?_⟩;simp only[Act.put,B_,C_,D_];refine⟨_,X9 rfl,?_⟩;simp only[Act.put,B_,C_,D_];refine⟨_,X9 rfl,?_⟩;simp only[Act.put,B_,C_,D_];refine⟨_,X9 rfl,?_⟩;simp only[Act.put,B_,C_,D_];refine⟨_,X9 rfl,?_⟩;simp only[Act.put,B_,C_,D_];refine⟨_,X9 rfl,?_⟩;simp only[Act.put,B_,C_,D_];refine⟨_,X9 rfl,?_⟩;simp only[Act.put,B_,C_,D_];refine⟨_,X9 rfl,?_⟩;simp only[Act.put,B_,C_,D_];refine⟨_,X9 rfl,?_⟩;simp only[Act.put,B_,C_,D_];refine⟨_,X9 rfl,?_⟩;simp only[Act.put,B_,C_,D_];refine⟨_,X9 rfl,?_⟩;simp only[Act.put,B_,C_,D_];refine⟨_,X9 rfl,?_⟩;simp only[Act.put,B_,C_,D_];refine⟨_,X9 rfl,?_⟩;simp only[Act.put,B_,C_,D_];refine⟨_,X9 rfl,?_⟩;simp only[Act.put,B_,C_,D_];refine⟨_,X9 rfl,?_⟩;simp only[Act.put,B_,C_,D_];refine⟨_,X9 rfl,?_⟩;simp only[Act.put,B_,C_,D_];refine⟨_,X9 rfl,?_⟩;simp only[Act.put,B_,C_,D_];refine⟨_,X9 rfl,?_⟩;simp only[Act.put,B_,C_,D_];refine⟨_,X9 rfl,?_⟩;simp only[Act.put,B_,C_,D_];refine⟨_,X9 rfl,?_⟩;simp only[Act.put,B_,C_,D_];refine⟨_,X9 rfl,?_⟩;simp only[Act.put,B_,C_,D_];refine⟨_,X9 rfl,?_⟩;simp only[Act.put,B_,C_,D_];refine⟨_,aR (.bool true) rfl (fun y hy=>by kernel_rfl),?_⟩
                      simp only[Act.put,B_,C_,D_];intro Q1 HQ1;go_wp2;refine HQ1.out _ _ HSD.out ?_;clear HQ1
                      try simp only[Act.put,B_,C_,D_]
                      refine el ?_;go_wp2;go_roundw
                      case rel=>exact⟨j+1,true,HLJ.out,by go_num,rfl,O (HH1.out (by first |exact rfl|exact trivial)),HBD⟩
                      case measure=>have := HLJ.out;simp[intOf];omega
                   | false =>
                     by_cases ht:tj=ti
                     case neg =>
                      have HN:=O ht;have HT:=O (V_ ht);clear ht;refine fe (fun y=>(y.cell? ⟨vb,vo+j*9+1,none⟩=some (.int .i64 tj)∧y.cell? ⟨vb,vo+j*9+2,none⟩=some (.string ⟨xj.toArray⟩))∧(y.cell? ⟨vb,vo+i*9+1,none⟩=some (.int .i64 ti)∧y.cell? ⟨vb,vo+i*9+2,none⟩=some (.string ⟨xi.toArray⟩))) [0,1,2,3,4,5,6,7,8,9,10,11,12,13,14,15,16,17,18,19,20,21,22,23,24,25,26] [27] ?h1 ?h2 ?h3 ?h4 ?h5
                      case h1=>intro c a d v w h;cases d <;> exact h
                      case h2=>kernel_rfl
                      case h3=>kernel_rfl
                      case h4=>exact HSD.out
                      case h5 =>
                       simp only[cT,List.filterMap_cons,List.filterMap_nil,List.getElem?_toArray,List.getElem?_cons_succ,List.getElem?_cons_zero];refine⟨_,aR (.bool false) rfl (fun y hy=>by kernel_rfl),?_⟩;simp only[Act.put,B_,C_,D_];refine⟨_,aR (.bool false) rfl (fun y hy=>by kernel_rfl),?_⟩;simp only[Act.put,B_,C_,D_];refine⟨_,aR (.slice (some ⟨vb,vo,none⟩) V.length vc) rfl (fun y hy=>by kernel_rfl),?_⟩;simp only[Act.put,B_,C_,D_];refine⟨_,aR (.int .i64 j) rfl (fun y hy=>by kernel_rfl),?_⟩;simp only[Act.put,B_,C_,D_];refine⟨_,Rs vb vo V.length vc j (.tmp 208) (.tmp 209) k2 rfl rfl rfl rfl,?_⟩;simp only[Act.put,B_,C_,D_];refine⟨_,aR (.pointer (some ⟨vb,vo+j*9+1,none⟩)) rfl (fun y hy=>by kernel_rfl),?_⟩;simp only[Act.put,B_,C_,D_];refine⟨_,gC (.int .i64 tj) ⟨vb,vo+j*9+1,none⟩ 3 (.tmp 211) rfl rfl rfl (fun y hy=>ff y _ _ hy.1.1),?_⟩;simp only[Act.put,B_,C_,D_];refine⟨_,aR (.slice (some ⟨vb,vo,none⟩) V.length vc) rfl (fun y hy=>by kernel_rfl),?_⟩;simp only[Act.put,B_,C_,D_];refine⟨_,aR (.int .i64 i) rfl (fun y hy=>by kernel_rfl),?_⟩;simp only[Act.put,B_,C_,D_];refine⟨_,Rs vb vo V.length vc i (.tmp 213) (.tmp 214) j1 rfl rfl rfl rfl,?_⟩;simp only[Act.put,B_,C_,D_];refine⟨_,aR (.pointer (some ⟨vb,vo+i*9+1,none⟩)) rfl (fun y hy=>by kernel_rfl),?_⟩;simp only[Act.put,B_,C_,D_];refine⟨_,gC (.int .i64 ti) ⟨vb,vo+i*9+1,none⟩ 3 (.tmp 216) rfl rfl rfl (fun y hy=>ff y _ _ hy.2.1),?_⟩;simp only[Act.put,B_,C_,D_];refine⟨_,y_b .eql 3 3 (.tmp 212) (.tmp 217) (.int .i64 tj) (.int .i64 ti) (.bool false) rfl rfl rfl rfl (fun y=>by kernel_rfl) (fun y=>by rw[YC,HT.out]),?_⟩;simp only[Act.put,B_,C_,D_];refine⟨_,aR (.bool false) rfl (fun y hy=>by kernel_rfl),?_⟩;simp only[Act.put,B_,C_,D_];refine⟨_,X9 rfl,?_⟩;simp only[Act.put,B_,C_,D_];refine⟨_,X9 rfl,?_⟩;simp only[Act.put,B_,C_,D_];refine⟨_,X9 rfl,?_⟩;simp only[Act.put,B_,C_,D_];refine⟨_,X9 rfl,?_⟩;simp only[Act.put,B_,C_,D_];refine⟨_,X9 rfl,?_⟩;simp only[Act.put,B_,C_,D_]
                       refine⟨_,X9 rfl,?_⟩;simp only[Act.put,B_,C_,D_];refine⟨_,X9 rfl,?_⟩;simp only[Act.put,B_,C_,D_];refine⟨_,X9 rfl,?_⟩;simp only[Act.put,B_,C_,D_];refine⟨_,X9 rfl,?_⟩;simp only[Act.put,B_,C_,D_];refine⟨_,X9 rfl,?_⟩;simp only[Act.put,B_,C_,D_];refine⟨_,X9 rfl,?_⟩;simp only[Act.put,B_,C_,D_];refine⟨_,aR (.bool false) rfl (fun y hy=>by kernel_rfl),?_⟩;simp only[Act.put,B_,C_,D_];refine⟨_,aR (.bool false) rfl (fun y hy=>by kernel_rfl),?_⟩;simp only[Act.put,B_,C_,D_];intro Q1 HQ1;go_wp2;refine HQ1.out _ _ HSD.out ?_;clear HQ1
                       try simp only[Act.put,B_,C_,D_]
                       refine el ?_;go_wp2;go_roundw
                       case rel=>exact⟨j+1,false,HLJ.out,by go_num,rfl,O (HH2.out (by first |exact rfl|exact trivial) HN.out),HBD⟩
                       case measure=>have := HLJ.out;simp[intOf];omega
                     case pos =>
                      have HN:=O ht;have HT:=O (decide_eq_true ht);obtain⟨E,hE⟩:∃E:Bool,(xj == xi)=E:=⟨_,rfl⟩;have HE:=O hE;clear ht hE;refine fe (fun y=>(y.cell? ⟨vb,vo+j*9+1,none⟩=some (.int .i64 tj)∧y.cell? ⟨vb,vo+j*9+2,none⟩=some (.string ⟨xj.toArray⟩))∧(y.cell? ⟨vb,vo+i*9+1,none⟩=some (.int .i64 ti)∧y.cell? ⟨vb,vo+i*9+2,none⟩=some (.string ⟨xi.toArray⟩))) [0,1,2,3,4,5,6,7,8,9,10,11,12,13,14,15,16,17,18,19,20,21,22,23,24,25,26] [27] ?h1 ?h2 ?h3 ?h4 ?h5
                      case h1=>intro c a d v w h;cases d <;> exact h
                      case h2=>kernel_rfl
                      case h3=>kernel_rfl
                      case h4=>exact HSD.out
                      case h5 =>
                       simp only[cT,List.filterMap_cons,List.filterMap_nil,List.getElem?_toArray,List.getElem?_cons_succ,List.getElem?_cons_zero];refine⟨_,aR (.bool false) rfl (fun y hy=>by kernel_rfl),?_⟩;simp only[Act.put,B_,C_,D_];refine⟨_,aR (.bool false) rfl (fun y hy=>by kernel_rfl),?_⟩;simp only[Act.put,B_,C_,D_];refine⟨_,aR (.slice (some ⟨vb,vo,none⟩) V.length vc) rfl (fun y hy=>by kernel_rfl),?_⟩;simp only[Act.put,B_,C_,D_];refine⟨_,aR (.int .i64 j) rfl (fun y hy=>by kernel_rfl),?_⟩;simp only[Act.put,B_,C_,D_];refine⟨_,Rs vb vo V.length vc j (.tmp 208) (.tmp 209) k2 rfl rfl rfl rfl,?_⟩;simp only[Act.put,B_,C_,D_];refine⟨_,aR (.pointer (some ⟨vb,vo+j*9+1,none⟩)) rfl (fun y hy=>by kernel_rfl),?_⟩;simp only[Act.put,B_,C_,D_];refine⟨_,gC (.int .i64 tj) ⟨vb,vo+j*9+1,none⟩ 3 (.tmp 211) rfl rfl rfl (fun y hy=>ff y _ _ hy.1.1),?_⟩;simp only[Act.put,B_,C_,D_];refine⟨_,aR (.slice (some ⟨vb,vo,none⟩) V.length vc) rfl (fun y hy=>by kernel_rfl),?_⟩;simp only[Act.put,B_,C_,D_];refine⟨_,aR (.int .i64 i) rfl (fun y hy=>by kernel_rfl),?_⟩;simp only[Act.put,B_,C_,D_];refine⟨_,Rs vb vo V.length vc i (.tmp 213) (.tmp 214) j1 rfl rfl rfl rfl,?_⟩;simp only[Act.put,B_,C_,D_];refine⟨_,aR (.pointer (some ⟨vb,vo+i*9+1,none⟩)) rfl (fun y hy=>by kernel_rfl),?_⟩;simp only[Act.put,B_,C_,D_];refine⟨_,gC (.int .i64 ti) ⟨vb,vo+i*9+1,none⟩ 3 (.tmp 216) rfl rfl rfl (fun y hy=>ff y _ _ hy.2.1),?_⟩;simp only[Act.put,B_,C_,D_];refine⟨_,y_b .eql 3 3 (.tmp 212) (.tmp 217) (.int .i64 tj) (.int .i64 ti) (.bool true) rfl rfl rfl rfl (fun y=>by kernel_rfl) (fun y=>by rw[YC,HT.out]),?_⟩;simp only[Act.put,B_,C_,D_];refine⟨_,aR (.bool true) rfl (fun y hy=>by kernel_rfl),?_⟩;simp only[Act.put,B_,C_,D_];refine⟨_,aR (.slice (some ⟨vb,vo,none⟩) V.length vc) rfl (fun y hy=>by kernel_rfl),?_⟩;simp only[Act.put,B_,C_,D_];refine⟨_,aR (.int .i64 j) rfl (fun y hy=>by kernel_rfl),?_⟩;simp only[Act.put,B_,C_,D_];refine⟨_,Rs vb vo V.length vc j (.tmp 220) (.tmp 221) k2 rfl rfl rfl rfl,?_⟩;simp only[Act.put,B_,C_,D_];refine⟨_,aR (.pointer (some ⟨vb,vo+j*9+2,none⟩)) rfl (fun y hy=>by kernel_rfl),?_⟩
                       simp only[Act.put,B_,C_,D_];refine⟨_,gC (.string ⟨xj.toArray⟩) ⟨vb,vo+j*9+2,none⟩ 9 (.tmp 223) rfl rfl rfl (fun y hy=>UH y _ _ hy.1.2),?_⟩;simp only[Act.put,B_,C_,D_];refine⟨_,aR (.slice (some ⟨vb,vo,none⟩) V.length vc) rfl (fun y hy=>by kernel_rfl),?_⟩;simp only[Act.put,B_,C_,D_];refine⟨_,aR (.int .i64 i) rfl (fun y hy=>by kernel_rfl),?_⟩;simp only[Act.put,B_,C_,D_];refine⟨_,Rs vb vo V.length vc i (.tmp 225) (.tmp 226) j1 rfl rfl rfl rfl,?_⟩;simp only[Act.put,B_,C_,D_];refine⟨_,aR (.pointer (some ⟨vb,vo+i*9+2,none⟩)) rfl (fun y hy=>by kernel_rfl),?_⟩;simp only[Act.put,B_,C_,D_];refine⟨_,gC (.string ⟨xi.toArray⟩) ⟨vb,vo+i*9+2,none⟩ 9 (.tmp 228) rfl rfl rfl (fun y hy=>UH y _ _ hy.2.2),?_⟩;simp only[Act.put,B_,C_,D_];refine⟨_,y_b .eql 9 9 (.tmp 224) (.tmp 229) (.string ⟨xj.toArray⟩) (.string ⟨xi.toArray⟩) (.bool E) rfl rfl rfl rfl (fun y=>by kernel_rfl) (fun y=>by rw[XH,HE.out]),?_⟩;simp only[Act.put,B_,C_,D_];refine⟨_,aR (.bool E) rfl (fun y hy=>by kernel_rfl),?_⟩;simp only[Act.put,B_,C_,D_];refine⟨_,aR (.bool E) rfl (fun y hy=>by kernel_rfl),?_⟩;simp only[Act.put,B_,C_,D_];intro Q1 HQ1;go_wp2;refine HQ1.out _ _ HSD.out ?_;clear HQ1
                       try simp only[Act.put,B_,C_,D_]
                       refine el ?_;go_wp2;go_roundw
                       case rel=>exact⟨j+1,E,HLJ.out,by go_num,rfl,O ((HH3.out (by first |exact rfl|exact trivial) HN.out).trans HE.out),HBD⟩
                       case measure=>have := HLJ.out;simp[intOf];omega
                 ·have k1 : (i : Int) ≤ j := by omega
                  have hij:i=j:=by omega
                  rw[←hij] at hA;clear hij hlj hj
                  as_aux_lemma =>
                   cases A with
                   | true =>
                     rcases HNX.out with⟨hn1,hn2⟩|⟨hn1,_,_,_⟩
                     case inr=>exact absurd (hA.out.symm.trans hn1) (by decide)
                     have HN2:=O hn2;clear hn1 hn2;have HBX:Hid (Below Y4.heap.size Y4 wr):=O (hb.out.trans (hbq.out.mono hb.out.size));go_wp2;go_roundw
                     case rel=>exact⟨i+1,q,HLT.out,by go_num,rfl,O (by rw[HN2.out];exact hq.out),HBX⟩
                     case measure=>have := HLT.out;simp[intOf];omega
                   | false =>
                     rcases HNX.out with⟨hn1,_⟩|⟨_,hn2,hn3,hn4⟩
                     case inl=>exact absurd (hA.out.symm.trans hn1) (by decide)
                     rw[←hq.out] at hn2 hn3 hn4;have HN2:=O hn2;have HN4:=O hn4;have hdl:=Et V
                     have q1:(q:Int)<(ddK V).length:=by omega
                     have q2:(q:Int)≤12:=by omega
                     clear hn2 hn3 hn4 hdl;obtain⟨ub,uo,rfl,hul,_⟩:=((HQ.out.1.2)).cells (by omega);have HUR:Hid (∀y,RdK y (.slice (some ⟨ub,uo,none⟩) (ddK V).length e1) (ddK V)→y.rangeAt ub (uo+q*9) (kc (ae (ddK V) q)).toList):=O (zw (by omega));rw[HN4.out] at HUR;generalize ae V i=ky at HKR HUR HNX hA HN4;clear HNX hA HN4 hul
                     go_upto_region 42 with fail
                     clear k1
                     go_upto_region 43 with (first
                      |(refine Kn ky vb (vo+i*9) (.tmp 236) ?r1 (HKR.out _ (HQ.out.1.1.1.1.1.1.1.1.2)) ?r2 ?r3 ?_;(case r1=>exact rfl);(case r2=>exact rfl);(case r3=>exact rfl))
                      |(refine aH (kc ky) 86 ?r1 (.tmp 28) (.tmp 237) ?r2 wr.heap.size ?r3 ?r4 ?r5 (nO _) (VZ _) (jR _) ?_;(case r2=>exact rfl);(case r1=>exact rfl);(case r3=>exact rfl);(case r4=>exact rfl);(case r5=>exact rfl)))
                     try simp only[Act.put]
                     have HB9:Hid (Below wr.heap.size wr (wr.alloc (.cells (kc ky) 86))):=O ((O_ wr.heap.size wr).alloc (A_ _) _);have HG9:=O (heap_alloc_new wr (.cells (kc ky) 86));obtain⟨g9,hg9⟩:∃g9,g9=wr.heap.size:=⟨_,rfl⟩;rw[←hg9] at HG9 ⊢;have HGE:Hid (wr.heap.size≤g9):=O (Nat.le_of_eq hg9.symm);clear hg9;generalize wr.alloc (.cells (kc ky) 86)=w9 at HB9 HG9 ⊢;have HS0:=O (Hk w9 g9 0 ky (aW ky ((q:Int)+1)) ((q:Int)+1) _ HG9.out (by decide) (YO ky _))
                     have hwq:IntKind.i64.wrap ((q:Int)+1)=(q:Int)+1:=by rw[IntKind.wrap_i64];omega
                     go_upto_region 44 with (refine bW rfl 3 (.tmp 240) _ rfl ⟨g9,0,none⟩ (.int .i64 ((q:Int)+1)) rfl rfl HS0.out ?_)
                     try simp only[Act.put]
                     replace HB9:Hid (Below wr.heap.size wr (w9.setRow g9 (kc (aW ky ((q:Int)+1))))):=O (HB9.out.trans (aK HGE.out));have HGA:=O (setRow_heap _ _ _ (kc (aW ky ((q:Int)+1))) _ _ HG9.out);generalize w9.setRow g9 (kc (aW ky ((q:Int)+1)))=wA at HB9 HGA ⊢;clear HS0 HG9;have HS7:=O (Hk wA g9 7 (aW ky ((q:Int)+1)) (aU (aW ky ((q:Int)+1)) 0) 0 _ HGA.out (by decide) (SA _ 0))
                     go_upto_region 45 with (refine bW rfl 3 (.tmp 241) _ rfl ⟨g9,7,none⟩ (.int .i64 0) rfl rfl HS7.out ?_)
                     try simp only[Act.put]
                     try rw[UV]
                     replace HB9:Hid (Below wr.heap.size wr (wA.setRow g9 (kc (aW (aU ky 0) ((q:Int)+1))))):=O (HB9.out.trans (aK HGE.out));have HGB:=O (setRow_heap _ _ _ (kc (aW (aU ky 0) ((q:Int)+1))) _ _ HGA.out);generalize wA.setRow g9 (kc (aW (aU ky 0) ((q:Int)+1)))=wB at HB9 HGB ⊢;clear HS7 HGA;generalize aW (aU ky 0) ((q:Int)+1)=kq at HGB HUR ⊢;have HQB:=O (ST.out.on _ _ HQ.out HB9.out);have HQD:=O (ST.out.on _ _ HQB.out (O_ _ _).drew);have HGD:=O (aa HGB.out (O_ _ _).drew);have HBX:Hid (Below Y4.heap.size Y4 wB.drew):=O (hb.out.trans ((hbq.out.trans (HB9.out.mono hbq.out.size)).drew.mono hb.out.size))
                     as_aux_lemma =>
                      refine fe (fun y=>y.rangeAt ub (uo+q*9) (kc kq).toList∧y.rangeAt g9 0 (kc kq).toList∧y.cell? ⟨gR22,1,none⟩=some (.slice (some ⟨ub,uo,none⟩) (ddK V).length e1)) [0,1,2,3,4,5,6,7,8,9,10,11,12,13] [] ?h1 ?h2 ?h3 ?h4 ?h5
                      case h1=>intro c a d v w h;cases d <;> exact h
                      case h2=>kernel_rfl
                      case h3=>kernel_rfl
                      case h4=>exact⟨HUR.out _ (HQD.out.1.2),Tp HGD.out,(e_ _ _ 1 _ _ _ (HQD.out.2)).trans (zS _ _)⟩
                      case h5 =>
                       simp only[cT,List.filterMap_cons,List.filterMap_nil,List.getElem?_toArray,List.getElem?_cons_succ,List.getElem?_cons_zero];refine⟨_,aR (.int .i64 q) rfl (fun y hy=>by kernel_rfl),?_⟩;simp only[Act.put,B_,C_,D_];refine⟨_,aR (.pointer (some ⟨gR22,1,none⟩)) rfl (fun y hy=>by kernel_rfl),?_⟩;simp only[Act.put,B_,C_,D_];refine⟨_,gC (.slice (some ⟨ub,uo,none⟩) (ddK V).length e1) ⟨gR22,1,none⟩ 43 (.tmp 243) rfl rfl rfl (fun y hy=>nW y _ _ _ _ hy.2.2),?_⟩;simp only[Act.put,B_,C_,D_];refine⟨_,aR (.int .i64 (ddK V).length) rfl (fun y hy=>by kernel_rfl),?_⟩;simp only[Act.put,B_,C_,D_];refine⟨_,y_b .geq 3 3 (.tmp 242) (.tmp 245) (.int .i64 q) (.int .i64 (ddK V).length) (.bool false) rfl rfl rfl rfl (fun y=>by kernel_rfl) (fun y=>by simp[binOp,Op.intCmp];omega),?_⟩;simp only[Act.put,B_,C_,D_];refine⟨_,aR (.bool false) rfl (fun y hy=>by kernel_rfl),?_⟩;simp only[Act.put,B_,C_,D_];refine⟨_,aR (.pointer (some ⟨gR22,1,none⟩)) rfl (fun y hy=>by kernel_rfl),?_⟩;simp only[Act.put,B_,C_,D_];refine⟨_,gC (.slice (some ⟨ub,uo,none⟩) (ddK V).length e1) ⟨gR22,1,none⟩ 43 (.tmp 248) rfl rfl rfl (fun y hy=>nW y _ _ _ _ hy.2.2),?_⟩;simp only[Act.put,B_,C_,D_];refine⟨_,aR (.int .i64 q) rfl (fun y hy=>by kernel_rfl),?_⟩;simp only[Act.put,B_,C_,D_];refine⟨_,Rs ub uo (ddK V).length e1 q (.tmp 249) (.tmp 250) q1 rfl rfl rfl rfl,?_⟩;simp only[Act.put,B_,C_,D_];refine⟨_,Rt kq ub (uo+q*9) (.tmp 251) rfl rfl rfl (fun y hy=>hy.1),?_⟩;simp only[Act.put,B_,C_,D_];refine⟨_,Rt kq g9 0 (.tmp 28) rfl rfl rfl (fun y hy=>hy.2.1),?_⟩;simp only[Act.put,B_,C_,D_];refine⟨_,y_b .neq 86 86 (.tmp 252) (.tmp 253) (.agg (kc kq)) (.agg (kc kq)) (.bool false) rfl rfl rfl rfl (fun y=>YW _ _ _ _ y) (fun y=>SU kq y),?_⟩;simp only[Act.put,B_,C_,D_];refine⟨_,aR (.bool false) rfl (fun y hy=>by kernel_rfl),?_⟩;simp only[Act.put,B_,C_,D_]
                       try dsimp only[gu,ei]
                       clear HR HQ HQB HQD HGD HGB hb hbq HUR HKR HKV HB9;go_wp2;go_roundw
                       case rel=>exact⟨i+1,q+1,HLT.out,by go_num,by go_num,O (by rw[HN2.out]),HBX⟩
                       case measure=>have := HLT.out;simp[intOf];omega
               ·have j1:(V.length:Int)≤i:=by omega
                have hqe:q=(ddK V).length:=by rw[hq.out,Y_ (by omega)]
                subst hqe;replace HJ:=HR;clear HJ3 HR hq hb hlt hi HVN
                as_aux_lemma =>
                 go_upto_region 48 with fail
                 clear j1 hv12;have s21:=(e_ _ _ 21 _ _ _ (HJ.out.1.1.1.1.1.2)).trans (K8 _ _ _ _ _ _ _ _ _ _ _ _);have s22:=(e_ _ _ 22 _ _ _ (HJ.out.1.1.1.1.1.2)).trans (K9 _ _ _ _ _ _ _ _ _ _ _ _)
                 go_upto_region 49 with (first
                  |(refine cz E ?r1 (.tmp 16) ?r2 gR16 ?r3 _ (HJ.out.1.1.1.2) ?_;(case r2=>exact rfl);(case r1=>exact rfl);(case r3=>exact rfl))
                  |(refine dw (((ddK V).length:Int)+1) (.slice m1 (ddK V).length e1) ?r1 (.tmp 22) ?r2 gR22 ?r3 _ (HJ.out.2) ?_;(case r2=>exact rfl);(case r1=>exact rfl);(case r3=>exact rfl))
                  |(refine p8 ?r1 ?r2 ?_;(case r2=>exact rfl);(case r1=>exact rfl))
                  |(go_at_call 28;refine(HMH.out _ _ _ _ (HK.out _ (HJ.out.1.1.1.1.1.1.1.1.1.1.1)) (HJ.out.1.2) (HJ.out.1.1.1.1.1.1.2)).mono ?_;clear s21 s22;rintro e yy ⟨f1,h1,f2,h2,rfl,hmk,hb⟩;replace HJ:=O (ST.out.on _ _ HJ.out hb);have HMK:=O hmk;clear hmk;clear hb)
                  |(refine aH (tbA (((ddK V).length:Int)+1) (.slice f1 (ddK V).length h1)) 45 ?r1 (.tmp 29) (.tmp 268) ?r2 yy.heap.size ?r3 ?r4 ?r5 (cZ _ _) (fg _ _ _ _) (dP _ _ _ _) ?_;(case r2=>exact rfl);(case r1=>exact rfl);(case r3=>exact rfl);(case r4=>exact rfl);(case r5=>exact rfl)))
                 replace HJ:=O (And.intro HJ.out HMK.out);replace ST:=O (ST.out.and (bS.rdK (.slice f1 (ddK V).length h1) (ddK V)));clear HMK
                 try simp only[Act.put]
                 obtain⟨gR29,hg,hj⟩:=ST.out.new HJ.out (tbA (((ddK V).length:Int)+1) (.slice f1 (ddK V).length h1)) 45;rw[←hg];generalize yy.alloc (.cells (tbA (((ddK V).length:Int)+1) (.slice f1 (ddK V).length h1)) 45)=Y5 at hj ⊢;replace HJ:=O hj;replace ST:=O (ST.out.and (bS.row gR29 (tbA (((ddK V).length:Int)+1) (.slice f1 (ddK V).length h1)) 45));clear hj hg;have HSA:=O (fun (y:World) (a:RdK y (.slice m1 (ddK V).length e1) (ddK V)) (b:RdK y (.slice f1 (ddK V).length h1) (ddK V))=>Iz (((ddK V).length:Int)+1) (.slice m1 (ddK V).length e1) (.slice f1 (ddK V).length h1) (ddK V) y a b)
                 go_upto_region 50 with (first
                  |(refine dw (((ddK V).length:Int)+1) (.slice m1 (ddK V).length e1) ?r1 (.tmp 22) ?r2 gR22 ?r3 _ (HJ.out.1.1.2) ?_;(case r2=>exact rfl);(case r1=>exact rfl);(case r3=>exact rfl))
                  |(refine dw (((ddK V).length:Int)+1) (.slice f1 (ddK V).length h1) ?r1 (.tmp 29) ?r2 gR29 ?r3 _ (HJ.out.2) ?_;(case r2=>exact rfl);(case r1=>exact rfl);(case r3=>exact rfl))
                  |(go_at_call 26;refine(HSA.out _ (HJ.out.1.1.1.2) (HJ.out.1.2)).mono ?_;rintro e yy ⟨rfl,hb⟩;replace HJ:=O (ST.out.on _ _ HJ.out hb);clear hb))
                 have p1:=(e_ _ _ 1 _ _ _ (HJ.out.1.1.2)).trans (zS _ _);go_wp2;go_ret;exact⟨rfl,(HJ.out.1.1.1.1.1.1.1.1.1.1.1.1.1)⟩
theorem jf (os:Os) (started:os.Started) (H:Type) (enc:TypeId × Value→H) :
  ReturnsInHanded {} Tryz.checked os 8 .any (fun w args=>(Rows.domainSplitsAndMergesSpec.pre enc prog f8 [] false w args∧laidMetH prog qD w)∧sizedMet enc prog f8 (OpenSpec.ofChange Rows.domainSplitsAndMergesSpec) false w args) (Rows.domainSplitsAndMergesSpec.post enc prog f8 false true false false):=by
 refine returnsInHanded_of_change_and (C:=Tryz.checked) (X:=fun w _=>laidMetH prog qD w) (fun _ _ _ hh h=>h.of_heap hh) Tryz.own started (by kernel_rfl) func8
  (ChangeSpec.witness_shaped (enc:=enc) (C:=Tryz.checked) (os:=os) (X:=fun w _=>laidMetH prog qD w) false (World.doorLaid prog 222 os) #[.agg #[.int .i64 0,.slice none 0 0],.int .u16 0,.string ByteArray.empty,.int .i64 0] 8 rfl (World.shaped_of_RefB (by kernel_rfl) (by kernel_rfl)) (by kernel_rfl) (by kernel_rfl) (by kernel_rfl) (AJ os _)) ?_
 intro W ai args ds gs before hval0 hW _ hwt hL _;have hval:∀(j:Nat) t v,f8.params[j]?=some t→args[j]?=some v→Value.okWide prog W .any ai t v:=hval0;have hW':=hW;obtain⟨p,q,hA0,hV,rfl,hfz,hnd⟩:=hW;have hA:DataW.TrodAll enc prog W 0 (fun _=>true) true f8.params.toList args.toList ds p:=hA0;rw[params8] at hA hval;obtain⟨v0,vs0,d0,ds0,p0,q0,hargs,rfl,rfl,h0,r0⟩:=trodAll_cons hA;obtain⟨v1,vs1,d1,ds1,p1,q1,rfl,rfl,rfl,h1,r1⟩:=trodAll_cons r0;obtain⟨v2,vs2,d2,ds2,p2,q2,rfl,rfl,rfl,h2,r2⟩:=trodAll_cons r1;obtain⟨v3,vs3,d3,ds3,p3,q3,rfl,rfl,rfl,h3,r3⟩:=trodAll_cons r2;obtain⟨rfl,rfl,rfl⟩:=trodAll_nil r3
 obtain rfl:args = #[v0,v1,v2,v3]:=by cases args;simp_all
 obtain⟨rfl,rfl⟩:=trodVars_none hV;have k0:=h0
 have lt0:∀x∈p0,x.block<W.heap.size:=by obtain⟨m,hm⟩:=k0;exact DataW.trod_lt m _ _ _ hm
 obtain⟨n0,u0,a0,rfl,x0,w0,f0⟩:=zT (hval 0 45 v0 rfl rfl) h0;obtain⟨a1,rfl,rfl,rfl,w1⟩:=open_int underlying84 (hval 1 84 v1 rfl rfl) h1;obtain⟨a2,rfl,rfl,rfl,w2⟩:=open_string underlying9 (hval 2 9 v2 rfl rfl) h2;obtain⟨a3,rfl,rfl,rfl,w3⟩:=open_int underlying3 (hval 3 3 v3 rfl rfl) h3;have htab:=FF hL;clear hA0 hval0;refine(jM n0 u0 a0 a1 a2 a3 W x0 w0 f0 w1 w2 w3 htab).mono fun e W' ⟨he,bel⟩ => ?_;subst he;exact⟨_,rfl,_,_,_,[],_,[],hW',trodAll_mk1 (shut_bool underlying4 _),(trodAll_cons_mk (Below.trod Tryz.laidOut (by kernel_rfl) (of_decide_eq_true (by kernel_rfl)) k0 bel lt0) (trodAll_cons_mk (shut_int underlying84 w1) (trodAll_cons_mk (shut_string underlying9 w2) (trodAll_cons_mk (shut_int underlying3 w3) trodAll_mk0)))),rfl,bel.frame _,fun h=>by cases h⟩
theorem j9:Rows.DomainSplitsAndMergesSaid :=
 OpenClaim.holds_of_wide 8 f8 rfl rfl rfl rfl rfl rfl rfl ⟨rfl,rfl,rfl,rfl,rfl⟩ rfl rfl rfl rfl rfl (by kernel_rfl) func8 (by kernel_rfl)
  (of_decide_eq_true (by kernel_rfl)) (by unfold Func.isWrapper;first |(rw[G_ (by decide +kernel)];kernel_rfl)|(rw[H_ (by decide +kernel)];exact⟨rfl,rfl⟩))
  (fun os started H enc _=>jf os started H enc)
theorem DomainSplitsAndMerges_proved:Rows.DomainSplitsAndMergesCardSaid :=
 Claim7.holds_tied_plain_at .later [] [.data] true Rows.domainSplitsAndMergesCard.stood.harness false
  j9 (fun _ h=>by cases h) (by kernel_rfl) (fun _ h=>by cases h) domainSplitsAndMerges_row_tie rfl ⟨rfl,rfl⟩ (by kernel_rfl) rfl
  (fun f fn hf hfn=>by
   obtain rfl:f=8:=Option.some.inj ((show prog.funcNamed "custody/custodylaw38.DomainSplitsAndMerges" = some 8 by kernel_rfl).symm.trans hf) |>.symm
   obtain rfl:fn=f8:=(Option.some.inj (func8.symm.trans hfn)).symm
   exact⟨by kernel_rfl,fun j t ht=>by
    rw[params8] at ht
    rcases j with _|_|_|_|j
    ·simp at ht;subst ht;kernel_rfl
    ·simp at ht;subst ht;kernel_rfl
    ·simp at ht;subst ht;kernel_rfl
    ·simp at ht;subst ht;kernel_rfl
    ·simp at ht⟩)
  (by kernel_rfl)
end
end Go.Proofs.YtmfiaadjdbemnaaGreatDoor
