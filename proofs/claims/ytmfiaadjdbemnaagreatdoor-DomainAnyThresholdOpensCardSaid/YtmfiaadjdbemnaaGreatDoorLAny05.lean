/- The law DomainAnyThresholdOpens holds for every input: it returns true and leaves its arguments as they were. No condition. -/
import Derived.Test.YtmfiaadjdbemnaaGreatDoorLAny03
import Derived.Test.YtmfiaadjdbemnaaGreatDoorLAny04
import Derived.SevenTiedAt
import Derived.Test.YtmfiaadjdbemnaaGreatDoorCards
import Derived.Test.YtmfiaadjdbemnaaGreatDoorTie
set_option maxRecDepth 100000
set_option maxHeartbeats 8000000
set_option linter.unusedSimpArgs false
set_option linter.unusedVariables false
namespace Go.Proofs.YtmfiaadjdbemnaaGreatDoor
open Go.Proofs.Tryz
section
open Go.ChangeShapes Go.WideShapes Go.ChangeAt Go.RowKit
open Go.ChangeMaps (open_string shut_string)
attribute [local irreducible] Calls doA ag tbA sb bE fdP
theorem jd (a0:ByteArray) (n1:Int) (u1:Value) (a1:List K) (v2:Value) (a2:List UInt8) (n3 m3:UInt8) (w:World) (w0:a0.size≤maxLen) (x1:(Lit.int .i64 n1).wf=true) (w1:RdK w u1 a1) (f1:cQ a1) (w2:RdE eB w v2 a2) (htab:KAt w) :
  Calls prog 7 #[.string a0,.agg #[.int .i64 n1,u1],v2,.agg #[.int .u8 (B8 n3),.int .u8 (B8 m3)]] w fun e w'=>e = .returned (.bool true)∧Below w.heap.size w w':=by
 obtain⟨sd,rfl⟩:=vW a0;have TK0:=O w1;have PK0:=O w2;obtain⟨ta,tc,rfl,_,_,_⟩:=id w1;obtain⟨pa,pc,rfl,_,_,_⟩:=id w2;obtain⟨W0,hW0⟩:∃W0,W0=(w.alloc (.cells #[.int .i64 n1,(.slice ta a1.length tc)] 45)).alloc (.cells #[.int .u8 (B8 n3),.int .u8 (B8 m3)] 81):=⟨_,rfl⟩;have HW:=O hW0;have R5:Hid (W0.heap[w.heap.size]?=some (.cells (tbA n1 (.slice ta a1.length tc)) 45 (0,0))):=O (by rw[hW0,DL];exact eP _ _ _);have R7:Hid (W0.heap[w.heap.size+1]?=some (.cells #[.int .u8 (B8 n3),.int .u8 (B8 m3)] 81 (0,0))):=O (by rw[hW0];exact eR _ _ _);have HB:Hid (Below w.heap.size w W0):=O (by rw[hW0];exact dm _ _ _ (O_ _ _));have TK:=O (TK0.out.on HB.out);have PK:=O (PK0.out.on HB.out);have HK:Hid (∀y,Below w.heap.size w y→KAt y):=O (fun y h=>htab.on h);have HS:=O (fun (y:World) (a:KAt y)=>mf y a);have HFW:=O (fun (y:World) (h:RdK y (.slice ta a1.length tc) a1)=>D5 n1 (.slice ta a1.length tc) a1 y h);have hzero_do:=iy;have hzero_rc:=fi;have hzero_bk:=fh;clear hW0 htab TK0 PK0 w0 w1 w2;have tok1:True:=trivial;have tok2:True:=trivial;have tok3:True:=trivial;have tok4:True:=trivial;have tok5:True:=trivial
 cases hf:oC n1 a1 zB [] with
 | false =>
   rw[hf] at HFW;clear hf
   go_enter func7,ntmps7
   go_upto_region 1 with fail
   rw[←HW.out]
   try dsimp only[Act.put]
   go_wp2_with (first
    |(clear tok1;go_at_call 9;refine(HS.out _ (HK.out _ HB.out)).mono ?_;rintro e yy ⟨rfl,hb⟩;replace HB:=O (HB.out.trans (hb.mono HB.out.size));replace R5:=O (aa R5.out hb);replace R7:=O (aa R7.out hb);replace TK:=O (TK.out.on hb);replace PK:=O (PK.out.on hb);clear hb)
    |(clear tok2;go_at_call 17;refine(HFW.out _ TK.out).mono ?_;rintro e yy ⟨rfl,hb⟩;replace HB:=O (HB.out.trans (hb.mono HB.out.size));replace R5:=O (aa R5.out hb);replace R7:=O (aa R7.out hb);replace TK:=O (TK.out.on hb);replace PK:=O (PK.out.on hb);clear hb)
    |(refine dw n1 (.slice ta a1.length tc) rfl (.tmp 5) rfl w.heap.size rfl _ R5.out ?_)
    |(refine lD rfl rfl ?_))
   go_ret;exact⟨rfl,HB.out⟩
 | true =>
   rw[hf] at HFW;have hvt:=uU hf;clear hf
   rcases Nat.lt_or_ge 100 sd.length with hl|hl
   ·have i1:(100:Int)<(sd.length:Int):=by omega
    clear hl
    go_enter func7,ntmps7
    go_upto_region 1 with fail
    rw[←HW.out]
    try dsimp only[Act.put]
    go_wp2_with (first
     |(clear tok1;go_at_call 9;refine(HS.out _ (HK.out _ HB.out)).mono ?_;rintro e yy ⟨rfl,hb⟩;replace HB:=O (HB.out.trans (hb.mono HB.out.size));replace R5:=O (aa R5.out hb);replace R7:=O (aa R7.out hb);replace TK:=O (TK.out.on hb);replace PK:=O (PK.out.on hb);clear hb)
     |(clear tok2;go_at_call 17;refine(HFW.out _ TK.out).mono ?_;rintro e yy ⟨rfl,hb⟩;replace HB:=O (HB.out.trans (hb.mono HB.out.size));replace R5:=O (aa R5.out hb);replace R7:=O (aa R7.out hb);replace TK:=O (TK.out.on hb);replace PK:=O (PK.out.on hb);clear hb)
     |(refine dw n1 (.slice ta a1.length tc) rfl (.tmp 5) rfl w.heap.size rfl _ R5.out ?_)
     |(refine lD rfl rfl ?_))
    go_ret;exact⟨rfl,HB.out⟩
   have i1:¬(100:Int)<(sd.length:Int):=by omega
   rcases Nat.lt_or_ge 40 a2.length with hm|hm
   ·have i2:(40:Int)<(a2.length:Int):=by omega
    clear hm
    go_enter func7,ntmps7
    go_upto_region 1 with fail
    rw[←HW.out]
    try dsimp only[Act.put]
    go_wp2_with (first
     |(clear tok1;go_at_call 9;refine(HS.out _ (HK.out _ HB.out)).mono ?_;rintro e yy ⟨rfl,hb⟩;replace HB:=O (HB.out.trans (hb.mono HB.out.size));replace R5:=O (aa R5.out hb);replace R7:=O (aa R7.out hb);replace TK:=O (TK.out.on hb);replace PK:=O (PK.out.on hb);clear hb)
     |(clear tok2;go_at_call 17;refine(HFW.out _ TK.out).mono ?_;rintro e yy ⟨rfl,hb⟩;replace HB:=O (HB.out.trans (hb.mono HB.out.size));replace R5:=O (aa R5.out hb);replace R7:=O (aa R7.out hb);replace TK:=O (TK.out.on hb);replace PK:=O (PK.out.on hb);clear hb)
     |(refine dw n1 (.slice ta a1.length tc) rfl (.tmp 5) rfl w.heap.size rfl _ R5.out ?_)
     |(refine lD rfl rfl ?_))
    go_ret;exact⟨rfl,HB.out⟩
   have i2:¬(40:Int)<(a2.length:Int):=by omega
   obtain⟨P,hP⟩:∃P:Nat,P=n3.toNat % 16:=⟨_,rfl⟩
   have hp16:P<16:=by omega
   obtain⟨Q,hQ⟩:∃Q:Nat,Q=m3.toNat % (P+1):=⟨_,rfl⟩
   have hqp:Q≤P:=by have := Nat.mod_lt m3.toNat (show 0<P+1 by omega);omega
   have m1:Int.tmod (B8 n3) 16=(P:Int):=by unfold B8;rw[Int.tmod_eq_emod_of_nonneg (by omega)];omega
   have m2:Int.tmod (B8 m3) (1+(P:Int))=(Q:Int):=by unfold B8;rw[Int.tmod_eq_emod_of_nonneg (by omega),hQ,show (1+(P:Int))=((P+1:Nat):Int) by omega];rfl
   have m3':((1+(P:Int)) == 0)=false:=by rw[U_];omega
   have m4:(P:Int)<16:=by omega
   have m5:(Q:Int)≤(P:Int):=by omega
   have m6:(0:Int)≤Q:=by omega
   have m7:(0:Int)≤P:=by omega
   have HNW:=O (fun (y:World) (a:KAt y)=>Iw sd Q P hp16 hqp hl y a);have HBK:=O (fun (y:World) (a:KAt y) (h:RdK y (.slice ta a1.length tc) a1)=>Np sd n1 a1 hvt (.slice ta a1.length tc) y a h f1);have HCH:=O (fun (v:Value) (y:World) (h:RdE eH y v (fdP (nxS sd) Q (List.range (P+1)))) (h2:RdE eB y (.slice pa a2.length pc) a2)=>Nq (nxS sd) Q P hp16 a2 hm v (.slice pa a2.length pc) y h h2);have HNO:=O (fun (hc:(gG (P+1) a2).length<Q+1) (v:Value) (y:World) (a:KAt y) (h:RdE eH y v (fdP (nxS sd) Q (gG (P+1) a2)))=>IA sd n1 a1 hvt _ (RD (nxS sd) Q P a2 hp16 hqp hm hc) v y a h);have HOK:=O (fun (hc:Q+1≤(gG (P+1) a2).length) (v:Value) (y:World) (a:KAt y) (h:RdE eH y v (fdP (nxS sd) Q (gG (P+1) a2)))=>IB sd n1 a1 hvt f1 _ (Ix (nxS sd) Q P a2 hp16 hqp hm hc).1 (Nt sd Q P a2 hp16 hqp hm hc) v y a h);have hidd:=RC sd;have hnm:=Ns sd;have HID:=O hidd;have HNM:=O hnm;clear hidd hnm;generalize bE sd=D at HNW HBK HNO HOK HID HNM;generalize { D with bk:=0+1 }=D2 at HBK;generalize cG D sb=B1 at HBK HNO HOK HID HNM;generalize bX D.key B1 a1=X at HBK HNO HOK;generalize nxS (nxS (nxS sd))=r3 at HNW;generalize fdP (nxS sd) Q (List.range (P+1))=sl at HNW HCH;generalize fdP (nxS sd) Q (gG (P+1) a2)=sm at HCH HNO HOK;have HN3:Hid ((gG (P+1) a2).length≤40):=O (M_ (qe _ _) hm);generalize (gG (P+1) a2).length=cn at HCH HNO HOK HN3
   have hn3:(cn:Int)≤40:=by have := HN3.out;omega
   clear hvt hP hQ hp16 hqp hl hm
   go_enter func7,ntmps7
   go_upto_region 1 with fail
   rw[←HW.out]
   try dsimp only[Act.put]
   go_upto_region 4 with (first
    |(clear tok1;go_at_call 9;refine(HS.out _ (HK.out _ HB.out)).mono ?_;rintro e yy ⟨rfl,hb⟩;replace HB:=O (HB.out.trans (hb.mono HB.out.size));replace R5:=O (aa R5.out hb);replace R7:=O (aa R7.out hb);replace TK:=O (TK.out.on hb);replace PK:=O (PK.out.on hb);clear hb)
    |(clear tok2;go_at_call 17;refine(HFW.out _ TK.out).mono ?_;rintro e yy ⟨rfl,hb⟩;replace HB:=O (HB.out.trans (hb.mono HB.out.size));replace R5:=O (aa R5.out hb);replace R7:=O (aa R7.out hb);replace TK:=O (TK.out.on hb);replace PK:=O (PK.out.on hb);clear hb)
    |(refine dw n1 (.slice ta a1.length tc) rfl (.tmp 5) rfl w.heap.size rfl _ R5.out ?_)
    |(refine lD rfl rfl ?_))
   have p0:yy.cell? ⟨w.heap.size+1,0,none⟩=some (.int .u8 (B8 n3)):=e_ _ _ 0 _ _ _ R7.out;have p1:yy.cell? ⟨w.heap.size+1,1,none⟩=some (.int .u8 (B8 m3)):=e_ _ _ 1 _ _ _ R7.out
   go_upto_region 6 with fail
   clear p0 p1
   go_upto_region 7 with (first
    |(refine oS sd rfl (.tmp 51) rfl rfl ?_)
    |(go_at_call 10;refine(HNW.out _ (HK.out _ HB.out)).mono ?_;rintro e yy ⟨la,lc,rfl,hs3,hb⟩;replace HB:=O (HB.out.trans (hb.mono HB.out.size));replace R5:=O (aa R5.out hb);replace R7:=O (aa R7.out hb);replace TK:=O (TK.out.on hb);replace PK:=O (PK.out.on hb);have S3:=O hs3;clear hs3;clear hb)
    |(refine aM (T:=25) (doA D) (b8 _) rfl (.tmp 12) (.tmp 56) rfl yy.heap.size (doA zD) rfl rfl (cr _) (dE _ _) (eP _ _ _) ?_;intro wa hga hoa hba;have HWA:=O (And.intro hga (And.intro hoa hba));clear hga hoa hba)
    |(refine aM (T:=30) (ag r3) (bu _) rfl (.tmp 14) (.tmp 58) rfl (yy.heap.size+1) (ag []) rfl rfl (aS _) (bM _ _) ((HWA.out.2.1 _ (by omega)).trans (eR _ _ _)) ?_;intro wb hgb hob hbb;have HWB:=O (And.intro hgb (And.intro hob hbb));clear hgb hob hbb))
   have hb:=(((dm yy _ _ (O_ _ _)).trans (HWA.out.2.2 yy.heap.size (A_ _))).trans (HWB.out.2.2 yy.heap.size (by omega)));have R120:=O ((HWB.out.2.1 yy.heap.size (by omega)).trans HWA.out.1);replace HB:=O (HB.out.trans (hb.mono HB.out.size));replace R5:=O (aa R5.out hb);replace R7:=O (aa R7.out hb);replace TK:=O (TK.out.on hb);replace PK:=O (PK.out.on hb);replace S3:=O (S3.out.on hb);clear hb HWA HWB;obtain⟨gR12,hg⟩:∃g,g=yy.heap.size:=⟨_,rfl⟩;rw[←hg] at R120 ⊢;have R12:=R120;clear R120 hg
   go_upto_region 8 with (first
    |(refine cz D rfl (.tmp 12) rfl gR12 rfl _ R12.out ?_)
    |(refine dw n1 (.slice ta a1.length tc) rfl (.tmp 5) rfl w.heap.size rfl _ R5.out ?_)
    |(refine CB rfl _ rfl rfl ?_)
    |(go_at_call 19;refine(HBK.out _ (HK.out _ HB.out) TK.out).mono ?_;rintro e yy ⟨rfl,hb⟩;replace HB:=O (HB.out.trans (hb.mono HB.out.size));replace R5:=O (aa R5.out hb);replace R7:=O (aa R7.out hb);replace R12:=O (aa R12.out hb);replace TK:=O (TK.out.on hb);replace PK:=O (PK.out.on hb);replace S3:=O (S3.out.on hb);clear hb)
    |(refine aH (doA D2) 25 rfl (.tmp 16) (.tmp 65) rfl _ rfl rfl rfl (b8 _) (dE _ _) (cr _) ?_))
   try simp only[Act.put]
   have hb:=(O_ yy.heap.size yy).alloc (A_ _) (.cells (doA D2) 25);replace HB:=O (HB.out.trans (hb.mono HB.out.size));replace R5:=O (aa R5.out hb);replace R7:=O (aa R7.out hb);replace R12:=O (aa R12.out hb);replace TK:=O (TK.out.on hb);replace PK:=O (PK.out.on hb);replace S3:=O (S3.out.on hb);clear hb;generalize yy.alloc (.cells (doA D2) 25)=Y1 at HB R5 R7 R12 TK PK S3  ⊢
   go_upto_region 10 with fail
   go_upto_region 11 with (first
    |(go_at_call 30;refine(HCH.out _ _ S3.out PK.out).mono ?_;rintro e yy ⟨ca,cc,rfl,hs5,hb⟩;replace HB:=O (HB.out.trans (hb.mono HB.out.size));replace R5:=O (aa R5.out hb);replace R7:=O (aa R7.out hb);replace R12:=O (aa R12.out hb);replace TK:=O (TK.out.on hb);replace PK:=O (PK.out.on hb);replace S3:=O (S3.out.on hb);have S5:=O hs5;clear hs5;clear hb))
   rcases Nat.lt_or_ge cn (Q+1) with hc|hc
   ·have i3:(cn:Int)<1+(Q:Int):=by omega
    have HUN:=O (HNO.out hc);clear hc HNO HOK
    go_upto_region 12 with (first
     |(go_at_call 21;refine(HUN.out _ _ (HK.out _ HB.out) S5.out).mono ?_;rintro e yy ⟨ub,ua,uc,ug,rfl,hne,hs20,hb⟩;replace HB:=O (HB.out.trans (hb.mono HB.out.size));replace R5:=O (aa R5.out hb);replace R7:=O (aa R7.out hb);replace R12:=O (aa R12.out hb);replace TK:=O (TK.out.on hb);replace PK:=O (PK.out.on hb);replace S3:=O (S3.out.on hb);replace S5:=O (S5.out.on hb);have S20:=O hs20;clear hs20;clear hb)
     |(refine aH (bc ub (.slice ua 0 uc)) 47 rfl (.tmp 20) (.tmp 81) rfl _ rfl rfl rfl (by rw[aC];exact dU) (by rw[aC,aC]) (dl _ _ _ _) ?_))
    try simp only[Act.put]
    have hb:=(O_ yy.heap.size yy).alloc (A_ _) (.cells (bc ub (.slice ua 0 uc)) 47);have R200:=O (heap_alloc_new yy (.cells (bc ub (.slice ua 0 uc)) 47));replace HB:=O (HB.out.trans (hb.mono HB.out.size));replace R5:=O (aa R5.out hb);replace R7:=O (aa R7.out hb);replace R12:=O (aa R12.out hb);replace TK:=O (TK.out.on hb);replace PK:=O (PK.out.on hb);replace S3:=O (S3.out.on hb);replace S5:=O (S5.out.on hb);replace S20:=O (S20.out.on hb);clear hb;generalize yy.alloc (.cells (bc ub (.slice ua 0 uc)) 47)=Y2 at HB R5 R7 R12 TK PK S3 S5 S20 R200 ⊢;obtain⟨gR20,hg⟩:∃g,g=yy.heap.size:=⟨_,rfl⟩;rw[←hg] at R200 ⊢;have R20:=R200;clear R200 hg;have c37:=(e_ _ _ 37 _ _ _ R20.out).trans (iU _ _);go_wp2;go_ret;exact⟨rfl,HB.out⟩
   ·have i3:¬(cn:Int)<1+(Q:Int):=by omega
    have HUN:=O (HOK.out hc);clear hc HNO HOK
    go_upto_region 12 with (first
     |(go_at_call 21;refine(HUN.out _ _ (HK.out _ HB.out) S5.out).mono ?_;rintro e yy ⟨ua,uc,rfl,hs20,hb⟩;replace HB:=O (HB.out.trans (hb.mono HB.out.size));replace R5:=O (aa R5.out hb);replace R7:=O (aa R7.out hb);replace R12:=O (aa R12.out hb);replace TK:=O (TK.out.on hb);replace PK:=O (PK.out.on hb);replace S3:=O (S3.out.on hb);replace S5:=O (S5.out.on hb);have S20:=O hs20;clear hs20;clear hb)
     |(refine aH (bc B1 (.slice ua a1.length uc)) 47 rfl (.tmp 20) (.tmp 81) rfl _ rfl rfl rfl (by rw[aC];exact dU) (by rw[aC,aC]) (dl _ _ _ _) ?_))
    try simp only[Act.put]
    have hb:=(O_ yy.heap.size yy).alloc (A_ _) (.cells (bc B1 (.slice ua a1.length uc)) 47);have R200:=O (heap_alloc_new yy (.cells (bc B1 (.slice ua a1.length uc)) 47));replace HB:=O (HB.out.trans (hb.mono HB.out.size));replace R5:=O (aa R5.out hb);replace R7:=O (aa R7.out hb);replace R12:=O (aa R12.out hb);replace TK:=O (TK.out.on hb);replace PK:=O (PK.out.on hb);replace S3:=O (S3.out.on hb);replace S5:=O (S5.out.on hb);replace S20:=O (S20.out.on hb);clear hb;generalize yy.alloc (.cells (bc B1 (.slice ua a1.length uc)) 47)=Y3 at HB R5 R7 R12 TK PK S3 S5 S20 R200 ⊢;obtain⟨gR20,hg⟩:∃g,g=yy.heap.size:=⟨_,rfl⟩;rw[←hg] at R200 ⊢;have R20:=R200;clear R200 hg;have c37:=(e_ _ _ 37 _ _ _ R20.out).trans (iU _ _);have t0:=(e_ _ _ 0 _ _ _ R5.out).trans (WY _ _);have heq:=fun y=>oJ B1.dom B1.dom y;rw[kV] at heq;have RD12:Hid (∀y:World,y.heap[gR12]?=some (.cells (doA D) 25 (0,0))→y.rangeAt gR12 0 (am B1.dom).toList):=O (fun y h=>by rw[←HID.out];exact eT h)
    go_upto_region 15 with (first
     |(refine CC n1 ua a1.length uc rfl _ (.tmp 101) rfl rfl rfl ?_)
     |(refine dw n1 (.slice ta a1.length tc) rfl (.tmp 5) rfl w.heap.size rfl _ R5.out ?_)
     |(go_at_call 26;refine(Iz n1 (.slice ua a1.length uc) (.slice ta a1.length tc) a1 _ S20.out TK.out).mono ?_;rintro e yy ⟨rfl,hb⟩;replace HB:=O (HB.out.trans (hb.mono HB.out.size));replace R5:=O (aa R5.out hb);replace R7:=O (aa R7.out hb);replace R12:=O (aa R12.out hb);replace R20:=O (aa R20.out hb);replace TK:=O (TK.out.on hb);replace PK:=O (PK.out.on hb);replace S3:=O (S3.out.on hb);replace S5:=O (S5.out.on hb);replace S20:=O (S20.out.on hb);clear hb))
    clear c37 t0;have c17:=(e_ _ _ 17 _ _ _ R20.out).trans (sy _ _);rw[HNM.out] at c17
    go_wp2_with (first
     |(clear tok3;refine jt B1.dom gR20 0 (.tmp 114) ?r1 (gM R20.out) ?r2 ?r3 ?_;(case r1=>exact rfl);(case r2=>exact rfl);(case r3=>exact rfl))
     |(clear tok4;refine jt B1.dom gR12 0 (.tmp 116) ?r1 (RD12.out _ R12.out) ?r2 ?r3 ?_;(case r1=>exact rfl);(case r2=>exact rfl);(case r3=>exact rfl))
     |(clear tok5;refine mh .eql 23 23 (.tmp 115) (.tmp 117) (.agg (am B1.dom)) (.agg (am B1.dom)) (.bool true) ?r1 ?r2 ?r3 ?r4 (fun y=>xi _ _ _ _ y) heq ?_;(case r1=>exact rfl);(case r2=>exact rfl);(case r3=>exact rfl);(case r4=>exact rfl)))
    go_ret;exact⟨rfl,HB.out⟩
theorem iG (os:Os) (started:os.Started) (H:Type) (enc:TypeId × Value→H) :
  ReturnsInHanded {} Tryz.checked os 7 .any (fun w args=>(Rows.domainAnyThresholdOpensSpec.pre enc prog f7 [] false w args∧laidMetH prog qD w)∧sizedMet enc prog f7 (OpenSpec.ofChange Rows.domainAnyThresholdOpensSpec) false w args) (Rows.domainAnyThresholdOpensSpec.post enc prog f7 false true false false):=by
 refine returnsInHanded_of_change_and (C:=Tryz.checked) (X:=fun w _=>laidMetH prog qD w) (fun _ _ _ hh h=>h.of_heap hh) Tryz.own started (by kernel_rfl) func7
  (ChangeSpec.witness_shaped (enc:=enc) (C:=Tryz.checked) (os:=os) (X:=fun w _=>laidMetH prog qD w) false (World.doorLaid prog 222 os) #[.string ByteArray.empty,.agg #[.int .i64 0,.slice none 0 0],.slice none 0 0,.agg #[.int .u8 0,.int .u8 0]] 8 rfl (World.shaped_of_RefB (by kernel_rfl) (by kernel_rfl)) (by kernel_rfl) (by kernel_rfl) (by kernel_rfl) (AJ os _)) ?_
 intro W ai args ds gs before hval0 hW _ hwt hL _;have hval:∀(j:Nat) t v,f7.params[j]?=some t→args[j]?=some v→Value.okWide prog W .any ai t v:=hval0;have hW':=hW;obtain⟨p,q,hA0,hV,rfl,hfz,hnd⟩:=hW;have hA:DataW.TrodAll enc prog W 0 (fun _=>true) true f7.params.toList args.toList ds p:=hA0;rw[params7] at hA hval;obtain⟨v0,vs0,d0,ds0,p0,q0,hargs,rfl,rfl,h0,r0⟩:=trodAll_cons hA;obtain⟨v1,vs1,d1,ds1,p1,q1,rfl,rfl,rfl,h1,r1⟩:=trodAll_cons r0;obtain⟨v2,vs2,d2,ds2,p2,q2,rfl,rfl,rfl,h2,r2⟩:=trodAll_cons r1;obtain⟨v3,vs3,d3,ds3,p3,q3,rfl,rfl,rfl,h3,r3⟩:=trodAll_cons r2;obtain⟨rfl,rfl,rfl⟩:=trodAll_nil r3
 obtain rfl:args = #[v0,v1,v2,v3]:=by cases args;simp_all
 obtain⟨rfl,rfl⟩:=trodVars_none hV;have k1:=h1
 have lt1:∀x∈p1,x.block<W.heap.size:=by obtain⟨m,hm⟩:=k1;exact DataW.trod_lt m _ _ _ hm
 have k2:=h2
 have lt2:∀x∈p2,x.block<W.heap.size:=by obtain⟨m,hm⟩:=k2;exact DataW.trod_lt m _ _ _ hm
 have k3:=h3
 have lt3:∀x∈p3,x.block<W.heap.size:=by obtain⟨m,hm⟩:=k3;exact DataW.trod_lt m _ _ _ hm
 obtain⟨a0,rfl,rfl,rfl,w0⟩:=open_string underlying9 (hval 0 9 v0 rfl rfl) h0;obtain⟨n1,u1,a1,rfl,x1,w1,f1⟩:=zT (hval 1 45 v1 rfl rfl) h1;obtain⟨a2,w2⟩:=KS (hval 2 80 v2 rfl rfl) h2;obtain⟨n3,m3,rfl⟩:=O3 (hval 3 81 v3 rfl rfl) h3;have htab:=FF hL;clear hA0 hval0;refine(jd a0 n1 u1 a1 v2 a2 n3 m3 W w0 x1 w1 f1 w2 htab).mono fun e W' ⟨he,bel⟩ => ?_;subst he;exact⟨_,rfl,_,_,_,[],_,[],hW',trodAll_mk1 (shut_bool underlying4 _),(trodAll_cons_mk (shut_string underlying9 w0) (trodAll_cons_mk (Below.trod Tryz.laidOut (by kernel_rfl) (of_decide_eq_true (by kernel_rfl)) k1 bel lt1) (trodAll_cons_mk (Below.trod Tryz.laidOut (by kernel_rfl) (of_decide_eq_true (by kernel_rfl)) k2 bel lt2) (trodAll_cons_mk (Below.trod Tryz.laidOut (by kernel_rfl) (of_decide_eq_true (by kernel_rfl)) k3 bel lt3) trodAll_mk0)))),rfl,bel.frame _,fun h=>by cases h⟩
theorem jo:Rows.DomainAnyThresholdOpensSaid :=
 OpenClaim.holds_of_wide 7 f7 rfl rfl rfl rfl rfl rfl rfl ⟨rfl,rfl,rfl,rfl,rfl⟩ rfl rfl rfl rfl rfl (by kernel_rfl) func7 (by kernel_rfl)
  (of_decide_eq_true (by kernel_rfl)) (by unfold Func.isWrapper;first |(rw[G_ (by decide +kernel)];kernel_rfl)|(rw[H_ (by decide +kernel)];exact⟨rfl,rfl⟩))
  (fun os started H enc _=>iG os started H enc)
theorem DomainAnyThresholdOpens_proved:Rows.DomainAnyThresholdOpensCardSaid :=
 Claim7.holds_tied_plain_at .later [] [.data] true Rows.domainAnyThresholdOpensCard.stood.harness false
  jo (fun _ h=>by cases h) (by kernel_rfl) (fun _ h=>by cases h) domainAnyThresholdOpens_row_tie rfl ⟨rfl,rfl⟩ (by kernel_rfl) rfl
  (fun f fn hf hfn=>by
   obtain rfl:f=7:=Option.some.inj ((show prog.funcNamed "custody/custodylaw38.DomainAnyThresholdOpens" = some 7 by kernel_rfl).symm.trans hf) |>.symm
   obtain rfl:fn=f7:=(Option.some.inj (func7.symm.trans hfn)).symm
   exact⟨by kernel_rfl,fun j t ht=>by
    rw[params7] at ht
    rcases j with _|_|_|_|j
    ·simp at ht;subst ht;kernel_rfl
    ·simp at ht;subst ht;kernel_rfl
    ·simp at ht;subst ht;kernel_rfl
    ·simp at ht;subst ht;kernel_rfl
    ·simp at ht⟩)
  (by kernel_rfl)
end
end Go.Proofs.YtmfiaadjdbemnaaGreatDoor
