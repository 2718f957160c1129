/- The law DomainBackupMatchesSpec holds for every input: it returns true and leaves its arguments as they were. No condition. -/
import Derived.Test.YtmfiaadjdbemnaaGreatDoorLBack12
import Derived.SevenTiedAt
import Derived.Test.YtmfiaadjdbemnaaGreatDoorCards
import Derived.Test.YtmfiaadjdbemnaaGreatDoorTie
set_option maxRecDepth 100000
set_option maxHeartbeats 8000000
set_option linter.unusedSimpArgs false
set_option linter.unusedVariables false
namespace Go.Proofs.YtmfiaadjdbemnaaGreatDoor
open Go.Proofs.Tryz
section
open Go.ChangeShapes Go.WideShapes Go.ChangeAt Go.RowKit
open Go.ChangeMaps (open_string shut_string)
attribute [local irreducible] Calls doA ag tbA bkA dbD dbX dbE ulB ulE ulK
theorem je (d0:DO) (n1:Int) (u1:Value) (a1:List K) (b2:BK) (u2:Value) (a2:List K) (a3:ByteArray) (v4:Value) (a4:List SH) (w:World) (x0:d0.mach) (x1:(Lit.int .i64 n1).wf=true) (w1:RdK w u1 a1) (f1:cQ a1) (x2:b2.mach) (w2:RdK w u2 a2) (f2:cQ a2) (w3:a3.size≤maxLen) (w4:RdE eH w v4 a4) (x4:∀s∈a4,s.mach) (htab:cA w∧KAt w) :
  Calls prog 4 #[.agg (doA d0),.agg #[.int .i64 n1,u1],.agg (bc b2 u2),.string a3,v4] w fun e w'=>e = .returned (.bool true)∧Below w.heap.size w w':=by
 obtain⟨bl,rfl⟩:=vW a3;have TK0:=O w1;have BK0:=O w2;have SH0:=O w4;obtain⟨ta,tc,rfl,_,_,_⟩:=id w1;obtain⟨ba,bd,rfl,_,_,_⟩:=id w2;obtain⟨sa,sc,rfl,_,_,_⟩:=id w4;obtain⟨W0,hW0⟩:∃W0,W0=((w.alloc (.cells (doA d0) 25)).alloc (.cells #[.int .i64 n1,(.slice ta a1.length tc)] 45)).alloc (.cells (bc b2 (.slice ba a2.length bd)) 47):=⟨_,rfl⟩;have HW:=O hW0
 have hb0:Below w.heap.size w W0:=by rw[hW0];exact((dm w _ _ (O_ _ _)).alloc (by simp;omega) _)
 obtain⟨gd,hgd⟩:∃g,g=w.heap.size:=⟨_,rfl⟩;have ST:Hid (bS fun y=>(Below w.heap.size w y)∧(y.heap[w.heap.size]?=some (.cells (doA d0) 25 (0,0)))∧(y.heap[w.heap.size+1]?=some (.cells (tbA n1 (.slice ta a1.length tc)) 45 (0,0)))∧(y.heap[w.heap.size+2]?=some (.cells (bc b2 (.slice ba a2.length bd)) 47 (0,0)))∧(RdK y (.slice ta a1.length tc) a1)∧(RdK y (.slice ba a2.length bd) a2)∧(RdE eH y (.slice sa a4.length sc) a4)):=O ((bS.b w).and ((bS.row _ _ _).and ((bS.row _ _ _).and ((bS.row _ _ _).and ((bS.rdK _ _).and ((bS.rdK _ _).and (bS.rdE _ _ _)))))));have HJ:Hid ((Below w.heap.size w W0)∧(W0.heap[w.heap.size]?=some (.cells (doA d0) 25 (0,0)))∧(W0.heap[w.heap.size+1]?=some (.cells (tbA n1 (.slice ta a1.length tc)) 45 (0,0)))∧(W0.heap[w.heap.size+2]?=some (.cells (bc b2 (.slice ba a2.length bd)) 47 (0,0)))∧(RdK W0 (.slice ta a1.length tc) a1)∧(RdK W0 (.slice ba a2.length bd) a2)∧(RdE eH W0 (.slice sa a4.length sc) a4)):=O ⟨hb0,by rw[hW0];exact oo _ _ _ _,by rw[hW0,DL];exact oq _ _ _ _,by rw[hW0];exact ot _ _ _ _,TK0.out.on hb0,BK0.out.on hb0,SH0.out.on hb0⟩;have HK:Hid (∀y,Below w.heap.size w y→KAt y):=O (fun y h=>htab.2.on h);have HK0:Hid (∀y,Below w.heap.size w y→cA y):=O (fun y h=>htab.1.on h);have HS:=O (fun (y:World) (a:KAt y)=>mf y a);have HFW:=O (fun (y:World) (h:RdK y (.slice ta a1.length tc) a1) (h2:RdK y (.slice ba a2.length bd) a2)=>EG n1 (.slice ta a1.length tc) a1 b2 (.slice ba a2.length bd) a2 y h h2);have HSW:=O (fun (y:World) (h:RdE eH y (.slice sa a4.length sc) a4)=>Hs a4 (.slice sa a4.length sc) y h);have hzero_do:=iy;have hzero_bk:=fh;have hzero_ba:=Ai;clear hW0 htab TK0 BK0 SH0 w1 w2 w3 w4 hb0 hgd gd;have tok1:True:=trivial;have tok2:True:=trivial;have tok3:True:=trivial
 cases hf:oC n1 a1 b2 a2 with
 | false =>
   rw[hf] at HFW;clear hf
   go_enter func4,ntmps4
   go_upto_region 1 with fail
   rw[←HW.out]
   try dsimp only[Act.put]
   go_wp2_with (first
    |(clear tok1;go_at_call 9;refine(HS.out _ (HK.out _ (HJ.out.1))).mono ?_;rintro e yy ⟨rfl,hb⟩;replace HJ:=O (ST.out.on _ _ HJ.out hb);have c16:=(e_ _ _ 16 _ _ _ (HJ.out.2.1)).trans (cK d0);clear hb)
    |(clear tok2;go_at_call 17;refine(HFW.out _ (HJ.out.2.2.2.2.1) (HJ.out.2.2.2.2.2.1)).mono ?_;clear c16;rintro e yy ⟨rfl,hb⟩;replace HJ:=O (ST.out.on _ _ HJ.out hb);have c16:=(e_ _ _ 16 _ _ _ (HJ.out.2.1)).trans (cK d0);clear hb)
    |(clear tok3;go_at_call 18;refine(HSW.out _ (HJ.out.2.2.2.2.2.2)).mono ?_;clear c16;rintro e yy ⟨rfl,hb⟩;replace HJ:=O (ST.out.on _ _ HJ.out hb);have c16:=(e_ _ _ 16 _ _ _ (HJ.out.2.1)).trans (cK d0);clear hb)
    |(refine dw n1 (.slice ta a1.length tc) ?r1 (.tmp 6) ?r2 (w.heap.size+1) ?r3 _ (HJ.out.2.2.1) ?_;(case r2=>exact rfl);(case r1=>exact rfl);(case r3=>exact rfl))
    |(refine cH b2 (.slice ba a2.length bd) ?r1 (.tmp 7) ?r2 (w.heap.size+2) ?r3 _ (HJ.out.2.2.2.1) ?_;(case r2=>exact rfl);(case r1=>exact rfl);(case r3=>exact rfl)))
   go_ret;exact⟨rfl,(HJ.out.1)⟩
 | true =>
   rw[hf] at HFW;have hln:=AX hf;clear hf
   cases hf:nw a4 with
   | false =>
     rw[hf] at HSW;clear hf
     go_enter func4,ntmps4
     go_upto_region 1 with fail
     rw[←HW.out]
     try dsimp only[Act.put]
     go_wp2_with (first
      |(clear tok1;go_at_call 9;refine(HS.out _ (HK.out _ (HJ.out.1))).mono ?_;rintro e yy ⟨rfl,hb⟩;replace HJ:=O (ST.out.on _ _ HJ.out hb);have c16:=(e_ _ _ 16 _ _ _ (HJ.out.2.1)).trans (cK d0);clear hb)
      |(clear tok2;go_at_call 17;refine(HFW.out _ (HJ.out.2.2.2.2.1) (HJ.out.2.2.2.2.2.1)).mono ?_;clear c16;rintro e yy ⟨rfl,hb⟩;replace HJ:=O (ST.out.on _ _ HJ.out hb);have c16:=(e_ _ _ 16 _ _ _ (HJ.out.2.1)).trans (cK d0);clear hb)
      |(clear tok3;go_at_call 18;refine(HSW.out _ (HJ.out.2.2.2.2.2.2)).mono ?_;clear c16;rintro e yy ⟨rfl,hb⟩;replace HJ:=O (ST.out.on _ _ HJ.out hb);have c16:=(e_ _ _ 16 _ _ _ (HJ.out.2.1)).trans (cK d0);clear hb)
      |(refine dw n1 (.slice ta a1.length tc) ?r1 (.tmp 6) ?r2 (w.heap.size+1) ?r3 _ (HJ.out.2.2.1) ?_;(case r2=>exact rfl);(case r1=>exact rfl);(case r3=>exact rfl))
      |(refine cH b2 (.slice ba a2.length bd) ?r1 (.tmp 7) ?r2 (w.heap.size+2) ?r3 _ (HJ.out.2.2.2.1) ?_;(case r2=>exact rfl);(case r1=>exact rfl);(case r3=>exact rfl)))
     go_ret;exact⟨rfl,(HJ.out.1)⟩
   | true =>
     rw[hf] at HSW;clear hf
     rcases Nat.lt_or_ge 100 d0.key.length with hl|hl
     ·have i1:(100:Int)<(d0.key.length:Int):=by omega
      clear hl
      go_enter func4,ntmps4
      go_upto_region 1 with fail
      rw[←HW.out]
      try dsimp only[Act.put]
      go_wp2_with (first
       |(clear tok1;go_at_call 9;refine(HS.out _ (HK.out _ (HJ.out.1))).mono ?_;rintro e yy ⟨rfl,hb⟩;replace HJ:=O (ST.out.on _ _ HJ.out hb);have c16:=(e_ _ _ 16 _ _ _ (HJ.out.2.1)).trans (cK d0);clear hb)
       |(clear tok2;go_at_call 17;refine(HFW.out _ (HJ.out.2.2.2.2.1) (HJ.out.2.2.2.2.2.1)).mono ?_;clear c16;rintro e yy ⟨rfl,hb⟩;replace HJ:=O (ST.out.on _ _ HJ.out hb);have c16:=(e_ _ _ 16 _ _ _ (HJ.out.2.1)).trans (cK d0);clear hb)
       |(clear tok3;go_at_call 18;refine(HSW.out _ (HJ.out.2.2.2.2.2.2)).mono ?_;clear c16;rintro e yy ⟨rfl,hb⟩;replace HJ:=O (ST.out.on _ _ HJ.out hb);have c16:=(e_ _ _ 16 _ _ _ (HJ.out.2.1)).trans (cK d0);clear hb)
       |(refine dw n1 (.slice ta a1.length tc) ?r1 (.tmp 6) ?r2 (w.heap.size+1) ?r3 _ (HJ.out.2.2.1) ?_;(case r2=>exact rfl);(case r1=>exact rfl);(case r3=>exact rfl))
       |(refine cH b2 (.slice ba a2.length bd) ?r1 (.tmp 7) ?r2 (w.heap.size+2) ?r3 _ (HJ.out.2.2.2.1) ?_;(case r2=>exact rfl);(case r1=>exact rfl);(case r3=>exact rfl)))
      go_ret;exact⟨rfl,(HJ.out.1)⟩
     have i1:¬(100:Int)<(d0.key.length:Int):=by omega
     clear hl
     rcases Nat.lt_or_ge 4000 bl.length with hl|hl
     ·have i2:(4000:Int)<(bl.length:Int):=by omega
      clear hl
      go_enter func4,ntmps4
      go_upto_region 1 with fail
      rw[←HW.out]
      try dsimp only[Act.put]
      go_wp2_with (first
       |(clear tok1;go_at_call 9;refine(HS.out _ (HK.out _ (HJ.out.1))).mono ?_;rintro e yy ⟨rfl,hb⟩;replace HJ:=O (ST.out.on _ _ HJ.out hb);have c16:=(e_ _ _ 16 _ _ _ (HJ.out.2.1)).trans (cK d0);clear hb)
       |(clear tok2;go_at_call 17;refine(HFW.out _ (HJ.out.2.2.2.2.1) (HJ.out.2.2.2.2.2.1)).mono ?_;clear c16;rintro e yy ⟨rfl,hb⟩;replace HJ:=O (ST.out.on _ _ HJ.out hb);have c16:=(e_ _ _ 16 _ _ _ (HJ.out.2.1)).trans (cK d0);clear hb)
       |(clear tok3;go_at_call 18;refine(HSW.out _ (HJ.out.2.2.2.2.2.2)).mono ?_;clear c16;rintro e yy ⟨rfl,hb⟩;replace HJ:=O (ST.out.on _ _ HJ.out hb);have c16:=(e_ _ _ 16 _ _ _ (HJ.out.2.1)).trans (cK d0);clear hb)
       |(refine dw n1 (.slice ta a1.length tc) ?r1 (.tmp 6) ?r2 (w.heap.size+1) ?r3 _ (HJ.out.2.2.1) ?_;(case r2=>exact rfl);(case r1=>exact rfl);(case r3=>exact rfl))
       |(refine cH b2 (.slice ba a2.length bd) ?r1 (.tmp 7) ?r2 (w.heap.size+2) ?r3 _ (HJ.out.2.2.2.1) ?_;(case r2=>exact rfl);(case r1=>exact rfl);(case r3=>exact rfl)))
      go_ret;exact⟨rfl,(HJ.out.1)⟩
     have i2:¬(4000:Int)<(bl.length:Int):=by omega
     have HBK:=O (fun (y:World) (a:KAt y) (h:RdK y (.slice ta a1.length tc) a1)=>Nv d0 b2 n1 (.slice ta a1.length tc) ba a2.length bd a1 y a h x0 x2 f1);have HBR:=O (fun (y:World) (a:cA y) (h:RdK y (.slice ta a1.length tc) a1)=>Ec d0 b2 n1 (.slice ta a1.length tc) ba a2.length bd a1 y a h x0 x2 f1 (M_ hln (by decide)));have HUL:=O (fun (y:World) (a:KAt y) (h:RdE eH y (.slice sa a4.length sc) a4)=>j6 bl a4 (.slice sa a4.length sc) y a h (M_ hl (by decide)));have HUR:=O (fun (y:World) (a:cA y) (h:RdE eH y (.slice sa a4.length sc) a4)=>Cm bl a4 (.slice sa a4.length sc) y a h (M_ hl (by decide)));generalize dbD d0 b2 a1=D2 at HBK HBR;generalize dbX d0 b2 a1=X2 at HBK HBR;generalize dbE d0 b2 a1=E2 at HBK HBR;generalize ulB bl a4=B3 at HUL HUR;generalize ulE bl a4=E3 at HUL HUR;generalize ulK bl a4=L3 at HUL HUR;have heq:=fun y=>uQ D2 y;have hsm:=DC B3 L3;clear hl hln
     go_enter func4,ntmps4
     go_upto_region 1 with fail
     rw[←HW.out]
     try dsimp only[Act.put]
     go_upto_region 4 with (first
      |(clear tok1;go_at_call 9;refine(HS.out _ (HK.out _ (HJ.out.1))).mono ?_;rintro e yy ⟨rfl,hb⟩;replace HJ:=O (ST.out.on _ _ HJ.out hb);have c16:=(e_ _ _ 16 _ _ _ (HJ.out.2.1)).trans (cK d0);clear hb)
      |(clear tok2;go_at_call 17;refine(HFW.out _ (HJ.out.2.2.2.2.1) (HJ.out.2.2.2.2.2.1)).mono ?_;clear c16;rintro e yy ⟨rfl,hb⟩;replace HJ:=O (ST.out.on _ _ HJ.out hb);have c16:=(e_ _ _ 16 _ _ _ (HJ.out.2.1)).trans (cK d0);clear hb)
      |(clear tok3;go_at_call 18;refine(HSW.out _ (HJ.out.2.2.2.2.2.2)).mono ?_;clear c16;rintro e yy ⟨rfl,hb⟩;replace HJ:=O (ST.out.on _ _ HJ.out hb);have c16:=(e_ _ _ 16 _ _ _ (HJ.out.2.1)).trans (cK d0);clear hb)
      |(refine dw n1 (.slice ta a1.length tc) ?r1 (.tmp 6) ?r2 (w.heap.size+1) ?r3 _ (HJ.out.2.2.1) ?_;(case r2=>exact rfl);(case r1=>exact rfl);(case r3=>exact rfl))
      |(refine cH b2 (.slice ba a2.length bd) ?r1 (.tmp 7) ?r2 (w.heap.size+2) ?r3 _ (HJ.out.2.2.2.1) ?_;(case r2=>exact rfl);(case r1=>exact rfl);(case r3=>exact rfl)))
     clear c16
     go_upto_region 5 with (first
      |(refine cz d0 ?r1 (.tmp 5) ?r2 w.heap.size ?r3 _ (HJ.out.2.1) ?_;(case r2=>exact rfl);(case r1=>exact rfl);(case r3=>exact rfl))
      |(refine dw n1 (.slice ta a1.length tc) ?r1 (.tmp 6) ?r2 (w.heap.size+1) ?r3 _ (HJ.out.2.2.1) ?_;(case r2=>exact rfl);(case r1=>exact rfl);(case r3=>exact rfl))
      |(refine cH b2 (.slice ba a2.length bd) ?r1 (.tmp 7) ?r2 (w.heap.size+2) ?r3 _ (HJ.out.2.2.2.1) ?_;(case r2=>exact rfl);(case r1=>exact rfl);(case r3=>exact rfl))
      |(go_at_call 19;refine(HBK.out _ (HK.out _ (HJ.out.1)) (HJ.out.2.2.2.2.1)).mono ?_;rintro e yy ⟨rfl,hb⟩;replace HJ:=O (ST.out.on _ _ HJ.out hb);clear hb)
      |(refine aH (doA D2) 25 ?r1 (.tmp 12) (.tmp 48) ?r2 yy.heap.size ?r3 ?r4 ?r5 (b8 _) (dE _ _) (cr _) ?_;(case r2=>exact rfl);(case r1=>exact rfl);(case r3=>exact rfl);(case r4=>exact rfl);(case r5=>exact rfl)))
     try simp only[Act.put]
     obtain⟨gR12,hg,hj⟩:=ST.out.new HJ.out (doA D2) 25;rw[←hg];generalize yy.alloc (.cells (doA D2) 25)=Y1 at hj ⊢;replace HJ:=O hj;replace ST:=O (ST.out.and (bS.row gR12 (doA D2) 25));clear hj hg
     go_upto_region 6 with (first
      |(refine cz d0 ?r1 (.tmp 5) ?r2 w.heap.size ?r3 _ (HJ.out.1.2.1) ?_;(case r2=>exact rfl);(case r1=>exact rfl);(case r3=>exact rfl))
      |(refine dw n1 (.slice ta a1.length tc) ?r1 (.tmp 6) ?r2 (w.heap.size+1) ?r3 _ (HJ.out.1.2.2.1) ?_;(case r2=>exact rfl);(case r1=>exact rfl);(case r3=>exact rfl))
      |(refine cH b2 (.slice ba a2.length bd) ?r1 (.tmp 7) ?r2 (w.heap.size+2) ?r3 _ (HJ.out.1.2.2.2.1) ?_;(case r2=>exact rfl);(case r1=>exact rfl);(case r3=>exact rfl))
      |(go_at_call 20;refine(HBR.out _ (HK0.out _ (HJ.out.1.1)) (HJ.out.1.2.2.2.2.1)).mono ?_;rintro e yy ⟨rfl,hb⟩;replace HJ:=O (ST.out.on _ _ HJ.out hb);clear hb)
      |(refine aH (bkA D2 X2 E2) 53 ?r1 (.tmp 15) (.tmp 54) ?r2 yy.heap.size ?r3 ?r4 ?r5 (lP _ _ _) (sw _ _ _) (nF _ _ _) ?_;(case r2=>exact rfl);(case r1=>exact rfl);(case r3=>exact rfl);(case r4=>exact rfl);(case r5=>exact rfl)))
     try simp only[Act.put]
     obtain⟨gR15,hg,hj⟩:=ST.out.new HJ.out (bkA D2 X2 E2) 53;rw[←hg];generalize yy.alloc (.cells (bkA D2 X2 E2) 53)=Y2 at hj ⊢;replace HJ:=O hj;replace ST:=O (ST.out.and (bS.row gR15 (bkA D2 X2 E2) 53));clear hj hg
     go_upto_region 7 with (first
      |(go_at_call 21;refine(HUL.out _ (HK.out _ (HJ.out.1.1.1)) (HJ.out.1.1.2.2.2.2.2.2)).mono ?_;rintro e yy ⟨pa,pn,pc,rfl,hrd,hb⟩;replace HJ:=O (ST.out.on _ _ HJ.out hb);have HRp:=O hrd;clear hrd;clear hb)
      |(refine aH (bc B3 (.slice pa pn pc)) 47 ?r1 (.tmp 16) (.tmp 59) ?r2 yy.heap.size ?r3 ?r4 ?r5 (dX _ _) (iA _ _ _ _) (dl _ _ _ _) ?_;(case r2=>exact rfl);(case r1=>exact rfl);(case r3=>exact rfl);(case r4=>exact rfl);(case r5=>exact rfl)))
     replace HJ:=O (And.intro HJ.out HRp.out);replace ST:=O (ST.out.and (bS.rdK (.slice pa pn pc) L3));clear HRp
     try simp only[Act.put]
     obtain⟨gR16,hg,hj⟩:=ST.out.new HJ.out (bc B3 (.slice pa pn pc)) 47;rw[←hg];generalize yy.alloc (.cells (bc B3 (.slice pa pn pc)) 47)=Y3 at hj ⊢;replace HJ:=O hj;replace ST:=O (ST.out.and (bS.row gR16 (bc B3 (.slice pa pn pc)) 47));clear hj hg
     go_upto_region 8 with (first
      |(go_at_call 22;refine(HUR.out _ (HK0.out _ (HJ.out.1.1.1.1.1)) (HJ.out.1.1.1.1.2.2.2.2.2.2)).mono ?_;rintro e yy ⟨qa,qn,qc,rfl,hrd,hb⟩;replace HJ:=O (ST.out.on _ _ HJ.out hb);have HRq:=O hrd;clear hrd;clear hb)
      |(refine aH (bc B3 (.slice qa qn qc)) 47 ?r1 (.tmp 18) (.tmp 65) ?r2 yy.heap.size ?r3 ?r4 ?r5 (dX _ _) (iA _ _ _ _) (dl _ _ _ _) ?_;(case r2=>exact rfl);(case r1=>exact rfl);(case r3=>exact rfl);(case r4=>exact rfl);(case r5=>exact rfl)))
     replace HJ:=O (And.intro HJ.out HRq.out);replace ST:=O (ST.out.and (bS.rdK (.slice qa qn qc) L3));clear HRq
     try simp only[Act.put]
     obtain⟨gR18,hg,hj⟩:=ST.out.new HJ.out (bc B3 (.slice qa qn qc)) 47;rw[←hg];generalize yy.alloc (.cells (bc B3 (.slice qa qn qc)) 47)=Y4 at hj ⊢;replace HJ:=O hj;replace ST:=O (ST.out.and (bS.row gR18 (bc B3 (.slice qa qn qc)) 47));clear hj hg
     go_upto_region 9 with (first
      |(refine cH B3 (.slice pa pn pc) ?r1 (.tmp 16) ?r2 gR16 ?r3 _ (HJ.out.1.1.2) ?_;(case r2=>exact rfl);(case r1=>exact rfl);(case r3=>exact rfl))
      |(refine cH B3 (.slice qa qn qc) ?r1 (.tmp 18) ?r2 gR18 ?r3 _ (HJ.out.2) ?_;(case r2=>exact rfl);(case r1=>exact rfl);(case r3=>exact rfl))
      |(go_at_call 23;refine(TD B3 B3 (.slice pa pn pc) (.slice qa qn qc) L3 L3 _ (HJ.out.1.1.1.2) (HJ.out.1.2)).mono ?_;rintro e yy ⟨rfl,hb⟩;replace HJ:=O (ST.out.on _ _ HJ.out hb);clear hb))
     try rw[hsm]
     have c19:=(e_ _ _ 19 _ _ _ (HJ.out.1.1.1.1.2)).trans (Qy _ _ _);have c20:=(e_ _ _ 20 _ _ _ (HJ.out.1.1.1.1.2)).trans (Qz _ _ _)
     go_wp2_with (first
      |(refine cz D2 ?r1 (.tmp 12) ?r2 gR12 ?r3 _ (HJ.out.1.1.1.1.1.2) ?_;(case r2=>exact rfl);(case r1=>exact rfl);(case r3=>exact rfl))
      |(refine Km D2 gR15 0 (.tmp 73) ?r1 (BQ (HJ.out.1.1.1.1.2)) ?r2 ?r3 ?_;(case r1=>exact rfl);(case r2=>exact rfl);(case r3=>exact rfl))
      |(refine mh .eql 25 25 (.tmp 72) (.tmp 74) (.agg (doA D2)) (.agg (doA D2)) (.bool true) ?r1 ?r2 ?r3 ?r4 (fun y=>Jy _ _ _ _ y) heq ?_;(case r1=>exact rfl);(case r2=>exact rfl);(case r3=>exact rfl);(case r4=>exact rfl)))
     go_ret;exact⟨rfl,(HJ.out.1.1.1.1.1.1.1)⟩
theorem iH (os:Os) (started:os.Started) (H:Type) (enc:TypeId × Value→H) :
  ReturnsInHanded {} Tryz.checked os 4 .any (fun w args=>(Rows.domainBackupMatchesSpecSpec.pre enc prog f4 [] false w args∧laidMetH prog lU w)∧sizedMet enc prog f4 (OpenSpec.ofChange Rows.domainBackupMatchesSpecSpec) false w args) (Rows.domainBackupMatchesSpecSpec.post enc prog f4 false true false false):=by
 refine returnsInHanded_of_change_and (C:=Tryz.checked) (X:=fun w _=>laidMetH prog lU w) (fun _ _ _ hh h=>h.of_heap hh) Tryz.own started (by kernel_rfl) func4
  (ChangeSpec.witness_shaped (enc:=enc) (C:=Tryz.checked) (os:=os) (X:=fun w _=>laidMetH prog lU w) false (World.doorLaid prog 222 os) #[.agg #[.int .u8 0,.int .u8 0,.int .u8 0,.int .u8 0,.int .u8 0,.int .u8 0,.int .u8 0,.int .u8 0,.int .u8 0,.int .u8 0,.int .u8 0,.int .u8 0,.int .u8 0,.int .u8 0,.int .u8 0,.int .u8 0,.string ByteArray.empty,.int .i64 0,.int .i64 0],.agg #[.int .i64 0,.slice none 0 0],.agg #[.int .u8 0,.int .u8 0,.int .u8 0,.int .u8 0,.int .u8 0,.int .u8 0,.int .u8 0,.int .u8 0,.int .u8 0,.int .u8 0,.int .u8 0,.int .u8 0,.int .u8 0,.int .u8 0,.int .u8 0,.int .u8 0,.int .i64 0,.int .i64 0,.int .i64 0,.int .i64 0,.int .u8 0,.int .u8 0,.int .u8 0,.int .u8 0,.int .u8 0,.int .u8 0,.int .u8 0,.int .u8 0,.int .u8 0,.int .u8 0,.int .u8 0,.int .u8 0,.int .u8 0,.int .u8 0,.int .u8 0,.int .u8 0,.string ByteArray.empty,.slice none 0 0],.string ByteArray.empty,.slice none 0 0] 8 rfl (World.shaped_of_RefB (by kernel_rfl) (by kernel_rfl)) (by kernel_rfl) (by kernel_rfl) (by kernel_rfl) (xe os _)) ?_
 intro W ai args ds gs before hval0 hW _ hwt hL _;have hval:∀(j:Nat) t v,f4.params[j]?=some t→args[j]?=some v→Value.okWide prog W .any ai t v:=hval0;have hW':=hW;obtain⟨p,q,hA0,hV,rfl,hfz,hnd⟩:=hW;have hA:DataW.TrodAll enc prog W 0 (fun _=>true) true f4.params.toList args.toList ds p:=hA0;rw[params4] at hA hval;obtain⟨v0,vs0,d0,ds0,p0,q0,hargs,rfl,rfl,h0,r0⟩:=trodAll_cons hA;obtain⟨v1,vs1,d1,ds1,p1,q1,rfl,rfl,rfl,h1,r1⟩:=trodAll_cons r0;obtain⟨v2,vs2,d2,ds2,p2,q2,rfl,rfl,rfl,h2,r2⟩:=trodAll_cons r1;obtain⟨v3,vs3,d3,ds3,p3,q3,rfl,rfl,rfl,h3,r3⟩:=trodAll_cons r2;obtain⟨v4,vs4,d4,ds4,p4,q4,rfl,rfl,rfl,h4,r4⟩:=trodAll_cons r3;obtain⟨rfl,rfl,rfl⟩:=trodAll_nil r4
 obtain rfl:args = #[v0,v1,v2,v3,v4]:=by cases args;simp_all
 obtain⟨rfl,rfl⟩:=trodVars_none hV;have k0:=h0
 have lt0:∀x∈p0,x.block<W.heap.size:=by obtain⟨m,hm⟩:=k0;exact DataW.trod_lt m _ _ _ hm
 have k1:=h1
 have lt1:∀x∈p1,x.block<W.heap.size:=by obtain⟨m,hm⟩:=k1;exact DataW.trod_lt m _ _ _ hm
 have k2:=h2
 have lt2:∀x∈p2,x.block<W.heap.size:=by obtain⟨m,hm⟩:=k2;exact DataW.trod_lt m _ _ _ hm
 have k4:=h4
 have lt4:∀x∈p4,x.block<W.heap.size:=by obtain⟨m,hm⟩:=k4;exact DataW.trod_lt m _ _ _ hm
 obtain⟨d0,rfl,x0⟩:=Fc (hval 0 25 v0 rfl rfl) h0;obtain⟨n1,u1,a1,rfl,x1,w1,f1⟩:=zT (hval 1 45 v1 rfl rfl) h1;obtain⟨b2,u2,a2,rfl,x2,w2,f2⟩:=Mi (hval 2 47 v2 rfl rfl) h2;obtain⟨a3,rfl,rfl,rfl,w3⟩:=open_string underlying9 (hval 3 9 v3 rfl rfl) h3;obtain⟨a4,w4,x4⟩:=KR (hval 4 28 v4 rfl rfl) h4;have htab:=Cj hL;clear hA0 hval0;refine(je d0 n1 u1 a1 b2 u2 a2 a3 v4 a4 W x0 x1 w1 f1 x2 w2 f2 w3 w4 x4 htab).mono fun e W' ⟨he,bel⟩ => ?_;subst he;exact⟨_,rfl,_,_,_,[],_,[],hW',trodAll_mk1 (shut_bool underlying4 _),(trodAll_cons_mk (Below.trod Tryz.laidOut (by kernel_rfl) (of_decide_eq_true (by kernel_rfl)) k0 bel lt0) (trodAll_cons_mk (Below.trod Tryz.laidOut (by kernel_rfl) (of_decide_eq_true (by kernel_rfl)) k1 bel lt1) (trodAll_cons_mk (Below.trod Tryz.laidOut (by kernel_rfl) (of_decide_eq_true (by kernel_rfl)) k2 bel lt2) (trodAll_cons_mk (shut_string underlying9 w3) (trodAll_cons_mk (Below.trod Tryz.laidOut (by kernel_rfl) (of_decide_eq_true (by kernel_rfl)) k4 bel lt4) trodAll_mk0))))),rfl,bel.frame _,fun h=>by cases h⟩
theorem jp:Rows.DomainBackupMatchesSpecSaid :=
 OpenClaim.holds_of_wide 4 f4 rfl rfl rfl rfl rfl rfl rfl ⟨rfl,rfl,rfl,rfl,rfl⟩ rfl rfl rfl rfl rfl (by kernel_rfl) func4 (by kernel_rfl)
  (of_decide_eq_true (by kernel_rfl)) (by unfold Func.isWrapper;first |(rw[G_ (by decide +kernel)];kernel_rfl)|(rw[H_ (by decide +kernel)];exact⟨rfl,rfl⟩))
  (fun os started H enc _=>iH os started H enc)
theorem DomainBackupMatchesSpec_proved:Rows.DomainBackupMatchesSpecCardSaid :=
 Claim7.holds_tied_plain_at .later [] [.data,.data] true Rows.domainBackupMatchesSpecCard.stood.harness false
  jp (fun _ h=>by cases h) (by kernel_rfl) (fun _ h=>by cases h) domainBackupMatchesSpec_row_tie rfl ⟨rfl,rfl⟩ (by kernel_rfl) rfl
  (fun f fn hf hfn=>by
   obtain rfl:f=4:=Option.some.inj ((show prog.funcNamed "custody/custodylaw38.DomainBackupMatchesSpec" = some 4 by kernel_rfl).symm.trans hf) |>.symm
   obtain rfl:fn=f4:=(Option.some.inj (func4.symm.trans hfn)).symm
   exact⟨by kernel_rfl,fun j t ht=>by
    rw[params4] at ht
    rcases j with _|_|_|_|_|j
    ·simp at ht;subst ht;kernel_rfl
    ·simp at ht;subst ht;kernel_rfl
    ·simp at ht;subst ht;kernel_rfl
    ·simp at ht;subst ht;kernel_rfl
    ·simp at ht;subst ht;kernel_rfl
    ·simp at ht⟩)
  (by kernel_rfl)
end
end Go.Proofs.YtmfiaadjdbemnaaGreatDoor
