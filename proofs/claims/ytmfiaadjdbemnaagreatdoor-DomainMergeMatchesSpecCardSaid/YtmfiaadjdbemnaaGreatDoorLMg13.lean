/- The law DomainMergeMatchesSpec holds for every input: it returns true and leaves its arguments as they were. No condition. -/
import Derived.Test.YtmfiaadjdbemnaaGreatDoorLMg12
import Derived.SevenTiedAt
import Derived.Test.YtmfiaadjdbemnaaGreatDoorCards
import Derived.Test.YtmfiaadjdbemnaaGreatDoorTie
set_option maxRecDepth 100000
set_option maxHeartbeats 8000000
set_option linter.unusedSimpArgs false
set_option linter.unusedVariables false
namespace Go.Proofs.YtmfiaadjdbemnaaGreatDoor
open Go.Proofs.Tryz
section
open Go.ChangeShapes Go.WideShapes Go.ChangeAt Go.RowKit
open Go.ChangeMaps (open_string shut_string)
attribute [local irreducible] Calls doA tbA mgC am jw miC
theorem domainMergeMatchesSpec_walk (D0 : DO) (N0 : Int) (U0 : Value) (A0 : List K) (P0 : List UInt8) (M0 : Int) (B0 : List UInt8) (V0 : Value) (L0 : List SH) (w : World) (x0 : D0.mach) (w0 : RdK w U0 A0) (f0 : cQ A0) (y0 : P0.length = 16) (z0 : okI M0) (b0 : B0.length ≤ maxLen) (s0 : RdE eH w V0 L0) (m0 : ∀ s ∈ L0, s.mach) (htab : cA w ∧ KAt w) :
  Calls prog 6 #[.agg (miC D0 N0 U0 P0 M0 B0 V0).toArray] w fun e w'=>e = .returned (.bool true)∧Below w.heap.size w w':=by
 have TK0:=O w0;have SH0:=O s0;obtain⟨ta,tc,rfl,_,_,_⟩:=id w0;obtain⟨sa,sc,rfl,_,_,_⟩:=id s0;have HC0:=Wa D0 N0 (.slice ta A0.length tc) P0 M0 B0 (.slice sa L0.length sc);obtain⟨C,hC⟩:=YV D0 N0 (.slice ta A0.length tc) P0 M0 B0 (.slice sa L0.length sc);rw[←hC] at HC0 ⊢;have HC:=O HC0;clear hC HC0;obtain⟨W0,hW0⟩:∃W0,W0=w.alloc (.cells C 73):=⟨_,rfl⟩;have HW:=O hW0
 have hb0:Below w.heap.size w W0:=by rw[hW0];exact cJ _ _ (O_ _ _)
 have ST:Hid (bS fun y=>(Below w.heap.size w y)∧(y.heap[w.heap.size]?=some (.cells C 73 (0,0)))∧(RdK y (.slice ta A0.length tc) A0)∧(RdE eH y (.slice sa L0.length sc) L0)):=O ((bS.b w).and ((bS.row _ _ _).and ((bS.rdK _ _).and (bS.rdE _ _ _))));have HJ:Hid ((Below w.heap.size w W0)∧(W0.heap[w.heap.size]?=some (.cells C 73 (0,0)))∧(RdK W0 (.slice ta A0.length tc) A0)∧(RdE eH W0 (.slice sa L0.length sc) L0)):=O ⟨hb0,by rw[hW0];exact heap_alloc_new _ _,TK0.out.on hb0,SH0.out.on hb0⟩;have HK:Hid (∀y,Below w.heap.size w y→KAt y):=O (fun y h=>htab.2.on h);have HK0:Hid (∀y,Below w.heap.size w y→cA y):=O (fun y h=>htab.1.on h);have HS:=O (fun (y:World) (a:KAt y)=>mf y a);have HFW:=O (fun (y:World) (h:RdK y (.slice ta A0.length tc) A0)=>D5 N0 (.slice ta A0.length tc) A0 y h);have HSW:=O (fun (y:World) (h:RdE eH y (.slice sa L0.length sc) L0)=>Hs L0 (.slice sa L0.length sc) y h);have hzero_tb:=rq;have hzero_mg:=Qq;have hzero_bk:=fh;clear hW0 htab TK0 SH0 w0 s0 m0 hb0 x0 f0 y0 z0 b0;have tok1:True:=trivial;have tok2:True:=trivial;have tok3:True:=trivial
 cases hf:oC N0 A0 zB [] with
 | false =>
   rw[hf] at HFW;clear hf
   as_aux_lemma =>
    go_enter func6,ntmps6
    go_upto_region 1 with fail
    rw[←HW.out]
    try dsimp only[Act.put]
    go_wp2_with (first
     |(clear tok1;go_at_call 9;refine(HS.out _ (HK.out _ (HJ.out.1))).mono ?_;rintro e yy ⟨rfl,hb⟩;replace HJ:=O (ST.out.on _ _ HJ.out hb);have c16:=(e_ _ _ 16 _ _ _ (HJ.out.2.1)).trans HC.out.2.2.2.1;have c37:=(e_ _ _ 37 _ _ _ (HJ.out.2.1)).trans HC.out.2.2.2.2.1;have c38:=(e_ _ _ 38 _ _ _ (HJ.out.2.1)).trans HC.out.2.2.2.2.2.1;have c39:=(e_ _ _ 39 _ _ _ (HJ.out.2.1)).trans HC.out.2.2.2.2.2.2;clear hb)
     |(clear tok2;go_at_call 17;refine(HFW.out _ (HJ.out.2.2.1)).mono ?_;clear c16 c37 c38 c39;rintro e yy ⟨rfl,hb⟩;replace HJ:=O (ST.out.on _ _ HJ.out hb);have c16:=(e_ _ _ 16 _ _ _ (HJ.out.2.1)).trans HC.out.2.2.2.1;have c37:=(e_ _ _ 37 _ _ _ (HJ.out.2.1)).trans HC.out.2.2.2.2.1;have c38:=(e_ _ _ 38 _ _ _ (HJ.out.2.1)).trans HC.out.2.2.2.2.2.1;have c39:=(e_ _ _ 39 _ _ _ (HJ.out.2.1)).trans HC.out.2.2.2.2.2.2;clear hb)
     |(clear tok3;go_at_call 18;refine(HSW.out _ (HJ.out.2.2.2)).mono ?_;clear c16 c37 c38 c39;rintro e yy ⟨rfl,hb⟩;replace HJ:=O (ST.out.on _ _ HJ.out hb);have c16:=(e_ _ _ 16 _ _ _ (HJ.out.2.1)).trans HC.out.2.2.2.1;have c37:=(e_ _ _ 37 _ _ _ (HJ.out.2.1)).trans HC.out.2.2.2.2.1;have c38:=(e_ _ _ 38 _ _ _ (HJ.out.2.1)).trans HC.out.2.2.2.2.2.1;have c39:=(e_ _ _ 39 _ _ _ (HJ.out.2.1)).trans HC.out.2.2.2.2.2.2;clear hb)
     |(refine YT N0 (.slice ta A0.length tc) w.heap.size 19 (.tmp 11) ?r1 (vB (HJ.out.2.1) HC.out.2.1) ?r2 ?r3 ?_;(case r1=>exact rfl);(case r2=>exact rfl);(case r3=>exact rfl))
     |(refine lD ?r1 ?r2 ?_;(case r2=>exact rfl);(case r1=>exact rfl)))
    go_ret;exact⟨rfl,(HJ.out.1)⟩
 | true =>
   rw[hf] at HFW;have hln:=AX hf;clear hf
   cases hf:nw L0 with
   | false =>
     rw[hf] at HSW;clear hf
     as_aux_lemma =>
      go_enter func6,ntmps6
      go_upto_region 1 with fail
      rw[←HW.out]
      try dsimp only[Act.put]
      go_wp2_with (first
       |(clear tok1;go_at_call 9;refine(HS.out _ (HK.out _ (HJ.out.1))).mono ?_;rintro e yy ⟨rfl,hb⟩;replace HJ:=O (ST.out.on _ _ HJ.out hb);have c16:=(e_ _ _ 16 _ _ _ (HJ.out.2.1)).trans HC.out.2.2.2.1;have c37:=(e_ _ _ 37 _ _ _ (HJ.out.2.1)).trans HC.out.2.2.2.2.1;have c38:=(e_ _ _ 38 _ _ _ (HJ.out.2.1)).trans HC.out.2.2.2.2.2.1;have c39:=(e_ _ _ 39 _ _ _ (HJ.out.2.1)).trans HC.out.2.2.2.2.2.2;clear hb)
       |(clear tok2;go_at_call 17;refine(HFW.out _ (HJ.out.2.2.1)).mono ?_;clear c16 c37 c38 c39;rintro e yy ⟨rfl,hb⟩;replace HJ:=O (ST.out.on _ _ HJ.out hb);have c16:=(e_ _ _ 16 _ _ _ (HJ.out.2.1)).trans HC.out.2.2.2.1;have c37:=(e_ _ _ 37 _ _ _ (HJ.out.2.1)).trans HC.out.2.2.2.2.1;have c38:=(e_ _ _ 38 _ _ _ (HJ.out.2.1)).trans HC.out.2.2.2.2.2.1;have c39:=(e_ _ _ 39 _ _ _ (HJ.out.2.1)).trans HC.out.2.2.2.2.2.2;clear hb)
       |(clear tok3;go_at_call 18;refine(HSW.out _ (HJ.out.2.2.2)).mono ?_;clear c16 c37 c38 c39;rintro e yy ⟨rfl,hb⟩;replace HJ:=O (ST.out.on _ _ HJ.out hb);have c16:=(e_ _ _ 16 _ _ _ (HJ.out.2.1)).trans HC.out.2.2.2.1;have c37:=(e_ _ _ 37 _ _ _ (HJ.out.2.1)).trans HC.out.2.2.2.2.1;have c38:=(e_ _ _ 38 _ _ _ (HJ.out.2.1)).trans HC.out.2.2.2.2.2.1;have c39:=(e_ _ _ 39 _ _ _ (HJ.out.2.1)).trans HC.out.2.2.2.2.2.2;clear hb)
       |(refine YT N0 (.slice ta A0.length tc) w.heap.size 19 (.tmp 11) ?r1 (vB (HJ.out.2.1) HC.out.2.1) ?r2 ?r3 ?_;(case r1=>exact rfl);(case r2=>exact rfl);(case r3=>exact rfl))
       |(refine lD ?r1 ?r2 ?_;(case r2=>exact rfl);(case r1=>exact rfl)))
      go_ret;exact⟨rfl,(HJ.out.1)⟩
   | true =>
     rw[hf] at HSW;clear hf
     rcases Nat.lt_or_ge 100 D0.key.length with hl|hl
     ·have i1:(100:Int)<(D0.key.length:Int):=by omega
      clear hl
      as_aux_lemma =>
       go_enter func6,ntmps6
       go_upto_region 1 with fail
       rw[←HW.out]
       try dsimp only[Act.put]
       go_wp2_with (first
        |(clear tok1;go_at_call 9;refine(HS.out _ (HK.out _ (HJ.out.1))).mono ?_;rintro e yy ⟨rfl,hb⟩;replace HJ:=O (ST.out.on _ _ HJ.out hb);have c16:=(e_ _ _ 16 _ _ _ (HJ.out.2.1)).trans HC.out.2.2.2.1;have c37:=(e_ _ _ 37 _ _ _ (HJ.out.2.1)).trans HC.out.2.2.2.2.1;have c38:=(e_ _ _ 38 _ _ _ (HJ.out.2.1)).trans HC.out.2.2.2.2.2.1;have c39:=(e_ _ _ 39 _ _ _ (HJ.out.2.1)).trans HC.out.2.2.2.2.2.2;clear hb)
        |(clear tok2;go_at_call 17;refine(HFW.out _ (HJ.out.2.2.1)).mono ?_;clear c16 c37 c38 c39;rintro e yy ⟨rfl,hb⟩;replace HJ:=O (ST.out.on _ _ HJ.out hb);have c16:=(e_ _ _ 16 _ _ _ (HJ.out.2.1)).trans HC.out.2.2.2.1;have c37:=(e_ _ _ 37 _ _ _ (HJ.out.2.1)).trans HC.out.2.2.2.2.1;have c38:=(e_ _ _ 38 _ _ _ (HJ.out.2.1)).trans HC.out.2.2.2.2.2.1;have c39:=(e_ _ _ 39 _ _ _ (HJ.out.2.1)).trans HC.out.2.2.2.2.2.2;clear hb)
        |(clear tok3;go_at_call 18;refine(HSW.out _ (HJ.out.2.2.2)).mono ?_;clear c16 c37 c38 c39;rintro e yy ⟨rfl,hb⟩;replace HJ:=O (ST.out.on _ _ HJ.out hb);have c16:=(e_ _ _ 16 _ _ _ (HJ.out.2.1)).trans HC.out.2.2.2.1;have c37:=(e_ _ _ 37 _ _ _ (HJ.out.2.1)).trans HC.out.2.2.2.2.1;have c38:=(e_ _ _ 38 _ _ _ (HJ.out.2.1)).trans HC.out.2.2.2.2.2.1;have c39:=(e_ _ _ 39 _ _ _ (HJ.out.2.1)).trans HC.out.2.2.2.2.2.2;clear hb)
        |(refine YT N0 (.slice ta A0.length tc) w.heap.size 19 (.tmp 11) ?r1 (vB (HJ.out.2.1) HC.out.2.1) ?r2 ?r3 ?_;(case r1=>exact rfl);(case r2=>exact rfl);(case r3=>exact rfl))
        |(refine lD ?r1 ?r2 ?_;(case r2=>exact rfl);(case r1=>exact rfl)))
       go_ret;exact⟨rfl,(HJ.out.1)⟩
     have i1:¬(100:Int)<(D0.key.length:Int):=by omega
     clear hl
     rcases Nat.lt_or_ge 4000 B0.length with hl|hl
     ·have i2:(4000:Int)<(B0.length:Int):=by omega
      clear hl
      as_aux_lemma =>
       go_enter func6,ntmps6
       go_upto_region 1 with fail
       rw[←HW.out]
       try dsimp only[Act.put]
       go_wp2_with (first
        |(clear tok1;go_at_call 9;refine(HS.out _ (HK.out _ (HJ.out.1))).mono ?_;rintro e yy ⟨rfl,hb⟩;replace HJ:=O (ST.out.on _ _ HJ.out hb);have c16:=(e_ _ _ 16 _ _ _ (HJ.out.2.1)).trans HC.out.2.2.2.1;have c37:=(e_ _ _ 37 _ _ _ (HJ.out.2.1)).trans HC.out.2.2.2.2.1;have c38:=(e_ _ _ 38 _ _ _ (HJ.out.2.1)).trans HC.out.2.2.2.2.2.1;have c39:=(e_ _ _ 39 _ _ _ (HJ.out.2.1)).trans HC.out.2.2.2.2.2.2;clear hb)
        |(clear tok2;go_at_call 17;refine(HFW.out _ (HJ.out.2.2.1)).mono ?_;clear c16 c37 c38 c39;rintro e yy ⟨rfl,hb⟩;replace HJ:=O (ST.out.on _ _ HJ.out hb);have c16:=(e_ _ _ 16 _ _ _ (HJ.out.2.1)).trans HC.out.2.2.2.1;have c37:=(e_ _ _ 37 _ _ _ (HJ.out.2.1)).trans HC.out.2.2.2.2.1;have c38:=(e_ _ _ 38 _ _ _ (HJ.out.2.1)).trans HC.out.2.2.2.2.2.1;have c39:=(e_ _ _ 39 _ _ _ (HJ.out.2.1)).trans HC.out.2.2.2.2.2.2;clear hb)
        |(clear tok3;go_at_call 18;refine(HSW.out _ (HJ.out.2.2.2)).mono ?_;clear c16 c37 c38 c39;rintro e yy ⟨rfl,hb⟩;replace HJ:=O (ST.out.on _ _ HJ.out hb);have c16:=(e_ _ _ 16 _ _ _ (HJ.out.2.1)).trans HC.out.2.2.2.1;have c37:=(e_ _ _ 37 _ _ _ (HJ.out.2.1)).trans HC.out.2.2.2.2.1;have c38:=(e_ _ _ 38 _ _ _ (HJ.out.2.1)).trans HC.out.2.2.2.2.2.1;have c39:=(e_ _ _ 39 _ _ _ (HJ.out.2.1)).trans HC.out.2.2.2.2.2.2;clear hb)
        |(refine YT N0 (.slice ta A0.length tc) w.heap.size 19 (.tmp 11) ?r1 (vB (HJ.out.2.1) HC.out.2.1) ?r2 ?r3 ?_;(case r1=>exact rfl);(case r2=>exact rfl);(case r3=>exact rfl))
        |(refine lD ?r1 ?r2 ?_;(case r2=>exact rfl);(case r1=>exact rfl)))
       go_ret;exact⟨rfl,(HJ.out.1)⟩
     have i2:¬(4000:Int)<(B0.length:Int):=by omega
     have HM:=O (fun (y:World) (a:KAt y) (h:RdK y (.slice ta A0.length tc) A0) (h2:RdE eH y (.slice sa L0.length sc) L0)=>qG D0 N0 (.slice ta A0.length tc) A0 P0 M0 B0 L0 (.slice sa L0.length sc) y a h h2 (M_ hln (by decide)) (M_ hl (by decide)));have HR:=O (fun (y:World) (a:cA y) (h:RdK y (.slice ta A0.length tc) A0) (h2:RdE eH y (.slice sa L0.length sc) L0)=>Uw D0 N0 (.slice ta A0.length tc) A0 P0 M0 B0 L0 (.slice sa L0.length sc) y a h h2 (M_ hln (by decide)) (M_ hl (by decide)));generalize jw D0 N0 A0 P0 M0 B0 L0=R at HM HR;obtain⟨rn,rl,ri,re⟩:=R;dsimp only at HM HR;clear hl hln
     as_aux_lemma =>
      go_enter func6,ntmps6
      go_upto_region 1 with fail
      rw[←HW.out]
      try dsimp only[Act.put]
      go_upto_region 4 with (first
       |(clear tok1;go_at_call 9;refine(HS.out _ (HK.out _ (HJ.out.1))).mono ?_;rintro e yy ⟨rfl,hb⟩;replace HJ:=O (ST.out.on _ _ HJ.out hb);have c16:=(e_ _ _ 16 _ _ _ (HJ.out.2.1)).trans HC.out.2.2.2.1;have c37:=(e_ _ _ 37 _ _ _ (HJ.out.2.1)).trans HC.out.2.2.2.2.1;have c38:=(e_ _ _ 38 _ _ _ (HJ.out.2.1)).trans HC.out.2.2.2.2.2.1;have c39:=(e_ _ _ 39 _ _ _ (HJ.out.2.1)).trans HC.out.2.2.2.2.2.2;clear hb)
       |(clear tok2;go_at_call 17;refine(HFW.out _ (HJ.out.2.2.1)).mono ?_;clear c16 c37 c38 c39;rintro e yy ⟨rfl,hb⟩;replace HJ:=O (ST.out.on _ _ HJ.out hb);have c16:=(e_ _ _ 16 _ _ _ (HJ.out.2.1)).trans HC.out.2.2.2.1;have c37:=(e_ _ _ 37 _ _ _ (HJ.out.2.1)).trans HC.out.2.2.2.2.1;have c38:=(e_ _ _ 38 _ _ _ (HJ.out.2.1)).trans HC.out.2.2.2.2.2.1;have c39:=(e_ _ _ 39 _ _ _ (HJ.out.2.1)).trans HC.out.2.2.2.2.2.2;clear hb)
       |(clear tok3;go_at_call 18;refine(HSW.out _ (HJ.out.2.2.2)).mono ?_;clear c16 c37 c38 c39;rintro e yy ⟨rfl,hb⟩;replace HJ:=O (ST.out.on _ _ HJ.out hb);have c16:=(e_ _ _ 16 _ _ _ (HJ.out.2.1)).trans HC.out.2.2.2.1;have c37:=(e_ _ _ 37 _ _ _ (HJ.out.2.1)).trans HC.out.2.2.2.2.1;have c38:=(e_ _ _ 38 _ _ _ (HJ.out.2.1)).trans HC.out.2.2.2.2.2.1;have c39:=(e_ _ _ 39 _ _ _ (HJ.out.2.1)).trans HC.out.2.2.2.2.2.2;clear hb)
       |(refine YT N0 (.slice ta A0.length tc) w.heap.size 19 (.tmp 11) ?r1 (vB (HJ.out.2.1) HC.out.2.1) ?r2 ?r3 ?_;(case r1=>exact rfl);(case r2=>exact rfl);(case r3=>exact rfl))
       |(refine lD ?r1 ?r2 ?_;(case r2=>exact rfl);(case r1=>exact rfl)))
      go_upto_region 5 with (first
       |(refine Km D0 w.heap.size 0 (.tmp 37) ?r1 (vB (HJ.out.2.1) HC.out.1) ?r2 ?r3 ?_;(case r1=>exact rfl);(case r2=>exact rfl);(case r3=>exact rfl))
       |(refine YT N0 (.slice ta A0.length tc) w.heap.size 19 (.tmp 39) ?r1 (vB (HJ.out.2.1) HC.out.2.1) ?r2 ?r3 ?_;(case r1=>exact rfl);(case r2=>exact rfl);(case r3=>exact rfl))
       |(refine jt P0 w.heap.size 21 (.tmp 41) ?r1 (vB (HJ.out.2.1) HC.out.2.2.1) ?r2 ?r3 ?_;(case r1=>exact rfl);(case r2=>exact rfl);(case r3=>exact rfl))
       |(go_at_call 28;refine(HM.out _ (HK.out _ (HJ.out.1)) (HJ.out.2.2.1) (HJ.out.2.2.2)).mono ?_;clear c16 c37 c38 c39;rintro e yy ⟨a1,n1,c1,a2,n2,c2,rfl,h1,h2,hb⟩;replace HJ:=O (ST.out.on _ _ HJ.out hb);have c16:=(e_ _ _ 16 _ _ _ (HJ.out.2.1)).trans HC.out.2.2.2.1;have c37:=(e_ _ _ 37 _ _ _ (HJ.out.2.1)).trans HC.out.2.2.2.2.1;have c38:=(e_ _ _ 38 _ _ _ (HJ.out.2.1)).trans HC.out.2.2.2.2.2.1;have c39:=(e_ _ _ 39 _ _ _ (HJ.out.2.1)).trans HC.out.2.2.2.2.2.2;have H1:=O h1;have H2:=O h2;clear h1 h2;clear hb)
       |(refine aH (tbA rn (.slice a1 n1 c1)) 45 ?r1 (.tmp 4) (.tmp 50) ?r2 yy.heap.size ?r3 ?r4 ?r5 (cZ _ _) (fg _ _ _ _) (dP _ _ _ _) ?_;(case r2=>exact rfl);(case r1=>exact rfl);(case r3=>exact rfl);(case r4=>exact rfl);(case r5=>exact rfl)))
      replace HJ:=O (And.intro HJ.out H1.out);replace ST:=O (ST.out.and (bS.rdK (.slice a1 n1 c1) rl));replace HJ:=O (And.intro HJ.out H2.out);replace ST:=O (ST.out.and (bS.rdE eI (.slice a2 n2 c2) ri));clear H1 H2
      try simp only[Act.put]
      obtain⟨gR4,hg,hj⟩:=ST.out.new HJ.out (tbA rn (.slice a1 n1 c1)) 45;rw[←hg];generalize yy.alloc (.cells (tbA rn (.slice a1 n1 c1)) 45)=Y1 at hj ⊢;replace HJ:=O hj;replace ST:=O (ST.out.and (bS.row gR4 (tbA rn (.slice a1 n1 c1)) 45));clear hj hg;clear c16 c37 c38 c39;have c37:=(e_ _ _ 37 _ _ _ (HJ.out.1.1.1.2.1)).trans HC.out.2.2.2.2.1;have c38:=(e_ _ _ 38 _ _ _ (HJ.out.1.1.1.2.1)).trans HC.out.2.2.2.2.2.1;have c39:=(e_ _ _ 39 _ _ _ (HJ.out.1.1.1.2.1)).trans HC.out.2.2.2.2.2.2
      go_upto_region 6 with (first
       |(refine Km D0 w.heap.size 0 (.tmp 53) ?r1 (vB (HJ.out.1.1.1.2.1) HC.out.1) ?r2 ?r3 ?_;(case r1=>exact rfl);(case r2=>exact rfl);(case r3=>exact rfl))
       |(refine YT N0 (.slice ta A0.length tc) w.heap.size 19 (.tmp 55) ?r1 (vB (HJ.out.1.1.1.2.1) HC.out.2.1) ?r2 ?r3 ?_;(case r1=>exact rfl);(case r2=>exact rfl);(case r3=>exact rfl))
       |(refine jt P0 w.heap.size 21 (.tmp 57) ?r1 (vB (HJ.out.1.1.1.2.1) HC.out.2.2.1) ?r2 ?r3 ?_;(case r1=>exact rfl);(case r2=>exact rfl);(case r3=>exact rfl))
       |(go_at_call 29;refine(HR.out _ (HK0.out _ (HJ.out.1.1.1.1)) (HJ.out.1.1.1.2.2.1) (HJ.out.1.1.1.2.2.2)).mono ?_;clear c37 c38 c39;rintro e yy ⟨a3,n3,c3,a4,n4,c4,rfl,h1,h2,hb⟩;replace HJ:=O (ST.out.on _ _ HJ.out hb);have H1:=O h1;have H2:=O h2;clear h1 h2;clear hb)
       |(refine aH (mgC rn (.slice a3 n3 c3) (.slice a4 n4 c4) re) 77 ?r1 (.tmp 7) (.tmp 65) ?r2 yy.heap.size ?r3 ?r4 ?r5 (ig _ _ _ _) (pN _ _ _ _) (jv _ _ _ _ _ _ _ _) ?_;(case r2=>exact rfl);(case r1=>exact rfl);(case r3=>exact rfl);(case r4=>exact rfl);(case r5=>exact rfl)))
      replace HJ:=O (And.intro HJ.out H1.out);replace ST:=O (ST.out.and (bS.rdK (.slice a3 n3 c3) rl));replace HJ:=O (And.intro HJ.out H2.out);replace ST:=O (ST.out.and (bS.rdE eI (.slice a4 n4 c4) ri));clear H1 H2
      try simp only[Act.put]
      obtain⟨gR7,hg,hj⟩:=ST.out.new HJ.out (mgC rn (.slice a3 n3 c3) (.slice a4 n4 c4) re) 77;rw[←hg];generalize yy.alloc (.cells (mgC rn (.slice a3 n3 c3) (.slice a4 n4 c4) re) 77)=Y2 at hj ⊢;replace HJ:=O hj;replace ST:=O (ST.out.and (bS.row gR7 (mgC rn (.slice a3 n3 c3) (.slice a4 n4 c4) re) 77));clear hj hg;have HSA:=O (fun (y:World) (a:RdK y (.slice a1 n1 c1) rl) (b:RdK y (.slice a3 n3 c3) rl)=>Iz rn (.slice a1 n1 c1) (.slice a3 n3 c3) rl y a b);have HSI:=O (fun (y:World) (a:RdE eI y (.slice a2 n2 c2) ri) (b:RdE eI y (.slice a4 n4 c4) ri)=>TB (.slice a2 n2 c2) (.slice a4 n4 c4) ri ri y a b rfl)
      go_upto_region 7 with (first
       |(refine dw rn (.slice a1 n1 c1) ?r1 (.tmp 4) ?r2 gR4 ?r3 _ (HJ.out.1.1.1.2) ?_;(case r2=>exact rfl);(case r1=>exact rfl);(case r3=>exact rfl))
       |(refine Di rn (.slice a3 n3 c3) gR7 (.tmp 67) ?r1 (Dz (HJ.out.2)) ?r2 ?r3 ?_;(case r1=>exact rfl);(case r2=>exact rfl);(case r3=>exact rfl))
       |(go_at_call 26;refine(HSA.out _ (HJ.out.1.1.1.1.1.2) (HJ.out.1.1.2)).mono ?_;rintro e yy ⟨rfl,hb⟩;replace HJ:=O (ST.out.on _ _ HJ.out hb);clear hb))
      have c2:=(e_ _ _ 2 _ _ _ (HJ.out.2)).trans (V8 _ _ _ _)
      go_upto_region 8 with (first
       |(go_at_call 27;refine(HSI.out _ (HJ.out.1.1.1.1.2) (HJ.out.1.2)).mono ?_;clear c2;rintro e yy ⟨rfl,hb⟩;replace HJ:=O (ST.out.on _ _ HJ.out hb);clear hb))
      have c3:=(e_ _ _ 3 _ _ _ (HJ.out.2)).trans (aan _ _ _ _);go_wp2;go_ret;exact⟨rfl,(HJ.out.1.1.1.1.1.1.1)⟩
theorem domainMergeMatchesSpec_lifted (os:Os) (started:os.Started) (H:Type) (enc:TypeId × Value→H) :
  ReturnsInHanded {} Tryz.checked os 6 .any (fun w args=>(Rows.domainMergeMatchesSpecSpec.pre enc prog f6 [] false w args∧laidMetH prog lU w)∧sizedMet enc prog f6 (OpenSpec.ofChange Rows.domainMergeMatchesSpecSpec) false w args) (Rows.domainMergeMatchesSpecSpec.post enc prog f6 false true false false):=by
 refine returnsInHanded_of_change_and (C:=Tryz.checked) (X:=fun w _=>laidMetH prog lU w) (fun _ _ _ hh h=>h.of_heap hh) Tryz.own started (by kernel_rfl) func6
  (ChangeSpec.witness_shaped (enc:=enc) (C:=Tryz.checked) (os:=os) (X:=fun w _=>laidMetH prog lU w) false (World.doorLaid prog 222 os) #[.agg #[.int .u8 0,.int .u8 0,.int .u8 0,.int .u8 0,.int .u8 0,.int .u8 0,.int .u8 0,.int .u8 0,.int .u8 0,.int .u8 0,.int .u8 0,.int .u8 0,.int .u8 0,.int .u8 0,.int .u8 0,.int .u8 0,.string ByteArray.empty,.int .i64 0,.int .i64 0,.int .i64 0,.slice none 0 0,.int .u8 0,.int .u8 0,.int .u8 0,.int .u8 0,.int .u8 0,.int .u8 0,.int .u8 0,.int .u8 0,.int .u8 0,.int .u8 0,.int .u8 0,.int .u8 0,.int .u8 0,.int .u8 0,.int .u8 0,.int .u8 0,.int .i64 0,.string ByteArray.empty,.slice none 0 0]] 8 rfl (World.shaped_of_RefB (by kernel_rfl) (by kernel_rfl)) (by kernel_rfl) (by kernel_rfl) (by kernel_rfl) (xe os _)) ?_
 intro W ai args ds gs before hval0 hW _ hwt hL _;have hval:∀(j:Nat) t v,f6.params[j]?=some t→args[j]?=some v→Value.okWide prog W .any ai t v:=hval0;have hW':=hW;obtain⟨p,q,hA0,hV,rfl,hfz,hnd⟩:=hW;have hA:DataW.TrodAll enc prog W 0 (fun _=>true) true f6.params.toList args.toList ds p:=hA0;rw[params6] at hA hval;obtain⟨v0,vs0,d0,ds0,p0,q0,hargs,rfl,rfl,h0,r0⟩:=trodAll_cons hA;obtain⟨rfl,rfl,rfl⟩:=trodAll_nil r0
 obtain rfl:args = #[v0]:=by cases args;simp_all
 obtain⟨rfl,rfl⟩:=trodVars_none hV;have k0:=h0
 have lt0:∀x∈p0,x.block<W.heap.size:=by obtain⟨m,hm⟩:=k0;exact DataW.trod_lt m _ _ _ hm
 obtain⟨D0,N0,U0,A0,P0,M0,B0,V0,L0,rfl,x0,w0,f0,y0,z0,b0,s0,m0⟩:=XV (hval 0 73 v0 rfl rfl) h0;have htab:=Cj hL;clear hA0 hval0;refine(domainMergeMatchesSpec_walk D0 N0 U0 A0 P0 M0 B0 V0 L0 W x0 w0 f0 y0 z0 b0 s0 m0 htab).mono fun e W' ⟨he,bel⟩ => ?_;subst he;exact⟨_,rfl,_,_,_,[],_,[],hW',trodAll_mk1 (shut_bool underlying4 _),(trodAll_cons_mk (Below.trod Tryz.laidOut (by kernel_rfl) (of_decide_eq_true (by kernel_rfl)) k0 bel lt0) trodAll_mk0),rfl,bel.frame _,fun h=>by cases h⟩
theorem domainMergeMatchesSpec_row:Rows.DomainMergeMatchesSpecSaid :=
 OpenClaim.holds_of_wide 6 f6 rfl rfl rfl rfl rfl rfl rfl ⟨rfl,rfl,rfl,rfl,rfl⟩ rfl rfl rfl rfl rfl (by kernel_rfl) func6 (by kernel_rfl)
  (of_decide_eq_true (by kernel_rfl)) (by unfold Func.isWrapper;first |(rw[G_ (by decide +kernel)];kernel_rfl)|(rw[H_ (by decide +kernel)];exact⟨rfl,rfl⟩))
  (fun os started H enc _=>domainMergeMatchesSpec_lifted os started H enc)
theorem DomainMergeMatchesSpec_proved:Rows.DomainMergeMatchesSpecCardSaid :=
 Claim7.holds_tied_plain_at .later [] [.data,.data] true Rows.domainMergeMatchesSpecCard.stood.harness false
  domainMergeMatchesSpec_row (fun _ h=>by cases h) (by kernel_rfl) (fun _ h=>by cases h) domainMergeMatchesSpec_row_tie rfl ⟨rfl,rfl⟩ (by kernel_rfl) rfl
  (fun f fn hf hfn=>by
   obtain rfl:f=6:=Option.some.inj ((show prog.funcNamed "custody/custodylaw38.DomainMergeMatchesSpec" = some 6 by kernel_rfl).symm.trans hf) |>.symm
   obtain rfl:fn=f6:=(Option.some.inj (func6.symm.trans hfn)).symm
   exact⟨by kernel_rfl,fun j t ht=>by
    rw[params6] at ht
    rcases j with _|j
    ·simp at ht;subst ht;kernel_rfl
    ·simp at ht⟩)
  (by kernel_rfl)
end
end Go.Proofs.YtmfiaadjdbemnaaGreatDoor
