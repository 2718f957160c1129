/- The law DomainSplitMatchesSpec holds for every input: it returns true and leaves its arguments as they were. No condition. -/
import Derived.Test.YtmfiaadjdbemnaaGreatDoorLSq01
import Derived.SevenTiedAt
import Derived.Test.YtmfiaadjdbemnaaGreatDoorCards
import Derived.Test.YtmfiaadjdbemnaaGreatDoorTie
set_option maxRecDepth 100000
set_option maxHeartbeats 60000000
set_option linter.unusedSimpArgs false
set_option linter.unusedVariables false
namespace Go.Proofs.YtmfiaadjdbemnaaGreatDoor
open Go.Proofs.Tryz
section
open Go.ChangeShapes Go.WideShapes Go.ChangeAt Go.RowKit
open Go.ChangeMaps (open_string shut_string)
attribute [local irreducible] Calls doA tbA am dN siC ptA prA ag
theorem domainSplitMatchesSpec_walk (N0:Int) (Q0:Value) (A0:List K) (J0:Value) (I0:List Int) (B0:BK) (U0:Value) (L0:List K) (S0:List UInt8) (M0 C0:Int) (w:World) (w0:RdK w Q0 A0) (f0:cQ A0) (s0:RdE eI w J0 I0) (z0:∀z∈I0,okI z) (x0:B0.mach) (b0:RdK w U0 L0) (m0:cQ L0) (y0:S0.length≤maxLen) (t0:okI M0) (c0:okI C0) (htab:cA w∧KAt w) :
  Calls prog 5 #[.agg (siC N0 Q0 J0 B0 U0 S0 M0 C0).toArray] w fun e w'=>e = .returned (.bool true)∧Below w.heap.size w w':=by
 have TK0:=O w0;have IK0:=O s0;have BK0:=O b0;obtain⟨ta,tc,rfl,_,_,_⟩:=id w0;obtain⟨ia,ic,rfl,_,_,_⟩:=id s0;obtain⟨ba,bd,rfl,_,_,_⟩:=id b0;have HC0:=WQ N0 (.slice ta A0.length tc) (.slice ia I0.length ic) B0 (.slice ba L0.length bd) S0 M0 C0;obtain⟨C,hC⟩:=Zq N0 (.slice ta A0.length tc) (.slice ia I0.length ic) B0 (.slice ba L0.length bd) S0 M0 C0;rw[←hC] at HC0 ⊢;have HC:=O HC0;have HCT:=O (HC0.2.2.2.2.2 (aC _ _));clear hC HC0;obtain⟨W0,hW0⟩:∃W0,W0=w.alloc (.cells C 61):=⟨_,rfl⟩;have HW:=O hW0
 have hb0:Below w.heap.size w W0:=by rw[hW0];exact cJ _ _ (O_ _ _)
 have ST:Hid (bS fun y=>(Below w.heap.size w y)∧(y.heap[w.heap.size]?=some (.cells C 61 (0,0)))∧(RdK y (.slice ta A0.length tc) A0)∧(RdE eI y (.slice ia I0.length ic) I0)∧(RdK y (.slice ba L0.length bd) L0)):=O ((bS.b w).and ((bS.row _ _ _).and ((bS.rdK _ _).and ((bS.rdE _ _ _).and (bS.rdK _ _)))));have HJ:Hid ((Below w.heap.size w W0)∧(W0.heap[w.heap.size]?=some (.cells C 61 (0,0)))∧(RdK W0 (.slice ta A0.length tc) A0)∧(RdE eI W0 (.slice ia I0.length ic) I0)∧(RdK W0 (.slice ba L0.length bd) L0)):=O ⟨hb0,by rw[hW0];exact heap_alloc_new _ _,TK0.out.on hb0,IK0.out.on hb0,BK0.out.on hb0⟩;have HK:Hid (∀y,Below w.heap.size w y→KAt y):=O (fun y h=>htab.2.on h);have HK0:Hid (∀y,Below w.heap.size w y→cA y):=O (fun y h=>htab.1.on h);have HS:=O (fun (y:World) (a:KAt y)=>mf y a);have HFW:=O (fun (y:World) (h:RdK y (.slice ta A0.length tc) A0) (h2:RdK y (.slice ba L0.length bd) L0)=>EG N0 (.slice ta A0.length tc) A0 B0 (.slice ba L0.length bd) L0 y h h2);have HX0:=O x0;have HF0:=O f0;have hzero_tb:=rq;have hzero_pr:=Qr;have hzero_bk:=fh;have hzero_pt:=tV;have hzero_rc:=fi;clear hW0 htab TK0 IK0 BK0 w0 f0 s0 z0 x0 b0 m0 y0 t0 c0 hb0;have tok1:True:=trivial;have tok2:True:=trivial;have tok3:True:=trivial
 cases hf:oC N0 A0 B0 L0 with
 | false =>
   rw[hf] at HFW;clear hf
   as_aux_lemma =>
    go_enter func5,ntmps5
    go_upto_region 1 with fail
    rw[←HW.out]
    try dsimp only[Act.put]
    go_wp2_with (first
     |(clear tok1;go_at_call 9;refine(HS.out _ (HK.out _ (HJ.out.1))).mono ?_;rintro e yy ⟨rfl,hb⟩;replace HJ:=O (ST.out.on _ _ HJ.out hb);have c2:=(e_ _ _ 2 _ _ _ (HJ.out.2.1)).trans HC.out.2.2.2.2.1;have c41:=(e_ _ _ 41 _ _ _ (HJ.out.2.1)).trans HCT.out.1;clear hb)
     |(clear tok2;go_at_call 17;refine(HFW.out _ (HJ.out.2.2.1) (HJ.out.2.2.2.2)).mono ?_;clear c2 c41;rintro e yy ⟨rfl,hb⟩;replace HJ:=O (ST.out.on _ _ HJ.out hb);have c2:=(e_ _ _ 2 _ _ _ (HJ.out.2.1)).trans HC.out.2.2.2.2.1;have c41:=(e_ _ _ 41 _ _ _ (HJ.out.2.1)).trans HCT.out.1;clear hb)
     |(refine YT N0 (.slice ta A0.length tc) w.heap.size 0 (.tmp 14) ?r1 (vB (HJ.out.2.1) HC.out.1) ?r2 ?r3 ?_;(case r1=>exact rfl);(case r2=>exact rfl);(case r3=>exact rfl))
     |(refine YS B0 (.slice ba L0.length bd) w.heap.size 3 (.tmp 16) ?r1 (vB (HJ.out.2.1) HC.out.2.1) ?r2 ?r3 ?_;(case r1=>exact rfl);(case r2=>exact rfl);(case r3=>exact rfl)))
    go_ret;exact⟨rfl,(HJ.out.1)⟩
 | true =>
   rw[hf] at HFW;have hvt:=uU hf;have hln:=AX hf;clear hf
   rcases Nat.lt_or_ge 12 I0.length with hi|hi
   ·have i1:(12:Int)<(I0.length:Int):=by omega
    clear hi
    as_aux_lemma =>
     go_enter func5,ntmps5
     go_upto_region 1 with fail
     rw[←HW.out]
     try dsimp only[Act.put]
     go_wp2_with (first
      |(clear tok1;go_at_call 9;refine(HS.out _ (HK.out _ (HJ.out.1))).mono ?_;rintro e yy ⟨rfl,hb⟩;replace HJ:=O (ST.out.on _ _ HJ.out hb);have c2:=(e_ _ _ 2 _ _ _ (HJ.out.2.1)).trans HC.out.2.2.2.2.1;have c41:=(e_ _ _ 41 _ _ _ (HJ.out.2.1)).trans HCT.out.1;clear hb)
      |(clear tok2;go_at_call 17;refine(HFW.out _ (HJ.out.2.2.1) (HJ.out.2.2.2.2)).mono ?_;clear c2 c41;rintro e yy ⟨rfl,hb⟩;replace HJ:=O (ST.out.on _ _ HJ.out hb);have c2:=(e_ _ _ 2 _ _ _ (HJ.out.2.1)).trans HC.out.2.2.2.2.1;have c41:=(e_ _ _ 41 _ _ _ (HJ.out.2.1)).trans HCT.out.1;clear hb)
      |(refine YT N0 (.slice ta A0.length tc) w.heap.size 0 (.tmp 14) ?r1 (vB (HJ.out.2.1) HC.out.1) ?r2 ?r3 ?_;(case r1=>exact rfl);(case r2=>exact rfl);(case r3=>exact rfl))
      |(refine YS B0 (.slice ba L0.length bd) w.heap.size 3 (.tmp 16) ?r1 (vB (HJ.out.2.1) HC.out.2.1) ?r2 ?r3 ?_;(case r1=>exact rfl);(case r2=>exact rfl);(case r3=>exact rfl)))
     go_ret;exact⟨rfl,(HJ.out.1)⟩
   have i1:¬(12:Int)<(I0.length:Int):=by omega
   rcases Nat.lt_or_ge 100 S0.length with hl|hl
   ·have i2:(100:Int)<(S0.length:Int):=by omega
    clear hl hi
    as_aux_lemma =>
     go_enter func5,ntmps5
     go_upto_region 1 with fail
     rw[←HW.out]
     try dsimp only[Act.put]
     go_wp2_with (first
      |(clear tok1;go_at_call 9;refine(HS.out _ (HK.out _ (HJ.out.1))).mono ?_;rintro e yy ⟨rfl,hb⟩;replace HJ:=O (ST.out.on _ _ HJ.out hb);have c2:=(e_ _ _ 2 _ _ _ (HJ.out.2.1)).trans HC.out.2.2.2.2.1;have c41:=(e_ _ _ 41 _ _ _ (HJ.out.2.1)).trans HCT.out.1;clear hb)
      |(clear tok2;go_at_call 17;refine(HFW.out _ (HJ.out.2.2.1) (HJ.out.2.2.2.2)).mono ?_;clear c2 c41;rintro e yy ⟨rfl,hb⟩;replace HJ:=O (ST.out.on _ _ HJ.out hb);have c2:=(e_ _ _ 2 _ _ _ (HJ.out.2.1)).trans HC.out.2.2.2.2.1;have c41:=(e_ _ _ 41 _ _ _ (HJ.out.2.1)).trans HCT.out.1;clear hb)
      |(refine YT N0 (.slice ta A0.length tc) w.heap.size 0 (.tmp 14) ?r1 (vB (HJ.out.2.1) HC.out.1) ?r2 ?r3 ?_;(case r1=>exact rfl);(case r2=>exact rfl);(case r3=>exact rfl))
      |(refine YS B0 (.slice ba L0.length bd) w.heap.size 3 (.tmp 16) ?r1 (vB (HJ.out.2.1) HC.out.2.1) ?r2 ?r3 ?_;(case r1=>exact rfl);(case r2=>exact rfl);(case r3=>exact rfl)))
     go_ret;exact⟨rfl,(HJ.out.1)⟩
   have i2:¬(100:Int)<(S0.length:Int):=by omega
   have HSC:=O (fun (y:World) (a:KAt y) (h:RdK y (.slice ta A0.length tc) A0) (h2:RdE eI y (.slice ia I0.length ic) I0)=>Zt N0 (.slice ta A0.length tc) A0 (.slice ia I0.length ic) I0 B0 ba L0.length bd S0 M0 C0 y a h h2 HX0.out HF0.out (by omega) (by omega) (by omega));have HSR:=O (fun (v:Value) (y:World) (a:cA y) (h:RdK y v A0) (h2:RdE eI y (.slice ia I0.length ic) I0)=>UJ N0 v A0 (.slice ia I0.length ic) I0 B0 ba L0.length bd S0 M0 C0 y a h h2 HX0.out HF0.out (zR hvt) (by omega) (by omega) (by omega));have HLN:=O hln;generalize dN N0 A0 I0 B0 S0 M0 C0=R at HSC HSR;obtain⟨rn,rl,rd,rh,rx,rg,rr,re⟩:=R;dsimp only at HSC HSR;clear hvt hln hi hl HX0 HF0
   go_enter func5,ntmps5
   go_upto_region 1 with fail
   rw[←HW.out]
   try dsimp only[Act.put]
   go_upto_region 4 with (first
    |(clear tok1;go_at_call 9;refine(HS.out _ (HK.out _ (HJ.out.1))).mono ?_;rintro e yy ⟨rfl,hb⟩;replace HJ:=O (ST.out.on _ _ HJ.out hb);have c2:=(e_ _ _ 2 _ _ _ (HJ.out.2.1)).trans HC.out.2.2.2.2.1;have c41:=(e_ _ _ 41 _ _ _ (HJ.out.2.1)).trans HCT.out.1;clear hb)
    |(clear tok2;go_at_call 17;refine(HFW.out _ (HJ.out.2.2.1) (HJ.out.2.2.2.2)).mono ?_;clear c2 c41;rintro e yy ⟨rfl,hb⟩;replace HJ:=O (ST.out.on _ _ HJ.out hb);have c2:=(e_ _ _ 2 _ _ _ (HJ.out.2.1)).trans HC.out.2.2.2.2.1;have c41:=(e_ _ _ 41 _ _ _ (HJ.out.2.1)).trans HCT.out.1;clear hb)
    |(refine YT N0 (.slice ta A0.length tc) w.heap.size 0 (.tmp 14) ?r1 (vB (HJ.out.2.1) HC.out.1) ?r2 ?r3 ?_;(case r1=>exact rfl);(case r2=>exact rfl);(case r3=>exact rfl))
    |(refine YS B0 (.slice ba L0.length bd) w.heap.size 3 (.tmp 16) ?r1 (vB (HJ.out.2.1) HC.out.2.1) ?r2 ?r3 ?_;(case r1=>exact rfl);(case r2=>exact rfl);(case r3=>exact rfl)))
   clear c2 c41;have HX:Hid (∀y,Below yy.heap.size yy y→y.heap[w.heap.size]?=some (.cells C 61 (0,0))∧RdK y (.slice ta A0.length tc) A0):=O (fun y hy=>⟨aa (HJ.out.2.1) hy,(HJ.out.2.2.1).on hy⟩);refine aY 10 [[],[0],[1],[],[],[4],[5],[3,6],[2,7],[]] (SP.of [.eq (.pointer (some ⟨w.heap.size,0,none⟩)),.eq (.pointer (some ⟨w.heap.size,0,none⟩)),.eq (.int .i64 N0),SP.e0,.eq (.pointer (some ⟨w.heap.size,0,none⟩)),.eq (.pointer (some ⟨w.heap.size,1,none⟩)),.eq (.slice ta A0.length tc),SP.cpk A0,SP.cpt N0 A0,.fresh yy.heap.size (tbA 0 ah) 45]) (fun _=>undef) ?h1 ?h2 ?h3 ?h4 ?h5 ?h6
   case h1=>kernel_rfl
   case h2=>kernel_rfl
   case h3=>kernel_rfl
   case h4 =>
    simp only[F_,c_]
    repeat (first |exact trivial|refine⟨fun vals v=>by kernel_rfl,?_⟩)
   case h5 =>
    simp only[F_,c_];refine⟨?_,?_,?_,?_,?_,?_,?_,?_,?_,?_,trivial⟩
    all_goals (intro wq hbq vals;simp only[Nat.reduceAdd,a_,X_,W_];have HQ:=O (HX.out wq hbq);have HBQ:=O hbq;clear hbq;repeat (first |refine ar ?_|refine aw rfl ?_))
    case refine_3 =>
     have c:=(e_ _ _ 0 _ _ _ HQ.out.1).trans HC.out.2.2.1;intro Q hQ;simp only[ay,upd,Act.put,B_,C_,D_,Nat.reduceAdd,a_,Nat.reduceEqDiff,if_true,if_false,reduceIte];go_wp2;exact ab hQ _ (by kernel_rfl) (O_ _ _) rfl
    case refine_4 =>
     intro Q hQ;simp only[ay,upd,Act.put,B_,C_,D_,Nat.reduceAdd,a_,Nat.reduceEqDiff,if_true,if_false,reduceIte];go_wp2;exact ab hQ _ (by kernel_rfl) ((O_ _ _).alloc (A_ _) _) ⟨wq.heap.size,rfl⟩
    case refine_7 =>
     have c:=(e_ _ _ 1 _ _ _ HQ.out.1).trans HC.out.2.2.2.1;intro Q hQ;simp only[ay,upd,Act.put,B_,C_,D_,Nat.reduceAdd,a_,Nat.reduceEqDiff,if_true,if_false,reduceIte];go_wp2;exact ab hQ _ (by kernel_rfl) (O_ _ _) rfl
    case refine_8 =>
     refine aG rfl ?_;rintro v3 ⟨g3,rfl⟩;refine aw rfl ?_;refine ar ?_;intro Q hQ;simp only[ay,upd,Act.put,B_,C_,D_,Nat.reduceAdd,a_,Nat.reduceEqDiff,if_true,if_false,reduceIte]
     go_wp2_with (first
      |(at_builtin;refine Yc AN rfl (.tmp 36) (.tmp 39) rfl ⟨g3,0,none⟩ rfl _ A0 rfl (aad HQ.out.2) (by have := HLN.out;omega) ?_;intro v8 y8 ho8 hb8;have HO8:=O (Lg ho8);have HB8:=O hb8;clear ho8 hb8))
     obtain⟨va,vc,rfl,_⟩:=id HO8.out;exact ab hQ _ (by kernel_rfl) HB8.out ⟨va,vc,rfl,HO8.out⟩
    case refine_9 =>
     refine aG rfl ?_;rintro v7 ⟨va,vc,rfl,hv7⟩;refine ar ?_;have HV7:=O hv7;clear hv7;intro Q hQ;simp only[ay,upd,Act.put,B_,C_,D_,Nat.reduceAdd,a_,Nat.reduceEqDiff,if_true,if_false,reduceIte]
     go_wp2_with (first
      |(refine CC N0 va A0.length vc ?r1 (.tmp 35) (.tmp 40) ?r2 ?r3 ?r4 ?_;(case r2=>exact rfl);(case r1=>exact rfl);(case r3=>exact rfl);(case r4=>exact rfl)))
     exact ab hQ _ (by kernel_rfl) (O_ _ _) ⟨va,vc,rfl,HV7.out⟩
    case refine_10 =>
     intro Q hQ;simp only[ay,upd,Act.put,B_,C_,D_,Nat.reduceAdd,a_,Nat.reduceEqDiff,if_true,if_false,reduceIte];go_wp2;exact ab hQ _ (by kernel_rfl) ((O_ _ _).alloc (A_ _) _) ⟨wq.heap.size,rfl,HBQ.out.size,heap_alloc_new _ _⟩
    all_goals (intro Q hQ;simp only[ay,upd,Act.put,B_,C_,D_,Nat.reduceAdd,a_,Nat.reduceEqDiff,if_true,if_false,reduceIte];go_wp2;exact ab hQ _ (by kernel_rfl) (O_ _ _) rfl)
   case h6 =>
    intro wq hbq vals;have HBQ:=O hbq;clear hbq;rw[show List.range 10=[0,1,2,3,4,5,6,7,8,9] from by decide];refine aw rfl (aw rfl (aw rfl (aG rfl ?_)));rintro v3 ⟨g3,rfl⟩;refine aw rfl (aw rfl (aw rfl (aG rfl ?_)));rintro v7 ⟨_,_,rfl,_⟩;refine aG rfl ?_;rintro v8 ⟨ga,gc,rfl,hgk⟩;refine aG rfl ?_;rintro v9 ⟨g4,rfl,hg1,hg2⟩;refine ar ?_;have HGK:=O hgk;have HG4:=O (And.intro hg1 hg2);clear hgk hg1 hg2 HX;simp only[F_,c_,J_,L_];simp only[ay,upd,Act.put,B_,C_,D_,Nat.reduceAdd,a_,Nat.reduceEqDiff,if_true,if_false,reduceIte]
    go_upto_region 5 with (first
     |(refine aM (T:=45) (tbA N0 (.slice ga A0.length gc)) (cZ _ _) ?r1 (.tmp 4) (.tmp 41) ?r2 g4 (tbA 0 ah) ?r3 ?r4 (dP _ _ _ _) (fg _ _ _ _) HG4.out.2 ?_;(case r2=>exact rfl);(case r1=>exact rfl);(case r3=>exact rfl);(case r4=>exact rfl);intro w5 hg5 ho5 hb5;have HR4:=O hg5;have HGV:=O (HGK.out.nb HG4.out.2 (pA _ _ _ _) ho5 (hb5 0 (N_ _)).size);replace HJ:=O (ST.out.on _ _ HJ.out (HBQ.out.trans (hb5 _ HG4.out.1)));clear hg5 ho5 hb5))
    replace HJ:=O (And.intro HJ.out HGV.out);replace ST:=O (ST.out.and (bS.rdK (.slice ga A0.length gc) A0));replace HJ:=O (And.intro HJ.out HR4.out);replace ST:=O (ST.out.and (bS.row g4 (tbA N0 (.slice ga A0.length gc)) 45));clear HBQ HGK HG4 HGV HR4;have c2:=(e_ _ _ 2 _ _ _ (HJ.out.1.1.2.1)).trans HC.out.2.2.2.2.1;have c41:=(e_ _ _ 41 _ _ _ (HJ.out.1.1.2.1)).trans HCT.out.1;have c42:=(e_ _ _ 42 _ _ _ (HJ.out.1.1.2.1)).trans HCT.out.2.1;have c43:=(e_ _ _ 43 _ _ _ (HJ.out.1.1.2.1)).trans HCT.out.2.2
    go_upto_region 6 with (first
     |(refine YT N0 (.slice ta A0.length tc) w.heap.size 0 (.tmp 43) ?r1 (vB (HJ.out.1.1.2.1) HC.out.1) ?r2 ?r3 ?_;(case r1=>exact rfl);(case r2=>exact rfl);(case r3=>exact rfl))
     |(refine YS B0 (.slice ba L0.length bd) w.heap.size 3 (.tmp 47) ?r1 (vB (HJ.out.1.1.2.1) HC.out.2.1) ?r2 ?r3 ?_;(case r1=>exact rfl);(case r2=>exact rfl);(case r3=>exact rfl))
     |(refine oS S0 ?r1 (.tmp 50) ?r2 ?r3 ?_;(case r2=>exact rfl);(case r1=>exact rfl);(case r3=>exact rfl))
     |(go_at_call 24;refine(HSC.out _ (HK.out _ (HJ.out.1.1.1)) (HJ.out.1.1.2.2.1) (HJ.out.1.1.2.2.2.1)).mono ?_;clear c2 c41 c42 c43;rintro e yy ⟨a1,n1,c1,a2,n2,e2,a3,n3,c3,rfl,⟨h1,h2,h3⟩,hb⟩;replace HJ:=O (ST.out.on _ _ HJ.out hb);have HP1:=O h1;have HP2:=O h2;have HP3:=O h3;clear h1 h2 h3;clear hb)
     |(refine aM (T:=63) (ptA rn (.slice a1 n1 c1) rd (.slice a2 n2 e2) rx (.slice a3 n3 c3)) (qz _ _ _ _ _ _) ?r1 (.tmp 5) (.tmp 57) ?r2 yy.heap.size zPA ?r3 ?r4 (nS _ _ _ _ _ _ _ _ _ _ _ _) (Tm _ _ _ _ _ _) (eP _ _ _) ?_;(case r2=>exact rfl);(case r1=>exact rfl);(case r3=>exact rfl);(case r4=>exact rfl);intro wa hga hoa hba;have HWA:=O (And.intro hga (And.intro hoa hba));clear hga hoa hba)
     |(refine aM (T:=30) (ag rr) (bu _) ?r1 (.tmp 6) (.tmp 58) ?r2 (yy.heap.size+1) (ag []) ?r3 ?r4 (aS _) (bM _ _) ((HWA.out.2.1 _ (by omega)).trans (eR _ _ _)) ?_;(case r2=>exact rfl);(case r1=>exact rfl);(case r3=>exact rfl);(case r4=>exact rfl);intro wb hgb hob hbb;have HWB:=O (And.intro hgb (And.intro hob hbb));clear hgb hob hbb))
    replace HJ:=O (And.intro HJ.out HP1.out);replace ST:=O (ST.out.and (bS.rdK (.slice a1 n1 c1) rl));replace HJ:=O (And.intro HJ.out HP2.out);replace ST:=O (ST.out.and (bS.rdE eH (.slice a2 n2 e2) rh));replace HJ:=O (And.intro HJ.out HP3.out);replace ST:=O (ST.out.and (bS.rdE eI (.slice a3 n3 c3) rg));clear HP1 HP2 HP3 HSC
    try simp only[Act.put]
    have hj:=ST.out.new2 HJ.out rfl HWA.out.1 HWA.out.2.1 HWA.out.2.2 HWB.out.1 HWB.out.2.1 HWB.out.2.2;obtain⟨gR5,hg⟩:∃g,g=yy.heap.size:=⟨_,rfl⟩;rw[←hg] at hj ⊢;clear hg;obtain⟨gR6,hg⟩:∃g,g=gR5+1:=⟨_,rfl⟩;rw[←hg] at hj ⊢;clear hg HWA HWB;replace HJ:=O hj;clear hj;replace ST:=O ((ST.out.and (bS.row gR5 (ptA rn (.slice a1 n1 c1) rd (.slice a2 n2 e2) rx (.slice a3 n3 c3)) 63)).and (bS.row gR6 (ag rr) 30));have c2:=(e_ _ _ 2 _ _ _ (HJ.out.1.1.1.1.1.1.1.2.1)).trans HC.out.2.2.2.2.1;have c41:=(e_ _ _ 41 _ _ _ (HJ.out.1.1.1.1.1.1.1.2.1)).trans HCT.out.1;have c42:=(e_ _ _ 42 _ _ _ (HJ.out.1.1.1.1.1.1.1.2.1)).trans HCT.out.2.1;have c43:=(e_ _ _ 43 _ _ _ (HJ.out.1.1.1.1.1.1.1.2.1)).trans HCT.out.2.2
    go_upto_region 7 with (first
     |(refine dw N0 (.slice ga A0.length gc) ?r1 (.tmp 4) ?r2 g4 ?r3 _ (HJ.out.1.1.1.1.1.2) ?_;(case r2=>exact rfl);(case r1=>exact rfl);(case r3=>exact rfl))
     |(refine YS B0 (.slice ba L0.length bd) w.heap.size 3 (.tmp 63) ?r1 (vB (HJ.out.1.1.1.1.1.1.1.2.1) HC.out.2.1) ?r2 ?r3 ?_;(case r1=>exact rfl);(case r2=>exact rfl);(case r3=>exact rfl))
     |(refine yH S0 ?r1 (.tmp 66) ?r2 ?r3 ?_;(case r2=>exact rfl);(case r1=>exact rfl);(case r3=>exact rfl))
     |(go_at_call 25;refine(HSR.out _ _ (HK0.out _ (HJ.out.1.1.1.1.1.1.1.1)) (HJ.out.1.1.1.1.1.1.2) (HJ.out.1.1.1.1.1.1.1.2.2.2.1)).mono ?_;clear c2 c41 c42 c43;rintro e yy ⟨b1,m1,d1,b2,m2,d2,b3,m3,d3,rfl,h1,h2,h3,hb⟩;replace HJ:=O (ST.out.on _ _ HJ.out hb);have HP1:=O h1;have HP2:=O h2;have HP3:=O h3;clear h1 h2 h3;clear hb)
     |(refine aH (prA rn (.slice b1 m1 d1) rd (.slice b2 m2 d2) rx (.slice b3 m3 d3) rr re) 67 ?r1 (.tmp 8) (.tmp 72) ?r2 yy.heap.size ?r3 ?r4 ?r5 (lQ _ _ _ _ _ _ _ _) (rP _ _ _ _ _ _ _ _) (nR _ _ _ _ _ _ _ _ _ _ _ _ _ _) ?_;(case r2=>exact rfl);(case r1=>exact rfl);(case r3=>exact rfl);(case r4=>exact rfl);(case r5=>exact rfl)))
    replace HJ:=O (And.intro HJ.out HP1.out);replace ST:=O (ST.out.and (bS.rdK (.slice b1 m1 d1) rl));replace HJ:=O (And.intro HJ.out HP2.out);replace ST:=O (ST.out.and (bS.rdE eH (.slice b2 m2 d2) rh));replace HJ:=O (And.intro HJ.out HP3.out);replace ST:=O (ST.out.and (bS.rdE eI (.slice b3 m3 d3) rg));clear HP1 HP2 HP3 HSR
    try simp only[Act.put]
    obtain⟨gR8,hg,hj⟩:=ST.out.new HJ.out (prA rn (.slice b1 m1 d1) rd (.slice b2 m2 d2) rx (.slice b3 m3 d3) rr re) 67;rw[←hg];generalize yy.alloc (.cells (prA rn (.slice b1 m1 d1) rd (.slice b2 m2 d2) rx (.slice b3 m3 d3) rr re) 67)=Y2 at hj ⊢;replace HJ:=O hj;replace ST:=O (ST.out.and (bS.row gR8 (prA rn (.slice b1 m1 d1) rd (.slice b2 m2 d2) rx (.slice b3 m3 d3) rr re) 67));clear hj hg;have HSA:=O (fun (y:World) (a:RdK y (.slice a1 n1 c1) rl) (b:RdK y (.slice b1 m1 d1) rl)=>Iz rn (.slice a1 n1 c1) (.slice b1 m1 d1) rl y a b);have HSH:=O (fun (y:World) (a:RdE eH y (.slice a2 n2 e2) rh) (b:RdE eH y (.slice b2 m2 d2) rh)=>Rg (.slice a2 n2 e2) (.slice b2 m2 d2) rh y a b);have HSI:=O (fun (y:World) (a:RdE eI y (.slice a3 n3 c3) rg) (b:RdE eI y (.slice b3 m3 d3) rg)=>TB (.slice a3 n3 c3) (.slice b3 m3 d3) rg rg y a b rfl);have HST:=O (fun (y:World) (a:RdK y (.slice ta A0.length tc) A0) (b:RdK y (.slice ga A0.length gc) A0)=>Iz N0 (.slice ta A0.length tc) (.slice ga A0.length gc) A0 y a b);have heq:=fun y=>uQ rd y
    go_upto_region 8 with (first
     |(refine Di rn (.slice a1 n1 c1) gR5 (.tmp 73) ?r1 (UF (HJ.out.1.1.1.1.1.2)) ?r2 ?r3 ?_;(case r1=>exact rfl);(case r2=>exact rfl);(case r3=>exact rfl))
     |(refine Di rn (.slice b1 m1 d1) gR8 (.tmp 76) ?r1 (UD (HJ.out.2)) ?r2 ?r3 ?_;(case r1=>exact rfl);(case r2=>exact rfl);(case r3=>exact rfl))
     |(go_at_call 26;refine(HSA.out _ (HJ.out.1.1.1.1.1.1.1.1.2) (HJ.out.1.1.1.2)).mono ?_;rintro e yy ⟨rfl,hb⟩;replace HJ:=O (ST.out.on _ _ HJ.out hb);clear hb))
    have s5:=(e_ _ _ 21 _ _ _ (HJ.out.1.1.1.1.1.2)).trans (K8 _ _ _ _ _ _ _ _ _ _ _ _);have s8:=(e_ _ _ 21 _ _ _ (HJ.out.2)).trans (K7 (K8 _ _ _ _ _ _ _ _ _ _ _ _))
    go_upto_region 9 with (first
     |(go_at_call 14;refine(HSH.out _ (HJ.out.1.1.1.1.1.1.1.2) (HJ.out.1.1.2)).mono ?_;clear s5 s8;rintro e yy ⟨rfl,hb⟩;replace HJ:=O (ST.out.on _ _ HJ.out hb);clear hb))
    have s5:=(e_ _ _ 23 _ _ _ (HJ.out.1.1.1.1.1.2)).trans (Wx _ _ _ _ _ _ _ _ _ _ _ _);have s8:=(e_ _ _ 23 _ _ _ (HJ.out.2)).trans (K7 (Wx _ _ _ _ _ _ _ _ _ _ _ _))
    go_upto_region 10 with (first
     |(go_at_call 27;refine(HSI.out _ (HJ.out.1.1.1.1.1.1.2) (HJ.out.1.2)).mono ?_;clear s5 s8;rintro e yy ⟨rfl,hb⟩;replace HJ:=O (ST.out.on _ _ HJ.out hb);clear hb))
    go_upto_region 11 with (first
     |(refine YT N0 (.slice ta A0.length tc) w.heap.size 0 (.tmp 91) ?r1 (vB (HJ.out.1.1.1.1.1.1.1.1.1.1.1.2.1) HC.out.1) ?r2 ?r3 ?_;(case r1=>exact rfl);(case r2=>exact rfl);(case r3=>exact rfl))
     |(refine dw N0 (.slice ga A0.length gc) ?r1 (.tmp 4) ?r2 g4 ?r3 _ (HJ.out.1.1.1.1.1.1.1.1.1.2) ?_;(case r2=>exact rfl);(case r1=>exact rfl);(case r3=>exact rfl))
     |(go_at_call 26;refine(HST.out _ (HJ.out.1.1.1.1.1.1.1.1.1.1.1.2.2.1) (HJ.out.1.1.1.1.1.1.1.1.1.1.2)).mono ?_;rintro e yy ⟨rfl,hb⟩;replace HJ:=O (ST.out.on _ _ HJ.out hb);clear hb))
    have s5:=(e_ _ _ 22 _ _ _ (HJ.out.1.1.1.1.1.2)).trans (K9 _ _ _ _ _ _ _ _ _ _ _ _);have s8:=(e_ _ _ 22 _ _ _ (HJ.out.2)).trans (K7 (K9 _ _ _ _ _ _ _ _ _ _ _ _));have s6:=(e_ _ _ 0 _ _ _ (HJ.out.1.1.1.1.2)).trans (Fq _);have s24:=(e_ _ _ 24 _ _ _ (HJ.out.2)).trans (aab _ _ _ _ _ _ _ _);have s25:=(e_ _ _ 25 _ _ _ (HJ.out.2)).trans (aac _ _ _ _ _ _ _ _)
    go_wp2_with (first
     |(refine Km rd gR5 2 (.tmp 109) ?r1 (UE (HJ.out.1.1.1.1.1.2)) ?r2 ?r3 ?_;(case r1=>exact rfl);(case r2=>exact rfl);(case r3=>exact rfl))
     |(refine Km rd gR8 2 (.tmp 112) ?r1 (UC (HJ.out.2)) ?r2 ?r3 ?_;(case r1=>exact rfl);(case r2=>exact rfl);(case r3=>exact rfl))
     |(refine mh .eql 25 25 (.tmp 110) (.tmp 113) (.agg (doA rd)) (.agg (doA rd)) (.bool true) ?r1 ?r2 ?r3 ?r4 (fun y=>Jy _ _ _ _ y) heq ?_;(case r1=>exact rfl);(case r2=>exact rfl);(case r3=>exact rfl);(case r4=>exact rfl)))
    go_ret;exact⟨rfl,(HJ.out.1.1.1.1.1.1.1.1.1.1.1.1)⟩
theorem domainSplitMatchesSpec_lifted (os:Os) (started:os.Started) (H:Type) (enc:TypeId × Value→H) :
  ReturnsInHanded {} Tryz.checked os 5 .any (fun w args=>(Rows.domainSplitMatchesSpecSpec.pre enc prog f5 [] false w args∧laidMetH prog lU w)∧sizedMet enc prog f5 (OpenSpec.ofChange Rows.domainSplitMatchesSpecSpec) false w args) (Rows.domainSplitMatchesSpecSpec.post enc prog f5 false true false false):=by
 refine returnsInHanded_of_change_and (C:=Tryz.checked) (X:=fun w _=>laidMetH prog lU w) (fun _ _ _ hh h=>h.of_heap hh) Tryz.own started (by kernel_rfl) func5
  (ChangeSpec.witness_shaped (enc:=enc) (C:=Tryz.checked) (os:=os) (X:=fun w _=>laidMetH prog lU w) false (World.doorLaid prog 222 os) #[.agg #[.int .i64 0,.slice none 0 0,.slice none 0 0,.int .u8 0,.int .u8 0,.int .u8 0,.int .u8 0,.int .u8 0,.int .u8 0,.int .u8 0,.int .u8 0,.int .u8 0,.int .u8 0,.int .u8 0,.int .u8 0,.int .u8 0,.int .u8 0,.int .u8 0,.int .u8 0,.int .i64 0,.int .i64 0,.int .i64 0,.int .i64 0,.int .u8 0,.int .u8 0,.int .u8 0,.int .u8 0,.int .u8 0,.int .u8 0,.int .u8 0,.int .u8 0,.int .u8 0,.int .u8 0,.int .u8 0,.int .u8 0,.int .u8 0,.int .u8 0,.int .u8 0,.int .u8 0,.string ByteArray.empty,.slice none 0 0,.string ByteArray.empty,.int .i64 0,.int .i64 0]] 8 rfl (World.shaped_of_RefB (by kernel_rfl) (by kernel_rfl)) (by kernel_rfl) (by kernel_rfl) (by kernel_rfl) (xe os _)) ?_
 intro W ai args ds gs before hval0 hW _ hwt hL _;have hval:∀(j:Nat) t v,f5.params[j]?=some t→args[j]?=some v→Value.okWide prog W .any ai t v:=hval0;have hW':=hW;obtain⟨p,q,hA0,hV,rfl,hfz,hnd⟩:=hW;have hA:DataW.TrodAll enc prog W 0 (fun _=>true) true f5.params.toList args.toList ds p:=hA0;rw[params5] at hA hval;obtain⟨v0,vs0,d0,ds0,p0,q0,hargs,rfl,rfl,h0,r0⟩:=trodAll_cons hA;obtain⟨rfl,rfl,rfl⟩:=trodAll_nil r0
 obtain rfl:args = #[v0]:=by cases args;simp_all
 obtain⟨rfl,rfl⟩:=trodVars_none hV;have k0:=h0
 have lt0:∀x∈p0,x.block<W.heap.size:=by obtain⟨m,hm⟩:=k0;exact DataW.trod_lt m _ _ _ hm
 obtain⟨N0,Q0,A0,J0,I0,B0,U0,L0,S0,M0,C0,rfl,w0,f0,s0,z0,x0,b0,m0,y0,t0,c0⟩:=XW (hval 0 61 v0 rfl rfl) h0;have htab:=Cj hL;clear hA0 hval0;refine(domainSplitMatchesSpec_walk N0 Q0 A0 J0 I0 B0 U0 L0 S0 M0 C0 W w0 f0 s0 z0 x0 b0 m0 y0 t0 c0 htab).mono fun e W' ⟨he,bel⟩ => ?_;subst he;exact⟨_,rfl,_,_,_,[],_,[],hW',trodAll_mk1 (shut_bool underlying4 _),(trodAll_cons_mk (Below.trod Tryz.laidOut (by kernel_rfl) (of_decide_eq_true (by kernel_rfl)) k0 bel lt0) trodAll_mk0),rfl,bel.frame _,fun h=>by cases h⟩
theorem domainSplitMatchesSpec_row:Rows.DomainSplitMatchesSpecSaid :=
 OpenClaim.holds_of_wide 5 f5 rfl rfl rfl rfl rfl rfl rfl ⟨rfl,rfl,rfl,rfl,rfl⟩ rfl rfl rfl rfl rfl (by kernel_rfl) func5 (by kernel_rfl)
  (of_decide_eq_true (by kernel_rfl)) (by unfold Func.isWrapper;first |(rw[G_ (by decide +kernel)];kernel_rfl)|(rw[H_ (by decide +kernel)];exact⟨rfl,rfl⟩))
  (fun os started H enc _=>domainSplitMatchesSpec_lifted os started H enc)
theorem DomainSplitMatchesSpec_proved:Rows.DomainSplitMatchesSpecCardSaid :=
 Claim7.holds_tied_plain_at .later [] [.data,.data] true Rows.domainSplitMatchesSpecCard.stood.harness false
  domainSplitMatchesSpec_row (fun _ h=>by cases h) (by kernel_rfl) (fun _ h=>by cases h) domainSplitMatchesSpec_row_tie rfl ⟨rfl,rfl⟩ (by kernel_rfl) rfl
  (fun f fn hf hfn=>by
   obtain rfl:f=5:=Option.some.inj ((show prog.funcNamed "custody/custodylaw38.DomainSplitMatchesSpec" = some 5 by kernel_rfl).symm.trans hf) |>.symm
   obtain rfl:fn=f5:=(Option.some.inj (func5.symm.trans hfn)).symm
   exact⟨by kernel_rfl,fun j t ht=>by
    rw[params5] at ht
    rcases j with _|j
    ·simp at ht;subst ht;kernel_rfl
    ·simp at ht⟩)
  (by kernel_rfl)
end
end Go.Proofs.YtmfiaadjdbemnaaGreatDoor
