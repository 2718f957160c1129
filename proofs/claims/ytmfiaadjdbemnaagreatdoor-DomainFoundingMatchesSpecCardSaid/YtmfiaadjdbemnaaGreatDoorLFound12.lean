/- The law DomainFoundingMatchesSpec holds for every input: it returns true and leaves its arguments as they were. No condition. -/
import Derived.Test.YtmfiaadjdbemnaaGreatDoorLFound11
import Derived.SevenTiedAt
import Derived.Test.YtmfiaadjdbemnaaGreatDoorCards
import Derived.Test.YtmfiaadjdbemnaaGreatDoorTie
set_option maxRecDepth 100000
set_option maxHeartbeats 8000000
set_option linter.unusedSimpArgs false
set_option linter.unusedVariables false
namespace Go.Proofs.YtmfiaadjdbemnaaGreatDoor
open Go.Proofs.Tryz
section
open Go.ChangeShapes Go.WideShapes Go.ChangeAt Go.RowKit
open Go.ChangeMaps (open_string shut_string)
attribute [local irreducible] Calls doA ag foA zFO cP mG bD
theorem iI (d0:DO) (a1:ByteArray) (n2 m2:Int) (w:World) (x0:d0.mach) (w1:a1.size≤maxLen) (x2:okI n2) (y2:okI m2) (htab:cA w∧KAt w) :
  Calls prog 3 #[.agg (doA d0),.string a1,.agg #[.int .i64 n2,.int .i64 m2]] w fun e w'=>e = .returned (.bool true)∧Below w.heap.size w w':=by
 obtain⟨sd,rfl⟩:=vW a1;obtain⟨W0,hW0⟩:∃W0,W0=(w.alloc (.cells (doA d0) 25)).alloc (.cells #[.int .i64 n2,.int .i64 m2] 26):=⟨_,rfl⟩;have HW:=O hW0;have R0:Hid (W0.heap[w.heap.size]?=some (.cells (doA d0) 25 (0,0))):=O (by rw[hW0];exact eP _ _ _);have R5:Hid (W0.heap[w.heap.size+1]?=some (.cells #[.int .i64 n2,.int .i64 m2] 26 (0,0))):=O (by rw[hW0];exact eR _ _ _);have HB:Hid (Below w.heap.size w W0):=O (by rw[hW0];exact dm _ _ _ (O_ _ _));have HK:Hid (∀y,Below w.heap.size w y→KAt y∧cA y):=O (fun y h=>⟨htab.2.on h,htab.1.on h⟩);have HS:=O (fun (y:World) (a:KAt y)=>mf y a);have hzero_do:=iy;have hzero_rc:=fi;have hzero_fo:=tU;clear hW0 htab x0 x2 y2 w1
 rcases Nat.lt_or_ge 100 d0.key.length with hd|hd
 ·have i1:(100:Int)<(d0.key.length:Int):=by omega
  clear hd
  go_enter func3,ntmps3
  go_upto_region 1 with fail
  rw[←HW.out]
  try dsimp only[Act.put]
  go_wp2_with (first
   |(go_at_call 9;refine(HS.out _ (HK.out _ HB.out).1).mono ?_;rintro e yy ⟨rfl,hb⟩;replace HB:=O (HB.out.trans (hb.mono HB.out.size));replace R0:=O (aa R0.out hb);replace R5:=O (aa R5.out hb);have c16:=(e_ _ _ 16 _ _ _ R0.out).trans (cK _);clear hb))
  go_ret;exact⟨rfl,HB.out⟩
 have i1:¬(100:Int)<(d0.key.length:Int):=by omega
 rcases Nat.lt_or_ge 100 sd.length with hl|hl
 ·have i2:(100:Int)<(sd.length:Int):=by omega
  clear hd hl
  go_enter func3,ntmps3
  go_upto_region 1 with fail
  rw[←HW.out]
  try dsimp only[Act.put]
  go_wp2_with (first
   |(go_at_call 9;refine(HS.out _ (HK.out _ HB.out).1).mono ?_;rintro e yy ⟨rfl,hb⟩;replace HB:=O (HB.out.trans (hb.mono HB.out.size));replace R0:=O (aa R0.out hb);replace R5:=O (aa R5.out hb);have c16:=(e_ _ _ 16 _ _ _ R0.out).trans (cK _);clear hb))
  go_ret;exact⟨rfl,HB.out⟩
 have i2:¬(100:Int)<(sd.length:Int):=by omega
 have HNC:=O (fun (y:World) (a:KAt y)=>xN sd n2 m2 y a (by omega));have HNR:=O (fun (y:World) (a:cA y)=>QU sd n2 m2 y a (by omega));have HRC:=O (fun (y:World) (a:KAt y)=>Fm d0 sd n2 m2 y a (by omega));have HRR:=O (fun (y:World) (a:cA y)=>Fo d0 sd n2 m2 y a (by omega));generalize cP sd n2 m2=N at HNC HNR;generalize mG d0 sd n2 m2=M at HRC HRR;have HVC:=O (fun (y:World)=>ly d0 y);have HVR:=O (fun (y:World)=>rh d0 y);generalize bD d0=vd at HVC HVR;obtain⟨Nd,Nl,Nr,Ne⟩:=N;obtain⟨Md,Ml,Mr,Me⟩:=M;have q1:=beq_self_eq_true Ne;have q2:=beq_self_eq_true Me;have q3:=beq_self_eq_true Nr;have q4:=beq_self_eq_true Mr;have q5:=beq_self_eq_true vd;have qd1:=fun y=>uQ Nd y;have qd2:=fun y=>uQ Md y;clear hd hl;have tok1:True:=trivial;have tok2:True:=trivial;have tok3:True:=trivial;have tok4:True:=trivial;have tok5:True:=trivial
 go_enter func3,ntmps3
 go_upto_region 1 with fail
 rw[←HW.out]
 try dsimp only[Act.put]
 go_upto_region 5 with (first
  |(go_at_call 9;refine(HS.out _ (HK.out _ HB.out).1).mono ?_;rintro e yy ⟨rfl,hb⟩;replace HB:=O (HB.out.trans (hb.mono HB.out.size));replace R0:=O (aa R0.out hb);replace R5:=O (aa R5.out hb);have c16:=(e_ _ _ 16 _ _ _ R0.out).trans (cK _);have p0:=e_ _ _ 0 _ _ _ R5.out;have p1:=e_ _ _ 1 _ _ _ R5.out;clear hb)
  |(refine oS sd rfl (.tmp 32) rfl rfl ?_)
  |(go_at_call 10;refine(HNC.out _ (HK.out _ HB.out).1).mono ?_;rintro e yy ⟨v9,rfl,ho9,hb⟩;replace HB:=O (HB.out.trans (hb.mono HB.out.size));replace R0:=O (aa R0.out hb);replace R5:=O (aa R5.out hb);obtain⟨s9a,s9c,rfl,_,_,_⟩:=id ho9.rd;have S9:=O ho9.rd;clear ho9;clear hb)
  |(refine aM (T:=25) (doA Nd) (b8 _) rfl (.tmp 8) (.tmp 39) rfl yy.heap.size (doA zD) rfl rfl (cr _) (dE _ _) (eP _ _ _) ?_;intro wa hga hoa hba;have HWA:=O (And.intro hga (And.intro hoa hba));clear hga hoa hba)
  |(refine aM (T:=30) (ag Nr) (bu _) rfl (.tmp 10) (.tmp 41) rfl (yy.heap.size+1) (ag []) rfl rfl (aS _) (bM _ _) ((HWA.out.2.1 _ (by omega)).trans (eR _ _ _)) ?_;intro wb hgb hob hbb;have HWB:=O (And.intro hgb (And.intro hob hbb));clear hgb hob hbb))
 have hb:=(((dm yy _ _ (O_ _ _)).trans (HWA.out.2.2 yy.heap.size (A_ _))).trans (HWB.out.2.2 yy.heap.size (by omega)));have R80:=O ((HWB.out.2.1 yy.heap.size (by omega)).trans HWA.out.1);have R100:=O HWB.out.1;replace HB:=O (HB.out.trans (hb.mono HB.out.size));replace R0:=O (aa R0.out hb);replace R5:=O (aa R5.out hb);replace S9:=O (S9.out.on hb);clear hb HWA HWB;obtain⟨gR8,hg⟩:∃g,g=yy.heap.size:=⟨_,rfl⟩;rw[←hg] at R80 R100 ⊢;have R8:=R80;clear R80 hg;obtain⟨gR10,hg⟩:∃g,g=gR8+1:=⟨_,rfl⟩;rw[←hg] at R100 ⊢;have R10:=R100;clear R100 hg;clear c16 p0 p1;have p0:=e_ _ _ 0 _ _ _ R5.out;have p1:=e_ _ _ 1 _ _ _ R5.out
 go_upto_region 6 with (first
  |(refine yH sd rfl (.tmp 43) rfl rfl ?_)
  |(go_at_call 11;refine(HNR.out _ (HK.out _ HB.out).2).mono ?_;rintro e yy ⟨fa,fn,fc,rfl,hof,hb⟩;replace HB:=O (HB.out.trans (hb.mono HB.out.size));replace R0:=O (aa R0.out hb);replace R5:=O (aa R5.out hb);replace R8:=O (aa R8.out hb);replace R10:=O (aa R10.out hb);replace S9:=O (S9.out.on hb);have S12:=O hof.rd;clear hof;clear hb)
  |(refine aH (foA Nd (.slice fa fn fc) Nr Ne) 36 rfl (.tmp 12) (.tmp 49) rfl _ rfl rfl rfl (fU _ _ _ _) (by rw[fQ,ed]) (ie _ _ _ _ _ _) ?_))
 try simp only[Act.put]
 have hb:=(O_ yy.heap.size yy).alloc (A_ _) (.cells (foA Nd (.slice fa fn fc) Nr Ne) 36);have R120:=O (heap_alloc_new yy (.cells (foA Nd (.slice fa fn fc) Nr Ne) 36));replace HB:=O (HB.out.trans (hb.mono HB.out.size));replace R0:=O (aa R0.out hb);replace R5:=O (aa R5.out hb);replace R8:=O (aa R8.out hb);replace R10:=O (aa R10.out hb);replace S9:=O (S9.out.on hb);replace S12:=O (S12.out.on hb);clear hb;generalize yy.alloc (.cells (foA Nd (.slice fa fn fc) Nr Ne) 36)=Y12 at HB R0 R5 R8 R10 S9 S12 R120 ⊢;obtain⟨gR12,hg⟩:∃g,g=yy.heap.size:=⟨_,rfl⟩;rw[←hg] at R120 ⊢;have R12:=R120;clear R120 hg;clear p0 p1;have p0:=e_ _ _ 0 _ _ _ R5.out;have p1:=e_ _ _ 1 _ _ _ R5.out
 go_upto_region 7 with (first
  |(refine cz d0 rfl (.tmp 3) rfl w.heap.size rfl _ R0.out ?_)
  |(refine oS sd rfl (.tmp 52) rfl rfl ?_)
  |(go_at_call 12;refine(HRC.out _ (HK.out _ HB.out).1).mono ?_;rintro e yy ⟨v14,rfl,ho14,hb⟩;replace HB:=O (HB.out.trans (hb.mono HB.out.size));replace R0:=O (aa R0.out hb);replace R5:=O (aa R5.out hb);replace R8:=O (aa R8.out hb);replace R10:=O (aa R10.out hb);replace R12:=O (aa R12.out hb);replace S9:=O (S9.out.on hb);replace S12:=O (S12.out.on hb);obtain⟨s14a,s14c,rfl,_,_,_⟩:=id ho14.rd;have S14:=O ho14.rd;clear ho14;clear hb)
  |(refine aM (T:=25) (doA Md) (b8 _) rfl (.tmp 13) (.tmp 59) rfl yy.heap.size (doA zD) rfl rfl (cr _) (dE _ _) (eP _ _ _) ?_;intro wa hga hoa hba;have HWA:=O (And.intro hga (And.intro hoa hba));clear hga hoa hba)
  |(refine aM (T:=30) (ag Mr) (bu _) rfl (.tmp 15) (.tmp 61) rfl (yy.heap.size+1) (ag []) rfl rfl (aS _) (bM _ _) ((HWA.out.2.1 _ (by omega)).trans (eR _ _ _)) ?_;intro wb hgb hob hbb;have HWB:=O (And.intro hgb (And.intro hob hbb));clear hgb hob hbb))
 have hb:=(((dm yy _ _ (O_ _ _)).trans (HWA.out.2.2 yy.heap.size (A_ _))).trans (HWB.out.2.2 yy.heap.size (by omega)));have R130:=O ((HWB.out.2.1 yy.heap.size (by omega)).trans HWA.out.1);have R150:=O HWB.out.1;replace HB:=O (HB.out.trans (hb.mono HB.out.size));replace R0:=O (aa R0.out hb);replace R5:=O (aa R5.out hb);replace R8:=O (aa R8.out hb);replace R10:=O (aa R10.out hb);replace R12:=O (aa R12.out hb);replace S9:=O (S9.out.on hb);replace S12:=O (S12.out.on hb);replace S14:=O (S14.out.on hb);clear hb HWA HWB;obtain⟨gR13,hg⟩:∃g,g=yy.heap.size:=⟨_,rfl⟩;rw[←hg] at R130 R150 ⊢;have R13:=R130;clear R130 hg;obtain⟨gR15,hg⟩:∃g,g=gR13+1:=⟨_,rfl⟩;rw[←hg] at R150 ⊢;have R15:=R150;clear R150 hg;clear p0 p1;have p0:=e_ _ _ 0 _ _ _ R5.out;have p1:=e_ _ _ 1 _ _ _ R5.out
 go_upto_region 8 with (first
  |(refine cz d0 rfl (.tmp 3) rfl w.heap.size rfl _ R0.out ?_)
  |(refine yH sd rfl (.tmp 64) rfl rfl ?_)
  |(go_at_call 13;refine(HRR.out _ (HK.out _ HB.out).2).mono ?_;rintro e yy ⟨ga,gn,gc,rfl,hog,hb⟩;replace HB:=O (HB.out.trans (hb.mono HB.out.size));replace R0:=O (aa R0.out hb);replace R5:=O (aa R5.out hb);replace R8:=O (aa R8.out hb);replace R10:=O (aa R10.out hb);replace R12:=O (aa R12.out hb);replace R13:=O (aa R13.out hb);replace R15:=O (aa R15.out hb);replace S9:=O (S9.out.on hb);replace S12:=O (S12.out.on hb);replace S14:=O (S14.out.on hb);have S17:=O hog.rd;clear hog;clear hb)
  |(refine aH (foA Md (.slice ga gn gc) Mr Me) 36 rfl (.tmp 17) (.tmp 70) rfl _ rfl rfl rfl (fU _ _ _ _) (by rw[fQ,ed]) (ie _ _ _ _ _ _) ?_))
 try simp only[Act.put]
 have hb:=(O_ yy.heap.size yy).alloc (A_ _) (.cells (foA Md (.slice ga gn gc) Mr Me) 36);have R170:=O (heap_alloc_new yy (.cells (foA Md (.slice ga gn gc) Mr Me) 36));replace HB:=O (HB.out.trans (hb.mono HB.out.size));replace R0:=O (aa R0.out hb);replace R5:=O (aa R5.out hb);replace R8:=O (aa R8.out hb);replace R10:=O (aa R10.out hb);replace R12:=O (aa R12.out hb);replace R13:=O (aa R13.out hb);replace R15:=O (aa R15.out hb);replace S9:=O (S9.out.on hb);replace S12:=O (S12.out.on hb);replace S14:=O (S14.out.on hb);replace S17:=O (S17.out.on hb);clear hb;generalize yy.alloc (.cells (foA Md (.slice ga gn gc) Mr Me) 36)=Y17 at HB R0 R5 R8 R10 R12 R13 R15 S9 S12 S14 S17 R170 ⊢;obtain⟨gR17,hg⟩:∃g,g=yy.heap.size:=⟨_,rfl⟩;rw[←hg] at R170 ⊢;have R17:=R170;clear R170 hg;clear p0 p1;have c19:=(e_ _ _ 19 _ _ _ R12.out).trans (JR _ _ _ _)
 go_upto_region 9 with (first
  |(go_at_call 14;refine(Rg _ _ _ _ S9.out S12.out).mono ?_;rintro e yy ⟨rfl,hb⟩;replace HB:=O (HB.out.trans (hb.mono HB.out.size));replace R0:=O (aa R0.out hb);replace R5:=O (aa R5.out hb);replace R8:=O (aa R8.out hb);replace R10:=O (aa R10.out hb);replace R12:=O (aa R12.out hb);replace R13:=O (aa R13.out hb);replace R15:=O (aa R15.out hb);replace R17:=O (aa R17.out hb);replace S9:=O (S9.out.on hb);replace S12:=O (S12.out.on hb);replace S14:=O (S14.out.on hb);replace S17:=O (S17.out.on hb);have d19:=(e_ _ _ 19 _ _ _ R17.out).trans (JR _ _ _ _);clear hb))
 go_upto_region 10 with (first
  |(go_at_call 14;refine(Rg _ _ _ _ S14.out S17.out).mono ?_;rintro e yy ⟨rfl,hb⟩;replace HB:=O (HB.out.trans (hb.mono HB.out.size));replace R0:=O (aa R0.out hb);replace R5:=O (aa R5.out hb);replace R8:=O (aa R8.out hb);replace R10:=O (aa R10.out hb);replace R12:=O (aa R12.out hb);replace R13:=O (aa R13.out hb);replace R15:=O (aa R15.out hb);replace R17:=O (aa R17.out hb);replace S9:=O (S9.out.on hb);replace S12:=O (S12.out.on hb);replace S14:=O (S14.out.on hb);replace S17:=O (S17.out.on hb);have f20:=(e_ _ _ 20 _ _ _ R12.out).trans (A7 _ _ _ _);have f21:=(e_ _ _ 21 _ _ _ R12.out).trans (uW _ _ _ _);have h20:=(e_ _ _ 20 _ _ _ R17.out).trans (A7 _ _ _ _);have h21:=(e_ _ _ 21 _ _ _ R17.out).trans (uW _ _ _ _);have r10:=(e_ _ _ 0 _ _ _ R10.out).trans (Fq _);have r15:=(e_ _ _ 0 _ _ _ R15.out).trans (Fq _);clear hb))
 have HSS:Hid (∀y,Below yy.heap.size yy y→y.heap[w.heap.size]?=some (.cells (doA d0) 25 (0,0))∧y.heap[gR8]?=some (.cells (doA Nd) 25 (0,0))∧y.heap[gR10]?=some (.cells (ag Nr) 30 (0,0))∧y.heap[gR12]?=some (.cells (foA Nd (.slice fa fn fc) Nr Ne) 36 (0,0))∧y.heap[gR13]?=some (.cells (doA Md) 25 (0,0))∧y.heap[gR15]?=some (.cells (ag Mr) 30 (0,0))∧y.heap[gR17]?=some (.cells (foA Md (.slice ga gn gc) Mr Me) 36 (0,0))):=O (fun y h=>⟨aa R0.out h,aa R8.out h,aa R10.out h,aa R12.out h,aa R13.out h,aa R15.out h,aa R17.out h⟩);clear f20 f21 h20 h21 r10 r15 d19 c19;refine fe (fun y=>y.heap[w.heap.size]?=some (.cells (doA d0) 25 (0,0))∧y.heap[gR8]?=some (.cells (doA Nd) 25 (0,0))∧y.heap[gR10]?=some (.cells (ag Nr) 30 (0,0))∧y.heap[gR12]?=some (.cells (foA Nd (.slice fa fn fc) Nr Ne) 36 (0,0))∧y.heap[gR13]?=some (.cells (doA Md) 25 (0,0))∧y.heap[gR15]?=some (.cells (ag Mr) 30 (0,0))∧y.heap[gR17]?=some (.cells (foA Md (.slice ga gn gc) Mr Me) 36 (0,0))) [0,1,2,3,4,5,6,7,8,9,10,11,12,13,14,15,16,17,18,19,20,21,22,23,24,25,26,27,28,29,30,31,32,33,34,35,36,37,38,39,40,41,42,43,44,45,46,47,48,50] [49,51,52,53,54] ?h1 ?h2 ?h3 ?h4 ?h5
 case h1=>intro c a d v w h;cases d <;> exact h
 case h2=>kernel_rfl
 case h3=>kernel_rfl
 case h4=>exact HSS.out _ (O_ _ _).drew
 case h5 =>
  simp only[cT,List.filterMap_cons,List.filterMap_nil,List.getElem?_toArray,List.getElem?_cons_succ,List.getElem?_cons_zero];refine⟨_,aR (.bool true) rfl (fun y hy=>by kernel_rfl),?_⟩;simp only[Act.put,B_,C_,D_];refine⟨_,aR (.bool true) rfl (fun y hy=>by kernel_rfl),?_⟩;simp only[Act.put,B_,C_,D_];refine⟨_,aR (.bool true) rfl (fun y hy=>by kernel_rfl),?_⟩;simp only[Act.put,B_,C_,D_];refine⟨_,aR (.bool true) rfl (fun y hy=>by kernel_rfl),?_⟩;simp only[Act.put,B_,C_,D_];refine⟨_,aR (.bool true) rfl (fun y hy=>by kernel_rfl),?_⟩;simp only[Act.put,B_,C_,D_];refine⟨_,aR (.bool true) rfl (fun y hy=>by kernel_rfl),?_⟩;simp only[Act.put,B_,C_,D_];refine⟨_,aR (.bool true) rfl (fun y hy=>by kernel_rfl),?_⟩;simp only[Act.put,B_,C_,D_];refine⟨_,aR (.bool true) rfl (fun y hy=>by kernel_rfl),?_⟩;simp only[Act.put,B_,C_,D_];refine⟨_,my (doA Nd) gR8 25 (.tmp 8) rfl rfl rfl (fun y hy=>gl y _ _ _ hy.2.1),?_⟩;simp only[Act.put,B_,C_,D_];refine⟨_,aR (.pointer (some ⟨gR12,0,none⟩)) rfl (fun y hy=>by kernel_rfl),?_⟩;simp only[Act.put,B_,C_,D_];refine⟨_,Rr Nd gR12 0 (.tmp 88) rfl rfl rfl (fun y hy=>qL hy.2.2.2.1),?_⟩;simp only[Act.put,B_,C_,D_];refine⟨_,y_b .eql 25 25 (.tmp 87) (.tmp 89) (.agg (doA Nd)) (.agg (doA Nd)) (.bool true) rfl rfl rfl rfl (fun y=>Jy _ _ _ _ y) (fun y=>uQ Nd y),?_⟩;simp only[Act.put,B_,C_,D_];refine⟨_,aR (.bool true) rfl (fun y hy=>by kernel_rfl),?_⟩;simp only[Act.put,B_,C_,D_];refine⟨_,aR (.bool true) rfl (fun y hy=>by kernel_rfl),?_⟩;simp only[Act.put,B_,C_,D_];refine⟨_,aR (.pointer (some ⟨gR10,0,none⟩)) rfl (fun y hy=>by kernel_rfl),?_⟩;simp only[Act.put,B_,C_,D_];refine⟨_,gC (.string ⟨Nr.toArray⟩) ⟨gR10,0,none⟩ 9 (.tmp 93) rfl rfl rfl (fun y hy=>nX y _ _ ((e_ _ _ 0 _ _ _ hy.2.2.1).trans (Fq _))),?_⟩;simp only[Act.put,B_,C_,D_];refine⟨_,aR (.pointer (some ⟨gR12,20,none⟩)) rfl (fun y hy=>by kernel_rfl),?_⟩;simp only[Act.put,B_,C_,D_];refine⟨_,aR (.pointer (some ⟨gR12,20,none⟩)) rfl (fun y hy=>by kernel_rfl),?_⟩;simp only[Act.put,B_,C_,D_]
  refine⟨_,gC (.string ⟨Nr.toArray⟩) ⟨gR12,20,none⟩ 9 (.tmp 96) rfl rfl rfl (fun y hy=>nX y _ _ ((e_ _ _ 20 _ _ _ hy.2.2.2.1).trans (A7 _ _ _ _))),?_⟩;simp only[Act.put,B_,C_,D_];refine⟨_,y_b .eql 9 9 (.tmp 94) (.tmp 97) (.string ⟨Nr.toArray⟩) (.string ⟨Nr.toArray⟩) (.bool true) rfl rfl rfl rfl (fun y=>QE _ _ _ _ y) (fun y=>JD Nr y),?_⟩;simp only[Act.put,B_,C_,D_];refine⟨_,aR (.bool true) rfl (fun y hy=>by kernel_rfl),?_⟩;simp only[Act.put,B_,C_,D_];refine⟨_,aR (.bool true) rfl (fun y hy=>by kernel_rfl),?_⟩;simp only[Act.put,B_,C_,D_];refine⟨_,aR (.int .i64 Ne) rfl (fun y hy=>by kernel_rfl),?_⟩;simp only[Act.put,B_,C_,D_];refine⟨_,aR (.pointer (some ⟨gR12,21,none⟩)) rfl (fun y hy=>by kernel_rfl),?_⟩;simp only[Act.put,B_,C_,D_];refine⟨_,gC (.int .i64 Ne) ⟨gR12,21,none⟩ 31 (.tmp 102) rfl rfl rfl (fun y hy=>yh y _ _ ((e_ _ _ 21 _ _ _ hy.2.2.2.1).trans (uW _ _ _ _))),?_⟩;simp only[Act.put,B_,C_,D_];refine⟨_,y_b .eql 31 31 (.tmp 101) (.tmp 103) (.int .i64 Ne) (.int .i64 Ne) (.bool true) rfl rfl rfl rfl (fun y=>QD _ _ _ _ y) (fun y=>JC Ne y),?_⟩;simp only[Act.put,B_,C_,D_];refine⟨_,aR (.bool true) rfl (fun y hy=>by kernel_rfl),?_⟩;simp only[Act.put,B_,C_,D_];refine⟨_,aR (.bool true) rfl (fun y hy=>by kernel_rfl),?_⟩;simp only[Act.put,B_,C_,D_];refine⟨_,my (doA Md) gR13 25 (.tmp 13) rfl rfl rfl (fun y hy=>gl y _ _ _ hy.2.2.2.2.1),?_⟩;simp only[Act.put,B_,C_,D_];refine⟨_,aR (.pointer (some ⟨gR17,0,none⟩)) rfl (fun y hy=>by kernel_rfl),?_⟩;simp only[Act.put,B_,C_,D_];refine⟨_,Rr Md gR17 0 (.tmp 108) rfl rfl rfl (fun y hy=>qL hy.2.2.2.2.2.2),?_⟩;simp only[Act.put,B_,C_,D_];refine⟨_,y_b .eql 25 25 (.tmp 107) (.tmp 109) (.agg (doA Md)) (.agg (doA Md)) (.bool true) rfl rfl rfl rfl (fun y=>Jy _ _ _ _ y) (fun y=>uQ Md y),?_⟩;simp only[Act.put,B_,C_,D_];refine⟨_,aR (.bool true) rfl (fun y hy=>by kernel_rfl),?_⟩;simp only[Act.put,B_,C_,D_];refine⟨_,aR (.bool true) rfl (fun y hy=>by kernel_rfl),?_⟩;simp only[Act.put,B_,C_,D_];refine⟨_,aR (.pointer (some ⟨gR15,0,none⟩)) rfl (fun y hy=>by kernel_rfl),?_⟩;simp only[Act.put,B_,C_,D_]
  refine⟨_,gC (.string ⟨Mr.toArray⟩) ⟨gR15,0,none⟩ 9 (.tmp 113) rfl rfl rfl (fun y hy=>nX y _ _ ((e_ _ _ 0 _ _ _ hy.2.2.2.2.2.1).trans (Fq _))),?_⟩;simp only[Act.put,B_,C_,D_];refine⟨_,aR (.pointer (some ⟨gR17,20,none⟩)) rfl (fun y hy=>by kernel_rfl),?_⟩;simp only[Act.put,B_,C_,D_];refine⟨_,aR (.pointer (some ⟨gR17,20,none⟩)) rfl (fun y hy=>by kernel_rfl),?_⟩;simp only[Act.put,B_,C_,D_];refine⟨_,gC (.string ⟨Mr.toArray⟩) ⟨gR17,20,none⟩ 9 (.tmp 116) rfl rfl rfl (fun y hy=>nX y _ _ ((e_ _ _ 20 _ _ _ hy.2.2.2.2.2.2).trans (A7 _ _ _ _))),?_⟩;simp only[Act.put,B_,C_,D_];refine⟨_,y_b .eql 9 9 (.tmp 114) (.tmp 117) (.string ⟨Mr.toArray⟩) (.string ⟨Mr.toArray⟩) (.bool true) rfl rfl rfl rfl (fun y=>QE _ _ _ _ y) (fun y=>JD Mr y),?_⟩;simp only[Act.put,B_,C_,D_];refine⟨_,aR (.bool true) rfl (fun y hy=>by kernel_rfl),?_⟩;simp only[Act.put,B_,C_,D_];refine⟨_,aR (.bool true) rfl (fun y hy=>by kernel_rfl),?_⟩;simp only[Act.put,B_,C_,D_];refine⟨_,aR (.int .i64 Me) rfl (fun y hy=>by kernel_rfl),?_⟩;simp only[Act.put,B_,C_,D_];refine⟨_,aR (.pointer (some ⟨gR17,21,none⟩)) rfl (fun y hy=>by kernel_rfl),?_⟩;simp only[Act.put,B_,C_,D_];refine⟨_,gC (.int .i64 Me) ⟨gR17,21,none⟩ 31 (.tmp 122) rfl rfl rfl (fun y hy=>yh y _ _ ((e_ _ _ 21 _ _ _ hy.2.2.2.2.2.2).trans (uW _ _ _ _))),?_⟩;simp only[Act.put,B_,C_,D_];refine⟨_,y_b .eql 31 31 (.tmp 121) (.tmp 123) (.int .i64 Me) (.int .i64 Me) (.bool true) rfl rfl rfl rfl (fun y=>QD _ _ _ _ y) (fun y=>JC Me y),?_⟩;simp only[Act.put,B_,C_,D_];refine⟨_,aR (.bool true) rfl (fun y hy=>by kernel_rfl),?_⟩;simp only[Act.put,B_,C_,D_];refine⟨_,aR (.bool true) rfl (fun y hy=>by kernel_rfl),?_⟩;simp only[Act.put,B_,C_,D_];refine⟨_,my (doA d0) w.heap.size 25 (.tmp 3) rfl rfl rfl (fun y hy=>gl y _ _ _ hy.1),?_⟩;simp only[Act.put,B_,C_,D_];refine⟨_,my (doA d0) w.heap.size 25 (.tmp 3) rfl rfl rfl (fun y hy=>gl y _ _ _ hy.1),?_⟩;simp only[Act.put,B_,C_,D_];have HBD:Hid (Below w.heap.size w yy.drew):=O HB.out.drew;have HSD:Hid (∀y,Below yy.drew.heap.size yy.drew y→y.heap[w.heap.size]?=some (.cells (doA d0) 25 (0,0))∧y.heap[gR8]?=some (.cells (doA Nd) 25 (0,0))∧y.heap[gR10]?=some (.cells (ag Nr) 30 (0,0))∧y.heap[gR12]?=some (.cells (foA Nd (.slice fa fn fc) Nr Ne) 36 (0,0))∧y.heap[gR13]?=some (.cells (doA Md) 25 (0,0))∧y.heap[gR15]?=some (.cells (ag Mr) 30 (0,0))∧y.heap[gR17]?=some (.cells (foA Md (.slice ga gn gc) Mr Me) 36 (0,0))):=O (fun y h=>HSS.out y ((O_ _ _).drew.trans h))
  generalize yy.drew=yd at HBD HSD ⊢;intro Q1 HQ1
  go_wp2_with (go_at_call 15;refine(HVC.out _).mono ?_;rintro e ya ⟨rfl,hba⟩;have HBA:=O hba;clear hba)
  refine HQ1.out _ _ (HSD.out _ HBA.out) ?_;clear HQ1
  try simp only[Act.put,B_,C_,D_]
  intro Q2 HQ2
  go_wp2_with (go_at_call 16;refine(HVR.out _).mono ?_;rintro e yb ⟨rfl,hbb⟩;have HBB:=O (HBA.out.trans (hbb.mono HBA.out.size));clear hbb)
  refine HQ2.out _ _ (HSD.out _ HBB.out) ?_;clear HQ2
  try simp only[Act.put,B_,C_,D_]
  intro Q3 HQ3;go_wp2;refine HQ3.out _ _ (HSD.out _ HBB.out) ?_;clear HQ3
  try simp only[Act.put,B_,C_,D_]
  intro Q4 HQ4;go_wp2;refine HQ4.out _ _ (HSD.out _ HBB.out) ?_;clear HQ4
  try simp only[Act.put,B_,C_,D_]
  intro Q5 HQ5;go_wp2;refine HQ5.out _ _ (HSD.out _ HBB.out) ?_;clear HQ5
  try simp only[Act.put,B_,C_,D_]
  refine el ?_;go_wp2;go_ret;exact⟨rfl,HBD.out.trans (HBB.out.mono HBD.out.size)⟩
theorem hU (os:Os) (started:os.Started) (H:Type) (enc:TypeId × Value→H) :
  ReturnsInHanded {} Tryz.checked os 3 .any (fun w args=>(Rows.domainFoundingMatchesSpecSpec.pre enc prog f3 [] false w args∧laidMetH prog lU w)∧sizedMet enc prog f3 (OpenSpec.ofChange Rows.domainFoundingMatchesSpecSpec) false w args) (Rows.domainFoundingMatchesSpecSpec.post enc prog f3 false true false false):=by
 refine returnsInHanded_of_change_and (C:=Tryz.checked) (X:=fun w _=>laidMetH prog lU w) (fun _ _ _ hh h=>h.of_heap hh) Tryz.own started (by kernel_rfl) func3
  (ChangeSpec.witness_shaped (enc:=enc) (C:=Tryz.checked) (os:=os) (X:=fun w _=>laidMetH prog lU w) false (World.doorLaid prog 222 os) #[.agg #[.int .u8 0,.int .u8 0,.int .u8 0,.int .u8 0,.int .u8 0,.int .u8 0,.int .u8 0,.int .u8 0,.int .u8 0,.int .u8 0,.int .u8 0,.int .u8 0,.int .u8 0,.int .u8 0,.int .u8 0,.int .u8 0,.string ByteArray.empty,.int .i64 0,.int .i64 0],.string ByteArray.empty,.agg #[.int .i64 0,.int .i64 0]] 8 rfl (World.shaped_of_RefB (by kernel_rfl) (by kernel_rfl)) (by kernel_rfl) (by kernel_rfl) (by kernel_rfl) (xe os _)) ?_
 intro W ai args ds gs before hval0 hW _ hwt hL _;have hval:∀(j:Nat) t v,f3.params[j]?=some t→args[j]?=some v→Value.okWide prog W .any ai t v:=hval0;have hW':=hW;obtain⟨p,q,hA0,hV,rfl,hfz,hnd⟩:=hW;have hA:DataW.TrodAll enc prog W 0 (fun _=>true) true f3.params.toList args.toList ds p:=hA0;rw[params3] at hA hval;obtain⟨v0,vs0,d0,ds0,p0,q0,hargs,rfl,rfl,h0,r0⟩:=trodAll_cons hA;obtain⟨v1,vs1,d1,ds1,p1,q1,rfl,rfl,rfl,h1,r1⟩:=trodAll_cons r0;obtain⟨v2,vs2,d2,ds2,p2,q2,rfl,rfl,rfl,h2,r2⟩:=trodAll_cons r1;obtain⟨rfl,rfl,rfl⟩:=trodAll_nil r2
 obtain rfl:args = #[v0,v1,v2]:=by cases args;simp_all
 obtain⟨rfl,rfl⟩:=trodVars_none hV;have k0:=h0
 have lt0:∀x∈p0,x.block<W.heap.size:=by obtain⟨m,hm⟩:=k0;exact DataW.trod_lt m _ _ _ hm
 have k2:=h2
 have lt2:∀x∈p2,x.block<W.heap.size:=by obtain⟨m,hm⟩:=k2;exact DataW.trod_lt m _ _ _ hm
 obtain⟨d0,rfl,x0⟩:=Fc (hval 0 25 v0 rfl rfl) h0;obtain⟨a1,rfl,rfl,rfl,w1⟩:=open_string underlying9 (hval 1 9 v1 rfl rfl) h1;obtain⟨n2,m2,rfl,x2,y2⟩:=O0 (hval 2 26 v2 rfl rfl) h2;have htab:=Cj hL;clear hA0 hval0;refine(iI d0 a1 n2 m2 W x0 w1 x2 y2 htab).mono fun e W' ⟨he,bel⟩ => ?_;subst he;exact⟨_,rfl,_,_,_,[],_,[],hW',trodAll_mk1 (shut_bool underlying4 _),(trodAll_cons_mk (Below.trod Tryz.laidOut (by kernel_rfl) (of_decide_eq_true (by kernel_rfl)) k0 bel lt0) (trodAll_cons_mk (shut_string underlying9 w1) (trodAll_cons_mk (Below.trod Tryz.laidOut (by kernel_rfl) (of_decide_eq_true (by kernel_rfl)) k2 bel lt2) trodAll_mk0))),rfl,bel.frame _,fun h=>by cases h⟩
theorem iX:Rows.DomainFoundingMatchesSpecSaid :=
 OpenClaim.holds_of_wide 3 f3 rfl rfl rfl rfl rfl rfl rfl ⟨rfl,rfl,rfl,rfl,rfl⟩ rfl rfl rfl rfl rfl (by kernel_rfl) func3 (by kernel_rfl)
  (of_decide_eq_true (by kernel_rfl)) (by unfold Func.isWrapper;first |(rw[G_ (by decide +kernel)];kernel_rfl)|(rw[H_ (by decide +kernel)];exact⟨rfl,rfl⟩))
  (fun os started H enc _=>hU os started H enc)
theorem DomainFoundingMatchesSpec_proved:Rows.DomainFoundingMatchesSpecCardSaid :=
 Claim7.holds_tied_plain_at .later [] [.data,.data] true Rows.domainFoundingMatchesSpecCard.stood.harness false
  iX (fun _ h=>by cases h) (by kernel_rfl) (fun _ h=>by cases h) domainFoundingMatchesSpec_row_tie rfl ⟨rfl,rfl⟩ (by kernel_rfl) rfl
  (fun f fn hf hfn=>by
   obtain rfl:f=3:=Option.some.inj ((show prog.funcNamed "custody/custodylaw38.DomainFoundingMatchesSpec" = some 3 by kernel_rfl).symm.trans hf) |>.symm
   obtain rfl:fn=f3:=(Option.some.inj (func3.symm.trans hfn)).symm
   exact⟨by kernel_rfl,fun j t ht=>by
    rw[params3] at ht
    rcases j with _|_|_|j
    ·simp at ht;subst ht;kernel_rfl
    ·simp at ht;subst ht;kernel_rfl
    ·simp at ht;subst ht;kernel_rfl
    ·simp at ht⟩)
  (by kernel_rfl)
end
end Go.Proofs.YtmfiaadjdbemnaaGreatDoor
