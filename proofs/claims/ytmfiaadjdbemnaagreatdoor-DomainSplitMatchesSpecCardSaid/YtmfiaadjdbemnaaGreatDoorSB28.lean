/- Contracts and lemmas. No condition. -/
import Derived.Test.YtmfiaadjdbemnaaGreatDoorSB27
set_option maxRecDepth 100000
set_option maxHeartbeats 8000000
set_option linter.unusedSimpArgs false
set_option linter.unusedVariables false
namespace Go.Proofs.YtmfiaadjdbemnaaGreatDoor
open Tryz
section
open Go.RowKit Go.Shelf
theorem ff (y:World) (p:Addr) (x:Int) (h:y.cell? p=some (.int .i64 x)):(loadVar 3 p).run prog y = .ok (.int .i64 x) y:=by
 simp[go_sem,h]
theorem nW (y:World) (p:Addr) (a:Option Addr) (n c:Nat) (h:y.cell? p=some (.slice a n c)):(loadVar 43 p).run prog y = .ok (.slice a n c) y:=by
 simp[go_sem,h]
theorem Hl (y:World) (p:Addr) (a:Option Addr) (n c:Nat) (h:y.cell? p=some (.slice a n c)):(loadVar 59 p).run prog y = .ok (.slice a n c) y:=by
 simp[go_sem,h]
theorem DB (y:World) (g off:Nat) (d:List UInt8) (h:y.rangeAt g off (am d).toList):(loadVar 23 ⟨g,off,none⟩).run prog y = .ok (.agg (am d)) y :=
 run_loadVar_mid y g off _ (am d).toList _ h underlying23 rfl cC
structure BS (w:World) (d:DO) (nx:Int) (v:Value) (b:BK) (u:Value) (y:World):Prop where
 r0:y.heap[w.heap.size]?=some (.cells (doA d) 25 (0,0))
 r1:y.heap[w.heap.size+1]?=some (.cells #[.int .i64 nx,v] 45 (0,0))
 r2:y.heap[w.heap.size+2]?=some (.cells (bc b u) 47 (0,0))
 r3:y.heap[w.heap.size+3]?=some (.cells (doA zD) 25 (0,0))
 b:Below w.heap.size w y
theorem BS.on {w y y':World} {d:DO} {nx:Int} {v u:Value} {b:BK} (h:BS w d nx v b u y) (hb:Below y.heap.size y y'):BS w d nx v b u y' :=
 ⟨aa h.r0 hb,aa h.r1 hb,aa h.r2 hb,aa h.r3 hb,h.b.trans (hb.mono h.b.size)⟩
theorem BS.set0 {w y y':World} {d d':DO} {nx:Int} {v u:Value} {b:BK} (h:BS w d nx v b u y) (hg:y'.heap[w.heap.size]?=some (.cells (doA d') 25 (0,0))) (ho:∀k,k≠w.heap.size→y'.heap[k]? = y.heap[k]?) (hb:Below w.heap.size y y'):BS w d' nx v b u y' :=
 ⟨hg,(ho _ (by omega)).trans h.r1,(ho _ (by omega)).trans h.r2,(ho _ (by omega)).trans h.r3,h.b.trans hb⟩
theorem BS.set2 {w y:World} {d:DO} {nx:Int} {v u u':Value} {b b':BK} (h:BS w d nx v b u y):BS w d nx v b' u' (y.setRow (w.heap.size+2) (bc b' u')) :=
 ⟨(aj _ _ _ _ (by omega)).trans h.r0,(aj _ _ _ _ (by omega)).trans h.r1,setRow_heap _ _ _ _ _ _ h.r2,(aj _ _ _ _ (by omega)).trans h.r3,h.b.trans (aK (by omega))⟩
theorem RN (w:World) (d:DO) (nx:Int) (v:Value) (b:BK) (u:Value):BS w d nx v b u ((((w.alloc (.cells (doA d) 25)).alloc (.cells #[.int .i64 nx,v] 45)).alloc (.cells (bc b u) 47)).alloc (.cells (doA zD) 25)) :=
 ⟨oZ _ _ _ _ _,o9 _ _ _ _ _,pf _ _ _ _ _,pg _ _ _ _ _,ph _ _ _ _ _⟩
theorem nG {d:DO} {b:BK} (hd:d.mach) (hb:b.mach) (hv:bD d=true) (hne:d.bk≠2147483647):(cG d b).mach:=by
 have h1:=jG hv;refine⟨hd.id,hb.pol,?_,hb.mo⟩;intro x hx
 simp[cG] at hx
 rcases hx with rfl|rfl|rfl|rfl
 ·exact hd.ep
 ·unfold okI;omega
 ·exact hb.nums _ (by simp)
 ·exact hb.nums _ (by simp)
theorem wV (d:DO) (b:BK) (l:List K):(bD d=false∧dbE d b l=1)∨(bD d=true∧d.bk=2147483647∧dbE d b l=2)∨(bD d=true∧d.bk≠2147483647∧dbE d b l=jm d.key (cG d b) l):=by
 unfold dbE
 cases h:bD d
 ·simp
 ·by_cases h2:d.bk=2147483647
  ·simp[h2]
  ·simp[h2]
theorem vJ (y:World) (p:Addr) (x:Int) (x0:Value) (h:y.cell? p=some x0) (f:y.frozen? p=false):(storeVar 3 p (.int .i64 x)).run prog y = .ok () (y.setCell p (.int .i64 x)):=by
 simp[go_sem,h,f]
theorem yi (y:World) (p:Addr) (a:Option Addr) (n c:Nat) (x0:Value) (h:y.cell? p=some x0) (f:y.frozen? p=false):(storeVar 43 p (.slice a n c)).run prog y = .ok () (y.setCell p (.slice a n c)):=by
 simp[go_sem,h,f]
theorem l8 (y:World) (g i:Nat) (b b':BK) (u:Value) (x:Int) (T:TypeId) (hg:y.heap[g]?=some (.cells (bc b u) T (0,0))) (hi:i<38) (he:(bc b u).setIfInBounds i (.int .i64 x)=bc b' u):(storeVar 3 ⟨g,i,none⟩ (.int .i64 x)).run prog y = .ok () (y.setRow g (bc b' u)):=by
 rw[vJ y ⟨g,i,none⟩ x ((bc b u)[i]'(by rw[aC];exact hi)) (by rw[e_ _ _ _ _ _ _ hg];simp[aC,hi]) (frozen_of_row _ _ i _ _ hg),au _ _ _ _ _ _ _ hg,he]
theorem sV (y:World) (g:Nat) (b:BK) (u:Value) (a:Option Addr) (n c:Nat) (T:TypeId) (hg:y.heap[g]?=some (.cells (bc b u) T (0,0))):(storeVar 43 ⟨g,37,none⟩ (.slice a n c)).run prog y = .ok () (y.setRow g (bc b (.slice a n c))):=by
 rw[yi y ⟨g,37,none⟩ a n c ((bc b u)[37]'(by rw[aC];decide)) (by rw[e_ _ _ _ _ _ _ hg];simp[aC]) (frozen_of_row _ _ 37 _ _ hg),au _ _ _ _ _ _ _ hg,us]
attribute [local irreducible] Calls doA lg jm
theorem pV (d:DO) (b:BK) (nx:Int) (v:Value) (ua:Option Addr) (un uc:Nat) (l:List K) (w:World) (hk:KAt w) (hv:RdK w v l) (hd:d.mach) (hb:b.mach) (hn:cQ l) :
  Calls prog 19 #[.agg (doA d),.agg #[.int .i64 nx,v],.agg (bc b (.slice ua un uc))] w fun e w'=>e = .returned (.tuple #[.agg (doA (dbD d b l)),.string ⟨(dbX d b l).toArray⟩,.int .i64 (dbE d b l)])∧Below w.heap.size w w':=by
 have hzd:=iy;obtain⟨W0,hW0⟩:∃W0,W0=(((w.alloc (.cells (doA d) 25)).alloc (.cells #[.int .i64 nx,v] 45)).alloc (.cells (bc b (.slice ua un uc)) 47)).alloc (.cells (doA zD) 25):=⟨_,rfl⟩;have HW:=O hW0;have HF0:Hid (BS w d nx v b (.slice ua un uc) W0):=O (by rw[hW0];exact RN w d nx v b _);have HV:=O (fun (u:World)=>ly d u);clear hW0
 rcases wV d b l with⟨hva,hr⟩|⟨hva,he,hr⟩|⟨hva,he,hr⟩
 ·have hD:dbD d b l=zD:=by unfold dbD;rw[hr];rfl
  have hX:dbX d b l=[]:=by unfold dbX;rw[hr];rfl
  rw[hr,hD,hX];rw[hva] at HV;clear hk hd hb hn hva hr hD hX;obtain⟨va,vc,rfl,_,_,_⟩:=hv
  go_enter func19,ntmps19
  go_upto_region 1 with fail
  rw[←HW.out]
  try dsimp only[Act.put]
  go_wp2_with (first
   |(refine cz d rfl (.tmp 3) rfl w.heap.size rfl _ HF0.out.r0 ?_)
   |(go_at_call 15;refine(HV.out _).mono ?_;rintro e x1 ⟨rfl,hx1⟩;have HF3:=O (HF0.out.on hx1);clear hx1)
   |(refine lF rfl rfl ?_)
   |(refine aM (T:=25) (doA zD) (b8 _) rfl (.tmp 6) (.tmp 15) rfl (w.heap.size+3) (doA zD) rfl rfl (cr _) (dE _ _) HF3.out.r3 ?_;intro w7 hge7 hoe7 hbe7;have HE7:Hid (w7.heap[w.heap.size+3]?=some (.cells (doA zD) 25 (0,0))∧Below w.heap.size w w7):=(O ⟨hge7,HF3.out.b.trans (hbe7 _ (by omega))⟩);clear hge7 hoe7 hbe7))
  refine g_ (cy rfl _ _ (w.heap.size+3) _ rfl (gl _ _ _ _ HE7.out.1)) rfl ?_;exact⟨rfl,HE7.out.2⟩
 ·have hD:dbD d b l=zD:=by unfold dbD;rw[hr];rfl
  have hX:dbX d b l=[]:=by unfold dbX;rw[hr];rfl
  rw[hr,hD,hX];rw[hva] at HV
  have e1:(d.bk == 2147483647)=true:=by rw[beq_iff_eq];exact he
  clear hk hd hb hn hva hr hD hX he;obtain⟨va,vc,rfl,_,_,_⟩:=hv
  go_enter func19,ntmps19
  go_upto_region 1 with fail
  rw[←HW.out]
  try dsimp only[Act.put]
  go_wp2_with (first
   |(refine cz d rfl (.tmp 3) rfl w.heap.size rfl _ HF0.out.r0 ?_)
   |(go_at_call 15;refine(HV.out _).mono ?_;rintro e x1 ⟨rfl,hx1⟩;have HF3:=O (HF0.out.on hx1);have c18:x1.cell? ⟨w.heap.size,18,none⟩=some (.int .i64 d.bk):=(by rw[e_ _ _ _ _ _ _ HF3.out.r0];exact jL d);clear hx1)
   |(refine lF rfl rfl ?_)
   |(refine aM (T:=25) (doA zD) (b8 _) rfl (.tmp 6) (.tmp 20) rfl (w.heap.size+3) (doA zD) rfl rfl (cr _) (dE _ _) HF3.out.r3 ?_;intro w7 hge7 hoe7 hbe7;have HE7:Hid (w7.heap[w.heap.size+3]?=some (.cells (doA zD) 25 (0,0))∧Below w.heap.size w w7):=(O ⟨hge7,HF3.out.b.trans (hbe7 _ (by omega))⟩);clear hge7 hoe7 hbe7))
  refine g_ (cy rfl _ _ (w.heap.size+3) _ rfl (gl _ _ _ _ HE7.out.1)) rfl ?_;exact⟨rfl,HE7.out.2⟩
 ·rw[hva] at HV
  have e1:(d.bk == 2147483647)=false:=by rw[U_];exact he
  have hwr:IntKind.i64.wrap (d.bk+1)=d.bk+1:=by have := jG hva;rw[IntKind.wrap_i64];omega
  have HMK:Hid (∀(y:World),Below w.heap.size w y→Calls prog 41 #[.string ⟨d.key.toArray⟩,.agg (bc (cG d b) v)] y fun e w'=>e = .returned (.tuple #[.string ⟨(lg d.key (cG d b) l).toArray⟩,.int .i64 (jm d.key (cG d b) l)])∧Below y.heap.size y w'):=O (fun y hy=>SM d.key (cG d b) v l y (hk.on hy) (hv.on hy) (nG hd hb hva he) hn);have HB3:Hid ({ b with dom:=d.id,ep:=d.ep,num:=d.bk+1 }=cG d b):=O rfl;have HDB:Hid (dbD d b l=if jm d.key (cG d b) l=0 then { d with bk:=d.bk+1 } else zD):=O (by unfold dbD;rw[hr])
  have HDX:Hid (dbX d b l=lg d.key (cG d b) l):=O (by
   unfold dbX;rw[hr]
   rcases kx d.key (cG d b) l with⟨_,h2,h3⟩|⟨_,h2,h3⟩
   ·rw[G_ h2,h3]
   ·rw[H_ (by rw[h2];decide),h3])
  have HDE:=O hr;have HDN:Hid (dbE d b l≠0→dbX d b l=[]):=O (fun h=>by unfold dbX;rw[H_ h]);obtain⟨va,vc,rfl,_,_,_⟩:=hv;clear hk hd hb hn hva hr he
  go_enter func19,ntmps19
  go_upto_region 1 with fail
  rw[←HW.out]
  try dsimp only[Act.put]
  go_upto_region 5 with (first
   |(refine cz d rfl (.tmp 3) rfl w.heap.size rfl _ HF0.out.r0 ?_)
   |(go_at_call 15;refine(HV.out _).mono ?_;rintro e x1 ⟨rfl,hx1⟩;have HF3:=O (HF0.out.on hx1);have c18:x1.cell? ⟨w.heap.size,18,none⟩=some (.int .i64 d.bk):=(by rw[e_ _ _ _ _ _ _ HF3.out.r0];exact jL d);clear hx1 HF0))
  have f18:=frozen_of_row _ _ 18 _ _ HF3.out.r0;have HST:Hid (x1.setCell ⟨w.heap.size,18,none⟩ (.int .i64 (d.bk+1))=x1.setRow w.heap.size (doA { d with bk:=d.bk+1 })):=O (by rw[au _ _ _ _ _ _ _ HF3.out.r0,xd]);have HF4:Hid (BS w { d with bk:=d.bk+1 } nx (.slice va l.length vc) b (.slice ua un uc) (x1.setRow w.heap.size (doA { d with bk:=d.bk+1 }))):=O (HF3.out.set0 (setRow_heap _ _ _ _ _ _ HF3.out.r0) (fun k hk=>aj _ _ _ _ hk) (aK (A_ _)))
  go_upto_region 6 with fail
  simp only[HST.out];generalize x1.setRow w.heap.size (doA { d with bk:=d.bk+1 })=W4 at HF4 ⊢;clear HF3 HST c18 f18;refine sR (fun y=>y.heap[w.heap.size]?=some (.cells (doA { d with bk:=d.bk+1 }) 25 (0,0))∧y.heap[w.heap.size+1]?=some (.cells #[.int .i64 nx,.slice va l.length vc] 45 (0,0))) 8 ?h1 ?h2 ?h3 ?h4 ?h5
  case h1=>intro c a d v w h;cases d <;> exact h
  case h2=>kernel_rfl
  case h3=>kernel_rfl
  case h4=>exact⟨HF4.out.r0,HF4.out.r1⟩
  case h5 =>
   simp only[F_,c_,J_,L_];refine⟨_,aR (.pointer (some ⟨w.heap.size,0,none⟩)) rfl (fun y hy=>by kernel_rfl),?_⟩;simp only[Act.put,B_,C_,D_];refine⟨_,gC (.agg (am d.id)) ⟨w.heap.size,0,none⟩ 23 (.tmp 25) rfl rfl rfl (fun y hy=>DB y _ _ _ (fun i x hx=>by rw[e_ _ _ _ _ _ _ hy.1,a_];exact uL _ i x hx)),?_⟩;simp only[Act.put,B_,C_,D_];refine⟨_,aR (.pointer (some ⟨w.heap.size,17,none⟩)) rfl (fun y hy=>by kernel_rfl),?_⟩;simp only[Act.put,B_,C_,D_];refine⟨_,gC (.int .i64 d.ep) ⟨w.heap.size,17,none⟩ 3 (.tmp 27) rfl rfl rfl (fun y hy=>ff y _ _ (by rw[e_ _ _ _ _ _ _ hy.1];exact gI _)),?_⟩;simp only[Act.put,B_,C_,D_];refine⟨_,aR (.pointer (some ⟨w.heap.size,18,none⟩)) rfl (fun y hy=>by kernel_rfl),?_⟩;simp only[Act.put,B_,C_,D_];refine⟨_,gC (.int .i64 (d.bk+1)) ⟨w.heap.size,18,none⟩ 3 (.tmp 29) rfl rfl rfl (fun y hy=>ff y _ _ (by rw[e_ _ _ _ _ _ _ hy.1];exact jL _)),?_⟩;simp only[Act.put,B_,C_,D_];refine⟨_,aR (.pointer (some ⟨w.heap.size+1,1,none⟩)) rfl (fun y hy=>by kernel_rfl),?_⟩;simp only[Act.put,B_,C_,D_];refine⟨_,gC (.slice va l.length vc) ⟨w.heap.size+1,1,none⟩ 43 (.tmp 31) rfl rfl rfl (fun y hy=>nW y _ _ _ _ (by rw[e_ _ _ _ _ _ _ hy.2];rfl)),?_⟩;simp only[Act.put,B_,C_,D_];have HS0:Hid (BS w { d with bk:=d.bk+1 } nx (.slice va l.length vc) b (.slice ua un uc) W4.drew):=O ⟨HF4.out.r0,HF4.out.r1,HF4.out.r2,HF4.out.r3,HF4.out.b.drew⟩;generalize W4.drew=w0 at HS0;clear HF4;intro Q1 HQ1;go_wp2;refine HQ1.out _ _ ⟨HS0.out.r0,HS0.out.r1⟩ ?_;clear HQ1
   try simp only[Act.put,B_,C_,D_]
   intro Q2 HQ2;refine DF b (.slice ua un uc) d.id (w.heap.size+2) HS0.out.r2 rfl (.tmp 33) (.tmp 26) rfl rfl rfl ?_;have HS1:Hid (BS w { d with bk:=d.bk+1 } nx (.slice va l.length vc) { b with dom:=d.id } (.slice ua un uc) (w0.setRow (w.heap.size+2) (bc { b with dom:=d.id } (.slice ua un uc)))):=O HS0.out.set2;generalize w0.setRow (w.heap.size+2) (bc { b with dom:=d.id } (.slice ua un uc))=w1 at HS1 ⊢;refine HQ2.out _ _ ⟨HS1.out.r0,HS1.out.r1⟩ ?_;clear HQ2 HS0;simp only[Act.put,B_,C_,D_];intro Q3 HQ3;go_wp2;refine HQ3.out _ _ ⟨HS1.out.r0,HS1.out.r1⟩ ?_;clear HQ3
   try simp only[Act.put,B_,C_,D_]
   intro Q4 HQ4;refine bW rfl 3 (.tmp 34) (.tmp 28) rfl ⟨w.heap.size+2,16,none⟩ (.int .i64 d.ep) rfl rfl (l8 _ _ 16 { b with dom:=d.id } { b with dom:=d.id,ep:=d.ep } (.slice ua un uc) d.ep _ HS1.out.r2 (by decide) (uq _ _ _)) ?_;have HS2:Hid (BS w { d with bk:=d.bk+1 } nx (.slice va l.length vc) { b with dom:=d.id,ep:=d.ep } (.slice ua un uc) (w1.setRow (w.heap.size+2) (bc { b with dom:=d.id,ep:=d.ep } (.slice ua un uc)))):=O HS1.out.set2;generalize w1.setRow (w.heap.size+2) (bc { b with dom:=d.id,ep:=d.ep } (.slice ua un uc))=w2 at HS2 ⊢;refine HQ4.out _ _ ⟨HS2.out.r0,HS2.out.r1⟩ ?_;clear HQ4 HS1;simp only[Act.put,B_,C_,D_];intro Q5 HQ5;go_wp2;refine HQ5.out _ _ ⟨HS2.out.r0,HS2.out.r1⟩ ?_;clear HQ5
   try simp only[Act.put,B_,C_,D_]
   intro Q6 HQ6;refine bW rfl 3 (.tmp 35) (.tmp 30) rfl ⟨w.heap.size+2,17,none⟩ (.int .i64 (d.bk+1)) rfl rfl (l8 _ _ 17 { b with dom:=d.id,ep:=d.ep } { b with dom:=d.id,ep:=d.ep,num:=d.bk+1 } (.slice ua un uc) (d.bk+1) _ HS2.out.r2 (by decide) (ur _ _ _)) ?_;have HS3:Hid (BS w { d with bk:=d.bk+1 } nx (.slice va l.length vc) { b with dom:=d.id,ep:=d.ep,num:=d.bk+1 } (.slice ua un uc) (w2.setRow (w.heap.size+2) (bc { b with dom:=d.id,ep:=d.ep,num:=d.bk+1 } (.slice ua un uc)))):=O HS2.out.set2;generalize w2.setRow (w.heap.size+2) (bc { b with dom:=d.id,ep:=d.ep,num:=d.bk+1 } (.slice ua un uc))=w3 at HS3 ⊢;refine HQ6.out _ _ ⟨HS3.out.r0,HS3.out.r1⟩ ?_;clear HQ6 HS2;simp only[Act.put,B_,C_,D_];intro Q7 HQ7;go_wp2;refine HQ7.out _ _ ⟨HS3.out.r0,HS3.out.r1⟩ ?_;clear HQ7
   try simp only[Act.put,B_,C_,D_]
   intro Q8 HQ8;refine bW rfl 43 (.tmp 36) (.tmp 32) rfl ⟨w.heap.size+2,37,none⟩ (.slice va l.length vc) rfl rfl (sV _ _ _ _ va l.length vc _ HS3.out.r2) ?_;have HS4:Hid (BS w { d with bk:=d.bk+1 } nx (.slice va l.length vc) (cG d b) (.slice va l.length vc) (w3.setRow (w.heap.size+2) (bc { b with dom:=d.id,ep:=d.ep,num:=d.bk+1 } (.slice va l.length vc)))):=O (by rw[HB3.out];exact HS3.out.set2);generalize w3.setRow (w.heap.size+2) (bc { b with dom:=d.id,ep:=d.ep,num:=d.bk+1 } (.slice va l.length vc))=w4 at HS4 ⊢;refine HQ8.out _ _ ⟨HS4.out.r0,HS4.out.r1⟩ ?_;clear HQ8 HS3;simp only[Act.put,B_,C_,D_];refine el ?_;generalize cG d b=b4 at HS4 HMK HDB HDX HDE ⊢;generalize lg d.key b4 l=mx at HMK HDX ⊢;generalize jm d.key b4 l=me at HMK HDB HDE ⊢
   have c16:w4.cell? ⟨w.heap.size,16,none⟩=some (.string ⟨d.key.toArray⟩):=by rw[e_ _ _ _ _ _ _ HS4.out.r0];exact cK _
   by_cases h0:me=0
   ·have HD:Hid (dbD d b l={ d with bk:=d.bk+1 }):=O (by rw[HDB.out,G_ h0])
    subst h0
    go_wp2_with (first
     |(refine cH b4 (.slice va l.length vc) rfl (.tmp 5) rfl (w.heap.size+2) rfl _ HS4.out.r2 ?_)
     |(go_at_call 41;refine(HMK.out _ HS4.out.b).mono ?_;rintro e x5 ⟨rfl,hx5⟩;have HS5:=O (HS4.out.on hx5);clear hx5 c16)
     |(refine cz { d with bk:=d.bk+1 } rfl (.tmp 3) rfl w.heap.size rfl _ HS5.out.r0 ?_)
     |(refine aM (T:=25) (doA { d with bk:=d.bk+1 }) (b8 _) rfl (.tmp 6) (.tmp 48) rfl (w.heap.size+3) (doA zD) rfl rfl (cr _) (dE _ _) HS5.out.r3 ?_;intro w7 hge7 hoe7 hbe7;have HE7:Hid (w7.heap[w.heap.size+3]?=some (.cells (doA { d with bk:=d.bk+1 }) 25 (0,0))∧Below w.heap.size w w7):=(O ⟨hge7,HS5.out.b.trans (hbe7 _ (by omega))⟩);clear hge7 hoe7 hbe7))
    refine g_ (cy rfl _ _ (w.heap.size+3) _ rfl (gl _ _ _ _ HE7.out.1)) rfl ?_;exact⟨by rw[HD.out,HDX.out,HDE.out];rfl,HE7.out.2⟩
   ·have h1:(me == 0)=false:=by rw[U_];exact h0
    have HD:Hid (dbD d b l=zD):=O (by rw[HDB.out,H_ h0]);have HX2:Hid (dbX d b l=[]):=O (HDN.out (by rw[HDE.out];exact h0));clear h0
    go_wp2_with (first
     |(refine cH b4 (.slice va l.length vc) rfl (.tmp 5) rfl (w.heap.size+2) rfl _ HS4.out.r2 ?_)
     |(go_at_call 41;refine(HMK.out _ HS4.out.b).mono ?_;rintro e x5 ⟨rfl,hx5⟩;have HS5:=O (HS4.out.on hx5);clear hx5 c16)
     |(refine lF rfl rfl ?_)
     |(refine aM (T:=25) (doA zD) (b8 _) rfl (.tmp 6) (.tmp 46) rfl (w.heap.size+3) (doA zD) rfl rfl (cr _) (dE _ _) HS5.out.r3 ?_;intro w7 hge7 hoe7 hbe7;have HE7:Hid (w7.heap[w.heap.size+3]?=some (.cells (doA zD) 25 (0,0))∧Below w.heap.size w w7):=(O ⟨hge7,HS5.out.b.trans (hbe7 _ (by omega))⟩);clear hge7 hoe7 hbe7))
    refine g_ (cy rfl _ _ (w.heap.size+3) _ rfl (gl _ _ _ _ HE7.out.1)) rfl ?_;exact⟨by rw[HD.out,HX2.out,HDE.out];rfl,HE7.out.2⟩
end
end Go.Proofs.YtmfiaadjdbemnaaGreatDoor
