/- Contracts and lemmas. No condition. -/
import Derived.Test.YtmfiaadjdbemnaaGreatDoorSB31
set_option maxRecDepth 100000
set_option maxHeartbeats 8000000
set_option linter.unusedSimpArgs false
set_option linter.unusedVariables false
namespace Go.Proofs.YtmfiaadjdbemnaaGreatDoor
open Tryz
section
open Go.RowKit Go.Shelf
structure MS (w:World) (d:DO) (nx:Int) (v:Value) (pol:List UInt8) (y:World):Prop where
 r0:y.heap[w.heap.size]?=some (.cells (doA d) 25 (0,0))
 r1:y.heap[w.heap.size+1]?=some (.cells (tbA nx v) 45 (0,0))
 r2:y.heap[w.heap.size+2]?=some (.cells (am pol) 23 (0,0))
 r3:y.heap[w.heap.size+3]?=some (.cells (tbA 0 ah) 45 (0,0))
 b:Below w.heap.size w y
theorem MS.on {w y y':World} {d:DO} {nx:Int} {v:Value} {pol:List UInt8} (h:MS w d nx v pol y) (hb:Below y.heap.size y y'):MS w d nx v pol y' :=
 ⟨aa h.r0 hb,aa h.r1 hb,aa h.r2 hb,aa h.r3 hb,h.b.trans (hb.mono h.b.size)⟩
theorem MS.set1 {w y y':World} {d:DO} {nx nx':Int} {v v':Value} {pol:List UInt8} (h:MS w d nx v pol y) (hg:y'.heap[w.heap.size+1]?=some (.cells (tbA nx' v') 45 (0,0))) (ho:∀k,k≠w.heap.size+1→y'.heap[k]? = y.heap[k]?) (hb:∀B,B≤w.heap.size+1→Below B y y'):MS w d nx' v' pol y' :=
 ⟨(ho _ (by omega)).trans h.r0,hg,(ho _ (by omega)).trans h.r2,(ho _ (by omega)).trans h.r3,h.b.trans (hb _ (by omega))⟩
theorem MS.but {w y y':World} {d:DO} {nx:Int} {v:Value} {pol:List UInt8} {B:Nat} (h:MS w d nx v pol y) (hb:Below B y y') (hB:w.heap.size+3<B) (hs:B≤y.heap.size):MS w d nx v pol y' :=
 ⟨(hb.block _ (by omega)).trans h.r0,(hb.block _ (by omega)).trans h.r1,(hb.block _ (by omega)).trans h.r2,(hb.block _ (by omega)).trans h.r3,h.b.trans (hb.mono (by omega))⟩
theorem SQ (w:World) (d:DO) (nx:Int) (v:Value) (pol:List UInt8):MS w d nx v pol ((((w.alloc (.cells (doA d) 25)).alloc (.cells (tbA nx v) 45)).alloc (.cells (am pol) 23)).alloc (.cells (tbA 0 ah) 45)) :=
 ⟨oZ _ _ _ _ _,o9 _ _ _ _ _,pf _ _ _ _ _,pg _ _ _ _ _,ph _ _ _ _ _⟩
theorem RdK.rng {w:World} {a:Option Addr} {n cap:Nat} {l:List K} (h:RdK w (.slice a n cap) l) (h0:0<l.length):∃b off,a=some ⟨b,off,none⟩∧∀j,j<l.length→w.rangeAt b (off+j*9) (kc (ae l j)).toList:=by
 obtain⟨a',c',e,_,_,h3⟩:=h
 cases e
 obtain⟨b,off,rfl,_,hc⟩:=h3 h0;refine⟨b,off,rfl,fun j hj i x hx => ?_⟩
 have hi:i<9:=by
  have := (d_.1 hx).1
  simpa [kc] using this
 rw[hc j hj i hi,←Array.getElem?_toList];exact hx
theorem De (l:List K) (k:Nat) (h:k<l.length):l.drop k=ae l k::l.drop (k+1):=by
 rw[az l k h];exact List.drop_eq_getElem_cons h
theorem Ow (k:K) (n:Int):(kc k).setIfInBounds 7 (.int .i64 n)=kc (aU k n):=rfl
theorem VZ (k:K):(kc zK).size=(kc k).size:=rfl
theorem VX (k:K):(kc k)[7]?=some (.int .i64 k.par):=rfl
theorem RdK.grownB {y z:World} {a:Option Addr} {n cap:Nat} {l:List K} {row:Option Nat} (h:RdK y (.slice a n cap) l) (hg:y.grownBy z row) (hne:∀b,a=some b→∀q,row=some q→q≠b.block):RdK z (.slice a n cap) l:=by
 obtain⟨a',c',e,h1,h2,h3⟩:=h
 cases e
 refine⟨a,cap,rfl,h1,h2,fun h0 => ?_⟩;obtain⟨b2,off,rfl,hlt,hc⟩:=h3 h0;have hbk:=fJ hg hlt (hne _ rfl);refine⟨b2,off,rfl,(Q_.1 (hbk.trans (Array.getElem?_eq_getElem hlt))).1,fun j hj i hi => ?_⟩;rw[World.cell?_of_block (a:=⟨b2,off+j*9+i,none⟩) hbk];exact hc j hj i hi
theorem RdK.blk {w:World} {b off n cap:Nat} {l:List K} (h:RdK w (.slice (some ⟨b,off,none⟩) n cap) l) (h0:0<l.length):b<w.heap.size:=by
 obtain⟨a',c',e,_,_,h3⟩:=h
 cases e
 obtain⟨b2,off2,e2,hlt,_⟩:=h3 h0
 cases e2
 exact hlt
theorem Bu (now:Int) (m m0:MG) (L:List K) (k:Nat) (hk:k<L.length) (h:gw now m0 L=gw now m (L.drop k)) (he:m.e=0) :
  (lr now m.tl (ae L k)=true→gw now m0 L=gw now m (L.drop (k+1))) ∧
  (lr now m.tl (ae L k)=false→bL m.nx m.tl (aU (ae L k) 0)=0→gw now m0 L=gw now ⟨m.nx+1,m.tl++[aW (aU (ae L k) 0) m.nx],m.ids++[m.nx],0⟩ (L.drop (k+1))) ∧
  (lr now m.tl (ae L k)=false→bL m.nx m.tl (aU (ae L k) 0)≠0→gw now m0 L=zM (bL m.nx m.tl (aU (ae L k) 0))):=by
 rw[h,De L k hk,gw];refine⟨fun h1 => ?_,fun h1 h2 => ?_,fun h1 h2 => ?_⟩
 ·have e:jh now m (ae L k)=m:=by unfold jh;rw[G_ h1]
  rw[e,G_ he]
 ·have e:jh now m (ae L k)=⟨m.nx+1,m.tl++[aW (aU (ae L k) 0) m.nx],m.ids++[m.nx],0⟩:=by unfold jh;rw[h1,H_ (by decide),G_ h2]
  rw[e,G_ rfl]
 ·have e:jh now m (ae L k)=zM (bL m.nx m.tl (aU (ae L k) 0)):=by unfold jh;rw[h1,H_ (by decide),H_ h2]
  rw[e];unfold zM;rw[H_ h2]
theorem YA:∀args w,(callFunc 58 args).run prog w = .ok (.enter 58 args) w:=enters_of func58 (by kernel_rfl) rfl
attribute [local irreducible] Calls doA kc tbA
theorem qG (d : DO) (nx : Int) (vt : Value) (tl : List K) (pol : List UInt8) (now : Int) (blob : List UInt8) (l : List SH) (vl : Value) (w : World) (hk : KAt w) (ht : RdK w vt tl) (hl : RdE eH w vl l) (h1 : tl.length ≤ 4096) (hb : blob.length ≤ 800000) :
  Calls prog 28 #[.agg (doA d),.agg (tbA nx vt),.agg (am pol),.int .i64 now,.string ⟨blob.toArray⟩,vl] w fun e w'=>∃a n c a2 n2 c2,e = .returned (.tuple #[.agg (tbA (jw d nx tl pol now blob l).nx (.slice a n c)),.slice a2 n2 c2,.int .i64 (jw d nx tl pol now blob l).e]) ∧
   RdK w' (.slice a n c) (jw d nx tl pol now blob l).tl∧RdE eI w' (.slice a2 n2 c2) (jw d nx tl pol now blob l).ids∧Below w.heap.size w w':=by
 have hzt:=rq;have hzb:=fh;have hzk:=oz;obtain⟨ta,tc,rfl,_,_,_⟩:=id ht;obtain⟨sa,sc,rfl,_,_,_⟩:=id hl;obtain⟨W0,hW0⟩:∃W0,W0=(((w.alloc (.cells (doA d) 25)).alloc (.cells (tbA nx (.slice ta tl.length tc)) 45)).alloc (.cells (am pol) 23)).alloc (.cells (tbA 0 ah) 45):=⟨_,rfl⟩;have HW:=O hW0;have HF0:Hid (MS w d nx (.slice ta tl.length tc) pol W0):=O (by rw[hW0];exact SQ w d nx _ pol);have HV:=O (fun (u:World)=>ly d u);have HUL:=O (fun (u:World) (h:Below w.heap.size w u)=>j6 blob l (.slice sa l.length sc) u (hk.on h) (hl.on h) hb);have HT:=O (ht.on HF0.out.b);have HTL:Hid (tl.length≤4096):=O h1;have HLN:=O (FG blob l);have HNK:=O (Qa blob l);have HMP:=O (xJ d nx tl pol now blob l);generalize jw d nx tl pol now blob l=M at HMP ⊢;generalize ulK blob l=L at *;generalize ulB blob l=B at *;generalize ulE blob l=E at *;clear hk ht hl h1 hb hW0;have tok1:True:=trivial
 rcases HMP.out with⟨hva,hr⟩|⟨hva,hE,hr⟩|⟨hva,hE,hd,hr⟩|⟨hva,hE,hd,hp,hr⟩|⟨hva,hE,hd,hp,hr⟩
 ·rw[hr]
  rw[hva] at HV;clear hva hr HMP
  go_enter func28,ntmps28
  go_upto_region 1 with fail
  rw[←HW.out]
  try dsimp only[Act.put]
  go_wp2_with (first
   |(refine cz d rfl (.tmp 6) rfl w.heap.size rfl _ HF0.out.r0 ?_)
   |(go_at_call 15;refine(HV.out _).mono ?_;rintro e x1 ⟨rfl,hx1⟩;have HF3:=O (HF0.out.on hx1);have HT3:=O (HT.out.on hx1);clear hx1)
   |(refine pZ rfl rfl ?_)
   |(refine aM (T:=45) (tbA 0 ah) (cZ _ _) rfl (.tmp 12) (.tmp 27) rfl (w.heap.size+3) (tbA 0 ah) rfl rfl (dP _ _ _ _) (fg _ _ _ _) HF3.out.r3 ?_;intro w7 hge7 hoe7 hbe7;have HE7:Hid (w7.heap[w.heap.size+3]?=some (.cells (tbA 0 ah) 45 (0,0))∧Below w.heap.size w w7):=(O ⟨hge7,HF3.out.b.trans (hbe7 _ (by omega))⟩);clear hge7 hoe7 hbe7))
  refine g_ (cy rfl _ _ (w.heap.size+3) _ rfl (nt _ _ _ _ _ HE7.out.1)) rfl ?_;exact⟨none,0,0,none,0,0,rfl,RdK.nil _,(ap.nil _ 0).rd,HE7.out.2⟩
 ·rw[hr]
  rw[hva] at HV
  have e1:(E != 0)=true:=by rw[bne_iff_ne];exact hE
  have e2:(E == 0)=false:=by rw[U_];exact hE
  clear hva hr HMP hE
  go_enter func28,ntmps28
  go_upto_region 1 with fail
  rw[←HW.out]
  try dsimp only[Act.put]
  go_upto_region 4 with (first
   |(refine cz d rfl (.tmp 6) rfl w.heap.size rfl _ HF0.out.r0 ?_)
   |(go_at_call 15;refine(HV.out _).mono ?_;rintro e x1 ⟨rfl,hx1⟩;have HF3:=O (HF0.out.on hx1);have HT3:=O (HT.out.on hx1);clear hx1)
   |(go_at_call 21;refine(HUL.out _ HF3.out.b).mono ?_;rintro e x2 ⟨la,ln,lc,rfl,hrl,hx2⟩;obtain⟨la',lc',he',_,_,_⟩:=id hrl;cases he';have HF4:=O (HF3.out.on hx2);have HT4:=O (HT3.out.on hx2);have HL4:=O hrl;clear hx2 hrl)
   |(refine aH (bc B (.slice la L.length lc)) 47 rfl (.tmp 15) (.tmp 32) rfl _ rfl rfl rfl (by rw[aC];exact dU) (by rw[aC,aC]) (dl _ _ _ _) ?_))
  have HA5:Hid (Below x2.heap.size x2 (x2.alloc (.cells (bc B (.slice la L.length lc)) 47))∧(x2.alloc (.cells (bc B (.slice la L.length lc)) 47)).heap[x2.heap.size]?=some (.cells (bc B (.slice la L.length lc)) 47 (0,0))):=O ⟨(O_ _ _).alloc (A_ _) _,heap_alloc_new _ _⟩
  try simp only[Act.put]
  generalize x2.alloc (.cells (bc B (.slice la L.length lc)) 47)=W5 at HA5 ⊢;have HF5:=O (HF4.out.on HA5.out.1);have HT5:=O (HT4.out.on HA5.out.1);have HL5:=O (HL4.out.on HA5.out.1);have HG5:=O HA5.out.2;generalize x2.heap.size=g5 at HG5 ⊢;clear HA5 HF4 HT4 HL4 HF3 HT3 HF0 HT
  go_wp2_with (first
   |(refine pZ rfl rfl ?_)
   |(refine aM (T:=45) (tbA 0 ah) (cZ _ _) rfl (.tmp 12) (.tmp 37) rfl (w.heap.size+3) (tbA 0 ah) rfl rfl (dP _ _ _ _) (fg _ _ _ _) HF5.out.r3 ?_;intro w7 hge7 hoe7 hbe7;have HE7:Hid (w7.heap[w.heap.size+3]?=some (.cells (tbA 0 ah) 45 (0,0))∧Below w.heap.size w w7):=(O ⟨hge7,HF5.out.b.trans (hbe7 _ (by omega))⟩);clear hge7 hoe7 hbe7))
  refine g_ (cy rfl _ _ (w.heap.size+3) _ rfl (nt _ _ _ _ _ HE7.out.1)) rfl ?_;exact⟨none,0,0,none,0,0,rfl,RdK.nil _,(ap.nil _ 0).rd,HE7.out.2⟩
 ·rw[hr]
  rw[hva] at HV;subst hE;have heq:=fun y=>oJ B.dom d.id y;rw[hd] at heq;clear hva hr HMP hd
  go_enter func28,ntmps28
  go_upto_region 1 with fail
  rw[←HW.out]
  try dsimp only[Act.put]
  go_upto_region 4 with (first
   |(refine cz d rfl (.tmp 6) rfl w.heap.size rfl _ HF0.out.r0 ?_)
   |(go_at_call 15;refine(HV.out _).mono ?_;rintro e x1 ⟨rfl,hx1⟩;have HF3:=O (HF0.out.on hx1);have HT3:=O (HT.out.on hx1);clear hx1)
   |(go_at_call 21;refine(HUL.out _ HF3.out.b).mono ?_;rintro e x2 ⟨la,ln,lc,rfl,hrl,hx2⟩;obtain⟨la',lc',he',_,_,_⟩:=id hrl;cases he';have HF4:=O (HF3.out.on hx2);have HT4:=O (HT3.out.on hx2);have HL4:=O hrl;clear hx2 hrl)
   |(refine aH (bc B (.slice la L.length lc)) 47 rfl (.tmp 15) (.tmp 32) rfl _ rfl rfl rfl (by rw[aC];exact dU) (by rw[aC,aC]) (dl _ _ _ _) ?_))
  have HA5:Hid (Below x2.heap.size x2 (x2.alloc (.cells (bc B (.slice la L.length lc)) 47))∧(x2.alloc (.cells (bc B (.slice la L.length lc)) 47)).heap[x2.heap.size]?=some (.cells (bc B (.slice la L.length lc)) 47 (0,0))):=O ⟨(O_ _ _).alloc (A_ _) _,heap_alloc_new _ _⟩
  try simp only[Act.put]
  generalize x2.alloc (.cells (bc B (.slice la L.length lc)) 47)=W5 at HA5 ⊢;have HF5:=O (HF4.out.on HA5.out.1);have HT5:=O (HT4.out.on HA5.out.1);have HL5:=O (HL4.out.on HA5.out.1);have HG5:=O HA5.out.2;generalize x2.heap.size=g5 at HG5 ⊢;clear HA5 HF4 HT4 HL4 HF3 HT3 HF0 HT
  go_wp2_with (first
   |(refine gS B.dom g5 0 (.tmp 40) rfl (gM HG5.out) rfl rfl ?_)
   |(refine gS d.id w.heap.size 0 (.tmp 42) rfl (eT HF5.out.r0) rfl rfl ?_)
   |(refine pZ rfl rfl ?_)
   |(refine aM (T:=45) (tbA 0 ah) (cZ _ _) rfl (.tmp 12) (.tmp 45) rfl (w.heap.size+3) (tbA 0 ah) rfl rfl (dP _ _ _ _) (fg _ _ _ _) HF5.out.r3 ?_;intro w7 hge7 hoe7 hbe7;have HE7:Hid (w7.heap[w.heap.size+3]?=some (.cells (tbA 0 ah) 45 (0,0))∧Below w.heap.size w w7):=(O ⟨hge7,HF5.out.b.trans (hbe7 _ (by omega))⟩);clear hge7 hoe7 hbe7))
  refine g_ (cy rfl _ _ (w.heap.size+3) _ rfl (nt _ _ _ _ _ HE7.out.1)) rfl ?_;exact⟨none,0,0,none,0,0,rfl,RdK.nil _,(ap.nil _ 0).rd,HE7.out.2⟩
 ·rw[hr]
  rw[hva] at HV;subst hE;have heq:=fun y=>oJ B.dom d.id y;rw[hd] at heq;have hnq:=fun y=>sO B.pol pol y;rw[hp] at hnq;clear hva hr HMP hd hp
  go_enter func28,ntmps28
  go_upto_region 1 with fail
  rw[←HW.out]
  try dsimp only[Act.put]
  go_upto_region 4 with (first
   |(refine cz d rfl (.tmp 6) rfl w.heap.size rfl _ HF0.out.r0 ?_)
   |(go_at_call 15;refine(HV.out _).mono ?_;rintro e x1 ⟨rfl,hx1⟩;have HF3:=O (HF0.out.on hx1);have HT3:=O (HT.out.on hx1);clear hx1)
   |(go_at_call 21;refine(HUL.out _ HF3.out.b).mono ?_;rintro e x2 ⟨la,ln,lc,rfl,hrl,hx2⟩;obtain⟨la',lc',he',_,_,_⟩:=id hrl;cases he';have HF4:=O (HF3.out.on hx2);have HT4:=O (HT3.out.on hx2);have HL4:=O hrl;clear hx2 hrl)
   |(refine aH (bc B (.slice la L.length lc)) 47 rfl (.tmp 15) (.tmp 32) rfl _ rfl rfl rfl (by rw[aC];exact dU) (by rw[aC,aC]) (dl _ _ _ _) ?_))
  have HA5:Hid (Below x2.heap.size x2 (x2.alloc (.cells (bc B (.slice la L.length lc)) 47))∧(x2.alloc (.cells (bc B (.slice la L.length lc)) 47)).heap[x2.heap.size]?=some (.cells (bc B (.slice la L.length lc)) 47 (0,0))):=O ⟨(O_ _ _).alloc (A_ _) _,heap_alloc_new _ _⟩
  try simp only[Act.put]
  generalize x2.alloc (.cells (bc B (.slice la L.length lc)) 47)=W5 at HA5 ⊢;have HF5:=O (HF4.out.on HA5.out.1);have HT5:=O (HT4.out.on HA5.out.1);have HL5:=O (HL4.out.on HA5.out.1);have HG5:=O HA5.out.2;generalize x2.heap.size=g5 at HG5 ⊢;clear HA5 HF4 HT4 HL4 HF3 HT3 HF0 HT
  go_wp2_with (first
   |(refine gS B.dom g5 0 (.tmp 40) rfl (gM HG5.out) rfl rfl ?_)
   |(refine gS d.id w.heap.size 0 (.tmp 42) rfl (eT HF5.out.r0) rfl rfl ?_)
   |(refine gS B.pol g5 20 (.tmp 47) rfl (lZ HG5.out) rfl rfl ?_)
   |(refine gS pol (w.heap.size+2) 0 (.tmp 8) rfl (l5 HF5.out.r2) rfl rfl ?_)
   |(refine pZ rfl rfl ?_)
   |(refine aM (T:=45) (tbA 0 ah) (cZ _ _) rfl (.tmp 12) (.tmp 51) rfl (w.heap.size+3) (tbA 0 ah) rfl rfl (dP _ _ _ _) (fg _ _ _ _) HF5.out.r3 ?_;intro w7 hge7 hoe7 hbe7;have HE7:Hid (w7.heap[w.heap.size+3]?=some (.cells (tbA 0 ah) 45 (0,0))∧Below w.heap.size w w7):=(O ⟨hge7,HF5.out.b.trans (hbe7 _ (by omega))⟩);clear hge7 hoe7 hbe7))
  refine g_ (cy rfl _ _ (w.heap.size+3) _ rfl (nt _ _ _ _ _ HE7.out.1)) rfl ?_;exact⟨none,0,0,none,0,0,rfl,RdK.nil _,(ap.nil _ 0).rd,HE7.out.2⟩
 ·rw[hr]
  rw[hva] at HV;subst hE;have heq:=fun y=>oJ B.dom d.id y;rw[hd] at heq;have hnq:=fun y=>sO B.pol pol y;rw[hp] at hnq;clear hva hr HMP hd hp
  go_enter func28,ntmps28
  go_upto_region 1 with fail
  rw[←HW.out]
  try dsimp only[Act.put]
  go_upto_region 4 with (first
   |(refine cz d rfl (.tmp 6) rfl w.heap.size rfl _ HF0.out.r0 ?_)
   |(go_at_call 15;refine(HV.out _).mono ?_;rintro e x1 ⟨rfl,hx1⟩;have HF3:=O (HF0.out.on hx1);have HT3:=O (HT.out.on hx1);clear hx1)
   |(go_at_call 21;refine(HUL.out _ HF3.out.b).mono ?_;rintro e x2 ⟨la,ln,lc,rfl,hrl,hx2⟩;obtain⟨la',lc',he',_,_,_⟩:=id hrl;cases he';have HF4:=O (HF3.out.on hx2);have HT4:=O (HT3.out.on hx2);have HL4:=O hrl;clear hx2 hrl)
   |(refine aH (bc B (.slice la L.length lc)) 47 rfl (.tmp 15) (.tmp 32) rfl _ rfl rfl rfl (by rw[aC];exact dU) (by rw[aC,aC]) (dl _ _ _ _) ?_))
  have HA5:Hid (Below x2.heap.size x2 (x2.alloc (.cells (bc B (.slice la L.length lc)) 47))∧(x2.alloc (.cells (bc B (.slice la L.length lc)) 47)).heap[x2.heap.size]?=some (.cells (bc B (.slice la L.length lc)) 47 (0,0))):=O ⟨(O_ _ _).alloc (A_ _) _,heap_alloc_new _ _⟩
  try simp only[Act.put]
  generalize x2.alloc (.cells (bc B (.slice la L.length lc)) 47)=W5 at HA5 ⊢;have HF5:=O (HF4.out.on HA5.out.1);have HT5:=O (HT4.out.on HA5.out.1);have HL5:=O (HL4.out.on HA5.out.1);have HG5:=O HA5.out.2;generalize x2.heap.size=g5 at HG5 ⊢;clear HA5 HF4 HT4 HL4 HF3 HT3 HF0 HT
  go_upto_region 10 with (first
   |(refine gS B.dom g5 0 (.tmp 40) rfl (gM HG5.out) rfl rfl ?_)
   |(refine gS d.id w.heap.size 0 (.tmp 42) rfl (eT HF5.out.r0) rfl rfl ?_)
   |(refine gS B.pol g5 20 (.tmp 47) rfl (lZ HG5.out) rfl rfl ?_)
   |(refine gS pol (w.heap.size+2) 0 (.tmp 8) rfl (l5 HF5.out.r2) rfl rfl ?_))
  have c37:=(e_ _ _ 37 _ _ _ HG5.out).trans (iU B (.slice la L.length lc));clear heq hnq HG5;go_wp2
  have hli:(L.length:Int)≤4096:=by have := HLN.out;omega
  go_loopw [17,55] (fun mv i wr=>∃(k:Nat) (m:MG) (ua:Option Addr) (uc:Nat),k≤L.length∧i = .int .i64 k∧Hid (m.e=0∧m.tl.length≤4096∧m.ids.length≤k)∧Hid (gw now ⟨nx,tl,[],0⟩ L=gw now m (L.drop k))∧Hid (MS w d m.nx (.slice ua m.tl.length uc) pol wr)∧Hid (RdK wr (.slice ua m.tl.length uc) m.tl)∧Hid (RdK wr (.slice la L.length lc) L)∧Hid (ap eI wr W5.heap.size mv m.ids)∧Hid (W5.heap.size≤wr.heap.size)) (fun _ i _=>L.length-(intOf i).toNat)
  case atStart=>exact⟨0,⟨nx,tl,[],0⟩,ta,tc,N_ _,rfl,O ⟨rfl,HTL.out,A_ _⟩,O (by rw[L_]),HF5,HT5,HL5,O (ap.nil _ _),O (A_ _)⟩
  case round =>
   obtain⟨k,m,ua,uc,hk,rfl,hm,hrun,hms,hrt,hrl,hown,hsz⟩:=hrel;have HG0:Hid (w.heap.size+3<W5.heap.size):=O (Q_.1 HF5.out.r3).1
   by_cases hlt:k<L.length
   ·have k1 : (k : Int) < L.length := by omega
    have HKL:=O hlt;obtain⟨b3,off3,rfl,hrng⟩:=hrl.out.rng (by omega);have HR:=O (hrng k hlt);have HB3:Hid (b3<W5.heap.size):=O (HL5.out.blk (by omega));have HRD:=O (Bu now m _ L k hlt hrun.out hm.out.1);have HWF:=O (HNK.out.wf k hlt);generalize ae L k=x at HR HRD HWF;clear hrng hlt hk hrun
    go_upto_region 14 with (first
     |(refine E4 x b3 (off3+k*9) (.tmp 57) rfl HR.out rfl rfl ?_)
     |(refine aH (kc x) 86 rfl (.tmp 19) (.tmp 58) rfl _ rfl rfl rfl (nO _) (VZ _) (jR _) ?_))
    have HA9:Hid (Below wr.heap.size wr (wr.alloc (.cells (kc x) 86))∧(wr.alloc (.cells (kc x) 86)).heap[wr.heap.size]?=some (.cells (kc x) 86 (0,0))):=O ⟨(O_ _ _).alloc (A_ _) _,heap_alloc_new _ _⟩
    try simp only[Act.put]
    generalize wr.alloc (.cells (kc x) 86)=w9 at HA9 ⊢;have HG9:=O HA9.out.2;have HM9:=O (hms.out.on HA9.out.1);have HR9:=O (hrt.out.on HA9.out.1);have HL9:=O (hrl.out.on HA9.out.1);have HO9:=O (hown.out.on HA9.out.1);have HS9:Hid (W5.heap.size≤w9.heap.size):=O (M_ hsz.out HA9.out.1.size);have HGG:Hid (W5.heap.size≤wr.heap.size):=O hsz.out;have HB9:Hid (Below wr.heap.size wr w9):=O HA9.out.1;have HNE:Hid (u17.ownBlock≠some wr.heap.size):=O (hown.out.neNew (A_ _));have HLE:Hid (wr.heap.size≤wr.heap.size):=O (A_ _);have HNEW:Hid (∀B,B=wr.heap.size→∀y,Below B wr y→RdK y (.slice ua m.tl.length uc) m.tl∧RdK y (.slice (some ⟨b3,off3,none⟩) L.length lc) L):=O (fun B hB y hy=>⟨hrt.out.keep hy (by omega),hrl.out.keep hy (by omega)⟩);obtain⟨g9,hg9⟩:∃g9,g9=wr.heap.size:=⟨_,rfl⟩;have HNEW2:=O (HNEW.out g9 hg9);rw[←hg9] at HG9 HGG HB9 HNE ⊢;clear HA9 hms hrt hrl hown hsz HR HNEW HLE hg9;have HLV:=O (fun (u:World)=>SF x now u);have HLV2:=HLV;clear HLV2
    cases hlv:dW now x with
    | false =>
      have HRD1:=O (HRD.out.1 (by unfold lr;rw[hlv];rfl));unfold kv at HLV;rw[hlv] at HLV;clear hlv HRD
      go_wp2_with (first
       |(refine dY x g9 _ HG9.out rfl (.tmp 19) rfl rfl ?_)
       |(go_at_call 59;refine(HLV.out _).mono ?_;rintro e y1 ⟨rfl,hy1⟩;have HGA:=O (aa HG9.out hy1);have HMA:=O (HM9.out.on hy1);have HRA:=O (HR9.out.on hy1);have HLA:=O (HL9.out.on hy1);have HOA:=O (HO9.out.on hy1);have HSA:Hid (W5.heap.size≤y1.heap.size):=(O (M_ HS9.out hy1.size));have HBA:=O (HB9.out.trans (hy1.mono (Nat.le_of_lt (Q_.1 HG9.out).1)));clear hy1))
      go_roundw
      case rel=>exact⟨k+1,m,ua,uc,HKL.out,by go_num,O ⟨hm.out.1,hm.out.2.1,Nat.le_succ_of_le hm.out.2.2⟩,HRD1,HMA,HRA,HLA,HOA,HSA⟩
      case measure=>have := HKL.out;simp[intOf];omega
    | true =>
      unfold kv at HLV;rw[hlv] at HLV;have HSK:Hid (lr now m.tl x=bI m.tl x):=O (by unfold lr;rw[hlv];rfl);have HCF:Hid (∀(u:World),u.heap[g9]?=some (.cells (kc x) 86 (0,0))→RdK u (.slice ua m.tl.length uc) m.tl→Calls prog 60 #[.slice ua m.tl.length uc,.func (.func 58) #[] #[.pointer (some ⟨g9,0,none⟩)]] u fun e w'=>e = .returned (.bool (bI m.tl x))∧Below u.heap.size u w'):=O (fun u hu hr=>uC _ m.tl _ _ (ip x) u YA hr (Ky x g9 u _ hu));clear hlv
      cases hh:bI m.tl x with
      | true =>
        have HRD1:=O (HRD.out.1 (by rw[HSK.out,hh]));rw[hh] at HCF;clear hh HRD HSK
        go_wp2_with (first
         |(refine dY x g9 _ HG9.out rfl (.tmp 19) rfl rfl ?_)
         |(go_at_call 59;refine(HLV.out _).mono ?_;rintro e y1 ⟨rfl,hy1⟩;have HGA:=O (aa HG9.out hy1);have HMA:=O (HM9.out.on hy1);have HRA:=O (HR9.out.on hy1);have HLA:=O (HL9.out.on hy1);have HOA:=O (HO9.out.on hy1);have HSA:Hid (W5.heap.size≤y1.heap.size):=(O (M_ HS9.out hy1.size));have HBA:=O (HB9.out.trans (hy1.mono (Nat.le_of_lt (Q_.1 HG9.out).1)));clear hy1;have ct1:y1.cell? ⟨w.heap.size+1,1,none⟩=some (.slice ua m.tl.length uc):=(by rw[e_ _ _ _ _ _ _ HMA.out.r1];unfold tbA;rfl))
         |(go_at_call 60;refine(HCF.out _ HGA.out HRA.out).mono ?_;rintro e y2 ⟨rfl,hy2⟩;have HGB:=O (aa HGA.out hy2);have HMB:=O (HMA.out.on hy2);have HRB:=O (HRA.out.on hy2);have HLB:=O (HLA.out.on hy2);have HOB:=O (HOA.out.on hy2);have HSB:Hid (W5.heap.size≤y2.heap.size):=(O (M_ HSA.out hy2.size));have HBB:=O (HBA.out.trans (hy2.mono (Nat.le_of_lt (Q_.1 HGA.out).1)));clear hy2))
        go_roundw
        case rel=>exact⟨k+1,m,ua,uc,HKL.out,by go_num,O ⟨hm.out.1,hm.out.2.1,Nat.le_succ_of_le hm.out.2.2⟩,HRD1,HMB,HRB,HLB,HOB,HSB⟩
        case measure=>have := HKL.out;simp[intOf];omega
      | false =>
        have HRD2:=O (HRD.out.2.1 (by rw[HSK.out,hh]));have HRD3:=O (HRD.out.2.2 (by rw[HSK.out,hh]));rw[hh] at HCF;clear hh HRD HSK;have HWP:Hid ((aU x 0).wf):=O ⟨HWF.out.id,HWF.out.uses⟩
        go_upto_region 16 with (first
         |(refine dY x g9 _ HG9.out rfl (.tmp 19) rfl rfl ?_)
         |(go_at_call 59;refine(HLV.out _).mono ?_;rintro e y1 ⟨rfl,hy1⟩;have HGA:=O (aa HG9.out hy1);have HMA:=O (HM9.out.on hy1);have HRA:=O (HR9.out.on hy1);have HLA:=O (HL9.out.on hy1);have HOA:=O (HO9.out.on hy1);have HSA:Hid (W5.heap.size≤y1.heap.size):=(O (M_ HS9.out hy1.size));have HBA:=O (HB9.out.trans (hy1.mono (Nat.le_of_lt (Q_.1 HG9.out).1)));clear hy1;have ct1:y1.cell? ⟨w.heap.size+1,1,none⟩=some (.slice ua m.tl.length uc):=(by rw[e_ _ _ _ _ _ _ HMA.out.r1];unfold tbA;rfl))
         |(go_at_call 60;refine(HCF.out _ HGA.out HRA.out).mono ?_;rintro e y2 ⟨rfl,hy2⟩;have HGB:=O (aa HGA.out hy2);have HMB:=O (HMA.out.on hy2);have HRB:=O (HRA.out.on hy2);have HLB:=O (HLA.out.on hy2);have HOB:=O (HOA.out.on hy2);have HSB:Hid (W5.heap.size≤y2.heap.size):=(O (M_ HSA.out hy2.size));have HBB:=O (HBA.out.trans (hy2.mono (Nat.le_of_lt (Q_.1 HGA.out).1)));clear hy2))
        have c7:y2.cell? ⟨g9,7,none⟩=some (.int .i64 x.par):=by rw[e_ _ _ _ _ _ _ HGB.out];exact VX x
        have f7:=frozen_of_row _ _ 7 _ _ HGB.out;have HST:Hid (y2.setCell ⟨g9,7,none⟩ (.int .i64 0)=y2.setRow g9 (kc (aU x 0))):=O (by rw[au _ _ _ _ _ _ _ HGB.out,Ow]);have HBS:Hid (Below W5.heap.size y2 (y2.setRow g9 (kc (aU x 0)))):=O (aK HGG.out);have HGC:=O (setRow_heap _ _ _ (kc (aU x 0)) _ _ HGB.out);have HMC:=O (HMB.out.but HBS.out HG0.out HSB.out);have HOC:=O (HOB.out.but HNE.out (fun q hq=>aj y2 g9 (kc (aU x 0)) q hq));have HBC:Hid (Below g9 wr (y2.setRow g9 (kc (aU x 0)))):=O (HBB.out.trans (aK (A_ _)));have HSC:Hid (W5.heap.size≤(y2.setRow g9 (kc (aU x 0))).heap.size):=O (M_ HSB.out HBS.out.size)
        go_upto_region 17 with fail
        simp only[HST.out];generalize y2.setRow g9 (kc (aU x 0))=y3 at HGC HMC HOC HBC HSC ⊢;have HRC:=O (HNEW2.out y3 HBC.out);clear HST HBS c7 f7 HGB HMB HRB HLB HOB HSB HBB HCF HLV HGA HMA HRA HLA HOA HSA HBA ct1 HM9 HR9 HL9 HO9 HS9 HG9 HB9 HNE HNEW2 HBC;generalize hax:bL m.nx m.tl (aU x 0)=ax at HRD2 HRD3;have HML:=O hm.out.2.1
        by_cases h0:ax=0
        ·subst h0
         have HRDN:=O (HRD2.out rfl);have HLT:=O (wM hax);have HAD:=O (fun (u:World) (h:RdK u (.slice ua m.tl.length uc) m.tl)=>Rx m.nx _ m.tl (aU x 0) u h HWP.out hax rfl (by have := HML.out;omega));clear hax HRD2 HRD3;generalize hnl:m.tl++[aW (aU x 0) m.nx]=nl at HAD HRDN;have HNL:Hid (nl.length=m.tl.length+1):=O (by rw[←hnl];simp);clear hnl
         go_upto_region 18 with (first
          |(refine dw m.nx (.slice ua m.tl.length uc) rfl (.tmp 7) rfl (w.heap.size+1) rfl _ HMC.out.r1 ?_)
          |(refine dY (aU x 0) g9 _ HGC.out rfl (.tmp 19) rfl rfl ?_)
          |(go_at_call 61;refine(HAD.out _ HRC.out.1).mono ?_;rintro e y4 ⟨va,vc,rfl,hr4,hy4,hva⟩;have HVA:=O hva;have HMQ:Hid (∀q,u17.ownBlock=some q→q<y3.heap.size):=(O (fun q hq=>(HOC.out.lt q hq).2));have HR4:=O hr4;have HM4:=O (HMC.out.on hy4);have HL4:=O (HRC.out.2.on hy4);have HO4:=O (HOC.out.on hy4);have HS4:Hid (W5.heap.size≤y4.heap.size):=(O (M_ HSC.out hy4.size));clear hy4 hr4 hva)
          |(refine aH (tbA (m.nx+1) (.slice va nl.length vc)) 45 rfl (.tmp 21) (.tmp 75) rfl _ rfl rfl rfl (cZ _ _) (fg _ _ _ _) (dP _ _ _ _) ?_))
         have HA5:Hid (Below y4.heap.size y4 (y4.alloc (.cells (tbA (m.nx+1) (.slice va nl.length vc)) 45))∧(y4.alloc (.cells (tbA (m.nx+1) (.slice va nl.length vc)) 45)).heap[y4.heap.size]?=some (.cells (tbA (m.nx+1) (.slice va nl.length vc)) 45 (0,0))):=O ⟨(O_ _ _).alloc (A_ _) _,heap_alloc_new _ _⟩
         try simp only[Act.put]
         generalize y4.alloc (.cells (tbA (m.nx+1) (.slice va nl.length vc)) 45)=y5 at HA5 ⊢;have HMD:=O (HM4.out.on HA5.out.1);have HRN:=O (HR4.out.on HA5.out.1);have HLD:=O (HL4.out.on HA5.out.1);have HOD:=O (HO4.out.on HA5.out.1);have HSD:Hid (W5.heap.size≤y5.heap.size):=O (M_ HS4.out HA5.out.1.size);have HGD:=O HA5.out.2;have HGX:Hid (w.heap.size+3<y4.heap.size):=O (by have := HG0.out;have := HS4.out;omega);generalize y4.heap.size=gd at HGD HGX ⊢;clear HA5 HM4 HL4 HO4 HS4 HR4 HMC HOC HSC HRC HGC HAD
         go_upto_region 20 with fail
         refine fe (fun y=>y.heap[gd]?=some (.cells (tbA (m.nx+1) (.slice va nl.length vc)) 45 (0,0))) [0,1,2] [3,4,5,6] ?h1 ?h2 ?h3 ?h4 ?h5
         case h1=>intro c a d v w h;cases d <;> exact h
         case h2=>kernel_rfl
         case h3=>kernel_rfl
         case h4=>exact HGD.out
         case h5 =>
          simp only[cT,List.filterMap_cons,List.filterMap_nil,List.getElem?_toArray,List.getElem?_cons_succ,List.getElem?_cons_zero];refine⟨_,my (tbA (m.nx+1) (.slice va nl.length vc)) gd 45 (.tmp 21) rfl rfl rfl (fun y hy=>nt y _ _ _ _ hy),?_⟩;simp only[Act.put,B_,C_,D_];refine⟨_,aR u17 rfl (fun y hy=>by kernel_rfl),?_⟩;simp only[Act.put,B_,C_,D_];refine⟨_,aR (.int .i64 m.nx) rfl (fun y hy=>by kernel_rfl),?_⟩;simp only[Act.put,B_,C_,D_];have HME:=O (HMD.out.on (O_ _ _).drew);have HRE:=O (HRN.out.on (O_ _ _).drew);have HLE:=O (HLD.out.on (O_ _ _).drew);have HOE:=O (HOD.out.on (O_ _ _).drew);have HGE:=O (aa HGD.out (O_ _ _).drew);have HSE:Hid (W5.heap.size≤y5.drew.heap.size):=O HSD.out;generalize y5.drew=y6 at HME HRE HLE HOE HGE HSE ⊢;clear HMD HRN HLD HOD HGD HSD;have HA7:Hid (Below y6.heap.size y6 (y6.alloc (.cells #[.int .i64 m.nx] 3))):=O ((O_ _ _).alloc (A_ _) _);intro Q1 HQ1;go_wp2;refine HQ1.out _ _ (aa HGE.out HA7.out) ?_;clear HQ1
          try simp only[Act.put,B_,C_,D_]
          intro Q2 HQ2;have HIL:Hid (m.ids.length≤4096):=O (by have := hm.out.2.2;have := HKL.out;have := HLN.out;omega)
          go_wp2_with (at_builtin;refine br iB rfl (.tmp 83) (.tmp 85) rfl W5.heap.size _ _ rfl (HOE.out.on HA7.out) (.slice (some ⟨y6.heap.size,0,none⟩) 1 1) [m.nx] rfl (bP y6 m.nx iB) (by have := HIL.out;simp;omega) (M_ HSE.out HA7.out.size) ?_;intro v8 y8 ho8 hg8 hl8;have HO8:=O ho8;have HB8:Hid (Below W5.heap.size y6 y8):=(O ((HA7.out.mono HSE.out).grown hg8 (M_ HSE.out HA7.out.size) (fun q hq=>(HOE.out.lt q hq).1)));have HGR:=O hg8;clear ho8 hg8 hl8)
          have HM8:=O (HME.out.but HB8.out HG0.out HSE.out);have HG8:Hid (y8.heap[gd]?=some (.cells (tbA (m.nx+1) (.slice va nl.length vc)) 45 (0,0))):=O ((fJ HGR.out (Q_.1 (aa HGE.out HA7.out)).1 (fun q hq e=>HOE.out.neType HGE.out (by decide) (e ▸ hq))).trans (aa HGE.out HA7.out));have HR8:Hid (RdK y8 (.slice va nl.length vc) nl):=O ((HRE.out.on HA7.out).grownB HGR.out (fun b hb q hq=>by have h1:=HVA.out b hb;have h2:=HMQ.out q hq;omega));have HL8:Hid (RdK y8 (.slice (some ⟨b3,off3,none⟩) L.length lc) L):=O ((HLE.out.on HA7.out).grownB HGR.out (fun b hb q hq=>by cases hb;have h1:=HB3.out;have h2:=(HOE.out.lt q hq).1;show q≠b3;omega));refine HQ2.out _ _ HG8.out ?_;clear HQ2 HME HRE HLE HOE HGE HGR
          try simp only[Act.put,B_,C_,D_]
          intro Q3 HQ3
          (refine aM (T:=45) (tbA (m.nx+1) (.slice va nl.length vc)) (cZ _ _) rfl (.tmp 7) (.tmp 82) rfl (w.heap.size+1) (tbA m.nx (.slice ua m.tl.length uc)) rfl rfl (dP _ _ _ _) (fg _ _ _ _) HM8.out.r1 ?_;intro ya hga hoa hba)
          have HMF:=O (HM8.out.set1 hga hoa hba);have HRF:=O (HR8.out.nb HM8.out.r1 (pA _ _ _ _) hoa (hba 0 (N_ _)).size);have HLF:=O (HL8.out.nb HM8.out.r1 (pA _ _ _ _) hoa (hba 0 (N_ _)).size);have HOF:=O (HO8.out.but (HO8.out.neOld (by have := HG0.out;omega)) hoa);have HGF:Hid (ya.heap[gd]?=some (.cells (tbA (m.nx+1) (.slice va nl.length vc)) 45 (0,0))):=O ((hoa gd (by have := HGX.out;omega)).trans HG8.out);have HSF:Hid (W5.heap.size≤ya.heap.size):=O (M_ HSE.out (M_ HB8.out.size (hba 0 (N_ _)).size));refine HQ3.out _ _ HGF.out ?_;clear HQ3 hga hoa hba
          try simp only[Act.put,B_,C_,D_]
          intro Q4 HQ4;go_wp2;refine HQ4.out _ _ HGF.out ?_;clear HQ4
          try simp only[Act.put,B_,C_,D_]
          refine el ?_;clear HM8 HG8 HR8 HL8 HO8 HB8 HA7 HGF HGX;go_wp2;go_roundw
          case rel=>exact⟨k+1,⟨m.nx+1,nl,m.ids++[m.nx],0⟩,va,vc,HKL.out,by go_num,O ⟨rfl,by show nl.length≤4096;rw[HNL.out];exact HLT.out,by show (m.ids++[m.nx]).length≤k+1;simp;exact hm.out.2.2⟩,HRDN,HMF,HRF,HLF,HOF,HSF⟩
          case measure=>have := HKL.out;simp[intOf];omega
        ·have HRDE:=O (HRD3.out h0)
         have HAD:Hid (∀(u:World),RdK u (.slice ua m.tl.length uc) m.tl→Calls prog 61 #[.agg (tbA m.nx (.slice ua m.tl.length uc)),.agg (kc (aU x 0))] u fun e w'=>e = .returned (.tuple #[.agg (tbA 0 ah),.int .i64 0,.int .i64 ax])∧Below u.heap.size u w'):=O (fun u h=>by rw[←hax];exact Ru m.nx _ m.tl (aU x 0) u h HWP.out (by rw[hax];exact h0))
         have e1:(ax != 0)=true:=by rw[bne_iff_ne];exact h0
         have e2:(ax == 0)=false:=by rw[U_];exact h0
         clear hax HRD2 HRD3 h0
         go_upto_region 18 with (first
          |(refine dw m.nx (.slice ua m.tl.length uc) rfl (.tmp 7) rfl (w.heap.size+1) rfl _ HMC.out.r1 ?_)
          |(refine dY (aU x 0) g9 _ HGC.out rfl (.tmp 19) rfl rfl ?_)
          |(go_at_call 61;refine(HAD.out _ HRC.out.1).mono ?_;rintro e y4 ⟨rfl,hy4⟩;have HM4:=O (HMC.out.on hy4);clear hy4)
          |(refine aH (tbA 0 ah) 45 rfl (.tmp 21) (.tmp 75) rfl _ rfl rfl rfl (cZ _ _) (fg _ _ _ _) (dP _ _ _ _) ?_))
         have HM5:=O (HM4.out.on ((O_ _ _).alloc (A_ _) (.cells (tbA 0 ah) 45)));generalize y4.alloc (.cells (tbA 0 ah) 45)=y5 at HM5 ⊢
         go_wp2_with (first
          |(refine pZ rfl rfl ?_)
          |(refine aM (T:=45) (tbA 0 ah) (cZ _ _) rfl (.tmp 12) (.tmp 80) rfl (w.heap.size+3) (tbA 0 ah) rfl rfl (dP _ _ _ _) (fg _ _ _ _) HM5.out.r3 ?_;intro w7 hge7 hoe7 hbe7;have HE7:Hid (w7.heap[w.heap.size+3]?=some (.cells (tbA 0 ah) 45 (0,0))∧Below w.heap.size w w7):=(O ⟨hge7,HM5.out.b.trans (hbe7 _ (by omega))⟩);clear hge7 hoe7 hbe7))
         refine g_ (cy rfl _ _ (w.heap.size+3) _ rfl (nt _ _ _ _ _ HE7.out.1)) rfl ?_;rw[HRDE.out];exact⟨none,0,0,none,0,0,rfl,RdK.nil _,(ap.nil _ 0).rd,HE7.out.2⟩
   ·have he:k=L.length:=by omega
    have k1:¬(k:Int)<L.length:=by omega
    have HMM:Hid (gw now ⟨nx,tl,[],0⟩ L=m):=O (by rw[hrun.out,he,List.drop_length];rfl);clear he hlt hk hrun
    go_wp2_with (first
     |(refine dw m.nx (.slice ua m.tl.length uc) rfl (.tmp 7) rfl (w.heap.size+1) rfl _ hms.out.r1 ?_)
     |(refine aM (T:=45) (tbA m.nx (.slice ua m.tl.length uc)) (cZ _ _) rfl (.tmp 12) (.tmp 88) rfl (w.heap.size+3) (tbA 0 ah) rfl rfl (dP _ _ _ _) (fg _ _ _ _) hms.out.r3 ?_;intro w7 hge7 hoe7 hbe7;have HE7:Hid (w7.heap[w.heap.size+3]?=some (.cells (tbA m.nx (.slice ua m.tl.length uc)) 45 (0,0))∧Below w.heap.size w w7∧RdK w7 (.slice ua m.tl.length uc) m.tl∧ap eI w7 W5.heap.size u17 m.ids):=(O ⟨hge7,hms.out.b.trans (hbe7 _ (by omega)),hrt.out.nb hms.out.r3 (pA _ _ _ _) hoe7 (hbe7 0 (N_ _)).size,hown.out.but (hown.out.neOld (by have := HG0.out;omega)) hoe7⟩);clear hge7 hoe7 hbe7))
    obtain⟨ra,rc,rfl,_,_,_⟩:=id HE7.out.2.2.2.rd;refine g_ (cy rfl _ _ (w.heap.size+3) _ rfl (nt _ _ _ _ _ HE7.out.1)) rfl ?_;rw[HMM.out];have he0:=hm.out.1;exact⟨_,_,_,_,_,_,by rw[he0];rfl,HE7.out.2.2.1,HE7.out.2.2.2.rd,HE7.out.2.1⟩
end
end Go.Proofs.YtmfiaadjdbemnaaGreatDoor
