/- Contracts and lemmas. No condition. -/
import Derived.Test.YtmfiaadjdbemnaaGreatDoorLMg06
import Derived.Test.YtmfiaadjdbemnaaGreatDoorSB30
set_option maxRecDepth 100000
set_option maxHeartbeats 8000000
set_option linter.unusedSimpArgs false
set_option linter.unusedVariables false
namespace Go.Proofs.YtmfiaadjdbemnaaGreatDoor
open Go.Proofs.Tryz
section
open Go.RowKit Go.Shelf
theorem MU (l:List SH) (i k:Nat) (h:k<l.length):ysP (l.take (k+1)) i=ysP (l.take k) i++[byteAt l[k].data i]:=by
 unfold ysP;rw[List.take_succ_eq_append_getElem h,List.map_append]
 rfl
theorem Qj:xsP []=[]:=rfl
theorem Ql (i:Nat):ysP [] i=[]:=rfl
theorem Gp (l:List SH) (d:Nat) (x:UInt8):(eW l d x).take d=eW l d x:=Y_ (by rw[hJ];exact A_ _)
theorem Gq (l:List SH) (d:Nat) (x:UInt8) (i:Nat) (h:i<d):(eW l d x).take (i+1)=(eW l d x).take i++[F6.interp (xsP l) (ysP l i) x]:=by
 have h1:i<(eW l d x).length:=by rw[hJ];exact h
 rw[List.take_succ_eq_append_getElem h1]
 congr 2
 have h2:byteAt (eW l d x) i=(eW l d x)[i]:=by simp[byteAt,h1]
 rw[←h2,eW,Fld.tab_at,G_ h]
def DJ (v u:Value):Prop:=∀g,v.ownBlock=some g→u.ownBlock≠some g
theorem DJ.symm {v u:Value} (h:DJ v u):DJ u v:=fun g h1 h2=>h g h2 h1
theorem DJ.left {β:Type} {F:El β} {w:World} {b:Nat} {v v' u:Value} {m:List β} (h:DJ v u) (ho:ap F w b u m) (hl:v'.ownBlock=v.ownBlock∨v'.ownBlock=some w.heap.size):DJ v' u:=by
 intro g h1 h2
 rcases hl with e|e
 ·exact h g (e ▸ h1) h2
 ·have := (ho.lt g h2).2
  rw[e] at h1
  cases h1
  omega
attribute [local irreducible] Calls shc shA eW xsP ysP F6.interp
theorem FH (l:List SH) (m d:Nat) (x:UInt8) (v:Value) (w:World) (hv:RdE eH w v l) (hF:oO l m d) (hm:m≤l.length) :
  Calls prog 97 #[v,.int .u8 (B8 x)] w fun e w'=>e = .returned (.string ⟨(eW (l.take m) d x).toArray⟩)∧Below w.heap.size w w':=by
 obtain⟨a,cap,rfl,_,_,_⟩:=id hv;obtain⟨b,off,rfl,hb,hc⟩:=dA hv hF.pos
 have hs:l.headD zS0=l[0]'hF.pos:=by have := hF.pos;cases l with |nil=>simp at this|cons s r=>rfl
 have c16:=(hc 0 hF.pos).2.1;have c18:=(hc 0 hF.pos).2.2.2;rw[Nat.zero_mul,Nat.add_zero,←hs] at c16 c18;rw[hF.hn] at c16;have hd0:(l.headD zS0).data.length=d:=hF.hd;generalize l.headD zS0=s0 at c18 hd0;have HC:Hid (∀y,Below w.heap.size w y→y.cell? ⟨b,off+16,none⟩=some (.int .i64 m)∧y.cell? ⟨b,off+18,none⟩=some (.string ⟨s0.data.toArray⟩)∧∀j (hj:j<l.length),y.cell? ⟨b,off+j*19+17,none⟩=some (.int .i64 l[j].idx)∧y.cell? ⟨b,off+j*19+18,none⟩=some (.string ⟨l[j].data.toArray⟩)):=O (fun y hy=>⟨aQ hy c16,aQ hy c18,fun j hj=>⟨aQ hy (hc j hj).2.2.1,aQ hy (hc j hj).2.2.2⟩⟩);have HOK:=O (hF.okX hm);have HIX:Hid (∀j (hj:j<l.length),1≤l[j].idx∧l[j].idx≤255):=O (fun j hj=>hF.idx _ (List.getElem_mem hj));have HDT:Hid (∀j (hj:j<l.length),l[j].data.length=d):=O (fun j hj=>hF.dat _ (List.getElem_mem hj))
 have hlt0:(l.take m).length=m:=by rw[b_];omega
 have HLT:=O hlt0;have HM:=O (show m≤l.length∧m≤16∧d≤64∧1≤m from⟨hm,hF.h2,hF.d2,hF.h1⟩)
 have hpos:(1:Int)≤l.length:=by have := hF.pos;omega
 have i2:(m:Int)≤16:=by have := hF.h2;omega
 have i3:(d:Int)≤64:=by have := hF.d2;omega
 clear hc hs c16 c18 hF hm hb hv hlt0
 go_enter func97,ntmps97
 go_wp2
 go_loopw [5,6] (fun vo i wr=>∃q:Nat,q≤d∧i = .int .i64 q∧Hid (ap eB wr w.heap.size vo ((eW (l.take m) d x).take q))∧Hid (Below w.heap.size w wr)) (fun _ i _=>d-(intOf i).toNat)
 case atStart=>exact⟨0,N_ _,rfl,O (ap.nil _ _),O (O_ _ _)⟩
 case round =>
  obtain⟨q,hq,rfl,hown,hb⟩:=hrel
  rename World=>wo
  have c18:=(HC.out _ hb.out).2.1
  by_cases hlt:q<d
  ·have q1:(q:Int)<d:=by omega
   have HQL:=O hlt;clear hlt hq;go_wp2
   go_loopw [7,8,9] (fun vx vy i wr=>∃k:Nat,k≤m∧i = .int .i64 k∧Hid (ap eB wr wo.heap.size vx (xsP (l.take k)))∧Hid (ap eB wr wo.heap.size vy (ysP (l.take k) q))∧Hid (DJ vx vy)∧Hid (Below wo.heap.size wo wr)) (fun _ _ i _=>m-(intOf i).toNat)
   case atStart=>exact⟨0,N_ _,rfl,O (by rw[c_,Qj];exact ap.nil _ _),O (by rw[c_,Ql];exact ap.nil _ _),O (fun g h=>by cases h),O (O_ _ _)⟩
   case round =>
    obtain⟨k,hk,rfl,hox,hoy,hdj,hbk⟩:=hrel;have HBK:Hid (Below w.heap.size w wr):=O (hb.out.trans (hbk.out.mono hb.out.size));have HCK:=O (HC.out _ HBK.out);have c16:=HCK.out.1
    by_cases hlt:k<m
    ·have k1:(k:Int)<m:=by omega
     have hkl:k<l.length:=by have := HM.out;omega
     have k2:(k:Int)<l.length:=by omega
     have c17:=(HCK.out.2.2 k hkl).1;have HC18:=O ((HCK.out.2.2 k hkl).2);have hxt:=wA l k hkl;have hyt:=MU l q k hkl;have hix:=HIX.out k hkl;have hdt:=HDT.out k hkl;have HCS:Hid (∀y,Below w.heap.size w y→y.cell? ⟨b,off+k*19+18,none⟩=some (.string ⟨l[k].data.toArray⟩)):=O (fun y hy=>((HC.out y hy).2.2 k hkl).2);generalize l[k]=s at c17 HC18 hxt hyt hix hdt HCS;have hw8:=tR s hix.1 hix.2
     have hm8:s.idx % 256=B8 (xb s):=by rw[←IntKind.wrap_u8];exact hw8
     have HXT:=O hxt;have HYT:=O hyt;have HKL:=O (show k<m∧k<l.length from⟨hlt,hkl⟩)
     have hqs:q<s.data.length:=by rw[hdt];exact HQL.out
     have hqi:(q:Int)<s.data.length:=by omega
     have c17b:(wr.alloc (.cells #[.int .u8 (B8 (xb s))] 5)).cell? ⟨b,off+k*19+17,none⟩=some (.int .i64 s.idx):=aQ ((O_ _ _).alloc (A_ _) _) c17
     have hxlen:(xsP (l.take k)).length≤16:=by have := HM.out;rw[kL,b_];omega
     have hylen:(ysP (l.take k) q).length≤16:=by have := HM.out;rw[jy,b_];omega
     have HLEN:Hid ((xsP (l.take k)).length≤16∧(ysP (l.take k) q).length≤16):=O ⟨hxlen,hylen⟩;clear hxt hyt hix hdt hlt hk hkl hxlen hylen;have HA1:Hid (Below wr.heap.size wr (wr.alloc (.cells #[.int .u8 (B8 (xb s))] 5))):=O ((O_ _ _).alloc (A_ _) _);have tok1:True:=trivial
     go_wp2_with (first
      |(clear tok1;at_builtin;refine br aN rfl (.tmp 29) (.tmp 36) rfl wo.heap.size _ _ rfl (hox.out.on HA1.out) (.slice (some ⟨wr.heap.size,0,none⟩) 1 1) [xb s] rfl (bP wr (xb s) aN) (by have := HLEN.out;simp;omega) (M_ hbk.out.size HA1.out.size) ?_;intro v5 w5 ho5 hg5 hl5;have HO5:=O ho5;have HB5:Hid (Below wo.heap.size wo w5):=(O ((hbk.out.trans (HA1.out.mono hbk.out.size)).grown hg5 (M_ hbk.out.size HA1.out.size) (fun g hg=>(hox.out.lt g hg).1)));have HY5:=O ((hoy.out.on HA1.out).grown hg5 (fun g hg=>hdj.out g hg));have HD5:=O (hdj.out.left (hoy.out.on HA1.out) hl5);have c18k:=HCS.out _ (hb.out.trans (HB5.out.mono hb.out.size));have HA2:Hid (Below w5.heap.size w5 (w5.alloc (.cells #[.int .u8 (B8 (byteAt s.data q))] 5))):=(O ((O_ _ _).alloc (A_ _) _));clear ho5 hg5 hl5)
      |(at_builtin;refine br aN rfl (.tmp 38) (.tmp 46) rfl wo.heap.size _ _ rfl (HY5.out.on HA2.out) (.slice (some ⟨w5.heap.size,0,none⟩) 1 1) [byteAt s.data q] rfl (bP w5 (byteAt s.data q) aN) (by have := HLEN.out;simp;omega) (M_ HB5.out.size HA2.out.size) ?_;intro v6 w6 ho6 hg6 hl6;have HO6:=O ho6;have HB6:Hid (Below wo.heap.size wo w6):=(O ((HB5.out.trans (HA2.out.mono HB5.out.size)).grown hg6 (M_ HB5.out.size HA2.out.size) (fun g hg=>(HY5.out.lt g hg).1)));have HX6:=O ((HO5.out.on HA2.out).grown hg6 (fun g hg=>HD5.out.symm g hg));have HD6:=O ((HD5.out.symm.left (HO5.out.on HA2.out) hl6).symm);clear ho6 hg6 hl6))
     go_roundw
     case rel=>exact⟨k+1,HKL.out.1,by go_num,O (by rw[HXT.out];exact HX6.out),O (by rw[HYT.out];exact HO6.out),HD6,HB6⟩
     case measure=>have := HKL.out;simp[intOf];omega
    ·have he:k=m:=by omega
     have k1:¬(k:Int)<m:=by omega
     subst he;have HIN:Hid (Calls prog 148 #[u7,u8,.int .u8 (B8 x)] wr fun e w'=>e = .returned (.tuple #[.int .u8 (B8 (F6.interp (xsP (l.take k)) (ysP (l.take k) q) x)),.int .i64 0])∧Below wr.heap.size wr w'):=O (Fld.interp_r u7 u8 (xsP (l.take k)) (ysP (l.take k) q) x wr (rQ hox.out.rd) (rQ hoy.out.rd) HOK.out (by rw[kL,jy]));have HCT:=O (Gq (l.take k) d x q HQL.out);have HOW:=O (hown.out.on hbk.out);have HCL:Hid (((eW (l.take k) d x).take q).length≤64):=O (by rw[b_,hJ];have := HM.out;omega);generalize F6.interp (xsP (l.take k)) (ysP (l.take k) q) x=iv at HIN HCT;clear hlt hk hox hoy hdj;have tok2:True:=trivial
     go_wp2_with (first
      |(clear tok2;go_at_call 148;refine HIN.out.mono ?_;rintro e w6 ⟨rfl,hb6⟩;have HO6:=O (HOW.out.on hb6);have HB6:Hid (Below w.heap.size w w6):=O (HBK.out.trans (hb6.mono HBK.out.size));have HA3:Hid (Below w6.heap.size w6 (w6.alloc (.cells #[.int .u8 (B8 iv)] 5))):=(O ((O_ _ _).alloc (A_ _) _));clear hb6)
      |(at_builtin;refine br aN rfl (.tmp 55) (.tmp 57) rfl w.heap.size _ _ rfl (HO6.out.on HA3.out) (.slice (some ⟨w6.heap.size,0,none⟩) 1 1) [iv] rfl (bP w6 iv aN) (by have := HCL.out;simp;omega) (M_ HB6.out.size HA3.out.size) ?_;intro v7 w7 ho7 hg7 hl7;have HO7:=O ho7;have HB7:Hid (Below w.heap.size w w7):=(O ((HB6.out.trans (HA3.out.mono HB6.out.size)).grown hg7 (M_ HB6.out.size HA3.out.size) (fun g hg=>(HO6.out.lt g hg).1)));clear ho7 hg7 hl7))
     go_roundw
     case rel=>exact⟨q+1,HQL.out,by go_num,O (by rw[HCT.out];exact HO7.out),HB7⟩
     case measure=>have := HQL.out;simp[intOf];omega
  ·have he:q=d:=by omega
   have q1:¬(q:Int)<d:=by omega
   have hcv:(convert 80 9 u5).run prog wo = .ok (.string ⟨(eW (l.take m) d x).toArray⟩) wo:=by
    have h:=b6 hown.out.rd
    rwa [he,Gp] at h
   clear he hlt hq hown;go_wp2;go_ret;exact⟨rfl,hb.out⟩
end
section
open Go.RowKit Go.Shelf
theorem RQ {l:List SH} (h:qu l=false):ci l=1:=th (by unfold eO;rw[h];rfl)
theorem RP {l:List SH} (h:kd (l.headD zS0) [] l=false):ci l=1:=th (by unfold eO;rw[h,Bool.and_false])
theorem N2 {l:List SH} {k:Nat} (hk:k<l.length) (h:∀q (hq:q<l.length),q<k→1≤l[q].idx∧l[q].idx≤255) (h1:1≤l[k].idx) (h2:l[k].idx≤255) :
  (xb l[k]∈xsP (l.take k))↔∃q,∃(hq:q<l.length),q<k∧l[q].idx=l[k].idx:=by
 have key:∀(a b:SH),1≤a.idx→a.idx≤255→1≤b.idx→b.idx≤255→xb a=xb b→a.idx=b.idx:=by
  intro a b a1 a2 b1 b2 e;have h3:=Ag a a.idx.toNat (by omega) (by omega);have h4:=Ag b b.idx.toNat (by omega) (by omega);rw[e] at h3
  omega
 unfold xsP;rw[List.mem_map]
 constructor
 ·rintro⟨s,hs,e⟩
  obtain⟨q,hq,rfl⟩:=List.mem_iff_getElem.1 hs;have hq2:=hq;rw[b_] at hq2;rw[List.getElem_take] at e;exact⟨q,by omega,by omega,key _ _ (h q (by omega) (by omega)).1 (h q (by omega) (by omega)).2 h1 h2 e⟩
 ·rintro⟨q,hq,hlt,e⟩
  refine⟨l[q],?_,by unfold xb;rw[e]⟩;rw[List.mem_iff_getElem];exact⟨q,by rw[b_];omega,by rw[List.getElem_take]⟩
attribute [local irreducible] Calls shc shA ci kf
theorem RX (l:List SH) (v:Value) (w:World) (hv:RdE eH w v l) (hok:qu l=false) :
  Calls prog 96 #[v] w fun e w'=>e = .returned (.int .i64 (ci l))∧Below w.heap.size w w':=by
 rw[RQ hok];obtain⟨a,cap,rfl,hml2,hml,_⟩:=id hv;unfold maxLen at hml
 by_cases h0:l.length=0
 ·have i0:(l.length:Int)=0:=by omega
  have i1:((l.length:Int) == 0)=true:=by rw[i0];rfl
  clear hv hok
  go_enter func96,ntmps96
  go_wp2;go_ret;exact⟨rfl,O_ _ _⟩
 ·obtain⟨b,off,rfl,hb,hc⟩:=dA hv (by omega)
  have hr0:=(hc 0 (by omega)).1;rw[Nat.zero_mul,Nat.add_zero] at hr0
  have hs:l.headD zS0=l[0]'(by omega):=by cases l with |nil=>simp at h0|cons s r=>rfl
  unfold qu at hok;rw[hs] at hok;generalize l[0]=s0 at hr0 hok
  have i0:((l.length:Int) == 0)=false:=by rw[U_];omega
  have hcs:(255:Int)<l.length∨(¬(255:Int)<l.length∧(s0.need<1∨(¬s0.need<1∧(16<s0.need∨(¬16<s0.need∧((s0.data.length:Int)<1∨(¬(s0.data.length:Int)<1∧(64:Int)<s0.data.length))))))):=by
   simp only[Bool.and_eq_false_iff,decide_eq_false_iff_not] at hok
   omega
  have hzs:=oA;have hp:0<l.length:=Nat.pos_of_ne_zero h0;have hp1:(1:Int)≤l.length:=Int.ofNat_le.2 hp;have HR0:=O hr0;have HA9:Hid (Below w.heap.size w (w.alloc (.cells (shA s0) 103))∧(w.alloc (.cells (shA s0) 103)).heap[w.heap.size]?=some (.cells (shA s0) 103 (0,0))):=O ⟨(O_ _ _).alloc (A_ _) _,heap_alloc_new _ _⟩
  have c16:(w.alloc (.cells (shA s0) 103)).cell? ⟨w.heap.size,16,none⟩=some (.int .i64 s0.need):=by rw[e_ _ _ 16 _ _ _ HA9.out.2,cU];exact vQ s0
  have c18:(w.alloc (.cells (shA s0) 103)).cell? ⟨w.heap.size,18,none⟩=some (.string ⟨s0.data.toArray⟩):=by rw[e_ _ _ 18 _ _ _ HA9.out.2,cU];exact pG s0
  clear hv hok hc hs h0 hb hr0
  go_enter func96,ntmps96
  rcases hcs with h1|⟨h1,h2|⟨h2,h3|⟨h3,h4|⟨h4,h5⟩⟩⟩⟩
  ·go_wp2
   go_ret;exact⟨rfl,O_ _ _⟩
  all_goals
   go_wp2_with (first
    |(refine vq s0 b off (.tmp 16) rfl HR0.out rfl rfl ?_)
    |(refine aH (shA s0) 103 rfl (.tmp 3) (.tmp 17) rfl _ rfl rfl rfl (by rw[cX];exact js) (by rw[cX,cX]) (nZ _) ?_))
   go_ret;exact⟨rfl,HA9.out.1⟩
end
section
open Go.RowKit Go.Shelf
structure CkW (l:List SH) (s0:SH) (b off g:Nat) (y:World):Prop where
 n:y.cell? ⟨g,16,none⟩=some (.int .i64 s0.need)
 t:y.cell? ⟨g,18,none⟩=some (.string ⟨s0.data.toArray⟩)
 d:y.rangeAt g 0 (am s0.set).toList
 a:∀j (hj:j<l.length),y.rangeAt b (off+j*19) (am l[j].set).toList∧y.cell? ⟨b,off+j*19+16,none⟩=some (.int .i64 l[j].need)∧y.cell? ⟨b,off+j*19+17,none⟩=some (.int .i64 l[j].idx)∧y.cell? ⟨b,off+j*19+18,none⟩=some (.string ⟨l[j].data.toArray⟩)
theorem CkW.on {l:List SH} {s0:SH} {b off g:Nat} {y z:World} (h:CkW l s0 b off g y) (hb:Below y.heap.size y z):CkW l s0 b off g z :=
 ⟨aQ hb h.n,aQ hb h.t,fun i x hx=>aQ hb (h.d i x hx),fun j hj=>⟨fun i x hx=>aQ hb ((h.a j hj).1 i x hx),aQ hb (h.a j hj).2.1,aQ hb (h.a j hj).2.2.1,aQ hb (h.a j hj).2.2.2⟩⟩
attribute [local irreducible] Calls shc shA ci kf eW
theorem RY (l : List SH) (v : Value) (w : World) (hv : RdE eH w v l) (hok : qu l = true) :
  Calls prog 96 #[v] w fun e w'=>e = .returned (.int .i64 (ci l))∧Below w.heap.size w w':=by
 obtain⟨h1,h2,h3,h4,h5,h6⟩:=oV hok;have HFX:Hid (kd (l.headD zS0) [] l=true→eO l=true∧∃m d,oO l m d):=O (fun h=>by have h7:eO l=true:=(by unfold eO;rw[hok,h];rfl);exact⟨h7,oW h7⟩);have HFN:Hid (kd (l.headD zS0) [] l=false→ci l=1):=O (fun h=>RP h);obtain⟨a,cap,rfl,_,_,_⟩:=id hv;obtain⟨b,off,rfl,hb,hc⟩:=dA hv h1
 have hs:l.headD zS0=l[0]:=by cases l with |nil=>simp at h1|cons s r=>rfl
 have hr0:=(hc 0 h1).1;rw[Nat.zero_mul,Nat.add_zero,←hs] at hr0;have HND:Hid ((l.headD zS0).need=(l.headD zS0).need):=O rfl;have HV0:=O (fun (y:World) (h:Below w.heap.size w y)=>hv.on h);have HVAL:=O (fun (m d:Nat) (x:UInt8) (y:World) (h:Below w.heap.size w y) (hF:oO l m d) (hm:m≤l.length)=>FH l m d x (.slice (some ⟨b,off,none⟩) l.length cap) y (hv.on h) hF hm);have HHD:Hid (∀m d,oO l m d→(l.headD zS0).need=m):=O (fun m d h=>h.hn);generalize l.headD zS0=s0 at *
 have HA9:Hid (Below w.heap.size w (w.alloc (.cells (shA s0) 103))∧CkW l s0 b off w.heap.size (w.alloc (.cells (shA s0) 103))):=O (by
  have hb9:=(O_ w.heap.size w).alloc (A_ _) (.cells (shA s0) 103);have hg:=heap_alloc_new w (.cells (shA s0) 103)
  exact⟨hb9,by rw[e_ _ _ 16 _ _ _ hg,cU];exact vQ s0,by rw[e_ _ _ 18 _ _ _ hg,cU];exact pG s0,fun i x hx=>by rw[e_ _ _ _ _ _ _ hg,cU,a_];exact zH s0 i x hx,fun j hj=>⟨fun i x hx=>aQ hb9 (x9 (hc j hj).1 i x hx),aQ hb9 (hc j hj).2.1,aQ hb9 (hc j hj).2.2.1,aQ hb9 (hc j hj).2.2.2⟩⟩)
 have HR0:=O hr0;have hzs:=oA
 have i0:((l.length:Int) == 0)=false:=by rw[U_];omega
 have i1:¬(255:Int)<l.length:=by omega
 have i2:(1:Int)≤l.length:=by omega
 have i3:¬(s0.data.length:Int)<1:=by omega
 have i4:¬(64:Int)<s0.data.length:=by omega
 have i5:¬s0.need<1:=by omega
 have i6:¬16<s0.need:=by omega
 have i7:(l.length:Int)≤255:=by omega
 have HL:=O h1;clear hv hok hc hs hb hr0 h3 h4 h5 h6 h1 h2
 go_enter func96,ntmps96
 go_upto_region 4 with (first
  |(refine vq s0 b off (.tmp 16) rfl HR0.out rfl rfl ?_)
  |(refine aH (shA s0) 103 rfl (.tmp 3) (.tmp 17) rfl _ rfl rfl rfl (by rw[cX];exact js) (by rw[cX,cX]) (nZ _) ?_))
 simp only[Act.put];generalize w.alloc (.cells (shA s0) 103)=w9 at HA9 ⊢;have HB9:=O HA9.out.1;have HC:=O HA9.out.2;clear HA9 HR0;have c16:=HC.out.n;have c18:=HC.out.t;go_wp2
 go_loopw [4] (fun i wr=>∃k:Nat,k≤l.length∧i = .int .i64 k∧Hid (kd s0 (xsP (l.take k)) (l.drop k)=kd s0 [] l)∧Hid (∀q (hq:q<l.length),q<k→1≤l[q].idx∧l[q].idx≤255)∧Hid (Below w9.heap.size w9 wr)) (fun i _=>l.length-(intOf i).toNat)
 case atStart=>exact⟨0,N_ _,rfl,O rfl,O (fun q _ h=>absurd h (by omega)),O (O_ _ _)⟩
 case round =>
  obtain⟨k,hk,rfl,hfit,hix,hb⟩:=hrel
  rename World=>wo
  have HQ:=O (HC.out.on hb.out);have c16:=HQ.out.n;have c18:=HQ.out.t
  by_cases hlt:k<l.length
  ·have k1:(k:Int)<l.length:=by omega
   have HKL:=O hlt;have HXT:=O (wA l k hlt);have HDR:Hid (kd s0 [] l=(kf s0 (xsP (l.take k)) l[k] && kd s0 (xsP (l.take k)++[xb l[k]]) (l.drop (k+1)))):=O (by rw[←hfit.out,List.drop_eq_getElem_cons hlt];rfl);have HDM:=O (fun h1 h2=>N2 hlt hix.out h1 h2)
   have HIXN:Hid (1≤l[k].idx→l[k].idx≤255→∀q (hq:q<l.length),q<k+1→1≤l[q].idx∧l[q].idx≤255):=O (fun h1 h2 q hq hqk=>by
    by_cases e:q=k
    ·subst e;exact⟨h1,h2⟩
    ·exact hix.out q hq (by omega))
   obtain⟨hrd,c16k,c17k,c18k⟩:=HQ.out.a k hlt;have HRK:=O hrd;have HRG:=O HQ.out.d;have HSE:Hid (∀z:World,Below wo.heap.size wo z→z.cell? ⟨b,off+k*19+17,none⟩=some (.int .i64 l[k].idx)):=O (fun z hz=>aQ hz c17k);generalize l[k]=s at hrd c16k c17k c18k HRK HXT HDR HDM HIXN HSE;have hneq:=fun w=>sO s.set s0.set w;generalize xsP (l.take k)=pr at hfit HXT HDR HDM;have h7:=uV s0 pr s;clear hrd hlt hk hfit hix
   have h5way:(dEq s.set s0.set=false∧kf s0 pr s=false)∨(dEq s.set s0.set=true∧s.need≠s0.need∧kf s0 pr s=false)∨(dEq s.set s0.set=true∧s.need=s0.need∧s.data.length≠s0.data.length∧kf s0 pr s=false)∨(dEq s.set s0.set=true∧s.need=s0.need∧s.data.length=s0.data.length∧s.idx<1∧kf s0 pr s=false)∨(dEq s.set s0.set=true∧s.need=s0.need∧s.data.length=s0.data.length∧¬s.idx<1∧255<s.idx∧kf s0 pr s=false)∨(dEq s.set s0.set=true∧s.need=s0.need∧s.data.length=s0.data.length∧¬s.idx<1∧¬255<s.idx∧(xb s∈pr→kf s0 pr s=false)∧(xb s ∉ pr→kf s0 pr s=true)):=by
    rcases h7 with h|h|h|h|h|⟨a1,a2,a3,a4,a5,a6,a7⟩|⟨a1,a2,a3,a4,a5,a6,a7⟩
    ·exact .inl h
    ·exact .inr (.inl h)
    ·exact .inr (.inr (.inl h))
    ·exact .inr (.inr (.inr (.inl h)))
    ·exact .inr (.inr (.inr (.inr (.inl h))))
    ·exact .inr (.inr (.inr (.inr (.inr ⟨a1,a2,a3,a4,a5,fun _=>a7,fun h=>absurd a6 h⟩))))
    ·exact .inr (.inr (.inr (.inr (.inr ⟨a1,a2,a3,a4,a5,fun h=>absurd h a6,fun _=>a7⟩))))
   clear h7
   rcases h5way with⟨hd,hft⟩|⟨hd,h2,hft⟩|⟨hd,h2,h3,hft⟩|⟨hd,h2,h3,h4,hft⟩|⟨hd,h2,h3,h4,h5,hft⟩|⟨hd,h2,h3,h4,h5,hft1,hft2⟩
   ·rw[hd] at hneq
    have HFF:Hid (ci l=1):=O (HFN.out (by rw[HDR.out,hft];rfl));clear hft;go_wp2
    first |refine fR (by kernel_rfl) (by kernel_rfl) ?_|refine fG (by kernel_rfl) (by kernel_rfl) ?_
    go_big_quiet_step (fail)
    go_big_quiet_step (fail)
    go_big_quiet_step (fail)
    go_big_quiet_step (fail)
    (refine dy s.set b (off+k*19) (.tmp 47) (fun w' ⟨u,e⟩=>by rw[e];exact HRK.out) ?_ ?_ ?_ ?_;exact rfl;exact rfl;exact rfl;simp only[Act.put,B_,C_,D_])
    go_big_quiet_step (fail)
    (refine dy s0.set w.heap.size 0 (.tmp 49) (fun w' ⟨u,e⟩=>by rw[e];exact HRG.out) ?_ ?_ ?_ ?_;exact rfl;exact rfl;exact rfl;simp only[Act.put,B_,C_,D_])
    repeat (go_big_quiet_step (fail))
    refine h_ ?_;rintro _ ⟨nq,rfl⟩;go_wp2;go_ret;exact⟨by rw[HFF.out];rfl,ak nq (HB9.out.trans (hb.out.mono HB9.out.size))⟩
   ·rw[hd] at hneq
    have g2:(s.need != s0.need)=true:=by rw[bne_iff_ne];exact h2
    have HFF:Hid (ci l=1):=O (HFN.out (by rw[HDR.out,hft];rfl));clear hft;go_wp2
    first |refine fR (by kernel_rfl) (by kernel_rfl) ?_|refine fG (by kernel_rfl) (by kernel_rfl) ?_
    go_big_quiet_step (fail)
    go_big_quiet_step (fail)
    go_big_quiet_step (fail)
    go_big_quiet_step (fail)
    (refine dy s.set b (off+k*19) (.tmp 47) (fun w' ⟨u,e⟩=>by rw[e];exact HRK.out) ?_ ?_ ?_ ?_;exact rfl;exact rfl;exact rfl;simp only[Act.put,B_,C_,D_])
    go_big_quiet_step (fail)
    (refine dy s0.set w.heap.size 0 (.tmp 49) (fun w' ⟨u,e⟩=>by rw[e];exact HRG.out) ?_ ?_ ?_ ?_;exact rfl;exact rfl;exact rfl;simp only[Act.put,B_,C_,D_])
    repeat (go_big_quiet_step (fail))
    refine h_ ?_;rintro _ ⟨nq,rfl⟩;go_wp2;go_ret;exact⟨by rw[HFF.out];rfl,ak nq (HB9.out.trans (hb.out.mono HB9.out.size))⟩
   ·rw[hd] at hneq
    have g2:(s.need != s0.need)=false:=by rw[h2];simp
    have g3:((s.data.length:Int) != (s0.data.length:Int))=true:=by rw[bne_iff_ne];omega
    have HFF:Hid (ci l=1):=O (HFN.out (by rw[HDR.out,hft];rfl));clear hft;go_wp2
    first |refine fR (by kernel_rfl) (by kernel_rfl) ?_|refine fG (by kernel_rfl) (by kernel_rfl) ?_
    go_big_quiet_step (fail)
    go_big_quiet_step (fail)
    go_big_quiet_step (fail)
    go_big_quiet_step (fail)
    (refine dy s.set b (off+k*19) (.tmp 47) (fun w' ⟨u,e⟩=>by rw[e];exact HRK.out) ?_ ?_ ?_ ?_;exact rfl;exact rfl;exact rfl;simp only[Act.put,B_,C_,D_])
    go_big_quiet_step (fail)
    (refine dy s0.set w.heap.size 0 (.tmp 49) (fun w' ⟨u,e⟩=>by rw[e];exact HRG.out) ?_ ?_ ?_ ?_;exact rfl;exact rfl;exact rfl;simp only[Act.put,B_,C_,D_])
    repeat (go_big_quiet_step (fail))
    refine h_ ?_;rintro _ ⟨nq,rfl⟩;go_wp2;go_ret;exact⟨by rw[HFF.out];rfl,ak nq (HB9.out.trans (hb.out.mono HB9.out.size))⟩
   ·rw[hd] at hneq
    have g2:(s.need != s0.need)=false:=by rw[h2];simp
    have g3:((s.data.length:Int) != (s0.data.length:Int))=false:=by rw[h3];simp
    have HFF:Hid (ci l=1):=O (HFN.out (by rw[HDR.out,hft];rfl));clear hft;go_wp2
    first |refine fR (by kernel_rfl) (by kernel_rfl) ?_|refine fG (by kernel_rfl) (by kernel_rfl) ?_
    go_big_quiet_step (fail)
    go_big_quiet_step (fail)
    go_big_quiet_step (fail)
    go_big_quiet_step (fail)
    (refine dy s.set b (off+k*19) (.tmp 47) (fun w' ⟨u,e⟩=>by rw[e];exact HRK.out) ?_ ?_ ?_ ?_;exact rfl;exact rfl;exact rfl;simp only[Act.put,B_,C_,D_])
    go_big_quiet_step (fail)
    (refine dy s0.set w.heap.size 0 (.tmp 49) (fun w' ⟨u,e⟩=>by rw[e];exact HRG.out) ?_ ?_ ?_ ?_;exact rfl;exact rfl;exact rfl;simp only[Act.put,B_,C_,D_])
    repeat (go_big_quiet_step (fail))
    refine h_ ?_;rintro _ ⟨nq,rfl⟩;go_wp2;go_ret;exact⟨by rw[HFF.out];rfl,ak nq (HB9.out.trans (hb.out.mono HB9.out.size))⟩
   ·rw[hd] at hneq
    have g2:(s.need != s0.need)=false:=by rw[h2];simp
    have g3:((s.data.length:Int) != (s0.data.length:Int))=false:=by rw[h3];simp
    have d4:decide (s.idx<1)=false:=V_ h4;have HFF:Hid (ci l=1):=O (HFN.out (by rw[HDR.out,hft];rfl));clear hft;go_wp2
    first |refine fR (by kernel_rfl) (by kernel_rfl) ?_|refine fG (by kernel_rfl) (by kernel_rfl) ?_
    go_big_quiet_step (fail)
    go_big_quiet_step (fail)
    go_big_quiet_step (fail)
    go_big_quiet_step (fail)
    (refine dy s.set b (off+k*19) (.tmp 47) (fun w' ⟨u,e⟩=>by rw[e];exact HRK.out) ?_ ?_ ?_ ?_;exact rfl;exact rfl;exact rfl;simp only[Act.put,B_,C_,D_])
    go_big_quiet_step (fail)
    (refine dy s0.set w.heap.size 0 (.tmp 49) (fun w' ⟨u,e⟩=>by rw[e];exact HRG.out) ?_ ?_ ?_ ?_;exact rfl;exact rfl;exact rfl;simp only[Act.put,B_,C_,D_])
    repeat (go_big_quiet_step (fail))
    refine h_ ?_;rintro _ ⟨nq,rfl⟩;go_wp2;go_ret;exact⟨by rw[HFF.out];rfl,ak nq (HB9.out.trans (hb.out.mono HB9.out.size))⟩
   ·rw[hd] at hneq
    have g2:(s.need != s0.need)=false:=by rw[h2];simp
    have g3:((s.data.length:Int) != (s0.data.length:Int))=false:=by rw[h3];simp
    have d4:decide (s.idx<1)=false:=V_ h4;have d5:decide (255<s.idx)=false:=V_ h5;have HDI:=O (HDM.out (by omega) (by omega));have HFT1:=O hft1;have HFT2:=O hft2;have HIX2:=O (HIXN.out (by omega) (by omega));clear hft1 hft2;go_wp2
    first |refine fR (by kernel_rfl) (by kernel_rfl) ?_|refine fG (by kernel_rfl) (by kernel_rfl) ?_
    go_big_quiet_step (fail)
    go_big_quiet_step (fail)
    go_big_quiet_step (fail)
    go_big_quiet_step (fail)
    (refine dy s.set b (off+k*19) (.tmp 47) (fun w' ⟨u,e⟩=>by rw[e];exact HRK.out) ?_ ?_ ?_ ?_;exact rfl;exact rfl;exact rfl;simp only[Act.put,B_,C_,D_])
    go_big_quiet_step (fail)
    (refine dy s0.set w.heap.size 0 (.tmp 49) (fun w' ⟨u,e⟩=>by rw[e];exact HRG.out) ?_ ?_ ?_ ?_;exact rfl;exact rfl;exact rfl;simp only[Act.put,B_,C_,D_])
    repeat (go_big_quiet_step (fail))
    refine h_ ?_;rintro _ ⟨nq,rfl⟩;have HBN:Hid (Below w9.heap.size w9 (wo.drewN nq)):=O (ak nq hb.out);have HBW:Hid (Below wo.heap.size wo (wo.drewN nq)):=O (ak nq (O_ _ _));generalize wo.drewN nq=w4 at HBN HBW ⊢;go_wp2
    go_loopw [5] (fun i wr=>∃j:Nat,j≤k∧i = .int .i64 j∧Hid (∀q (hq:q<l.length),q<j→l[q].idx≠s.idx)∧Hid (Below w4.heap.size w4 wr)) (fun i _=>k-(intOf i).toNat)
    case atStart=>exact⟨0,N_ _,rfl,O (fun q _ h=>absurd h (by omega)),O (O_ _ _)⟩
    case round =>
     obtain⟨j,hj,rfl,hno,hbj⟩:=hrel;have HBR:Hid (Below w9.heap.size w9 wr):=O (HBN.out.trans (hbj.out.mono HBN.out.size));have HBV:Hid (Below wo.heap.size wo wr):=O (HBW.out.trans (hbj.out.mono HBW.out.size))
     by_cases hlt:j<k
     ·have j1:(j:Int)<k:=by omega
      have hjl:j<l.length:=by have := HKL.out;omega
      have j2:(j:Int)<l.length:=by omega
      have c17j:=((HC.out.on HBR.out).a j hjl).2.2.1;have c17s:=HSE.out wr HBV.out
      have HNX:Hid (l[j].idx≠s.idx→∀q (hq:q<l.length),q<j+1→l[q].idx≠s.idx):=O (fun h q hq hqk=>by
       by_cases e:q=j
       ·subst e;exact h
       ·exact hno.out q hq (by omega))
      have HDU:Hid (l[j].idx=s.idx→ci l=1):=O (fun h=>HFN.out (by rw[HDR.out,HFT1.out (HDI.out.2 ⟨j,hjl,hlt,h⟩)];rfl));generalize l[j].idx=ij at c17j HNX HDU;have HJL:=O hlt;clear hlt hj hjl hno
      by_cases hq:ij=s.idx
      ·have q1:(ij == s.idx)=true:=by rw[hq];simp
       have HRR:=O (HDU.out hq);clear hq;go_wp2
       first |refine fR (by kernel_rfl) (by kernel_rfl) ?_|refine fG (by kernel_rfl) (by kernel_rfl) ?_
       repeat (go_big_quiet_step (fail))
       refine h_ ?_;rintro _ ⟨nr,rfl⟩;go_wp2;go_ret;exact⟨by rw[HRR.out];rfl,ak nr (HB9.out.trans (HBR.out.mono HB9.out.size))⟩
      ·have q1:(ij == s.idx)=false:=by rw[U_];exact hq
       have HRR:=O (HNX.out hq);clear hq;go_wp2
       first |refine fR (by kernel_rfl) (by kernel_rfl) ?_|refine fG (by kernel_rfl) (by kernel_rfl) ?_
       repeat (go_big_quiet_step (fail))
       refine h_ ?_;rintro _ ⟨nr,rfl⟩;go_wp2;go_roundw
       case rel=>exact⟨j+1,HJL.out,by go_num,HRR,O (ak nr hbj.out)⟩
       case measure=>have := HJL.out;simp[intOf];omega
     ·have he:j=k:=by omega
      subst he
      have j1:¬(j:Int)<j:=by omega
      have HFD:Hid (kd s0 [] l=kd s0 (pr++[xb s]) (l.drop (j+1))):=O (by rw[HDR.out,HFT2.out (fun h=>by obtain⟨q,hq,hqk,e⟩:=HDI.out.1 h;exact hno.out q hq hqk e),Bool.true_and]);clear hlt hj hno;go_wp2;go_roundw
      case rel=>exact⟨j+1,HKL.out,by go_num,O (by rw[HXT.out,HFD.out]),HIX2,HBR⟩
      case measure=>have := HKL.out;simp[intOf];omega
  ·have he : k = l.length := by omega
   have k1:¬(k:Int)<l.length:=by omega
   obtain⟨hok,m,d,hF⟩:=HFX.out (by rw[←hfit.out,he,List.drop_length];rfl);have hnm:=HHD.out m d hF;rw[hnm] at c16;have HOK:=O hok;have HF:=O hF;clear he hlt hk hfit hix hnm hok hF
   by_cases hm:l.length<m
   ·have m1:(l.length:Int)<m:=by omega
    have HRR:=O (ux HOK.out HF.out hm);clear hm;go_wp2;go_ret;exact⟨by rw[HRR.out];rfl,HB9.out.trans (hb.out.mono HB9.out.size)⟩
   ·have hml:m≤l.length:=by omega
    have m1:¬(l.length:Int)<m:=by omega
    have HML:=O hml;have HRUN:=O (uy HOK.out HF.out hml);have HVL:Hid (∀(x:UInt8) (y:World),Below wo.heap.size wo y→Calls prog 97 #[.slice (some ⟨b,off,none⟩) l.length cap,.int .u8 (B8 x)] y fun e w'=>e = .returned (.string ⟨(eW (l.take m) d x).toArray⟩)∧Below y.heap.size y w'):=O (fun x y hy=>HVAL.out m d x y ((HB9.out.trans (hb.out.mono HB9.out.size)).trans (hy.mono (M_ HB9.out.size hb.out.size))) HF.out hml);have HIXA:Hid (∀j (hj:j<l.length),1≤l[j].idx∧l[j].idx≤255):=O (fun j hj=>HF.out.idx _ (List.getElem_mem hj));generalize l.take m=lt at HRUN HVL;clear hm hml;go_wp2
    go_loopw [6] (fun i wr=>∃k:Nat,m≤k∧k≤l.length∧i = .int .i64 k∧Hid (∀q (hq:q<l.length),m≤q→q<k→eW lt d (xb l[q])=l[q].data)∧Hid (Below wo.heap.size wo wr)) (fun i _=>l.length-(intOf i).toNat)
    case atStart=>exact⟨m,A_ _,HML.out,rfl,O (fun q _ h1 h2=>absurd h1 (by omega)),O (O_ _ _)⟩
    case round =>
     obtain⟨k,hmk,hk,rfl,hno,hbk⟩:=hrel
     by_cases hlt:k<l.length
     ·have k1:(k:Int)<l.length:=by omega
      have HKL:=O hlt;have HMK:=O hmk;have HCK:Hid (∀y,Below wr.heap.size wr y→y.cell? ⟨b,off+k*19+17,none⟩=some (.int .i64 l[k].idx)∧y.cell? ⟨b,off+k*19+18,none⟩=some (.string ⟨l[k].data.toArray⟩)∧Below wo.heap.size wo y):=O (fun y hy=>by have h:=(((HC.out.on hb.out).on hbk.out).on hy).a k hlt;exact⟨h.2.2.1,h.2.2.2,hbk.out.trans (hy.mono hbk.out.size)⟩);have hix:=HIXA.out k hlt
      have HNX:Hid (eW lt d (xb l[k])=l[k].data→∀q (hq:q<l.length),m≤q→q<k+1→eW lt d (xb l[q])=l[q].data):=O (fun h q hq hmq hqk=>by
       by_cases e:q=k
       ·subst e;exact h
       ·exact hno.out q hq hmq (by omega))
      have HBD:Hid (eW lt d (xb l[k])≠l[k].data→ci l=7):=O (fun h=>by
       rw[HRUN.out,H_];rw[List.all_eq_true];intro hq;refine h (of_decide_eq_true (hq _ ?_));rw[List.mem_iff_getElem]
       exact⟨k-m,by rw[S_];omega,by rw[List.getElem_drop];congr 1;omega⟩)
      generalize l[k]=s at HCK hix HNX HBD;have hw8:=tR s hix.1 hix.2
      have hm8:s.idx % 256=B8 (xb s):=by rw[←IntKind.wrap_u8];exact hw8
      have HCV:=O (HVL.out (xb s));generalize eW lt d (xb s)=cu at HCV HNX HBD;clear hix hlt hk hno
      go_upto_region 21 with fail
      refine aY 13 [[],[],[],[1,2],[3],[4],[5],[0,6],[],[],[8,9],[10],[11]] (SP.of [.eq (.slice (some ⟨b,off,none⟩) l.length cap),.eq (.slice (some ⟨b,off,none⟩) l.length cap),.eq (.int .i64 k),.eq (.pointer (some ⟨b,off+k*19,none⟩)),.eq (.pointer (some ⟨b,off+k*19+17,none⟩)),.eq (.int .i64 s.idx),.eq (.int .u8 (B8 (xb s))),.eq (.string ⟨cu.toArray⟩),.eq (.slice (some ⟨b,off,none⟩) l.length cap),.eq (.int .i64 k),.eq (.pointer (some ⟨b,off+k*19,none⟩)),.eq (.pointer (some ⟨b,off+k*19+18,none⟩)),.eq (.string ⟨s.data.toArray⟩)]) (fun i=>([u119,u120,u121,u122,u123,u124,u125,u126,u127,u128,u129,u130,u131]:List Value).getD i undef) ?h1 ?h2 ?h3 ?h4 ?h5 ?h6
      case h1=>kernel_rfl
      case h2=>kernel_rfl
      case h3=>kernel_rfl
      case h4 =>
       simp only[F_,c_]
       repeat (first |exact trivial|refine⟨fun vals v=>by kernel_rfl,?_⟩)
      case h5 =>
       simp only[F_,c_];refine⟨?_,?_,?_,?_,?_,?_,?_,?_,?_,?_,?_,?_,?_,trivial⟩
       all_goals (intro wq hbq vals;simp only[Nat.reduceAdd,a_,X_,W_];have HQ:=O (HCK.out wq hbq);clear hbq;repeat (first |refine ar ?_|refine aw rfl ?_);intro Q hQ;simp only[ay,upd,Act.put,B_,C_,D_,Nat.reduceAdd,a_,Nat.reduceEqDiff,if_true,if_false,reduceIte])
       case refine_6 =>
        have c:=HQ.out.1;go_wp2;exact ab hQ _ (by kernel_rfl) (O_ _ _) rfl
       case refine_13 =>
        have c:=HQ.out.2.1;go_wp2;exact ab hQ _ (by kernel_rfl) (O_ _ _) rfl
       case refine_8 =>
        go_wp2_with (go_at_call 97;refine(HCV.out _ HQ.out.2.2).mono ?_;rintro e x1 ⟨rfl,hx1⟩)
        exact ab hQ _ (by kernel_rfl) hx1 rfl
       all_goals go_wp2
       all_goals exact ab hQ _ (by kernel_rfl) (O_ _ _) rfl
      case h6 =>
       intro wq hbq vals;have HQ:=O (HCK.out wq hbq);clear hbq;rw[show List.range 13=[0,1,2,3,4,5,6,7,8,9,10,11,12] from by decide]
       repeat (first |refine ar ?_|refine aw rfl ?_)
       simp only[F_,c_,J_,L_];simp only[ay,upd,Act.put,B_,C_,D_,Nat.reduceAdd,a_,Nat.reduceEqDiff,if_true,if_false,reduceIte]
       by_cases hq:cu=s.data
       ·have HN:=O (HNX.out hq)
        have hs1:(cu == s.data)=true:=by rw[hq];simp
        clear hq;go_wp2;go_roundw
        case rel=>exact⟨k+1,by have := HMK.out;omega,HKL.out,by go_num,HN,O HQ.out.2.2⟩
        case measure=>have := HKL.out;simp[intOf];omega
       ·have HN:=O (HBD.out hq)
        have hs1:(cu == s.data)=false:=by rw[U_];exact hq
        clear hq;go_wp2;go_ret;exact⟨by rw[HN.out];rfl,(HB9.out.trans (hb.out.mono HB9.out.size)).trans (HQ.out.2.2.mono (M_ HB9.out.size hb.out.size))⟩
     ·have he:k=l.length:=by omega
      have k1:¬(k:Int)<l.length:=by omega
      have HR0:Hid (ci l=0):=O (by
       rw[HRUN.out,G_];rw[List.all_eq_true];intro s hs;obtain⟨j,hj,rfl⟩:=List.mem_iff_getElem.1 hs;rw[S_] at hj;rw[List.getElem_drop,decide_eq_true_eq]
       exact hno.out (m+j) (by omega) (by omega) (by omega))
      clear he hlt hk hno;go_wp2;go_ret;exact⟨by rw[HR0.out];rfl,(HB9.out.trans (hb.out.mono HB9.out.size)).trans (hbk.out.mono (M_ HB9.out.size hb.out.size))⟩
theorem NM (l:List SH) (v:Value) (w:World) (hv:RdE eH w v l) :
  Calls prog 96 #[v] w fun e w'=>e = .returned (.int .i64 (ci l))∧Below w.heap.size w w':=by
 cases h:qu l with
 | false=>exact RX l v w hv h
 | true=>exact RY l v w hv h
end
section
open Go.RowKit Go.Shelf
attribute [local irreducible] Calls shc shA sha
theorem R9 (l:List SH) (v:Value) (w:World) (hv:RdE eH w v l) :
  Calls prog 47 #[v] w fun e w'=>e = .returned (.tuple #[.string ⟨(eU l).toArray⟩,.int .i64 (ci l)])∧Below w.heap.size w w':=by
 have HCK:=O (NM l v w hv)
 by_cases h0:ci l=0
 ·obtain⟨hf,m,d,hF,hm,he⟩:=uz h0
  have HCV:Hid (∀y,Below w.heap.size w y→Calls prog 97 #[v,.int .u8 0] y fun e w'=>e = .returned (.string ⟨(eW (l.take m) d 0).toArray⟩)∧Below y.heap.size y w'):=O (fun y hy=>FH l m d 0 v y (hv.on hy) hF hm);rw[h0] at HCK;rw[he,h0];obtain⟨va,vc,rfl,_,_,_⟩:=hv;clear hf hF hm he h0
  go_enter func47,ntmps47
  go_wp2_with (first
   |(go_at_call 96;refine HCK.out.mono ?_;rintro e w1 ⟨rfl,hb1⟩;have HB1:=O hb1;clear hb1)
   |(go_at_call 97;refine(HCV.out _ HB1.out).mono ?_;rintro e w2 ⟨rfl,hb2⟩;have HB2:=O (HB1.out.trans (hb2.mono HB1.out.size));clear hb2))
  go_ret2
  exact⟨rfl,HB2.out⟩
 ·have hc:eU l=[]:=by unfold eU;rw[H_ h0]
  rw[hc]
  have h1:(ci l == 0)=false:=by rw[U_];exact h0
  obtain⟨va,vc,rfl,_,_,_⟩:=hv;generalize ci l=res at HCK h1 h0 ⊢;clear hc h0
  go_enter func47,ntmps47
  go_wp2_with (go_at_call 96;refine HCK.out.mono ?_;rintro e w1 ⟨rfl,hb1⟩;have HB1:=O hb1;clear hb1)
  go_ret2
  exact⟨rfl,HB1.out⟩
end
section
open Go.RowKit Go.Shelf
theorem DR (d:DO):(d.key.length≠32∧bD d=false)∨(d.key.length=32∧¬0≤d.ep∧bD d=false)∨(d.key.length=32∧0≤d.ep∧¬d.ep≤2147483647∧bD d=false)∨(d.key.length=32∧0≤d.ep∧d.ep≤2147483647∧¬0≤d.bk∧bD d=false) ∨
  (d.key.length=32∧0≤d.ep∧d.ep≤2147483647∧0≤d.bk∧bD d=decide (d.bk≤2147483647)):=by
 unfold bD
 by_cases h:d.key.length=32
 ·rw[decide_eq_true h,Bool.true_and]
  by_cases h1:0≤d.ep
  ·by_cases h2:d.ep≤2147483647
   ·by_cases h3:0≤d.bk
    ·exact .inr (.inr (.inr (.inr ⟨h,h1,h2,h3,by rw[decide_eq_true h1,decide_eq_true h2,decide_eq_true h3];simp⟩)))
    ·exact .inr (.inr (.inr (.inl ⟨h,h1,h2,h3,by rw[V_ h3];simp⟩)))
   ·exact .inr (.inr (.inl ⟨h,h1,h2,by rw[V_ h2];simp⟩))
  ·exact .inr (.inl ⟨h,h1,by rw[V_ h1];simp⟩)
 ·exact .inl ⟨h,by rw[V_ h];rfl⟩
theorem bB {fn:Func} {p:Tmp} {ty:TypeId} (h:fn.results = #[.cell p ty]) (tmps:Array Value) (w:World) (g:Nat) (x:Value)
  (hp:tmps.getD p undef = .pointer (some ⟨g,0,none⟩)) (hld:(loadVar ty ⟨g,0,none⟩).run prog w = .ok x w) :
  (results fn tmps).run prog w = .ok x w:=by
 have hp':tmps[p]?.getD undef = .pointer (some ⟨g,0,none⟩):=by simpa using hp
 simp[results,h,hp',asAddr,hld]
attribute [local irreducible] Calls doA ag
theorem rh (d:DO) (w:World):Calls prog 16 #[.agg (doA d)] w fun e w'=>e = .returned (.bool (bD d))∧Below w.heap.size w w':=by
 obtain⟨W0,hW0⟩:∃W0,W0=w.alloc (.cells (doA d) 25):=⟨_,rfl⟩;have HW:=O hW0
 have hr:W0.heap[w.heap.size]?=some (.cells (doA d) 25 (0,0)):=by rw[hW0];exact heap_alloc_new _ _
 have c16:W0.cell? ⟨w.heap.size,16,none⟩=some (.string ⟨d.key.toArray⟩):=by rw[e_ _ _ _ _ _ _ hr];exact cK d
 have c17:W0.cell? ⟨w.heap.size,17,none⟩=some (.int .i64 d.ep):=by rw[e_ _ _ _ _ _ _ hr];exact gI d
 have c18:W0.cell? ⟨w.heap.size,18,none⟩=some (.int .i64 d.bk):=by rw[e_ _ _ _ _ _ _ hr];exact jL d
 have HB:Hid (Below w.heap.size w W0):=O (by rw[hW0];exact(O_ _ _).alloc (A_ _) _);have HP:=O (DR d);clear hr hW0
 rcases HP.out with⟨h0,hv⟩|⟨h0,h1,hv⟩|⟨h0,h1,h2,hv⟩|⟨h0,h1,h2,h3,hv⟩|⟨h0,h1,h2,h3,hv⟩
 all_goals
  rw[hv];clear HP hv
  first |(have k0:((d.key.length:Int) == 32)=true:=by rw[beq_iff_eq];omega)|(have k0:((d.key.length:Int) == 32)=false:=by rw[U_];omega)
  clear h0
  go_enter func16,ntmps16
  go_upto_region 1 with fail
  rw[←HW.out]
  try dsimp only[Act.put]
  go_wp2;go_ret;exact⟨rfl,HB.out⟩
end
end Go.Proofs.YtmfiaadjdbemnaaGreatDoor
