/- Contracts and lemmas. No condition. -/
import Derived.Test.YtmfiaadjdbemnaaGreatDoorLFound01
import Derived.Test.YtmfiaadjdbemnaaGreatDoorLFound02
import Derived.Test.YtmfiaadjdbemnaaGreatDoorSB17
set_option maxRecDepth 100000
set_option maxHeartbeats 8000000
set_option linter.unusedSimpArgs false
set_option linter.unusedVariables false
namespace Go.Proofs.YtmfiaadjdbemnaaGreatDoor
open Tryz
section
open Go.RowKit
theorem TG (x y:UInt32) (n:Nat):shl (x ||| y) n=shl x n ||| shl y n:=by
 apply UInt32.toBitVec_inj.1
 show (x.toBitVec ||| y.toBitVec) <<< n=x.toBitVec <<< n ||| y.toBitVec <<< n
 exact BitVec.shiftLeft_or_distrib _ _ _
theorem PC (x:UInt32) (m n:Nat):shl (shl x m) n=shl x (m+n):=by
 apply UInt32.toBitVec_inj.1
 show (x.toBitVec <<< m) <<< n=x.toBitVec <<< (m+n)
 rw[BitVec.shiftLeft_add]
theorem IK (a b c d:UInt8):be4 a b c d=shl a.toUInt32 24 ||| shl b.toUInt32 16 ||| shl c.toUInt32 8 ||| d.toUInt32:=by
 unfold be4;simp only[TG,PC]
attribute [local irreducible] Calls
theorem Qe (v:Value) (b:List UInt8) (w:World) (hv:RdE eB w v b) (hb:b.length=64) :
  Calls prog 162 #[v] w fun e w'=>e = .returned (.agg (row (sch b 64)))∧Below w.heap.size w w':=by
 have HV:=O hv;obtain⟨a,cap,rfl,hcap,hcm,_⟩:=hv;obtain⟨bb,off,rfl,hbl,aO⟩:=fp HV.out (by omega);rw[hb] at HV hcap ⊢;unfold maxLen at hcm;have HROW:=O aO;clear aO;have hz:=tT
 go_enter func162,ntmps162
 go_wp2;rw[AV b]
 go_loopw [4] (fun i wr=>∃t:Nat,t≤16∧i = .int .i64 t∧∃n,wr=((w.alloc (.cells (row z64) 213)).alloc (.cells (row (ext b t)) 213)).drewN n) (fun i _=>16-(intOf i).toNat)
 case atStart=>exact⟨0,by omega,rfl,0,rfl⟩
 case round =>
  obtain⟨t,ht,rfl,n,rfl⟩:=hrel;clear hz;have hel:=yT b t (by omega)
  by_cases h16:t<16
  ·have hd:decide ((t:Int)<16)=true:=by simp;omega
   have hlt:t<64:=by omega
   have c0:=HROW.out (4*t) (by omega);have c1:=HROW.out (4*t+1) (by omega);have c2:=HROW.out (4*t+2) (by omega);have c3:=HROW.out (4*t+3) (by omega)
   have b0:4*(t:Int)<64:=by omega
   have b1:4*(t:Int)+1<64:=by omega
   have b2:4*(t:Int)+2<64:=by omega
   have b3:4*(t:Int)+3<64:=by omega
   have d0:(0:Int)≤4*(t:Int):=by omega
   have d1:(0:Int)≤4*(t:Int)+1:=by omega
   have d2:(0:Int)≤4*(t:Int)+2:=by omega
   have d3:(0:Int)≤4*(t:Int)+3:=by omega
   have hcv:=IK (byteAt b (4*t)) (byteAt b (4*t+1)) (byteAt b (4*t+2)) (byteAt b (4*t+3));have HCV:=O hcv;clear hcv;go_wp2
   first |refine dJ 35 (by kernel_rfl) (by kernel_rfl) ?_|refine dD 35 (by kernel_rfl) (by kernel_rfl) ?_
   simp only[F_,c_,J_,L_]
   repeat (go_big_quiet_step (fail))
   refine h_ ?_;rintro _ ⟨nq,rfl⟩;go_wp2;go_roundw
   case rel=>exact⟨t+1,by omega,by go_num,nq,by rw[←HCV.out,qq b t (by omega) _ (by rw[G_ h16];rfl)]⟩
   case measure=>simp[intOf];omega
  ·have he:t=16:=by omega
   subst he
   have hd:decide (((16:Nat):Int)<16)=false:=by decide
   clear ht h16 hel;go_wp2
   go_loopw [5] (fun i wr=>∃t:Nat,16≤t∧t≤64∧i = .int .i64 t∧∃n,wr=((w.alloc (.cells (row z64) 213)).alloc (.cells (row (ext b t)) 213)).drewN n) (fun i _=>64-(intOf i).toNat)
   case atStart=>exact⟨16,by omega,by omega,rfl,n,rfl⟩
   case round =>
    obtain⟨t,hlo,ht,rfl,n,rfl⟩:=hrel;clear hd;have hel:=yT b t ht
    by_cases hlt:t<64
    ·have hd:decide ((t:Int)<64)=true:=by simp;omega
     have q15:(t:Int)-15=((t-15:Nat):Int):=by omega
     have q2:(t:Int)-2=((t-2:Nat):Int):=by omega
     have q16:(t:Int)-16=((t-16:Nat):Int):=by omega
     have q7:(t:Int)-7=((t-7:Nat):Int):=by omega
     have i15:t-15<64:=by omega
     have i2:t-2<64:=by omega
     have i16:t-16<64:=by omega
     have i7:t-7<64:=by omega
     have r7:∀(x:UInt32) (w:World),Calls prog 163 #[.int .u32 (W32 x),.int .i64 7] w fun e w'=>e = .returned (.int .u32 (W32 (rr x 7)))∧∃n,w'=w.drewN n:=fun x w=>kQ x 7 (by omega) (by omega) w;have r18:∀(x:UInt32) (w:World),Calls prog 163 #[.int .u32 (W32 x),.int .i64 18] w fun e w'=>e = .returned (.int .u32 (W32 (rr x 18)))∧∃n,w'=w.drewN n:=fun x w=>kQ x 18 (by omega) (by omega) w;have r17:∀(x:UInt32) (w:World),Calls prog 163 #[.int .u32 (W32 x),.int .i64 17] w fun e w'=>e = .returned (.int .u32 (W32 (rr x 17)))∧∃n,w'=w.drewN n:=fun x w=>kQ x 17 (by omega) (by omega) w;have r19:∀(x:UInt32) (w:World),Calls prog 163 #[.int .u32 (W32 x),.int .i64 19] w fun e w'=>e = .returned (.int .u32 (W32 (rr x 19)))∧∃n,w'=w.drewN n:=fun x w=>kQ x 19 (by omega) (by omega) w;have R7:=O r7;have R18:=O r18;have R17:=O r17;have R19:=O r19;clear r7 r18 r17 r19;go_wp2
     first |refine fR (by kernel_rfl) (by kernel_rfl) ?_|refine fG (by kernel_rfl) (by kernel_rfl) ?_
     repeat (first
      | go_big_quiet_step ((go_at_call 163;exact Calls.quiet_of (R7.out _ _)))
      | go_big_quiet_step ((go_at_call 163;exact Calls.quiet_of (R18.out _ _))))
     refine h_ ?_;rintro _ ⟨nq,rfl⟩;go_wp2
     first |refine fR (by kernel_rfl) (by kernel_rfl) ?_|refine fG (by kernel_rfl) (by kernel_rfl) ?_
     repeat (first
      | go_big_quiet_step ((go_at_call 163;exact Calls.quiet_of (R17.out _ _)))
      | go_big_quiet_step ((go_at_call 163;exact Calls.quiet_of (R19.out _ _))))
     refine h_ ?_;rintro _ ⟨nq,rfl⟩;go_wp2
     first |refine dJ 15 (by kernel_rfl) (by kernel_rfl) ?_|refine dD 15 (by kernel_rfl) (by kernel_rfl) ?_
     simp only[F_,c_,J_,L_]
     repeat (go_big_quiet_step (fail))
     refine h_ ?_;rintro _ ⟨nq,rfl⟩;go_wp2;go_roundw
     case rel =>
      refine⟨t+1,by omega,by omega,by go_num,nq,?_⟩;rw[←qq b t hlt (xP (sch b t)) (by rw[H_ (by omega)]),xQ,←ext_at b t (t-16) (by omega),←ext_at b t (t-15) (by omega),←ext_at b t (t-7) (by omega),←ext_at b t (t-2) (by omega)]
      rfl
     case measure=>simp[intOf];omega
    ·have he:t=64:=by omega
     subst he
     go_wp2_with (first
      |(refine Kl rfl (.tmp 3) rfl _ rfl _ 213 (dL _ _ _ _) hel ?_)
      |(refine L6 rfl (.tmp 2) (.tmp 100) rfl _ _ rfl rfl 213 _ (cF _ _ _ _) (by rw[co];exact tS) hel ?_))
     refine g_ (v := .agg (row _)) (Lm rfl _ _ _ _ _ rfl (setRow_heap _ _ _ _ _ _ (cF _ _ _ _)) hel) rfl ⟨by rw[AU],?_⟩;exact below_setRow (ak _ (((O_ _ _).alloc (A_ _) _).alloc (by simp) _)) (by omega) _
end
section
open Go.RowKit
attribute [local irreducible] Calls
theorem K0 (v:Value) (m:List UInt8) (w:World) (hv:RdE eB w v m) (hlen:m.length≤500000) :
  Calls prog 161 #[v] w fun e w'=>∃v',e = .returned v'∧ap eB w' w.heap.size v' (gj m)∧Below w.heap.size w w':=by
 have HV:=O hv;obtain⟨av,capv,rfl,hcapv,hcmv,_⟩:=hv;have HLEN:=O hlen;have HE:=O (yQ (E:=eB) w rfl)
 have hml:(m.length:Int)≤500000:=by omega
 have HB0:=O ((O_ w.heap.size w).alloc (A_ _) (.cells #[] 5));have HVA:=O (HV.out.alloc (.cells #[] 5));clear hcapv hcmv
 go_enter func161,ntmps161
 go_wp2_with (first
  |(at_builtin;refine br aN rfl (.tmp 6) (.tmp 7) rfl w.heap.size _ [] rfl HE.out (.slice av m.length capv) m rfl HVA.out (by have := HLEN.out;simp;omega) (by simp) ?_;intro v1 w1 ho1 hg1 hloc1;have HB1:=O (HB0.out.trans (HE.out.below hg1 (by simp)));have HO1:Hid (ap eB w1 w.heap.size v1 m):=(O ho1);obtain⟨a1,c1,rfl⟩:=ho1.rd.form1 (n:=m.length) (by simp);clear ho1 hg1 hloc1)
  |(at_builtin;refine br aN rfl (.tmp 9) (.tmp 10) rfl w.heap.size _ m rfl (HO1.out.on ((O_ _ _).alloc (A_ _) _)) (.slice (some ⟨w1.heap.size,0,none⟩) 1 1) [128] rfl (bP w1 (128:UInt8) aN) (by have := HLEN.out;simp;omega) (by have := HB1.out.size;simp;omega) ?_;intro v2 w2 ho2 hg2 hloc2;have HB2:=O (HB1.out.trans (((O_ _ _).alloc (A_ _) (.cells #[.int .u8 128] 5)).mono HB1.out.size |>.trans ((HO1.out.on ((O_ _ _).alloc (A_ _) _)).below hg2 (by have := HB1.out.size;simp;omega))));have HO2:Hid (ap eB w2 w.heap.size v2 (m++[128])):=(O ho2);obtain⟨a2,c2,rfl⟩:=ho2.rd.form1 (n:=m.length+1) (by simp);clear ho2 hg2 hloc2))
 go_loopw [3] (fun o wr=>∃j:Nat,j≤kS m.length∧(∃a cap,o = .slice a (m.length+1+j) cap)∧Hid (ap eB wr w.heap.size o (m++[128]++List.replicate j 0))∧Hid (Below w.heap.size w wr)) (fun o _=>1000000-iZ o)
 case atStart=>exact⟨0,N_ _,⟨_,_,rfl⟩,by simpa using HO2,HB2⟩
 case round =>
  obtain⟨j,hj,⟨a,cap,rfl⟩,hown,hbw⟩:=hrel;have hzl:=jz m.length;have hz1:=FL m.length j hj;have HW:=O hbw.out.size
  have jb2:(j:Int)≤63:=by omega
  by_cases hq:j=kS m.length
  ·have tq:((m.length:Int)+1+(j:Int)) % 64=56:=by have := hz1.2 hq;omega
   have tq2:(((m.length:Int)+1+(j:Int)) % 64 != 56)=false:=by rw[tq];rfl
   have HQ:=O hq
   have hmul:(8:Int)*(m.length:Int) % 18446744073709551616=((8*m.length:Nat):Int):=by omega
   clear hz1 tq hj hq;go_wp2;have hown1:Hid (ap eB wr w.heap.size (.slice a (m.length+1+j) cap) (m++[128]++List.replicate (kS m.length) 0)):=O (by rw[←HQ.out];exact hown.out);have HPL:Hid ((m++[128]++List.replicate (kS m.length) 0:List UInt8).length=m.length+1+j):=O (by have := HQ.out;simp;omega);have HP0:Hid ((m++[128]++List.replicate (kS m.length) 0:List UInt8).length≤600000):=O (by have := jz m.length;have := HLEN.out;simp;omega);have HPD:Hid ((m++[128]++List.replicate (kS m.length) 0)++be8 (8*m.length)=gj m):=O (by unfold gj;simp only[R_]);generalize (m++[128]++List.replicate (kS m.length) 0:List UInt8)=P0 at hown1 HP0 HPL HPD
   have hn0:0≤8*(m.length:Int):=by omega
   have hn1:8*(m.length:Int)<18446744073709551616:=by omega
   clear hml hlen hmul;generalize hNI:8*(m.length:Int)=NI at hn0 hn1 ⊢;have HNI:Hid (NI=8*(m.length:Int)):=O hNI.symm;clear hNI
   go_loopw [5,3] (fun o u wr=>∃i:Nat,i≤8∧o = .int .i64 i∧(∃a cap,u = .slice a (m.length+1+j+i) cap)∧Hid (ap eB wr w.heap.size u (P0++(be8 (8*m.length)).take i))∧Hid (Below w.heap.size w wr)) (fun o _ _=>8-(intOf o).toNat)
   case atStart=>exact⟨0,by omega,rfl,⟨_,_,rfl⟩,by simpa using hown1,hbw⟩
   case round =>
    obtain⟨i,hi,rfl,⟨a2,cap2,rfl⟩,hown2,hbw2⟩:=hrel;have HW3:=O hbw2.out.size
    rcases (by omega:i=0∨i=1∨i=2∨i=3∨i=4∨i=5∨i=6∨i=7∨i=8) with rfl|rfl|rfl|rfl|rfl|rfl|rfl|rfl|rfl
    ·have et:(be8 (8*m.length)).take (0+1)=(be8 (8*m.length)).take 0++[UInt8.ofNat (8*m.length / 2 ^ 56)]:=rfl
     have ev:NI / 72057594037927936 % 256=B8 (UInt8.ofNat (8*m.length / 2 ^ 56)):=by rw[eF,HNI.out];omega
     have ev0:NI / 72057594037927936=B8 (UInt8.ofNat (8*m.length / 2 ^ 56)):=by rw[←ev];omega
     generalize hc:UInt8.ofNat (8*m.length / 2 ^ 56)=c at et ev ev0;have em:B8 c % 256=B8 c:=cI c;have ET:=O et;clear et hc
     go_wp2_with (at_builtin;go_loud (refine br aN rfl (.tmp 27) (.tmp 34) rfl w.heap.size _ _ rfl (hown2.out.on ((O_ _ _).alloc (A_ _) _)) (.slice (some ⟨wr.heap.size,0,none⟩) 1 1) [c] rfl (bP wr c aN) (by have := HP0.out;simp;omega) (by have := HW3.out;simp;omega) ?_);intro v5 w4 ho4 hg4 hloc;have HB4:=O (hbw2.out.trans (((O_ wr.heap.size wr).alloc (A_ _) (.cells #[.int .u8 (B8 c)] 5)).mono HW3.out |>.trans ((hown2.out.on ((O_ _ _).alloc (A_ _) _)).below hg4 (by have := HW3.out;simp;omega))));have HO4:=O ho4;clear ho4 hg4 hloc)
     go_roundw
     case rel=>exact⟨1,by decide,by go_num,HO4.out.rd.form1 (by have := HP0.out;have := HPL.out;simp[be8];omega),O (by have h:=HO4.out;rw[R_,←ET.out] at h;exact h),HB4⟩
     case measure=>simp[intOf]
    ·have et:(be8 (8*m.length)).take (1+1)=(be8 (8*m.length)).take 1++[UInt8.ofNat (8*m.length / 2 ^ 48)]:=rfl
     have ev:NI / 281474976710656 % 256=B8 (UInt8.ofNat (8*m.length / 2 ^ 48)):=by rw[eF,HNI.out];omega
     skip
     generalize hc:UInt8.ofNat (8*m.length / 2 ^ 48)=c at et ev;have em:B8 c % 256=B8 c:=cI c;have ET:=O et;clear et hc
     go_wp2_with (at_builtin;go_loud (refine br aN rfl (.tmp 27) (.tmp 34) rfl w.heap.size _ _ rfl (hown2.out.on ((O_ _ _).alloc (A_ _) _)) (.slice (some ⟨wr.heap.size,0,none⟩) 1 1) [c] rfl (bP wr c aN) (by have := HP0.out;simp;omega) (by have := HW3.out;simp;omega) ?_);intro v5 w4 ho4 hg4 hloc;have HB4:=O (hbw2.out.trans (((O_ wr.heap.size wr).alloc (A_ _) (.cells #[.int .u8 (B8 c)] 5)).mono HW3.out |>.trans ((hown2.out.on ((O_ _ _).alloc (A_ _) _)).below hg4 (by have := HW3.out;simp;omega))));have HO4:=O ho4;clear ho4 hg4 hloc)
     go_roundw
     case rel=>exact⟨2,by decide,by go_num,HO4.out.rd.form1 (by have := HP0.out;have := HPL.out;simp[be8];omega),O (by have h:=HO4.out;rw[R_,←ET.out] at h;exact h),HB4⟩
     case measure=>simp[intOf]
    ·have et:(be8 (8*m.length)).take (2+1)=(be8 (8*m.length)).take 2++[UInt8.ofNat (8*m.length / 2 ^ 40)]:=rfl
     have ev:NI / 1099511627776 % 256=B8 (UInt8.ofNat (8*m.length / 2 ^ 40)):=by rw[eF,HNI.out];omega
     skip
     generalize hc:UInt8.ofNat (8*m.length / 2 ^ 40)=c at et ev;have em:B8 c % 256=B8 c:=cI c;have ET:=O et;clear et hc
     go_wp2_with (at_builtin;go_loud (refine br aN rfl (.tmp 27) (.tmp 34) rfl w.heap.size _ _ rfl (hown2.out.on ((O_ _ _).alloc (A_ _) _)) (.slice (some ⟨wr.heap.size,0,none⟩) 1 1) [c] rfl (bP wr c aN) (by have := HP0.out;simp;omega) (by have := HW3.out;simp;omega) ?_);intro v5 w4 ho4 hg4 hloc;have HB4:=O (hbw2.out.trans (((O_ wr.heap.size wr).alloc (A_ _) (.cells #[.int .u8 (B8 c)] 5)).mono HW3.out |>.trans ((hown2.out.on ((O_ _ _).alloc (A_ _) _)).below hg4 (by have := HW3.out;simp;omega))));have HO4:=O ho4;clear ho4 hg4 hloc)
     go_roundw
     case rel=>exact⟨3,by decide,by go_num,HO4.out.rd.form1 (by have := HP0.out;have := HPL.out;simp[be8];omega),O (by have h:=HO4.out;rw[R_,←ET.out] at h;exact h),HB4⟩
     case measure=>simp[intOf]
    ·have et:(be8 (8*m.length)).take (3+1)=(be8 (8*m.length)).take 3++[UInt8.ofNat (8*m.length / 2 ^ 32)]:=rfl
     have ev:NI / 4294967296 % 256=B8 (UInt8.ofNat (8*m.length / 2 ^ 32)):=by rw[eF,HNI.out];omega
     skip
     generalize hc:UInt8.ofNat (8*m.length / 2 ^ 32)=c at et ev;have em:B8 c % 256=B8 c:=cI c;have ET:=O et;clear et hc
     go_wp2_with (at_builtin;go_loud (refine br aN rfl (.tmp 27) (.tmp 34) rfl w.heap.size _ _ rfl (hown2.out.on ((O_ _ _).alloc (A_ _) _)) (.slice (some ⟨wr.heap.size,0,none⟩) 1 1) [c] rfl (bP wr c aN) (by have := HP0.out;simp;omega) (by have := HW3.out;simp;omega) ?_);intro v5 w4 ho4 hg4 hloc;have HB4:=O (hbw2.out.trans (((O_ wr.heap.size wr).alloc (A_ _) (.cells #[.int .u8 (B8 c)] 5)).mono HW3.out |>.trans ((hown2.out.on ((O_ _ _).alloc (A_ _) _)).below hg4 (by have := HW3.out;simp;omega))));have HO4:=O ho4;clear ho4 hg4 hloc)
     go_roundw
     case rel=>exact⟨4,by decide,by go_num,HO4.out.rd.form1 (by have := HP0.out;have := HPL.out;simp[be8];omega),O (by have h:=HO4.out;rw[R_,←ET.out] at h;exact h),HB4⟩
     case measure=>simp[intOf]
    ·have et:(be8 (8*m.length)).take (4+1)=(be8 (8*m.length)).take 4++[UInt8.ofNat (8*m.length / 2 ^ 24)]:=rfl
     have ev:NI / 16777216 % 256=B8 (UInt8.ofNat (8*m.length / 2 ^ 24)):=by rw[eF,HNI.out];omega
     skip
     generalize hc:UInt8.ofNat (8*m.length / 2 ^ 24)=c at et ev;have em:B8 c % 256=B8 c:=cI c;have ET:=O et;clear et hc
     go_wp2_with (at_builtin;go_loud (refine br aN rfl (.tmp 27) (.tmp 34) rfl w.heap.size _ _ rfl (hown2.out.on ((O_ _ _).alloc (A_ _) _)) (.slice (some ⟨wr.heap.size,0,none⟩) 1 1) [c] rfl (bP wr c aN) (by have := HP0.out;simp;omega) (by have := HW3.out;simp;omega) ?_);intro v5 w4 ho4 hg4 hloc;have HB4:=O (hbw2.out.trans (((O_ wr.heap.size wr).alloc (A_ _) (.cells #[.int .u8 (B8 c)] 5)).mono HW3.out |>.trans ((hown2.out.on ((O_ _ _).alloc (A_ _) _)).below hg4 (by have := HW3.out;simp;omega))));have HO4:=O ho4;clear ho4 hg4 hloc)
     go_roundw
     case rel=>exact⟨5,by decide,by go_num,HO4.out.rd.form1 (by have := HP0.out;have := HPL.out;simp[be8];omega),O (by have h:=HO4.out;rw[R_,←ET.out] at h;exact h),HB4⟩
     case measure=>simp[intOf]
    ·have et:(be8 (8*m.length)).take (5+1)=(be8 (8*m.length)).take 5++[UInt8.ofNat (8*m.length / 2 ^ 16)]:=rfl
     have ev:NI / 65536 % 256=B8 (UInt8.ofNat (8*m.length / 2 ^ 16)):=by rw[eF,HNI.out];omega
     skip
     generalize hc:UInt8.ofNat (8*m.length / 2 ^ 16)=c at et ev;have em:B8 c % 256=B8 c:=cI c;have ET:=O et;clear et hc
     go_wp2_with (at_builtin;go_loud (refine br aN rfl (.tmp 27) (.tmp 34) rfl w.heap.size _ _ rfl (hown2.out.on ((O_ _ _).alloc (A_ _) _)) (.slice (some ⟨wr.heap.size,0,none⟩) 1 1) [c] rfl (bP wr c aN) (by have := HP0.out;simp;omega) (by have := HW3.out;simp;omega) ?_);intro v5 w4 ho4 hg4 hloc;have HB4:=O (hbw2.out.trans (((O_ wr.heap.size wr).alloc (A_ _) (.cells #[.int .u8 (B8 c)] 5)).mono HW3.out |>.trans ((hown2.out.on ((O_ _ _).alloc (A_ _) _)).below hg4 (by have := HW3.out;simp;omega))));have HO4:=O ho4;clear ho4 hg4 hloc)
     go_roundw
     case rel=>exact⟨6,by decide,by go_num,HO4.out.rd.form1 (by have := HP0.out;have := HPL.out;simp[be8];omega),O (by have h:=HO4.out;rw[R_,←ET.out] at h;exact h),HB4⟩
     case measure=>simp[intOf]
    ·have et:(be8 (8*m.length)).take (6+1)=(be8 (8*m.length)).take 6++[UInt8.ofNat (8*m.length / 2 ^ 8)]:=rfl
     have ev:NI / 256 % 256=B8 (UInt8.ofNat (8*m.length / 2 ^ 8)):=by rw[eF,HNI.out];omega
     skip
     generalize hc:UInt8.ofNat (8*m.length / 2 ^ 8)=c at et ev;have em:B8 c % 256=B8 c:=cI c;have ET:=O et;clear et hc
     go_wp2_with (at_builtin;go_loud (refine br aN rfl (.tmp 27) (.tmp 34) rfl w.heap.size _ _ rfl (hown2.out.on ((O_ _ _).alloc (A_ _) _)) (.slice (some ⟨wr.heap.size,0,none⟩) 1 1) [c] rfl (bP wr c aN) (by have := HP0.out;simp;omega) (by have := HW3.out;simp;omega) ?_);intro v5 w4 ho4 hg4 hloc;have HB4:=O (hbw2.out.trans (((O_ wr.heap.size wr).alloc (A_ _) (.cells #[.int .u8 (B8 c)] 5)).mono HW3.out |>.trans ((hown2.out.on ((O_ _ _).alloc (A_ _) _)).below hg4 (by have := HW3.out;simp;omega))));have HO4:=O ho4;clear ho4 hg4 hloc)
     go_roundw
     case rel=>exact⟨7,by decide,by go_num,HO4.out.rd.form1 (by have := HP0.out;have := HPL.out;simp[be8];omega),O (by have h:=HO4.out;rw[R_,←ET.out] at h;exact h),HB4⟩
     case measure=>simp[intOf]
    ·have et:(be8 (8*m.length)).take (7+1)=(be8 (8*m.length)).take 7++[UInt8.ofNat (8*m.length / 2 ^ 0)]:=rfl
     have ev:NI % 256=B8 (UInt8.ofNat (8*m.length / 2 ^ 0)):=by rw[eF,HNI.out];omega
     skip
     generalize hc:UInt8.ofNat (8*m.length / 2 ^ 0)=c at et ev;have em:B8 c % 256=B8 c:=cI c;have ET:=O et;clear et hc
     go_wp2_with (at_builtin;go_loud (refine br aN rfl (.tmp 27) (.tmp 34) rfl w.heap.size _ _ rfl (hown2.out.on ((O_ _ _).alloc (A_ _) _)) (.slice (some ⟨wr.heap.size,0,none⟩) 1 1) [c] rfl (bP wr c aN) (by have := HP0.out;simp;omega) (by have := HW3.out;simp;omega) ?_);intro v5 w4 ho4 hg4 hloc;have HB4:=O (hbw2.out.trans (((O_ wr.heap.size wr).alloc (A_ _) (.cells #[.int .u8 (B8 c)] 5)).mono HW3.out |>.trans ((hown2.out.on ((O_ _ _).alloc (A_ _) _)).below hg4 (by have := HW3.out;simp;omega))));have HO4:=O ho4;clear ho4 hg4 hloc)
     go_roundw
     case rel=>exact⟨8,by decide,by go_num,HO4.out.rd.form1 (by have := HP0.out;have := HPL.out;simp[be8];omega),O (by have h:=HO4.out;rw[R_,←ET.out] at h;exact h),HB4⟩
     case measure=>simp[intOf]
    ·have HR:Hid (ap eB wr w.heap.size (.slice a2 (m.length+1+j+8) cap2) (gj m)):=O (by rw[←HPD.out];exact hown2.out)
     go_wp2;go_ret;exact⟨_,rfl,HR.out,hbw2.out⟩
  ·have tq:¬((m.length:Int)+1+(j:Int)) % 64=56:=by intro h;exact hq (hz1.1 (by omega))
   have tq2:(((m.length:Int)+1+(j:Int)) % 64 != 56)=true:=by simpa using tq
   have HJ:Hid (j+1≤kS m.length):=O (by omega);clear hz1 hq tq hj
   go_wp2_with (at_builtin;(refine br aN rfl (.tmp 16) (.tmp 17) rfl w.heap.size (.slice a (m.length+1+j) cap) (m++[128]++List.replicate j 0) rfl (hown.out.on ((O_ _ _).alloc (A_ _) _)) (.slice (some ⟨wr.heap.size,0,none⟩) 1 1) [0] rfl (bP wr (0:UInt8) aN) (by simp;have := jz m.length;have := HJ.out;have := HLEN.out;omega) (by have := HW.out;simp;omega) ?_);intro v5 w4 ho4 hg4 hloc;have HB4:=O (hbw.out.trans (((O_ wr.heap.size wr).alloc (A_ _) (.cells #[.int .u8 0] 5)).mono HW.out |>.trans ((hown.out.on ((O_ _ _).alloc (A_ _) _)).below hg4 (by have := HW.out;simp;omega))));have HO4:=O ho4;clear ho4 hg4 hloc)
   go_roundw
   case rel=>exact⟨j+1,HJ.out,HO4.out.rd.form1 (by simp;omega),O (by have h:=HO4.out;rw[R_,←List.replicate_succ'] at h;exact h),HB4⟩
   case measure =>
    obtain⟨a5,c5,e5⟩:=HO4.out.rd.form1 (n:=m.length+1+j+1) (by simp;omega);have := HJ.out;have := jz m.length;have := HLEN.out
    show 1000000-iZ v5<1000000-iZ (.slice a (m.length+1+j) cap)
    rw[e5];simp only[iZ]
    omega
end
section
open Go.RowKit
def cA (w:World):Prop:=∃t,w.heap[1]?=some (.cells (row KK) t (0,0))
theorem cA.lt {w:World} (h:cA w):1<w.heap.size:=by obtain⟨t,h⟩:=h;exact(Q_.1 h).1
theorem cA.on {w w':World} (h:cA w) (hb:Below w.heap.size w w'):cA w':=by
 have hlt:=h.lt;unfold cA;rw[hb.block _ hlt];exact h
theorem O7 {w:World} {ai:Nat} {v:Value} {l:List UInt8} (h:ap eB w ai v l) (h0:0<l.length) :
  ∃b cap X,v = .slice (some ⟨b,0,none⟩) l.length cap∧l.length≤cap∧cap≤maxLen∧ai≤b∧w.heap[b]?=some X∧∀w':World,w'.heap[b]?=some X→RdE eB w' (.slice (some ⟨b,0,none⟩) l.length cap) l:=by
 rcases h.2 with⟨rfl,hn⟩|⟨g,cap,cur,rfl,hb,hg,h1,h2,h3,h4⟩
 ·omega
 ·refine⟨g,cap,_,rfl,h1,h2,hb,hg,fun w' hw' => ?_⟩
  exact ap.rd (ai:=ai) (⟨h.1,.inr ⟨g,cap,cur,rfl,hb,hw',h1,h2,h3,h4⟩⟩:ap eB w' ai _ l)
theorem Lh {w:World} {b cap n:Nat} {l:List UInt8} (h:RdE eB w (.slice (some ⟨b,0,none⟩) n cap) l) (k:Nat) (hk:k+64≤l.length) (c:Nat) (hc1:64≤c) (hc2:c≤maxLen):RdE eB w (.slice (some ⟨b,k,none⟩) 64 c) ((l.drop k).take 64):=by
 obtain⟨a',c',e,h1,h2,h3⟩:=h
 cases e
 obtain⟨b2,off,e,hlt,hcell⟩:=h3 (by omega)
 cases e
 have hl:((l.drop k).take 64).length=64:=by rw[b_,S_];omega
 refine⟨_,c,by rw[hl],by rw[hl];exact hc1,hc2,fun _=>⟨b,k,rfl,hlt,fun j u hu => ?_⟩⟩;rw[mU] at hu hcell
 have hj:j<64:=by have := (d_.1 hu).1;rw[iP,hl] at this;exact this
 have := hcell (k+j) u (by rw[←hu];unfold bcs;rw[List.getElem?_map,List.getElem?_map,List.getElem?_take,G_ hj,List.getElem?_drop])
 rwa [a_] at this
structure RW (w:World) (b0:Nat) (X:Obj) (S:List UInt32) (wr:World):Prop where
 k:cA wr
 r:wr.heap[w.heap.size]?=some (.cells (brow z32) 139 (0,0))
 s:wr.heap[w.heap.size+1]?=some (.cells (row S) 131 (0,0))
 p:wr.heap[b0]?=some X
 hb:w.heap.size+1<b0
 below:Below w.heap.size w wr
 ls:S.length=8
theorem RW.on {w wr w':World} {b0:Nat} {X:Obj} {S:List UInt32} (h:RW w b0 X S wr) (hb:Below wr.heap.size wr w'):RW w b0 X S w' :=
 ⟨h.k.on hb,by rw[hb.block _ (Q_.1 h.r).1];exact h.r,by rw[hb.block _ (Q_.1 h.s).1];exact h.s,by rw[hb.block _ (Q_.1 h.p).1];exact h.p,h.hb,h.below.trans (hb.mono h.below.size),h.ls⟩
structure VW (w:World) (b0:Nat) (X:Obj) (S:List UInt32) (gt gv:Nat) (ws V:List UInt32) (wr:World):Prop extends RW w b0 X S wr where
 t:wr.heap[gt]?=some (.cells (row ws) 213 (0,0))
 v:wr.heap[gv]?=some (.cells (row V) 131 (0,0))
 ht:b0<gt
 hv:gt<gv
 lt:ws.length=64
 lv:V.length=8
theorem VW.drew {w wr:World} {b0:Nat} {X:Obj} {S:List UInt32} {gt gv:Nat} {ws V:List UInt32} (h:VW w b0 X S gt gv ws V wr) (n:Nat):VW w b0 X S gt gv ws V (wr.drewN n) :=
 ⟨⟨h.k,h.r,h.s,h.p,h.hb,ak n h.below,h.ls⟩,h.t,h.v,h.ht,h.hv,h.lt,h.lv⟩
theorem VW.setV {w wr w':World} {b0:Nat} {X:Obj} {S:List UInt32} {gt gv:Nat} {ws V V':List UInt32} (h:VW w b0 X S gt gv ws V wr) (hl:V'.length=8) (hg:w'.heap[gv]?=some (.cells (row V') 131 (0,0))) (ho:∀k,k≠gv→w'.heap[k]? = wr.heap[k]?) (hb:∀B,B≤gv→Below B wr w'):VW w b0 X S gt gv ws V' w':=by
 have h1:=h.hb;have h2:=h.ht;have h3:=h.hv;exact⟨⟨by unfold cA;rw[ho _ (by omega)];exact h.k,by rw[ho _ (by omega)];exact h.r,by rw[ho _ (by omega)];exact h.s,by rw[ho _ (by omega)];exact h.p,h.hb,h.below.trans (hb _ (by omega)),h.ls⟩,by rw[ho _ (by omega)];exact h.t,hg,h.ht,h.hv,h.lt,hl⟩
theorem VW.setS {w wr:World} {b0:Nat} {X:Obj} {S:List UInt32} {gt gv:Nat} {ws V:List UInt32} (h:VW w b0 X S gt gv ws V wr) (h0:1<w.heap.size) (i:Nat) (x:UInt32):VW w b0 X (S.set i x) gt gv ws V (wr.setCell ⟨w.heap.size+1,i,none⟩ (.int .u32 (W32 x))):=by
 have h1:=h.hb;have h2:=h.ht;have h3:=h.hv;rw[au _ _ _ _ _ _ _ h.s]
 have e:(row S).setIfInBounds i (.int .u32 (W32 x))=row (S.set i x):=by
  unfold row
  apply Array.ext'
  rw[Array.toList_setIfInBounds]
  simp[List.map_set]
 rw[e];exact⟨⟨by unfold cA;rw[aj _ _ _ _ (by omega)];exact h.k,by rw[aj _ _ _ _ (by omega)];exact h.r,setRow_heap _ _ _ _ _ _ h.s,by rw[aj _ _ _ _ (by omega)];exact h.p,h.hb,h.below.trans (aK (by omega)),by rw[List.length_set];exact h.ls⟩,by rw[aj _ _ _ _ (by omega)];exact h.t,by rw[aj _ _ _ _ (by omega)];exact h.v,h.ht,h.hv,h.lt,h.lv⟩
theorem VW.vc {w wr:World} {b0:Nat} {X:Obj} {S:List UInt32} {gt gv:Nat} {ws V:List UInt32} (h:VW w b0 X S gt gv ws V wr) (i:Nat) (hi:i<8):wr.cell? ⟨gv,i,none⟩=some (.int .u32 (W32 (w16 V i))):=by
 have hl:=h.lv;rw[e_ _ _ _ _ _ _ h.v]
 simp[row,w16,show i<V.length by omega]
theorem VW.sc {w wr:World} {b0:Nat} {X:Obj} {S:List UInt32} {gt gv:Nat} {ws V:List UInt32} (h:VW w b0 X S gt gv ws V wr) (i:Nat) (hi:i<8):wr.cell? ⟨w.heap.size+1,i,none⟩=some (.int .u32 (W32 (w16 S i))):=by
 have hl:=h.ls;rw[e_ _ _ _ _ _ _ h.s]
 simp[row,w16,show i<S.length by omega]
theorem VW.tc {w wr:World} {b0:Nat} {X:Obj} {S:List UInt32} {gt gv:Nat} {ws V:List UInt32} (h:VW w b0 X S gt gv ws V wr) (i:Nat) (hi:i<64):wr.cell? ⟨gt,i,none⟩=some (.int .u32 (W32 (wd ws i))):=by
 have hl:=h.lt;rw[e_ _ _ _ _ _ _ h.t]
 simp[row,wd,show i<ws.length by omega]
theorem VW.kc {w wr:World} {b0:Nat} {X:Obj} {S:List UInt32} {gt gv:Nat} {ws V:List UInt32} (h:VW w b0 X S gt gv ws V wr) (i:Nat) (hi:i<64):wr.cell? ⟨1,i,none⟩=some (.int .u32 (W32 (wd KK i))):=by
 have hl:=lB;obtain⟨tk,hk⟩:=h.k;rw[e_ _ _ _ _ _ _ hk]
 simp[row,wd,show i<KK.length by omega]
theorem Tu:row (hs iv) = #[.int .u32 1779033703,.int .u32 3144134277,.int .u32 1013904242,.int .u32 2773480762,.int .u32 1359893119,.int .u32 2600822924,.int .u32 528734635,.int .u32 1541459225]:=rfl
def z8:List UInt32:=List.replicate 8 0
theorem Qm:(prog.info? 131).map (·.zero)=some (some (.agg (row z8))):=by kernel_rfl
theorem Ud (w:World):(zeroValue 131).run prog w = .ok (.agg (row z8)) w:=by
 have h:=Qm;generalize row z8=L at h ⊢
 cases hq:prog.info? 131 with
 | none=>rw[hq] at h;cases h
 | some i =>
   rw[hq] at h
   simp at h
   simp[zeroValue,typeInfo,hq,h]
theorem Lr {w w1:World} {b0:Nat} {X:Obj} (hk:cA w) (hb:Below ((w.alloc (.cells (brow z32) 139)).alloc (.cells (row (hs iv)) 131)).heap.size ((w.alloc (.cells (brow z32) 139)).alloc (.cells (row (hs iv)) 131)) w1)
  (hX:w1.heap[b0]?=some X) (h0:((w.alloc (.cells (brow z32) 139)).alloc (.cells (row (hs iv)) 131)).heap.size≤b0):RW w b0 X (hs iv) w1:=by
 have hs0:=h0;simp only[World.size_alloc] at hs0;have hA:Below w.heap.size w ((w.alloc (.cells (brow z32) 139)).alloc (.cells (row (hs iv)) 131)):=((O_ _ _).alloc (A_ _) _).alloc (by simp) _;exact⟨(hk.on hA).on hb,by rw[hb.block _ (by simp only[World.size_alloc];omega)];exact cF w _ _ 0,by rw[hb.block _ (by simp only[World.size_alloc];omega)];exact dL w _ _ 0,hX,by omega,hA.trans (hb.mono hA.size),rfl⟩
theorem Mx {w w2 w3 w4:World} {b0:Nat} {X:Obj} {S ws:List UInt32} (h2:RW w b0 X S w2) (h3:RW w b0 X S w3) (ht:w3.heap[w2.heap.size]?=some (.cells (row ws) 213 (0,0))) (lt:ws.length=64)
  (hg:w4.heap[w3.heap.size]?=some (.cells (row S) 131 (0,0))) (hb:Below w3.heap.size w3 w4):VW w b0 X S w2.heap.size w3.heap.size ws S w4 :=
 ⟨h3.on hb,by rw[hb.block _ (Q_.1 ht).1];exact ht,hg,(Q_.1 h2.p).1,(Q_.1 ht).1,lt,h3.ls⟩
theorem La (a b c d e f g h:UInt32):row (hs ⟨a,b,c,d,e,f,g,h⟩)=q8 a b c d e f g h:=rfl
theorem NL (a b c d e f g h:UInt32):prog.built 131 [(0,.int .u32 (W32 a)),(1,.int .u32 (W32 b)),(2,.int .u32 (W32 c)),(3,.int .u32 (W32 d)),(4,.int .u32 (W32 e)),(5,.int .u32 (W32 f)),(6,.int .u32 (W32 g)),(7,.int .u32 (W32 h))]=some (q8 a b c d e f g h):=by kernel_rfl
theorem Vt {ops:Array Oper} {rest:List Oper} {o:Oper} {a:Act} {w:World} {Q:Exit→Act→World→Prop} (hg:o.guard=none) (x0 x1 x2 x3 x4 x5 x6 x7:Operand) (ho:o.op = .build 131 #[(0,x0),(1,x1),(2,x2),(3,x3),(4,x4),(5,x5),(6,x6),(7,x7)])
  (v0 v1 v2 v3 v4 v5 v6 v7:UInt32) (h0:a.eval x0 = .int .u32 (W32 v0)) (h1:a.eval x1 = .int .u32 (W32 v1)) (h2:a.eval x2 = .int .u32 (W32 v2)) (h3:a.eval x3 = .int .u32 (W32 v3)) (h4:a.eval x4 = .int .u32 (W32 v4)) (h5:a.eval x5 = .int .u32 (W32 v5)) (h6:a.eval x6 = .int .u32 (W32 v6)) (h7:a.eval x7 = .int .u32 (W32 v7))
  (h:wpList prog ops Q rest (a.put o.dst (.agg (q8 v0 v1 v2 v3 v4 v5 v6 v7))) w):wpList prog ops Q (o::rest) a w:=by
 have e:(prog.built 131 ((#[(0,x0),(1,x1),(2,x2),(3,x3),(4,x4),(5,x5),(6,x6),(7,x7)]:Array (Nat × Operand)).map fun (i,x)=>(i,a.eval x)).toList)=some (q8 v0 v1 v2 v3 v4 v5 v6 v7):=by
  simp only[List.map_toArray,List.map_cons,List.map_nil,h0,h1,h2,h3,h4,h5,h6,h7];exact NL v0 v1 v2 v3 v4 v5 v6 v7
 refine wpList_build hg _ _ ho (by rw[e];rfl) ?_;rw[e];exact h
theorem VT:(prog.info? 131).map (·.size)=some 8:=by kernel_rfl
theorem S7 (a b c d e f g h:UInt32):((q8 a b c d e f g h).all fun u=>u.oneCell')=true:=by
 rw[←La];exact l7 _
def FM (s v:List UInt32) (i:Nat):List UInt32:=(List.zipWith (· + ·) s v).take i++s.drop i
theorem Nk (s v:HS) (i:Nat) (hi:i<8):w16 (FM (hs s) (hs v) i) i=w16 (hs s) i:=by
 rcases (by omega:i=0∨i=1∨i=2∨i=3∨i=4∨i=5∨i=6∨i=7) with rfl|rfl|rfl|rfl|rfl|rfl|rfl|rfl <;> rfl
theorem Iv (s v:HS) (i:Nat) (hi:i<8):(FM (hs s) (hs v) i).set i (w16 (hs s) i+w16 (hs v) i)=FM (hs s) (hs v) (i+1):=by
 rcases (by omega:i=0∨i=1∨i=2∨i=3∨i=4∨i=5∨i=6∨i=7) with rfl|rfl|rfl|rfl|rfl|rfl|rfl|rfl <;> rfl
theorem Dy (w:List UInt32) (s:HS) (t:Nat):pD w s (t+1)=rnd (wd KK t) (wd w t) (pD w s t):=rfl
theorem CD (m:List UInt8) (n:Nat):hs (eJ m (n+1))=FM (hs (eJ m n)) (hs (pD (sch ((m.drop (64*n)).take 64) 64) (eJ m n) 64)) 8:=rfl
theorem PB (m:List UInt8):sha m=eb (eJ (gj m) ((gj m).length / 64)):=rfl
structure OW (w:World) (s:HS) (g i:Nat) (wr:World):Prop where
 sr:wr.heap[w.heap.size+1]?=some (.cells (row (hs s)) 131 (0,0))
 r:wr.heap[w.heap.size]?=some (.cells (brow z32) 139 (0,0))
 o:wr.heap[g]?=some (.cells (brow (mF s i)) 139 (0,0))
 hg:w.heap.size+1<g
 below:Below w.heap.size w wr
theorem KX {w wr:World} {b0:Nat} {X:Obj} {s:HS} (h:RW w b0 X (hs s) wr):OW w s wr.heap.size 0 (wr.alloc (.cells (brow z32) 139)) :=
 ⟨by rw[bx _ _ _ (Q_.1 h.s).1];exact h.s,by rw[bx _ _ _ (Q_.1 h.r).1];exact h.r,al _ _ _ rfl,(Q_.1 h.s).1,h.below.alloc h.below.size _⟩
theorem OW.next {w wr:World} {s:HS} {g i:Nat} (h:OW w s g i wr) (hi:i<32) (c:UInt8) (hc:(eb s)[i]?=some c):OW w s g (i+1) (wr.setCell ⟨g,i,none⟩ (.int .u8 (B8 c))):=by
 have h1:=h.hg;rw[au _ _ _ _ _ _ _ h.o,qd s i hi c hc];exact⟨by rw[aj _ _ _ _ (by omega)];exact h.sr,by rw[aj _ _ _ _ (by omega)];exact h.r,setRow_heap _ _ _ _ _ _ h.o,h.hg,h.below.trans (aK (by omega))⟩
theorem OW.sc {w wr:World} {s:HS} {g i:Nat} (h:OW w s g i wr) (q:Nat) (hq:q<8):wr.cell? ⟨w.heap.size+1,q,none⟩=some (.int .u32 (W32 (w16 (hs s) q))):=by
 rw[e_ _ _ _ _ _ _ h.sr];have hl:(hs s).length=8:=rfl
 simp[row,w16,show q<(hs s).length by omega]
theorem OT (x:UInt32):bits .xor .u32 (W32 x) 4294967295=W32 (~~~x):=by
 have h:=s4 x 0xffffffff;have e:x ^^^ 0xffffffff = ~~~x:=UInt32.xor_neg_one;rw[e] at h;exact h
theorem KZ (m:List UInt8):0<(gj m).length:=by
 have := BH m;unfold gj at *;simp only[E_,List.length_singleton] at *
 omega
theorem O8 (m:List UInt8):(gj m).length≤m.length+80:=by
 have := jz m.length;unfold gj be8;simp only[E_,List.length_replicate,List.length_map,List.length_range,List.length_singleton]
 omega
attribute [local irreducible] Calls brow row sha gj
theorem FC (v : Value) (m : List UInt8) (w : World) (hv : RdE eB w v m) (hk : cA w) (hlen : m.length ≤ 400000) :
  Calls prog 115 #[v] w fun e w'=>e = .returned (.agg (brow (sha m)))∧Below w.heap.size w w':=by
 have hz:=oy;have hz64:=tT;have HLEN:=O hlen;have HV2:Hid (∀u:World,Below w.heap.size w u→RdE eB u v m):=O (fun u hu=>hv.on hu);have HK:=O hk;have H0:=O hk.lt;clear hv hk hlen
 go_enter func115,ntmps115
 go_upto_region 4 with (first
  |(go_at_call 161;refine(K0 v m _ (HV2.out _ (((O_ _ _).alloc (A_ _) _).alloc (by simp) _)) (by have := HLEN.out;omega)).mono ?_;rintro e w1 ⟨v1,rfl,ho1,hb1⟩;obtain⟨b0,cap,X,rfl,hc1,hc2,hb0,hX,hrd⟩:=O7 ho1 (KZ m);rw[←Tu] at hb1 hb0;have HR1:=O (Lr HK.out hb1 hX hb0);have HRD:=O hrd;have HC1:=O hc1;have HC2:=O hc2;clear ho1 hb1 hb0 hX hrd hc1 hc2))
 have hz8:=Ud;obtain⟨q,hq⟩:∃q,(gj m).length=64*q:=⟨(gj m).length / 64,by have := BH m;omega⟩;have HQ:=O hq
 have hqb:q≤100000:=by have := O8 m;have := HLEN.out;omega
 have HQB:=O hqb;have hc1:=HC1.out;have hc2:=HC2.out;unfold maxLen at hc2;rw[hq] at hc1 ⊢;rw[hq] at HRD;clear hq hqb
 go_loopw [5] (fun o wr=>∃n:Nat,n≤q∧o = .int .i64 (64*(n:Int))∧Hid (RW w b0 X (hs (eJ (gj m) n)) wr)) (fun o _=>64*100000-(intOf o).toNat)
 case atStart=>exact⟨0,by omega,rfl,HR1⟩
 case round =>
  obtain⟨n,hn,rfl,hrw⟩:=hrel;have bq:=HQB.out
  by_cases hlt:n<q
  ·have hL : (hs (eJ (gj m) n)).length = 8 := rfl
   generalize hS:eJ (gj m) n=S0 at hrw hL;have HS:=O hS;have HLT:=O hlt;have HPL:Hid (64*n+64≤(gj m).length):=O (by rw[HQ.out];omega)
   have bn:(n:Int)≤100000:=by omega
   have bn0:(0:Int)≤64*(n:Int):=by omega
   have bn1:64*(n:Int)<64*(q:Int):=by omega
   have bn2:64*(n:Int)+64≤(cap:Int):=by omega
   have bn3:64*n+64≤cap:=by omega
   clear hS hlt hn;have HBL:Hid ((((gj m).drop (64*n)).take 64).length=64):=O (by rw[b_,S_];have := HPL.out;omega)
   go_upto_region 8 with (first
    |(go_at_call 162;refine(Qe _ (((gj m).drop (64*n)).take 64) _ (Lh (HRD.out _ hrw.out.p) (64*n) HPL.out _ (by omega) (by unfold maxLen;omega)) HBL.out).mono ?_;rintro e w2 ⟨rfl,hb2⟩;have H2:=O (hrw.out.on hb2);clear hb2)
    |(refine aM (T:=213) (row (sch (((gj m).drop (64*n)).take 64) 64)) (zI _ (iT _ _)) rfl (.tmp 6) (.tmp 28) rfl w2.heap.size (row z64) rfl rfl (l7 _) (by rw[co,co,iT];exact tS) (al _ _ _ rfl) ?_;intro w3 hg3 ho3 hb3;have H3:=O (H2.out.on (((O_ _ _).alloc (A_ _) _).trans (hb3 _ (A_ _))));have HT3:=O hg3;clear hg3 ho3 hb3)
    |(refine wpList_load_row rfl 131 (.tmp 3) rfl (w.heap.size+1) rfl _ _ (0,0) _ H3.out.s underlying131 rfl (vR _ hL) ?_)
    |(refine aM (T:=131) (row (hs S0)) (vR _ hL) rfl (.tmp 7) (.tmp 29) rfl w3.heap.size (row z8) rfl rfl (l7 _) (by rw[co,co,hL];rfl) (al _ _ _ rfl) ?_;intro w4 hg4 ho4 hb4;have H4:=O (Mx H2.out H3.out HT3.out (iT _ _) hg4 (((O_ _ _).alloc (A_ _) _).trans (hb4 _ (A_ _))));clear hg4 ho4 hb4))
   have H4':Hid (∃gt gv ws,w2.heap.size=gt∧w3.heap.size=gv∧sch (((gj m).drop (64*n)).take 64) 64=ws∧VW w b0 X (hs S0) gt gv ws (hs S0) w4):=O ⟨_,_,_,rfl,rfl,rfl,H4.out⟩;obtain⟨gt,gv,ws,e1,e2,e3,h4⟩:=H4'.out;have HWS:=O e3;have H5:=O h4;rw[e1,e2,e3];clear e3 h4 H4 H4' HT3 HBL;clear e1 e2 H3 H2 hrw;go_wp2
   go_loopw [8] (fun o wr=>∃t:Nat,t≤64∧o = .int .i64 t∧Hid (VW w b0 X (hs S0) gt gv ws (hs (pD ws S0 t)) wr)) (fun o _=>64-(intOf o).toNat)
   case atStart=>exact⟨0,by omega,rfl,H5⟩
   case round =>
    obtain⟨t,ht,rfl,hvw⟩:=hrel
    by_cases h64:t<64
    ·have hd:decide ((t:Int)<64)=true:=by simp;omega
     generalize hst:pD ws S0 t=st at hvw;have HST:=O hst;have HLT2:=O h64;have c0:wr.cell? ⟨gv,0,none⟩=some (.int .u32 (W32 st.a)):=hvw.out.vc 0 (by decide);have c1:wr.cell? ⟨gv,1,none⟩=some (.int .u32 (W32 st.b)):=hvw.out.vc 1 (by decide);have c2:wr.cell? ⟨gv,2,none⟩=some (.int .u32 (W32 st.c)):=hvw.out.vc 2 (by decide);have c3:wr.cell? ⟨gv,3,none⟩=some (.int .u32 (W32 st.d)):=hvw.out.vc 3 (by decide);have c4:wr.cell? ⟨gv,4,none⟩=some (.int .u32 (W32 st.e)):=hvw.out.vc 4 (by decide);have c5:wr.cell? ⟨gv,5,none⟩=some (.int .u32 (W32 st.f)):=hvw.out.vc 5 (by decide);have c6:wr.cell? ⟨gv,6,none⟩=some (.int .u32 (W32 st.g)):=hvw.out.vc 6 (by decide);have c7:wr.cell? ⟨gv,7,none⟩=some (.int .u32 (W32 st.h)):=hvw.out.vc 7 (by decide);have ct:=hvw.out.tc t h64;have ck:=hvw.out.kc t h64;have hnx:bits .xor .u32 (W32 st.e) 4294967295=W32 (~~~st.e):=OT _;have R6:Hid (∀(x:UInt32) (w:World),Calls prog 163 #[.int .u32 (W32 x),.int .i64 6] w fun e w'=>e = .returned (.int .u32 (W32 (rr x 6)))∧∃n,w'=w.drewN n):=O (fun x w=>kQ x 6 (by omega) (by omega) w);have R11:Hid (∀(x:UInt32) (w:World),Calls prog 163 #[.int .u32 (W32 x),.int .i64 11] w fun e w'=>e = .returned (.int .u32 (W32 (rr x 11)))∧∃n,w'=w.drewN n):=O (fun x w=>kQ x 11 (by omega) (by omega) w);have R25:Hid (∀(x:UInt32) (w:World),Calls prog 163 #[.int .u32 (W32 x),.int .i64 25] w fun e w'=>e = .returned (.int .u32 (W32 (rr x 25)))∧∃n,w'=w.drewN n):=O (fun x w=>kQ x 25 (by omega) (by omega) w);have R2:Hid (∀(x:UInt32) (w:World),Calls prog 163 #[.int .u32 (W32 x),.int .i64 2] w fun e w'=>e = .returned (.int .u32 (W32 (rr x 2)))∧∃n,w'=w.drewN n):=O (fun x w=>kQ x 2 (by omega) (by omega) w);have R13:Hid (∀(x:UInt32) (w:World),Calls prog 163 #[.int .u32 (W32 x),.int .i64 13] w fun e w'=>e = .returned (.int .u32 (W32 (rr x 13)))∧∃n,w'=w.drewN n):=O (fun x w=>kQ x 13 (by omega) (by omega) w);have R22:Hid (∀(x:UInt32) (w:World),Calls prog 163 #[.int .u32 (W32 x),.int .i64 22] w fun e w'=>e = .returned (.int .u32 (W32 (rr x 22)))∧∃n,w'=w.drewN n):=O (fun x w=>kQ x 22 (by omega) (by omega) w);clear hst ht bn2 bn3 bn1 hc1 hc2 bn bn0 bq
     go_upto_region 11 with fail
     go_cut [9] from 30 to 117 (fun x wc=>x = .int .u32 (W32 (Hf (wd KK t) (wd ws t) st))∧∃n,wc=wr.drewN n)
     case first =>
      first |refine fR (by kernel_rfl) (by kernel_rfl) ?_|refine fG (by kernel_rfl) (by kernel_rfl) ?_
      repeat (first
       | go_big_quiet_step ((go_at_call 163;exact Calls.quiet_of (R6.out _ _)))
       | go_big_quiet_step ((go_at_call 163;exact Calls.quiet_of (R11.out _ _)))
       | go_big_quiet_step ((go_at_call 163;exact Calls.quiet_of (R25.out _ _))))
      refine h_ ?_;rintro _ ⟨nq,rfl⟩;go_wp2
      go_meet
      exact⟨rfl,_,rfl⟩
     case rest =>
      obtain⟨rfl,n1,hw⟩:=hcut;have H6:Hid (VW w b0 X (hs S0) gt gv ws (hs st) wc):=O (by rw[hw];exact hvw.out.drew n1);clear hw hvw c0 c1 c2 c3 c4 c5 c6 c7 ct ck hnx R6 R11 R25;obtain⟨XX,hX⟩:∃XX,XX=Hf (wd KK t) (wd ws t) st:=⟨_,rfl⟩;have HX:=O hX;rw[←hX];clear hX;have c0:wc.cell? ⟨gv,0,none⟩=some (.int .u32 (W32 st.a)):=H6.out.vc 0 (by decide);have c1:wc.cell? ⟨gv,1,none⟩=some (.int .u32 (W32 st.b)):=H6.out.vc 1 (by decide);have c2:wc.cell? ⟨gv,2,none⟩=some (.int .u32 (W32 st.c)):=H6.out.vc 2 (by decide)
      go_upto_region 12 with fail
      go_cut [10] from 30 to 117 (fun y wf=>y = .int .u32 (W32 (Lo st))∧∃n,wf=wc.drewN n)
      case first =>
       first |refine fR (by kernel_rfl) (by kernel_rfl) ?_|refine fG (by kernel_rfl) (by kernel_rfl) ?_
       repeat (first
        | go_big_quiet_step ((go_at_call 163;exact Calls.quiet_of (R2.out _ _)))
        | go_big_quiet_step ((go_at_call 163;exact Calls.quiet_of (R13.out _ _)))
        | go_big_quiet_step ((go_at_call 163;exact Calls.quiet_of (R22.out _ _))))
       refine h_ ?_;rintro _ ⟨nq,rfl⟩;go_wp2
       go_meet
       exact⟨rfl,_,rfl⟩
      case rest =>
       obtain⟨rfl,n2,hw⟩:=hcut;have H7:=O (H6.out.drew n2);rw[←hw] at H7;clear hw c0 c1 c2 R2 R13 R22;obtain⟨YY,hY⟩:∃YY,YY=Lo st:=⟨_,rfl⟩;have HY:=O hY;rw[←hY];clear hY;have c0:wc.cell? ⟨gv,0,none⟩=some (.int .u32 (W32 st.a)):=H7.out.vc 0 (by decide);have c1:wc.cell? ⟨gv,1,none⟩=some (.int .u32 (W32 st.b)):=H7.out.vc 1 (by decide);have c2:wc.cell? ⟨gv,2,none⟩=some (.int .u32 (W32 st.c)):=H7.out.vc 2 (by decide);have c3:wc.cell? ⟨gv,3,none⟩=some (.int .u32 (W32 st.d)):=H7.out.vc 3 (by decide);have c4:wc.cell? ⟨gv,4,none⟩=some (.int .u32 (W32 st.e)):=H7.out.vc 4 (by decide);have c5:wc.cell? ⟨gv,5,none⟩=some (.int .u32 (W32 st.f)):=H7.out.vc 5 (by decide);have c6:wc.cell? ⟨gv,6,none⟩=some (.int .u32 (W32 st.g)):=H7.out.vc 6 (by decide);clear hd;have hr8:(row (hs st)).size=8:=co (hs st)
       go_wp2_with (first
        |(refine Vt rfl (.tmp 100) (.tmp 102) (.tmp 104) (.tmp 106) (.tmp 110) (.tmp 112) (.tmp 114) (.tmp 116) rfl (XX+YY) st.a st.b st.c (st.d+XX) st.e st.f st.g rfl rfl rfl rfl rfl rfl rfl rfl ?_)
        |(refine aM (T:=131) (q8 (XX+YY) st.a st.b st.c (st.d+XX) st.e st.f st.g) VT rfl (.tmp 7) (.tmp 117) rfl gv (row (hs st)) rfl rfl (S7 _ _ _ _ _ _ _ _) hr8 H7.out.v ?_;intro wd hgd hod hbd;have H8:=O (H7.out.setV (V':=hs ⟨XX+YY,st.a,st.b,st.c,st.d+XX,st.e,st.f,st.g⟩) rfl (by rw[La];exact hgd) hod hbd);clear hgd hod hbd))
       go_roundw
       case rel=>exact⟨t+1,by have := HLT2.out;omega,by go_num,O (by rw[Dy ws S0 t,HST.out];unfold rnd;rw[←HX.out,←HY.out];exact H8.out)⟩
       case measure=>have := HLT2.out;simp[intOf];omega
    ·have he:t=64:=by omega
     subst he;obtain⟨vz,hvz⟩:∃vz,vz=pD ws S0 64:=⟨_,rfl⟩;have HVZ:=O hvz;rw[←hvz] at hvw;clear hvz h64 ht hc1 hc2 bn2 bn3 bn1 bn bn0 bq;go_wp2
     go_loopw [11] (fun o wr=>∃i:Nat,i≤8∧o = .int .i64 i∧Hid (VW w b0 X (FM (hs S0) (hs vz) i) gt gv ws (hs vz) wr)) (fun o _=>8-(intOf o).toNat)
     case atStart=>exact⟨0,by omega,rfl,hvw⟩
     case round =>
      obtain⟨i,hi,rfl,H⟩:=hrel
      by_cases h8:i<8
      ·have hd:decide ((i:Int)<8)=true:=by simp;omega
       have s0:=H.out.sc i h8;rw[Nk S0 vz i h8] at s0;have v0:=H.out.vc i h8;have f0:=frozen_of_row _ _ i _ _ H.out.s;clear hvw;go_wp2
       first |refine dJ 9 (by kernel_rfl) (by kernel_rfl) ?_|refine dD 9 (by kernel_rfl) (by kernel_rfl) ?_
       simp only[F_,c_,J_,L_]
       repeat (go_big_quiet_step (fail))
       refine h_ ?_;rintro _ ⟨nq,rfl⟩;go_wp2;go_roundw
       case rel=>exact⟨i+1,h8,by go_num,O (by rw[←Iv S0 vz i h8];exact(H.out.drew nq).setS H0.out i _)⟩
       case measure=>simp[intOf];omega
      ·have he8:i=8:=by omega
       subst he8
       have hd:decide (((8:Nat):Int)<8)=false:=by decide
       have HF:Hid (RW w b0 X (hs (eJ (gj m) (n+1))) wr):=O (by rw[CD (gj m) n,HS.out,HWS.out,←HVZ.out];exact H.out.toRW)
       have bnn:(n:Int)≤100000:=by have := HLT.out;have := HQB.out;omega
       have bnn0:(0:Int)≤64*(n:Int):=by omega
       clear hvw h8 hi;go_wp2;go_roundw
       case rel=>exact⟨n+1,HLT.out,by go_num,HF⟩
       case measure=>have := HLT.out;have := HQB.out;simp[intOf];omega
  ·have he:n=q:=by omega
   subst he;have HS1:Hid (sha m=eb (eJ (gj m) n)):=O (by rw[PB,HQ.out,Nat.mul_div_cancel_left _ (by decide)]);generalize eJ (gj m) n=s1 at hrw HS1;clear hn bq hc1 hc2 hz64 hz8
   have hd:decide (64*(n:Int)<64*(n:Int))=false:=by simp
   go_wp2
   go_loopw [13] (fun o wr'=>∃i:Nat,i≤32∧o = .int .i64 i∧Hid (OW w s1 wr.heap.size i wr')) (fun o _=>32-(intOf o).toNat)
   case atStart=>exact⟨0,by omega,rfl,O (KX hrw.out)⟩
   case round =>
    obtain⟨i,hi,rfl,how⟩:=hrel;clear hd
    by_cases h32:i<32
    ·obtain⟨q,r,hqr,hq8,hr4⟩:∃q r,i=4*q+r∧q<8∧r<4:=⟨i / 4,i % 4,by omega,by omega,by omega⟩
     have hcx:=how.out.sc q hq8;have hfz:=frozen_of_row _ _ i _ _ how.out.o
     have hq:(i:Int) / 4=(q:Int):=by omega
     have hbx:(eb s1)[i]? = (w4 (w16 (hs s1) q))[r]? := by rw[hqr];exact QH s1 q r hq8 hr4
     have hL:i<32:=h32;have hcell:=e_ _ _ i _ _ _ how.out.o;rw[nH _ _ (by rw[qI _ _ hi];exact h32)] at hcell
     have hr:(i:Int) % 4=(r:Int):=by omega
     generalize w16 (hs s1) q=x at hcx hbx;have HQR:=O hqr;clear hqr
     rcases (by omega:r=0∨r=1∨r=2∨r=3) with rfl|rfl|rfl|rfl
     ·have HX:Hid ((eb s1)[i]?=some (shr x 24).toUInt8):=O hbx
      clear hbx;go_wp2;go_roundw
      case rel=>exact⟨i+1,h32,by go_num,O (how.out.next h32 _ HX.out)⟩
      case measure=>simp[intOf];omega
     ·have HX:Hid ((eb s1)[i]?=some (shr x 16).toUInt8):=O hbx
      clear hbx;go_wp2;go_roundw
      case rel=>exact⟨i+1,h32,by go_num,O (how.out.next h32 _ HX.out)⟩
      case measure=>simp[intOf];omega
     ·have HX:Hid ((eb s1)[i]?=some (shr x 8).toUInt8):=O hbx
      clear hbx;go_wp2;go_roundw
      case rel=>exact⟨i+1,h32,by go_num,O (how.out.next h32 _ HX.out)⟩
      case measure=>simp[intOf];omega
     ·have HX:Hid ((eb s1)[i]?=some x.toUInt8):=O hbx
      clear hbx;go_wp2;go_roundw
      case rel=>exact⟨i+1,h32,by go_num,O (how.out.next h32 _ HX.out)⟩
      case measure=>simp[intOf];omega
    ·have h32':i=32:=by omega
     subst h32';have HLX:(mF s1 32).length=32:=qI _ _ (A_ _);clear h32 hi
     go_wp2_with (first
      |(refine wpList_load_row rfl 139 (.tmp 12) rfl _ rfl _ _ (0,0) _ how.out.o underlying139 rfl (ir _ HLX) ?_)
      |(refine aM (T:=139) (brow (mF s1 32)) (ir _ HLX) rfl (.tmp 2) (.tmp 147) rfl w.heap.size (brow z32) rfl rfl (iW _) (by rw[bV,bV,HLX];rfl) how.out.r ?_;intro we hge hoe hbe))
     (try simp only[Exit.inBlock,Exit.then])
     refine g_ (results_cell_row rfl _ _ w.heap.size _ (brow (mF s1 32)) (0,0) _ rfl hge underlying139 rfl (ir _ HLX)) rfl ?_;exact⟨by rw[BD,HS1.out],how.out.below.trans (hbe _ (A_ _))⟩
end
end Go.Proofs.YtmfiaadjdbemnaaGreatDoor
