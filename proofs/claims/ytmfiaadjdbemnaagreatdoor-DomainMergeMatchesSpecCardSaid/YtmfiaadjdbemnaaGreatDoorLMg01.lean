/- Contracts and lemmas. No condition. -/
import Derived.Test.YtmfiaadjdbemnaaGreatDoorSB05
import Derived.Test.YtmfiaadjdbemnaaGreatDoorSB11
set_option maxRecDepth 100000
set_option maxHeartbeats 8000000
set_option linter.unusedSimpArgs false
set_option linter.unusedVariables false
namespace Go.Proofs.YtmfiaadjdbemnaaGreatDoor
open Go.Proofs.Tryz
section
variable {P:Program} {ops:Array Oper} {md:Region.Mode} {C:World→Prop}
theorem Dw (C:World→Prop) {id:Nat} {Q:Exit→Act→World→Prop} {a:Act} {w:World} {l:List Oper} (hm:P.follows .mixedOrders=true) (hB:Region.lexB .any l.toArray=true)
  (hC:C w.drew) (h:wpQuiet P l.toArray C (fun a'=>∀w',C w'→Q .normal a' w') l a):(Code.region id l.toArray true).wp P Q a w :=
 wp_region_quiet (C:=C) hm hB hC (by simpa using h)
open Go.RowKit
theorem Nm {id:Nat} {Q:Exit→Act→World→Prop} {a:Act} {w:World} {l:List Oper} (hm:P.follows .mixedOrders=true) (hB:Region.lexB .any l.toArray=true)
  (h:wpQuiet P l.toArray (fun w'=>∃u:dj w,w'=u.now) (fun a'=>∀w',(∃u:dj w,w'=u.now)→Q .normal a' w') l a):(Code.region id l.toArray true).wp P Q a w :=
 Dw (fun w'=>∃u:dj w,w'=u.now) hm hB ⟨⟨w.drew,(O_ _ _).drew⟩,rfl⟩ h
end
section
open Go.RowKit
variable {α:Type} {E:El α}
theorem yQ (w:World) (h0:E.c=E.c):ap E (w.alloc (.cells #[] E.T)) w.heap.size (.slice (some ⟨w.heap.size,0,none⟩) 0 0) [] :=
 ⟨by simp[El.flat],.inr ⟨w.heap.size,0,#[],rfl,A_ _,heap_alloc_new _ _,A_ _,by unfold maxLen;omega,by simp,by simp[El.flat]⟩⟩
end
section
namespace C3
theorem vS (x:UInt8) (n:Nat) (hn:n≤24):(sl x.toUInt32 n).toNat=x.toNat*2 ^ n:=by
 have h:(sl x.toUInt32 n).toNat=x.toNat*2 ^ n % 4294967296:=by
  show (x.toUInt32.toBitVec <<< n).toNat=_
  rw[BitVec.toNat_shiftLeft,Nat.shiftLeft_eq]
  have : x.toUInt32.toBitVec.toNat=x.toNat:=by simp
  rw[this]
 rw[h];have h1:=x.toNat_lt;have h2:2 ^ n≤2 ^ 24:=Nat.pow_le_pow_right (by omega) hn;have h3:x.toNat*2 ^ n≤255*2 ^ 24:=Nat.mul_le_mul (by omega) h2;exact Nat.mod_eq_of_lt (by omega)
theorem Dr (a b i:Nat) (h:a<2 ^ i):a ||| b*2 ^ i=a+b*2 ^ i:=by
 have := Nat.two_pow_add_eq_or_of_lt h b;rw[Nat.mul_comm] at this;rw[Nat.or_comm,←this,Nat.add_comm]
theorem word_sum (a b c d:UInt8):a.toUInt32+sl b.toUInt32 8+sl c.toUInt32 16+sl d.toUInt32 24=word a b c d:=by
 have ha:=a.toNat_lt;have hb:=b.toNat_lt;have hc:=c.toNat_lt;have hd:=d.toNat_lt
 apply UInt32.toNat_inj.1
 have e1:a.toUInt32.toNat=a.toNat:=by simp
 have o1:=Dr a.toNat b.toNat 8 (by omega);have o2:=Dr (a.toNat+b.toNat*2 ^ 8) c.toNat 16 (by omega);have o3:=Dr (a.toNat+b.toNat*2 ^ 8+c.toNat*2 ^ 16) d.toNat 24 (by omega);unfold word;simp only[UInt32.toNat_add,UInt32.toNat_or,vS b 8 (by omega),vS c 16 (by omega),vS d 24 (by omega),e1,o1,o2,o3]
 omega
theorem stK_later (key:List UInt8) (ctr:UInt32):(stK key 0 8).set 12 ctr=stK key ctr 8:=rfl
end C3
end
section
open Go.RowKit
theorem qO (x:UInt32) (k:Int) (hk1:0≤k) (hk2:k<32) (w:World) :
  Calls prog 200 #[.int .u32 (W32 x),.int .i64 k] w fun e w'=>e = .returned (.int .u32 (W32 (C3.rotl x k.toNat)))∧∃n,w'=w.drewN n:=by
 obtain⟨n,rfl⟩:=Int.eq_ofNat_of_zero_le hk1;have e1:=jY x n;have e2:=iu x (32-n)
 go_enter func200,ntmps200
 go_wp2
 go_quiet (fail)
 go_wp2;go_ret;exact⟨nT rfl,_,rfl⟩
theorem BH (m:List UInt8):(gj m).length % 64=0:=by
 unfold gj kS be8;simp only[E_,List.length_replicate,List.length_map,List.length_range,List.length_singleton]
 omega
open Go.RowKit
attribute [local irreducible] Calls
theorem kQ (x:UInt32) (k:Int) (hk1:0≤k) (hk2:k<32) (w:World) :
  Calls prog 163 #[.int .u32 (W32 x),.int .i64 k] w fun e w'=>e = .returned (.int .u32 (W32 (rr x k.toNat)))∧∃n,w'=w.drewN n:=by
 obtain⟨n,rfl⟩:=Int.eq_ofNat_of_zero_le hk1;have e1:=iu x n;have e2:=jY x (32-n)
 go_enter func163,ntmps163
 go_wp2
 go_quiet (fail)
 go_wp2;go_ret;exact⟨nT rfl,_,rfl⟩
end
section
open Go.RowKit
theorem BP (w:World) (s:List UInt32) (hl:s.length=16) (i j k l:Nat) (hi:i<16) (hj:j<16) (hk:k<16) (hl':l<16)
  (h1:¬i=j) (h2:¬i=k) (h3:¬i=l) (h4:¬j=k) (h5:¬j=l) (h6:¬k=l) :
  Calls prog 196 #[.agg (row s),.int .i64 i,.int .i64 j,.int .i64 k,.int .i64 l] w fun e w'=>e = .returned (.agg (row (C3.qset s i j k l)))∧Below w.heap.size w w':=by
 have hw:=Ad;have g1:¬j=i:=fun e=>h1 e.symm;have g2:¬k=i:=fun e=>h2 e.symm;have g3:¬l=i:=fun e=>h3 e.symm;have g4:¬k=j:=fun e=>h4 e.symm;have g5:¬l=j:=fun e=>h5 e.symm;have g6:¬l=k:=fun e=>h6 e.symm
 have bi:(i:Int)<16:=by omega
 have bj:(j:Int)<16:=by omega
 have bk:(k:Int)<16:=by omega
 have bl:(l:Int)<16:=by omega
 go_enter func196,ntmps196
 go_wp2
 first |refine dJ 9 (by kernel_rfl) (by kernel_rfl) ?_|refine dD 9 (by kernel_rfl) (by kernel_rfl) ?_
 simp only[F_,c_,J_,L_]
 repeat (quiet_step (fail))
 refine h_ ?_;rintro _ ⟨nq,rfl⟩;go_wp2
 first |refine dJ 10 (by kernel_rfl) (by kernel_rfl) ?_|refine dD 10 (by kernel_rfl) (by kernel_rfl) ?_
 simp only[F_,c_,J_,L_]
 repeat (quiet_step ((go_at_call 200;exact Calls.quiet_of (qO _ _ (by omega) (by omega) _))))
 refine h_ ?_;rintro _ ⟨nq,rfl⟩;go_wp2
 first |refine dJ 9 (by kernel_rfl) (by kernel_rfl) ?_|refine dD 9 (by kernel_rfl) (by kernel_rfl) ?_
 simp only[F_,c_,J_,L_]
 repeat (quiet_step (fail))
 refine h_ ?_;rintro _ ⟨nq,rfl⟩;go_wp2
 first |refine dJ 10 (by kernel_rfl) (by kernel_rfl) ?_|refine dD 10 (by kernel_rfl) (by kernel_rfl) ?_
 simp only[F_,c_,J_,L_]
 repeat (quiet_step ((go_at_call 200;exact Calls.quiet_of (qO _ _ (by omega) (by omega) _))))
 refine h_ ?_;rintro _ ⟨nq,rfl⟩;go_wp2
 first |refine dJ 9 (by kernel_rfl) (by kernel_rfl) ?_|refine dD 9 (by kernel_rfl) (by kernel_rfl) ?_
 simp only[F_,c_,J_,L_]
 repeat (quiet_step (fail))
 refine h_ ?_;rintro _ ⟨nq,rfl⟩;go_wp2
 first |refine dJ 10 (by kernel_rfl) (by kernel_rfl) ?_|refine dD 10 (by kernel_rfl) (by kernel_rfl) ?_
 simp only[F_,c_,J_,L_]
 repeat (quiet_step ((go_at_call 200;exact Calls.quiet_of (qO _ _ (by omega) (by omega) _))))
 refine h_ ?_;rintro _ ⟨nq,rfl⟩;go_wp2
 first |refine dJ 9 (by kernel_rfl) (by kernel_rfl) ?_|refine dD 9 (by kernel_rfl) (by kernel_rfl) ?_
 simp only[F_,c_,J_,L_]
 repeat (quiet_step (fail))
 refine h_ ?_;rintro _ ⟨nq,rfl⟩;go_wp2
 first |refine dJ 10 (by kernel_rfl) (by kernel_rfl) ?_|refine dD 10 (by kernel_rfl) (by kernel_rfl) ?_
 simp only[F_,c_,J_,L_]
 repeat (quiet_step ((go_at_call 200;exact Calls.quiet_of (qO _ _ (by omega) (by omega) _))))
 refine h_ ?_;rintro _ ⟨nq,rfl⟩;clear hw
 go_wp2_with (first
  |(refine ng rfl (.tmp 5) rfl _ rfl _ 226 (cF _ _ _ _) (by simp[hl]) ?_)
  |(refine gN rfl (.tmp 10) (.tmp 87) rfl _ _ rfl rfl 226 _ (dL _ _ _ _) rfl (by simp[hl]) ?_))
 refine g_ (v := .agg (row _)) (zv rfl _ _ _ _ _ rfl (setRow_heap _ _ _ _ _ _ (dL _ _ _ _)) (by simp[hl])) rfl ⟨?_,?_⟩
 ·rw[C3.set_chain _ _ _ _ _ h1 h2 h3 h4 h5 h6];rfl
 ·exact below_setRow (ak _ (((O_ _ _).alloc (A_ _) _).alloc (by simp) _)) (by omega) _
open Go.RowKit
theorem TG (x y:UInt32) (n:Nat):shl (x ||| y) n=shl x n ||| shl y n:=by
 apply UInt32.toBitVec_inj.1
 show (x.toBitVec ||| y.toBitVec) <<< n=x.toBitVec <<< n ||| y.toBitVec <<< n
 exact BitVec.shiftLeft_or_distrib _ _ _
theorem PC (x:UInt32) (m n:Nat):shl (shl x m) n=shl x (m+n):=by
 apply UInt32.toBitVec_inj.1
 show (x.toBitVec <<< m) <<< n=x.toBitVec <<< (m+n)
 rw[BitVec.shiftLeft_add]
theorem IK (a b c d:UInt8):be4 a b c d=shl a.toUInt32 24 ||| shl b.toUInt32 16 ||| shl c.toUInt32 8 ||| d.toUInt32:=by
 unfold be4;simp only[TG,PC]
attribute [local irreducible] Calls
theorem Qe (v:Value) (b:List UInt8) (w:World) (hv:RdE eB w v b) (hb:b.length=64) :
  Calls prog 162 #[v] w fun e w'=>e = .returned (.agg (row (sch b 64)))∧Below w.heap.size w w':=by
 have HV:=O hv;obtain⟨a,cap,rfl,hcap,hcm,_⟩:=hv;obtain⟨bb,off,rfl,hbl,aO⟩:=fp HV.out (by omega);rw[hb] at HV hcap ⊢;unfold maxLen at hcm;have HROW:=O aO;clear aO;have hz:=tT
 go_enter func162,ntmps162
 go_wp2;rw[AV b]
 go_loopw [4] (fun i wr=>∃t:Nat,t≤16∧i = .int .i64 t∧∃n,wr=((w.alloc (.cells (row z64) 213)).alloc (.cells (row (ext b t)) 213)).drewN n) (fun i _=>16-(intOf i).toNat)
 case atStart=>exact⟨0,by omega,rfl,0,rfl⟩
 case round =>
  obtain⟨t,ht,rfl,n,rfl⟩:=hrel;clear hz;have hel:=yT b t (by omega)
  by_cases h16:t<16
  ·have hd:decide ((t:Int)<16)=true:=by simp;omega
   have hlt:t<64:=by omega
   have c0:=HROW.out (4*t) (by omega);have c1:=HROW.out (4*t+1) (by omega);have c2:=HROW.out (4*t+2) (by omega);have c3:=HROW.out (4*t+3) (by omega)
   have b0:4*(t:Int)<64:=by omega
   have b1:4*(t:Int)+1<64:=by omega
   have b2:4*(t:Int)+2<64:=by omega
   have b3:4*(t:Int)+3<64:=by omega
   have d0:(0:Int)≤4*(t:Int):=by omega
   have d1:(0:Int)≤4*(t:Int)+1:=by omega
   have d2:(0:Int)≤4*(t:Int)+2:=by omega
   have d3:(0:Int)≤4*(t:Int)+3:=by omega
   have hcv:=IK (byteAt b (4*t)) (byteAt b (4*t+1)) (byteAt b (4*t+2)) (byteAt b (4*t+3));have HCV:=O hcv;clear hcv;go_wp2
   first |refine dJ 35 (by kernel_rfl) (by kernel_rfl) ?_|refine dD 35 (by kernel_rfl) (by kernel_rfl) ?_
   simp only[F_,c_,J_,L_]
   repeat (go_big_quiet_step (fail))
   refine h_ ?_;rintro _ ⟨nq,rfl⟩;go_wp2;go_roundw
   case rel=>exact⟨t+1,by omega,by go_num,nq,by rw[←HCV.out,qq b t (by omega) _ (by rw[G_ h16];rfl)]⟩
   case measure=>simp[intOf];omega
  ·have he:t=16:=by omega
   subst he
   have hd:decide (((16:Nat):Int)<16)=false:=by decide
   clear ht h16 hel;go_wp2
   go_loopw [5] (fun i wr=>∃t:Nat,16≤t∧t≤64∧i = .int .i64 t∧∃n,wr=((w.alloc (.cells (row z64) 213)).alloc (.cells (row (ext b t)) 213)).drewN n) (fun i _=>64-(intOf i).toNat)
   case atStart=>exact⟨16,by omega,by omega,rfl,n,rfl⟩
   case round =>
    obtain⟨t,hlo,ht,rfl,n,rfl⟩:=hrel;clear hd;have hel:=yT b t ht
    by_cases hlt:t<64
    ·have hd:decide ((t:Int)<64)=true:=by simp;omega
     have q15:(t:Int)-15=((t-15:Nat):Int):=by omega
     have q2:(t:Int)-2=((t-2:Nat):Int):=by omega
     have q16:(t:Int)-16=((t-16:Nat):Int):=by omega
     have q7:(t:Int)-7=((t-7:Nat):Int):=by omega
     have i15:t-15<64:=by omega
     have i2:t-2<64:=by omega
     have i16:t-16<64:=by omega
     have i7:t-7<64:=by omega
     have r7:∀(x:UInt32) (w:World),Calls prog 163 #[.int .u32 (W32 x),.int .i64 7] w fun e w'=>e = .returned (.int .u32 (W32 (rr x 7)))∧∃n,w'=w.drewN n:=fun x w=>kQ x 7 (by omega) (by omega) w;have r18:∀(x:UInt32) (w:World),Calls prog 163 #[.int .u32 (W32 x),.int .i64 18] w fun e w'=>e = .returned (.int .u32 (W32 (rr x 18)))∧∃n,w'=w.drewN n:=fun x w=>kQ x 18 (by omega) (by omega) w;have r17:∀(x:UInt32) (w:World),Calls prog 163 #[.int .u32 (W32 x),.int .i64 17] w fun e w'=>e = .returned (.int .u32 (W32 (rr x 17)))∧∃n,w'=w.drewN n:=fun x w=>kQ x 17 (by omega) (by omega) w;have r19:∀(x:UInt32) (w:World),Calls prog 163 #[.int .u32 (W32 x),.int .i64 19] w fun e w'=>e = .returned (.int .u32 (W32 (rr x 19)))∧∃n,w'=w.drewN n:=fun x w=>kQ x 19 (by omega) (by omega) w;have R7:=O r7;have R18:=O r18;have R17:=O r17;have R19:=O r19;clear r7 r18 r17 r19;go_wp2
     first |refine fR (by kernel_rfl) (by kernel_rfl) ?_|refine fG (by kernel_rfl) (by kernel_rfl) ?_
     repeat (first
      | go_big_quiet_step ((go_at_call 163;exact Calls.quiet_of (R7.out _ _)))
      | go_big_quiet_step ((go_at_call 163;exact Calls.quiet_of (R18.out _ _))))
     refine h_ ?_;rintro _ ⟨nq,rfl⟩;go_wp2
     first |refine fR (by kernel_rfl) (by kernel_rfl) ?_|refine fG (by kernel_rfl) (by kernel_rfl) ?_
     repeat (first
      | go_big_quiet_step ((go_at_call 163;exact Calls.quiet_of (R17.out _ _)))
      | go_big_quiet_step ((go_at_call 163;exact Calls.quiet_of (R19.out _ _))))
     refine h_ ?_;rintro _ ⟨nq,rfl⟩;go_wp2
     first |refine dJ 15 (by kernel_rfl) (by kernel_rfl) ?_|refine dD 15 (by kernel_rfl) (by kernel_rfl) ?_
     simp only[F_,c_,J_,L_]
     repeat (go_big_quiet_step (fail))
     refine h_ ?_;rintro _ ⟨nq,rfl⟩;go_wp2;go_roundw
     case rel =>
      refine⟨t+1,by omega,by omega,by go_num,nq,?_⟩;rw[←qq b t hlt (xP (sch b t)) (by rw[H_ (by omega)]),xQ,←ext_at b t (t-16) (by omega),←ext_at b t (t-15) (by omega),←ext_at b t (t-7) (by omega),←ext_at b t (t-2) (by omega)]
      rfl
     case measure=>simp[intOf];omega
    ·have he:t=64:=by omega
     subst he
     go_wp2_with (first
      |(refine Kl rfl (.tmp 3) rfl _ rfl _ 213 (dL _ _ _ _) hel ?_)
      |(refine L6 rfl (.tmp 2) (.tmp 100) rfl _ _ rfl rfl 213 _ (cF _ _ _ _) (by rw[co];exact tS) hel ?_))
     refine g_ (v := .agg (row _)) (Lm rfl _ _ _ _ _ rfl (setRow_heap _ _ _ _ _ _ (cF _ _ _ _)) hel) rfl ⟨by rw[AU],?_⟩;exact below_setRow (ak _ (((O_ _ _).alloc (A_ _) _).alloc (by simp) _)) (by omega) _
end
section
open Go.RowKit
attribute [local irreducible] Calls
theorem K0 (v:Value) (m:List UInt8) (w:World) (hv:RdE eB w v m) (hlen:m.length≤500000) :
  Calls prog 161 #[v] w fun e w'=>∃v',e = .returned v'∧ap eB w' w.heap.size v' (gj m)∧Below w.heap.size w w':=by
 have HV:=O hv;obtain⟨av,capv,rfl,hcapv,hcmv,_⟩:=hv;have HLEN:=O hlen;have HE:=O (yQ (E:=eB) w rfl)
 have hml:(m.length:Int)≤500000:=by omega
 have HB0:=O ((O_ w.heap.size w).alloc (A_ _) (.cells #[] 5));have HVA:=O (HV.out.alloc (.cells #[] 5));clear hcapv hcmv
 go_enter func161,ntmps161
 go_wp2_with (first
  |(at_builtin;refine br aN rfl (.tmp 6) (.tmp 7) rfl w.heap.size _ [] rfl HE.out (.slice av m.length capv) m rfl HVA.out (by have := HLEN.out;simp;omega) (by simp) ?_;intro v1 w1 ho1 hg1 hloc1;have HB1:=O (HB0.out.trans (HE.out.below hg1 (by simp)));have HO1:Hid (ap eB w1 w.heap.size v1 m):=(O ho1);obtain⟨a1,c1,rfl⟩:=ho1.rd.form1 (n:=m.length) (by simp);clear ho1 hg1 hloc1)
  |(at_builtin;refine br aN rfl (.tmp 9) (.tmp 10) rfl w.heap.size _ m rfl (HO1.out.on ((O_ _ _).alloc (A_ _) _)) (.slice (some ⟨w1.heap.size,0,none⟩) 1 1) [128] rfl (bP w1 (128:UInt8) aN) (by have := HLEN.out;simp;omega) (by have := HB1.out.size;simp;omega) ?_;intro v2 w2 ho2 hg2 hloc2;have HB2:=O (HB1.out.trans (((O_ _ _).alloc (A_ _) (.cells #[.int .u8 128] 5)).mono HB1.out.size |>.trans ((HO1.out.on ((O_ _ _).alloc (A_ _) _)).below hg2 (by have := HB1.out.size;simp;omega))));have HO2:Hid (ap eB w2 w.heap.size v2 (m++[128])):=(O ho2);obtain⟨a2,c2,rfl⟩:=ho2.rd.form1 (n:=m.length+1) (by simp);clear ho2 hg2 hloc2))
 go_loopw [3] (fun o wr=>∃j:Nat,j≤kS m.length∧(∃a cap,o = .slice a (m.length+1+j) cap)∧Hid (ap eB wr w.heap.size o (m++[128]++List.replicate j 0))∧Hid (Below w.heap.size w wr)) (fun o _=>1000000-iZ o)
 case atStart=>exact⟨0,N_ _,⟨_,_,rfl⟩,by simpa using HO2,HB2⟩
 case round =>
  obtain⟨j,hj,⟨a,cap,rfl⟩,hown,hbw⟩:=hrel;have hzl:=jz m.length;have hz1:=FL m.length j hj;have HW:=O hbw.out.size
  have jb2:(j:Int)≤63:=by omega
  by_cases hq:j=kS m.length
  ·have tq:((m.length:Int)+1+(j:Int)) % 64=56:=by have := hz1.2 hq;omega
   have tq2:(((m.length:Int)+1+(j:Int)) % 64 != 56)=false:=by rw[tq];rfl
   have HQ:=O hq
   have hmul:(8:Int)*(m.length:Int) % 18446744073709551616=((8*m.length:Nat):Int):=by omega
   clear hz1 tq hj hq;go_wp2;have hown1:Hid (ap eB wr w.heap.size (.slice a (m.length+1+j) cap) (m++[128]++List.replicate (kS m.length) 0)):=O (by rw[←HQ.out];exact hown.out);have HPL:Hid ((m++[128]++List.replicate (kS m.length) 0:List UInt8).length=m.length+1+j):=O (by have := HQ.out;simp;omega);have HP0:Hid ((m++[128]++List.replicate (kS m.length) 0:List UInt8).length≤600000):=O (by have := jz m.length;have := HLEN.out;simp;omega);have HPD:Hid ((m++[128]++List.replicate (kS m.length) 0)++be8 (8*m.length)=gj m):=O (by unfold gj;simp only[R_]);generalize (m++[128]++List.replicate (kS m.length) 0:List UInt8)=P0 at hown1 HP0 HPL HPD
   have hn0:0≤8*(m.length:Int):=by omega
   have hn1:8*(m.length:Int)<18446744073709551616:=by omega
   clear hml hlen hmul;generalize hNI:8*(m.length:Int)=NI at hn0 hn1 ⊢;have HNI:Hid (NI=8*(m.length:Int)):=O hNI.symm;clear hNI
   go_loopw [5,3] (fun o u wr=>∃i:Nat,i≤8∧o = .int .i64 i∧(∃a cap,u = .slice a (m.length+1+j+i) cap)∧Hid (ap eB wr w.heap.size u (P0++(be8 (8*m.length)).take i))∧Hid (Below w.heap.size w wr)) (fun o _ _=>8-(intOf o).toNat)
   case atStart=>exact⟨0,by omega,rfl,⟨_,_,rfl⟩,by simpa using hown1,hbw⟩
   case round =>
    obtain⟨i,hi,rfl,⟨a2,cap2,rfl⟩,hown2,hbw2⟩:=hrel;have HW3:=O hbw2.out.size
    rcases (by omega:i=0∨i=1∨i=2∨i=3∨i=4∨i=5∨i=6∨i=7∨i=8) with rfl|rfl|rfl|rfl|rfl|rfl|rfl|rfl|rfl
    ·have et:(be8 (8*m.length)).take (0+1)=(be8 (8*m.length)).take 0++[UInt8.ofNat (8*m.length / 2 ^ 56)]:=rfl
     have ev:NI / 72057594037927936 % 256=B8 (UInt8.ofNat (8*m.length / 2 ^ 56)):=by rw[eF,HNI.out];omega
     have ev0:NI / 72057594037927936=B8 (UInt8.ofNat (8*m.length / 2 ^ 56)):=by rw[←ev];omega
     generalize hc:UInt8.ofNat (8*m.length / 2 ^ 56)=c at et ev ev0;have em:B8 c % 256=B8 c:=cI c;have ET:=O et;clear et hc
     go_wp2_with (at_builtin;go_loud (refine br aN rfl (.tmp 27) (.tmp 34) rfl w.heap.size _ _ rfl (hown2.out.on ((O_ _ _).alloc (A_ _) _)) (.slice (some ⟨wr.heap.size,0,none⟩) 1 1) [c] rfl (bP wr c aN) (by have := HP0.out;simp;omega) (by have := HW3.out;simp;omega) ?_);intro v5 w4 ho4 hg4 hloc;have HB4:=O (hbw2.out.trans (((O_ wr.heap.size wr).alloc (A_ _) (.cells #[.int .u8 (B8 c)] 5)).mono HW3.out |>.trans ((hown2.out.on ((O_ _ _).alloc (A_ _) _)).below hg4 (by have := HW3.out;simp;omega))));have HO4:=O ho4;clear ho4 hg4 hloc)
     go_roundw
     case rel=>exact⟨1,by decide,by go_num,HO4.out.rd.form1 (by have := HP0.out;have := HPL.out;simp[be8];omega),O (by have h:=HO4.out;rw[R_,←ET.out] at h;exact h),HB4⟩
     case measure=>simp[intOf]
    ·have et:(be8 (8*m.length)).take (1+1)=(be8 (8*m.length)).take 1++[UInt8.ofNat (8*m.length / 2 ^ 48)]:=rfl
     have ev:NI / 281474976710656 % 256=B8 (UInt8.ofNat (8*m.length / 2 ^ 48)):=by rw[eF,HNI.out];omega
     skip
     generalize hc:UInt8.ofNat (8*m.length / 2 ^ 48)=c at et ev;have em:B8 c % 256=B8 c:=cI c;have ET:=O et;clear et hc
     go_wp2_with (at_builtin;go_loud (refine br aN rfl (.tmp 27) (.tmp 34) rfl w.heap.size _ _ rfl (hown2.out.on ((O_ _ _).alloc (A_ _) _)) (.slice (some ⟨wr.heap.size,0,none⟩) 1 1) [c] rfl (bP wr c aN) (by have := HP0.out;simp;omega) (by have := HW3.out;simp;omega) ?_);intro v5 w4 ho4 hg4 hloc;have HB4:=O (hbw2.out.trans (((O_ wr.heap.size wr).alloc (A_ _) (.cells #[.int .u8 (B8 c)] 5)).mono HW3.out |>.trans ((hown2.out.on ((O_ _ _).alloc (A_ _) _)).below hg4 (by have := HW3.out;simp;omega))));have HO4:=O ho4;clear ho4 hg4 hloc)
     go_roundw
     case rel=>exact⟨2,by decide,by go_num,HO4.out.rd.form1 (by have := HP0.out;have := HPL.out;simp[be8];omega),O (by have h:=HO4.out;rw[R_,←ET.out] at h;exact h),HB4⟩
     case measure=>simp[intOf]
    ·have et:(be8 (8*m.length)).take (2+1)=(be8 (8*m.length)).take 2++[UInt8.ofNat (8*m.length / 2 ^ 40)]:=rfl
     have ev:NI / 1099511627776 % 256=B8 (UInt8.ofNat (8*m.length / 2 ^ 40)):=by rw[eF,HNI.out];omega
     skip
     generalize hc:UInt8.ofNat (8*m.length / 2 ^ 40)=c at et ev;have em:B8 c % 256=B8 c:=cI c;have ET:=O et;clear et hc
     go_wp2_with (at_builtin;go_loud (refine br aN rfl (.tmp 27) (.tmp 34) rfl w.heap.size _ _ rfl (hown2.out.on ((O_ _ _).alloc (A_ _) _)) (.slice (some ⟨wr.heap.size,0,none⟩) 1 1) [c] rfl (bP wr c aN) (by have := HP0.out;simp;omega) (by have := HW3.out;simp;omega) ?_);intro v5 w4 ho4 hg4 hloc;have HB4:=O (hbw2.out.trans (((O_ wr.heap.size wr).alloc (A_ _) (.cells #[.int .u8 (B8 c)] 5)).mono HW3.out |>.trans ((hown2.out.on ((O_ _ _).alloc (A_ _) _)).below hg4 (by have := HW3.out;simp;omega))));have HO4:=O ho4;clear ho4 hg4 hloc)
     go_roundw
     case rel=>exact⟨3,by decide,by go_num,HO4.out.rd.form1 (by have := HP0.out;have := HPL.out;simp[be8];omega),O (by have h:=HO4.out;rw[R_,←ET.out] at h;exact h),HB4⟩
     case measure=>simp[intOf]
    ·have et:(be8 (8*m.length)).take (3+1)=(be8 (8*m.length)).take 3++[UInt8.ofNat (8*m.length / 2 ^ 32)]:=rfl
     have ev:NI / 4294967296 % 256=B8 (UInt8.ofNat (8*m.length / 2 ^ 32)):=by rw[eF,HNI.out];omega
     skip
     generalize hc:UInt8.ofNat (8*m.length / 2 ^ 32)=c at et ev;have em:B8 c % 256=B8 c:=cI c;have ET:=O et;clear et hc
     go_wp2_with (at_builtin;go_loud (refine br aN rfl (.tmp 27) (.tmp 34) rfl w.heap.size _ _ rfl (hown2.out.on ((O_ _ _).alloc (A_ _) _)) (.slice (some ⟨wr.heap.size,0,none⟩) 1 1) [c] rfl (bP wr c aN) (by have := HP0.out;simp;omega) (by have := HW3.out;simp;omega) ?_);intro v5 w4 ho4 hg4 hloc;have HB4:=O (hbw2.out.trans (((O_ wr.heap.size wr).alloc (A_ _) (.cells #[.int .u8 (B8 c)] 5)).mono HW3.out |>.trans ((hown2.out.on ((O_ _ _).alloc (A_ _) _)).below hg4 (by have := HW3.out;simp;omega))));have HO4:=O ho4;clear ho4 hg4 hloc)
     go_roundw
     case rel=>exact⟨4,by decide,by go_num,HO4.out.rd.form1 (by have := HP0.out;have := HPL.out;simp[be8];omega),O (by have h:=HO4.out;rw[R_,←ET.out] at h;exact h),HB4⟩
     case measure=>simp[intOf]
    ·have et:(be8 (8*m.length)).take (4+1)=(be8 (8*m.length)).take 4++[UInt8.ofNat (8*m.length / 2 ^ 24)]:=rfl
     have ev:NI / 16777216 % 256=B8 (UInt8.ofNat (8*m.length / 2 ^ 24)):=by rw[eF,HNI.out];omega
     skip
     generalize hc:UInt8.ofNat (8*m.length / 2 ^ 24)=c at et ev;have em:B8 c % 256=B8 c:=cI c;have ET:=O et;clear et hc
     go_wp2_with (at_builtin;go_loud (refine br aN rfl (.tmp 27) (.tmp 34) rfl w.heap.size _ _ rfl (hown2.out.on ((O_ _ _).alloc (A_ _) _)) (.slice (some ⟨wr.heap.size,0,none⟩) 1 1) [c] rfl (bP wr c aN) (by have := HP0.out;simp;omega) (by have := HW3.out;simp;omega) ?_);intro v5 w4 ho4 hg4 hloc;have HB4:=O (hbw2.out.trans (((O_ wr.heap.size wr).alloc (A_ _) (.cells #[.int .u8 (B8 c)] 5)).mono HW3.out |>.trans ((hown2.out.on ((O_ _ _).alloc (A_ _) _)).below hg4 (by have := HW3.out;simp;omega))));have HO4:=O ho4;clear ho4 hg4 hloc)
     go_roundw
     case rel=>exact⟨5,by decide,by go_num,HO4.out.rd.form1 (by have := HP0.out;have := HPL.out;simp[be8];omega),O (by have h:=HO4.out;rw[R_,←ET.out] at h;exact h),HB4⟩
     case measure=>simp[intOf]
    ·have et:(be8 (8*m.length)).take (5+1)=(be8 (8*m.length)).take 5++[UInt8.ofNat (8*m.length / 2 ^ 16)]:=rfl
     have ev:NI / 65536 % 256=B8 (UInt8.ofNat (8*m.length / 2 ^ 16)):=by rw[eF,HNI.out];omega
     skip
     generalize hc:UInt8.ofNat (8*m.length / 2 ^ 16)=c at et ev;have em:B8 c % 256=B8 c:=cI c;have ET:=O et;clear et hc
     go_wp2_with (at_builtin;go_loud (refine br aN rfl (.tmp 27) (.tmp 34) rfl w.heap.size _ _ rfl (hown2.out.on ((O_ _ _).alloc (A_ _) _)) (.slice (some ⟨wr.heap.size,0,none⟩) 1 1) [c] rfl (bP wr c aN) (by have := HP0.out;simp;omega) (by have := HW3.out;simp;omega) ?_);intro v5 w4 ho4 hg4 hloc;have HB4:=O (hbw2.out.trans (((O_ wr.heap.size wr).alloc (A_ _) (.cells #[.int .u8 (B8 c)] 5)).mono HW3.out |>.trans ((hown2.out.on ((O_ _ _).alloc (A_ _) _)).below hg4 (by have := HW3.out;simp;omega))));have HO4:=O ho4;clear ho4 hg4 hloc)
     go_roundw
     case rel=>exact⟨6,by decide,by go_num,HO4.out.rd.form1 (by have := HP0.out;have := HPL.out;simp[be8];omega),O (by have h:=HO4.out;rw[R_,←ET.out] at h;exact h),HB4⟩
     case measure=>simp[intOf]
    ·have et:(be8 (8*m.length)).take (6+1)=(be8 (8*m.length)).take 6++[UInt8.ofNat (8*m.length / 2 ^ 8)]:=rfl
     have ev:NI / 256 % 256=B8 (UInt8.ofNat (8*m.length / 2 ^ 8)):=by rw[eF,HNI.out];omega
     skip
     generalize hc:UInt8.ofNat (8*m.length / 2 ^ 8)=c at et ev;have em:B8 c % 256=B8 c:=cI c;have ET:=O et;clear et hc
     go_wp2_with (at_builtin;go_loud (refine br aN rfl (.tmp 27) (.tmp 34) rfl w.heap.size _ _ rfl (hown2.out.on ((O_ _ _).alloc (A_ _) _)) (.slice (some ⟨wr.heap.size,0,none⟩) 1 1) [c] rfl (bP wr c aN) (by have := HP0.out;simp;omega) (by have := HW3.out;simp;omega) ?_);intro v5 w4 ho4 hg4 hloc;have HB4:=O (hbw2.out.trans (((O_ wr.heap.size wr).alloc (A_ _) (.cells #[.int .u8 (B8 c)] 5)).mono HW3.out |>.trans ((hown2.out.on ((O_ _ _).alloc (A_ _) _)).below hg4 (by have := HW3.out;simp;omega))));have HO4:=O ho4;clear ho4 hg4 hloc)
     go_roundw
     case rel=>exact⟨7,by decide,by go_num,HO4.out.rd.form1 (by have := HP0.out;have := HPL.out;simp[be8];omega),O (by have h:=HO4.out;rw[R_,←ET.out] at h;exact h),HB4⟩
     case measure=>simp[intOf]
    ·have et:(be8 (8*m.length)).take (7+1)=(be8 (8*m.length)).take 7++[UInt8.ofNat (8*m.length / 2 ^ 0)]:=rfl
     have ev:NI % 256=B8 (UInt8.ofNat (8*m.length / 2 ^ 0)):=by rw[eF,HNI.out];omega
     skip
     generalize hc:UInt8.ofNat (8*m.length / 2 ^ 0)=c at et ev;have em:B8 c % 256=B8 c:=cI c;have ET:=O et;clear et hc
     go_wp2_with (at_builtin;go_loud (refine br aN rfl (.tmp 27) (.tmp 34) rfl w.heap.size _ _ rfl (hown2.out.on ((O_ _ _).alloc (A_ _) _)) (.slice (some ⟨wr.heap.size,0,none⟩) 1 1) [c] rfl (bP wr c aN) (by have := HP0.out;simp;omega) (by have := HW3.out;simp;omega) ?_);intro v5 w4 ho4 hg4 hloc;have HB4:=O (hbw2.out.trans (((O_ wr.heap.size wr).alloc (A_ _) (.cells #[.int .u8 (B8 c)] 5)).mono HW3.out |>.trans ((hown2.out.on ((O_ _ _).alloc (A_ _) _)).below hg4 (by have := HW3.out;simp;omega))));have HO4:=O ho4;clear ho4 hg4 hloc)
     go_roundw
     case rel=>exact⟨8,by decide,by go_num,HO4.out.rd.form1 (by have := HP0.out;have := HPL.out;simp[be8];omega),O (by have h:=HO4.out;rw[R_,←ET.out] at h;exact h),HB4⟩
     case measure=>simp[intOf]
    ·have HR:Hid (ap eB wr w.heap.size (.slice a2 (m.length+1+j+8) cap2) (gj m)):=O (by rw[←HPD.out];exact hown2.out)
     go_wp2;go_ret;exact⟨_,rfl,HR.out,hbw2.out⟩
  ·have tq:¬((m.length:Int)+1+(j:Int)) % 64=56:=by intro h;exact hq (hz1.1 (by omega))
   have tq2:(((m.length:Int)+1+(j:Int)) % 64 != 56)=true:=by simpa using tq
   have HJ:Hid (j+1≤kS m.length):=O (by omega);clear hz1 hq tq hj
   go_wp2_with (at_builtin;(refine br aN rfl (.tmp 16) (.tmp 17) rfl w.heap.size (.slice a (m.length+1+j) cap) (m++[128]++List.replicate j 0) rfl (hown.out.on ((O_ _ _).alloc (A_ _) _)) (.slice (some ⟨wr.heap.size,0,none⟩) 1 1) [0] rfl (bP wr (0:UInt8) aN) (by simp;have := jz m.length;have := HJ.out;have := HLEN.out;omega) (by have := HW.out;simp;omega) ?_);intro v5 w4 ho4 hg4 hloc;have HB4:=O (hbw.out.trans (((O_ wr.heap.size wr).alloc (A_ _) (.cells #[.int .u8 0] 5)).mono HW.out |>.trans ((hown.out.on ((O_ _ _).alloc (A_ _) _)).below hg4 (by have := HW.out;simp;omega))));have HO4:=O ho4;clear ho4 hg4 hloc)
   go_roundw
   case rel=>exact⟨j+1,HJ.out,HO4.out.rd.form1 (by simp;omega),O (by have h:=HO4.out;rw[R_,←List.replicate_succ'] at h;exact h),HB4⟩
   case measure =>
    obtain⟨a5,c5,e5⟩:=HO4.out.rd.form1 (n:=m.length+1+j+1) (by simp;omega);have := HJ.out;have := jz m.length;have := HLEN.out
    show 1000000-iZ v5<1000000-iZ (.slice a (m.length+1+j) cap)
    rw[e5];simp only[iZ]
    omega
end
section
namespace F6
def pow (a:B):Nat→B
 | 0=>1
 | n+1=>mul (pow a n) a
theorem pow_add (a:B) (m n:Nat):pow a (m+n)=mul (pow a m) (pow a n):=by
 induction n with
 | zero=>rw[Nat.add_zero,pow,mul_one]
 | succ n ih=>rw[←Nat.add_assoc,pow,ih,pow,dS]
theorem TR (a:B) (n:Nat):sq a n=pow a (2 ^ n):=by
 induction n with
 | zero=>show a=mul 1 a;rw[one_mul]
 | succ n ih=>rw[sq,ih,←pow_add];congr 1;rw[Nat.pow_succ];omega
theorem PX (a:B) (n:Nat):sqp a n=pow a (2 ^ (n+1)-2):=by
 induction n with
 | zero=>rfl
 | succ n ih =>
   rw[sqp,ih,TR,←pow_add]
   congr 1
   have : 2 ^ (n+1)≥2:=by have := Nat.one_le_two_pow (n:=n);rw[Nat.pow_succ];omega
   rw[Nat.pow_succ 2 (n+1)];omega
theorem Bl (a:B):ku a=pow a 254:=PX a 7
end F6
end
section
namespace Fld
open F6
attribute [go_sem] Sr J2
theorem MO (x:UInt8) (h:bit x 7=true):(256:Int)≤2*B8 x∧bits .xor .i64 (2*B8 x) 285=B8 (xt x):=by
 obtain⟨h1,h2⟩:=MN x h;rw[Int.mul_comm];exact⟨by omega,h2⟩
theorem MQ (x:UInt8) (h:bit x 7=false):¬(256:Int)≤2*B8 x∧2*B8 x=B8 (xt x):=by
 obtain⟨h1,h2⟩:=MP x h;rw[Int.mul_comm];exact⟨by omega,h2⟩
theorem Nz (b:UInt8) (k:Nat):((B8 b / 2 ^ k).tmod 2 == 1)=bit b k:=by
 have e:B8 b / 2 ^ k=((b.toNat / 2 ^ k:Nat):Int):=by unfold B8;rw[Int.natCast_ediv,Int.natCast_pow];rfl
 have h:=CA b k;rw[sf] at h;rw[e,h,Int.tmod_eq_emod_of_nonneg (Int.natCast_nonneg _)];generalize b.toNat / 2 ^ k=n;rw[Bool.eq_iff_iff,beq_iff_eq,decide_eq_true_eq]
 omega
end Fld
end
end Go.Proofs.YtmfiaadjdbemnaaGreatDoor
