/- Contracts and lemmas. No condition. -/
import Derived.Test.YtmfiaadjdbemnaaGreatDoorSB06
import Derived.Test.YtmfiaadjdbemnaaGreatDoorSB07
import Derived.Test.YtmfiaadjdbemnaaGreatDoorSB08
import Derived.Lib.AppendZeros
set_option maxRecDepth 100000
set_option maxHeartbeats 8000000
set_option linter.unusedSimpArgs false
set_option linter.unusedVariables false
namespace Go.Proofs.YtmfiaadjdbemnaaGreatDoor
open Tryz
section
open Go.RowKit
def il (x:Int × Nat × Int):Value := .tuple #[.int .i64 x.1,.int .i64 x.2.1,.int .i64 x.2.2]
def kOf (h:UInt8):Nat:=(h ^^^ bH h).toNat-128
def vOf (h:UInt8) (r:List UInt8):Nat:=dB ((r.take (kOf h)).map (· ^^^ bH h))
theorem jK (h:UInt8) (r:List UInt8):(8<kOf h∧aZ (h::r)=(0,0,6))∨(kOf h≤8∧r.length<kOf h∧aZ (h::r)=(0,0,5)) ∨
  (kOf h≤8∧kOf h≤r.length∧0<kOf h∧byteAt r 0 ^^^ bH h=0∧aZ (h::r)=(0,0,6)) ∨
  (kOf h≤8∧kOf h≤r.length∧(kOf h=0∨0<kOf h∧byteAt r 0 ^^^ bH h≠0)∧((9223372036854775808≤vOf h r∧aZ (h::r)=(0,0,6))∨(vOf h r<9223372036854775808∧aZ (h::r)=(if h.toNat<128 then -1-(vOf h r:Int) else (vOf h r:Int),kOf h+1,0)))):=by
 rw[aZ]
 by_cases h1:8<kOf h
 ·exact .inl ⟨h1,G_ h1⟩
 ·rw[H_ (show ¬ 8 < (h ^^^ bH h).toNat - 128 from h1)]
  by_cases h2:r.length<kOf h
  ·exact .inr (.inl ⟨by omega,h2,G_ h2⟩)
  ·rw[H_ (show ¬r.length<(h ^^^ bH h).toNat-128 from h2)]
   by_cases h3:0<kOf h∧byteAt r 0 ^^^ bH h=0
   ·exact .inr (.inr (.inl ⟨by omega,by omega,h3.1,h3.2,G_ h3⟩))
   ·rw[H_ (show ¬(0<(h ^^^ bH h).toNat-128∧byteAt r 0 ^^^ bH h=0) from h3)]
    refine .inr (.inr (.inr ⟨by omega,by omega,?_,?_⟩))
    ·rcases Nat.eq_zero_or_pos (kOf h) with h0|h0
     ·exact .inl h0
     ·exact .inr ⟨h0,fun e=>h3 ⟨h0,e⟩⟩
    ·by_cases h4:9223372036854775808≤vOf h r
     ·exact .inl ⟨h4,G_ h4⟩
     ·exact .inr ⟨by omega,H_ h4⟩
theorem Mu (h:UInt8) (r:List UInt8) (hk:kOf h≤8):vOf h r<18446744073709551616:=by
 refine P_ (mN _) ?_
 have : ((r.take (kOf h)).map (· ^^^ bH h)).length≤8:=by rw[List.length_map,b_];omega
 exact M_ (Nat.pow_le_pow_right (by decide) this) (by decide)
theorem Xp (m:Nat) (h:m<18446744073709551616):m ^^^ (2 ^ 64-1)=18446744073709551615-m:=by
 have h1:=Lib.xor_ones64 m h;rw[Nat.xor_comm] at h1
 omega
theorem Cr (m:Nat) (h:m<9223372036854775808):wrap64 (bits .xor .u64 IntKind.u64.max (m:Int)) = -1-(m:Int):=by
 have e2:IntKind.u64.max=((2 ^ 64-1:Nat):Int):=by decide
 rw[e2,bits_xor_u64_nat _ _ (by decide) (by omega),Nat.xor_comm,Xp m (by omega)];unfold wrap64
 omega
attribute [local irreducible] Calls vOf
theorem Ba (v : Value) (b : List UInt8) (w : World) (hv : RdE eB w v b) :
  Calls prog 174 #[v] w fun e w'=>e = .returned (il (aZ b))∧w'=w:=by
 have HV:=O hv;obtain⟨a,cap,rfl,hcap,hcm,_⟩:=hv;unfold maxLen at hcm
 cases b with
 | nil =>
   go_enter func174,ntmps174
   go_wp2;refine⟨rfl,il (aZ []),by kernel_rfl,rfl,rfl⟩
 | cons h r =>
   obtain⟨bb,off,rfl,hbl,aO⟩:=fp HV.out (by simp);have HROW:=O aO;clear aO;have hc0:=HROW.out 0 (by simp);have e0:byteAt (h::r) 0=h:=rfl;rw[e0,Nat.add_zero] at hc0;have HGE:=O (EH h);have HP:=O (jK h r);have HF:=O (lL h);obtain⟨F,hF⟩:∃F,F=bH h:=⟨_,rfl⟩;have HFF:=O hF;clear hF e0
   go_enter func174,ntmps174
   go_upto_if 16 with fail
   go_cut [5,16] from 17 to 17 (fun f _ wc=>f = .int .u8 (B8 F)∧wc=w)
   case first =>
    rcases HF.out with⟨hc1,hc2⟩|⟨hc1,hc2⟩
    ·have i1:B8 h<128:=by unfold B8;omega
     have H2:Hid (F=255):=O (by rw[HFF.out,hc2]);clear hc1 hc2;go_wp2
     all_goals go_meet
     case rel=>exact⟨by rw[H2.out];rfl,rfl⟩
    ·have i1:¬B8 h<128:=by unfold B8;omega
     have H2:Hid (F=0):=O (by rw[HFF.out,hc2]);clear hc1 hc2;go_wp2
     all_goals go_meet
     case rel=>exact⟨by rw[H2.out];rfl,rfl⟩
   case rest =>
    obtain⟨rfl,hwc⟩:=hcut;rw[hwc];clear hwc
    have hkk:B8 (h ^^^ F)=128+(kOf h:Int):=by rw[HFF.out];unfold kOf B8;have := HGE.out;omega
    have hk0:(kOf h:Int)≤127:=by have h1:=(h ^^^ bH h).toNat_lt;unfold kOf;omega
    have HPX:=O HP.out;have HFC:=O HF.out;generalize hK:kOf h=K at hkk hk0 HPX;have HKK:=O hK;clear hK
    have e1:128+(K:Int)-128=K:=by omega
    rcases HPX.out with⟨p1,p2⟩|⟨p1,p2,p3⟩|⟨p1,p2,p3,p4,p5⟩|⟨p1,p2,p3,p4⟩
    ·have i1:(8:Int)<K:=by omega
     have HR:=O p2;clear p1 p2 HPX;go_wp2
     go_ret3
     exact⟨by rw[HR.out];rfl,rfl⟩
    ·have i1:(K:Int)≤8:=by omega
     have i2:(r.length:Int)+1≤K:=by omega
     have HR:=O p3;clear p1 p2 p3 HPX;go_wp2
     go_ret3
     exact⟨by rw[HR.out];rfl,rfl⟩
    ·have i1:(K:Int)≤8:=by omega
     have i2:¬(r.length:Int)+1≤K:=by omega
     have i3:(0:Int)<K:=by omega
     have i4:(1:Int)<r.length+1:=by omega
     have i5:1<r.length+1:=by omega
     have HR:=O p5;have hc1:=HROW.out 1 (by simp;omega);have e2:byteAt (h::r) 1=byteAt r 0:=rfl;rw[e2] at hc1;rw[←HFF.out] at p4
     have e3:bits .xor .u8 (B8 (byteAt r 0)) (B8 F)=0:=by rw[sj,p4];rfl
     clear p1 p2 p3 p4 p5 HPX e2;go_wp2
     go_ret3
     exact⟨by rw[HR.out];rfl,rfl⟩
    ·have i1 : (K : Int) ≤ 8 := by omega
     have i2:¬(r.length:Int)+1≤K:=by omega
     have HKL:Hid (K≤r.length):=O p2;have HK8:Hid (K≤8):=O p1;have HR:=O p4
     go_upto_region 11 with fail
     go_cut [32] from 33 to 42 (fun c wc=>c = .bool false∧wc=w)
     case first =>
      rcases p3 with h0|⟨h1,h2⟩
      ·have i3:¬(0:Int)<K:=by omega
       clear p1 p2 p4 HPX h0;go_wp2
       go_meet
       case rel=>exact⟨rfl,rfl⟩
      ·have i3:(0:Int)<K:=by omega
       have i4:(1:Int)<r.length+1:=by omega
       have i5:1<r.length+1:=by omega
       have hc1:=HROW.out 1 (by simp;omega);have e2:byteAt (h::r) 1=byteAt r 0:=rfl;rw[e2] at hc1;rw[←HFF.out] at h2;have e4:¬B8 (byteAt r 0 ^^^ F)=0:=fun e=>h2 (pJ e)
       have e5:(B8 (byteAt r 0 ^^^ F) == 0)=false:=by simpa using e4
       clear p1 p2 p4 HPX e2 h1 h2;go_wp2
       go_meet
       case rel=>exact⟨rfl,rfl⟩
     case rest =>
      obtain⟨rfl,hwc⟩:=hcut;rw[hwc];clear hwc p3 p4 HPX
      have i3:(K:Int)+1≤cap:=by simp at hcap;omega
      by_cases hcap1:cap=1
      ·subst hcap1
       have h0:K=0:=by omega
       clear h0;go_wp2
       go_loopw [48,7] (fun i v wr=>∃(j m:Nat),j≤K∧i = .int .i64 j∧v = .int .u64 m∧Hid (m=dB ((r.take j).map (· ^^^ F)))∧wr=w) (fun i _ _=>K-(intOf i).toNat)
       case atStart=>exact⟨0,0,N_ _,rfl,rfl,O (by simp[dB]),rfl⟩
       case round =>
        obtain⟨j,m,hj,rfl,rfl,hm,rfl⟩:=hrel
        have hk1:K≤0:=by omega
        have HM:=hm;have b1:(if 9223372036854775808≤vOf h r then (1:Nat) else 0)=(if 9223372036854775808≤vOf h r then 1 else 0):=rfl;clear b1
        have hjk:j=K:=by omega
        subst hjk;have HV2:Hid (m=vOf h r):=O (by rw[HM.out];unfold vOf;rw[HKK.out,HFF.out]);have hml:=Mu h r (by rw[HKK.out];exact HK8.out);rw[←HV2.out] at hml
        have j1:¬(j:Int)<j:=by omega
        rcases HR.out with⟨q1,q2⟩|⟨q1,q2⟩
        ·have HQ:=O q2
         rw[←HV2.out] at q1
         have j2:(0:Int)<(m:Int) / 9223372036854775808:=by omega
         obtain⟨mi,hmi⟩:∃mi:Int,mi=(m:Int):=⟨_,rfl⟩;rw[←hmi] at j2 ⊢;clear q1 q2 hmi hm;go_wp2
         go_ret3
         exact⟨by rw[HQ.out];rfl,rfl⟩
        ·have HQ:=O q2
         rw[←HV2.out] at q1
         have j2:¬(0:Int)<(m:Int) / 9223372036854775808:=by omega
         have j3:(m:Int)<9223372036854775808:=by omega
         have j4:0≤(m:Int):=by omega
         obtain⟨mi,hmi⟩:∃mi:Int,mi=(m:Int):=⟨_,rfl⟩;rw[←hmi] at j2 j3 j4 ⊢;have HMI:=O hmi
         have j5:IntKind.i64.wrap mi=mi:=by rw[IntKind.wrap_i64];omega
         have J6:Hid (wrap64 (bits .xor .u64 IntKind.u64.max mi) = -1-mi):=O (by rw[hmi];exact Cr m (by omega));clear q1 q2 hmi hm
         rcases HFC.out with⟨hc1,hc2⟩|⟨hc1,hc2⟩
         ·have k1:(0:Int)<B8 F:=by rw[HFF.out,hc2];decide
          have HC1:=O hc1;clear hc1 hc2;go_wp2;rw[J6.out]
          go_ret3
          exact⟨by rw[HQ.out,G_ HC1.out,←HV2.out,←HMI.out];rfl,rfl⟩
         ·have k1:¬(0:Int)<B8 F:=by rw[HFF.out,hc2];decide
          have HC1:=O hc1;clear hc1 hc2;go_wp2
          go_ret3
          exact⟨by rw[HQ.out,H_ HC1.out,←HV2.out,←HMI.out];rfl,rfl⟩
      ·have yd:¬(cap:Int)=1:=by omega
       go_wp2
       go_loopw [48,7] (fun i v wr=>∃(j m:Nat),j≤K∧i = .int .i64 j∧v = .int .u64 m∧Hid (m=dB ((r.take j).map (· ^^^ F)))∧wr=w) (fun i _ _=>K-(intOf i).toNat)
       case atStart=>exact⟨0,0,N_ _,rfl,rfl,O (by simp[dB]),rfl⟩
       case round =>
        obtain⟨j,m,hj,rfl,rfl,hm,rfl⟩:=hrel
        by_cases hlt:j<K
        ·have j1:(j:Int)<K:=by omega
         have hcj:=HROW.out (1+j) (by have := HKL.out;simp;omega)
         have e2:byteAt (h::r) (1+j)=byteAt r j:=by rw[Nat.add_comm];rfl
         rw[e2,←Nat.add_assoc] at hcj;have hm56:=wE r F j (by have := HK8.out;omega);have HST:=O (oQ r F j (by have := HKL.out;omega));rw[←hm.out] at hm56;have HM:=hm;obtain⟨mi,hmi⟩:∃mi:Int,mi=(m:Int):=⟨_,rfl⟩;have hor:=O4 m (byteAt r j ^^^ F) hm56;rw[←hmi] at hor ⊢
         have m1:mi<72057594037927936:=by omega
         have m2:0≤mi:=by omega
         have hwb:IntKind.u64.wrap (B8 (byteAt r j ^^^ F))=B8 (byteAt r j ^^^ F):=by rw[IntKind.wrap_u64];have := jZ (byteAt r j ^^^ F);have := kI (byteAt r j ^^^ F);omega
         have HOR:=O hor;clear hor;have HLT:=O hlt;clear hm hm56 e2 hmi hlt;go_wp2;go_roundw
         case rel=>exact⟨j+1,256*m+(byteAt r j ^^^ F).toNat,HLT.out,by go_num,by first |exact congrArg (Value.int .u64) HOR.out|(rw[hwb];exact congrArg (Value.int .u64) HOR.out),O (by rw[HST.out,←HM.out]),by first |exact rfl|exact trivial⟩
         case measure=>have := HLT.out;simp[intOf];omega
        ·have HNL:=O hlt
         clear hlt;have HM:=hm;have b1:(if 9223372036854775808≤vOf h r then (1:Nat) else 0)=(if 9223372036854775808≤vOf h r then 1 else 0):=rfl;clear b1
         have hjk:j=K:=by have := HNL.out;omega
         subst hjk;have HV2:Hid (m=vOf h r):=O (by rw[HM.out];unfold vOf;rw[HKK.out,HFF.out]);have hml:=Mu h r (by rw[HKK.out];exact HK8.out);rw[←HV2.out] at hml
         have j1:¬(j:Int)<j:=by omega
         rcases HR.out with⟨q1,q2⟩|⟨q1,q2⟩
         ·have HQ:=O q2
          rw[←HV2.out] at q1
          have j2:(0:Int)<(m:Int) / 9223372036854775808:=by omega
          obtain⟨mi,hmi⟩:∃mi:Int,mi=(m:Int):=⟨_,rfl⟩;rw[←hmi] at j2 ⊢;clear q1 q2 hmi hm;go_wp2
          go_ret3
          exact⟨by rw[HQ.out];rfl,rfl⟩
         ·have HQ:=O q2
          rw[←HV2.out] at q1
          have j2:¬(0:Int)<(m:Int) / 9223372036854775808:=by omega
          have j3:(m:Int)<9223372036854775808:=by omega
          have j4:0≤(m:Int):=by omega
          obtain⟨mi,hmi⟩:∃mi:Int,mi=(m:Int):=⟨_,rfl⟩;rw[←hmi] at j2 j3 j4 ⊢;have HMI:=O hmi
          have j5:IntKind.i64.wrap mi=mi:=by rw[IntKind.wrap_i64];omega
          have J6:Hid (wrap64 (bits .xor .u64 IntKind.u64.max mi) = -1-mi):=O (by rw[hmi];exact Cr m (by omega));clear q1 q2 hmi hm
          rcases HFC.out with⟨hc1,hc2⟩|⟨hc1,hc2⟩
          ·have k1:(0:Int)<B8 F:=by rw[HFF.out,hc2];decide
           have HC1:=O hc1;clear hc1 hc2;go_wp2;rw[J6.out]
           go_ret3
           exact⟨by rw[HQ.out,G_ HC1.out,←HV2.out,←HMI.out];rfl,rfl⟩
          ·have k1:¬(0:Int)<B8 F:=by rw[HFF.out,hc2];decide
           have HC1:=O hc1;clear hc1 hc2;go_wp2
           go_ret3
           exact⟨by rw[HQ.out,H_ HC1.out,←HV2.out,←HMI.out];rfl,rfl⟩
end
section
open Go.RowKit
theorem pH (w:World):(sizeOf (prog.elem 80)).run prog w = .ok 1 w:=by kernel_rfl
theorem mm:prog.underlying 80=some (.slice (prog.elem 80)):=by kernel_rfl
theorem jV {w:World} {a:Option Addr} {cap:Nat} {b:List UInt8} (hv:RdE eB w (.slice a b.length cap) b) (i j:Nat) (hij:i≤j) (hj:j≤b.length) :
  RdE eB w (sliced a i j cap 1) ((b.drop i).take (j-i)):=by
 obtain⟨a',cap',e,h1,h2,h3⟩:=hv
 cases e
 have hl:((b.drop i).take (j-i)).length=j-i:=by rw[b_,S_];omega
 refine⟨_,cap-i,by rw[hl];rfl,by rw[hl];omega,by omega,fun h0 => ?_⟩;rw[hl] at h0;obtain⟨bb,off,rfl,hlt,hc⟩:=h3 (by omega)
 have hne:¬cap=i:=by omega
 rw[H_ hne]
 have gX:(⟨bb,off,none⟩:Addr).add (i*1)=⟨bb,off+i,none⟩:=by unfold Addr.add;simp
 refine⟨bb,off+i,by rw[Option.map_some,gX],hlt,fun k u hu => ?_⟩;rw[mU] at hu
 have hk:k<j-i:=by have := (d_.1 hu).1;rw[iP,hl] at this;exact this
 have := hc (i+k) u (by
  rw[mU,←hu];unfold bcs
  rw[List.getElem?_map,List.getElem?_map,List.getElem?_take,G_ hk,List.getElem?_drop])
 rwa [←Nat.add_assoc] at this
theorem LQ {w:World} {v:Value} {b:List UInt8} (hv:RdE eB w v b) (i j:Nat) (hij:i≤j) (hj:j≤b.length) :
  ∃v',(Instr.slice 80 v (some (.int .i64 i)) (some (.int .i64 j)) none).run prog w = .ok v' w∧RdE eB w v' ((b.drop i).take (j-i)):=by
 have hv2:=hv;obtain⟨a,cap,rfl,h1,h2,h3⟩:=hv;refine⟨_,?_,jV hv2 i j hij hj⟩;rw[run_slice_lh w _ a _ cap mm .i64 .i64 _ _ (by omega) (by omega) (by omega),pH]
 simp[Result.andThen]
theorem Fv {w:World} {v:Value} {b:List UInt8} (hv:RdE eB w v b) (i:Nat) (hi:i≤b.length) :
  ∃v',(Instr.slice 80 v (some (.int .i64 i)) none none).run prog w = .ok v' w∧RdE eB w v' (b.drop i):=by
 have hv2:=hv;obtain⟨a,cap,rfl,h1,h2,h3⟩:=hv;have h:=jV hv2 i b.length hi (A_ _);rw[Y_ (by rw[S_];exact A_ _)] at h;refine⟨_,?_,h⟩;rw[run_slice_l w _ a _ cap mm .i64 _ (by omega) (by omega),pH]
 simp[Result.andThen]
theorem PH {w:World} {v:Value} {b:List UInt8} (hv:RdE eB w v b) (j:Nat) (hj:j≤b.length) :
  ∃v',(Instr.slice 80 v none (some (.int .i64 j)) none).run prog w = .ok v' w∧RdE eB w v' (b.take j):=by
 have hv2:=hv;obtain⟨a,cap,rfl,h1,h2,h3⟩:=hv;have h:=jV hv2 0 j (N_ _) hj;rw[L_,Nat.sub_zero] at h;refine⟨_,?_,h⟩;rw[run_slice_h w _ a _ cap mm .i64 _ (by omega) (by omega),pH]
 simp[Result.andThen]
theorem V7 {w:World} {v:Value} {b:List UInt8} (hv:RdE eB w v b) (T:TypeId):(Builtin.len_ #[80] T #[v]).run prog w = .ok (.int .i64 b.length) w:=by
 obtain⟨a,cap,rfl,h1,h2,h3⟩:=hv
 kernel_rfl
attribute [local irreducible] Calls
theorem yL (v:Value) (b:List UInt8) (w:World) (hv:RdE eB w v b) :
  Calls prog 144 #[v,.int .i64 1] w fun e w'=>e = .returned (il (dG b 1))∧w'=w:=by
 have HG:=O (Ba v b w hv);have hlen:=hv.len;unfold maxLen at hlen;have HU:=O (jA b);have HP:=O (oT b 1);have HZ:=O (ql b);obtain⟨a,cap,rfl,hcap,hcm,_⟩:=hv;generalize aZ b=d at HG HU HP HZ;obtain⟨n,u,er⟩:=d;simp only at HP HU HZ
 rcases HP.out with⟨h1,h2⟩|⟨h1,h2,h3⟩|⟨h1,h2,h3,h4⟩|⟨h1,h2,h3,h4⟩
 ·have HR:=O h2
  have HE:=O (HZ.out h1);obtain⟨rfl,rfl⟩:=HE.out;clear h2 HP HE HZ
  go_enter func144,ntmps144
  go_wp2_with (go_at_call 174;refine HG.out.mono ?_;rintro e w1 ⟨rfl,hw1⟩;rw[hw1];clear hw1;simp only[il])
  go_ret3
  exact⟨by rw[HR.out];rfl,rfl⟩
 ·subst h1
  have HR:=O h3;clear h3 HP HZ
  go_enter func144,ntmps144
  go_wp2_with (go_at_call 174;refine HG.out.mono ?_;rintro e w1 ⟨rfl,hw1⟩;rw[hw1];clear hw1;simp only[il])
  go_ret3
  exact⟨by rw[HR.out];rfl,rfl⟩
 ·subst h1
  have HR:=O h4;have hu:=(HU.out rfl).1
  have hu':(u:Int)≤b.length:=by omega
  have i3:¬n≤(b.length:Int)-u:=by rw[Nat.div_one] at h3;omega
  clear h3 h4 HP hu HZ
  go_enter func144,ntmps144
  go_wp2_with (go_at_call 174;refine HG.out.mono ?_;rintro e w1 ⟨rfl,hw1⟩;rw[hw1];clear hw1;simp only[il])
  go_ret3
  exact⟨by rw[HR.out];rfl,rfl⟩
 ·subst h1
  have HR:=O h4;have hu:=(HU.out rfl).1
  have hu':(u:Int)≤b.length:=by omega
  have i3:n≤(b.length:Int)-u:=by rw[Nat.div_one] at h3;omega
  clear h3 h4 HP hu HZ
  go_enter func144,ntmps144
  go_wp2_with (go_at_call 174;refine HG.out.mono ?_;rintro e w1 ⟨rfl,hw1⟩;rw[hw1];clear hw1;simp only[il])
  go_ret3
  exact⟨by rw[HR.out];rfl,rfl⟩
def mH (x:List UInt8 × Nat × Int):Value := .tuple #[.string ⟨x.1.toArray⟩,.int .i64 x.2.1,.int .i64 x.2.2]
theorem uG (b:List UInt8):((dG b 1).2.2≠0∧aL b=([],0,(dG b 1).2.2))∨((dG b 1).2.2=0∧aL b=((b.drop (dG b 1).2.1).take (dG b 1).1.toNat,(dG b 1).2.1+(dG b 1).1.toNat,0)):=by
 unfold aL
 by_cases h:(dG b 1).2.2=0
 ·exact .inr ⟨h,H_ (fun e=>e h)⟩
 ·exact .inl ⟨h,G_ h⟩
theorem uX (v:Value) (b:List UInt8) (w:World) (hv:RdE eB w v b) :
  Calls prog 134 #[v] w fun e w'=>e = .returned (mH (aL b))∧w'=w:=by
 have HG:=O (yL v b w hv);have hlen:=hv.len;unfold maxLen at hlen;have HU:=O (iQ b);have HP:=O (uG b);have HV:=O hv;generalize dG b 1=d at HG HU HP;obtain⟨n,u,er⟩:=d;simp only at HP HU;clear hv
 rcases HP.out with⟨h1,h2⟩|⟨h1,h2⟩
 ·have HR:=O h2
  clear h2 HP
  go_enter func134,ntmps134
  go_wp2_with (go_at_call 144;refine HG.out.mono ?_;rintro e w1 ⟨rfl,hw1⟩;rw[hw1];clear hw1;simp only[il])
  go_ret3
  exact⟨by rw[HR.out];rfl,rfl⟩
 ·subst h1
  have HR:=O h2;obtain⟨_,k2,k3,_⟩:=HU.out rfl;obtain⟨m,rfl⟩:∃m:Nat,n=(m:Int):=⟨n.toNat,by omega⟩;rw[Int.toNat_natCast] at HR k3;obtain⟨vs,hsl,hrs⟩:=LQ HV.out u (u+m) (by omega) k3;rw[show u+m-u=m by omega] at hrs;have hcv:=b6 hrs;generalize (b.drop u).take m=t at HR hcv
  have ha:(u:Int)+(m:Int)≤b.length:=by omega
  have hs:=hsl;rw[Int.natCast_add] at hs;clear h2 HP k2 k3 hsl hrs
  go_enter func134,ntmps134
  go_wp2_with (go_at_call 144;refine HG.out.mono ?_;rintro e w1 ⟨rfl,hw1⟩;rw[hw1];clear hw1;simp only[il])
  go_ret3
  exact⟨by rw[HR.out];rfl,rfl⟩
end
section
open Go.RowKit
attribute [local irreducible] Calls
theorem S4 (v:Value) (b:List UInt8) (pos g0 g1:Nat) (w:World) (hv:RdE eB w v b) (h0:w.cell? ⟨g0,0,none⟩=some v) (h1:w.heap[g1]?=some (.cells #[.int .i64 pos] 3 (0,0))) (hp:pos≤b.length) :
  Calls prog 186 #[.pointer (some ⟨g0,0,none⟩),.pointer (some ⟨g1,0,none⟩)] w fun e w'=>e = .returned (.tuple #[.int .i64 (aZ (b.drop pos)).1,.int .i64 ((pos+(aZ (b.drop pos)).2.1:Nat):Int),.int .i64 (aZ (b.drop pos)).2.2]) ∧
   ∃n,w'=(w.setCell ⟨g1,0,none⟩ (.int .i64 ((pos+(aZ (b.drop pos)).2.1:Nat):Int))).drewN n:=by
 obtain⟨vs,hs,hrs⟩:=Fv hv pos hp;have HG:=O (Ba vs _ w hrs);have hlen:=hv.len;unfold maxLen at hlen
 have hu:pos+(aZ (b.drop pos)).2.1≤b.length:=by
  by_cases h:(aZ (b.drop pos)).2.2=0
  ·have := (jA _ h).1
   rw[S_] at this
   omega
  ·rw[(ql _ h).2];exact hp
 have c1:w.cell? ⟨g1,0,none⟩=some (.int .i64 pos):=e_ _ _ _ _ _ _ h1;have f1:=frozen_of_row _ _ 0 _ _ h1;have HH1:=O h1;generalize aZ (b.drop pos)=d at HG hu ⊢;obtain⟨n,u,er⟩:=d;simp only at hu
 have hpi:(pos:Int)≤b.length:=by omega
 have hui:(pos:Int)+(u:Int)≤b.length:=by omega
 have hp0:(0:Int)≤pos:=by omega
 have hu0:(0:Int)≤(pos:Int)+u:=by omega
 have hli:(b.length:Int)≤9223372036854775807:=by omega
 have c2:(w.setCell ⟨g1,0,none⟩ (.int .i64 ((pos:Int)+u))).cell? ⟨g1,0,none⟩=some (.int .i64 ((pos:Int)+u)):=by
  rw[au _ _ _ _ _ _ _ h1];exact e_ _ _ _ _ _ _ (setRow_heap _ _ _ _ _ _ h1)
 clear hp hu hv hrs h1
 go_enter func186,ntmps186
 go_upto_region 3 with (go_at_call 174;refine HG.out.mono ?_;rintro e w1 ⟨rfl,hw1⟩;rw[hw1];clear hw1;simp only[il])
 try dsimp only[Act.put]
 refine fG (by kernel_rfl) (by kernel_rfl) ?_
 repeat (go_big_quiet_step (fail))
 refine h_ ?_;rintro _ ⟨nq,rfl⟩;go_wp2
 go_ret3
 exact⟨rfl,nq,rfl⟩
theorem Lj (a:Option Addr) (n cap:Nat) (pos:Int) (w:World) :
  Calls prog 172 #[.slice a n cap,.int .i64 pos] w fun e w'=>e = .returned (.func (.func 186) #[] #[.pointer (some ⟨w.heap.size,0,none⟩),.pointer (some ⟨w.heap.size+1,0,none⟩)]) ∧
   w'=(w.alloc (.cells #[.slice a n cap] 80)).alloc (.cells #[.int .i64 pos] 3):=by
 have hmf:∀(fn:Fn) (first cap:Array Value) (w:World),(Instr.makeFunc fn first cap).run prog w = .ok (.func fn first cap) w:=fun _ _ _ _=>rfl
 go_enter func172,ntmps172
 go_wp2;go_ret;exact⟨rfl,rfl⟩
theorem Eo {w w':World} {g:Nat} (h:w'.heap[g]? = w.heap[g]?) (o:Nat):w'.cell? ⟨g,o,none⟩=w.cell? ⟨g,o,none⟩:=by
 unfold World.cell?;simp only[h]
structure GW (w:World) (v:Value) (pos:Nat) (out:Value) (acc:List Int) (wr:World):Prop where
 c0:wr.cell? ⟨w.heap.size,0,none⟩=some v
 c1:wr.heap[w.heap.size+1]?=some (.cells #[.int .i64 pos] 3 (0,0))
 own:ap eI wr (w.heap.size+2) out acc
 below:Below w.heap.size w wr
theorem GW.start (w:World) (v:Value) (pos:Nat):GW w v pos (.slice none 0 0) [] ((w.alloc (.cells #[v] 80)).alloc (.cells #[.int .i64 pos] 3)) :=
 ⟨by rw[e_ _ _ _ _ _ _ (show ((w.alloc (.cells #[v] 80)).alloc (.cells #[.int .i64 pos] 3)).heap[w.heap.size]?=some (.cells #[v] 80 (0,0)) by rw[bx _ _ _ (by simp),al _ _ _ rfl])];rfl,al _ _ _ (by simp),ap.nil _ _,((O_ _ _).alloc (A_ _) _).alloc (by simp) _⟩
theorem GW.next {w wr:World} {v out:Value} {pos:Nat} {acc:List Int} (h:GW w v pos out acc wr) (p2 n:Nat):GW w v p2 out acc ((wr.setCell ⟨w.heap.size+1,0,none⟩ (.int .i64 p2)).drewN n):=by
 have e:=au wr (w.heap.size+1) 0 _ _ _ (Value.int .i64 p2) h.c1;have hne:=h.own.neOld (g:=w.heap.size+1) (by omega);refine⟨?_,?_,?_,?_⟩
 ·refine(Eo ?_ 0).trans h.c0
  exact kR (by omega)
 ·show (wr.setCell ⟨w.heap.size+1,0,none⟩ (.int .i64 p2)).heap[w.heap.size+1]? = _
  rw[e];exact setRow_heap _ _ _ _ _ _ h.c1
 ·exact(h.own.setNe hne).on (ak n (O_ _ _))
 ·refine ak n ?_
  rw[e];exact h.below.trans (aK (by omega))
theorem GW.app {w wr w':World} {v out out':Value} {pos:Nat} {acc:List Int} (h:GW w v pos out acc wr) (x:Int) (ho:ap eI w' (w.heap.size+2) out' (acc++[x]))
  (hg:(wr.alloc (.cells #[.int .i64 x] 3)).grownBy w' out.ownBlock):GW w v pos out' (acc++[x]) w':=by
 have hA:=((O_ wr.heap.size wr).alloc (A_ _) (.cells #[.int .i64 x] 3));have hb1:(wr.alloc (.cells #[.int .i64 x] 3)).heap[w.heap.size+1]? = wr.heap[w.heap.size+1]? := hA.block _ (Q_.1 h.c1).1;have hsz:w.heap.size+1<wr.heap.size:=(Q_.1 h.c1).1;have hb0:(wr.alloc (.cells #[.int .i64 x] 3)).heap[w.heap.size]? = wr.heap[w.heap.size]? := hA.block _ (by omega);have hown:=h.own.on hA;have hk:∀k,k<w.heap.size+2→w'.heap[k]? = (wr.alloc (.cells #[.int .i64 x] 3)).heap[k]? := fun k hk=>hg.block k (by simp;omega) (fun e=>absurd e.symm (hown.neOld (by omega)));refine⟨?_,?_,ho,?_⟩
 ·refine(Eo ?_ 0).trans h.c0
  rw[hk _ (by omega),hb0]
 ·rw[hk _ (by omega),hb1];exact h.c1
 ·have h2:Below (w.heap.size+2) (wr.alloc (.cells #[.int .i64 x] 3)) w':=(O_ _ _).grown hg (by simp;omega) (fun k hk2=>(hown.lt k hk2).1)
  exact(h.below.alloc (by omega) _).trans (h2.mono (by omega))
theorem GF (v:Value) (b:List UInt8) (w:World) (hv:RdE eB w v b) (hl:b.length≤900000) :
  Calls prog 138 #[v] w fun e w'=>∃v',e = .returned (.tuple #[v',.int .i64 (aB b).2.1,.int .i64 (aB b).2.2])∧ap eI w' w.heap.size v' (aB b).1∧Below w.heap.size w w':=by
 have HG:=O (yL v b w hv);have HL:=O hl;have HU:=O (iQ b);have HV:=O hv;have HD:Hid (aB b=j8 aZ b):=O rfl;unfold j8 at HD;generalize dG b 1=d at HG HU HD;obtain⟨n,u,er⟩:=d;simp only at HU HD
 by_cases h1:er=0
 ·subst h1
  obtain⟨_,k2,k3,k4⟩:=HU.out rfl;obtain⟨m,rfl⟩:∃m:Nat,n=(m:Int):=⟨n.toNat,by omega⟩;rw[Int.toNat_natCast] at HD k3;rw[H_ (fun e=>e rfl)] at HD
  have hmi:(m:Int)≤900000:=by omega
  have K3:=O k3;obtain⟨a,cap,rfl,_,_,_⟩:=hv;clear k2 k3 k4
  go_enter func138,ntmps138
  go_wp2_with (first
   |(go_at_call 144;refine HG.out.mono ?_;rintro e w1 ⟨rfl,hw1⟩;rw[hw1];clear hw1;simp only[il])
   |(go_at_call 172;refine(Lj _ _ _ _ _).mono ?_;rintro e w2 ⟨rfl,hw2⟩;rw[hw2];clear hw2))
  go_loopw [26,9,6] (fun i out pv wr=>∃(j pos:Nat) (acc:List Int),j≤m∧i = .int .i64 j∧pv = .int .i64 pos∧pos≤b.length∧acc.length=j∧Hid (fS aZ b m u []=fS aZ b (m-j) pos acc)∧GW w (.slice a b.length cap) pos out acc wr) (fun i _ _ _=>m-(intOf i).toNat)
  case atStart=>exact⟨0,u,[],N_ _,rfl,rfl,by have := K3.out;omega,rfl,O rfl,GW.start _ _ _⟩
  case round =>
   obtain⟨j,pos,acc,hj,rfl,rfl,hpos,hacc,hdec,hgw⟩:=hrel
   by_cases hlt:j<m
   ·have j1:(j:Int)<m:=by omega
    have HN:=O (S4 (.slice a b.length cap) b pos w.heap.size (w.heap.size+1) wr (HV.out.on (hgw.below)) hgw.c0 hgw.c1 hpos)
    have HS:Hid (fS aZ b (m-j) pos acc=if (aZ (b.drop pos)).2.2≠0 then ([],0,(aZ (b.drop pos)).2.2) else fS aZ b (m-(j+1)) (pos+(aZ (b.drop pos)).2.1) (acc++[(aZ (b.drop pos)).1])):=O (by
     obtain⟨k,hk⟩:∃k,m-j=k+1:=⟨m-j-1,by omega⟩
     rw[hk,show m-(j+1)=k by omega,fS])
    have HUS:=O (jA (b.drop pos));generalize aZ (b.drop pos)=dd at HN HS HUS;obtain⟨nn,uu,ee⟩:=dd;simp only at HN HS HUS;have HGW:=O hgw;have HACC:=O hacc;have HJ:=O hlt;have HPOS:=O hpos;clear hgw hacc hlt hpos
    by_cases h2:ee=0
    ·subst h2
     clear hj
     go_wp2_with (first
      |(go_at_call 186;refine HN.out.mono ?_;rintro e w2 ⟨rfl,nq,hw2⟩;have HG2:Hid (GW w (.slice a b.length cap) (pos+uu) _ acc w2):=(O (by rw[hw2];exact HGW.out.next _ _));clear hw2)
      |(at_builtin;go_loud (refine br iB rfl (.tmp 37) (.tmp 39) rfl (w.heap.size+2) _ acc rfl (HG2.out.own.on ((O_ _ _).alloc (A_ _) _)) (.slice (some ⟨w2.heap.size,0,none⟩) 1 1) [nn] rfl (bP w2 nn iB) (by rw[HACC.out];have := HJ.out;simp;omega) (by have := (Q_.1 HG2.out.c1).1;simp;omega) ?_);intro v3 w3 ho3 hg3 _;have HG3:Hid (GW w (.slice a b.length cap) (pos+uu) v3 (acc++[nn]) w3):=(O (HG2.out.app nn ho3 hg3));clear ho3 hg3))
     go_roundw
     case rel=>exact⟨j+1,pos+uu,acc++[nn],by have := HJ.out;omega,by go_num,rfl,by have := (HUS.out (by first |exact rfl|exact trivial)).1;rw[S_] at this;have := HPOS.out;omega,by rw[E_,HACC.out];rfl,O (by rw[hdec.out,HS.out];rfl),HG3.out⟩
     case measure=>have := HJ.out;simp[intOf];omega
    ·have h3:(ee != 0)=true:=by simpa using h2
     have H2:=O h2;clear h2 hj
     go_wp2_with (go_at_call 186;refine HN.out.mono ?_;rintro e w2 ⟨rfl,nq,hw2⟩;have HG2:Hid (GW w (.slice a b.length cap) (pos+uu) _ acc w2):=(O (by rw[hw2];exact HGW.out.next _ _));clear hw2)
     go_ret3
     have HE:aB b=([],0,ee):=by rw[HD.out,hdec.out,HS.out,G_ H2.out]
     exact⟨_,by rw[HE];rfl,by rw[HE];exact ap.nil _ _,HG2.out.below⟩
   ·have he:m-j=0:=by omega
    have j1:¬(j:Int)<m:=by omega
    have HE:Hid (aB b=(acc,pos,0)):=O (by rw[HD.out,hdec.out,he];rfl);have HGW:=O hgw;clear he hlt hj hacc hgw hpos;go_wp2
    go_ret3
    exact⟨_,by rw[HE.out];rfl,by rw[HE.out];exact HGW.out.own.mono (by omega),HGW.out.below⟩
 ·have h3:(er != 0)=true:=by simpa using h1
  rw[G_ h1] at HD;clear h1 hv
  go_enter func138,ntmps138
  go_wp2_with (go_at_call 144;refine HG.out.mono ?_;rintro e w1 ⟨rfl,hw1⟩;rw[hw1];clear hw1;simp only[il])
  go_ret3
  exact⟨_,by rw[HD.out];rfl,by rw[HD.out];exact ap.nil _ _,O_ _ _⟩
end
section
open Go.RowKit
theorem wW (b:List UInt8) (h:(aL b).2.2=0):(aL b).2.1≤b.length:=(hI.used b h).1
attribute [local irreducible] Calls
theorem yW (v:Value) (b:List UInt8) (w:World) (hv:RdE eB w v b) (hl:b.length≤900000) :
  Calls prog 90 #[v] w fun e w'=>∃v',e = .returned (.tuple #[v',.int .i64 (aE b).2.1,.int .i64 (aE b).2.2])∧ap eS w' w.heap.size v' (aE b).1∧Below w.heap.size w w':=by
 have HG:=O (yL v b w hv);have HL:=O hl;have HU:=O (iQ b);have HV:=O hv;have HD:Hid (aE b=j8 aL b):=O rfl;unfold j8 at HD;generalize dG b 1=d at HG HU HD;obtain⟨n,u,er⟩:=d;simp only at HU HD
 by_cases h1:er=0
 ·subst h1
  obtain⟨_,k2,k3,k4⟩:=HU.out rfl;obtain⟨m,rfl⟩:∃m:Nat,n=(m:Int):=⟨n.toNat,by omega⟩;rw[Int.toNat_natCast] at HD k3;rw[H_ (fun e=>e rfl)] at HD
  have hmi:(m:Int)≤900000:=by omega
  have K3:=O k3;have HMI:=O hmi
  have hbi:(b.length:Int)≤900000:=by omega
  clear k2 k3 k4 hv
  go_enter func90,ntmps90
  go_wp2_with (go_at_call 144;refine HG.out.mono ?_;rintro e w1 ⟨rfl,hw1⟩;rw[hw1];clear hw1;simp only[il])
  go_loopw [22,8,6] (fun i out pv wr=>∃(j pos:Nat) (acc:List (List UInt8)),j≤m∧i = .int .i64 j∧pv = .int .i64 pos∧pos≤b.length∧acc.length=j∧Hid (fS aL b m u []=fS aL b (m-j) pos acc)∧ap eS wr w.heap.size out acc∧Below w.heap.size w wr) (fun i _ _ _=>m-(intOf i).toNat)
  case atStart=>exact⟨0,u,[],N_ _,rfl,rfl,by have := K3.out;omega,rfl,O rfl,ap.nil _ _,O_ _ _⟩
  case round =>
   obtain⟨j,pos,acc,hj,rfl,rfl,hpos,hacc,hdec,hown,hb⟩:=hrel
   by_cases hlt:j<m
   ·have j1:(j:Int)<m:=by omega
    obtain⟨vs,hs,hrs⟩:=Fv (HV.out.on hb) pos hpos;have HN:=O (uX vs _ wr hrs)
    have HS:Hid (fS aL b (m-j) pos acc=if (aL (b.drop pos)).2.2≠0 then ([],0,(aL (b.drop pos)).2.2) else fS aL b (m-(j+1)) (pos+(aL (b.drop pos)).2.1) (acc++[(aL (b.drop pos)).1])):=O (by
     obtain⟨k,hk⟩:∃k,m-j=k+1:=⟨m-j-1,by omega⟩
     rw[hk,show m-(j+1)=k by omega,fS])
    have hus:(aL (b.drop pos)).2.2=0→pos+(aL (b.drop pos)).2.1≤b.length:=by
     intro h;have := wW _ h;rw[S_] at this
     omega
    have HUS:=O hus;generalize aL (b.drop pos)=dd at HN HS HUS;obtain⟨nn,uu,ee⟩:=dd;simp only at HN HS HUS;have HOWN:=O hown;have HB:=O hb;have HACC:=O hacc;have HJ:=O hlt;clear hown hb hacc hlt hpos hrs hus
    by_cases h2:ee=0
    ·subst h2
     have hpu:(pos:Int)+uu≤b.length:=by have := HUS.out rfl;omega
     have hpu0:(0:Int)≤(pos:Int)+uu:=by omega
     clear hj
     go_wp2_with (first
      |(go_at_call 134;refine HN.out.mono ?_;rintro e w2 ⟨rfl,hw2⟩;rw[hw2];clear hw2;simp only[mH])
      |(at_builtin;go_loud ((refine br AO rfl (.tmp 35) (.tmp 37) rfl w.heap.size _ acc rfl (HOWN.out.on ((O_ _ _).alloc (A_ _) _)) (.slice (some ⟨wr.heap.size,0,none⟩) 1 1) [nn] rfl (bP wr nn AO) (by rw[HACC.out];have := HJ.out;have := HMI.out;simp;omega) (by have := HB.out.size;simp;omega) ?_;intro v3 w3 ho3 hg3 _;have HO3:=O ho3;have HB3:Hid (Below w.heap.size w w3):=(O ((HB.out.alloc HB.out.size _).grown hg3 (by have := HB.out.size;simp;omega) (fun k hk2=>(HOWN.out.lt k hk2).1)));clear ho3 hg3))))
     go_roundw
     case rel=>exact⟨j+1,pos+uu,acc++[nn],by have := HJ.out;omega,by go_num,by rw[Int.natCast_add],by omega,by rw[E_,HACC.out];rfl,O (by rw[hdec.out,HS.out];rfl),HO3.out,HB3.out⟩
     case measure=>have := HJ.out;simp[intOf];omega
    ·have h3:(ee != 0)=true:=by simpa using h2
     have H2:=O h2;clear h2 hj
     go_wp2_with (go_at_call 134;refine HN.out.mono ?_;rintro e w2 ⟨rfl,hw2⟩;rw[hw2];clear hw2;simp only[mH])
     go_ret3
     have HE:aE b=([],0,ee):=by rw[HD.out,hdec.out,HS.out,G_ H2.out]
     exact⟨_,by rw[HE];rfl,by rw[HE];exact ap.nil _ _,HB.out⟩
   ·have he:m-j=0:=by omega
    have j1:¬(j:Int)<m:=by omega
    have HE:Hid (aE b=(acc,pos,0)):=O (by rw[HD.out,hdec.out,he];rfl);have HOWN:=O hown;have HB:=O hb;clear he hlt hj hacc hown hb hpos;go_wp2
    go_ret3
    exact⟨_,by rw[HE.out];rfl,by rw[HE.out];exact HOWN.out,HB.out⟩
 ·have h3:(er != 0)=true:=by simpa using h1
  rw[G_ h1] at HD;clear h1 hv
  go_enter func90,ntmps90
  go_wp2_with (go_at_call 144;refine HG.out.mono ?_;rintro e w1 ⟨rfl,hw1⟩;rw[hw1];clear hw1;simp only[il])
  go_ret3
  exact⟨_,by rw[HD.out];rfl,by rw[HD.out];exact ap.nil _ _,O_ _ _⟩
end
section
open Go.RowKit
theorem kU {α:Type} (enc:α→List UInt8) (l:List α) (j:Nat) (h:j<l.length):ea enc (l.take (j+1))=ea enc (l.take j)++enc l[j]:=by
 rw[List.take_add_one,K_ h];exact Gh enc l[j] (l.take j)
theorem Jb {α:Type} (enc:α→List UInt8) (l m:List α):ea enc (l++m)=ea enc l++ea enc m:=by unfold ea;simp
theorem hG {α:Type} (enc:α→List UInt8) (l:List α) (j:Nat):(ea enc (l.take j)).length≤(ea enc l).length:=by
 conv=>rhs;rw[←List.take_append_drop j l,Jb,E_]
 omega
theorem iE {w:World} {a:Option Addr} {n cap:Nat} {l:List Int} (h:RdE eI w (.slice a n cap) l):0<l.length→∃b off,a=some ⟨b,off,none⟩∧b<w.heap.size∧∀j (hj:j<l.length),w.cell? ⟨b,off+j,none⟩=some (.int .i64 l[j]):=by
 obtain⟨a',c',e,_,_,h3⟩:=h
 cases e
 intro h0;obtain⟨b,off,rfl,hlt,hc⟩:=h3 h0;exact⟨b,off,rfl,hlt,fun j hj=>hc j _ (by rw[JQ,List.getElem?_map,K_ hj];rfl)⟩
theorem dQ {w:World} {a:Option Addr} {n cap:Nat} {l:List (List UInt8)} (h:RdE eS w (.slice a n cap) l):0<l.length→∃b off,a=some ⟨b,off,none⟩∧b<w.heap.size∧∀j (hj:j<l.length),w.cell? ⟨b,off+j,none⟩=some (.string ⟨l[j].toArray⟩):=by
 obtain⟨a',c',e,_,_,h3⟩:=h
 cases e
 intro h0;obtain⟨b,off,rfl,hlt,hc⟩:=h3 h0;exact⟨b,off,rfl,hlt,fun j hj=>hc j _ (by rw[A5,List.getElem?_map,K_ hj];rfl)⟩
attribute [local irreducible] Calls bF aV
theorem Kd (v:Value) (l:List Int) (w:World) (hv:RdE eI w v l) (hok:∀x∈l,okI x) (hl:(cd l).length≤900000) (hn:l.length≤900000) :
  Calls prog 119 #[v] w fun e w'=>∃v',e = .returned v'∧ap eB w' w.heap.size v' (cd l)∧Below w.heap.size w w':=by
 have HV:=O hv;have HL:=O hl;have HOK:=O hok
 have hni:(l.length:Int)≤900000:=by omega
 have HN:=O hn;have hE:cd l=bF l.length++ea bF l:=rfl;have HE:=O hE;obtain⟨a,cap,rfl,_,_,_⟩:=hv;clear hl hok hE hn
 go_enter func119,ntmps119
 go_wp2_with (go_at_call 112;refine(ES (l.length:Int) (by omega) (by have := HN.out;omega) _).mono ?_;rintro e w1 ⟨v1,rfl,ho1,hb1⟩;have HO1:=O ho1;have HB1:=O hb1;clear ho1 hb1)
 go_loopw [11,3] (fun i o wr=>∃j:Nat,j≤l.length∧i = .int .i64 j∧Hid (ap eB wr w.heap.size o (bF l.length++ea bF (l.take j)))∧Hid (Below w.heap.size w wr)) (fun i _ _=>l.length-(intOf i).toNat)
 case atStart=>exact⟨0,N_ _,rfl,O (by rw[c_,fj,List.append_nil];exact HO1.out),HB1⟩
 case round =>
  obtain⟨j,hj,rfl,hown,hb⟩:=hrel
  by_cases hlt:j<l.length
  ·have j1:(j:Int)<l.length:=by omega
   obtain⟨bb,off,rfl,hbl,aO⟩:=iE (HV.out.on hb.out) (by omega);have cj:=aO j hlt;have hx:=HOK.out l[j] (List.getElem_mem hlt);have HT:=O (kU bF l j hlt)
   have hle:(bF (l.length:Int)++(ea bF (l.take j)++bF l[j])).length≤900000:=by
    rw[←HT.out];have h1:=HL.out;rw[HE.out,E_] at h1;have := hG bF l (j+1);rw[E_]
    omega
   generalize l[j]=x at cj hx HT hle;have HX:=O hx;have HLE:=O hle;have HJ:=O hlt;clear aO hx hlt hle
   go_wp2_with (first
    |(go_at_call 112;refine(ES x HX.out.1 HX.out.2 _).mono ?_;rintro e w2 ⟨v2,rfl,ho2,hb2⟩;have HO2:=O ho2;have HB2:=O hb2;clear ho2 hb2)
    |(at_builtin;refine br aN rfl (.tmp 15) (.tmp 17) rfl w.heap.size _ _ rfl (hown.out.on HB2.out) _ (bF x) rfl HO2.out.rd (by have := HLE.out;rw[E_,E_] at this;rw[E_];omega) (M_ hb.out.size HB2.out.size) ?_;intro v3 w3 ho3 hg3 _;have HO3:=O ho3;have HB3:Hid (Below w.heap.size w w3):=(O ((hb.out.trans (HB2.out.mono hb.out.size)).grown hg3 (M_ hb.out.size HB2.out.size) (fun k hk2=>(hown.out.lt k hk2).1)));clear ho3 hg3))
   go_roundw
   case rel=>exact⟨j+1,HJ.out,by go_num,O (by rw[HT.out,←R_];exact HO3.out),HB3⟩
   case measure=>have := HJ.out;simp[intOf];omega
  ·have he:j=l.length:=by omega
   have j1:(l.length:Int)≤j:=by omega
   have HF:Hid (bF l.length++ea bF (l.take j)=cd l):=O (by rw[he,List.take_length];rfl);clear he hlt hj;go_wp2;go_ret;exact⟨_,rfl,by rw[←HF.out];exact hown.out,hb.out⟩
theorem yn (v:Value) (l:List (List UInt8)) (w:World) (hv:RdE eS w v l) (hl:(eN l).length≤900000) (hn:l.length≤900000) :
  Calls prog 123 #[v] w fun e w'=>∃v',e = .returned v'∧ap eB w' w.heap.size v' (eN l)∧Below w.heap.size w w':=by
 have HV:=O hv;have HL:=O hl
 have hni:(l.length:Int)≤900000:=by omega
 have HN:=O hn;have hE:eN l=bF l.length++ea aV l:=rfl;have HE:=O hE;obtain⟨a,cap,rfl,_,_,_⟩:=hv;clear hl hE hn
 go_enter func123,ntmps123
 go_wp2_with (go_at_call 112;refine(ES (l.length:Int) (by omega) (by have := HN.out;omega) _).mono ?_;rintro e w1 ⟨v1,rfl,ho1,hb1⟩;have HO1:=O ho1;have HB1:=O hb1;clear ho1 hb1)
 go_loopw [11,3] (fun i o wr=>∃j:Nat,j≤l.length∧i = .int .i64 j∧Hid (ap eB wr w.heap.size o (bF l.length++ea aV (l.take j)))∧Hid (Below w.heap.size w wr)) (fun i _ _=>l.length-(intOf i).toNat)
 case atStart=>exact⟨0,N_ _,rfl,O (by rw[c_,fj,List.append_nil];exact HO1.out),HB1⟩
 case round =>
  obtain⟨j,hj,rfl,hown,hb⟩:=hrel
  by_cases hlt:j<l.length
  ·have j1:(j:Int)<l.length:=by omega
   obtain⟨bb,off,rfl,hbl,aO⟩:=dQ (HV.out.on hb.out) (by omega);have cj:=aO j hlt;have HT:=O (kU aV l j hlt)
   have hle:(bF (l.length:Int)++(ea aV (l.take j)++aV l[j])).length≤900000:=by
    rw[←HT.out];have h1:=HL.out;rw[HE.out,E_] at h1;have := hG aV l (j+1);rw[E_]
    omega
   have hxl:l[j].length≤(aV l[j]).length:=by unfold aV;rw[E_];omega
   generalize l[j]=x at cj HT hle hxl;have HLE:=O hle;have HXL:=O hxl;have HJ:=O hlt;clear aO hlt hle hxl
   go_wp2_with (first
    |(go_at_call 68;refine(lG x _ (by have h1:=HLE.out;have h2:=HXL.out;rw[E_,E_] at h1;omega)).mono ?_;rintro e w2 ⟨v2,rfl,ho2,hb2⟩;have HO2:=O ho2;have HB2:=O hb2;clear ho2 hb2)
    |(at_builtin;refine br aN rfl (.tmp 15) (.tmp 17) rfl w.heap.size _ _ rfl (hown.out.on HB2.out) _ (aV x) rfl HO2.out.rd (by have := HLE.out;rw[E_,E_] at this;rw[E_];omega) (M_ hb.out.size HB2.out.size) ?_;intro v3 w3 ho3 hg3 _;have HO3:=O ho3;have HB3:Hid (Below w.heap.size w w3):=(O ((hb.out.trans (HB2.out.mono hb.out.size)).grown hg3 (M_ hb.out.size HB2.out.size) (fun k hk2=>(hown.out.lt k hk2).1)));clear ho3 hg3))
   go_roundw
   case rel=>exact⟨j+1,HJ.out,by go_num,O (by rw[HT.out,←R_];exact HO3.out),HB3⟩
   case measure=>have := HJ.out;simp[intOf];omega
  ·have he:j=l.length:=by omega
   have j1:(l.length:Int)≤j:=by omega
   have HF:Hid (bF l.length++ea aV (l.take j)=eN l):=O (by rw[he,List.take_length];rfl);clear he hlt hj;go_wp2;go_ret;exact⟨_,rfl,by rw[←HF.out];exact hown.out,hb.out⟩
end
section
open Go.RowKit
theorem Ou:(prog.info? 5).map (fun i=>(i.zero,i.size,i.bytes))=some (some (.int .u8 0),1,1):=by kernel_rfl
theorem wB (z:Array Value) (n:Nat):(Builtin.zeroCells z n).size=n*z.size:=by unfold Builtin.zeroCells;simp
attribute [local irreducible] Calls
theorem Sk (n:Nat) (h0:0<n) (hn:n≤1000000) (w:World) :
  Calls prog 166 #[.slice none 0 0,.int .i64 n] w fun e w'=>∃v',e = .returned v'∧ap eB w' w.heap.size v' []∧Below w.heap.size w w':=by
 have hi1:=Ou
 cases hi:prog.info? 5 with
 | none=>rw[hi] at hi1;cases hi1
 | some i =>
   rw[hi] at hi1;simp only[Option.map_some,Option.some.injEq,Prod.mk.injEq] at hi1;obtain⟨hz,hs,hb⟩:=hi1;have hrun:=fun ty (wx:World)=>Lib.run_append_nil_zeros (P:=prog) wx 80 3 ty 5 i (.int .u8 0) .i64 .i64 underlying80 underlying3 hi hz n h0 (by omega) (by omega) (by rw[hb];omega);have HRUN:=O hrun
   have i1:¬(n:Int)<0:=by omega
   have i2:(0:Int)<n:=by omega
   have i3:(n:Int)≤1000000:=by omega
   have H0:=O h0;have HN:=O hn;clear hrun hi hz hs hb h0 hn
   go_enter func166,ntmps166
   go_wp2_with (at_builtin;refine Lib.wpList_append_run _ rfl (.tmp 20) (.tmp 21) 80 3 rfl _ _ rfl rfl _ _ (HRUN.out _ _) ?_;have hge:=grownCap_ge w n 0 5;have hle:=grownCap_le_maxLen w n 0 5 (by have := HN.out;unfold maxLen;omega);generalize hgc:grownCap w n 0 5=cap at hge hle;have HGE:=O hge;have HLE:=O hle;clear hge hle;have c0:¬cap=0:=(by have := HGE.out;have := H0.out;omega);have c1:(0:Int)≤cap:=(by omega))
   go_ret;refine⟨_,rfl,⟨by simp[El.flat],.inr ⟨w.heap.size,cap,_,rfl,A_ _,heap_alloc_new _ _,N_ _,HLE.out,?_,by simp[El.flat]⟩⟩,((O_ _ _).alloc (A_ _) _).drew⟩;rw[Array.size_append,wB,wB];have := HGE.out
   simp
   omega
theorem xq (xs:List (List UInt8)) (j:Nat) (h:j<xs.length):(xs.take (j+1)).flatten=(xs.take j).flatten++xs[j]:=by
 rw[List.take_add_one,K_ h]
 show (xs.take j++[xs[j]]).flatten=_
 rw[List.flatten_append,List.flatten_cons,List.flatten_nil,List.append_nil]
theorem qv (xs:List (List UInt8)) (j:Nat):(xs.take j).flatten.length≤xs.flatten.length:=by
 conv=>rhs;rw[←List.take_append_drop j xs,List.flatten_append,E_]
 omega
theorem Jh (bk cap:Nat) (xs:List (List UInt8)) (w:World) (hc:∀j (h:j<xs.length),∃v,w.cell? ⟨bk,j,none⟩=some v∧RdE eB w v xs[j]) (hbk:bk<w.heap.size) (hn:xs.length≤100) (hpos:0<xs.flatten.length) (hl:xs.flatten.length≤900000) :
  Calls prog 118 #[.slice (some ⟨bk,0,none⟩) xs.length cap] w fun e w'=>∃v',e = .returned v'∧ap eB w' w.heap.size v' xs.flatten∧Below w.heap.size w w':=by
 have HC:=O hc;have HL:=O hl;have HP:=O hpos
 have hni:(xs.length:Int)≤100:=by omega
 clear hc hl hpos hn
 go_enter func118,ntmps118
 go_wp2
 go_loopw [11,3] (fun i s wr=>∃j:Nat,j≤xs.length∧i = .int .i64 j∧s = .int .i64 ((xs.take j).flatten.length:Nat)∧wr=w) (fun i _ _=>xs.length-(intOf i).toNat)
 case atStart=>exact⟨0,N_ _,rfl,rfl,rfl⟩
 case round =>
  obtain⟨j,hj,rfl,rfl,hwr⟩:=hrel;rw[hwr];clear hwr
  by_cases hlt:j<xs.length
  ·have j1:(j:Int)<xs.length:=by omega
   obtain⟨v,cj,hv⟩:=HC.out j hlt;have HT:=O (congrArg List.length (xq xs j hlt));have hle:=qv xs (j+1);rw[HT.out] at hle;have h9:=HL.out;generalize xs[j]=x at hv HT hle;generalize (xs.take j).flatten=y at HT hle ⊢;rw[E_] at HT hle
   have hs:(y.length:Int)+x.length≤900000:=by omega
   have hs0:¬(y.length:Int)+x.length<0:=by omega
   have HJ:=O hlt;obtain⟨a,c,rfl,_,_,_⟩:=hv;clear hlt hle h9;go_wp2;go_roundw
   case rel=>exact⟨j+1,HJ.out,by go_num,by rw[HT.out,Int.natCast_add],by first |exact rfl|exact trivial⟩
   case measure=>have := HJ.out;simp[intOf];omega
  ·have he:j=xs.length:=by omega
   have j1:(xs.length:Int)≤j:=by omega
   have HF:Hid ((xs.take j).flatten=xs.flatten):=O (by rw[he,List.take_length]);rw[HF.out];obtain⟨N,hN⟩:∃N,N=xs.flatten.length:=⟨_,rfl⟩;rw[←hN];have HNN:=O hN;clear he hlt hj hN
   go_wp2_with (go_at_call 166;refine(Sk N (by rw[HNN.out];exact HP.out) (by rw[HNN.out];have := HL.out;omega) _).mono ?_;rintro e w1 ⟨v1,rfl,ho1,hb1⟩;have HO1:=O ho1;have HB1:=O hb1;clear ho1 hb1)
   go_loopw [27,6] (fun i o wr=>∃k:Nat,k≤xs.length∧i = .int .i64 k∧Hid (ap eB wr w.heap.size o (xs.take k).flatten)∧Hid (Below w.heap.size w wr)) (fun i _ _=>xs.length-(intOf i).toNat)
   case atStart=>exact⟨0,N_ _,rfl,HO1,HB1⟩
   case round =>
    obtain⟨k,hk,rfl,hown,hb⟩:=hrel
    by_cases hlt:k<xs.length
    ·have k1:(k:Int)<xs.length:=by omega
     obtain⟨v,cj,hv⟩:=HC.out k hlt;have HV:=O (hv.on hb.out)
     have ck:wr.cell? ⟨bk,k,none⟩=some v:=by rw[hb.out.cell (p:=⟨bk,k,none⟩) hbk];exact cj
     have HT:=O (xq xs k hlt);have hle:=qv xs (k+1);rw[HT.out,E_] at hle;have HLE:=O (M_ hle HL.out);generalize xs[k]=x at hv HT HLE HV;have HJ:=O hlt;clear hlt hle cj hv
     go_wp2_with (at_builtin;refine br aN rfl (.tmp 31) (.tmp 32) rfl w.heap.size _ _ rfl hown.out _ x rfl HV.out (by have := HLE.out;omega) hb.out.size ?_;intro v3 w3 ho3 hg3 _;have HO3:=O ho3;have HB3:Hid (Below w.heap.size w w3):=(O (hb.out.grown hg3 hb.out.size (fun k hk2=>(hown.out.lt k hk2).1)));clear ho3 hg3)
     go_roundw
     case rel=>exact⟨k+1,HJ.out,by go_num,O (by rw[HT.out];exact HO3.out),HB3⟩
     case measure=>have := HJ.out;simp[intOf];omega
    ·have he2:k=xs.length:=by omega
     have k1:(xs.length:Int)≤k:=by omega
     have HF2:Hid ((xs.take k).flatten=xs.flatten):=O (by rw[he2,List.take_length]);clear he2 hlt hk;go_wp2;go_ret;exact⟨_,rfl,by rw[←HF2.out];exact hown.out,hb.out⟩
end
end Go.Proofs.YtmfiaadjdbemnaaGreatDoor
