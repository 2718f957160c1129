/- Contracts and lemmas. No condition. -/
import Derived.Test.YtmfiaadjdbemnaaGreatDoorLBack05
set_option maxRecDepth 100000
set_option maxHeartbeats 8000000
set_option linter.unusedSimpArgs false
set_option linter.unusedVariables false
namespace Go.Proofs.YtmfiaadjdbemnaaGreatDoor
open Tryz
section
open Go.RowKit
theorem LP {v:Value} {w0:World} {b:List UInt8} (hv:RdE eB w0 v b) (j:Nat) (hj:j≤b.length) :
  ∃a c,(∀wx:World,(Instr.slice 80 v none (some (.int .i64 j)) none).run prog wx = .ok (.slice a j c) wx)∧∀u:World,RdE eB u v b→RdE eB u (.slice a j c) (b.take j):=by
 obtain⟨a,cap,rfl,h1,h2,h3⟩:=hv;have hs:∃a2 c2,sliced a 0 j cap 1 = .slice a2 j c2:=⟨_,_,rfl⟩;obtain⟨a2,c2,e⟩:=hs;refine⟨a2,c2,fun wx => ?_,fun u hu => ?_⟩
 ·rw[run_slice_h wx _ a _ cap mm .i64 _ (by omega) (by omega),pH]
  simp[Result.andThen,e]
 ·have h:=jV hu 0 j (N_ _) hj
  rw[L_,Nat.sub_zero,e] at h;exact h
theorem Jq:aZ []=(0,0,5):=rfl
theorem EO (m:Nat) (c f:UInt8):(256:Int)*(m:Int)+B8 (c ^^^ f)=((256*m+(c ^^^ f).toNat:Nat):Int):=by unfold B8;omega
attribute [local irreducible] Calls vOf bF aZ
theorem xz (v : Value) (b : List UInt8) (w : World) (hv : RdE eB w v b) :
  Calls prog 147 #[v] w fun e w'=>e = .returned (il (aZ b))∧Below w.heap.size w w':=by
 have HV:=O hv;have hlen:=hv.len;unfold maxLen at hlen
 cases b with
 | nil =>
   have HR:=O Jq;obtain⟨a,cap,rfl,hcap,hcm,_⟩:=hv
   go_enter func147,ntmps147
   go_wp2
   go_ret3
   exact⟨by rw[HR.out];rfl,O_ _ _⟩
 | cons h r =>
   obtain⟨a,cap,rfl,hcap,hcm,_⟩:=hv;unfold maxLen at hcm;obtain⟨bb,off,rfl,hbl,aO⟩:=fp HV.out (by simp);have HROW:=O aO;clear aO;have hc0:=HROW.out 0 (by simp);have e0:byteAt (h::r) 0=h:=rfl;rw[e0,Nat.add_zero] at hc0;clear e0;have hlo:=jZ h;have hhi:=kI h;obtain⟨kh1,kh2⟩:=Sy h;have hB:B8 h=(h.toNat:Int):=rfl
   by_cases h8:8<kOf h
   ·have HR:Hid (aZ (h::r)=(0,0,6)):=O (by
     rcases jK h r with⟨p1,p2⟩|⟨p1,p2,p3⟩|⟨p1,p2,p3,p4,p5⟩|⟨p1,p2,p3,p4⟩
     ·exact p2
     all_goals omega)
    have h9:=kh1.1 h8;clear kh1 kh2 h8 hlen
    rcases Nat.lt_or_ge h.toNat 119 with h1|h1
    ·have i1:B8 h<119:=by omega
     clear h9 hB h1
     go_enter func147,ntmps147
     go_wp2
     go_ret3
     exact⟨by rw[HR.out];rfl,O_ _ _⟩
    ·have i1:¬B8 h<119:=by omega
     have i2:136<B8 h:=by omega
     clear h9 hB h1
     go_enter func147,ntmps147
     go_wp2
     go_ret3
     exact⟨by rw[HR.out];rfl,O_ _ _⟩
   ·have i1 : ¬ B8 h < 119 := by omega
    have i2:¬136<B8 h:=by omega
    have HK8:Hid (kOf h≤8):=O (by omega);obtain⟨F,hF⟩:∃F,F=bH h:=⟨_,rfl⟩;have HFF:=O hF;have HFC:=O (lL h);obtain⟨K,hK⟩:∃K,K=kOf h:=⟨_,rfl⟩;have HKK:=O hK
    have hk8:(K:Int)≤8:=by rw[hK];omega
    rw[←hK] at kh2;have HK2:=O kh2;have HBH:=O hB;clear kh1 h8 hF hK kh2 hlen hB
    go_enter func147,ntmps147
    go_upto_if 27 with fail
    go_cut [6,13,27] from 28 to 29 (fun k _ _ wc=>k = .int .i64 (K:Int)∧wc=w)
    case first =>
     rcases HFC.out with⟨hc1,hc2⟩|⟨hc1,hc2⟩
     ·have i3:B8 h<128:=by have := HBH.out;omega
      have E1:=HK2;rw[G_ hc1] at E1;clear hc1 hc2;go_wp2
      all_goals go_meet
      case rel=>exact⟨by rw[E1.out],rfl⟩
     ·have i3:¬B8 h<128:=by have := HBH.out;omega
      have E1:=HK2;rw[H_ hc1] at E1;clear hc1 hc2;go_wp2
      all_goals go_meet
      case rel=>exact⟨by rw[E1.out],rfl⟩
    case rest =>
     obtain⟨rfl,hwc⟩:=hcut;rw[hwc];clear hwc
     by_cases hKL:r.length<K
     ·have i3:(r.length:Int)+1<(K:Int)+1:=by omega
      have i4:(r.length:Int)<(K:Int):=by omega
      have HR:Hid (aZ (h::r)=(0,0,5)):=O (by
       rcases jK h r with⟨p1,p2⟩|⟨p1,p2,p3⟩|⟨p1,p2,p3,p4,p5⟩|⟨p1,p2,p3,p4⟩
       ·have := HK8.out;omega
       ·exact p3
       all_goals (have := HKK.out;omega))
      clear hKL;go_wp2
      go_ret3
      exact⟨by rw[HR.out];rfl,O_ _ _⟩
     ·have i3 : ¬ (r.length : Int) + 1 < (K : Int) + 1 := by omega
      have i4:¬(r.length:Int)<(K:Int):=by omega
      have HKL:Hid (K≤r.length):=O (by omega);clear hKL;go_wp2
      go_loopw [8,7] (fun i v wr=>∃(j m:Nat),1≤j∧j≤K+1∧i = .int .i64 j∧v = .int .i64 m∧Hid (m=dB ((r.take (j-1)).map (· ^^^ F)))∧m<9223372036854775808∧wr=w) (fun i _ _=>(K+1)-(intOf i).toNat)
      case atStart=>exact⟨1,0,A_ _,by omega,rfl,rfl,O (by simp[dB]),by decide,rfl⟩
      case round =>
       obtain⟨j,m,hj1,hj2,rfl,rfl,hm,hml,hwr⟩:=hrel;rw[hwr];clear hwr;have HM:=hm;have HJ1:=O hj1
       by_cases hlt:j≤K
       ·have j1:(j:Int)≤K:=by omega
        have j2:(j:Int)<(r.length:Int)+1:=by omega
        have j3:j<r.length+1:=by omega
        have hcj:=HROW.out j (by have := HKL.out;simp;omega)
        have e2:byteAt (h::r) j=byteAt r (j-1):=by
         cases j with
         | zero=>omega
         | succ j=>rfl
        rw[e2] at hcj;have hst:=oQ r F (j-1) (by have := HKL.out;omega);rw[show j-1+1=j by omega,←HM.out] at hst;have HST:=O hst;generalize byteAt r (j-1)=c at hcj HST;have HJ:=O hlt;have clo:=jZ c;have chi:=kI c
        by_cases hm55:36028797018963967<m
        ·have HR:Hid (aZ (h::r)=(0,0,6)):=O (JU h r (j-1) HK8.out (by rw[←HKK.out];exact HKL.out) (by have := HKK.out;omega) (by rw[←HFF.out,←HM.out];exact hm55))
         have m1:(36028797018963967:Int)<m:=by omega
         clear hm55 e2 hst hm hlt hml
         rcases HFC.out with⟨hc1,hc2⟩|⟨hc1,hc2⟩
         ·have i6:B8 h<128:=by have := HBH.out;omega
          clear hc1 hc2;go_wp2
          go_ret3
          exact⟨by rw[HR.out];rfl,O_ _ _⟩
         ·have i6:¬B8 h<128:=by have := HBH.out;omega
          clear hc1 hc2;go_wp2
          go_ret3
          exact⟨by rw[HR.out];rfl,O_ _ _⟩
        ·have m1:¬(36028797018963967:Int)<m:=by omega
         have m2:(m:Int)≤36028797018963967:=by omega
         have m3:(0:Int)≤m:=by omega
         have HM2:Hid (m≤36028797018963967):=O (by omega);clear hm55 e2 hst hm hlt hml
         rcases HFC.out with⟨hc1,hc2⟩|⟨hc1,hc2⟩
         ·have i6:B8 h<128:=by have := HBH.out;omega
          have EF:Hid (F=255):=O (by rw[HFF.out,hc2]);have hsub:255-B8 c=B8 (c ^^^ 255):=Cw c;have HGS:=O (EO m c 255);rw[EF.out] at HST;have dlo:=jZ (c ^^^ 255);have dhi:=kI (c ^^^ 255);have HLT:=O (c ^^^ 255).toNat_lt;clear hc1 hc2 clo chi;go_wp2;go_roundw
          case rel=>exact⟨j+1,256*m+(c ^^^ 255).toNat,by omega,by have := HJ.out;omega,by go_num,congrArg (Value.int .i64) HGS.out,O (by rw[show j+1-1=j by omega,EF.out];exact HST.out.symm),by have := HLT.out;have := HM2.out;omega,by first |exact rfl|exact trivial⟩
          case measure=>have := HJ.out;simp[intOf];omega
         ·have i6:¬B8 h<128:=by have := HBH.out;omega
          have EF:Hid (F=0):=O (by rw[HFF.out,hc2]);have HGS:=O (EO m c 0);rw[EF.out] at HST;rw[UInt8.xor_zero] at HGS;have HLT:=O (c ^^^ 0).toNat_lt;clear hc1 hc2;go_wp2;go_roundw
          case rel=>exact⟨j+1,256*m+(c ^^^ 0).toNat,by omega,by have := HJ.out;omega,by go_num,congrArg (Value.int .i64) (by rw[UInt8.xor_zero];exact HGS.out),O (by rw[show j+1-1=j by omega,EF.out];exact HST.out.symm),by have := HLT.out;have := HM2.out;omega,by first |exact rfl|exact trivial⟩
          case measure=>have := HJ.out;simp[intOf];omega
       ·have hjk:j=K+1:=by omega
        subst hjk;have HV2:Hid (m=vOf h r):=O (by rw[HM.out];unfold vOf;rw[HKK.out,HFF.out];rfl)
        have j1:¬(((K+1:Nat):Int))≤K:=by omega
        have HGN:Hid (giN h r=if h.toNat<128 then -1-(m:Int) else (m:Int)):=O (by unfold giN;rw[HV2.out]);have hYES:=O (Sj h r (by rw[←HKK.out];exact HKL.out) (by rw[←HV2.out];exact hml));have hNO:=O (VQ h r HK8.out (by rw[←HKK.out];exact HKL.out));rw[←HKK.out] at hYES hNO;generalize giN h r=N at HGN hYES hNO
        have m2:(m:Int)<9223372036854775808:=by omega
        have m3:(0:Int)≤m:=by omega
        have HNB:Hid (-9223372036854775808≤N∧N<9223372036854775808):=O (by rw[HGN.out];split <;> omega);obtain⟨mi,hmi⟩:∃mi:Int,mi=(m:Int):=⟨_,rfl⟩;rw[←hmi] at m2 m3 ⊢;have HMI:=O hmi;have HEQ:=O (Nat.succ_le_succ HKL.out);obtain⟨sa,sc,hsr,hsp⟩:=LP HV.out (K+1) (by have := HKL.out;simp;omega);have HSP:=O hsp;have hs:∀wx:World,(Instr.slice 80 (.slice (some ⟨bb,off,none⟩) (r.length+1) cap) none (some (.int .i64 ((K:Int)+1))) none).run prog wx = .ok (.slice sa (K+1) sc) wx:=hsr;clear hm hlt hj1 hj2 hml hmi hsr hsp
        go_upto_if 57 with fail
        go_cut [10,57] from 58 to 59 (fun n _ wc=>n = .int .i64 N∧wc=w)
        case first =>
         rcases HFC.out with⟨hc1,hc2⟩|⟨hc1,hc2⟩
         ·have i6:B8 h<128:=by have := HBH.out;omega
          have HN2:=HGN.out;rw[G_ hc1,←HMI.out] at HN2;have HN3:=O HN2;clear hc1 hc2 HN2;go_wp2
          all_goals go_meet
          case rel=>exact⟨by rw[HN3.out],rfl⟩
         ·have i6:¬B8 h<128:=by have := HBH.out;omega
          have HN2:=HGN.out;rw[H_ hc1,←HMI.out] at HN2;have HN3:=O HN2;clear hc1 hc2 HN2;go_wp2
          all_goals go_meet
          case rel=>exact⟨by rw[HN3.out],rfl⟩
        case rest =>
         obtain⟨rfl,hwc⟩:=hcut;rw[hwc];clear hwc;generalize hq:decide (bF N=(h::r).take (K+1))=q;have HQ:=O hq;clear hq
         go_upto_region 24 with fail
         try dsimp only[Act.put]
         refine aY 7 [[],[0],[],[],[3],[2,4],[1,5]] (SP.of [.eq (.int .i64 N),.ownR w.heap.size (bF N),.eq (.slice (some ⟨bb,off,none⟩) (r.length+1) cap),.eq (.int .i64 K),.eq (.int .i64 ((K:Int)+1)),.eq (.slice sa (K+1) sc),.eq (.bool q)]) (fun _=>undef) ?h1 ?h2 ?h3 ?h4 ?h5 ?h6
         case h1=>kernel_rfl
         case h2=>kernel_rfl
         case h3=>kernel_rfl
         case h4 =>
          simp only[F_,c_]
          repeat (first |exact trivial|refine⟨fun vals v=>by kernel_rfl,?_⟩)
         case h5 =>
          simp only[F_,c_];refine⟨?_,?_,?_,?_,?_,?_,?_,trivial⟩
          all_goals (intro wq hbq vals;simp only[given,SP.of,SP.ownR,Nat.reduceAdd,a_,X_,W_];have HBQ:=O hbq;clear hbq)
          case refine_7 =>
           intro v1 hv1 Q hQ;simp only[ay,upd,Act.put,B_,C_,D_,Nat.reduceAdd,a_,Nat.reduceEqDiff,if_true,if_false,reduceIte];have HV1:=O hv1;clear hv1
           go_wp2_with (go_at_call 175;refine(Pw v1 _ (bF N) _ wq HV1.out.rd (HSP.out wq (HV.out.on HBQ.out))).mono ?_;rintro e x1 ⟨rfl,hx1⟩;rw[HQ.out])
           exact ab hQ _ (by kernel_rfl) hx1 rfl
          all_goals (intro Q hQ;simp only[ay,upd,Act.put,B_,C_,D_,Nat.reduceAdd,a_,Nat.reduceEqDiff,if_true,if_false,reduceIte])
          case refine_2 =>
           go_wp2_with (go_at_call 132;refine(Bj N HNB.out.1 HNB.out.2 _).mono ?_;rintro e x1 ⟨v1,rfl,ho1,hx1⟩;have HO1:=O ho1;have HX1:=O hx1;clear ho1 hx1)
           exact ab hQ _ (by kernel_rfl) HX1.out (HO1.out.mono HBQ.out.size)
          all_goals go_wp2
          all_goals exact ab hQ _ (by kernel_rfl) (O_ _ _) rfl
         case h6 =>
          intro wq hbq vals
          show given _ _ _ [0,1,2,3,4,5,6] _
          simp only[given,SP.of,SP.ownR,X_,W_];rintro v1 ho1;simp only[F_,c_,J_,L_];simp only[ay,upd,Act.put,B_,C_,D_,Nat.reduceAdd,a_,Nat.reduceEqDiff,if_true,if_false,reduceIte];have HBQ:=O hbq;clear hbq ho1
          cases q with
          | true =>
            have HR:=O (hYES.out (of_decide_eq_true HQ.out));go_wp2
            go_ret3
            exact⟨by rw[HR.out];rfl,HBQ.out⟩
          | false =>
            have HR:=O (hNO.out (of_decide_eq_false HQ.out));go_wp2
            go_ret3
            exact⟨by rw[HR.out];rfl,HBQ.out⟩
end
section
open Go.RowKit
theorem Ht {v:Value} {w0:World} {b:List UInt8} (hv:RdE eB w0 v b) (i j:Nat) (hij:i≤j) (hj:j≤b.length) :
  ∃v',(∀wx:World,(Instr.slice 80 v (some (.int .i64 i)) (some (.int .i64 j)) none).run prog wx = .ok v' wx)∧∀u:World,RdE eB u v b→RdE eB u v' ((b.drop i).take (j-i)):=by
 obtain⟨a,cap,rfl,h1,h2,h3⟩:=hv;refine⟨sliced a i j cap 1,fun wx => ?_,fun u hu=>jV hu i j hij hj⟩;rw[run_slice_lh wx _ a _ cap mm .i64 .i64 _ _ (by omega) (by omega) (by omega),pH]
 simp[Result.andThen]
theorem Cd {v:Value} {w0:World} {b:List UInt8} (hv:RdE eB w0 v b) (i:Nat) (hi:i≤b.length) :
  ∃v',(∀wx:World,(Instr.slice 80 v (some (.int .i64 i)) none none).run prog wx = .ok v' wx)∧∀u:World,RdE eB u v b→RdE eB u v' (b.drop i):=by
 obtain⟨a,cap,rfl,h1,h2,h3⟩:=hv;refine⟨sliced a i b.length cap 1,fun wx => ?_,fun u hu => ?_⟩
 ·rw[run_slice_l wx _ a _ cap mm .i64 _ (by omega) (by omega),pH]
  simp[Result.andThen]
 ·have h:=jV hu i b.length hi (A_ _)
  rwa [Y_ (by rw[S_];exact A_ _)] at h
def AA (b:List UInt8):Int × Nat × Int:=if (dG b 1).2.2=0 then dG b 1 else (0,0,(dG b 1).2.2)
theorem Er {b:List UInt8} {n:Int} {u:Nat} (h:dG b 1=(n,u,0)):AA b=(n,u,0):=by unfold AA;rw[h];rfl
theorem tj {b:List UInt8} {n:Int} {u:Nat} {e:Int} (h:dG b 1=(n,u,e)) (he:e≠0):AA b=(0,0,e):=by unfold AA;rw[h,H_ he]
theorem uA (b:List UInt8) (n:Int) (u:Nat) (e:Int) (h:dG b 1=(n,u,e)):(e=0∧AA b=(n,u,0))∨(e≠0∧AA b=(0,0,e)):=by
 by_cases he:e=0
 ·subst he;exact .inl ⟨rfl,Er h⟩
 ·exact .inr ⟨he,tj h he⟩
attribute [local irreducible] Calls bF aV aZ aL dG AA
theorem uD (v:Value) (b:List UInt8) (w:World) (hv:RdE eB w v b) :
  Calls prog 146 #[v,.int .i64 1] w fun e w'=>e = .returned (il (AA b))∧Below w.heap.size w w':=by
 have HG:=O (xz v b w hv);have hlen:=hv.len;unfold maxLen at hlen;have HU:=O (jA b);have HP:=O (oT b 1);have HZ:=O (ql b);obtain⟨a,cap,rfl,hcap,hcm,_⟩:=hv;unfold maxLen at hcm;generalize aZ b=d at HG HU HP HZ;obtain⟨n,u,er⟩:=d;simp only at HP HU HZ
 rcases HP.out with⟨h1,h2⟩|⟨h1,h2,h3⟩|⟨h1,h2,h3,h4⟩|⟨h1,h2,h3,h4⟩
 ·have HE:=O (HZ.out h1)
  obtain⟨rfl,rfl⟩:=HE.out;have HR:=O (tj h2 h1);clear h2 HP HE HZ
  go_enter func146,ntmps146
  go_wp2_with (go_at_call 147;refine HG.out.mono ?_;rintro e w1 ⟨rfl,hb1⟩;have HB1:=O hb1;clear hb1;simp only[il])
  go_ret3
  exact⟨by rw[HR.out];rfl,HB1.out⟩
 ·subst h1
  have HR:=O (tj h3 (by decide));clear h3 HP HZ
  go_enter func146,ntmps146
  go_wp2_with (go_at_call 147;refine HG.out.mono ?_;rintro e w1 ⟨rfl,hb1⟩;have HB1:=O hb1;clear hb1;simp only[il])
  go_ret3
  exact⟨by rw[HR.out];rfl,HB1.out⟩
 ·subst h1
  have HR:=O (tj h4 (by decide));obtain⟨hu,hok1,hok2⟩:=HU.out rfl
  have hu':(u:Int)≤b.length:=by omega
  have i3:(b.length:Int)-u<n:=by rw[Nat.div_one] at h3;omega
  have i3':¬n≤(b.length:Int)-u:=by omega
  have em:n*1=n:=Int.mul_one n
  by_cases hn:(b.length:Int)<n
  ·clear h3 h4 HP hu HZ
   go_enter func146,ntmps146
   go_wp2_with (go_at_call 147;refine HG.out.mono ?_;rintro e w1 ⟨rfl,hb1⟩;have HB1:=O hb1;clear hb1;simp only[il])
   go_ret3
   exact⟨by rw[HR.out];rfl,HB1.out⟩
  ·clear h3 h4 HP hu HZ
   go_enter func146,ntmps146
   go_wp2_with (go_at_call 147;refine HG.out.mono ?_;rintro e w1 ⟨rfl,hb1⟩;have HB1:=O hb1;clear hb1;simp only[il])
   go_ret3
   exact⟨by rw[HR.out];rfl,HB1.out⟩
 ·subst h1
  have HR:=O (Er h4);obtain⟨hu,hok1,hok2⟩:=HU.out rfl
  have hu':(u:Int)≤b.length:=by omega
  have i3:¬(b.length:Int)-u<n:=by rw[Nat.div_one] at h3;omega
  have hn:¬(b.length:Int)<n:=by omega
  have em:n*1=n:=Int.mul_one n;clear h3 h4 HP hu HZ
  go_enter func146,ntmps146
  go_wp2_with (go_at_call 147;refine HG.out.mono ?_;rintro e w1 ⟨rfl,hb1⟩;have HB1:=O hb1;clear hb1;simp only[il])
  go_ret3
  exact⟨by rw[HR.out];rfl,HB1.out⟩
theorem kr (v:Value) (b:List UInt8) (w:World) (hv:RdE eB w v b) :
  Calls prog 93 #[v] w fun e w'=>e = .returned (mH (aL b))∧Below w.heap.size w w':=by
 have HG:=O (uD v b w hv);have hlen:=hv.len;unfold maxLen at hlen;have HU:=O (iQ b);have HP:=O (uG b);have HV:=O hv;have HC:=O (uA b);generalize dG b 1=d at HC HU HP;obtain⟨n,u,er⟩:=d;simp only at HP HU;replace HC:=O (HC.out n u er rfl);clear hv
 rcases HP.out with⟨h1,h2⟩|⟨h1,h2⟩
 ·have HR:=O h2
  rcases HC.out with⟨hc,_⟩|⟨_,hc⟩
  ·exact absurd hc h1
  rw[hc] at HG;clear h2 HP hc HC
  go_enter func93,ntmps93
  go_wp2_with (go_at_call 146;refine HG.out.mono ?_;rintro e w1 ⟨rfl,hb1⟩;have HB1:=O hb1;clear hb1;simp only[il])
  go_ret3
  exact⟨by rw[HR.out];rfl,HB1.out⟩
 ·subst h1
  have HR:=O h2
  rcases HC.out with⟨_,hc⟩|⟨hc,_⟩
  case inr=>exact absurd rfl hc
  rw[hc] at HG;clear hc HC;obtain⟨_,k2,k3,_⟩:=HU.out rfl;obtain⟨m,rfl⟩:∃m:Nat,n=(m:Int):=⟨n.toNat,by omega⟩;rw[Int.toNat_natCast] at HR k3;obtain⟨vs,hsl,hrs⟩:=Ht HV.out u (u+m) (by omega) k3;rw[show u+m-u=m by omega] at hrs;have HRS:=O hrs;generalize (b.drop u).take m=t at HR HRS
  have ha:(u:Int)+(m:Int)≤b.length:=by omega
  have hs:=hsl;rw[Int.natCast_add] at hs;clear h2 HP k2 k3 hsl hrs
  go_enter func93,ntmps93
  go_wp2_with (go_at_call 146;refine HG.out.mono ?_;rintro e w1 ⟨rfl,hb1⟩;have HB1:=O hb1;have hcv:=b6 (HRS.out w1 (HV.out.on hb1));clear hb1;simp only[il])
  go_ret3
  exact⟨by rw[HR.out];rfl,HB1.out⟩
theorem uY (v:Value) (b:List UInt8) (w:World) (hv:RdE eB w v b) (hl:b.length≤900000) :
  Calls prog 94 #[v] w fun e w'=>∃v',e = .returned (.tuple #[v',.int .i64 (aB b).2.1,.int .i64 (aB b).2.2])∧ap eI w' w.heap.size v' (aB b).1∧Below w.heap.size w w':=by
 have HG:=O (uD v b w hv);have HL:=O hl;have HU:=O (iQ b);have HV:=O hv;have HD:Hid (aB b=j8 aZ b):=O rfl;unfold j8 at HD;have HC:=O (uA b);generalize dG b 1=d at HC HU HD;obtain⟨n,u,er⟩:=d;simp only at HU HD;replace HC:=O (HC.out n u er rfl)
 by_cases h1:er=0
 ·subst h1
  rcases HC.out with⟨_,hc⟩|⟨hc,_⟩
  case inr=>exact absurd rfl hc
  rw[hc] at HG;clear hc HC;obtain⟨_,k2,k3,k4⟩:=HU.out rfl;obtain⟨m,rfl⟩:∃m:Nat,n=(m:Int):=⟨n.toNat,by omega⟩;rw[Int.toNat_natCast] at HD k3;rw[H_ (fun e=>e rfl)] at HD
  have hmi:(m:Int)≤900000:=by omega
  have K3:=O k3;have HMI:=O hmi
  have hbi:(b.length:Int)≤900000:=by omega
  clear k2 k3 k4 hv
  go_enter func94,ntmps94
  go_wp2_with (go_at_call 146;refine HG.out.mono ?_;rintro e w1 ⟨rfl,hb1⟩;have HB1:=O hb1;clear hb1;simp only[il])
  go_loopw [9,8,6] (fun i out pv wr=>∃(j pos:Nat) (acc:List Int),j≤m∧i = .int .i64 j∧pv = .int .i64 pos∧pos≤b.length∧acc.length=j∧Hid (fS aZ b m u []=fS aZ b (m-j) pos acc)∧ap eI wr w.heap.size out acc∧Below w.heap.size w wr) (fun i _ _ _=>m-(intOf i).toNat)
  case atStart=>exact⟨0,u,[],N_ _,rfl,rfl,by have := K3.out;omega,rfl,O rfl,ap.nil _ _,HB1.out⟩
  case round =>
   obtain⟨j,pos,acc,hj,rfl,rfl,hpos,hacc,hdec,hown,hb⟩:=hrel
   by_cases hlt:j<m
   ·have j1:(j:Int)<m:=by omega
    obtain⟨vs,hs,hrs⟩:=Cd (HV.out.on hb) pos hpos;have HN:=O (xz vs _ wr (hrs wr (HV.out.on hb)))
    have HS:Hid (fS aZ b (m-j) pos acc=if (aZ (b.drop pos)).2.2≠0 then ([],0,(aZ (b.drop pos)).2.2) else fS aZ b (m-(j+1)) (pos+(aZ (b.drop pos)).2.1) (acc++[(aZ (b.drop pos)).1])):=O (by
     obtain⟨k,hk⟩:∃k,m-j=k+1:=⟨m-j-1,by omega⟩
     rw[hk,show m-(j+1)=k by omega,fS])
    have hus:(aZ (b.drop pos)).2.2=0→pos+(aZ (b.drop pos)).2.1≤b.length:=by
     intro h;have := (jA _ h).1;rw[S_] at this
     omega
    have HUS:=O hus;generalize aZ (b.drop pos)=dd at HN HS HUS;obtain⟨nn,uu,ee⟩:=dd;simp only at HN HS HUS;have HOWN:=O hown;have HB:=O hb;have HACC:=O hacc;have HJ:=O hlt;clear hown hb hacc hlt hpos hrs hus
    by_cases h2:ee=0
    ·subst h2
     have hpu:(pos:Int)+uu≤b.length:=by have := HUS.out rfl;omega
     have hpu0:(0:Int)≤(pos:Int)+uu:=by omega
     clear hj
     go_wp2_with (first
      |(go_at_call 147;refine HN.out.mono ?_;rintro e w2 ⟨rfl,hb2⟩;have HB2:=O hb2;clear hb2;simp only[il])
      |(at_builtin;go_loud ((refine br iB rfl (.tmp 38) (.tmp 40) rfl w.heap.size _ acc rfl ((HOWN.out.on HB2.out).on ((O_ _ _).alloc (A_ _) _)) (.slice (some ⟨w2.heap.size,0,none⟩) 1 1) [nn] rfl (bP w2 nn iB) (by rw[HACC.out];have := HJ.out;have := HMI.out;simp;omega) (by have := HB.out.size;have := HB2.out.size;simp;omega) ?_;intro v3 w3 ho3 hg3 _;have HO3:=O ho3;have HB3:Hid (Below w.heap.size w w3):=(O (((HB.out.trans (HB2.out.mono HB.out.size)).alloc (M_ HB.out.size HB2.out.size) _).grown hg3 (by have := HB.out.size;have := HB2.out.size;simp;omega) (fun k hk2=>(HOWN.out.lt k hk2).1)));clear ho3 hg3))))
     go_roundw
     case rel=>exact⟨j+1,pos+uu,acc++[nn],by have := HJ.out;omega,by go_num,by rw[Int.natCast_add],by omega,by rw[E_,HACC.out];rfl,O (by rw[hdec.out,HS.out];rfl),HO3.out,HB3.out⟩
     case measure=>have := HJ.out;simp[intOf];omega
    ·have h3:(ee != 0)=true:=by simpa using h2
     have H2:=O h2;clear h2 hj
     go_wp2_with (go_at_call 147;refine HN.out.mono ?_;rintro e w2 ⟨rfl,hb2⟩;have HB2:=O hb2;clear hb2;simp only[il])
     go_ret3
     have HE:aB b=([],0,ee):=by rw[HD.out,hdec.out,HS.out,G_ H2.out]
     exact⟨_,by rw[HE];rfl,by rw[HE];exact ap.nil _ _,HB.out.trans (HB2.out.mono HB.out.size)⟩
   ·have he:m-j=0:=by omega
    have j1:¬(j:Int)<m:=by omega
    have HE:Hid (aB b=(acc,pos,0)):=O (by rw[HD.out,hdec.out,he];rfl);have HOWN:=O hown;have HB:=O hb;clear he hlt hj hacc hown hb hpos;go_wp2
    go_ret3
    exact⟨_,by rw[HE.out];rfl,by rw[HE.out];exact HOWN.out,HB.out⟩
 ·have h3:(er != 0)=true:=by simpa using h1
  rw[G_ h1] at HD
  rcases HC.out with⟨hc,_⟩|⟨_,hc⟩
  ·exact absurd hc h1
  rw[hc] at HG;clear h1 hv hc HC
  go_enter func94,ntmps94
  go_wp2_with (go_at_call 146;refine HG.out.mono ?_;rintro e w1 ⟨rfl,hb1⟩;have HB1:=O hb1;clear hb1;simp only[il])
  go_ret3
  exact⟨_,by rw[HD.out];rfl,by rw[HD.out];exact ap.nil _ _,HB1.out⟩
theorem oK (v:Value) (b:List UInt8) (w:World) (hv:RdE eB w v b) (hl:b.length≤900000) :
  Calls prog 99 #[v] w fun e w'=>∃v',e = .returned (.tuple #[v',.int .i64 (aE b).2.1,.int .i64 (aE b).2.2])∧ap eS w' w.heap.size v' (aE b).1∧Below w.heap.size w w':=by
 have HG:=O (uD v b w hv);have HL:=O hl;have HU:=O (iQ b);have HV:=O hv;have HD:Hid (aE b=j8 aL b):=O rfl;unfold j8 at HD;have HC:=O (uA b);generalize dG b 1=d at HC HU HD;obtain⟨n,u,er⟩:=d;simp only at HU HD;replace HC:=O (HC.out n u er rfl)
 by_cases h1:er=0
 ·subst h1
  rcases HC.out with⟨_,hc⟩|⟨hc,_⟩
  case inr=>exact absurd rfl hc
  rw[hc] at HG;clear hc HC;obtain⟨_,k2,k3,k4⟩:=HU.out rfl;obtain⟨m,rfl⟩:∃m:Nat,n=(m:Int):=⟨n.toNat,by omega⟩;rw[Int.toNat_natCast] at HD k3;rw[H_ (fun e=>e rfl)] at HD
  have hmi:(m:Int)≤900000:=by omega
  have K3:=O k3;have HMI:=O hmi
  have hbi:(b.length:Int)≤900000:=by omega
  clear k2 k3 k4 hv
  go_enter func99,ntmps99
  go_wp2_with (go_at_call 146;refine HG.out.mono ?_;rintro e w1 ⟨rfl,hb1⟩;have HB1:=O hb1;clear hb1;simp only[il])
  go_loopw [9,8,6] (fun i out pv wr=>∃(j pos:Nat) (acc:List (List UInt8)),j≤m∧i = .int .i64 j∧pv = .int .i64 pos∧pos≤b.length∧acc.length=j∧Hid (fS aL b m u []=fS aL b (m-j) pos acc)∧ap eS wr w.heap.size out acc∧Below w.heap.size w wr) (fun i _ _ _=>m-(intOf i).toNat)
  case atStart=>exact⟨0,u,[],N_ _,rfl,rfl,by have := K3.out;omega,rfl,O rfl,ap.nil _ _,HB1.out⟩
  case round =>
   obtain⟨j,pos,acc,hj,rfl,rfl,hpos,hacc,hdec,hown,hb⟩:=hrel
   by_cases hlt:j<m
   ·have j1:(j:Int)<m:=by omega
    obtain⟨vs,hs,hrs⟩:=Cd (HV.out.on hb) pos hpos;have HN:=O (kr vs _ wr (hrs wr (HV.out.on hb)))
    have HS:Hid (fS aL b (m-j) pos acc=if (aL (b.drop pos)).2.2≠0 then ([],0,(aL (b.drop pos)).2.2) else fS aL b (m-(j+1)) (pos+(aL (b.drop pos)).2.1) (acc++[(aL (b.drop pos)).1])):=O (by
     obtain⟨k,hk⟩:∃k,m-j=k+1:=⟨m-j-1,by omega⟩
     rw[hk,show m-(j+1)=k by omega,fS])
    have hus:(aL (b.drop pos)).2.2=0→pos+(aL (b.drop pos)).2.1≤b.length:=by
     intro h;have := wW _ h;rw[S_] at this
     omega
    have HUS:=O hus;generalize aL (b.drop pos)=dd at HN HS HUS;obtain⟨nn,uu,ee⟩:=dd;simp only at HN HS HUS;have HOWN:=O hown;have HB:=O hb;have HACC:=O hacc;have HJ:=O hlt;clear hown hb hacc hlt hpos hrs hus
    by_cases h2:ee=0
    ·subst h2
     have hpu:(pos:Int)+uu≤b.length:=by have := HUS.out rfl;omega
     have hpu0:(0:Int)≤(pos:Int)+uu:=by omega
     clear hj
     go_wp2_with (first
      |(go_at_call 93;refine HN.out.mono ?_;rintro e w2 ⟨rfl,hb2⟩;have HB2:=O hb2;clear hb2;simp only[mH])
      |(at_builtin;go_loud ((refine br AO rfl (.tmp 38) (.tmp 40) rfl w.heap.size _ acc rfl ((HOWN.out.on HB2.out).on ((O_ _ _).alloc (A_ _) _)) (.slice (some ⟨w2.heap.size,0,none⟩) 1 1) [nn] rfl (bP w2 nn AO) (by rw[HACC.out];have := HJ.out;have := HMI.out;simp;omega) (by have := HB.out.size;have := HB2.out.size;simp;omega) ?_;intro v3 w3 ho3 hg3 _;have HO3:=O ho3;have HB3:Hid (Below w.heap.size w w3):=(O (((HB.out.trans (HB2.out.mono HB.out.size)).alloc (M_ HB.out.size HB2.out.size) _).grown hg3 (by have := HB.out.size;have := HB2.out.size;simp;omega) (fun k hk2=>(HOWN.out.lt k hk2).1)));clear ho3 hg3))))
     go_roundw
     case rel=>exact⟨j+1,pos+uu,acc++[nn],by have := HJ.out;omega,by go_num,by rw[Int.natCast_add],by omega,by rw[E_,HACC.out];rfl,O (by rw[hdec.out,HS.out];rfl),HO3.out,HB3.out⟩
     case measure=>have := HJ.out;simp[intOf];omega
    ·have h3:(ee != 0)=true:=by simpa using h2
     have H2:=O h2;clear h2 hj
     go_wp2_with (go_at_call 93;refine HN.out.mono ?_;rintro e w2 ⟨rfl,hb2⟩;have HB2:=O hb2;clear hb2;simp only[mH])
     go_ret3
     have HE:aE b=([],0,ee):=by rw[HD.out,hdec.out,HS.out,G_ H2.out]
     exact⟨_,by rw[HE];rfl,by rw[HE];exact ap.nil _ _,HB.out.trans (HB2.out.mono HB.out.size)⟩
   ·have he:m-j=0:=by omega
    have j1:¬(j:Int)<m:=by omega
    have HE:Hid (aE b=(acc,pos,0)):=O (by rw[HD.out,hdec.out,he];rfl);have HOWN:=O hown;have HB:=O hb;clear he hlt hj hacc hown hb hpos;go_wp2
    go_ret3
    exact⟨_,by rw[HE.out];rfl,by rw[HE.out];exact HOWN.out,HB.out⟩
 ·have h3:(er != 0)=true:=by simpa using h1
  rw[G_ h1] at HD
  rcases HC.out with⟨hc,_⟩|⟨_,hc⟩
  ·exact absurd hc h1
  rw[hc] at HG;clear h1 hv hc HC
  go_enter func99,ntmps99
  go_wp2_with (go_at_call 146;refine HG.out.mono ?_;rintro e w1 ⟨rfl,hb1⟩;have HB1:=O hb1;clear hb1;simp only[il])
  go_ret3
  exact⟨_,by rw[HD.out];rfl,by rw[HD.out];exact ap.nil _ _,HB1.out⟩
theorem EU (v:Value) (l:List Int) (w:World) (hv:RdE eI w v l) (hok:∀x∈l,okI x) (hl:(cd l).length≤900000) (hn:l.length≤900000) :
  Calls prog 130 #[v] w fun e w'=>∃v',e = .returned v'∧ap eB w' w.heap.size v' (cd l)∧Below w.heap.size w w':=by
 have HV:=O hv;have HL:=O hl;have HOK:=O hok
 have hni:(l.length:Int)≤900000:=by omega
 have HN:=O hn;have hE:cd l=bF l.length++ea bF l:=rfl;have HE:=O hE;obtain⟨a,cap,rfl,_,_,_⟩:=hv;clear hl hok hE hn
 go_enter func130,ntmps130
 go_wp2_with (go_at_call 132;refine(Bj (l.length:Int) (by omega) (by have := HN.out;omega) _).mono ?_;rintro e w1 ⟨v1,rfl,ho1,hb1⟩;have HO1:=O ho1;have HB1:=O hb1;clear ho1 hb1)
 go_loopw [4,3] (fun i o wr=>∃j:Nat,j≤l.length∧i = .int .i64 j∧Hid (ap eB wr w.heap.size o (bF l.length++ea bF (l.take j)))∧Hid (Below w.heap.size w wr)) (fun i _ _=>l.length-(intOf i).toNat)
 case atStart=>exact⟨0,N_ _,rfl,O (by rw[c_,fj,List.append_nil];exact HO1.out),HB1⟩
 case round =>
  obtain⟨j,hj,rfl,hown,hb⟩:=hrel
  by_cases hlt:j<l.length
  ·have j1:(j:Int)<l.length:=by omega
   obtain⟨bb,off,rfl,hbl,aO⟩:=iE (HV.out.on hb.out) (by omega);have cj:=aO j hlt;have hx:=HOK.out l[j] (List.getElem_mem hlt);have HT:=O (kU bF l j hlt)
   have hle:(bF (l.length:Int)++(ea bF (l.take j)++bF l[j])).length≤900000:=by
    rw[←HT.out];have h1:=HL.out;rw[HE.out,E_] at h1;have := hG bF l (j+1);rw[E_]
    omega
   generalize l[j]=x at cj hx HT hle;have HX:=O hx;have HLE:=O hle;have HJ:=O hlt;clear aO hx hlt hle
   go_wp2_with (first
    |(go_at_call 132;refine(Bj x HX.out.1 HX.out.2 _).mono ?_;rintro e w2 ⟨v2,rfl,ho2,hb2⟩;have HO2:=O ho2;have HB2:=O hb2;clear ho2 hb2)
    |(at_builtin;refine br aN rfl (.tmp 14) (.tmp 19) rfl w.heap.size _ _ rfl (hown.out.on HB2.out) _ (bF x) rfl HO2.out.rd (by have := HLE.out;rw[E_,E_] at this;rw[E_];omega) (M_ hb.out.size HB2.out.size) ?_;intro v3 w3 ho3 hg3 _;have HO3:=O ho3;have HB3:Hid (Below w.heap.size w w3):=(O ((hb.out.trans (HB2.out.mono hb.out.size)).grown hg3 (M_ hb.out.size HB2.out.size) (fun k hk2=>(hown.out.lt k hk2).1)));clear ho3 hg3))
   go_roundw
   case rel=>exact⟨j+1,HJ.out,by go_num,O (by rw[HT.out,←R_];exact HO3.out),HB3⟩
   case measure=>have := HJ.out;simp[intOf];omega
  ·have he:j=l.length:=by omega
   have j1:¬(j:Int)<l.length:=by omega
   have HF:Hid (bF l.length++ea bF (l.take j)=cd l):=O (by rw[he,List.take_length];rfl);clear he hlt hj;go_wp2;go_ret;exact⟨_,rfl,by rw[←HF.out];exact hown.out,hb.out⟩
theorem vX (v:Value) (l:List (List UInt8)) (w:World) (hv:RdE eS w v l) (hl:(eN l).length≤900000) (hn:l.length≤900000) :
  Calls prog 131 #[v] w fun e w'=>∃v',e = .returned v'∧ap eB w' w.heap.size v' (eN l)∧Below w.heap.size w w':=by
 have HV:=O hv;have HL:=O hl
 have hni:(l.length:Int)≤900000:=by omega
 have HN:=O hn;have hE:eN l=bF l.length++ea aV l:=rfl;have HE:=O hE;obtain⟨a,cap,rfl,_,_,_⟩:=hv;clear hl hE hn
 go_enter func131,ntmps131
 go_wp2_with (go_at_call 132;refine(Bj (l.length:Int) (by omega) (by have := HN.out;omega) _).mono ?_;rintro e w1 ⟨v1,rfl,ho1,hb1⟩;have HO1:=O ho1;have HB1:=O hb1;clear ho1 hb1)
 go_loopw [4,3] (fun i o wr=>∃j:Nat,j≤l.length∧i = .int .i64 j∧Hid (ap eB wr w.heap.size o (bF l.length++ea aV (l.take j)))∧Hid (Below w.heap.size w wr)) (fun i _ _=>l.length-(intOf i).toNat)
 case atStart=>exact⟨0,N_ _,rfl,O (by rw[c_,fj,List.append_nil];exact HO1.out),HB1⟩
 case round =>
  obtain⟨j,hj,rfl,hown,hb⟩:=hrel
  by_cases hlt:j<l.length
  ·have j1:(j:Int)<l.length:=by omega
   obtain⟨bb,off,rfl,hbl,aO⟩:=dQ (HV.out.on hb.out) (by omega);have cj:=aO j hlt;have HT:=O (kU aV l j hlt)
   have hle:(bF (l.length:Int)++(ea aV (l.take j)++aV l[j])).length≤900000:=by
    rw[←HT.out];have h1:=HL.out;rw[HE.out,E_] at h1;have := hG aV l (j+1);rw[E_]
    omega
   have hxl:l[j].length≤(aV l[j]).length:=by unfold aV;rw[E_];omega
   generalize l[j]=x at cj HT hle hxl;have HLE:=O hle;have HXL:=O hxl;have HJ:=O hlt;clear aO hlt hle hxl
   go_wp2_with (first
    |(go_at_call 84;refine(lH x _ (by have h1:=HLE.out;have h2:=HXL.out;rw[E_,E_] at h1;omega)).mono ?_;rintro e w2 ⟨v2,rfl,ho2,hb2⟩;have HO2:=O ho2;have HB2:=O hb2;clear ho2 hb2)
    |(at_builtin;refine br aN rfl (.tmp 14) (.tmp 19) rfl w.heap.size _ _ rfl (hown.out.on HB2.out) _ (aV x) rfl HO2.out.rd (by have := HLE.out;rw[E_,E_] at this;rw[E_];omega) (M_ hb.out.size HB2.out.size) ?_;intro v3 w3 ho3 hg3 _;have HO3:=O ho3;have HB3:Hid (Below w.heap.size w w3):=(O ((hb.out.trans (HB2.out.mono hb.out.size)).grown hg3 (M_ hb.out.size HB2.out.size) (fun k hk2=>(hown.out.lt k hk2).1)));clear ho3 hg3))
   go_roundw
   case rel=>exact⟨j+1,HJ.out,by go_num,O (by rw[HT.out,←R_];exact HO3.out),HB3⟩
   case measure=>have := HJ.out;simp[intOf];omega
  ·have he:j=l.length:=by omega
   have j1:¬(j:Int)<l.length:=by omega
   have HF:Hid (bF l.length++ea aV (l.take j)=eN l):=O (by rw[he,List.take_length];rfl);clear he hlt hj;go_wp2;go_ret;exact⟨_,rfl,by rw[←HF.out];exact hown.out,hb.out⟩
end
end Go.Proofs.YtmfiaadjdbemnaaGreatDoor
