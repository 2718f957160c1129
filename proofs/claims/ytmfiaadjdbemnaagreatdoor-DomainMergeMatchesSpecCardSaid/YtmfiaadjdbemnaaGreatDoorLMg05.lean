/- Contracts and lemmas. No condition. -/
import Derived.Test.YtmfiaadjdbemnaaGreatDoorLMg02
import Derived.Test.YtmfiaadjdbemnaaGreatDoorSB22
import Derived.Test.YtmfiaadjdbemnaaGreatDoorLMg04
import Derived.ChangeOld
import Derived.OpenShut
import Derived.ProofKit
import Derived.ShutString
import Derived.Test.YtmfiaadjdbemnaaGreatDoorRows
set_option maxRecDepth 100000
set_option maxHeartbeats 8000000
set_option linter.unusedSimpArgs false
set_option linter.unusedVariables false
namespace Go.Proofs.YtmfiaadjdbemnaaGreatDoor
section
theorem Tryz.own:ownKnob Tryz.prog.godebug=none:=by kernel_rfl
theorem Tryz.laidOut:laidOutB Tryz.prog=true:=by kernel_rfl
theorem vW (a:ByteArray):∃l:List UInt8,a=⟨l.toArray⟩:=⟨a.data.toList,by simp⟩
theorem J1 {a:Int} (h:(Lit.int .i64 a).wf=true) : -9223372036854775808≤a∧a≤9223372036854775807:=by
 simp only[Lit.wf,T_,decide_eq_true_eq] at h;exact h
open Go.RowKit
theorem cR.nil (w:World) (ai:Nat):cR w ai (.slice none 0 0) []:=World.ownsRow_nil w ai _ 1
attribute [local irreducible] C3.rounds C3.state C3.blockTo C3.bytes
end
section
open Go.RowKit Go.Shelf
section st
variable {α:Type} {dec:List UInt8→α × Nat × Int} {z:α} {rest:List UInt8} {e:Int}
theorem vD (he:e≠0):rdX dec rest e=e:=by unfold rdX;rw[G_ he]
theorem mC:rdX dec rest 0=(dec rest).2.2:=by unfold rdX;simp
theorem kC (h:(dec rest).2.2=0):rdV z dec rest 0=(dec rest).1:=by unfold rdV;simp[h]
theorem vC (h:(dec rest).2.2=0):rdR dec rest 0=rest.drop (dec rest).2.1:=by unfold rdR;simp[h]
theorem DU (he:e≠0):whX dec rest e=e:=by unfold whX;rw[vD he,H_ (fun h=>he h.1)]
theorem tP (h:(dec rest).2.2≠0):whX dec rest 0=(dec rest).2.2:=by unfold whX;rw[mC,H_ (fun h'=>h h'.1)]
theorem tO (h:(dec rest).2.2=0) (h2:(dec rest).2.1=rest.length):whX dec rest 0=0:=by
 unfold whX;rw[mC,vC h,h,h2,List.drop_length]
 simp
theorem rj (h:(dec rest).2.2=0) (h2:(dec rest).2.1<rest.length):whX dec rest 0=6:=by
 unfold whX
 have h3:¬(rest.drop (dec rest).2.1).length=0:=by rw[S_];omega
 rw[mC,vC h,h,V_ h3]
 simp
end st
theorem Ev {b:List UInt8} (h:b.length<16):bz b=(z16,0,5):=G_ h
theorem eM {b:List UInt8} (h:¬b.length<16):bz b=(b.take 16,16,0):=H_ h
theorem Sl {hdr:List UInt8} {e:Int} (he:e≠0):hdE hdr e=e:=by
 unfold hdE;simp only[vD he,he,false_and,if_false]
theorem Sm {hdr:List UInt8} {e:Int} (he:e≠0):hdX hdr e=e:=by
 unfold hdX;simp only[Sl he,vD he,DU he,he,false_and,if_false]
theorem GH (h:List UInt8):(h.length<16∧hdE h 0=5)∨(¬h.length<16∧(aB (h.drop 16)).2.2≠0∧hdE h 0=(aB (h.drop 16)).2.2) ∨
  (¬h.length<16∧(aB (h.drop 16)).2.2=0∧¬(aB (h.drop 16)).1.length=4∧hdE h 0=6)∨(¬h.length<16∧(aB (h.drop 16)).2.2=0∧(aB (h.drop 16)).1.length=4∧hdE h 0=0):=by
 by_cases h1:h.length<16
 ·refine .inl ⟨h1,?_⟩
  have e1:rdX bz h 0=5:=by rw[mC,Ev h1]
  unfold hdE;simp only[e1];rw[vD (by decide)]
  simp
 ·have e1:rdX bz h 0=0:=by rw[mC,eM h1]
  have e2:rdR bz h 0=h.drop 16:=by rw[vC (by rw[eM h1]),eM h1]
  by_cases h2:(aB (h.drop 16)).2.2=0
  ·have e3:rdV [] aB (h.drop 16) 0=(aB (h.drop 16)).1:=kC h2
   have hE:hdE h 0=if decide ((aB (h.drop 16)).1.length=4)=false then 6 else 0:=by
    unfold hdE;simp only[e1,e2,e3,mC,h2,true_and]
   by_cases h3:(aB (h.drop 16)).1.length=4
   ·exact .inr (.inr (.inr ⟨h1,h2,h3,by rw[hE,decide_eq_true h3];rfl⟩))
   ·exact .inr (.inr (.inl ⟨h1,h2,h3,by rw[hE,V_ h3];rfl⟩))
  ·refine .inr (.inl ⟨h1,h2,?_⟩)
   unfold hdE;simp only[e1,e2,mC,h2,false_and,if_false]
def Ap (h rest:List UInt8) (l:List Int) (mo:List UInt8):BK:=⟨h.take 16,l.getD 0 0,l.getD 1 0,l.getD 2 0,l.getD 3 0,rest.take 16,mo⟩
theorem GI (h rest:List UInt8) (hr:rest=(h.drop 16).drop (aB (h.drop 16)).2.1) (h1:¬h.length<16) (h2:(aB (h.drop 16)).2.2=0) (h3:hdE h 0=0) :
  (rest.length<16∧hdX h 0=5)∨(¬rest.length<16∧(aL (rest.drop 16)).2.2≠0∧hdX h 0=(aL (rest.drop 16)).2.2) ∨
  (¬rest.length<16∧(aL (rest.drop 16)).2.2=0∧(¬(aL (rest.drop 16)).2.1=rest.length-16)∧hdX h 0=6) ∨
  (¬rest.length<16∧(aL (rest.drop 16)).2.2=0∧(aL (rest.drop 16)).2.1=rest.length-16∧aI (Ap h rest (aB (h.drop 16)).1 (aL (rest.drop 16)).1) []=false∧hdX h 0=6) ∨
  (¬rest.length<16∧(aL (rest.drop 16)).2.2=0∧(aL (rest.drop 16)).2.1=rest.length-16∧aI (Ap h rest (aB (h.drop 16)).1 (aL (rest.drop 16)).1) []=true∧hdX h 0=0∧hdB h 0=Ap h rest (aB (h.drop 16)).1 (aL (rest.drop 16)).1):=by
 have e1:rdX bz h 0=0:=by rw[mC,eM h1]
 have e2:rdR bz h 0=h.drop 16:=by rw[vC (by rw[eM h1]),eM h1]
 have e0:rdV z16 bz h 0=h.take 16:=by rw[kC (by rw[eM h1]),eM h1]
 have e3:rdV [] aB (h.drop 16) 0=(aB (h.drop 16)).1:=kC h2
 have e4:rdR aB (h.drop 16) 0=rest:=by rw[vC h2,hr]
 by_cases h4:rest.length<16
 ·refine .inl ⟨h4,?_⟩
  have e5:rdX bz rest 0=5:=by rw[mC,Ev h4]
  unfold hdX;simp only[e1,e2,e4,h3,e5];rw[DU (by decide)]
  simp
 ·have e5:rdX bz rest 0=0:=by rw[mC,eM h4]
  have e6:rdR bz rest 0=rest.drop 16:=by rw[vC (by rw[eM h4]),eM h4]
  have e7:rdV z16 bz rest 0=rest.take 16:=by rw[kC (by rw[eM h4]),eM h4]
  have hX:hdX h 0=if whX aL (rest.drop 16) 0=0∧aI (hdB h 0) []=false then 6 else whX aL (rest.drop 16) 0:=by
   unfold hdX;simp only[e1,e2,e4,h3,e5,e6]
  by_cases h5:(aL (rest.drop 16)).2.2=0
  ·have e8:rdV [] aL (rest.drop 16) 0=(aL (rest.drop 16)).1:=kC h5
   have hB:hdB h 0=Ap h rest (aB (h.drop 16)).1 (aL (rest.drop 16)).1:=by
    unfold hdB;simp only[e0,e1,e2,e3,e4,h3,e5,e6,e7,e8,if_true]
    rfl
   have hu:=(hI.used _ h5).1;rw[S_] at hu
   by_cases h6:(aL (rest.drop 16)).2.1=rest.length-16
   ·have e9:whX aL (rest.drop 16) 0=0:=tO h5 (by rw[S_];exact h6)
    rw[hB,e9] at hX
    cases hv:aI (Ap h rest (aB (h.drop 16)).1 (aL (rest.drop 16)).1) [] with
    | false=>exact .inr (.inr (.inr (.inl ⟨h4,h5,h6,rfl,by rw[hX,hv];simp⟩)))
    | true=>exact .inr (.inr (.inr (.inr ⟨h4,h5,h6,rfl,by rw[hX,hv];simp,hB⟩)))
   ·have e9:whX aL (rest.drop 16) 0=6:=rj h5 (by rw[S_];omega)
    exact .inr (.inr (.inl ⟨h4,h5,h6,by rw[hX,e9];simp⟩))
  ·refine .inr (.inl ⟨h4,h5,?_⟩)
   rw[hX,tP h5,H_ (fun h'=>h5 h'.1)]
theorem Sn (h:List UInt8) (hq:hdE h 0≠0):hdX h 0=hdE h 0:=by
 unfold hdX;simp only[vD hq,DU hq,hq,false_and,if_false]
theorem IM {blob:List UInt8} (h:(aL blob).2.2≠0):blE blob=(aL blob).2.2:=by
 unfold blE;rw[mC,Sm h]
theorem Eg {blob:List UInt8} (h:(aL blob).2.2=0):blE blob=hdX (aL blob).1 0∧blB blob=hdB (aL blob).1 0∧blH blob=(aL blob).1∧rdR aL blob 0=blob.drop (aL blob).2.1:=by
 have e1:blH blob=(aL blob).1:=kC h;unfold blE blB;rw[e1,mC,h];exact⟨rfl,rfl,rfl,vC h⟩
theorem G3 (s:List UInt8):((aE s).2.2≠0∧dZ s 0=(aE s).2.2)∨((aE s).2.2=0∧¬(aE s).2.1=s.length∧dZ s 0=6)∨((aE s).2.2=0∧(aE s).2.1=s.length∧¬(aE s).1.length=2∧dZ s 0=6) ∨
  ((aE s).2.2=0∧(aE s).2.1=s.length∧(aE s).1.length=2∧dZ s 0=kN ((aE s).1.getD 0 [])∧(dZ s 0=0→fV s 0=mkK (rdV [] aB ((aE s).1.getD 0 []) 0) ((aE s).1.getD 1 []))):=by
 by_cases h1:(aE s).2.2=0
 ·have hu:=(lI.used _ h1).1
  have e1:rdV [] aE s 0=(aE s).1:=kC h1
  by_cases h2:(aE s).2.1=s.length
  ·have e2:whX aE s 0=0:=tO h1 h2
   by_cases h3:(aE s).1.length=2
   ·have e3:kE1 s 0=0:=by unfold kE1;rw[e2,e1,decide_eq_true h3];simp
    refine .inr (.inr (.inr ⟨h1,h2,h3,?_,?_⟩))
    ·unfold dZ;rw[e3,e1,G_ rfl]
    ·intro hk
     unfold fV;rw[hk,G_ rfl,e1]
   ·have e3:kE1 s 0=6:=by unfold kE1;rw[e2,e1,V_ h3];simp
    exact .inr (.inr (.inl ⟨h1,h2,h3,by unfold dZ;rw[e3];simp⟩))
  ·have e2:whX aE s 0=6:=rj h1 (by omega)
   have e3:kE1 s 0=6:=by unfold kE1;rw[e2];simp
   exact .inr (.inl ⟨h1,h2,by unfold dZ;rw[e3];simp⟩)
 ·have e2:whX aE s 0=(aE s).2.2:=tP h1
  have e3:kE1 s 0=(aE s).2.2:=by unfold kE1;rw[e2,H_ (fun h=>h1 h.1)]
  exact .inl ⟨h1,by unfold dZ;rw[e3,H_ h1]⟩
theorem Kg (p:List UInt8):((aB p).2.2≠0∧kN p=(aB p).2.2)∨((aB p).2.2=0∧¬(aB p).2.1=p.length∧kN p=6)∨((aB p).2.2=0∧(aB p).2.1=p.length∧¬(aB p).1.length=8∧kN p=6) ∨
  ((aB p).2.2=0∧(aB p).2.1=p.length∧(aB p).1.length=8∧¬((aB p).1.getD 7 0=0∨(aB p).1.getD 7 0=1)∧kN p=6) ∨
  ((aB p).2.2=0∧(aB p).2.1=p.length∧(aB p).1.length=8∧((aB p).1.getD 7 0=0∨(aB p).1.getD 7 0=1)∧kN p=0∧rdV [] aB p 0=(aB p).1):=by
 by_cases h1:(aB p).2.2=0
 ·have hu:=(ko.used _ h1).1
  have e1:rdV [] aB p 0=(aB p).1:=kC h1
  by_cases h2:(aB p).2.1=p.length
  ·have e2:whX aB p 0=0:=tO h1 h2
   by_cases h3:(aB p).1.length=8
   ·have e3:kE2 p=0:=by unfold kE2;rw[e2,e1,decide_eq_true h3];simp
    have hw:kN p=if win ((aB p).1.getD 7 0) 0 1=false then 6 else 0:=by unfold kN;rw[e3,e1];simp
    cases hq:win ((aB p).1.getD 7 0) 0 1 with
    | true =>
      have hq2:=(kJ _ _ _).1 hq;exact .inr (.inr (.inr (.inr ⟨h1,h2,h3,by omega,by rw[hw,hq];simp,e1⟩)))
    | false =>
      have hq2:¬(0≤(aB p).1.getD 7 0∧(aB p).1.getD 7 0≤1):=fun h=>by rw[(kJ _ _ _).2 h] at hq;cases hq
      exact .inr (.inr (.inr (.inl ⟨h1,h2,h3,by omega,by rw[hw,hq];simp⟩)))
   ·have e3:kE2 p=6:=by unfold kE2;rw[e2,e1,V_ h3];simp
    exact .inr (.inr (.inl ⟨h1,h2,h3,by unfold kN;rw[e3];simp⟩))
  ·have e2:whX aB p 0=6:=rj h1 (by omega)
   have e3:kE2 p=6:=by unfold kE2;rw[e2];simp
   exact .inr (.inl ⟨h1,h2,by unfold kN;rw[e3];simp⟩)
 ·have e2:whX aB p 0=(aB p).2.2:=tP h1
  have e3:kE2 p=(aB p).2.2:=by unfold kE2;rw[e2,H_ (fun h=>h1 h.1)]
  exact .inl ⟨h1,by unfold kN;rw[e3,H_ (fun h=>h1 h.1)]⟩
theorem oX (ss:List (List UInt8)):∀e,e≠0→(b5 ss e).2=e:=by
 induction ss with
 | nil=>intro e _;rfl
 | cons s ss ih =>
   intro e he;rw[jP]
   show (b5 ss (dZ s e)).2=e
   rw[EW s e he];exact ih e he
theorem GC (a:List (List UInt8)):∀(b:List (List UInt8)) (e:Int),(b5 (a++b) e).2=(b5 b (b5 a e).2).2:=by
 induction a with
 | nil=>intro b e;rfl
 | cons x a ih=>intro b e;rw[List.cons_append,jP,jP];exact ih b _
theorem A8 (ss:List (List UInt8)) (j:Nat) (hj:j<ss.length) (h0:(b5 (ss.take j) 0).2=0) (h1:dZ ss[j] 0≠0):(b5 ss 0).2=dZ ss[j] 0:=by
 have h2:(b5 (ss.take (j+1)) 0).2=dZ ss[j] 0:=by rw[oY ss j hj,h0]
 have h3:=GC (ss.take (j+1)) (ss.drop (j+1)) 0;rw[List.take_append_drop,h2,oX _ _ h1] at h3;exact h3
theorem Sc {t:List UInt8} (h:(aE t).2.2≠0):ctE t=(aE t).2.2:=by
 unfold ctE;rw[tP h,oX _ _ h]
theorem NY {t:List UInt8} (h:(aE t).2.2=0) (h2:¬(aE t).2.1=t.length):ctE t=6:=by
 have hu:=(lI.used _ h).1;unfold ctE;rw[rj h (by omega),oX _ _ (by decide)]
theorem Sa {t:List UInt8} (h:(aE t).2.2=0) (h2:(aE t).2.1=t.length):ctE t=(b5 (aE t).1 0).2∧ctK t=(b5 (aE t).1 0).1:=by
 have e1:rdV [] aE t 0=(aE t).1:=kC h;unfold ctE ctK;rw[tO h h2,e1];exact⟨rfl,rfl⟩
end
section
open Go.RowKit
theorem LP {v:Value} {w0:World} {b:List UInt8} (hv:RdE eB w0 v b) (j:Nat) (hj:j≤b.length) :
  ∃a c,(∀wx:World,(Instr.slice 80 v none (some (.int .i64 j)) none).run Tryz.prog wx = .ok (.slice a j c) wx)∧∀u:World,RdE eB u v b→RdE eB u (.slice a j c) (b.take j):=by
 obtain⟨a,cap,rfl,h1,h2,h3⟩:=hv;have hs:∃a2 c2,sliced a 0 j cap 1 = .slice a2 j c2:=⟨_,_,rfl⟩;obtain⟨a2,c2,e⟩:=hs;refine⟨a2,c2,fun wx => ?_,fun u hu => ?_⟩
 ·rw[run_slice_h wx _ a _ cap mm .i64 _ (by omega) (by omega),pH]
  simp[Result.andThen,e]
 ·have h:=jV hu 0 j (N_ _) hj
  rw[L_,Nat.sub_zero,e] at h;exact h
theorem Jq:aZ []=(0,0,5):=rfl
theorem EO (m:Nat) (c f:UInt8):(256:Int)*(m:Int)+B8 (c ^^^ f)=((256*m+(c ^^^ f).toNat:Nat):Int):=by unfold B8;omega
attribute [local irreducible] Calls vOf bF aZ
theorem xz (v : Value) (b : List UInt8) (w : World) (hv : RdE eB w v b) :
  Calls Tryz.prog 147 #[v] w fun e w'=>e = .returned (il (aZ b))∧Below w.heap.size w w':=by
 have HV:=O hv;have hlen:=hv.len;unfold maxLen at hlen
 cases b with
 | nil =>
   have HR:=O Jq;obtain⟨a,cap,rfl,hcap,hcm,_⟩:=hv
   go_enter Tryz.func147,Tryz.ntmps147
   go_wp2
   go_ret3
   exact⟨by rw[HR.out];rfl,O_ _ _⟩
 | cons h r =>
   obtain⟨a,cap,rfl,hcap,hcm,_⟩:=hv;unfold maxLen at hcm;obtain⟨bb,off,rfl,hbl,aO⟩:=fp HV.out (by simp);have HROW:=O aO;clear aO;have hc0:=HROW.out 0 (by simp);have e0:byteAt (h::r) 0=h:=rfl;rw[e0,Nat.add_zero] at hc0;clear e0;have hlo:=jZ h;have hhi:=kI h;obtain⟨kh1,kh2⟩:=Sy h;have hB:B8 h=(h.toNat:Int):=rfl
   by_cases h8:8<kOf h
   ·have HR:Hid (aZ (h::r)=(0,0,6)):=O (by
     rcases jK h r with⟨p1,p2⟩|⟨p1,p2,p3⟩|⟨p1,p2,p3,p4,p5⟩|⟨p1,p2,p3,p4⟩
     ·exact p2
     all_goals omega)
    have h9:=kh1.1 h8;clear kh1 kh2 h8 hlen
    rcases Nat.lt_or_ge h.toNat 119 with h1|h1
    ·have i1:B8 h<119:=by omega
     clear h9 hB h1
     go_enter Tryz.func147,Tryz.ntmps147
     go_wp2
     go_ret3
     exact⟨by rw[HR.out];rfl,O_ _ _⟩
    ·have i1:¬B8 h<119:=by omega
     have i2:136<B8 h:=by omega
     clear h9 hB h1
     go_enter Tryz.func147,Tryz.ntmps147
     go_wp2
     go_ret3
     exact⟨by rw[HR.out];rfl,O_ _ _⟩
   ·have i1 : ¬ B8 h < 119 := by omega
    have i2:¬136<B8 h:=by omega
    have HK8:Hid (kOf h≤8):=O (by omega);obtain⟨F,hF⟩:∃F,F=bH h:=⟨_,rfl⟩;have HFF:=O hF;have HFC:=O (lL h);obtain⟨K,hK⟩:∃K,K=kOf h:=⟨_,rfl⟩;have HKK:=O hK
    have hk8:(K:Int)≤8:=by rw[hK];omega
    rw[←hK] at kh2;have HK2:=O kh2;have HBH:=O hB;clear kh1 h8 hF hK kh2 hlen hB
    go_enter Tryz.func147,Tryz.ntmps147
    go_upto_if 27 with fail
    go_cut [6,13,27] from 28 to 29 (fun k _ _ wc=>k = .int .i64 (K:Int)∧wc=w)
    case first =>
     rcases HFC.out with⟨hc1,hc2⟩|⟨hc1,hc2⟩
     ·have i3:B8 h<128:=by have := HBH.out;omega
      have E1:=HK2;rw[G_ hc1] at E1;clear hc1 hc2;go_wp2
      all_goals go_meet
      case rel=>exact⟨by rw[E1.out],rfl⟩
     ·have i3:¬B8 h<128:=by have := HBH.out;omega
      have E1:=HK2;rw[H_ hc1] at E1;clear hc1 hc2;go_wp2
      all_goals go_meet
      case rel=>exact⟨by rw[E1.out],rfl⟩
    case rest =>
     obtain⟨rfl,hwc⟩:=hcut;rw[hwc];clear hwc
     by_cases hKL:r.length<K
     ·have i3:(r.length:Int)+1<(K:Int)+1:=by omega
      have i4:(r.length:Int)<(K:Int):=by omega
      have HR:Hid (aZ (h::r)=(0,0,5)):=O (by
       rcases jK h r with⟨p1,p2⟩|⟨p1,p2,p3⟩|⟨p1,p2,p3,p4,p5⟩|⟨p1,p2,p3,p4⟩
       ·have := HK8.out;omega
       ·exact p3
       all_goals (have := HKK.out;omega))
      clear hKL;go_wp2
      go_ret3
      exact⟨by rw[HR.out];rfl,O_ _ _⟩
     ·have i3 : ¬ (r.length : Int) + 1 < (K : Int) + 1 := by omega
      have i4:¬(r.length:Int)<(K:Int):=by omega
      have HKL:Hid (K≤r.length):=O (by omega);clear hKL;go_wp2
      go_loopw [8,7] (fun i v wr=>∃(j m:Nat),1≤j∧j≤K+1∧i = .int .i64 j∧v = .int .i64 m∧Hid (m=dB ((r.take (j-1)).map (· ^^^ F)))∧m<9223372036854775808∧wr=w) (fun i _ _=>(K+1)-(intOf i).toNat)
      case atStart=>exact⟨1,0,A_ _,by omega,rfl,rfl,O (by simp[dB]),by decide,rfl⟩
      case round =>
       obtain⟨j,m,hj1,hj2,rfl,rfl,hm,hml,hwr⟩:=hrel;rw[hwr];clear hwr;have HM:=hm;have HJ1:=O hj1
       by_cases hlt:j≤K
       ·have j1:(j:Int)≤K:=by omega
        have j2:(j:Int)<(r.length:Int)+1:=by omega
        have j3:j<r.length+1:=by omega
        have hcj:=HROW.out j (by have := HKL.out;simp;omega)
        have e2:byteAt (h::r) j=byteAt r (j-1):=by
         cases j with
         | zero=>omega
         | succ j=>rfl
        rw[e2] at hcj;have hst:=oQ r F (j-1) (by have := HKL.out;omega);rw[show j-1+1=j by omega,←HM.out] at hst;have HST:=O hst;generalize byteAt r (j-1)=c at hcj HST;have HJ:=O hlt;have clo:=jZ c;have chi:=kI c
        by_cases hm55:36028797018963967<m
        ·have HR:Hid (aZ (h::r)=(0,0,6)):=O (JU h r (j-1) HK8.out (by rw[←HKK.out];exact HKL.out) (by have := HKK.out;omega) (by rw[←HFF.out,←HM.out];exact hm55))
         have m1:(36028797018963967:Int)<m:=by omega
         clear hm55 e2 hst hm hlt hml
         rcases HFC.out with⟨hc1,hc2⟩|⟨hc1,hc2⟩
         ·have i6:B8 h<128:=by have := HBH.out;omega
          clear hc1 hc2;go_wp2
          go_ret3
          exact⟨by rw[HR.out];rfl,O_ _ _⟩
         ·have i6:¬B8 h<128:=by have := HBH.out;omega
          clear hc1 hc2;go_wp2
          go_ret3
          exact⟨by rw[HR.out];rfl,O_ _ _⟩
        ·have m1:¬(36028797018963967:Int)<m:=by omega
         have m2:(m:Int)≤36028797018963967:=by omega
         have m3:(0:Int)≤m:=by omega
         have HM2:Hid (m≤36028797018963967):=O (by omega);clear hm55 e2 hst hm hlt hml
         rcases HFC.out with⟨hc1,hc2⟩|⟨hc1,hc2⟩
         ·have i6:B8 h<128:=by have := HBH.out;omega
          have EF:Hid (F=255):=O (by rw[HFF.out,hc2]);have hsub:255-B8 c=B8 (c ^^^ 255):=Cw c;have HGS:=O (EO m c 255);rw[EF.out] at HST;have dlo:=jZ (c ^^^ 255);have dhi:=kI (c ^^^ 255);have HLT:=O (c ^^^ 255).toNat_lt;clear hc1 hc2 clo chi;go_wp2;go_roundw
          case rel=>exact⟨j+1,256*m+(c ^^^ 255).toNat,by omega,by have := HJ.out;omega,by go_num,congrArg (Value.int .i64) HGS.out,O (by rw[show j+1-1=j by omega,EF.out];exact HST.out.symm),by have := HLT.out;have := HM2.out;omega,by first |exact rfl|exact trivial⟩
          case measure=>have := HJ.out;simp[intOf];omega
         ·have i6:¬B8 h<128:=by have := HBH.out;omega
          have EF:Hid (F=0):=O (by rw[HFF.out,hc2]);have HGS:=O (EO m c 0);rw[EF.out] at HST;rw[UInt8.xor_zero] at HGS;have HLT:=O (c ^^^ 0).toNat_lt;clear hc1 hc2;go_wp2;go_roundw
          case rel=>exact⟨j+1,256*m+(c ^^^ 0).toNat,by omega,by have := HJ.out;omega,by go_num,congrArg (Value.int .i64) (by rw[UInt8.xor_zero];exact HGS.out),O (by rw[show j+1-1=j by omega,EF.out];exact HST.out.symm),by have := HLT.out;have := HM2.out;omega,by first |exact rfl|exact trivial⟩
          case measure=>have := HJ.out;simp[intOf];omega
       ·have hjk:j=K+1:=by omega
        subst hjk;have HV2:Hid (m=vOf h r):=O (by rw[HM.out];unfold vOf;rw[HKK.out,HFF.out];rfl)
        have j1:¬(((K+1:Nat):Int))≤K:=by omega
        have HGN:Hid (giN h r=if h.toNat<128 then -1-(m:Int) else (m:Int)):=O (by unfold giN;rw[HV2.out]);have hYES:=O (Sj h r (by rw[←HKK.out];exact HKL.out) (by rw[←HV2.out];exact hml));have hNO:=O (VQ h r HK8.out (by rw[←HKK.out];exact HKL.out));rw[←HKK.out] at hYES hNO;generalize giN h r=N at HGN hYES hNO
        have m2:(m:Int)<9223372036854775808:=by omega
        have m3:(0:Int)≤m:=by omega
        have HNB:Hid (-9223372036854775808≤N∧N<9223372036854775808):=O (by rw[HGN.out];split <;> omega);obtain⟨mi,hmi⟩:∃mi:Int,mi=(m:Int):=⟨_,rfl⟩;rw[←hmi] at m2 m3 ⊢;have HMI:=O hmi;have HEQ:=O (Nat.succ_le_succ HKL.out);obtain⟨sa,sc,hsr,hsp⟩:=LP HV.out (K+1) (by have := HKL.out;simp;omega);have HSP:=O hsp;have hs:∀wx:World,(Instr.slice 80 (.slice (some ⟨bb,off,none⟩) (r.length+1) cap) none (some (.int .i64 ((K:Int)+1))) none).run Tryz.prog wx = .ok (.slice sa (K+1) sc) wx:=hsr;clear hm hlt hj1 hj2 hml hmi hsr hsp
        go_upto_if 57 with fail
        go_cut [10,57] from 58 to 59 (fun n _ wc=>n = .int .i64 N∧wc=w)
        case first =>
         rcases HFC.out with⟨hc1,hc2⟩|⟨hc1,hc2⟩
         ·have i6:B8 h<128:=by have := HBH.out;omega
          have HN2:=HGN.out;rw[G_ hc1,←HMI.out] at HN2;have HN3:=O HN2;clear hc1 hc2 HN2;go_wp2
          all_goals go_meet
          case rel=>exact⟨by rw[HN3.out],rfl⟩
         ·have i6:¬B8 h<128:=by have := HBH.out;omega
          have HN2:=HGN.out;rw[H_ hc1,←HMI.out] at HN2;have HN3:=O HN2;clear hc1 hc2 HN2;go_wp2
          all_goals go_meet
          case rel=>exact⟨by rw[HN3.out],rfl⟩
        case rest =>
         obtain⟨rfl,hwc⟩:=hcut;rw[hwc];clear hwc;generalize hq:decide (bF N=(h::r).take (K+1))=q;have HQ:=O hq;clear hq
         go_upto_region 24 with fail
         try dsimp only[Act.put]
         refine aY 7 [[],[0],[],[],[3],[2,4],[1,5]] (SP.of [.eq (.int .i64 N),.ownR w.heap.size (bF N),.eq (.slice (some ⟨bb,off,none⟩) (r.length+1) cap),.eq (.int .i64 K),.eq (.int .i64 ((K:Int)+1)),.eq (.slice sa (K+1) sc),.eq (.bool q)]) (fun _=>undef) ?h1 ?h2 ?h3 ?h4 ?h5 ?h6
         case h1=>kernel_rfl
         case h2=>kernel_rfl
         case h3=>kernel_rfl
         case h4 =>
          simp only[F_,c_]
          repeat (first |exact trivial|refine⟨fun vals v=>by kernel_rfl,?_⟩)
         case h5 =>
          simp only[F_,c_];refine⟨?_,?_,?_,?_,?_,?_,?_,trivial⟩
          all_goals (intro wq hbq vals;simp only[given,SP.of,SP.ownR,Nat.reduceAdd,a_,X_,W_];have HBQ:=O hbq;clear hbq)
          case refine_7 =>
           intro v1 hv1 Q hQ;simp only[ay,upd,Act.put,B_,C_,D_,Nat.reduceAdd,a_,Nat.reduceEqDiff,if_true,if_false,reduceIte];have HV1:=O hv1;clear hv1
           go_wp2_with (go_at_call 175;refine(Pw v1 _ (bF N) _ wq HV1.out.rd (HSP.out wq (HV.out.on HBQ.out))).mono ?_;rintro e x1 ⟨rfl,hx1⟩;rw[HQ.out])
           exact ab hQ _ (by kernel_rfl) hx1 rfl
          all_goals (intro Q hQ;simp only[ay,upd,Act.put,B_,C_,D_,Nat.reduceAdd,a_,Nat.reduceEqDiff,if_true,if_false,reduceIte])
          case refine_2 =>
           go_wp2_with (go_at_call 132;refine(Bj N HNB.out.1 HNB.out.2 _).mono ?_;rintro e x1 ⟨v1,rfl,ho1,hx1⟩;have HO1:=O ho1;have HX1:=O hx1;clear ho1 hx1)
           exact ab hQ _ (by kernel_rfl) HX1.out (HO1.out.mono HBQ.out.size)
          all_goals go_wp2
          all_goals exact ab hQ _ (by kernel_rfl) (O_ _ _) rfl
         case h6 =>
          intro wq hbq vals
          show given _ _ _ [0,1,2,3,4,5,6] _
          simp only[given,SP.of,SP.ownR,X_,W_];rintro v1 ho1;simp only[F_,c_,J_,L_];simp only[ay,upd,Act.put,B_,C_,D_,Nat.reduceAdd,a_,Nat.reduceEqDiff,if_true,if_false,reduceIte];have HBQ:=O hbq;clear hbq ho1
          cases q with
          | true =>
            have HR:=O (hYES.out (of_decide_eq_true HQ.out));go_wp2
            go_ret3
            exact⟨by rw[HR.out];rfl,HBQ.out⟩
          | false =>
            have HR:=O (hNO.out (of_decide_eq_false HQ.out));go_wp2
            go_ret3
            exact⟨by rw[HR.out];rfl,HBQ.out⟩
end
section
open Go.RowKit
theorem Ht {v:Value} {w0:World} {b:List UInt8} (hv:RdE eB w0 v b) (i j:Nat) (hij:i≤j) (hj:j≤b.length) :
  ∃v',(∀wx:World,(Instr.slice 80 v (some (.int .i64 i)) (some (.int .i64 j)) none).run Tryz.prog wx = .ok v' wx)∧∀u:World,RdE eB u v b→RdE eB u v' ((b.drop i).take (j-i)):=by
 obtain⟨a,cap,rfl,h1,h2,h3⟩:=hv;refine⟨sliced a i j cap 1,fun wx => ?_,fun u hu=>jV hu i j hij hj⟩;rw[run_slice_lh wx _ a _ cap mm .i64 .i64 _ _ (by omega) (by omega) (by omega),pH]
 simp[Result.andThen]
theorem Cd {v:Value} {w0:World} {b:List UInt8} (hv:RdE eB w0 v b) (i:Nat) (hi:i≤b.length) :
  ∃v',(∀wx:World,(Instr.slice 80 v (some (.int .i64 i)) none none).run Tryz.prog wx = .ok v' wx)∧∀u:World,RdE eB u v b→RdE eB u v' (b.drop i):=by
 obtain⟨a,cap,rfl,h1,h2,h3⟩:=hv;refine⟨sliced a i b.length cap 1,fun wx => ?_,fun u hu => ?_⟩
 ·rw[run_slice_l wx _ a _ cap mm .i64 _ (by omega) (by omega),pH]
  simp[Result.andThen]
 ·have h:=jV hu i b.length hi (A_ _)
  rwa [Y_ (by rw[S_];exact A_ _)] at h
def AA (b:List UInt8):Int × Nat × Int:=if (dG b 1).2.2=0 then dG b 1 else (0,0,(dG b 1).2.2)
theorem Er {b:List UInt8} {n:Int} {u:Nat} (h:dG b 1=(n,u,0)):AA b=(n,u,0):=by unfold AA;rw[h];rfl
theorem tj {b:List UInt8} {n:Int} {u:Nat} {e:Int} (h:dG b 1=(n,u,e)) (he:e≠0):AA b=(0,0,e):=by unfold AA;rw[h,H_ he]
theorem uA (b:List UInt8) (n:Int) (u:Nat) (e:Int) (h:dG b 1=(n,u,e)):(e=0∧AA b=(n,u,0))∨(e≠0∧AA b=(0,0,e)):=by
 by_cases he:e=0
 ·subst he;exact .inl ⟨rfl,Er h⟩
 ·exact .inr ⟨he,tj h he⟩
attribute [local irreducible] Calls bF aV aZ aL dG AA
theorem uD (v:Value) (b:List UInt8) (w:World) (hv:RdE eB w v b) :
  Calls Tryz.prog 146 #[v,.int .i64 1] w fun e w'=>e = .returned (il (AA b))∧Below w.heap.size w w':=by
 have HG:=O (xz v b w hv);have hlen:=hv.len;unfold maxLen at hlen;have HU:=O (jA b);have HP:=O (oT b 1);have HZ:=O (ql b);obtain⟨a,cap,rfl,hcap,hcm,_⟩:=hv;unfold maxLen at hcm;generalize aZ b=d at HG HU HP HZ;obtain⟨n,u,er⟩:=d;simp only at HP HU HZ
 rcases HP.out with⟨h1,h2⟩|⟨h1,h2,h3⟩|⟨h1,h2,h3,h4⟩|⟨h1,h2,h3,h4⟩
 ·have HE:=O (HZ.out h1)
  obtain⟨rfl,rfl⟩:=HE.out;have HR:=O (tj h2 h1);clear h2 HP HE HZ
  go_enter Tryz.func146,Tryz.ntmps146
  go_wp2_with (go_at_call 147;refine HG.out.mono ?_;rintro e w1 ⟨rfl,hb1⟩;have HB1:=O hb1;clear hb1;simp only[il])
  go_ret3
  exact⟨by rw[HR.out];rfl,HB1.out⟩
 ·subst h1
  have HR:=O (tj h3 (by decide));clear h3 HP HZ
  go_enter Tryz.func146,Tryz.ntmps146
  go_wp2_with (go_at_call 147;refine HG.out.mono ?_;rintro e w1 ⟨rfl,hb1⟩;have HB1:=O hb1;clear hb1;simp only[il])
  go_ret3
  exact⟨by rw[HR.out];rfl,HB1.out⟩
 ·subst h1
  have HR:=O (tj h4 (by decide));obtain⟨hu,hok1,hok2⟩:=HU.out rfl
  have hu':(u:Int)≤b.length:=by omega
  have i3:(b.length:Int)-u<n:=by rw[Nat.div_one] at h3;omega
  have i3':¬n≤(b.length:Int)-u:=by omega
  have em:n*1=n:=Int.mul_one n
  by_cases hn:(b.length:Int)<n
  ·clear h3 h4 HP hu HZ
   go_enter Tryz.func146,Tryz.ntmps146
   go_wp2_with (go_at_call 147;refine HG.out.mono ?_;rintro e w1 ⟨rfl,hb1⟩;have HB1:=O hb1;clear hb1;simp only[il])
   go_ret3
   exact⟨by rw[HR.out];rfl,HB1.out⟩
  ·clear h3 h4 HP hu HZ
   go_enter Tryz.func146,Tryz.ntmps146
   go_wp2_with (go_at_call 147;refine HG.out.mono ?_;rintro e w1 ⟨rfl,hb1⟩;have HB1:=O hb1;clear hb1;simp only[il])
   go_ret3
   exact⟨by rw[HR.out];rfl,HB1.out⟩
 ·subst h1
  have HR:=O (Er h4);obtain⟨hu,hok1,hok2⟩:=HU.out rfl
  have hu':(u:Int)≤b.length:=by omega
  have i3:¬(b.length:Int)-u<n:=by rw[Nat.div_one] at h3;omega
  have hn:¬(b.length:Int)<n:=by omega
  have em:n*1=n:=Int.mul_one n;clear h3 h4 HP hu HZ
  go_enter Tryz.func146,Tryz.ntmps146
  go_wp2_with (go_at_call 147;refine HG.out.mono ?_;rintro e w1 ⟨rfl,hb1⟩;have HB1:=O hb1;clear hb1;simp only[il])
  go_ret3
  exact⟨by rw[HR.out];rfl,HB1.out⟩
theorem kr (v:Value) (b:List UInt8) (w:World) (hv:RdE eB w v b) :
  Calls Tryz.prog 93 #[v] w fun e w'=>e = .returned (mH (aL b))∧Below w.heap.size w w':=by
 have HG:=O (uD v b w hv);have hlen:=hv.len;unfold maxLen at hlen;have HU:=O (iQ b);have HP:=O (uG b);have HV:=O hv;have HC:=O (uA b);generalize dG b 1=d at HC HU HP;obtain⟨n,u,er⟩:=d;simp only at HP HU;replace HC:=O (HC.out n u er rfl);clear hv
 rcases HP.out with⟨h1,h2⟩|⟨h1,h2⟩
 ·have HR:=O h2
  rcases HC.out with⟨hc,_⟩|⟨_,hc⟩
  ·exact absurd hc h1
  rw[hc] at HG;clear h2 HP hc HC
  go_enter Tryz.func93,Tryz.ntmps93
  go_wp2_with (go_at_call 146;refine HG.out.mono ?_;rintro e w1 ⟨rfl,hb1⟩;have HB1:=O hb1;clear hb1;simp only[il])
  go_ret3
  exact⟨by rw[HR.out];rfl,HB1.out⟩
 ·subst h1
  have HR:=O h2
  rcases HC.out with⟨_,hc⟩|⟨hc,_⟩
  case inr=>exact absurd rfl hc
  rw[hc] at HG;clear hc HC;obtain⟨_,k2,k3,_⟩:=HU.out rfl;obtain⟨m,rfl⟩:∃m:Nat,n=(m:Int):=⟨n.toNat,by omega⟩;rw[Int.toNat_natCast] at HR k3;obtain⟨vs,hsl,hrs⟩:=Ht HV.out u (u+m) (by omega) k3;rw[show u+m-u=m by omega] at hrs;have HRS:=O hrs;generalize (b.drop u).take m=t at HR HRS
  have ha:(u:Int)+(m:Int)≤b.length:=by omega
  have hs:=hsl;rw[Int.natCast_add] at hs;clear h2 HP k2 k3 hsl hrs
  go_enter Tryz.func93,Tryz.ntmps93
  go_wp2_with (go_at_call 146;refine HG.out.mono ?_;rintro e w1 ⟨rfl,hb1⟩;have HB1:=O hb1;have hcv:=b6 (HRS.out w1 (HV.out.on hb1));clear hb1;simp only[il])
  go_ret3
  exact⟨by rw[HR.out];rfl,HB1.out⟩
theorem uY (v:Value) (b:List UInt8) (w:World) (hv:RdE eB w v b) (hl:b.length≤900000) :
  Calls Tryz.prog 94 #[v] w fun e w'=>∃v',e = .returned (.tuple #[v',.int .i64 (aB b).2.1,.int .i64 (aB b).2.2])∧ap eI w' w.heap.size v' (aB b).1∧Below w.heap.size w w':=by
 have HG:=O (uD v b w hv);have HL:=O hl;have HU:=O (iQ b);have HV:=O hv;have HD:Hid (aB b=j8 aZ b):=O rfl;unfold j8 at HD;have HC:=O (uA b);generalize dG b 1=d at HC HU HD;obtain⟨n,u,er⟩:=d;simp only at HU HD;replace HC:=O (HC.out n u er rfl)
 by_cases h1:er=0
 ·subst h1
  rcases HC.out with⟨_,hc⟩|⟨hc,_⟩
  case inr=>exact absurd rfl hc
  rw[hc] at HG;clear hc HC;obtain⟨_,k2,k3,k4⟩:=HU.out rfl;obtain⟨m,rfl⟩:∃m:Nat,n=(m:Int):=⟨n.toNat,by omega⟩;rw[Int.toNat_natCast] at HD k3;rw[H_ (fun e=>e rfl)] at HD
  have hmi:(m:Int)≤900000:=by omega
  have K3:=O k3;have HMI:=O hmi
  have hbi:(b.length:Int)≤900000:=by omega
  clear k2 k3 k4 hv
  go_enter Tryz.func94,Tryz.ntmps94
  go_wp2_with (go_at_call 146;refine HG.out.mono ?_;rintro e w1 ⟨rfl,hb1⟩;have HB1:=O hb1;clear hb1;simp only[il])
  go_loopw [9,8,6] (fun i out pv wr=>∃(j pos:Nat) (acc:List Int),j≤m∧i = .int .i64 j∧pv = .int .i64 pos∧pos≤b.length∧acc.length=j∧Hid (fS aZ b m u []=fS aZ b (m-j) pos acc)∧ap eI wr w.heap.size out acc∧Below w.heap.size w wr) (fun i _ _ _=>m-(intOf i).toNat)
  case atStart=>exact⟨0,u,[],N_ _,rfl,rfl,by have := K3.out;omega,rfl,O rfl,ap.nil _ _,HB1.out⟩
  case round =>
   obtain⟨j,pos,acc,hj,rfl,rfl,hpos,hacc,hdec,hown,hb⟩:=hrel
   by_cases hlt:j<m
   ·have j1:(j:Int)<m:=by omega
    obtain⟨vs,hs,hrs⟩:=Cd (HV.out.on hb) pos hpos;have HN:=O (xz vs _ wr (hrs wr (HV.out.on hb)))
    have HS:Hid (fS aZ b (m-j) pos acc=if (aZ (b.drop pos)).2.2≠0 then ([],0,(aZ (b.drop pos)).2.2) else fS aZ b (m-(j+1)) (pos+(aZ (b.drop pos)).2.1) (acc++[(aZ (b.drop pos)).1])):=O (by
     obtain⟨k,hk⟩:∃k,m-j=k+1:=⟨m-j-1,by omega⟩
     rw[hk,show m-(j+1)=k by omega,fS])
    have hus:(aZ (b.drop pos)).2.2=0→pos+(aZ (b.drop pos)).2.1≤b.length:=by
     intro h;have := (jA _ h).1;rw[S_] at this
     omega
    have HUS:=O hus;generalize aZ (b.drop pos)=dd at HN HS HUS;obtain⟨nn,uu,ee⟩:=dd;simp only at HN HS HUS;have HOWN:=O hown;have HB:=O hb;have HACC:=O hacc;have HJ:=O hlt;clear hown hb hacc hlt hpos hrs hus
    by_cases h2:ee=0
    ·subst h2
     have hpu:(pos:Int)+uu≤b.length:=by have := HUS.out rfl;omega
     have hpu0:(0:Int)≤(pos:Int)+uu:=by omega
     clear hj
     go_wp2_with (first
      |(go_at_call 147;refine HN.out.mono ?_;rintro e w2 ⟨rfl,hb2⟩;have HB2:=O hb2;clear hb2;simp only[il])
      |(at_builtin;go_loud ((refine br iB rfl (.tmp 38) (.tmp 40) rfl w.heap.size _ acc rfl ((HOWN.out.on HB2.out).on ((O_ _ _).alloc (A_ _) _)) (.slice (some ⟨w2.heap.size,0,none⟩) 1 1) [nn] rfl (bP w2 nn iB) (by rw[HACC.out];have := HJ.out;have := HMI.out;simp;omega) (by have := HB.out.size;have := HB2.out.size;simp;omega) ?_;intro v3 w3 ho3 hg3 _;have HO3:=O ho3;have HB3:Hid (Below w.heap.size w w3):=(O (((HB.out.trans (HB2.out.mono HB.out.size)).alloc (M_ HB.out.size HB2.out.size) _).grown hg3 (by have := HB.out.size;have := HB2.out.size;simp;omega) (fun k hk2=>(HOWN.out.lt k hk2).1)));clear ho3 hg3))))
     go_roundw
     case rel=>exact⟨j+1,pos+uu,acc++[nn],by have := HJ.out;omega,by go_num,by rw[Int.natCast_add],by omega,by rw[E_,HACC.out];rfl,O (by rw[hdec.out,HS.out];rfl),HO3.out,HB3.out⟩
     case measure=>have := HJ.out;simp[intOf];omega
    ·have h3:(ee != 0)=true:=by simpa using h2
     have H2:=O h2;clear h2 hj
     go_wp2_with (go_at_call 147;refine HN.out.mono ?_;rintro e w2 ⟨rfl,hb2⟩;have HB2:=O hb2;clear hb2;simp only[il])
     go_ret3
     have HE:aB b=([],0,ee):=by rw[HD.out,hdec.out,HS.out,G_ H2.out]
     exact⟨_,by rw[HE];rfl,by rw[HE];exact ap.nil _ _,HB.out.trans (HB2.out.mono HB.out.size)⟩
   ·have he:m-j=0:=by omega
    have j1:¬(j:Int)<m:=by omega
    have HE:Hid (aB b=(acc,pos,0)):=O (by rw[HD.out,hdec.out,he];rfl);have HOWN:=O hown;have HB:=O hb;clear he hlt hj hacc hown hb hpos;go_wp2
    go_ret3
    exact⟨_,by rw[HE.out];rfl,by rw[HE.out];exact HOWN.out,HB.out⟩
 ·have h3:(er != 0)=true:=by simpa using h1
  rw[G_ h1] at HD
  rcases HC.out with⟨hc,_⟩|⟨_,hc⟩
  ·exact absurd hc h1
  rw[hc] at HG;clear h1 hv hc HC
  go_enter Tryz.func94,Tryz.ntmps94
  go_wp2_with (go_at_call 146;refine HG.out.mono ?_;rintro e w1 ⟨rfl,hb1⟩;have HB1:=O hb1;clear hb1;simp only[il])
  go_ret3
  exact⟨_,by rw[HD.out];rfl,by rw[HD.out];exact ap.nil _ _,HB1.out⟩
theorem oK (v:Value) (b:List UInt8) (w:World) (hv:RdE eB w v b) (hl:b.length≤900000) :
  Calls Tryz.prog 99 #[v] w fun e w'=>∃v',e = .returned (.tuple #[v',.int .i64 (aE b).2.1,.int .i64 (aE b).2.2])∧ap eS w' w.heap.size v' (aE b).1∧Below w.heap.size w w':=by
 have HG:=O (uD v b w hv);have HL:=O hl;have HU:=O (iQ b);have HV:=O hv;have HD:Hid (aE b=j8 aL b):=O rfl;unfold j8 at HD;have HC:=O (uA b);generalize dG b 1=d at HC HU HD;obtain⟨n,u,er⟩:=d;simp only at HU HD;replace HC:=O (HC.out n u er rfl)
 by_cases h1:er=0
 ·subst h1
  rcases HC.out with⟨_,hc⟩|⟨hc,_⟩
  case inr=>exact absurd rfl hc
  rw[hc] at HG;clear hc HC;obtain⟨_,k2,k3,k4⟩:=HU.out rfl;obtain⟨m,rfl⟩:∃m:Nat,n=(m:Int):=⟨n.toNat,by omega⟩;rw[Int.toNat_natCast] at HD k3;rw[H_ (fun e=>e rfl)] at HD
  have hmi:(m:Int)≤900000:=by omega
  have K3:=O k3;have HMI:=O hmi
  have hbi:(b.length:Int)≤900000:=by omega
  clear k2 k3 k4 hv
  go_enter Tryz.func99,Tryz.ntmps99
  go_wp2_with (go_at_call 146;refine HG.out.mono ?_;rintro e w1 ⟨rfl,hb1⟩;have HB1:=O hb1;clear hb1;simp only[il])
  go_loopw [9,8,6] (fun i out pv wr=>∃(j pos:Nat) (acc:List (List UInt8)),j≤m∧i = .int .i64 j∧pv = .int .i64 pos∧pos≤b.length∧acc.length=j∧Hid (fS aL b m u []=fS aL b (m-j) pos acc)∧ap eS wr w.heap.size out acc∧Below w.heap.size w wr) (fun i _ _ _=>m-(intOf i).toNat)
  case atStart=>exact⟨0,u,[],N_ _,rfl,rfl,by have := K3.out;omega,rfl,O rfl,ap.nil _ _,HB1.out⟩
  case round =>
   obtain⟨j,pos,acc,hj,rfl,rfl,hpos,hacc,hdec,hown,hb⟩:=hrel
   by_cases hlt:j<m
   ·have j1:(j:Int)<m:=by omega
    obtain⟨vs,hs,hrs⟩:=Cd (HV.out.on hb) pos hpos;have HN:=O (kr vs _ wr (hrs wr (HV.out.on hb)))
    have HS:Hid (fS aL b (m-j) pos acc=if (aL (b.drop pos)).2.2≠0 then ([],0,(aL (b.drop pos)).2.2) else fS aL b (m-(j+1)) (pos+(aL (b.drop pos)).2.1) (acc++[(aL (b.drop pos)).1])):=O (by
     obtain⟨k,hk⟩:∃k,m-j=k+1:=⟨m-j-1,by omega⟩
     rw[hk,show m-(j+1)=k by omega,fS])
    have hus:(aL (b.drop pos)).2.2=0→pos+(aL (b.drop pos)).2.1≤b.length:=by
     intro h;have := wW _ h;rw[S_] at this
     omega
    have HUS:=O hus;generalize aL (b.drop pos)=dd at HN HS HUS;obtain⟨nn,uu,ee⟩:=dd;simp only at HN HS HUS;have HOWN:=O hown;have HB:=O hb;have HACC:=O hacc;have HJ:=O hlt;clear hown hb hacc hlt hpos hrs hus
    by_cases h2:ee=0
    ·subst h2
     have hpu:(pos:Int)+uu≤b.length:=by have := HUS.out rfl;omega
     have hpu0:(0:Int)≤(pos:Int)+uu:=by omega
     clear hj
     go_wp2_with (first
      |(go_at_call 93;refine HN.out.mono ?_;rintro e w2 ⟨rfl,hb2⟩;have HB2:=O hb2;clear hb2;simp only[mH])
      |(at_builtin;go_loud ((refine br AO rfl (.tmp 38) (.tmp 40) rfl w.heap.size _ acc rfl ((HOWN.out.on HB2.out).on ((O_ _ _).alloc (A_ _) _)) (.slice (some ⟨w2.heap.size,0,none⟩) 1 1) [nn] rfl (bP w2 nn AO) (by rw[HACC.out];have := HJ.out;have := HMI.out;simp;omega) (by have := HB.out.size;have := HB2.out.size;simp;omega) ?_;intro v3 w3 ho3 hg3 _;have HO3:=O ho3;have HB3:Hid (Below w.heap.size w w3):=(O (((HB.out.trans (HB2.out.mono HB.out.size)).alloc (M_ HB.out.size HB2.out.size) _).grown hg3 (by have := HB.out.size;have := HB2.out.size;simp;omega) (fun k hk2=>(HOWN.out.lt k hk2).1)));clear ho3 hg3))))
     go_roundw
     case rel=>exact⟨j+1,pos+uu,acc++[nn],by have := HJ.out;omega,by go_num,by rw[Int.natCast_add],by omega,by rw[E_,HACC.out];rfl,O (by rw[hdec.out,HS.out];rfl),HO3.out,HB3.out⟩
     case measure=>have := HJ.out;simp[intOf];omega
    ·have h3:(ee != 0)=true:=by simpa using h2
     have H2:=O h2;clear h2 hj
     go_wp2_with (go_at_call 93;refine HN.out.mono ?_;rintro e w2 ⟨rfl,hb2⟩;have HB2:=O hb2;clear hb2;simp only[mH])
     go_ret3
     have HE:aE b=([],0,ee):=by rw[HD.out,hdec.out,HS.out,G_ H2.out]
     exact⟨_,by rw[HE];rfl,by rw[HE];exact ap.nil _ _,HB.out.trans (HB2.out.mono HB.out.size)⟩
   ·have he:m-j=0:=by omega
    have j1:¬(j:Int)<m:=by omega
    have HE:Hid (aE b=(acc,pos,0)):=O (by rw[HD.out,hdec.out,he];rfl);have HOWN:=O hown;have HB:=O hb;clear he hlt hj hacc hown hb hpos;go_wp2
    go_ret3
    exact⟨_,by rw[HE.out];rfl,by rw[HE.out];exact HOWN.out,HB.out⟩
 ·have h3:(er != 0)=true:=by simpa using h1
  rw[G_ h1] at HD
  rcases HC.out with⟨hc,_⟩|⟨_,hc⟩
  ·exact absurd hc h1
  rw[hc] at HG;clear h1 hv hc HC
  go_enter Tryz.func99,Tryz.ntmps99
  go_wp2_with (go_at_call 146;refine HG.out.mono ?_;rintro e w1 ⟨rfl,hb1⟩;have HB1:=O hb1;clear hb1;simp only[il])
  go_ret3
  exact⟨_,by rw[HD.out];rfl,by rw[HD.out];exact ap.nil _ _,HB1.out⟩
end
section
namespace Fld
open F6
def dn (p:List UInt8) (x:UInt8) (k:Nat):List UInt8:=tab p.length fun j=>if k<j then byteAt p (j-1) ^^^ mul (byteAt p j) x else byteAt p j
end Fld
end
section
open Go.RowKit
attribute [local irreducible] C3.rounds C3.state C3.blockTo
theorem Gg (x y:UInt32):C3.bytes (x+y)=[x.toUInt8+y.toUInt8,(shr (x+y) 8).toUInt8,(shr (x+y) 16).toUInt8,(shr (x+y) 24).toUInt8]:=by
 rw[←UInt32.toUInt8_add];rfl
theorem cR.drew {w:World} {ai:Nat} {v:Value} {l:List UInt8} (n:Nat) (h:cR w ai v l):cR (w.drewN n) ai v l:=h.below (ak n (O_ _ _))
theorem CE (key nonce:List UInt8) (ctr:UInt32) (hk:key.length=32) (hn:nonce.length=12) (w:World) :
  Calls Tryz.prog 171 #[.string ⟨key.toArray⟩,.int .u32 (W32 ctr),.string ⟨nonce.toArray⟩] w fun e w'=>e = .returned (.tuple #[.string ⟨(C3.block key ctr nonce).toArray⟩,.int .i64 0])∧Below w.heap.size w w':=by
 have hs:=C3.length_state key ctr nonce
 have hr:(C3.rounds (C3.state key ctr nonce) 10).length=16:=by rw[C3.length_rounds,hs]
 rw[wS]
 go_enter Tryz.func171,Tryz.ntmps171
 go_wp2_with (first
  |(go_at_call 170;refine(ym key nonce ctr hk hn _).mono ?_;rintro e w1 ⟨rfl,hb1⟩)
  |(refine gN rfl (.tmp 8) (.tmp 19) rfl _ _ rfl rfl 226 _ (heap_alloc_new _ _) rfl hs ?_)
  |(refine ng rfl (.tmp 8) rfl _ rfl _ 226 (heap_alloc_new _ _) hs ?_)
  |(go_at_call 185;refine(DA _ hs _).mono ?_;rintro e w3 ⟨rfl,hb3⟩)
  |(refine gN rfl (.tmp 10) (.tmp 25) rfl _ _ rfl rfl 226 _ (heap_alloc_new _ _) rfl hr ?_))
 simp only[World.size_alloc] at hb3
 have hz3:w1.heap.size+1≤w3.heap.size:=by have := hb3.size;simpa using this
 have hS:w3.heap[w1.heap.size]?=some (.cells (row (C3.state key ctr nonce)) 226 (0,0)):=by rw[hb3.block _ (by omega)];exact heap_alloc_new _ _
 have hbw:Below w.heap.size w (w3.alloc (.cells (row (C3.rounds (C3.state key ctr nonce) 10)) 226)) :=
  ((hb1.alloc hb1.size _).trans (hb3.mono (by have := hb1.size;omega))).alloc (by have := hb1.size;omega) _
 have hsz1:w.heap.size≤w3.heap.size+1:=by have := hb1.size;omega
 have hlt13:w1.heap.size<w3.heap.size:=by omega
 clear hb3 hb1 hz3;generalize hRq:C3.rounds (C3.state key ctr nonce) 10=R at hr hbw ⊢;generalize hSq:C3.state key ctr nonce=S at hs hS hbw hRq ⊢;have HR:=O hRq;have HS:=O hSq;clear hRq hSq
 go_loopw [12,11] (fun i v wr=>∃k:Nat,k≤16∧i = .int .i64 k∧cR wr (w3.heap.size+1) v (C3.blockTo S R k)∧Below (w3.heap.size+1) (w3.alloc (.cells (row R) 226)) wr) (fun i _ _=>16-(intOf i).toNat)
 case atStart=>exact⟨0,by omega,rfl,by rw[qb];exact cR.nil _ _,O_ _ _⟩
 case round =>
  obtain⟨k,hk16,rfl,ho,hb⟩:=hrel
  by_cases hlt:k<16
  ·have hz:w3.heap.size+1≤wr.heap.size:=by have := hb.size;simpa using this
   have hcS:wr.cell? ⟨w1.heap.size,k,none⟩=some (.int .u32 (W32 (w16 S k))):=by
    rw[hb.cell (p:=⟨w1.heap.size,k,none⟩) (by show w1.heap.size<_;omega),e_ _ _ _ _ _ _ (by rw[bx _ _ _ hlt13];exact hS),l6 _ _ (by rw[hs];omega)]
   have hcR:wr.cell? ⟨w3.heap.size,k,none⟩=some (.int .u32 (W32 (w16 R k))):=by
    rw[hb.cell (p:=⟨w3.heap.size,k,none⟩) (by show w3.heap.size<_;omega),e_ _ _ _ _ _ _ (heap_alloc_new _ _),l6 _ _ (by rw[hr];omega)]
   have hl4:=C3.length_blockTo S R k
   have hki:(k:Int)<16:=by omega
   have HL:=O hl4;have HK:=O hlt;clear hl4;go_wp2
   first |refine fG (by kernel_rfl) (by kernel_rfl) ?_|refine fR (by kernel_rfl) (by kernel_rfl) ?_
   repeat (go_big_quiet_step (fail))
   refine h_ ?_;rintro _ ⟨nq,rfl⟩;have ho2:=ho.drew nq
   go_wp2_with (at_builtin;refine D7 rfl (.tmp 37) (.tmp 49) rfl (w3.heap.size+1) _ _ rfl (World.ownsRow.alloc ho2 _) ⟨wr.heap.size,0,none⟩ 4 4 (C3.bytes (w16 S k+w16 R k)) rfl rfl ?h1 ?h2 ?h3 ?h4)
   case h1 =>
    intro j u hj;rw[Gg] at hj;exact mR _ _ _ _ _ hj
   case h2=>rw[HL.out];have := HK.out;omega
   case h3=>simp;omega
   case h4 =>
    intro v' w' ho' hb';go_wp2;go_roundw
    case rel=>exact⟨k+1,HK.out,by go_num,by rw[p9,UInt32.add_comm];exact ho',(ak nq hb).alloc hz _ |>.trans hb'⟩
    case measure=>have := HK.out;simp[intOf];omega
  ·have he:k=16:=by omega
   have HE:=O he;clear he;have hcv:=qg ho;go_wp2
   go_ret2
   exact⟨by rw[HS.out,HR.out,HE.out];rfl,hbw.trans (hb.mono hsz1)⟩
end
end Go.Proofs.YtmfiaadjdbemnaaGreatDoor
