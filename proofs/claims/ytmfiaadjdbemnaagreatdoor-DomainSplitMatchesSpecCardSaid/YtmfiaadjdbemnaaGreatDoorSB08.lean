/- Contracts and lemmas. No condition. -/
import Derived.Test.YtmfiaadjdbemnaaGreatDoorSB05
import Derived.Deep.CutBlock
import Derived.Lib.Zigzag
import Derived.WalkMore
set_option maxRecDepth 100000
set_option maxHeartbeats 8000000
set_option linter.unusedSimpArgs false
set_option linter.unusedVariables false
namespace Go.Proofs.YtmfiaadjdbemnaaGreatDoor
open Tryz
section
open Go.RowKit
theorem RE (m:Nat) (f:UInt8):bits .xor .u8 ((m:Int) % 256) (B8 f)=B8 (UInt8.ofNat m ^^^ f):=by
 rw[←sj,eF]
theorem Mk (n:Int) (M:Nat) (h0:n<0) (h1 : -9223372036854775808≤n) (hm : -1-n=(M:Int)):bits .xor .u64 IntKind.u64.max (IntKind.u64.wrap n)=(M:Int):=by
 have e1:IntKind.u64.wrap n=(((n+18446744073709551616).toNat:Nat):Int):=by
  rw[IntKind.wrap_u64]
  omega
 have e2:IntKind.u64.max=((2 ^ 64-1:Nat):Int):=by decide
 rw[e1,e2,bits_xor_u64_nat _ _ (by decide) (by omega),Lib.xor_ones64 _ (by omega)]
 omega
theorem OY (w:World) (c:UInt8):ap eB (w.alloc (.cells #[.int .u8 (B8 c)] 5)) w.heap.size (.slice (some ⟨w.heap.size,0,none⟩) 1 1) [c]:=KY c (A_ _)
attribute [local irreducible] Calls
theorem ES (n:Int) (hlo : -9223372036854775808≤n) (hhi:n<9223372036854775808) (w:World) :
  Calls prog 112 #[.int .i64 n] w fun e w'=>∃v',e = .returned v'∧ap eB w' w.heap.size v' (bF n)∧Below w.heap.size w w':=by
 obtain⟨M,F,hM,hE,hs⟩:∃(M:Nat) (F:UInt8),M<18446744073709551616∧bF n=jg M F∧((0≤n∧n=M∧F=0)∨(n<0∧(-1-n)=M∧F=255)):=by
  by_cases h:0≤n
  ·exact⟨n.toNat,0,by omega,by unfold bF;rw[G_ h],.inl ⟨h,by omega,rfl⟩⟩
  ·exact⟨(-1-n).toNat,255,by omega,by unfold bF;rw[H_ h],.inr ⟨by omega,by omega,rfl⟩⟩
 have HE:=O hE;have HM:=O hM;have HLO:=O hlo;obtain⟨MI,hMI⟩:∃MI:Int,MI=(M:Int):=⟨_,rfl⟩;have HMI:=O hMI
 go_enter func112,ntmps112
 go_wp2
 go_step3
 go_upto_if 11 with fail
 go_cut [3,4,11] from 12 to 13 (fun m f _ wc=>m = .int .u64 MI∧f = .int .u8 (B8 F)∧wc=w)
 case first =>
  clear hMI
  rcases hs with⟨h0,h1,rfl⟩|⟨h0,h1,rfl⟩
  ·have e1:n % 18446744073709551616=(M:Int):=by omega
   have i1:¬n<0:=by omega
   have H1:=O h1;clear h1;go_wp2
   all_goals go_meet
   case rel=>exact⟨by rw[IntKind.wrap_u64,e1,HMI.out],rfl,rfl⟩
  ·have e1:18446744073709551615-n % 18446744073709551616=(M:Int):=by omega
   have H1:=O h1;clear h1;go_wp2
   all_goals go_meet
   case rel=>exact⟨by rw[Mk n M h0 HLO.out H1.out,HMI.out],rfl,rfl⟩
 case rest =>
  obtain⟨rfl,rfl,hw⟩:=hcut;rw[hw];clear hw;clear hs hlo hhi
  have mi:MI<18446744073709551616:=by omega
  have m0:(0:Int)≤MI:=by omega
  clear hE hM hMI;go_wp2
  go_step3
  go_upto_block 0 with fail
  go_cut [5] from 14 to 23 (fun o wc=>o = .int .i64 (nb M:Int)∧wc=w)
  case first =>
   go_wp2_with fail
   go_loopw [5] (fun o wr=>∃k:Nat,k≤8∧o = .int .i64 k∧Hid (M<256 ^ k)∧wr=w) (fun o _=>(intOf o).toNat)
   case atStart=>exact⟨8,by omega,rfl,O (by have := HM.out;simpa using this),rfl⟩
   case round =>
    obtain⟨k,hk,rfl,hlt,rfl⟩:=hrel
    rcases (by omega:k=0∨k=1∨k=2∨k=3∨k=4∨k=5∨k=6∨k=7∨k=8) with rfl|rfl|rfl|rfl|rfl|rfl|rfl|rfl|rfl
    ·have hk0:nb M=0:=nh M 0 (by omega) hlt.out (.inl rfl)
     have HK0:=O hk0;clear hk0;go_wp2
     all_goals go_meet
     case rel=>exact⟨by rw[HK0.out],rfl⟩
    ·by_cases hq:1≤M
     ·have i1:0<MI:=by have := HMI.out;omega
      have HK:Hid (nb M=1):=O (nh M 1 (by omega) hlt.out (.inr (by simpa using hq)));clear hq;go_wp2
      all_goals go_meet
      case rel=>exact⟨by rw[HK.out],rfl⟩
     ·have i1:¬0<MI:=by have := HMI.out;omega
      have HK:Hid (M<256 ^ 0):=O (by simp;omega);clear hq;go_wp2;go_roundw
      case rel=>exact⟨0,by decide,by go_num,HK,by first |exact rfl|exact trivial⟩
      case measure=>simp[intOf]
    ·by_cases hq:256≤M
     ·have i1:0<MI / 256:=by have := HMI.out;omega
      have HK:Hid (nb M=2):=O (nh M 2 (by omega) hlt.out (.inr (by simpa using hq)));clear hq;go_wp2
      all_goals go_meet
      case rel=>exact⟨by rw[HK.out],rfl⟩
     ·have i1:¬0<MI / 256:=by have := HMI.out;omega
      have HK:Hid (M<256 ^ 1):=O (by simp;omega);clear hq;go_wp2;go_roundw
      case rel=>exact⟨1,by decide,by go_num,HK,by first |exact rfl|exact trivial⟩
      case measure=>simp[intOf]
    ·by_cases hq:65536≤M
     ·have i1:0<MI / 65536:=by have := HMI.out;omega
      have HK:Hid (nb M=3):=O (nh M 3 (by omega) hlt.out (.inr (by simpa using hq)));clear hq;go_wp2
      all_goals go_meet
      case rel=>exact⟨by rw[HK.out],rfl⟩
     ·have i1:¬0<MI / 65536:=by have := HMI.out;omega
      have HK:Hid (M<256 ^ 2):=O (by simp;omega);clear hq;go_wp2;go_roundw
      case rel=>exact⟨2,by decide,by go_num,HK,by first |exact rfl|exact trivial⟩
      case measure=>simp[intOf]
    ·by_cases hq:16777216≤M
     ·have i1:0<MI / 16777216:=by have := HMI.out;omega
      have HK:Hid (nb M=4):=O (nh M 4 (by omega) hlt.out (.inr (by simpa using hq)));clear hq;go_wp2
      all_goals go_meet
      case rel=>exact⟨by rw[HK.out],rfl⟩
     ·have i1:¬0<MI / 16777216:=by have := HMI.out;omega
      have HK:Hid (M<256 ^ 3):=O (by simp;omega);clear hq;go_wp2;go_roundw
      case rel=>exact⟨3,by decide,by go_num,HK,by first |exact rfl|exact trivial⟩
      case measure=>simp[intOf]
    ·by_cases hq:4294967296≤M
     ·have i1:0<MI / 4294967296:=by have := HMI.out;omega
      have HK:Hid (nb M=5):=O (nh M 5 (by omega) hlt.out (.inr (by simpa using hq)));clear hq;go_wp2
      all_goals go_meet
      case rel=>exact⟨by rw[HK.out],rfl⟩
     ·have i1:¬0<MI / 4294967296:=by have := HMI.out;omega
      have HK:Hid (M<256 ^ 4):=O (by simp;omega);clear hq;go_wp2;go_roundw
      case rel=>exact⟨4,by decide,by go_num,HK,by first |exact rfl|exact trivial⟩
      case measure=>simp[intOf]
    ·by_cases hq:1099511627776≤M
     ·have i1:0<MI / 1099511627776:=by have := HMI.out;omega
      have HK:Hid (nb M=6):=O (nh M 6 (by omega) hlt.out (.inr (by simpa using hq)));clear hq;go_wp2
      all_goals go_meet
      case rel=>exact⟨by rw[HK.out],rfl⟩
     ·have i1:¬0<MI / 1099511627776:=by have := HMI.out;omega
      have HK:Hid (M<256 ^ 5):=O (by simp;omega);clear hq;go_wp2;go_roundw
      case rel=>exact⟨5,by decide,by go_num,HK,by first |exact rfl|exact trivial⟩
      case measure=>simp[intOf]
    ·by_cases hq:281474976710656≤M
     ·have i1:0<MI / 281474976710656:=by have := HMI.out;omega
      have HK:Hid (nb M=7):=O (nh M 7 (by omega) hlt.out (.inr (by simpa using hq)));clear hq;go_wp2
      all_goals go_meet
      case rel=>exact⟨by rw[HK.out],rfl⟩
     ·have i1:¬0<MI / 281474976710656:=by have := HMI.out;omega
      have HK:Hid (M<256 ^ 6):=O (by simp;omega);clear hq;go_wp2;go_roundw
      case rel=>exact⟨6,by decide,by go_num,HK,by first |exact rfl|exact trivial⟩
      case measure=>simp[intOf]
    ·by_cases hq:72057594037927936≤M
     ·have i1:0<MI / 72057594037927936:=by have := HMI.out;omega
      have HK:Hid (nb M=8):=O (nh M 8 (by omega) hlt.out (.inr (by simpa using hq)));clear hq;go_wp2
      all_goals go_meet
      case rel=>exact⟨by rw[HK.out],rfl⟩
     ·have i1:¬0<MI / 72057594037927936:=by have := HMI.out;omega
      have HK:Hid (M<256 ^ 7):=O (by simp;omega);clear hq;go_wp2;go_roundw
      case rel=>exact⟨7,by decide,by go_num,HK,by first |exact rfl|exact trivial⟩
      case measure=>simp[intOf]
  case rest =>
   obtain⟨rfl,rfl⟩:=hcut;have hk8:=lh M;have hx0:=RE (128+nb M) F;rw[Int.natCast_add] at hx0;have h1:=uP M F;generalize hkn:nb M=K at hk8 hx0 h1 ⊢;have HKN:=O hkn;clear hkn
   have hx1:bits .xor .u8 (128+(K:Int)) (B8 F)=B8 (UInt8.ofNat (128+K) ^^^ F):=by
    have e:(((128:Nat):Int)+(K:Int)) % 256=128+(K:Int):=by omega
    rw[e] at hx0;exact hx0
   generalize UInt8.ofNat (128+K) ^^^ F=c0 at hx0 hx1 h1
   have hx2:bits .xor .u8 ((128+(K:Int)) % 256) (B8 F)=B8 c0:=by
    have e:(128+(K:Int)) % 256=128+(K:Int):=by omega
    rw[e];exact hx1
   have H1:=O h1
   have hki:(K:Int)≤8:=by omega
   clear hx0 h1;have HO:Hid (ap eB (wc.alloc (.cells #[.int .u8 (B8 c0)] 5)) wc.heap.size (.slice (some ⟨wc.heap.size,0,none⟩) 1 1) [c0]):=O (OY wc c0);go_wp2
   go_loopw [7,6] (fun o u wr=>∃r:Nat,r≤K∧o = .int .i64 ((r:Int)-1)∧(∃a cap,u = .slice a (1+(K-r)) cap)∧Hid (ap eB wr wc.heap.size u ((jg M F).take (1+(K-r))))∧Hid (Below wc.heap.size wc wr)) (fun o _ _=>(intOf o+1).toNat)
   case atStart=>exact⟨K,A_ _,rfl,⟨_,_,by rw[Nat.sub_self]⟩,O (by rw[Nat.sub_self,H1.out];exact HO.out),O ((O_ _ _).alloc (A_ _) _)⟩
   case round =>
    obtain⟨r,hr,rfl,⟨a,cap,rfl⟩,hown,hb⟩:=hrel;clear hx1 hx2;have HW:=O hb.out.size
    rcases (by omega:r=0∨r=1∨r=2∨r=3∨r=4∨r=5∨r=6∨r=7∨r=8) with rfl|rfl|rfl|rfl|rfl|rfl|rfl|rfl|rfl
    ·have HR:Hid (ap eB wr wc.heap.size (.slice a (1+(K-0)) cap) (jg M F)):=O (by have h:=hown.out;rw[←HKN.out,xk] at h;rw[←HKN.out];exact h)
     clear hr;go_wp2;rw[Exit.noGoto_ret];go_ret;exact⟨_,rfl,by rw[HE.out];exact HR.out,hb.out⟩
    ·have et:=fT M F 1 (by omega) (by rw[HKN.out];exact hr)
     rw[HKN.out] at et
     have ev:MI % 256=B8 (UInt8.ofNat (M / 256 ^ (1-1))):=by rw[eF];have := HMI.out;simp;omega
     skip
     generalize hc:UInt8.ofNat (M / 256 ^ (1-1))=c at et ev;have em:B8 c % 256=B8 c:=cI c;have ET:=O et;have HR:=O hr;clear et hc hr
     go_wp2_with (at_builtin;go_loud (refine br aN rfl (.tmp 36) (.tmp 44) rfl wc.heap.size _ _ rfl (hown.out.on ((O_ _ _).alloc (A_ _) _)) (.slice (some ⟨wr.heap.size,0,none⟩) 1 1) [c ^^^ F] rfl (bP wr (c ^^^ F) aN) (by rw[b_,bZ];have := lh M;simp;omega) (by have := HW.out;simp;omega) ?_);intro v5 w4 ho4 hg4 hloc;have HB4:=O (hb.out.trans (((O_ wr.heap.size wr).alloc (A_ _) (.cells #[.int .u8 (B8 (c ^^^ F))] 5)).mono HW.out |>.trans ((hown.out.on ((O_ _ _).alloc (A_ _) _)).below hg4 (by have := HW.out;simp;omega))));have HO4:=O ho4;clear ho4 hg4 hloc)
     go_roundw
     case rel=>exact⟨0,by have := HR.out;omega,by first |rfl|go_num,HO4.out.rd.form1 (by have := HR.out;have := HKN.out;rw[E_,b_,bZ];simp;omega),O (by have h:=HO4.out;rw[←ET.out] at h;exact h),HB4⟩
     case measure=>simp[intOf]
    ·have et:=fT M F 2 (by omega) (by rw[HKN.out];exact hr)
     rw[HKN.out] at et
     have ev:MI / 256 % 256=B8 (UInt8.ofNat (M / 256 ^ (2-1))):=by rw[eF];have := HMI.out;simp;omega
     skip
     generalize hc:UInt8.ofNat (M / 256 ^ (2-1))=c at et ev;have em:B8 c % 256=B8 c:=cI c;have ET:=O et;have HR:=O hr;clear et hc hr
     go_wp2_with (at_builtin;go_loud (refine br aN rfl (.tmp 36) (.tmp 44) rfl wc.heap.size _ _ rfl (hown.out.on ((O_ _ _).alloc (A_ _) _)) (.slice (some ⟨wr.heap.size,0,none⟩) 1 1) [c ^^^ F] rfl (bP wr (c ^^^ F) aN) (by rw[b_,bZ];have := lh M;simp;omega) (by have := HW.out;simp;omega) ?_);intro v5 w4 ho4 hg4 hloc;have HB4:=O (hb.out.trans (((O_ wr.heap.size wr).alloc (A_ _) (.cells #[.int .u8 (B8 (c ^^^ F))] 5)).mono HW.out |>.trans ((hown.out.on ((O_ _ _).alloc (A_ _) _)).below hg4 (by have := HW.out;simp;omega))));have HO4:=O ho4;clear ho4 hg4 hloc)
     go_roundw
     case rel=>exact⟨1,by have := HR.out;omega,by first |rfl|go_num,HO4.out.rd.form1 (by have := HR.out;have := HKN.out;rw[E_,b_,bZ];simp;omega),O (by have h:=HO4.out;rw[←ET.out] at h;exact h),HB4⟩
     case measure=>simp[intOf]
    ·have et:=fT M F 3 (by omega) (by rw[HKN.out];exact hr)
     rw[HKN.out] at et
     have ev:MI / 65536 % 256=B8 (UInt8.ofNat (M / 256 ^ (3-1))):=by rw[eF];have := HMI.out;simp;omega
     skip
     generalize hc:UInt8.ofNat (M / 256 ^ (3-1))=c at et ev;have em:B8 c % 256=B8 c:=cI c;have ET:=O et;have HR:=O hr;clear et hc hr
     go_wp2_with (at_builtin;go_loud (refine br aN rfl (.tmp 36) (.tmp 44) rfl wc.heap.size _ _ rfl (hown.out.on ((O_ _ _).alloc (A_ _) _)) (.slice (some ⟨wr.heap.size,0,none⟩) 1 1) [c ^^^ F] rfl (bP wr (c ^^^ F) aN) (by rw[b_,bZ];have := lh M;simp;omega) (by have := HW.out;simp;omega) ?_);intro v5 w4 ho4 hg4 hloc;have HB4:=O (hb.out.trans (((O_ wr.heap.size wr).alloc (A_ _) (.cells #[.int .u8 (B8 (c ^^^ F))] 5)).mono HW.out |>.trans ((hown.out.on ((O_ _ _).alloc (A_ _) _)).below hg4 (by have := HW.out;simp;omega))));have HO4:=O ho4;clear ho4 hg4 hloc)
     go_roundw
     case rel=>exact⟨2,by have := HR.out;omega,by first |rfl|go_num,HO4.out.rd.form1 (by have := HR.out;have := HKN.out;rw[E_,b_,bZ];simp;omega),O (by have h:=HO4.out;rw[←ET.out] at h;exact h),HB4⟩
     case measure=>simp[intOf]
    ·have et:=fT M F 4 (by omega) (by rw[HKN.out];exact hr)
     rw[HKN.out] at et
     have ev:MI / 16777216 % 256=B8 (UInt8.ofNat (M / 256 ^ (4-1))):=by rw[eF];have := HMI.out;simp;omega
     skip
     generalize hc:UInt8.ofNat (M / 256 ^ (4-1))=c at et ev;have em:B8 c % 256=B8 c:=cI c;have ET:=O et;have HR:=O hr;clear et hc hr
     go_wp2_with (at_builtin;go_loud (refine br aN rfl (.tmp 36) (.tmp 44) rfl wc.heap.size _ _ rfl (hown.out.on ((O_ _ _).alloc (A_ _) _)) (.slice (some ⟨wr.heap.size,0,none⟩) 1 1) [c ^^^ F] rfl (bP wr (c ^^^ F) aN) (by rw[b_,bZ];have := lh M;simp;omega) (by have := HW.out;simp;omega) ?_);intro v5 w4 ho4 hg4 hloc;have HB4:=O (hb.out.trans (((O_ wr.heap.size wr).alloc (A_ _) (.cells #[.int .u8 (B8 (c ^^^ F))] 5)).mono HW.out |>.trans ((hown.out.on ((O_ _ _).alloc (A_ _) _)).below hg4 (by have := HW.out;simp;omega))));have HO4:=O ho4;clear ho4 hg4 hloc)
     go_roundw
     case rel=>exact⟨3,by have := HR.out;omega,by first |rfl|go_num,HO4.out.rd.form1 (by have := HR.out;have := HKN.out;rw[E_,b_,bZ];simp;omega),O (by have h:=HO4.out;rw[←ET.out] at h;exact h),HB4⟩
     case measure=>simp[intOf]
    ·have et:=fT M F 5 (by omega) (by rw[HKN.out];exact hr)
     rw[HKN.out] at et
     have ev:MI / 4294967296 % 256=B8 (UInt8.ofNat (M / 256 ^ (5-1))):=by rw[eF];have := HMI.out;simp;omega
     skip
     generalize hc:UInt8.ofNat (M / 256 ^ (5-1))=c at et ev;have em:B8 c % 256=B8 c:=cI c;have ET:=O et;have HR:=O hr;clear et hc hr
     go_wp2_with (at_builtin;go_loud (refine br aN rfl (.tmp 36) (.tmp 44) rfl wc.heap.size _ _ rfl (hown.out.on ((O_ _ _).alloc (A_ _) _)) (.slice (some ⟨wr.heap.size,0,none⟩) 1 1) [c ^^^ F] rfl (bP wr (c ^^^ F) aN) (by rw[b_,bZ];have := lh M;simp;omega) (by have := HW.out;simp;omega) ?_);intro v5 w4 ho4 hg4 hloc;have HB4:=O (hb.out.trans (((O_ wr.heap.size wr).alloc (A_ _) (.cells #[.int .u8 (B8 (c ^^^ F))] 5)).mono HW.out |>.trans ((hown.out.on ((O_ _ _).alloc (A_ _) _)).below hg4 (by have := HW.out;simp;omega))));have HO4:=O ho4;clear ho4 hg4 hloc)
     go_roundw
     case rel=>exact⟨4,by have := HR.out;omega,by first |rfl|go_num,HO4.out.rd.form1 (by have := HR.out;have := HKN.out;rw[E_,b_,bZ];simp;omega),O (by have h:=HO4.out;rw[←ET.out] at h;exact h),HB4⟩
     case measure=>simp[intOf]
    ·have et:=fT M F 6 (by omega) (by rw[HKN.out];exact hr)
     rw[HKN.out] at et
     have ev:MI / 1099511627776 % 256=B8 (UInt8.ofNat (M / 256 ^ (6-1))):=by rw[eF];have := HMI.out;simp;omega
     skip
     generalize hc:UInt8.ofNat (M / 256 ^ (6-1))=c at et ev;have em:B8 c % 256=B8 c:=cI c;have ET:=O et;have HR:=O hr;clear et hc hr
     go_wp2_with (at_builtin;go_loud (refine br aN rfl (.tmp 36) (.tmp 44) rfl wc.heap.size _ _ rfl (hown.out.on ((O_ _ _).alloc (A_ _) _)) (.slice (some ⟨wr.heap.size,0,none⟩) 1 1) [c ^^^ F] rfl (bP wr (c ^^^ F) aN) (by rw[b_,bZ];have := lh M;simp;omega) (by have := HW.out;simp;omega) ?_);intro v5 w4 ho4 hg4 hloc;have HB4:=O (hb.out.trans (((O_ wr.heap.size wr).alloc (A_ _) (.cells #[.int .u8 (B8 (c ^^^ F))] 5)).mono HW.out |>.trans ((hown.out.on ((O_ _ _).alloc (A_ _) _)).below hg4 (by have := HW.out;simp;omega))));have HO4:=O ho4;clear ho4 hg4 hloc)
     go_roundw
     case rel=>exact⟨5,by have := HR.out;omega,by first |rfl|go_num,HO4.out.rd.form1 (by have := HR.out;have := HKN.out;rw[E_,b_,bZ];simp;omega),O (by have h:=HO4.out;rw[←ET.out] at h;exact h),HB4⟩
     case measure=>simp[intOf]
    ·have et:=fT M F 7 (by omega) (by rw[HKN.out];exact hr)
     rw[HKN.out] at et
     have ev:MI / 281474976710656 % 256=B8 (UInt8.ofNat (M / 256 ^ (7-1))):=by rw[eF];have := HMI.out;simp;omega
     skip
     generalize hc:UInt8.ofNat (M / 256 ^ (7-1))=c at et ev;have em:B8 c % 256=B8 c:=cI c;have ET:=O et;have HR:=O hr;clear et hc hr
     go_wp2_with (at_builtin;go_loud (refine br aN rfl (.tmp 36) (.tmp 44) rfl wc.heap.size _ _ rfl (hown.out.on ((O_ _ _).alloc (A_ _) _)) (.slice (some ⟨wr.heap.size,0,none⟩) 1 1) [c ^^^ F] rfl (bP wr (c ^^^ F) aN) (by rw[b_,bZ];have := lh M;simp;omega) (by have := HW.out;simp;omega) ?_);intro v5 w4 ho4 hg4 hloc;have HB4:=O (hb.out.trans (((O_ wr.heap.size wr).alloc (A_ _) (.cells #[.int .u8 (B8 (c ^^^ F))] 5)).mono HW.out |>.trans ((hown.out.on ((O_ _ _).alloc (A_ _) _)).below hg4 (by have := HW.out;simp;omega))));have HO4:=O ho4;clear ho4 hg4 hloc)
     go_roundw
     case rel=>exact⟨6,by have := HR.out;omega,by first |rfl|go_num,HO4.out.rd.form1 (by have := HR.out;have := HKN.out;rw[E_,b_,bZ];simp;omega),O (by have h:=HO4.out;rw[←ET.out] at h;exact h),HB4⟩
     case measure=>simp[intOf]
    ·have et:=fT M F 8 (by omega) (by rw[HKN.out];exact hr)
     rw[HKN.out] at et
     have ev:MI / 72057594037927936 % 256=B8 (UInt8.ofNat (M / 256 ^ (8-1))):=by rw[eF];have := HMI.out;simp;omega
     have ev0:MI / 72057594037927936=B8 (UInt8.ofNat (M / 256 ^ (8-1))):=by rw[←ev];omega
     generalize hc:UInt8.ofNat (M / 256 ^ (8-1))=c at et ev ev0;have em:B8 c % 256=B8 c:=cI c;have ET:=O et;have HR:=O hr;clear et hc hr
     go_wp2_with (at_builtin;go_loud (refine br aN rfl (.tmp 36) (.tmp 44) rfl wc.heap.size _ _ rfl (hown.out.on ((O_ _ _).alloc (A_ _) _)) (.slice (some ⟨wr.heap.size,0,none⟩) 1 1) [c ^^^ F] rfl (bP wr (c ^^^ F) aN) (by rw[b_,bZ];have := lh M;simp;omega) (by have := HW.out;simp;omega) ?_);intro v5 w4 ho4 hg4 hloc;have HB4:=O (hb.out.trans (((O_ wr.heap.size wr).alloc (A_ _) (.cells #[.int .u8 (B8 (c ^^^ F))] 5)).mono HW.out |>.trans ((hown.out.on ((O_ _ _).alloc (A_ _) _)).below hg4 (by have := HW.out;simp;omega))));have HO4:=O ho4;clear ho4 hg4 hloc)
     go_roundw
     case rel=>exact⟨7,by have := HR.out;omega,by first |rfl|go_num,HO4.out.rd.form1 (by have := HR.out;have := HKN.out;rw[E_,b_,bZ];simp;omega),O (by have h:=HO4.out;rw[←ET.out] at h;exact h),HB4⟩
     case measure=>simp[intOf]
end
section
open Go.RowKit
attribute [local irreducible] Calls
theorem lG (s:List UInt8) (w:World) (hl:s.length≤100000000) :
  Calls prog 68 #[.string ⟨s.toArray⟩] w fun e w'=>∃v',e = .returned v'∧ap eB w' w.heap.size v' (aV s)∧Below w.heap.size w w':=by
 have HL:=O hl;clear hl
 go_enter func68,ntmps68
 go_wp2_with (first
  |(go_at_call 112;refine(ES (s.length:Int) (by omega) (by have := HL.out;omega) _).mono ?_;rintro e w1 ⟨v1,rfl,ho1,hb1⟩;have HO1:=O ho1;have HB1:=O hb1;clear ho1 hb1)
  |(at_builtin;refine D8 rfl (.tmp 5) (.tmp 6) rfl w.heap.size _ (bF (s.length:Int)) rfl HO1.out s rfl (by have := HL.out;have := cg (s.length:Int);omega) HB1.out.size ?_;intro v2 w2 ho2 hg2;have HB2:=O (HB1.out.trans (HO1.out.below hg2 HB1.out.size));have HO2:=O ho2;clear ho2 hg2))
 go_ret;exact⟨_,rfl,HO2.out,HB2.out⟩
end
end Go.Proofs.YtmfiaadjdbemnaaGreatDoor
