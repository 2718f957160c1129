/- Contracts and lemmas. No condition. -/
import Derived.Test.YtmfiaadjdbemnaaGreatDoorLFound04
import Derived.Test.YtmfiaadjdbemnaaGreatDoorLFound03
set_option maxRecDepth 100000
set_option maxHeartbeats 8000000
set_option linter.unusedSimpArgs false
set_option linter.unusedVariables false
namespace Go.Proofs.YtmfiaadjdbemnaaGreatDoor
open Go.Proofs.Tryz
section
open Go.RowKit
attribute [local irreducible] Calls brow sha
theorem rz (l:List UInt8) (hl:l.length=32) (w:World):Calls prog 160 #[.agg (brow l)] w fun e w'=>e = .returned (.string ⟨l.toArray⟩)∧Below w.heap.size w w':=by
 have HL:=O hl;have HG:Hid ((w.alloc (.cells (brow l) 139)).heap[w.heap.size]?=some (.cells (brow l) 139 (0,0))):=O (al _ _ _ rfl);have HB:Hid (Below w.heap.size w (w.alloc (.cells (brow l) 139))):=O ((O_ _ _).alloc (A_ _) _);have hbx:=ir l hl
 go_enter func160,ntmps160
 go_upto_region 3 with fail
 go_loopw [4,3] (fun o u wr=>∃i:Nat,i≤32∧o = .int .i64 i∧(∃a cap,u = .slice a i cap)∧Hid (ap eB wr (w.heap.size+1) u (l.take i))∧Hid (wr.heap[w.heap.size]?=some (.cells (brow l) 139 (0,0)))∧Hid (Below w.heap.size w wr)) (fun o _ _=>32-(intOf o).toNat)
 case atStart=>exact⟨0,by omega,rfl,⟨_,_,rfl⟩,O (by rw[c_];exact ap.nil _ _),HG,HB⟩
 case round =>
  obtain⟨i,hi,rfl,⟨a,cap,rfl⟩,hown,hg,hb⟩:=hrel;clear HG HB;have HW:Hid (w.heap.size+1≤wr.heap.size):=O (Q_.1 hg.out).1
  by_cases h32:i<32
  ·have hd:decide ((i:Int)<32)=true:=by simp;omega
   have hcell:=e_ _ _ i _ _ _ hg.out;rw[nH _ _ (by rw[hl];exact h32)] at hcell
   have et:l.take (i+1)=l.take i++[byteAt l i]:=by rw[List.take_add_one,K_ (by omega),wT l i (by omega)];rfl
   have ET:=O et;generalize byteAt l i=c at hcell et ET;have HI:=O h32;clear et hi
   go_wp2_with (at_builtin;refine br aN rfl (.tmp 9) (.tmp 13) rfl (w.heap.size+1) _ _ rfl (hown.out.on ((O_ _ _).alloc (A_ _) _)) (.slice (some ⟨wr.heap.size,0,none⟩) 1 1) [c] rfl (bP wr c aN) (by rw[b_,HL.out];simp;omega) (by have := HW.out;simp;omega) ?_;intro v5 w4 ho4 hg4 hloc;have HB4:=O (((O_ wr.heap.size wr).alloc (A_ _) (.cells #[.int .u8 (B8 c)] 5)).mono HW.out |>.trans ((hown.out.on ((O_ _ _).alloc (A_ _) _)).below hg4 (by have := HW.out;simp;omega)));have HO4:=O ho4;clear ho4 hg4 hloc)
   go_roundw
   case rel=>exact⟨i+1,HI.out,by go_num,HO4.out.rd.form1 (by rw[E_,b_,HL.out];have := HI.out;simp;omega),O (by rw[ET.out];exact HO4.out),O (by rw[HB4.out.block _ (by omega)];exact hg.out),O (hb.out.trans (HB4.out.mono (by omega)))⟩
   case measure=>have := HI.out;simp[intOf];omega
  ·have he:i=32:=by omega
   subst he
   have hd:decide (((32:Nat):Int)<32)=false:=by decide
   have hcv:=b6 hown.out.rd;rw[Y_ (by omega)] at hcv;clear h32 hi;go_wp2;go_ret;exact⟨rfl,hb.out⟩
theorem BG (k:List UInt8) (c:UInt8) (w:World) (hk:cA w) (hl:k.length≤400000) :
  Calls prog 159 #[.string ⟨k.toArray⟩,.int .u8 (B8 c)] w fun e w'=>∃v',e = .returned v'∧ap eB w' w.heap.size v' (eC (bK k) c)∧Below w.heap.size w w':=by
 have HL:=O hl;have HK:=O hk;clear hl hk
 go_enter func159,ntmps159
 go_upto_if 12 with fail
 go_cut [5,12] from 13 to 16 (fun s _ wc=>s = .string ⟨(bK k).toArray⟩∧Hid (Below w.heap.size w wc))
 case first =>
  by_cases h64:k.length≤64
  ·have i1:¬(64:Int)<k.length:=by omega
   have hs:bK k=k:=by unfold bK;rw[G_ h64]
   go_wp2
   all_goals go_meet
   case rel=>exact⟨by rw[hs],O (O_ _ _)⟩
  ·have i1:(64:Int)<k.length:=by omega
   have HS:Hid (bK k=sha k):=O (by unfold bK;rw[H_ h64]);have hcv:=cw w k;have HSB:=O (bU w k);have HRD:=O (fo w k (by have := HL.out;unfold maxLen;omega));generalize Lib.bytesWorld w 5 ⟨k.toArray⟩=ws at hcv HSB HRD
   go_wp2_with (first
    |(go_at_call 115;refine(FC _ k _ HRD.out (HK.out.on HSB.out) HL.out).mono ?_;rintro e w1 ⟨rfl,hb1⟩;have HB1:=O ((HSB.out).trans (hb1.mono HSB.out.size));clear hb1)
    |(go_at_call 160;refine(rz (sha k) (ew k) _).mono ?_;rintro e w2 ⟨rfl,hb2⟩;have HB2:=O ((HB1.out).trans (hb2.mono HB1.out.size));clear hb2))
   go_meet
   case rel=>exact⟨by rw[HS.out],HB2⟩
 case rest =>
  obtain⟨rfl,hbc⟩:=hcut;have HPL:Hid ((bK k).length≤64):=O (by unfold bK;split;assumption;rw[ew];omega);generalize hsk:bK k=sk at HPL ⊢;have HSK:=O hsk;clear hsk;have hpl:=HPL.out
  have hpi:(sk.length:Int)≤64:=by omega
  go_wp2
  go_loopw [7,6] (fun o u wr=>∃i:Nat,i≤64∧o = .int .i64 i∧(∃a cap,u = .slice a i cap)∧Hid (ap eB wr w.heap.size u ((eC sk c).take i))∧Hid (Below w.heap.size w wr)) (fun o _ _=>64-(intOf o).toNat)
  case atStart=>exact⟨0,by omega,rfl,⟨_,_,rfl⟩,O (by rw[c_];exact ap.nil _ _),hbc⟩
  case round =>
   obtain⟨i,hi,rfl,⟨a,cap,rfl⟩,hown,hb⟩:=hrel;have HW:=O hb.out.size
   by_cases h64:i<64
   ·have hd:decide ((i:Int)<64)=true:=by simp;omega
    have et:(eC sk c).take (i+1)=(eC sk c).take i++[byteAt sk i ^^^ c]:=by
     have hp:(eC sk c)[i]?=some (byteAt sk i ^^^ c):=by
      unfold eC;rw[List.getElem?_map,List.getElem?_range h64]
      rfl
     rw[List.take_add_one,hp]
     rfl
    have ET:=O et;have HI:=O h64;clear et hi
    by_cases hik:i<sk.length
    ·have i2:(i:Int)<sk.length:=by omega
     have i3:i<(ByteArray.mk sk.toArray).size:=hik
     go_wp2_with (at_builtin;refine br aN rfl (.tmp 28) (.tmp 32) rfl w.heap.size _ _ rfl (hown.out.on ((O_ _ _).alloc (A_ _) _)) (.slice (some ⟨wr.heap.size,0,none⟩) 1 1) [byteAt sk i ^^^ c] rfl (bP wr (byteAt sk i ^^^ c) aN) (by rw[b_,cl];simp;omega) (by have := HW.out;simp;omega) ?_;intro v5 w4 ho4 hg4 hloc;have HB4:=O (hb.out.trans (((O_ wr.heap.size wr).alloc (A_ _) (.cells #[.int .u8 (B8 (byteAt sk i ^^^ c))] 5)).mono HW.out |>.trans ((hown.out.on ((O_ _ _).alloc (A_ _) _)).below hg4 (by have := HW.out;simp;omega))));have HO4:=O ho4;clear ho4 hg4 hloc)
     go_roundw
     case rel=>exact⟨i+1,HI.out,by go_num,HO4.out.rd.form1 (by rw[E_,b_,cl];have := HI.out;simp;omega),O (by rw[ET.out];exact HO4.out),HB4⟩
     case measure=>have := HI.out;simp[intOf];omega
    ·have i2:¬(i:Int)<sk.length:=by omega
     have hz:byteAt sk i=0:=by unfold byteAt;rw[I_,List.getElem?_eq_none (by omega)];rfl
     have hx:bits .xor .u8 0 (B8 c)=B8 (0 ^^^ c):=sj 0 c;rw[hz] at ET;generalize (0 ^^^ c:UInt8)=d at ET hx;clear hz
     go_wp2_with (at_builtin;refine br aN rfl (.tmp 28) (.tmp 32) rfl w.heap.size _ _ rfl (hown.out.on ((O_ _ _).alloc (A_ _) _)) (.slice (some ⟨wr.heap.size,0,none⟩) 1 1) [d] rfl (bP wr d aN) (by rw[b_,cl];simp;omega) (by have := HW.out;simp;omega) ?_;intro v5 w4 ho4 hg4 hloc;have HB4:=O (hb.out.trans (((O_ wr.heap.size wr).alloc (A_ _) (.cells #[.int .u8 (B8 d)] 5)).mono HW.out |>.trans ((hown.out.on ((O_ _ _).alloc (A_ _) _)).below hg4 (by have := HW.out;simp;omega))));have HO4:=O ho4;clear ho4 hg4 hloc)
     go_roundw
     case rel=>exact⟨i+1,HI.out,by go_num,HO4.out.rd.form1 (by rw[E_,b_,cl];have := HI.out;simp;omega),O (by rw[ET.out];exact HO4.out),HB4⟩
     case measure=>have := HI.out;simp[intOf];omega
   ·have he:i=64:=by omega
    subst he
    have hd:decide (((64:Nat):Int)<64)=false:=by decide
    have HR:Hid (ap eB wr w.heap.size (.slice a 64 cap) (eC sk c)):=O (by have h:=hown.out;rw[Y_ (Nat.le_of_eq (cl sk c))] at h;exact h);clear h64 hi;go_wp2;go_ret;exact⟨_,rfl,by rw[HSK.out];exact HR.out,hb.out⟩
theorem Bs (k t:List UInt8) (w:World) (hk:cA w) (hl:k.length≤400000) (ht:t.length≤300000) :
  Calls prog 113 #[.string ⟨k.toArray⟩,.string ⟨t.toArray⟩] w fun e w'=>e = .returned (.string ⟨(mac k t).toArray⟩)∧Below w.heap.size w w':=by
 have HL:=O hl;have HT:=O ht;have HK:=O hk;have hm:mac k t=sha (eC (bK k) 92++sha (eC (bK k) 54++t)):=rfl;have HM:=O hm;clear hl hk ht hm
 go_enter func113,ntmps113
 have tok1:True:=trivial;have tok2:True:=trivial;have tok3:True:=trivial;have tok4:True:=trivial
 go_wp2_with (first
  |(go_at_call 159;clear tok1;refine(BG k 54 _ HK.out HL.out).mono ?_;rintro e w1 ⟨v1,rfl,ho1,hb1⟩;have HO1:=O ho1;have HB1:=O hb1;clear ho1 hb1)
  |(at_builtin;clear tok2;refine D8 rfl (.tmp 9) (.tmp 10) rfl w.heap.size _ (eC (bK k) 54) rfl HO1.out t rfl (by rw[cl];have := HT.out;omega) HB1.out.size ?_;intro v2 w2 ho2 hg2;have HB2:=O (HB1.out.trans (HO1.out.below hg2 HB1.out.size));have HO2:=O ho2;clear ho2 hg2)
  |(go_at_call 159;clear tok3;refine(BG k 92 _ (HK.out.on HB2.out) HL.out).mono ?_;rintro e w3 ⟨v3,rfl,ho3,hb3⟩;have HO3:=O ho3;have HI3:=O ((HO2.out.on hb3).rd);have HB3:=O (HB2.out.trans (hb3.mono HB2.out.size));have HW3:=O hb3.size;clear ho3 hb3)
  |(go_at_call 115;clear tok4;refine(FC _ (eC (bK k) 54++t) _ HI3.out (HK.out.on HB3.out) (by rw[E_,cl];have := HT.out;omega)).mono ?_;rintro e w4 ⟨rfl,hb4⟩;have HB4:=O (HB3.out.trans (hb4.mono HB3.out.size));have HO4:=O (HO3.out.on hb4);have HW4:=O (M_ HW3.out hb4.size);clear hb4;generalize hinn:sha (eC (bK k) 54++t)=inn;have HIN:=O hinn;have HIL:Hid (inn.length=32):=(O (by rw[←hinn];exact ew _));clear hinn)
  |(go_at_call 160;refine(rz inn HIL.out _).mono ?_;rintro e w5 ⟨rfl,hb5⟩;have HB5:=O (HB4.out.trans (hb5.mono HB4.out.size));have HO5:=O (HO4.out.on hb5);have HW5:=O (M_ HW4.out hb5.size);clear hb5)
  |(at_builtin;refine D8 rfl (.tmp 14) (.tmp 17) rfl w2.heap.size _ (eC (bK k) 92) rfl HO5.out inn rfl (by rw[cl,HIL.out];decide) HW5.out ?_;intro v6 w6 ho6 hg6;have HB6:=O (HB5.out.trans ((HO5.out.below hg6 HW5.out).mono HB2.out.size));have HO6:=O ho6;clear ho6 hg6)
  |(go_at_call 115;refine(FC _ (eC (bK k) 92++inn) _ HO6.out.rd (HK.out.on HB6.out) (by rw[E_,cl,HIL.out];decide)).mono ?_;rintro e w7 ⟨rfl,hb7⟩;have HB7:=O (HB6.out.trans (hb7.mono HB6.out.size));clear hb7;generalize hout:sha (eC (bK k) 92++inn)=out;have HOU:=O hout;have HOL:Hid (out.length=32):=(O (by rw[←hout];exact ew _));clear hout)
  |(go_at_call 160;refine(rz out HOL.out _).mono ?_;rintro e w8 ⟨rfl,hb8⟩;have HB8:=O (HB7.out.trans (hb8.mono HB7.out.size));clear hb8))
 go_ret;exact⟨by rw[HM.out,HIN.out,HOU.out];rfl,HB8.out⟩
end
section
open Go.RowKit
attribute [local irreducible] Calls
theorem Cw (c:UInt8):255-B8 c=B8 (c ^^^ 255):=by
 rw[←T5];unfold B8;have h:=c.toNat_lt;rw[UInt8.toNat_sub]
 show (255:Int)-(c.toNat:Int)=((2 ^ 8-c.toNat+255) % 2 ^ 8:Nat)
 omega
theorem V6 (M j:Nat):((M / 256 ^ j:Nat):Int) % 256=B8 (UInt8.ofNat (M / 256 ^ j)):=by rw[eF]
theorem Bj (n : Int) (hlo : -9223372036854775808 ≤ n) (hhi : n < 9223372036854775808) (w : World) :
  Calls prog 132 #[.int .i64 n] w fun e w'=>∃v',e = .returned v'∧ap eB w' w.heap.size v' (bF n)∧Below w.heap.size w w':=by
 obtain⟨M,F,hM,hE,hs⟩:∃(M:Nat) (F:UInt8),M<9223372036854775808∧bF n=jg M F∧((0≤n∧n=M∧F=0)∨(n<0∧(-1-n)=M∧F=255)):=by
  by_cases h:0≤n
  ·exact⟨n.toNat,0,by omega,by unfold bF;rw[G_ h],.inl ⟨h,by omega,rfl⟩⟩
  ·exact⟨(-1-n).toNat,255,by omega,by unfold bF;rw[H_ h],.inr ⟨by omega,by omega,rfl⟩⟩
 have HE:=O hE;have HM:=O hM;have HS:=O hs
 go_enter func132,ntmps132
 go_upto_if 11 with fail
 go_cut [3,11] from 12 to 13 (fun m _ wc=>m = .int .i64 (M:Int)∧wc=w)
 case first =>
  rcases hs with⟨h0,h1,rfl⟩|⟨h0,h1,rfl⟩
  ·have i1:¬n<0:=by omega
   have H1:=O h1;clear h1;go_wp2
   all_goals go_meet
   case rel=>exact⟨by rw[H1.out],rfl⟩
  ·have H1:=O h1
   have e1:IntKind.i64.wrap (-1-n) = -1-n:=by rw[IntKind.wrap_i64];omega
   clear h1;go_wp2
   all_goals go_meet
   case rel=>exact⟨by rw[H1.out],rfl⟩
 case rest =>
  obtain⟨rfl,hw⟩:=hcut;rw[hw];clear hw hs hE;go_wp2
  go_loopw [3,4] (fun o u wr=>∃j:Nat,(j=0∨256 ^ (j-1)≤M)∧(∃x:Int,o = .int .i64 x∧Hid (x=((M / 256 ^ j:Nat):Int)))∧(∃a cap,u = .slice a j cap)∧Hid (ap eB wr w.heap.size u (leN M j))∧Hid (Below w.heap.size w wr)) (fun o _ _=>(intOf o).toNat)
  case atStart=>exact⟨0,.inl rfl,⟨_,rfl,O (by simp)⟩,⟨_,_,rfl⟩,O (ap.nil _ _),O (O_ _ _)⟩
  case round =>
   obtain⟨j,hj,⟨x,rfl,hx⟩,⟨a,cap,rfl⟩,hown,hb⟩:=hrel;have HJ:=O hj;have HX0:=hx.out;have HW:=O hb.out.size
   have hj8:j≤8:=by
    rcases hj with rfl|hj
    ·omega
    ·rcases Nat.lt_or_ge 8 j with h|h
     ·exfalso
      have h1:256 ^ 8≤256 ^ (j-1):=Nat.pow_le_pow_right (by decide) (by omega)
      have h2:(256:Nat) ^ 8=18446744073709551616:=by decide
      omega
     ·exact h
   have HJ8:=O hj8;have hdn:=Ju M j;have hlb:=V6 M j;have hln:=Ko M j;have hqm:M / 256 ^ j≤M:=Nat.div_le_self _ _;rw[←HX0] at hlb;generalize hq:M / 256 ^ j=q at hdn hln hqm HX0;have HXQ:=O HX0;have HQ:=O hq;generalize hc:UInt8.ofNat (M / 256 ^ j)=c at hlb
   have hc2:UInt8.ofNat q=c:=by rw[←hq];exact hc
   rw[hc2] at hln;clear hj hq hc hc2
   by_cases h0:0<q
   ·have i1:(0:Int)<x:=by omega
    have hqi:x<9223372036854775808:=by omega
    have hqd:Hid (x / 256=((q / 256:Nat):Int)):=O (by omega);have em:B8 c % 256=B8 c:=cI c;have HDN:=O hdn;have HLN:=O hln;have HP:=O h0;clear hdn hln hqm hM h0 hj8 HX0
    go_wp2_with (at_builtin;go_loud (refine br aN rfl (.tmp 16) (.tmp 20) rfl w.heap.size _ _ rfl (hown.out.on ((O_ _ _).alloc (A_ _) _)) (.slice (some ⟨wr.heap.size,0,none⟩) 1 1) [c] rfl (bP wr c aN) (by rw[tA];have := HJ8.out;simp;omega) (by have := HW.out;simp;omega) ?_);intro v5 w4 ho4 hg4 hloc;have HB4:=O (hb.out.trans (((O_ wr.heap.size wr).alloc (A_ _) (.cells #[.int .u8 (B8 c)] 5)).mono HW.out |>.trans ((hown.out.on ((O_ _ _).alloc (A_ _) _)).below hg4 (by have := HW.out;simp;omega))));have HO4:=O ho4;clear ho4 hg4 hloc)
    go_roundw
    case rel =>
     refine⟨j+1,.inr ?_,⟨_,rfl,O (by rw[hqd.out,HDN.out])⟩,HO4.out.rd.form1 (by rw[E_,tA];rfl),O (by rw[HLN.out];exact HO4.out),HB4⟩;have h1:=HQ.out;have h2:=HP.out;rw[Nat.add_sub_cancel];rw[←h1] at h2;exact(Nat.div_pos_iff.1 h2).2
    case measure=>have := HP.out;have := HXQ.out;simp[intOf];omega
   ·have hq0 : q = 0 := by omega
    subst hq0
    have hx0:x=0:=by simpa using HX0
    subst hx0;have HKN:Hid (nb M=j):=O (nh M j HJ8.out ((Nat.div_eq_zero_iff.1 HQ.out).resolve_left (Nat.pos_iff_ne_zero.1 (Nat.pow_pos (by decide)))) HJ.out);have HLE:Hid (leN M (nb M)=leN M j):=O (by rw[HKN.out]);clear hdn hlb hln hqm h0 hM HX0
    have hji:(j:Int)≤8:=by omega
    go_upto_if 27 with fail
    have hrd:=hown.out.rd;have HDG:=O (fun (u:World) (h:Below wr.heap.size wr u)=>hrd.on h);clear hrd;obtain⟨hne,hF⟩:(n<0→F=255)∧(¬n<0→F=0):=⟨fun h=>by rcases HS.out with h1|h1;omega;exact h1.2.2,fun h=>by rcases HS.out with h1|h1;exact h1.2.2;omega⟩;have HNE:=O hne;have HF:=O hF;have HBW:=hb;clear hne hF hown
    go_cut [6,27] from 28 to 39 (fun u _ wx=>(∃a cap,u = .slice a 1 cap)∧Hid (ap eB wx wr.heap.size u ((jg M F).take 1))∧Hid (Below wr.heap.size wr wx))
    case first =>
     by_cases hn:n<0
     ·have i1:¬0≤n:=by omega
      have hd1:127-(j:Int)=B8 (UInt8.ofNat (127-j)):=by rw[eF];omega
      have HT:Hid ((jg M F).take 1=[UInt8.ofNat (127-j)]):=O (by rw[uP,HNE.out hn,HKN.out,Om j HJ8.out]);generalize UInt8.ofNat (127-j)=d at hd1 HT;have em:B8 d % 256=B8 d:=cI d;clear hn
      go_wp2_with (at_builtin;go_loud (refine br aN rfl (.tmp 34) (.tmp 38) rfl wr.heap.size (.slice none 0 0) [] rfl (ap.nil _ _) (.slice (some ⟨wr.heap.size,0,none⟩) 1 1) [d] rfl (bP wr d aN) (by simp) (by simp) ?_);intro v5 w4 ho4 hg4 hloc;have HB4:=O (((O_ wr.heap.size wr).alloc (A_ _) (.cells #[.int .u8 (B8 d)] 5)).trans ((ap.nil (E:=eB) _ wr.heap.size).below hg4 (by simp)));have HO4:Hid (ap eB w4 wr.heap.size v5 [d]):=(O ho4);clear ho4 hg4 hloc)
      go_meet
      case rel=>exact⟨HO4.out.rd.form1 rfl,O (by rw[HT.out];exact HO4.out),HB4⟩
     ·have i1:0≤n:=by omega
      have hd1:128+(j:Int)=B8 (UInt8.ofNat (128+j)):=by rw[eF];omega
      have HT:Hid ((jg M F).take 1=[UInt8.ofNat (128+j)]):=O (by rw[uP,HF.out hn,HKN.out,UInt8.xor_zero]);generalize UInt8.ofNat (128+j)=d at hd1 HT;have em:B8 d % 256=B8 d:=cI d;clear hn
      go_wp2_with (at_builtin;go_loud (refine br aN rfl (.tmp 28) (.tmp 32) rfl wr.heap.size (.slice none 0 0) [] rfl (ap.nil _ _) (.slice (some ⟨wr.heap.size,0,none⟩) 1 1) [d] rfl (bP wr d aN) (by simp) (by simp) ?_);intro v5 w4 ho4 hg4 hloc;have HB4:=O (((O_ wr.heap.size wr).alloc (A_ _) (.cells #[.int .u8 (B8 d)] 5)).trans ((ap.nil (E:=eB) _ wr.heap.size).below hg4 (by simp)));have HO4:Hid (ap eB w4 wr.heap.size v5 [d]):=(O ho4);clear ho4 hg4 hloc)
      go_meet
      case rel=>exact⟨HO4.out.rd.form1 rfl,O (by rw[HT.out];exact HO4.out),HB4⟩
    case rest =>
     obtain⟨⟨a6,cap6,rfl⟩,hown6,hb6⟩:=hcut;obtain⟨w1,ew1⟩:∃w1,w1=wr:=⟨_,rfl⟩;subst ew1;go_wp2
     go_loopw [7,6] (fun o u wy=>∃r:Nat,r≤j∧o = .int .i64 ((r:Int)-1)∧(∃a cap,u = .slice a (1+(j-r)) cap)∧Hid (ap eB wy w1.heap.size u ((jg M F).take (1+(j-r))))∧Hid (Below w1.heap.size w1 wy)) (fun o _ _=>(intOf o+1).toNat)
     case atStart=>exact⟨j,A_ _,rfl,⟨_,_,by rw[Nat.sub_self]⟩,O (by rw[Nat.sub_self];exact hown6.out),hb6⟩
     case round =>
      obtain⟨r,hr,rfl,⟨a2,cap2,rfl⟩,hown2,hb2⟩:=hrel;have HW2:=O hb2.out.size
      cases r with
      | zero =>
        have HR:Hid (ap eB wr w1.heap.size (.slice a2 (1+(j-0)) cap2) (bF n)):=O (by have h:=hown2.out;rw[←HKN.out,xk] at h;rw[HE.out,←HKN.out];exact h);clear hown6;go_wp2;go_ret;exact⟨_,rfl,HR.out.mono HW.out,HBW.out.trans (hb2.out.mono HW.out)⟩
      | succ i =>
        have e1:(((i+1:Nat):Int)-1)=(i:Int):=by omega
        rw[e1];have hrd:=HDG.out wr hb2.out
        have hij:i<j:=by omega
        obtain⟨b,off,rfl,hbl,hc⟩:=fp hrd (by rw[tA];omega);have hci:=hc i (by rw[tA];exact hij);rw[SE M j i hij] at hci
        have i3:(i:Int)<(j:Int):=by omega
        have et:=fT M F (i+1) (by omega) (by rw[HKN.out];omega);rw[HKN.out,Nat.add_sub_cancel] at et;have ET:=O et;have HR:=O hr;generalize UInt8.ofNat (M / 256 ^ i)=c at hci ET et;have hfr:True:=trivial;clear hrd hc et hr hown6 hfr
        by_cases hn:n<0
        ·have hF:=HNE.out hn
         subst hF;have hsub:255-B8 c=B8 (c ^^^ 255):=Cw c;have em:B8 (c ^^^ 255) % 256=B8 (c ^^^ 255):=cI _
         go_wp2_with (at_builtin;go_loud (refine br aN rfl (.tmp 54) (.tmp 56) rfl w1.heap.size _ _ rfl (hown2.out.on ((O_ _ _).alloc (A_ _) _)) (.slice (some ⟨wr.heap.size,0,none⟩) 1 1) [c ^^^ 255] rfl (bP wr (c ^^^ 255) aN) (by rw[b_,bZ];have := lh M;simp;omega) (by have := HW2.out;simp;omega) ?_);intro v5 w4 ho4 hg4 hloc;have HB4:=O (hb2.out.trans (((O_ wr.heap.size wr).alloc (A_ _) (.cells #[.int .u8 (B8 (c ^^^ 255))] 5)).mono HW2.out |>.trans ((hown2.out.on ((O_ _ _).alloc (A_ _) _)).below hg4 (by have := HW2.out;simp;omega))));have HO4:=O ho4;clear ho4 hg4 hloc)
         go_roundw
         case rel=>exact⟨i,by have := HR.out;omega,by go_num,HO4.out.rd.form1 (by rw[E_,b_,bZ];have := HR.out;have := HKN.out;simp;omega),O (by rw[ET.out];exact HO4.out),HB4⟩
         case measure=>simp[intOf]
        ·have hF:=HF.out (by omega)
         subst hF;rw[UInt8.xor_zero] at ET
         go_wp2_with (at_builtin;go_loud (refine br aN rfl (.tmp 54) (.tmp 56) rfl w1.heap.size _ _ rfl (hown2.out.on ((O_ _ _).alloc (A_ _) _)) (.slice (some ⟨wr.heap.size,0,none⟩) 1 1) [c] rfl (bP wr (c) aN) (by rw[b_,bZ];have := lh M;simp;omega) (by have := HW2.out;simp;omega) ?_);intro v5 w4 ho4 hg4 hloc;have HB4:=O (hb2.out.trans (((O_ wr.heap.size wr).alloc (A_ _) (.cells #[.int .u8 (B8 (c))] 5)).mono HW2.out |>.trans ((hown2.out.on ((O_ _ _).alloc (A_ _) _)).below hg4 (by have := HW2.out;simp;omega))));have HO4:=O ho4;clear ho4 hg4 hloc)
         go_roundw
         case rel=>exact⟨i,by have := HR.out;omega,by go_num,HO4.out.rd.form1 (by rw[E_,b_,bZ];have := HR.out;have := HKN.out;simp;omega),O (by rw[ET.out];exact HO4.out),HB4⟩
         case measure=>simp[intOf]
theorem lH (s:List UInt8) (w:World) (hl:s.length≤900000) :
  Calls prog 84 #[.string ⟨s.toArray⟩] w fun e w'=>∃v',e = .returned v'∧ap eB w' w.heap.size v' (aV s)∧Below w.heap.size w w':=by
 have HL:=O hl;clear hl
 go_enter func84,ntmps84
 go_wp2_with (first
  |(go_at_call 132;refine(Bj (s.length:Int) (by omega) (by have := HL.out;omega) _).mono ?_;rintro e w1 ⟨v1,rfl,ho1,hb1⟩;have HO1:=O ho1;have HB1:=O hb1;clear ho1 hb1;have hcv:=cw w1 s;have HSB:=O (bU w1 s);have HRD:=O (fo w1 s (by have := HL.out;unfold maxLen;omega));generalize Lib.bytesWorld w1 5 ⟨s.toArray⟩=ws at hcv HSB HRD)
  |(at_builtin;refine br aN rfl (.tmp 5) (.tmp 7) rfl w.heap.size _ (bF (s.length:Int)) rfl (HO1.out.on HSB.out) _ s rfl HRD.out (by have := HL.out;have := cg (s.length:Int);omega) (M_ HB1.out.size HSB.out.size) ?_;intro v2 w2 ho2 hg2 hloc;have HB2:=O ((HB1.out.trans (HSB.out.mono HB1.out.size)).trans ((HO1.out.on HSB.out).below hg2 (M_ HB1.out.size HSB.out.size)));have HO2:=O ho2;clear ho2 hg2 hloc))
 go_ret;exact⟨_,rfl,HO2.out,HB2.out⟩
end
end Go.Proofs.YtmfiaadjdbemnaaGreatDoor
