/- Contracts and lemmas. No condition. -/
import Derived.Test.YtmfiaadjdbemnaaGreatDoorSB32
import Derived.Test.YtmfiaadjdbemnaaGreatDoorLMg06
set_option maxRecDepth 100000
set_option maxHeartbeats 8000000
set_option linter.unusedSimpArgs false
set_option linter.unusedVariables false
namespace Go.Proofs.YtmfiaadjdbemnaaGreatDoor
open Go.Proofs.Tryz
section
open Go.RowKit
attribute [local irreducible] C3.rounds C3.state C3.block
theorem pI {ops:Array Oper} {o:Oper} {a:Act} {w:World} {K:Act→World→Prop} {Q:Exit→Act→World→Prop} {E:Prop} (hgd:o.guard=none) (s x:Operand)
  (ho:o.op = .call { callee := .builtin .append,args := #[s,x],argTypes := #[80,80] })
  (ai:Nat) (v:Value) (l:List UInt8) (hs:a.eval s=v) (hown:cR w ai v l) (ad:Addr) (m c:Nat) (news:List UInt8) (hx:a.eval x = .slice (some ad) m c) (hl:news.length=m) (hm:0<m)
  (hnews:∀j u,(bv news)[j]?=some u→w.cell? (ad.add j)=some u) (hsz:l.length+m≤1000000000) (hbase:ai≤w.heap.size)
  (h:∀v' w',cR w' ai v' (l++news)→Below ai w w'→K (a.put o.dst v') w') :
  if Region.wanted o (yielded ops a.tmps)=true then Oper.wp prog o a w K Q else E:=by
 obtain⟨i0,hi,hz0,hz1,hz2⟩:=info_parts sH
 refine step_append_lies w hgd s x 80 ho ai 5 i0 (.int .u8 0) 1 1 underlying80 hi hz0 hz1 hz2 rfl (by decide) v l.length (bv l) hs hown ad m c (bv news) hx (by simp[bv,hl]) hnews (uv news) hm
  (by unfold maxLen;omega) (by omega) hbase w.heap.size rfl ?_
 intro g cap w' h1 h2 _ _;refine h _ w' ?_ ((O_ ai w).grown h2 hbase (fun k hk=>(hown.lt k hk).1));unfold cR;rw[E_,hl]
 have : bv (l++news)=bv l++bv news:=by simp[bv]
 rw[this];exact h1
theorem BF {w:World} {ai:Nat} {v:Value} {l:List UInt8} (h:cR w ai v l) (X:Obj):cR (w.alloc X).drew ai v l :=
 cR.drew 1 (World.ownsRow.alloc h X)
theorem wP {w:World} {B:Nat} (h:B≤w.heap.size) (X:Obj):B≤(w.alloc X).drew.heap.size:=by
 show B≤(w.alloc X).heap.size
 simp;omega
theorem xO (w:World) (T:TypeId) {z x:UInt8} (h:z=x):∀j u,(bv [z])[j]?=some u→((w.alloc (.cells #[.int .u8 (B8 x)] T)).drew).cell? ((⟨w.heap.size,0,none⟩:Addr).add j)=some u:=by
 intro j u hj;subst h;exact mR _ _ _ _ _ hj
theorem BN (key:List UInt8) (ctr:UInt32) (nonce text:List UInt8) (k:Nat) (h:k≤100064):(C3.pre key ctr nonce text k).length+1≤1000000000:=by
 rw[C3.length_pre];omega
def WH:Value→Nat
 | .string s=>s.size
 | _=>0
theorem xh (l:List UInt8) (n:Nat):(l.drop n).take (l.length-n)=l.drop n:=Y_ (by rw[S_];exact A_ _)
theorem ML (key:List UInt8) (ctr:UInt32) (nonce text:List UInt8) (k j:Nat) (hm:k % 64=0) (hj:j<64) :
  C3.xorAt key ctr nonce text (k+j)=byteAt (text.drop k) j ^^^ byteAt (C3.block key (ctr+UInt32.ofNat (k / 64)) nonce) j:=by
 rw[C3.xorAt_def]
 have e1:(k+j) / 64=k / 64:=by omega
 have e2:(k+j) % 64=j:=by omega
 rw[e1,e2]
 have : C3.byteAt (text.drop k) j=C3.byteAt text (k+j):=by unfold C3.byteAt;simp[I_,List.getElem?_drop]
 show _=C3.byteAt (text.drop k) j ^^^ _
 rw[this]
 rfl
theorem MM (key nonce text:List UInt8) (ctr:UInt32) (hk:key.length=32) (hn:nonce.length=12) (htl:text.length≤100000) (w:World) :
  Calls prog 127 #[.string ⟨key.toArray⟩,.int .u32 (W32 ctr),.string ⟨nonce.toArray⟩,.string ⟨text.toArray⟩] w fun e w'=>e = .returned (.tuple #[.string ⟨(C3.xorText key ctr nonce text).toArray⟩,.int .i64 0])∧Below w.heap.size w w':=by
 have hs:=C3.length_state key ctr nonce
 go_enter func127,ntmps127
 go_wp2_with (first
  |(go_at_call 170;refine(ym key nonce ctr hk hn _).mono ?_;rintro e w1 ⟨rfl,hb1⟩)
  |(refine gN rfl (.tmp 10) (.tmp 22) rfl _ _ rfl rfl 226 _ (heap_alloc_new _ _) rfl hs ?_))
 have hbw:Below w.heap.size w (w1.alloc (.cells (row (C3.state key ctr nonce)) 226)):=hb1.alloc hb1.size _
 have hsz1:w.heap.size≤w1.heap.size+1:=by have := hb1.size;omega
 clear hb1;generalize hSq:C3.state key ctr nonce=S at hs hbw ⊢;clear hSq
 go_loopw [3,1,12] (fun t c v wr=>∃(k:Nat) (r:List UInt8),k≤text.length∧(k % 64=0∨k=text.length)∧r=text.drop k∧t = .string ⟨r.toArray⟩∧c = .int .u32 (W32 (ctr+UInt32.ofNat ((k+63) / 64)))∧cR wr (w1.heap.size+1) v (C3.pre key ctr nonce text k)∧Below (w1.heap.size+1) (w1.alloc (.cells (row S) 226)) wr) (fun t _ _ _=>WH t)
 case atStart=>exact⟨0,text,by omega,.inl rfl,rfl,rfl,by rw[show ctr+UInt32.ofNat ((0+63) / 64)=ctr by simp],cR.nil _ _,O_ _ _⟩
 case round =>
  obtain⟨k,r,hkl,hkm,hr,rfl,rfl,ho,hb⟩:=hrel
  have hrl:r.length=text.length-k:=by rw[hr,S_]
  by_cases hlt:k<text.length
  ·have hm:k % 64=0:=by omega
   have hz:w1.heap.size+1≤wr.heap.size:=by have := hb.size;simpa using this
   have e1:(k+63) / 64=k / 64:=by omega
   have hr0:(0:Int)<r.length:=by omega
   have hxh:=fun j hj=>ML key ctr nonce text k j hm hj;rw[←hr] at hxh;rw[e1];have hB:=C3.length_block key (ctr+UInt32.ofNat (k / 64)) nonce;have hcall:=CE key nonce (ctr+UInt32.ofNat (k / 64)) hk hn;generalize hBq:C3.block key (ctr+UInt32.ofNat (k / 64)) nonce=blk at hB hcall hxh;have HC:=O hcall;have HX:=O hxh;have HR:=O hr;have HM:=O hm;have HL:=O hlt;have HRL:=O hrl;clear hBq hcall hxh hr hm hlt e1 hkm hrl
   by_cases h64:64≤r.length
   ·have hd:min (64:Int) (r.length:Int)=64:=by omega
    have h64r:64≤r.length:=by omega
    have h64i:(64:Int)≤r.length:=by omega
    have hM64:64≤64:=by omega
    have hM0:1≤64:=by omega
    have HM64:=O hM64;have HMR:=O h64r;have HM0:=O hM0;clear h64r hM64 hM0
    go_wp2_with (go_at_call 171;refine(HC.out _).mono ?_;rintro e w4 ⟨rfl,hb4⟩)
    have hz4:w1.heap.size+1≤w4.heap.size:=by have := hb4.size;omega
    have ho4:=ho.below hb4;have hb5:=hb.trans (hb4.mono hz);clear ho hb hb4 hz hz4
    go_loopw [16,12] (fun j v w5=>∃q:Nat,q≤64∧j = .int .i64 q∧cR w5 (w1.heap.size+1) v (C3.pre key ctr nonce text (k+q))∧Below (w1.heap.size+1) (w1.alloc (.cells (row S) 226)) w5) (fun j _ _=>64-(intOf j).toNat)
    case atStart=>exact⟨0,by omega,rfl,ho4,hb5⟩
    case round =>
     clear ho4 hb5;obtain⟨q,hqM,rfl,ho,hb⟩:=hrel
     have hz:w1.heap.size+1≤wr.heap.size:=by have := hb.size;simpa using this
     by_cases hlt:q<64
     ·have hlti:(q:Int)<(64:Int):=by omega
      have h1:(q:Int)<r.length:=by have := HMR.out;omega
      have h2:(q:Int)<blk.length:=by have := HM64.out;omega
      have h3:(q:Int)<64:=by have := HM64.out;omega
      have h3':q<64:=by have := HM64.out;omega
      have h1':q<r.length:=by have := HMR.out;omega
      have h2':q<blk.length:=by have := HM64.out;omega
      have hl4:=C3.length_pre key ctr nonce text (k+q);have hx:=HX.out q (by omega);have HL4:=O hl4;have HQ:=O hlt;have HXX:=O hx;clear hl4 hx;go_wp2
      have hqq:k+q≤100064:=by have := HL.out;have := HM64.out;omega
      go_region_law ((refine pI rfl (.tmp 45) (.tmp 53) rfl (w1.heap.size+1) _ _ rfl (BF ho _) ⟨wr.heap.size,0,none⟩ 1 1 [C3.xorAt key ctr nonce text (k+q)] rfl rfl (by decide) (xO _ _ HXX.out) (BN _ _ _ _ _ hqq) (wP hz _) ?_;intro v' w' ho' hb'))
      all_goals
       go_wp2;go_roundw
       case rel=>exact⟨q+1,HQ.out,by go_num,by rw[←Nat.add_assoc,C3.pre_succ];exact ho',((ak 1 (hb.alloc hz _)).trans hb')⟩
       case measure=>have := HQ.out;simp[intOf];omega
     ·have he:q=64:=by omega
      have HE:=O he
      have hlti:(64:Int)≤(q:Int):=by omega
      have hMR:=HMR.out;clear he;go_wp2;go_roundw
      case rel =>
       have hl:=HRL.out;have hM0:=HM0.out;have hM64:=HM64.out;have hm:=HM.out;have hL:=HL.out;have hq:=HE.out
       have e2:(k+64+63) / 64=k / 64+1:=by omega
       have e3:(k+64) % 64=0∨k+64=text.length:=by omega
       refine⟨k+64,_,by omega,e3,?_,rfl,?_,?_,hb⟩
       ·rw[xh,HR.out,List.drop_drop]
       ·rw[e2,C3.ctr_succ]
       ·rw[←hq];exact ho
      case measure=>have hM0:=HM0.out;show ((r.drop 64).take (r.length-64)).length<r.length;rw[xh,S_];have := HMR.out;omega
   ·have hd:min (64:Int) (r.length:Int)=r.length:=by omega
    have h64r:r.length≤r.length:=by omega
    have h64i:((r.length:Nat):Int)≤r.length:=by omega
    have hM64:r.length≤64:=by omega
    have hM0:1≤r.length:=by omega
    have HM64:=O hM64;have HMR:=O h64r;have HM0:=O hM0;clear h64r hM64 hM0
    go_wp2_with (go_at_call 171;refine(HC.out _).mono ?_;rintro e w4 ⟨rfl,hb4⟩)
    have hz4:w1.heap.size+1≤w4.heap.size:=by have := hb4.size;omega
    have ho4:=ho.below hb4;have hb5:=hb.trans (hb4.mono hz);clear ho hb hb4 hz hz4
    go_loopw [16,12] (fun j v w5=>∃q:Nat,q≤r.length∧j = .int .i64 q∧cR w5 (w1.heap.size+1) v (C3.pre key ctr nonce text (k+q))∧Below (w1.heap.size+1) (w1.alloc (.cells (row S) 226)) w5) (fun j _ _=>r.length-(intOf j).toNat)
    case atStart=>exact⟨0,by omega,rfl,ho4,hb5⟩
    case round =>
     clear ho4 hb5;obtain⟨q,hqM,rfl,ho,hb⟩:=hrel
     have hz:w1.heap.size+1≤wr.heap.size:=by have := hb.size;simpa using this
     by_cases hlt:q<r.length
     ·have hlti:(q:Int)<((r.length:Nat):Int):=by omega
      have h1:(q:Int)<r.length:=by have := HMR.out;omega
      have h2:(q:Int)<blk.length:=by have := HM64.out;omega
      have h3:(q:Int)<64:=by have := HM64.out;omega
      have h3':q<64:=by have := HM64.out;omega
      have h1':q<r.length:=by have := HMR.out;omega
      have h2':q<blk.length:=by have := HM64.out;omega
      have hl4:=C3.length_pre key ctr nonce text (k+q);have hx:=HX.out q (by omega);have HL4:=O hl4;have HQ:=O hlt;have HXX:=O hx;clear hl4 hx;go_wp2
      have hqq:k+q≤100064:=by have := HL.out;have := HM64.out;omega
      go_region_law ((refine pI rfl (.tmp 45) (.tmp 53) rfl (w1.heap.size+1) _ _ rfl (BF ho _) ⟨wr.heap.size,0,none⟩ 1 1 [C3.xorAt key ctr nonce text (k+q)] rfl rfl (by decide) (xO _ _ HXX.out) (BN _ _ _ _ _ hqq) (wP hz _) ?_;intro v' w' ho' hb'))
      all_goals
       go_wp2;go_roundw
       case rel=>exact⟨q+1,HQ.out,by go_num,by rw[←Nat.add_assoc,C3.pre_succ];exact ho',((ak 1 (hb.alloc hz _)).trans hb')⟩
       case measure=>have := HQ.out;simp[intOf];omega
     ·have he:q=r.length:=by omega
      have HE:=O he
      have hlti:((r.length:Nat):Int)≤(q:Int):=by omega
      have hMR:=HMR.out;clear he;go_wp2;go_roundw
      case rel =>
       have hl:=HRL.out;have hM0:=HM0.out;have hM64:=HM64.out;have hm:=HM.out;have hL:=HL.out;have hq:=HE.out
       have e2:(k+r.length+63) / 64=k / 64+1:=by omega
       have e3:(k+r.length) % 64=0∨k+r.length=text.length:=by omega
       refine⟨k+r.length,_,by omega,e3,?_,rfl,?_,?_,hb⟩
       ·exact(List.drop_eq_nil_of_le (by omega)).symm
       ·rw[e2,C3.ctr_succ]
       ·rw[←hq];exact ho
      case measure=>have hM0:=HM0.out;show 0<r.length;omega
  ·have he:k=text.length:=by omega
   have HE:=O he
   have hr0:(r.length:Int)=0:=by omega
   clear he;have hcv:=qg ho;go_wp2
   go_ret2
   exact⟨by rw[HE.out];rfl,hbw.trans (hb.mono hsz1)⟩
end
section
open Go.RowKit
attribute [local irreducible] Calls mac aV
theorem MK (key nonce text:List UInt8) (hk:key.length=32) (hn:nonce.length=12) (ht:text.length≤100000) (w:World) :
  Calls prog 127 #[.string ⟨key.toArray⟩,.int .u32 1,.string ⟨nonce.toArray⟩,.string ⟨text.toArray⟩] w fun e w'=>e = .returned (.tuple #[.string ⟨(eX key nonce text).toArray⟩,.int .i64 0])∧Below w.heap.size w w':=by
 unfold eX;exact MM key nonce text 1 hk hn ht w
attribute [local irreducible] fH cO
theorem zg (m ad t:List UInt8) (w:World) (hk:cA w) (hm:m.length=32) (ha:ad.length≤100000) (ht:t.length≤100000) :
  Calls prog 126 #[.string ⟨m.toArray⟩,.string ⟨ad.toArray⟩,.string ⟨t.toArray⟩] w fun e w'=>e = .returned (.string ⟨(bm m ad t).toArray⟩)∧Below w.heap.size w w':=by
 have HK:=O hk;have HM:=O hm;have HA:=O ha;have HT:=O ht;have HEN:=O (cW ad)
 have q1:¬9223372036854775807<5+(aV ad).length:=by have := HEN.out;omega
 have q2:¬9223372036854775807<5+(aV ad).length+t.length:=by have := HEN.out;omega
 have HN:Hid (bm m ad t=(mac m ([110,111,110,99,101]++(aV ad++t))).take 12):=O rfl;have hml:=ju m ([110,111,110,99,101]++(aV ad++t));have HML:=O hml;clear hk hm ha ht hml
 go_enter func126,ntmps126
 go_wp2_with (first
  |(go_at_call 84;refine(lH ad _ (by have := HA.out;omega)).mono ?_;rintro e w2 ⟨v2,rfl,ho2,hb2⟩;have HB2:=O hb2;have hcv:=b6 ho2.rd;clear ho2 hb2)
  |(go_at_call 113;refine(Bs m ([110,111,110,99,101]++(aV ad++t)) _ (HK.out.on HB2.out) (by rw[HM.out];decide) (by have := HEN.out;have := HA.out;have := HT.out;simp;omega)).mono ?_;rintro e w3 ⟨rfl,hb3⟩;have HB3:=O (HB2.out.trans (hb3.mono HB2.out.size));clear hb3;generalize hmk:mac m ([110,111,110,99,101]++(aV ad++t))=mk at HML HN ⊢;have hl32:(ByteArray.mk mk.toArray).size=32:=HML.out;clear hmk))
 go_ret;exact⟨by rw[HN.out];rfl,HB3.out⟩
theorem Rk (m n ad t:List UInt8) (w:World) (hk:cA w) (hm:m.length=32) (hn:n.length=12) (ha:ad.length≤100000) (ht:t.length≤100000) :
  Calls prog 128 #[.string ⟨m.toArray⟩,.string ⟨n.toArray⟩,.string ⟨ad.toArray⟩,.string ⟨t.toArray⟩] w fun e w'=>e = .returned (.string ⟨(jj m n ad t).toArray⟩)∧Below w.heap.size w w':=by
 have HK:=O hk;have HM:=O hm;have HA:=O ha;have HT:=O ht;have HN0:=O hn;have HEN:=O (cW ad)
 have q0:¬9223372036854775807<3+n.length:=by omega
 have q1:¬9223372036854775807<3+n.length+(aV ad).length:=by have := HEN.out;omega
 have q2:¬9223372036854775807<3+n.length+(aV ad).length+t.length:=by have := HEN.out;omega
 have q3:¬9223372036854775807<3+(n.length+(aV ad).length)+t.length:=by have := HEN.out;omega
 have q4:¬9223372036854775807<3+(n.length+(aV ad).length):=by have := HEN.out;omega
 have HN:Hid (jj m n ad t=(mac m ([116,97,103]++(n++(aV ad++t)))).take 16):=O rfl;have hml:=ju m ([116,97,103]++(n++(aV ad++t)));have HML:=O hml;clear hk hm ha ht hml hn
 go_enter func128,ntmps128
 go_wp2_with (first
  |(go_at_call 84;refine(lH ad _ (by have := HA.out;omega)).mono ?_;rintro e w2 ⟨v2,rfl,ho2,hb2⟩;have HB2:=O hb2;have hcv:=b6 ho2.rd;clear ho2 hb2)
  |(go_at_call 113;refine(Bs m ([116,97,103]++(n++(aV ad++t))) _ (HK.out.on HB2.out) (by rw[HM.out];decide) (by have := HEN.out;have := HA.out;have := HT.out;have := HN0.out;simp;omega)).mono ?_;rintro e w3 ⟨rfl,hb3⟩;have HB3:=O (HB2.out.trans (hb3.mono HB2.out.size));clear hb3;generalize hmk:mac m ([116,97,103]++(n++(aV ad++t)))=mk at HML HN ⊢;have hl32:(ByteArray.mk mk.toArray).size=32:=HML.out;clear hmk))
 go_ret;exact⟨by rw[HN.out];rfl,HB3.out⟩
attribute [local irreducible] eX bm jj
theorem nf (key:List UInt8) (w:World) (hk:cA w) (hl:key.length=32) :
  Calls prog 125 #[.string ⟨key.toArray⟩] w fun e w'=>e = .returned (.tuple #[.string ⟨(fH key).toArray⟩,.string ⟨(cO key).toArray⟩,.int .i64 0])∧Below w.heap.size w w':=by
 have HL:=O hl;have HK:=O hk
 have i1:((key.length:Int) != 32)=false:=by rw[hl];rfl
 have HE:Hid (mac key [101,110,99]=fH key):=O (by unfold fH;rfl);have HM:Hid (mac key [109,97,99]=cO key):=O (by unfold cO;rfl);clear hk hl
 go_enter func125,ntmps125
 go_wp2_with (first
  |(go_at_call 113;refine(Bs key [101,110,99] _ HK.out (by rw[HL.out];decide) (by decide)).mono ?_;rintro e w1 ⟨rfl,hb1⟩;have HB1:=O hb1;clear hb1;rw[HE.out])
  |(go_at_call 113;refine(Bs key [109,97,99] _ (HK.out.on HB1.out) (by rw[HL.out];decide) (by decide)).mono ?_;rintro e w2 ⟨rfl,hb2⟩;have HB2:=O (HB1.out.trans (hb2.mono HB1.out.size));clear hb2;rw[HM.out]))
 go_ret3
 exact⟨rfl,HB2.out⟩
theorem ve (key:List UInt8) (w:World) (hl:¬key.length=32) :
  Calls prog 125 #[.string ⟨key.toArray⟩] w fun e w'=>e = .returned (.tuple #[.string ⟨#[]⟩,.string ⟨#[]⟩,.int .i64 1])∧Below w.heap.size w w':=by
 have i1:((key.length:Int) != 32)=true:=by simp;omega
 clear hl
 go_enter func125,ntmps125
 go_wp2
 go_ret3
 exact⟨rfl,O_ _ _⟩
theorem KU (key ad t:List UInt8) (w:World) (hl:¬key.length=32) :
  Calls prog 98 #[.string ⟨key.toArray⟩,.string ⟨ad.toArray⟩,.string ⟨t.toArray⟩] w fun e w'=>e = .returned (.tuple #[.string ⟨#[]⟩,.int .i64 1])∧Below w.heap.size w w':=by
 go_enter func98,ntmps98
 go_wp2_with (go_at_call 125;refine(ve key _ hl).mono ?_;rintro e w1 ⟨rfl,hb1⟩)
 go_ret2
 exact⟨rfl,hb1⟩
theorem BC (key ad t:List UInt8) (w:World) (hk:cA w) (hl:key.length=32) (ha:ad.length≤100000) (ht:t.length<28) :
  Calls prog 98 #[.string ⟨key.toArray⟩,.string ⟨ad.toArray⟩,.string ⟨t.toArray⟩] w fun e w'=>e = .returned (.tuple #[.string ⟨#[]⟩,.int .i64 5])∧Below w.heap.size w w':=by
 have i1:¬(1048576:Int)<ad.length:=by omega
 have i2:¬(1048604:Int)<t.length:=by omega
 have i3:(t.length:Int)<28:=by omega
 clear ha ht
 go_enter func98,ntmps98
 go_wp2_with (go_at_call 125;refine(nf key _ hk hl).mono ?_;rintro e w1 ⟨rfl,hb1⟩)
 go_ret2
 exact⟨rfl,hb1⟩
theorem Te (key ad t:List UInt8) (w:World) (hk:cA w) (hl:key.length=32) (ha:ad.length≤100000) (ht:28≤t.length) (ht2:t.length≤100000) :
  Calls prog 98 #[.string ⟨key.toArray⟩,.string ⟨ad.toArray⟩,.string ⟨t.toArray⟩] w fun e w'=>e = .returned (KP (jn key ad t))∧Below w.heap.size w w':=by
 have HL:=O hl;have HK:=O hk;have HA:=O ha;have HT:=O ht2;have HT1:=O ht
 have i1:¬(1048576:Int)<ad.length:=by omega
 have i2:¬(1048604:Int)<t.length:=by omega
 have i3:¬(t.length:Int)<28:=by omega
 have hti:(28:Int)≤t.length:=by omega
 have hti2:(t.length:Int)≤100000:=by omega
 have HEL:=O (qp key);have HML:=O (qF key);clear hl hk ha
 go_enter func98,ntmps98
 go_upto_region 10 with (first
  |(go_at_call 125;refine(nf key _ HK.out HL.out).mono ?_;rintro e w3 ⟨rfl,hb1⟩;have HB3:=O hb1;clear hb1;generalize hek:fH key=ek;generalize hmk:cO key=mk;have HEK:=O hek;have HMK:=O hmk;clear hek hmk))
 obtain⟨nn,hnn⟩:∃nn,bN t=nn:=⟨_,rfl⟩;obtain⟨cc,hcc⟩:∃cc,bC t=cc:=⟨_,rfl⟩;obtain⟨tt,htt⟩:∃tt,bT t=tt:=⟨_,rfl⟩;have HNN:=O hnn;have HCC:=O hcc;have HTT:=O htt;have HNL:Hid (nn.length=12):=O (by rw[←hnn];unfold bN;rw[b_];omega);have HCL:Hid (cc.length≤100000):=O (by rw[←hcc];unfold bC;rw[b_,S_];omega)
 have hft:(t.drop (t.length-16)).take (t.length-(t.length-16))=tt:=by
  rw[←htt];unfold bT;exact Y_ (by rw[S_];exact A_ _)
 unfold bN at hnn;unfold bC at hcc;rw[hnn,hcc];clear hnn hcc htt;have HMKL:Hid (mk.length=32):=O (by rw[←HMK.out];exact HML.out);have HEKL:Hid (ek.length=32):=O (by rw[←HEK.out];exact HEL.out);have HFT:=O hft;clear hft;have HK3:=O (HK.out.on HB3.out);refine Nm (by kernel_rfl) (by kernel_rfl) ?_
 repeat (first
  | go_big_quiet_step ((go_at_call 128;exact dj.call _ (Rk mk nn ad cc _ (HK3.out.on (dj.below _)) HMKL.out HNL.out HA.out HCL.out))))
 refine h_ ?_;rintro _ ⟨u,rfl⟩;have HB4:=O (HB3.out.trans (u.below.mono HB3.out.size));generalize u.now=w4 at HB4 ⊢;rw[HFT.out];generalize htg:jj mk nn ad cc=tg;have HTG:=O htg;clear htg;have HO:Hid (jn key ad t=if tg=tt∧bm mk ad (eX ek nn cc)=nn then some (eX ek nn cc) else none):=O (by unfold jn;rw[HNN.out,HCC.out,HTT.out,HMK.out,HEK.out,HTG.out])
 by_cases hteq:tg=tt
 ·have e1:(!(tt == tg))=false:=by rw[hteq];simp
  rw[e1];have HTE:=O hteq;clear hteq e1
  go_upto_region 13 with (go_at_call 127;refine(MK ek nn cc HEKL.out HNL.out HCL.out _).mono ?_;rintro e w5 ⟨rfl,hb5⟩;have HB5:=O (HB4.out.trans (hb5.mono HB4.out.size));clear hb5;generalize hx:eX ek nn cc=xc at HO ⊢;have HXL:Hid (xc.length=cc.length):=(O (by rw[←hx];exact lz _ _ _));clear hx)
  generalize hnc:bm mk ad xc=n2 at HO;have HNC:=O hnc;clear hnc
  by_cases hneq:n2=nn
  ·have e2:(n2 == nn)=true:=by simpa using hneq
   have HNE:=O hneq;clear hneq
   go_wp2_with (go_at_call 126;refine(zg mk ad xc w5 (HK.out.on HB5.out) HMKL.out HA.out (by rw[HXL.out];exact HCL.out)).mono ?_;rintro e w6 ⟨rfl,hb6⟩;have HB6:=O (HB5.out.trans (hb6.mono HB5.out.size));clear hb6;rw[HNC.out])
   go_ret2
   exact⟨by rw[HO.out,G_ ⟨HTE.out,HNE.out⟩];rfl,HB6.out⟩
  ·have e2:(n2 == nn)=false:=by simpa using hneq
   have HNE:=O hneq;clear hneq
   go_wp2_with (go_at_call 126;refine(zg mk ad xc w5 (HK.out.on HB5.out) HMKL.out HA.out (by rw[HXL.out];exact HCL.out)).mono ?_;rintro e w6 ⟨rfl,hb6⟩;have HB6:=O (HB5.out.trans (hb6.mono HB5.out.size));clear hb6;rw[HNC.out])
   go_ret2
   exact⟨by rw[HO.out,H_ (fun h=>HNE.out h.2)];rfl,HB6.out⟩
 ·have e1:(!(tt == tg))=true:=by simp;exact fun e=>hteq e.symm
  rw[e1];have HTE:=O hteq;clear hteq;go_wp2
  go_ret2
  exact⟨by rw[HO.out,H_ (fun h=>HTE.out h.1)];rfl,HB4.out⟩
theorem G6 (key ad t:List UInt8) (w:World) (hk:cA w) (hl:key.length=32) (h:1048576<ad.length∨1048604<t.length) :
  Calls prog 98 #[.string ⟨key.toArray⟩,.string ⟨ad.toArray⟩,.string ⟨t.toArray⟩] w fun e w'=>e = .returned (.tuple #[.string ⟨#[]⟩,.int .i64 2])∧Below w.heap.size w w':=by
 by_cases h1:1048576<ad.length
 ·have i1:(1048576:Int)<ad.length:=by omega
  clear h h1
  go_enter func98,ntmps98
  go_wp2_with (go_at_call 125;refine(nf key _ hk hl).mono ?_;rintro e w1 ⟨rfl,hb1⟩)
  go_ret2
  exact⟨rfl,hb1⟩
 ·have i1:¬(1048576:Int)<ad.length:=by omega
  have i2:(1048604:Int)<t.length:=by omega
  clear h h1
  go_enter func98,ntmps98
  go_wp2_with (go_at_call 125;refine(nf key _ hk hl).mono ?_;rintro e w1 ⟨rfl,hb1⟩)
  go_ret2
  exact⟨rfl,hb1⟩
def Qs (key ad t:List UInt8):Prop:=key.length=32→(ad.length≤100000∧t.length≤100000)∨1048604<ad.length∨1048604<t.length
theorem O2 (key ad t:List UInt8) (w:World) (hk:cA w) (hr:Qs key ad t) :
  Calls prog 98 #[.string ⟨key.toArray⟩,.string ⟨ad.toArray⟩,.string ⟨t.toArray⟩] w fun e w'=>e = .returned (.tuple #[.string ⟨(gU key ad t).toArray⟩,.int .i64 (eG key ad t)])∧Below w.heap.size w w':=by
 unfold gU eG
 by_cases h:key.length=32
 ·have hr:=hr h
  by_cases h2:1048576<ad.length∨1048604<t.length
  ·rw[H_ (fun e=>e.2.1 h2),G_ h,G_ h2]
   exact G6 key ad t w hk h h2
  ·by_cases h3:t.length<28
   ·rw[H_ (fun e=>e.2.2 h3),G_ h,H_ h2,G_ h3]
    exact BC key ad t w hk h (by omega) h3
   ·rw[G_ ⟨h,h2,h3⟩,G_ h,H_ h2,H_ h3,←BB]
    exact Te key ad t w hk h (by omega) (by omega) (by omega)
 ·rw[H_ (fun e=>h e.1),H_ h]
  exact KU key ad t w h
end
section
open Go.RowKit Go.Shelf
attribute [local irreducible] Calls
theorem T4 (nx:Int) (v:Value) (l:List K) (w:World) (hv:RdK w v l):Calls prog 40 #[.agg (tbA nx v)] w fun e w'=>e = .returned (.bool (aP nx l))∧Below w.heap.size w w':=Ab nx v l w hv
def nw (l:List SH):Bool:=decide (l.length≤20) && l.all fun s=>decide (s.data.length≤100)
attribute [local irreducible] shc shA
theorem Hs (l:List SH) (v:Value) (w:World) (hv:RdE eH w v l):Calls prog 18 #[v] w fun e w'=>e = .returned (.bool (nw l))∧Below w.heap.size w w':=by
 have HV:=O hv;obtain⟨a,cap,rfl,hml2,hml,_⟩:=hv;unfold maxLen at hml
 by_cases h20:l.length≤20
 ·have e20:¬(20:Int)<l.length:=by omega
  have HS:Hid (nw l=l.all fun s=>decide (s.data.length≤100)):=O (by unfold nw;rw[decide_eq_true h20,Bool.true_and]);clear h20
  go_enter func18,ntmps18
  go_wp2
  go_loopw [3] (fun o wr=>∃i:Nat,i≤l.length∧o = .int .i64 i∧Hid (∀j (hj:j<l.length),j<i→l[j].data.length≤100)∧wr=w) (fun o _=>l.length-(intOf o).toNat)
  case atStart=>exact⟨0,N_ _,rfl,O (fun j _ hj=>absurd hj (by omega)),rfl⟩
  case round =>
   obtain⟨i,hi,rfl,hno,hwr⟩:=hrel;rw[hwr];clear hwr
   by_cases hlt:i<l.length
   ·obtain⟨b,off,rfl,_,hc⟩:=dA HV.out (by omega)
    have c18:=(hc i hlt).2.2.2
    have i1:(i:Int)<l.length:=by omega
    have HK:=O hlt
    have HNX:Hid (l[i].data.length≤100→∀j (hj:j<l.length),j<i+1→l[j].data.length≤100):=O (fun h j hj hji=>by
     by_cases e:j=i
     ·subst e;exact h
     ·exact hno.out j hj (by omega))
    have HNO:Hid (¬l[i].data.length≤100→nw l=false):=O (fun h=>by rw[HS.out,List.all_eq_false];exact⟨l[i],List.getElem_mem hlt,by simpa using h⟩);generalize l[i]=s at c18 HNX HNO;clear hc hlt hno hi
    by_cases hq:s.data.length≤100
    ·have i2:¬(100:Int)<s.data.length:=by omega
     have HQ:=O (HNX.out hq);clear hq;go_wp2;go_roundw
     case rel=>exact⟨i+1,HK.out,by go_num,HQ,by first |exact rfl|exact trivial⟩
     case measure=>have := HK.out;simp[intOf];omega
    ·have i2:(100:Int)<s.data.length:=by omega
     have HQ:=O (HNO.out hq);clear hq;go_wp2;go_ret;exact⟨by rw[HQ.out];rfl,O_ _ _⟩
   ·have i1:(l.length:Int)≤i:=by omega
    have HR:Hid (nw l=true):=O (by
     rw[HS.out,List.all_eq_true];intro s hs;obtain⟨j,hj,rfl⟩:=List.mem_iff_getElem.1 hs
     exact decide_eq_true (hno.out j hj (by omega)))
    clear hno hlt hi;go_wp2;go_ret;exact⟨by rw[HR.out];rfl,O_ _ _⟩
 ·have e20:(20:Int)<l.length:=by omega
  have HS:Hid (nw l=false):=O (by unfold nw;rw[V_ h20];rfl);clear h20
  go_enter func18,ntmps18
  go_wp2;go_ret;exact⟨by rw[HS.out];rfl,O_ _ _⟩
def oC (nx:Int) (tl:List K) (b:BK) (bl:List K):Bool:=decide (tl.length≤12) && (decide (b.mo.length≤100) && (decide (bl.length≤12) && (bl.all (fun k=>decide (k.val.length≤100)) && aP nx tl)))
attribute [local irreducible] tbA aP
theorem EG (nx:Int) (vt:Value) (tl:List K) (b:BK) (v:Value) (l:List K) (w:World) (ht:RdK w vt tl) (hv:RdK w v l) :
  Calls prog 17 #[.agg (tbA nx vt),.agg (bc b v)] w fun e w'=>e = .returned (.bool (oC nx tl b l))∧Below w.heap.size w w':=by
 have hlen:=hv.len;unfold maxLen at hlen;have hlen2:=ht.len;unfold maxLen at hlen2;obtain⟨va,vc,rfl,_,_,_⟩:=id hv;obtain⟨ta,tc,rfl,_,_,_⟩:=id ht;obtain⟨W0,hW0⟩:∃W0,W0=(w.alloc (.cells (tbA nx (.slice ta tl.length tc)) 45)).alloc (.cells (bc b (.slice va l.length vc)) 47):=⟨_,rfl⟩;have HW:=O hW0;have HBE:Hid (Below w.heap.size w W0):=O (by rw[hW0];exact dm _ _ _ (O_ _ _));have HR1:Hid (W0.heap[w.heap.size+1]?=some (.cells (bc b (.slice va l.length vc)) 47 (0,0))):=O (by rw[hW0];exact eR _ _ _);have HR0:Hid (W0.heap[w.heap.size]?=some (.cells (tbA nx (.slice ta tl.length tc)) 45 (0,0))):=O (by rw[hW0];exact eP _ _ _);have HV:Hid (RdK W0 (.slice va l.length vc) l):=O (hv.on HBE.out);have HT:=O (T4 nx (.slice ta tl.length tc) tl W0 (ht.on HBE.out))
 have a1:W0.cell? ⟨w.heap.size,1,none⟩=some (.slice ta tl.length tc):=by rw[e_ _ _ _ _ _ _ HR0.out];unfold tbA;rfl
 have a36:W0.cell? ⟨w.heap.size+1,36,none⟩=some (.string ⟨b.mo.toArray⟩):=by rw[e_ _ _ _ _ _ _ HR1.out];exact uo _ _
 have a37:W0.cell? ⟨w.heap.size+1,37,none⟩=some (.slice va l.length vc):=by rw[e_ _ _ _ _ _ _ HR1.out];exact iU _ _
 have hcs:(¬tl.length≤12∧oC nx tl b l=false)∨(tl.length≤12∧¬b.mo.length≤100∧oC nx tl b l=false)∨(tl.length≤12∧b.mo.length≤100∧¬l.length≤12∧oC nx tl b l=false) ∨
   (tl.length≤12∧b.mo.length≤100∧l.length≤12∧oC nx tl b l=(l.all (fun k=>decide (k.val.length≤100)) && aP nx tl)):=by
  unfold oC
  by_cases h1:tl.length≤12
  ·by_cases h2:b.mo.length≤100
   ·by_cases h3:l.length≤12
    ·simp[h1,h2,h3]
    ·simp[h1,h2,h3]
   ·simp[h1,h2]
  ·simp[h1]
 have HCS:=O hcs;clear hv ht hW0 hcs
 rcases HCS.out with⟨h1,hr⟩|⟨h1,h2,hr⟩|⟨h1,h2,h3,hr⟩|⟨h1,h2,h3,hr⟩
 case inr.inr.inr =>
  have i1:¬(12:Int)<tl.length:=by omega
  have i2:¬(100:Int)<b.mo.length:=by omega
  have i3:¬(12:Int)<l.length:=by omega
  have HF:=O hr;clear hr h1 h2 h3 HCS
  go_enter func17,ntmps17
  go_upto_region 1 with fail
  rw[←HW.out]
  try dsimp only[Act.put]
  go_wp2
  go_loopw [5] (fun o wr=>∃i:Nat,i≤l.length∧o = .int .i64 i∧Hid (∀j,j<i→(ae l j).val.length≤100)∧wr=W0) (fun o _=>l.length-(intOf o).toNat)
  case atStart=>exact⟨0,N_ _,rfl,O (fun j hj=>absurd hj (by omega)),rfl⟩
  case round =>
   obtain⟨i,hi,rfl,hno,hwr⟩:=hrel;rw[hwr];clear hwr
   by_cases hlt:i<l.length
   ·obtain⟨bb,off,rfl,hb1,aO⟩:=(HV.out.cells) (by omega)
    obtain⟨d0,d1,d2,d3,d4,d5,d6,d7,d8⟩:=aO i hlt
    have j1:(i:Int)<l.length:=by omega
    have HK:=O hlt;have HNO:=hno;clear aO hno
    by_cases hq:(ae l i).val.length≤100
    ·have j2:¬(100:Int)<(ae l i).val.length:=by omega
     have HQ:=O hq;clear hq;go_wp2;go_roundw
     case rel=>exact⟨i+1,HK.out,by go_num,O (fun j hj=>by
      by_cases e:j=i
      ·subst e;exact HQ.out
      ·exact HNO.out j (by omega)),by first |exact rfl|exact trivial⟩
     case measure=>have := HK.out;simp[intOf];omega
    ·have j2:(100:Int)<(ae l i).val.length:=by omega
     have HRES:Hid (oC nx tl b l=false):=O (by
      rw[HF.out]
      have : l.all (fun k=>decide (k.val.length≤100))=false:=by
       rw[List.all_eq_false];refine⟨ae l i,?_,by simpa using hq⟩;rw[az l i hlt];exact List.getElem_mem hlt
      rw[this]
      rfl)
     clear hq hlt;go_wp2;go_ret;exact⟨by rw[HRES.out];rfl,HBE.out⟩
   ·have j1:(l.length:Int)≤i:=by omega
    have HA:Hid (oC nx tl b l=aP nx tl):=O (by
     rw[HF.out]
     have : l.all (fun k=>decide (k.val.length≤100))=true:=by
      rw[List.all_eq_true];intro k hk;obtain⟨j,hj,rfl⟩:=List.mem_iff_getElem.1 hk;have := hno.out j (by omega);rw[az l j hj] at this
      simpa using this
     rw[this,Bool.true_and])
    clear hno hlt hi
    go_wp2_with (first
     |(refine dw nx (.slice ta tl.length tc) rfl (.tmp 2) rfl w.heap.size rfl _ HR0.out ?_)
     |(go_at_call 40;refine HT.out.mono ?_;rintro e x1 ⟨rfl,hx1⟩;have HX:=O (HBE.out.trans (hx1.mono HBE.out.size));clear hx1))
    go_ret;exact⟨by rw[HA.out];rfl,HX.out⟩
 ·have HF:=O hr
  have i1:(12:Int)<tl.length:=by omega
  clear hr h1 HCS
  go_enter func17,ntmps17
  go_upto_region 1 with fail
  rw[←HW.out]
  try dsimp only[Act.put]
  go_wp2;go_ret;exact⟨by rw[HF.out];rfl,HBE.out⟩
 ·have HF:=O hr
  have i1:¬(12:Int)<tl.length:=by omega
  have i2:(100:Int)<b.mo.length:=by omega
  clear hr h1 h2 HCS
  go_enter func17,ntmps17
  go_upto_region 1 with fail
  rw[←HW.out]
  try dsimp only[Act.put]
  go_wp2;go_ret;exact⟨by rw[HF.out];rfl,HBE.out⟩
 ·have HF:=O hr
  have i1:¬(12:Int)<tl.length:=by omega
  have i2:¬(100:Int)<b.mo.length:=by omega
  have i3:(12:Int)<l.length:=by omega
  clear hr h1 h2 h3 HCS
  go_enter func17,ntmps17
  go_upto_region 1 with fail
  rw[←HW.out]
  try dsimp only[Act.put]
  go_wp2;go_ret;exact⟨by rw[HF.out];rfl,HBE.out⟩
end
end Go.Proofs.YtmfiaadjdbemnaaGreatDoor
