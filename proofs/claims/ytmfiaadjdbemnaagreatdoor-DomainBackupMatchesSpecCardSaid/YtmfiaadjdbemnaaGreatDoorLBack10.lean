/- Contracts and lemmas. No condition. -/
import Derived.Test.YtmfiaadjdbemnaaGreatDoorLBack07
import Derived.Test.YtmfiaadjdbemnaaGreatDoorSB34
import Derived.ChangeOld
import Derived.ChangeSame
import Derived.Deep.Fields
import Derived.Deep.Slices
import Derived.LaidLaws
import Derived.LaidMore
import Derived.Maps.OwnOps
import Derived.Maps.Views
import Derived.OpenShut
import Derived.ProofKit
import Derived.ShutString
import Derived.Test.YtmfiaadjdbemnaaGreatDoorRows
import Derived.WalkArith
set_option maxRecDepth 100000
set_option maxHeartbeats 8000000
set_option linter.unusedSimpArgs false
set_option linter.unusedVariables false
namespace Go.Proofs.YtmfiaadjdbemnaaGreatDoor
section
open Go.RowKit
attribute [local irreducible] C3.rounds C3.state C3.blockTo
theorem Gg (x y:UInt32):C3.bytes (x+y)=[x.toUInt8+y.toUInt8,(shr (x+y) 8).toUInt8,(shr (x+y) 16).toUInt8,(shr (x+y) 24).toUInt8]:=by
 rw[←UInt32.toUInt8_add];rfl
theorem cR.drew {w:World} {ai:Nat} {v:Value} {l:List UInt8} (n:Nat) (h:cR w ai v l):cR (w.drewN n) ai v l:=h.below (ak n (O_ _ _))
theorem CE (key nonce:List UInt8) (ctr:UInt32) (hk:key.length=32) (hn:nonce.length=12) (w:World) :
  Calls Tryz.prog 171 #[.string ⟨key.toArray⟩,.int .u32 (W32 ctr),.string ⟨nonce.toArray⟩] w fun e w'=>e = .returned (.tuple #[.string ⟨(C3.block key ctr nonce).toArray⟩,.int .i64 0])∧Below w.heap.size w w':=by
 have hs:=C3.length_state key ctr nonce
 have hr:(C3.rounds (C3.state key ctr nonce) 10).length=16:=by rw[C3.length_rounds,hs]
 rw[wS]
 go_enter Tryz.func171,Tryz.ntmps171
 go_wp2_with (first
  |(go_at_call 170;refine(ym key nonce ctr hk hn _).mono ?_;rintro e w1 ⟨rfl,hb1⟩)
  |(refine gN rfl (.tmp 8) (.tmp 19) rfl _ _ rfl rfl 226 _ (heap_alloc_new _ _) rfl hs ?_)
  |(refine ng rfl (.tmp 8) rfl _ rfl _ 226 (heap_alloc_new _ _) hs ?_)
  |(go_at_call 185;refine(DA _ hs _).mono ?_;rintro e w3 ⟨rfl,hb3⟩)
  |(refine gN rfl (.tmp 10) (.tmp 25) rfl _ _ rfl rfl 226 _ (heap_alloc_new _ _) rfl hr ?_))
 simp only[World.size_alloc] at hb3
 have hz3:w1.heap.size+1≤w3.heap.size:=by have := hb3.size;simpa using this
 have hS:w3.heap[w1.heap.size]?=some (.cells (row (C3.state key ctr nonce)) 226 (0,0)):=by rw[hb3.block _ (by omega)];exact heap_alloc_new _ _
 have hbw:Below w.heap.size w (w3.alloc (.cells (row (C3.rounds (C3.state key ctr nonce) 10)) 226)) :=
  ((hb1.alloc hb1.size _).trans (hb3.mono (by have := hb1.size;omega))).alloc (by have := hb1.size;omega) _
 have hsz1:w.heap.size≤w3.heap.size+1:=by have := hb1.size;omega
 have hlt13:w1.heap.size<w3.heap.size:=by omega
 clear hb3 hb1 hz3;generalize hRq:C3.rounds (C3.state key ctr nonce) 10=R at hr hbw ⊢;generalize hSq:C3.state key ctr nonce=S at hs hS hbw hRq ⊢;have HR:=O hRq;have HS:=O hSq;clear hRq hSq
 go_loopw [12,11] (fun i v wr=>∃k:Nat,k≤16∧i = .int .i64 k∧cR wr (w3.heap.size+1) v (C3.blockTo S R k)∧Below (w3.heap.size+1) (w3.alloc (.cells (row R) 226)) wr) (fun i _ _=>16-(intOf i).toNat)
 case atStart=>exact⟨0,by omega,rfl,by rw[qb];exact cR.nil _ _,O_ _ _⟩
 case round =>
  obtain⟨k,hk16,rfl,ho,hb⟩:=hrel
  by_cases hlt:k<16
  ·have hz:w3.heap.size+1≤wr.heap.size:=by have := hb.size;simpa using this
   have hcS:wr.cell? ⟨w1.heap.size,k,none⟩=some (.int .u32 (W32 (w16 S k))):=by
    rw[hb.cell (p:=⟨w1.heap.size,k,none⟩) (by show w1.heap.size<_;omega),e_ _ _ _ _ _ _ (by rw[bx _ _ _ hlt13];exact hS),l6 _ _ (by rw[hs];omega)]
   have hcR:wr.cell? ⟨w3.heap.size,k,none⟩=some (.int .u32 (W32 (w16 R k))):=by
    rw[hb.cell (p:=⟨w3.heap.size,k,none⟩) (by show w3.heap.size<_;omega),e_ _ _ _ _ _ _ (heap_alloc_new _ _),l6 _ _ (by rw[hr];omega)]
   have hl4:=C3.length_blockTo S R k
   have hki:(k:Int)<16:=by omega
   have HL:=O hl4;have HK:=O hlt;clear hl4;go_wp2
   first |refine fG (by kernel_rfl) (by kernel_rfl) ?_|refine fR (by kernel_rfl) (by kernel_rfl) ?_
   repeat (go_big_quiet_step (fail))
   refine h_ ?_;rintro _ ⟨nq,rfl⟩;have ho2:=ho.drew nq
   go_wp2_with (at_builtin;refine D7 rfl (.tmp 37) (.tmp 49) rfl (w3.heap.size+1) _ _ rfl (World.ownsRow.alloc ho2 _) ⟨wr.heap.size,0,none⟩ 4 4 (C3.bytes (w16 S k+w16 R k)) rfl rfl ?h1 ?h2 ?h3 ?h4)
   case h1 =>
    intro j u hj;rw[Gg] at hj;exact mR _ _ _ _ _ hj
   case h2=>rw[HL.out];have := HK.out;omega
   case h3=>simp;omega
   case h4 =>
    intro v' w' ho' hb';go_wp2;go_roundw
    case rel=>exact⟨k+1,HK.out,by go_num,by rw[p9,UInt32.add_comm];exact ho',(ak nq hb).alloc hz _ |>.trans hb'⟩
    case measure=>have := HK.out;simp[intOf];omega
  ·have he:k=16:=by omega
   have HE:=O he;clear he;have hcv:=qg ho;go_wp2
   go_ret2
   exact⟨by rw[HS.out,HR.out,HE.out];rfl,hbw.trans (hb.mono hsz1)⟩
end
section
open Go.RowKit
attribute [local irreducible] C3.rounds C3.state C3.block
theorem pI {ops:Array Oper} {o:Oper} {a:Act} {w:World} {K:Act→World→Prop} {Q:Exit→Act→World→Prop} {E:Prop} (hgd:o.guard=none) (s x:Operand)
  (ho:o.op = .call { callee := .builtin .append,args := #[s,x],argTypes := #[80,80] })
  (ai:Nat) (v:Value) (l:List UInt8) (hs:a.eval s=v) (hown:cR w ai v l) (ad:Addr) (m c:Nat) (news:List UInt8) (hx:a.eval x = .slice (some ad) m c) (hl:news.length=m) (hm:0<m)
  (hnews:∀j u,(bv news)[j]?=some u→w.cell? (ad.add j)=some u) (hsz:l.length+m≤1000000000) (hbase:ai≤w.heap.size)
  (h:∀v' w',cR w' ai v' (l++news)→Below ai w w'→K (a.put o.dst v') w') :
  if Region.wanted o (yielded ops a.tmps)=true then Oper.wp Tryz.prog o a w K Q else E:=by
 obtain⟨i0,hi,hz0,hz1,hz2⟩:=info_parts sH
 refine step_append_lies w hgd s x 80 ho ai 5 i0 (.int .u8 0) 1 1 Tryz.underlying80 hi hz0 hz1 hz2 rfl (by decide) v l.length (bv l) hs hown ad m c (bv news) hx (by simp[bv,hl]) hnews (uv news) hm
  (by unfold maxLen;omega) (by omega) hbase w.heap.size rfl ?_
 intro g cap w' h1 h2 _ _;refine h _ w' ?_ ((O_ ai w).grown h2 hbase (fun k hk=>(hown.lt k hk).1));unfold cR;rw[E_,hl]
 have : bv (l++news)=bv l++bv news:=by simp[bv]
 rw[this];exact h1
theorem BF {w:World} {ai:Nat} {v:Value} {l:List UInt8} (h:cR w ai v l) (X:Obj):cR (w.alloc X).drew ai v l :=
 cR.drew 1 (World.ownsRow.alloc h X)
theorem wP {w:World} {B:Nat} (h:B≤w.heap.size) (X:Obj):B≤(w.alloc X).drew.heap.size:=by
 show B≤(w.alloc X).heap.size
 simp;omega
theorem xO (w:World) (T:TypeId) {z x:UInt8} (h:z=x):∀j u,(bv [z])[j]?=some u→((w.alloc (.cells #[.int .u8 (B8 x)] T)).drew).cell? ((⟨w.heap.size,0,none⟩:Addr).add j)=some u:=by
 intro j u hj;subst h;exact mR _ _ _ _ _ hj
theorem BN (key:List UInt8) (ctr:UInt32) (nonce text:List UInt8) (k:Nat) (h:k≤100064):(C3.pre key ctr nonce text k).length+1≤1000000000:=by
 rw[C3.length_pre];omega
def WH:Value→Nat
 | .string s=>s.size
 | _=>0
theorem xh (l:List UInt8) (n:Nat):(l.drop n).take (l.length-n)=l.drop n:=Y_ (by rw[S_];exact A_ _)
theorem ML (key:List UInt8) (ctr:UInt32) (nonce text:List UInt8) (k j:Nat) (hm:k % 64=0) (hj:j<64) :
  C3.xorAt key ctr nonce text (k+j)=byteAt (text.drop k) j ^^^ byteAt (C3.block key (ctr+UInt32.ofNat (k / 64)) nonce) j:=by
 rw[C3.xorAt_def]
 have e1:(k+j) / 64=k / 64:=by omega
 have e2:(k+j) % 64=j:=by omega
 rw[e1,e2]
 have : C3.byteAt (text.drop k) j=C3.byteAt text (k+j):=by unfold C3.byteAt;simp[I_,List.getElem?_drop]
 show _=C3.byteAt (text.drop k) j ^^^ _
 rw[this]
 rfl
theorem MM (key nonce text:List UInt8) (ctr:UInt32) (hk:key.length=32) (hn:nonce.length=12) (htl:text.length≤100000) (w:World) :
  Calls Tryz.prog 127 #[.string ⟨key.toArray⟩,.int .u32 (W32 ctr),.string ⟨nonce.toArray⟩,.string ⟨text.toArray⟩] w fun e w'=>e = .returned (.tuple #[.string ⟨(C3.xorText key ctr nonce text).toArray⟩,.int .i64 0])∧Below w.heap.size w w':=by
 have hs:=C3.length_state key ctr nonce
 go_enter Tryz.func127,Tryz.ntmps127
 go_wp2_with (first
  |(go_at_call 170;refine(ym key nonce ctr hk hn _).mono ?_;rintro e w1 ⟨rfl,hb1⟩)
  |(refine gN rfl (.tmp 10) (.tmp 22) rfl _ _ rfl rfl 226 _ (heap_alloc_new _ _) rfl hs ?_))
 have hbw:Below w.heap.size w (w1.alloc (.cells (row (C3.state key ctr nonce)) 226)):=hb1.alloc hb1.size _
 have hsz1:w.heap.size≤w1.heap.size+1:=by have := hb1.size;omega
 clear hb1;generalize hSq:C3.state key ctr nonce=S at hs hbw ⊢;clear hSq
 go_loopw [3,1,12] (fun t c v wr=>∃(k:Nat) (r:List UInt8),k≤text.length∧(k % 64=0∨k=text.length)∧r=text.drop k∧t = .string ⟨r.toArray⟩∧c = .int .u32 (W32 (ctr+UInt32.ofNat ((k+63) / 64)))∧cR wr (w1.heap.size+1) v (C3.pre key ctr nonce text k)∧Below (w1.heap.size+1) (w1.alloc (.cells (row S) 226)) wr) (fun t _ _ _=>WH t)
 case atStart=>exact⟨0,text,by omega,.inl rfl,rfl,rfl,by rw[show ctr+UInt32.ofNat ((0+63) / 64)=ctr by simp],cR.nil _ _,O_ _ _⟩
 case round =>
  obtain⟨k,r,hkl,hkm,hr,rfl,rfl,ho,hb⟩:=hrel
  have hrl:r.length=text.length-k:=by rw[hr,S_]
  by_cases hlt:k<text.length
  ·have hm:k % 64=0:=by omega
   have hz:w1.heap.size+1≤wr.heap.size:=by have := hb.size;simpa using this
   have e1:(k+63) / 64=k / 64:=by omega
   have hr0:(0:Int)<r.length:=by omega
   have hxh:=fun j hj=>ML key ctr nonce text k j hm hj;rw[←hr] at hxh;rw[e1];have hB:=C3.length_block key (ctr+UInt32.ofNat (k / 64)) nonce;have hcall:=CE key nonce (ctr+UInt32.ofNat (k / 64)) hk hn;generalize hBq:C3.block key (ctr+UInt32.ofNat (k / 64)) nonce=blk at hB hcall hxh;have HC:=O hcall;have HX:=O hxh;have HR:=O hr;have HM:=O hm;have HL:=O hlt;have HRL:=O hrl;clear hBq hcall hxh hr hm hlt e1 hkm hrl
   by_cases h64:64≤r.length
   ·have hd:min (64:Int) (r.length:Int)=64:=by omega
    have h64r:64≤r.length:=by omega
    have h64i:(64:Int)≤r.length:=by omega
    have hM64:64≤64:=by omega
    have hM0:1≤64:=by omega
    have HM64:=O hM64;have HMR:=O h64r;have HM0:=O hM0;clear h64r hM64 hM0
    go_wp2_with (go_at_call 171;refine(HC.out _).mono ?_;rintro e w4 ⟨rfl,hb4⟩)
    have hz4:w1.heap.size+1≤w4.heap.size:=by have := hb4.size;omega
    have ho4:=ho.below hb4;have hb5:=hb.trans (hb4.mono hz);clear ho hb hb4 hz hz4
    go_loopw [16,12] (fun j v w5=>∃q:Nat,q≤64∧j = .int .i64 q∧cR w5 (w1.heap.size+1) v (C3.pre key ctr nonce text (k+q))∧Below (w1.heap.size+1) (w1.alloc (.cells (row S) 226)) w5) (fun j _ _=>64-(intOf j).toNat)
    case atStart=>exact⟨0,by omega,rfl,ho4,hb5⟩
    case round =>
     clear ho4 hb5;obtain⟨q,hqM,rfl,ho,hb⟩:=hrel
     have hz:w1.heap.size+1≤wr.heap.size:=by have := hb.size;simpa using this
     by_cases hlt:q<64
     ·have hlti:(q:Int)<(64:Int):=by omega
      have h1:(q:Int)<r.length:=by have := HMR.out;omega
      have h2:(q:Int)<blk.length:=by have := HM64.out;omega
      have h3:(q:Int)<64:=by have := HM64.out;omega
      have h3':q<64:=by have := HM64.out;omega
      have h1':q<r.length:=by have := HMR.out;omega
      have h2':q<blk.length:=by have := HM64.out;omega
      have hl4:=C3.length_pre key ctr nonce text (k+q);have hx:=HX.out q (by omega);have HL4:=O hl4;have HQ:=O hlt;have HXX:=O hx;clear hl4 hx;go_wp2
      have hqq:k+q≤100064:=by have := HL.out;have := HM64.out;omega
      go_region_law ((refine pI rfl (.tmp 45) (.tmp 53) rfl (w1.heap.size+1) _ _ rfl (BF ho _) ⟨wr.heap.size,0,none⟩ 1 1 [C3.xorAt key ctr nonce text (k+q)] rfl rfl (by decide) (xO _ _ HXX.out) (BN _ _ _ _ _ hqq) (wP hz _) ?_;intro v' w' ho' hb'))
      all_goals
       go_wp2;go_roundw
       case rel=>exact⟨q+1,HQ.out,by go_num,by rw[←Nat.add_assoc,C3.pre_succ];exact ho',((ak 1 (hb.alloc hz _)).trans hb')⟩
       case measure=>have := HQ.out;simp[intOf];omega
     ·have he:q=64:=by omega
      have HE:=O he
      have hlti:(64:Int)≤(q:Int):=by omega
      have hMR:=HMR.out;clear he;go_wp2;go_roundw
      case rel =>
       have hl:=HRL.out;have hM0:=HM0.out;have hM64:=HM64.out;have hm:=HM.out;have hL:=HL.out;have hq:=HE.out
       have e2:(k+64+63) / 64=k / 64+1:=by omega
       have e3:(k+64) % 64=0∨k+64=text.length:=by omega
       refine⟨k+64,_,by omega,e3,?_,rfl,?_,?_,hb⟩
       ·rw[xh,HR.out,List.drop_drop]
       ·rw[e2,C3.ctr_succ]
       ·rw[←hq];exact ho
      case measure=>have hM0:=HM0.out;show ((r.drop 64).take (r.length-64)).length<r.length;rw[xh,S_];have := HMR.out;omega
   ·have hd:min (64:Int) (r.length:Int)=r.length:=by omega
    have h64r:r.length≤r.length:=by omega
    have h64i:((r.length:Nat):Int)≤r.length:=by omega
    have hM64:r.length≤64:=by omega
    have hM0:1≤r.length:=by omega
    have HM64:=O hM64;have HMR:=O h64r;have HM0:=O hM0;clear h64r hM64 hM0
    go_wp2_with (go_at_call 171;refine(HC.out _).mono ?_;rintro e w4 ⟨rfl,hb4⟩)
    have hz4:w1.heap.size+1≤w4.heap.size:=by have := hb4.size;omega
    have ho4:=ho.below hb4;have hb5:=hb.trans (hb4.mono hz);clear ho hb hb4 hz hz4
    go_loopw [16,12] (fun j v w5=>∃q:Nat,q≤r.length∧j = .int .i64 q∧cR w5 (w1.heap.size+1) v (C3.pre key ctr nonce text (k+q))∧Below (w1.heap.size+1) (w1.alloc (.cells (row S) 226)) w5) (fun j _ _=>r.length-(intOf j).toNat)
    case atStart=>exact⟨0,by omega,rfl,ho4,hb5⟩
    case round =>
     clear ho4 hb5;obtain⟨q,hqM,rfl,ho,hb⟩:=hrel
     have hz:w1.heap.size+1≤wr.heap.size:=by have := hb.size;simpa using this
     by_cases hlt:q<r.length
     ·have hlti:(q:Int)<((r.length:Nat):Int):=by omega
      have h1:(q:Int)<r.length:=by have := HMR.out;omega
      have h2:(q:Int)<blk.length:=by have := HM64.out;omega
      have h3:(q:Int)<64:=by have := HM64.out;omega
      have h3':q<64:=by have := HM64.out;omega
      have h1':q<r.length:=by have := HMR.out;omega
      have h2':q<blk.length:=by have := HM64.out;omega
      have hl4:=C3.length_pre key ctr nonce text (k+q);have hx:=HX.out q (by omega);have HL4:=O hl4;have HQ:=O hlt;have HXX:=O hx;clear hl4 hx;go_wp2
      have hqq:k+q≤100064:=by have := HL.out;have := HM64.out;omega
      go_region_law ((refine pI rfl (.tmp 45) (.tmp 53) rfl (w1.heap.size+1) _ _ rfl (BF ho _) ⟨wr.heap.size,0,none⟩ 1 1 [C3.xorAt key ctr nonce text (k+q)] rfl rfl (by decide) (xO _ _ HXX.out) (BN _ _ _ _ _ hqq) (wP hz _) ?_;intro v' w' ho' hb'))
      all_goals
       go_wp2;go_roundw
       case rel=>exact⟨q+1,HQ.out,by go_num,by rw[←Nat.add_assoc,C3.pre_succ];exact ho',((ak 1 (hb.alloc hz _)).trans hb')⟩
       case measure=>have := HQ.out;simp[intOf];omega
     ·have he:q=r.length:=by omega
      have HE:=O he
      have hlti:((r.length:Nat):Int)≤(q:Int):=by omega
      have hMR:=HMR.out;clear he;go_wp2;go_roundw
      case rel =>
       have hl:=HRL.out;have hM0:=HM0.out;have hM64:=HM64.out;have hm:=HM.out;have hL:=HL.out;have hq:=HE.out
       have e2:(k+r.length+63) / 64=k / 64+1:=by omega
       have e3:(k+r.length) % 64=0∨k+r.length=text.length:=by omega
       refine⟨k+r.length,_,by omega,e3,?_,rfl,?_,?_,hb⟩
       ·exact(List.drop_eq_nil_of_le (by omega)).symm
       ·rw[e2,C3.ctr_succ]
       ·rw[←hq];exact ho
      case measure=>have hM0:=HM0.out;show 0<r.length;omega
  ·have he:k=text.length:=by omega
   have HE:=O he
   have hr0:(r.length:Int)=0:=by omega
   clear he;have hcv:=qg ho;go_wp2
   go_ret2
   exact⟨by rw[HE.out];rfl,hbw.trans (hb.mono hsz1)⟩
end
section
open Go.RowKit
attribute [local irreducible] Calls mac aV
theorem MK (key nonce text:List UInt8) (hk:key.length=32) (hn:nonce.length=12) (ht:text.length≤100000) (w:World) :
  Calls Tryz.prog 127 #[.string ⟨key.toArray⟩,.int .u32 1,.string ⟨nonce.toArray⟩,.string ⟨text.toArray⟩] w fun e w'=>e = .returned (.tuple #[.string ⟨(eX key nonce text).toArray⟩,.int .i64 0])∧Below w.heap.size w w':=by
 unfold eX;exact MM key nonce text 1 hk hn ht w
attribute [local irreducible] fH cO
theorem zg (m ad t:List UInt8) (w:World) (hk:cA w) (hm:m.length=32) (ha:ad.length≤100000) (ht:t.length≤100000) :
  Calls Tryz.prog 126 #[.string ⟨m.toArray⟩,.string ⟨ad.toArray⟩,.string ⟨t.toArray⟩] w fun e w'=>e = .returned (.string ⟨(bm m ad t).toArray⟩)∧Below w.heap.size w w':=by
 have HK:=O hk;have HM:=O hm;have HA:=O ha;have HT:=O ht;have HEN:=O (cW ad)
 have q1:¬9223372036854775807<5+(aV ad).length:=by have := HEN.out;omega
 have q2:¬9223372036854775807<5+(aV ad).length+t.length:=by have := HEN.out;omega
 have HN:Hid (bm m ad t=(mac m ([110,111,110,99,101]++(aV ad++t))).take 12):=O rfl;have hml:=ju m ([110,111,110,99,101]++(aV ad++t));have HML:=O hml;clear hk hm ha ht hml
 go_enter Tryz.func126,Tryz.ntmps126
 go_wp2_with (first
  |(go_at_call 84;refine(lH ad _ (by have := HA.out;omega)).mono ?_;rintro e w2 ⟨v2,rfl,ho2,hb2⟩;have HB2:=O hb2;have hcv:=b6 ho2.rd;clear ho2 hb2)
  |(go_at_call 113;refine(Bs m ([110,111,110,99,101]++(aV ad++t)) _ (HK.out.on HB2.out) (by rw[HM.out];decide) (by have := HEN.out;have := HA.out;have := HT.out;simp;omega)).mono ?_;rintro e w3 ⟨rfl,hb3⟩;have HB3:=O (HB2.out.trans (hb3.mono HB2.out.size));clear hb3;generalize hmk:mac m ([110,111,110,99,101]++(aV ad++t))=mk at HML HN ⊢;have hl32:(ByteArray.mk mk.toArray).size=32:=HML.out;clear hmk))
 go_ret;exact⟨by rw[HN.out];rfl,HB3.out⟩
theorem Rk (m n ad t:List UInt8) (w:World) (hk:cA w) (hm:m.length=32) (hn:n.length=12) (ha:ad.length≤100000) (ht:t.length≤100000) :
  Calls Tryz.prog 128 #[.string ⟨m.toArray⟩,.string ⟨n.toArray⟩,.string ⟨ad.toArray⟩,.string ⟨t.toArray⟩] w fun e w'=>e = .returned (.string ⟨(jj m n ad t).toArray⟩)∧Below w.heap.size w w':=by
 have HK:=O hk;have HM:=O hm;have HA:=O ha;have HT:=O ht;have HN0:=O hn;have HEN:=O (cW ad)
 have q0:¬9223372036854775807<3+n.length:=by omega
 have q1:¬9223372036854775807<3+n.length+(aV ad).length:=by have := HEN.out;omega
 have q2:¬9223372036854775807<3+n.length+(aV ad).length+t.length:=by have := HEN.out;omega
 have q3:¬9223372036854775807<3+(n.length+(aV ad).length)+t.length:=by have := HEN.out;omega
 have q4:¬9223372036854775807<3+(n.length+(aV ad).length):=by have := HEN.out;omega
 have HN:Hid (jj m n ad t=(mac m ([116,97,103]++(n++(aV ad++t)))).take 16):=O rfl;have hml:=ju m ([116,97,103]++(n++(aV ad++t)));have HML:=O hml;clear hk hm ha ht hml hn
 go_enter Tryz.func128,Tryz.ntmps128
 go_wp2_with (first
  |(go_at_call 84;refine(lH ad _ (by have := HA.out;omega)).mono ?_;rintro e w2 ⟨v2,rfl,ho2,hb2⟩;have HB2:=O hb2;have hcv:=b6 ho2.rd;clear ho2 hb2)
  |(go_at_call 113;refine(Bs m ([116,97,103]++(n++(aV ad++t))) _ (HK.out.on HB2.out) (by rw[HM.out];decide) (by have := HEN.out;have := HA.out;have := HT.out;have := HN0.out;simp;omega)).mono ?_;rintro e w3 ⟨rfl,hb3⟩;have HB3:=O (HB2.out.trans (hb3.mono HB2.out.size));clear hb3;generalize hmk:mac m ([116,97,103]++(n++(aV ad++t)))=mk at HML HN ⊢;have hl32:(ByteArray.mk mk.toArray).size=32:=HML.out;clear hmk))
 go_ret;exact⟨by rw[HN.out];rfl,HB3.out⟩
attribute [local irreducible] eX bm jj
theorem nf (key:List UInt8) (w:World) (hk:cA w) (hl:key.length=32) :
  Calls Tryz.prog 125 #[.string ⟨key.toArray⟩] w fun e w'=>e = .returned (.tuple #[.string ⟨(fH key).toArray⟩,.string ⟨(cO key).toArray⟩,.int .i64 0])∧Below w.heap.size w w':=by
 have HL:=O hl;have HK:=O hk
 have i1:((key.length:Int) != 32)=false:=by rw[hl];rfl
 have HE:Hid (mac key [101,110,99]=fH key):=O (by unfold fH;rfl);have HM:Hid (mac key [109,97,99]=cO key):=O (by unfold cO;rfl);clear hk hl
 go_enter Tryz.func125,Tryz.ntmps125
 go_wp2_with (first
  |(go_at_call 113;refine(Bs key [101,110,99] _ HK.out (by rw[HL.out];decide) (by decide)).mono ?_;rintro e w1 ⟨rfl,hb1⟩;have HB1:=O hb1;clear hb1;rw[HE.out])
  |(go_at_call 113;refine(Bs key [109,97,99] _ (HK.out.on HB1.out) (by rw[HL.out];decide) (by decide)).mono ?_;rintro e w2 ⟨rfl,hb2⟩;have HB2:=O (HB1.out.trans (hb2.mono HB1.out.size));clear hb2;rw[HM.out]))
 go_ret3
 exact⟨rfl,HB2.out⟩
theorem ve (key:List UInt8) (w:World) (hl:¬key.length=32) :
  Calls Tryz.prog 125 #[.string ⟨key.toArray⟩] w fun e w'=>e = .returned (.tuple #[.string ⟨#[]⟩,.string ⟨#[]⟩,.int .i64 1])∧Below w.heap.size w w':=by
 have i1:((key.length:Int) != 32)=true:=by simp;omega
 clear hl
 go_enter Tryz.func125,Tryz.ntmps125
 go_wp2
 go_ret3
 exact⟨rfl,O_ _ _⟩
theorem TE (key ad t:List UInt8) (w:World) (hk:cA w) (hl:key.length=32) (ha:ad.length≤100000) (ht:t.length≤100000) :
  Calls Tryz.prog 81 #[.string ⟨key.toArray⟩,.string ⟨ad.toArray⟩,.string ⟨t.toArray⟩] w fun e w'=>e = .returned (.tuple #[.string ⟨(bQ key ad t).toArray⟩,.int .i64 0])∧Below w.heap.size w w':=by
 have HL:=O hl;have HK:=O hk;have HA:=O ha;have HT:=O ht
 have i1:¬(1048576:Int)<ad.length:=by omega
 have i2:¬(1048576:Int)<t.length:=by omega
 have hs:bQ key ad t=bm (cO key) ad t++(eX (fH key) (bm (cO key) ad t) t++jj (cO key) (bm (cO key) ad t) ad (eX (fH key) (bm (cO key) ad t) t)):=rfl;have HS:=O hs;have HEL:=O (qp key);have HML:=O (qF key);clear hl hk ha ht hs
 go_enter Tryz.func81,Tryz.ntmps81
 go_wp2_with (first
  |(go_at_call 125;refine(nf key _ HK.out HL.out).mono ?_;rintro e w2 ⟨rfl,hb1⟩;have HB2:=O hb1;clear hb1;generalize hek:fH key=ek;generalize hmk:cO key=mk;have HEK:=O hek;have HMK:=O hmk;clear hek hmk)
  |(go_at_call 126;refine(zg mk ad t w2 (HK.out.on HB2.out) (by rw[←HMK.out];exact HML.out) HA.out HT.out).mono ?_;rintro e w3 ⟨rfl,hb3⟩;have HB3:=O (HB2.out.trans (hb3.mono HB2.out.size));clear hb3;generalize hn:bm mk ad t=nc;have HN:=O hn;have HNL:Hid (nc.length=12):=(O (by rw[←hn];exact gL _ _ _));clear hn)
  |(go_at_call 127;refine(MK ek nc t (by rw[←HEK.out];exact HEL.out) HNL.out HT.out _).mono ?_;rintro e w4 ⟨rfl,hb4⟩;have HB4:=O (HB3.out.trans (hb4.mono HB3.out.size));clear hb4;generalize hx:eX ek nc t=xc;have HX:=O hx;have HXL:Hid (xc.length=t.length):=(O (by rw[←hx];exact lz _ _ _));clear hx;have q1:¬9223372036854775807<nc.length+xc.length:=(by rw[HNL.out,HXL.out];have := HT.out;omega))
  |(go_at_call 128;refine(Rk mk nc ad xc w4 (HK.out.on HB4.out) (by rw[←HMK.out];exact HML.out) HNL.out HA.out (by rw[HXL.out];exact HT.out)).mono ?_;rintro e w5 ⟨rfl,hb5⟩;have HB5:=O (HB4.out.trans (hb5.mono HB4.out.size));clear hb5;generalize htg:jj mk nc ad xc=tg;have HTG:=O htg;have q2:¬9223372036854775807<nc.length+xc.length+tg.length:=(by rw[←htg,jX,HNL.out,HXL.out];have := HT.out;omega);clear htg))
 go_ret2
 exact⟨by rw[HS.out,HEK.out,HMK.out,HN.out,HX.out,HTG.out];rfl,HB5.out⟩
theorem LA (key ad t:List UInt8) (w:World) (hl:¬key.length=32) :
  Calls Tryz.prog 81 #[.string ⟨key.toArray⟩,.string ⟨ad.toArray⟩,.string ⟨t.toArray⟩] w fun e w'=>e = .returned (.tuple #[.string ⟨#[]⟩,.int .i64 1])∧Below w.heap.size w w':=by
 go_enter Tryz.func81,Tryz.ntmps81
 go_wp2_with (go_at_call 125;refine(ve key _ hl).mono ?_;rintro e w1 ⟨rfl,hb1⟩)
 go_ret2
 exact⟨rfl,hb1⟩
theorem KU (key ad t:List UInt8) (w:World) (hl:¬key.length=32) :
  Calls Tryz.prog 98 #[.string ⟨key.toArray⟩,.string ⟨ad.toArray⟩,.string ⟨t.toArray⟩] w fun e w'=>e = .returned (.tuple #[.string ⟨#[]⟩,.int .i64 1])∧Below w.heap.size w w':=by
 go_enter Tryz.func98,Tryz.ntmps98
 go_wp2_with (go_at_call 125;refine(ve key _ hl).mono ?_;rintro e w1 ⟨rfl,hb1⟩)
 go_ret2
 exact⟨rfl,hb1⟩
theorem BC (key ad t:List UInt8) (w:World) (hk:cA w) (hl:key.length=32) (ha:ad.length≤100000) (ht:t.length<28) :
  Calls Tryz.prog 98 #[.string ⟨key.toArray⟩,.string ⟨ad.toArray⟩,.string ⟨t.toArray⟩] w fun e w'=>e = .returned (.tuple #[.string ⟨#[]⟩,.int .i64 5])∧Below w.heap.size w w':=by
 have i1:¬(1048576:Int)<ad.length:=by omega
 have i2:¬(1048604:Int)<t.length:=by omega
 have i3:(t.length:Int)<28:=by omega
 clear ha ht
 go_enter Tryz.func98,Tryz.ntmps98
 go_wp2_with (go_at_call 125;refine(nf key _ hk hl).mono ?_;rintro e w1 ⟨rfl,hb1⟩)
 go_ret2
 exact⟨rfl,hb1⟩
theorem Te (key ad t:List UInt8) (w:World) (hk:cA w) (hl:key.length=32) (ha:ad.length≤100000) (ht:28≤t.length) (ht2:t.length≤100000) :
  Calls Tryz.prog 98 #[.string ⟨key.toArray⟩,.string ⟨ad.toArray⟩,.string ⟨t.toArray⟩] w fun e w'=>e = .returned (KP (jn key ad t))∧Below w.heap.size w w':=by
 have HL:=O hl;have HK:=O hk;have HA:=O ha;have HT:=O ht2;have HT1:=O ht
 have i1:¬(1048576:Int)<ad.length:=by omega
 have i2:¬(1048604:Int)<t.length:=by omega
 have i3:¬(t.length:Int)<28:=by omega
 have hti:(28:Int)≤t.length:=by omega
 have hti2:(t.length:Int)≤100000:=by omega
 have HEL:=O (qp key);have HML:=O (qF key);clear hl hk ha
 go_enter Tryz.func98,Tryz.ntmps98
 go_upto_region 10 with (first
  |(go_at_call 125;refine(nf key _ HK.out HL.out).mono ?_;rintro e w3 ⟨rfl,hb1⟩;have HB3:=O hb1;clear hb1;generalize hek:fH key=ek;generalize hmk:cO key=mk;have HEK:=O hek;have HMK:=O hmk;clear hek hmk))
 obtain⟨nn,hnn⟩:∃nn,bN t=nn:=⟨_,rfl⟩;obtain⟨cc,hcc⟩:∃cc,bC t=cc:=⟨_,rfl⟩;obtain⟨tt,htt⟩:∃tt,bT t=tt:=⟨_,rfl⟩;have HNN:=O hnn;have HCC:=O hcc;have HTT:=O htt;have HNL:Hid (nn.length=12):=O (by rw[←hnn];unfold bN;rw[b_];omega);have HCL:Hid (cc.length≤100000):=O (by rw[←hcc];unfold bC;rw[b_,S_];omega)
 have hft:(t.drop (t.length-16)).take (t.length-(t.length-16))=tt:=by
  rw[←htt];unfold bT;exact Y_ (by rw[S_];exact A_ _)
 unfold bN at hnn;unfold bC at hcc;rw[hnn,hcc];clear hnn hcc htt;have HMKL:Hid (mk.length=32):=O (by rw[←HMK.out];exact HML.out);have HEKL:Hid (ek.length=32):=O (by rw[←HEK.out];exact HEL.out);have HFT:=O hft;clear hft;have HK3:=O (HK.out.on HB3.out);refine Nm (by kernel_rfl) (by kernel_rfl) ?_
 repeat (first
  | go_big_quiet_step ((go_at_call 128;exact dj.call _ (Rk mk nn ad cc _ (HK3.out.on (dj.below _)) HMKL.out HNL.out HA.out HCL.out))))
 refine h_ ?_;rintro _ ⟨u,rfl⟩;have HB4:=O (HB3.out.trans (u.below.mono HB3.out.size));generalize u.now=w4 at HB4 ⊢;rw[HFT.out];generalize htg:jj mk nn ad cc=tg;have HTG:=O htg;clear htg;have HO:Hid (jn key ad t=if tg=tt∧bm mk ad (eX ek nn cc)=nn then some (eX ek nn cc) else none):=O (by unfold jn;rw[HNN.out,HCC.out,HTT.out,HMK.out,HEK.out,HTG.out])
 by_cases hteq:tg=tt
 ·have e1:(!(tt == tg))=false:=by rw[hteq];simp
  rw[e1];have HTE:=O hteq;clear hteq e1
  go_upto_region 13 with (go_at_call 127;refine(MK ek nn cc HEKL.out HNL.out HCL.out _).mono ?_;rintro e w5 ⟨rfl,hb5⟩;have HB5:=O (HB4.out.trans (hb5.mono HB4.out.size));clear hb5;generalize hx:eX ek nn cc=xc at HO ⊢;have HXL:Hid (xc.length=cc.length):=(O (by rw[←hx];exact lz _ _ _));clear hx)
  generalize hnc:bm mk ad xc=n2 at HO;have HNC:=O hnc;clear hnc
  by_cases hneq:n2=nn
  ·have e2:(n2 == nn)=true:=by simpa using hneq
   have HNE:=O hneq;clear hneq
   go_wp2_with (go_at_call 126;refine(zg mk ad xc w5 (HK.out.on HB5.out) HMKL.out HA.out (by rw[HXL.out];exact HCL.out)).mono ?_;rintro e w6 ⟨rfl,hb6⟩;have HB6:=O (HB5.out.trans (hb6.mono HB5.out.size));clear hb6;rw[HNC.out])
   go_ret2
   exact⟨by rw[HO.out,G_ ⟨HTE.out,HNE.out⟩];rfl,HB6.out⟩
  ·have e2:(n2 == nn)=false:=by simpa using hneq
   have HNE:=O hneq;clear hneq
   go_wp2_with (go_at_call 126;refine(zg mk ad xc w5 (HK.out.on HB5.out) HMKL.out HA.out (by rw[HXL.out];exact HCL.out)).mono ?_;rintro e w6 ⟨rfl,hb6⟩;have HB6:=O (HB5.out.trans (hb6.mono HB5.out.size));clear hb6;rw[HNC.out])
   go_ret2
   exact⟨by rw[HO.out,H_ (fun h=>HNE.out h.2)];rfl,HB6.out⟩
 ·have e1:(!(tt == tg))=true:=by simp;exact fun e=>hteq e.symm
  rw[e1];have HTE:=O hteq;clear hteq;go_wp2
  go_ret2
  exact⟨by rw[HO.out,H_ (fun h=>HTE.out h.1)];rfl,HB4.out⟩
theorem Hp (key ad t:List UInt8) (w:World) (hk:cA w) (hl:key.length=32) (h:1048576<ad.length∨1048576<t.length) :
  Calls Tryz.prog 81 #[.string ⟨key.toArray⟩,.string ⟨ad.toArray⟩,.string ⟨t.toArray⟩] w fun e w'=>e = .returned (.tuple #[.string ⟨#[]⟩,.int .i64 2])∧Below w.heap.size w w':=by
 by_cases h1:1048576<ad.length
 ·have i1:(1048576:Int)<ad.length:=by omega
  clear h h1
  go_enter Tryz.func81,Tryz.ntmps81
  go_wp2_with (go_at_call 125;refine(nf key _ hk hl).mono ?_;rintro e w1 ⟨rfl,hb1⟩)
  go_ret2
  exact⟨rfl,hb1⟩
 ·have i1:¬(1048576:Int)<ad.length:=by omega
  have i2:(1048576:Int)<t.length:=by omega
  clear h h1
  go_enter Tryz.func81,Tryz.ntmps81
  go_wp2_with (go_at_call 125;refine(nf key _ hk hl).mono ?_;rintro e w1 ⟨rfl,hb1⟩)
  go_ret2
  exact⟨rfl,hb1⟩
theorem G6 (key ad t:List UInt8) (w:World) (hk:cA w) (hl:key.length=32) (h:1048576<ad.length∨1048604<t.length) :
  Calls Tryz.prog 98 #[.string ⟨key.toArray⟩,.string ⟨ad.toArray⟩,.string ⟨t.toArray⟩] w fun e w'=>e = .returned (.tuple #[.string ⟨#[]⟩,.int .i64 2])∧Below w.heap.size w w':=by
 by_cases h1:1048576<ad.length
 ·have i1:(1048576:Int)<ad.length:=by omega
  clear h h1
  go_enter Tryz.func98,Tryz.ntmps98
  go_wp2_with (go_at_call 125;refine(nf key _ hk hl).mono ?_;rintro e w1 ⟨rfl,hb1⟩)
  go_ret2
  exact⟨rfl,hb1⟩
 ·have i1:¬(1048576:Int)<ad.length:=by omega
  have i2:(1048604:Int)<t.length:=by omega
  clear h h1
  go_enter Tryz.func98,Tryz.ntmps98
  go_wp2_with (go_at_call 125;refine(nf key _ hk hl).mono ?_;rintro e w1 ⟨rfl,hb1⟩)
  go_ret2
  exact⟨rfl,hb1⟩
def Qs (key ad t:List UInt8):Prop:=key.length=32→(ad.length≤100000∧t.length≤100000)∨1048604<ad.length∨1048604<t.length
theorem Pz (key ad t:List UInt8) (w:World) (hk:cA w) (hr:Qs key ad t) :
  Calls Tryz.prog 81 #[.string ⟨key.toArray⟩,.string ⟨ad.toArray⟩,.string ⟨t.toArray⟩] w fun e w'=>e = .returned (.tuple #[.string ⟨(eu key ad t).toArray⟩,.int .i64 (fF key ad t)])∧Below w.heap.size w w':=by
 unfold eu fF
 by_cases h:key.length=32
 ·have hr:=hr h
  by_cases h2:1048576<ad.length∨1048576<t.length
  ·rw[H_ (fun e=>e.2 h2),G_ h,G_ h2]
   exact Hp key ad t w hk h h2
  ·rw[G_ ⟨h,h2⟩,G_ h,H_ h2]
   exact TE key ad t w hk h (by omega) (by omega)
 ·rw[H_ (fun e=>h e.1),H_ h]
  exact LA key ad t w h
theorem O2 (key ad t:List UInt8) (w:World) (hk:cA w) (hr:Qs key ad t) :
  Calls Tryz.prog 98 #[.string ⟨key.toArray⟩,.string ⟨ad.toArray⟩,.string ⟨t.toArray⟩] w fun e w'=>e = .returned (.tuple #[.string ⟨(gU key ad t).toArray⟩,.int .i64 (eG key ad t)])∧Below w.heap.size w w':=by
 unfold gU eG
 by_cases h:key.length=32
 ·have hr:=hr h
  by_cases h2:1048576<ad.length∨1048604<t.length
  ·rw[H_ (fun e=>e.2.1 h2),G_ h,G_ h2]
   exact G6 key ad t w hk h h2
  ·by_cases h3:t.length<28
   ·rw[H_ (fun e=>e.2.2 h3),G_ h,H_ h2,G_ h3]
    exact BC key ad t w hk h (by omega) h3
   ·rw[G_ ⟨h,h2,h3⟩,G_ h,H_ h2,H_ h3,←BB]
    exact Te key ad t w hk h (by omega) (by omega) (by omega)
 ·rw[H_ (fun e=>h e.1),H_ h]
  exact KU key ad t w h
end
section
open Go.RowKit Go.Shelf
theorem AD (x:List UInt8):dEq x x=true:=by unfold dEq;simp
theorem tG (cs:Array Value) (off:Nat) (v:Value) (h:cs[off]?=some v) (w:World):(part 9 cs off).run Tryz.prog w = .ok v w:=by
 have h1:(isAgg 9).run Tryz.prog w = .ok false w:=by simp[isAgg,run_underlying Tryz.underlying9]
 simp[part,h1,h]
attribute [local irreducible] Calls shc shA
end
section
open Go.RowKit
theorem DL (n:Int) (v:Value) : #[.int .i64 n,v]=tbA n v:=rfl
theorem Tryz.own:ownKnob Tryz.prog.godebug=none:=by kernel_rfl
theorem Tryz.laidOut:laidOutB Tryz.prog=true:=by kernel_rfl
theorem vW (a:ByteArray):∃l:List UInt8,a=⟨l.toArray⟩:=⟨a.data.toList,by simp⟩
theorem J1 {a:Int} (h:(Lit.int .i64 a).wf=true) : -9223372036854775808≤a∧a≤9223372036854775807:=by
 simp only[Lit.wf,T_,decide_eq_true_eq] at h;exact h
open Go.ChangeShapes Go.WideShapes Go.ChangeAt Go.RowKit Go.Deep
set_option maxRecDepth 10000
section fk
variable {H:Type} {enc:TypeId × Value→H} {w:World} {ai:Nat} {sp:Nat→Bool} {held:Bool}
theorem fld {T t:TypeId} {fs:Array Field} {fuel:Nat} {cs:List Value} {x:DataW H × List MemPlace} (ht:Tryz.prog.underlying T=some (.struct fs)) (h:DataW.trod enc Tryz.prog w ai sp held fuel T cs=some x) (i o c:Nat)
  (hf:(fs.toList.map fun f=>(f.type,f.offset))[i]?=some (t,o)) (hc:Tryz.prog.cellsOf t=c):∃n y,DataW.trod enc Tryz.prog w ai sp held n t ((cs.drop o).take c)=some y:=by
 obtain⟨xs,n,_,_,_,hxs,hh⟩:=DataW.trod_struct ht h;rw[List.getElem?_map] at hf
 cases hfi:fs.toList[i]? with
 | none=>rw[hfi] at hf;cases hf
 | some f =>
   rw[hfi] at hf;simp only[Option.map_some,Option.some.injEq,Prod.mk.injEq] at hf
   have hfa:fs[i]?=some f:=by rw[←Array.getElem?_toList];exact hfi
   have h1:=hh i f hfa;rw[hf.1,hf.2,hc] at h1
   have hlt:i<xs.length:=by rw[hxs];exact(Q_.1 hfa).1
   exact⟨n,xs[i],by rw[h1,K_ hlt]⟩
theorem iR {T:TypeId} {fs:Array Field} {fuel c:Nat} {cs:List Value} {x:DataW H × List MemPlace} (ht:Tryz.prog.underlying T=some (.struct fs)) (hc:Tryz.prog.cellsOf T=c) (h:DataW.trod enc Tryz.prog w ai sp held fuel T cs=some x):cs.length=c:=by
 obtain⟨xs,n,_,_,hl,_⟩:=DataW.trod_struct ht h;rw[hl,hc]
theorem CN {cs:List Value} {o:Nat} {v:Value} (h:(cs.drop o).take 1=[v]):cs[o]?=some v:=cell_of_cut h
theorem bR {T:TypeId} {fs:Array Field} {fuel:Nat} {cs:List Value} {x:DataW H × List MemPlace} (ht:Tryz.prog.underlying T=some (.struct fs)) (h:DataW.trod enc Tryz.prog w ai sp held fuel T cs=some x) (i o:Nat)
  (hf:(fs.toList.map fun f=>(f.type,f.offset))[i]?=some (3,o)):∃z:Int,cs[o]?=some (.int .i64 z)∧(Lit.int .i64 z).wf=true:=by
 obtain⟨n,y,hy⟩:=fld ht h i o 1 hf (by kernel_rfl);obtain⟨z,hz,_,hw⟩:=DataW.trod_int Tryz.underlying3 hy;exact⟨z,CN hz,hw⟩
theorem kq {T:TypeId} {fs:Array Field} {fuel:Nat} {cs:List Value} {x:DataW H × List MemPlace} (ht:Tryz.prog.underlying T=some (.struct fs)) (h:DataW.trod enc Tryz.prog w ai sp held fuel T cs=some x) (i o:Nat)
  (hf:(fs.toList.map fun f=>(f.type,f.offset))[i]?=some (9,o)):∃l:List UInt8,cs[o]?=some (.string ⟨l.toArray⟩)∧l.length≤maxLen:=by
 obtain⟨n,y,hy⟩:=fld ht h i o 1 hf (by kernel_rfl);obtain⟨s,hs,_,hl⟩:=DataW.trod_string Tryz.underlying9 hy;obtain⟨l,rfl⟩:=vW s;exact⟨l,CN hs,hl⟩
theorem A6 {T:TypeId} {fs:Array Field} {fuel:Nat} {cs:List Value} {x:DataW H × List MemPlace} (ht:Tryz.prog.underlying T=some (.struct fs)) (h:DataW.trod enc Tryz.prog w ai sp held fuel T cs=some x) (i o:Nat)
  (hf:(fs.toList.map fun f=>(f.type,f.offset))[i]?=some (4,o)):∃b:Bool,cs[o]?=some (.bool b):=by
 obtain⟨n,y,hy⟩:=fld ht h i o 1 hf (by kernel_rfl);obtain⟨b,hb,_⟩:=DataW.trod_bool Tryz.underlying4 hy;exact⟨b,CN hb⟩
theorem Mm {a:Int} (h:(Lit.int .u8 a).wf=true):∃c:UInt8,a=B8 c:=by
 simp only[Lit.wf,T_,decide_eq_true_eq] at h;have h1:(0:Int)≤a:=h.1;have h2:a≤255:=h.2;refine⟨UInt8.ofNat a.toNat,?_⟩;unfold B8;rw[UInt8.toNat_ofNat_of_lt' (by show a.toNat<256;omega)]
 omega
theorem qf {Q:Nat→UInt8→Prop} (n:Nat) (h:∀i,i<n→∃c,Q i c):∃d:List UInt8,d.length=n∧∀i,i<n→Q i (byteAt d i):=by
 induction n with
 | zero=>exact⟨[],rfl,fun i hi=>absurd hi (by omega)⟩
 | succ n ih =>
   obtain⟨d,hd,hq⟩:=ih (fun i hi=>h i (by omega));obtain⟨c,hc⟩:=h n (by omega);refine⟨d++[c],by simp[hd],fun i hi => ?_⟩
   by_cases e:i<n
   ·have : byteAt (d++[c]) i=byteAt d i:=by unfold byteAt;rw[I_,I_,List.getElem?_append_left (by omega)]
    rw[this];exact hq i e
   ·obtain rfl:i=n:=by omega
    have : byteAt (d++[c]) i=c:=by unfold byteAt;rw[I_,List.getElem?_append_right (by omega),hd];simp
    rw[this];exact hc
theorem gB:Tryz.prog.underlying 86=some (.struct (Tryz.prog.fieldsOf 86)):=by kernel_rfl
theorem s5:Tryz.prog.underlying 45=some (.struct (Tryz.prog.fieldsOf 45)):=by kernel_rfl
theorem gW:Tryz.prog.underlying 47=some (.struct (Tryz.prog.fieldsOf 47)):=by kernel_rfl
theorem mE:((Tryz.prog.fieldsOf 86).toList.map fun f=>(f.type,f.offset))=[(3,0),(3,1),(9,2),(3,3),(3,4),(3,5),(3,6),(3,7),(4,8)]:=by kernel_rfl
theorem Oj:((Tryz.prog.fieldsOf 45).toList.map fun f=>(f.type,f.offset))=[(3,0),(43,1)]:=by kernel_rfl
theorem oD:((Tryz.prog.fieldsOf 47).toList.map fun f=>(f.type,f.offset))=[(23,0),(3,16),(3,17),(3,18),(3,19),(23,20),(9,36),(43,37)]:=by kernel_rfl
theorem QO (l:List Value) (h:l.length=9):∃c0 c1 c2 c3 c4 c5 c6 c7 c8,l=[c0,c1,c2,c3,c4,c5,c6,c7,c8]:=by
 match l,h with
 | [c0,c1,c2,c3,c4,c5,c6,c7,c8],_=>exact⟨c0,c1,c2,c3,c4,c5,c6,c7,c8,rfl⟩
theorem E5 (l:List Value) (h:l.length=2):∃c0 c1,l=[c0,c1]:=by
 match l,h with
 | [c0,c1],_=>exact⟨c0,c1,rfl⟩
theorem Kt (l:List Value) (h:l.length=38):∃c0 c1 c2 c3 c4 c5 c6 c7 c8 c9 c10 c11 c12 c13 c14 c15 c16 c17 c18 c19 c20 c21 c22 c23 c24 c25 c26 c27 c28 c29 c30 c31 c32 c33 c34 c35 c36 c37,l=[c0,c1,c2,c3,c4,c5,c6,c7,c8,c9,c10,c11,c12,c13,c14,c15,c16,c17,c18,c19,c20,c21,c22,c23,c24,c25,c26,c27,c28,c29,c30,c31,c32,c33,c34,c35,c36,c37]:=by
 match l,h with
 | c0::c1::c2::c3::c4::c5::c6::c7::c8::c9::c10::c11::c12::c13::c14::c15::c16::c17::c18::c19::c20::c21::c22::c23::c24::c25::c26::c27::c28::c29::c30::c31::c32::c33::c34::c35::c36::c37::[],_=>exact⟨c0,c1,c2,c3,c4,c5,c6,c7,c8,c9,c10,c11,c12,c13,c14,c15,c16,c17,c18,c19,c20,c21,c22,c23,c24,c25,c26,c27,c28,c29,c30,c31,c32,c33,c34,c35,c36,c37,rfl⟩
theorem Ay {Q:Nat→K→Prop} (n:Nat) (h:∀i,i<n→∃c,Q i c):∃d:List K,d.length=n∧∀i,i<n→Q i (ae d i):=by
 induction n with
 | zero=>exact⟨[],rfl,fun i hi=>absurd hi (by omega)⟩
 | succ n ih =>
   obtain⟨d,hd,hq⟩:=ih (fun i hi=>h i (by omega));obtain⟨c,hc⟩:=h n (by omega);refine⟨d++[c],by simp[hd],fun i hi => ?_⟩
   by_cases e:i<n
   ·rw[dC _ _ _ (by omega)];exact hq i e
   ·obtain rfl:i=d.length:=by omega
    rw[pu,hd];exact hc
theorem mK {r:Reach} {b0:Nat} {T:TypeId} {fs:Array Field} {v:Value} (ht:Tryz.prog.underlying T=some (.struct fs)) (hval:Value.okWide Tryz.prog w r b0 T v) {d:DataW H} {ps:List MemPlace} (hd:DataW.Trod enc Tryz.prog w ai sp held T v d ps) :
  ∃cs:Array Value,v = .agg cs∧∃fuel,DataW.trod enc Tryz.prog w ai sp held fuel T cs.toList=some (d,ps):=by
 obtain⟨cs,rfl,_⟩:=okWide_struct ht hval;obtain⟨fuel,hf⟩:=hd;exact⟨cs,rfl,fuel,hf⟩
theorem oN {cs:Array Value} {l:List Value} (h:cs.toList=l):cs=l.toArray:=by rw[←h]
end fk
end
section
open Go.ChangeShapes Go.WideShapes Go.ChangeAt Go.RowKit Go.Deep
set_option maxRecDepth 10000
theorem okN {a:Int} (h:(Lit.int .i64 a).wf=true):okI a:=by
 have := J1 h;unfold okI
 omega
theorem YX {a b c d:Int} (ha:(Lit.int .i64 a).wf=true) (hb:(Lit.int .i64 b).wf=true) (hc:(Lit.int .i64 c).wf=true) (hd:(Lit.int .i64 d).wf=true):∀x∈[a,b,c,d],okI x:=by
 intro x hx;simp only[List.mem_cons,List.not_mem_nil,or_false] at hx
 rcases hx with rfl|rfl|rfl|rfl
 ·exact okN ha
 ·exact okN hb
 ·exact okN hc
 ·exact okN hd
theorem YZ {a b c d e f g:Int} {v:List UInt8} {r:Bool} (ha:(Lit.int .i64 a).wf=true) (hb:(Lit.int .i64 b).wf=true) (hc:(Lit.int .i64 c).wf=true) (hd:(Lit.int .i64 d).wf=true) (he:(Lit.int .i64 e).wf=true) (hf:(Lit.int .i64 f).wf=true) (hg:(Lit.int .i64 g).wf=true) :
  ∀x∈bO ⟨a,b,v,c,d,e,f,g,r⟩,okI x:=by
 intro x hx;unfold bO at hx;simp only[List.mem_cons,List.not_mem_nil,or_false] at hx
 rcases hx with rfl|rfl|rfl|rfl|rfl|rfl|rfl|rfl
 ·exact okN ha
 ·exact okN hb
 ·exact okN hc
 ·exact okN hd
 ·exact okN he
 ·exact okN hf
 ·exact okN hg
 ·unfold oG okI;split <;> omega
section
variable {H:Type} {enc:TypeId × Value→H} {w:World} {ai:Nat} {sp:Nat→Bool} {held:Bool}
theorem qm {fuel:Nat} {cs:List Value} {x:DataW H × List MemPlace} (h:DataW.trod enc Tryz.prog w ai sp held fuel 23 cs=some x):∃d:List UInt8,cs=(am d).toList∧d.length=16:=by
 obtain⟨xs,m,_,_,hl,hxs,hh⟩:=DataW.trod_array Tryz.underlying23 h
 have hc:Tryz.prog.cellsOf 23=16:=by kernel_rfl
 have hu:Tryz.prog.cellsOf 5=1:=by kernel_rfl
 rw[hc] at hl;rw[hu] at hh
 have key:∀i,i<16→∃c:UInt8,cs[i]?=some (.int .u8 (B8 c)):=by
  intro i hi;have h1:=hh i hi;rw[K_ (by omega:i<xs.length),Nat.mul_one] at h1;obtain⟨z,hz,_,hw⟩:=DataW.trod_int Tryz.underlying5 h1;obtain⟨c,rfl⟩:=Mm hw;exact⟨c,CN hz⟩
 obtain⟨d,hd,hq⟩:=qf 16 key;refine⟨d,List.ext_getElem? fun i => ?_,hd⟩;have e:(am d).toList=(List.range 16).map (aq d):=rfl;rw[e]
 by_cases hi:i<16
 ·rw[hq i hi];simp[hi,aq]
 ·rw[List.getElem?_eq_none (by omega),List.getElem?_eq_none (by simp;omega)]
theorem Oy {fuel:Nat} {cs:List Value} {x:DataW H × List MemPlace} (h:DataW.trod enc Tryz.prog w ai sp held fuel 86 cs=some x):∃k:K,cs=(kc k).toList∧∀x∈bO k,okI x:=by
 have hl:=iR gB (c:=9) (by kernel_rfl) h;obtain⟨z0,e0,w0⟩:=bR gB h 0 0 (by rw[mE];rfl);obtain⟨z1,e1,w1⟩:=bR gB h 1 1 (by rw[mE];rfl);obtain⟨z2,e2,w2⟩:=kq gB h 2 2 (by rw[mE];rfl);obtain⟨z3,e3,w3⟩:=bR gB h 3 3 (by rw[mE];rfl);obtain⟨z4,e4,w4⟩:=bR gB h 4 4 (by rw[mE];rfl);obtain⟨z5,e5,w5⟩:=bR gB h 5 5 (by rw[mE];rfl);obtain⟨z6,e6,w6⟩:=bR gB h 6 6 (by rw[mE];rfl);obtain⟨z7,e7,w7⟩:=bR gB h 7 7 (by rw[mE];rfl);obtain⟨z8,e8⟩:=A6 gB h 8 8 (by rw[mE];rfl);refine⟨⟨z0,z1,z2,z3,z4,z5,z6,z7,z8⟩,?_,YZ w0 w1 w3 w4 w5 w6 w7⟩;obtain⟨c0,c1,c2,c3,c4,c5,c6,c7,c8,rfl⟩:=QO cs hl
 simp at e0 e1 e2 e3 e4 e5 e6 e7 e8
 subst e0 e1 e2 e3 e4 e5 e6 e7 e8
 rfl
theorem Bn {fuel:Nat} {v:Value} {x:DataW H × List MemPlace} (h:DataW.trod enc Tryz.prog w ai sp held fuel 43 [v]=some x):∃l:List K,RdK w v l∧cQ l:=by
 rcases open_slice Tryz.underlying43 h with⟨hcs,_⟩|⟨a,len,cap,m,n,D,Pl,hcs,_,hl,hm,hmm,_,hi⟩
 ·simp only[List.cons.injEq,and_true] at hcs
  subst hcs;exact⟨[],RdK.nil w,fun i hi=>absurd hi (by simp)⟩
 ·simp only[List.cons.injEq,and_true] at hcs
  subst hcs
  have hle:len≤m:=by rw[hmm];split <;> omega
  have hc:Tryz.prog.cellsOf 86=9:=by kernel_rfl
  rw[hc] at hi
  obtain⟨l,hlen,hq⟩:=Ay (Q:=fun i k=>(∀j,j<9→w.cell? (a.add (i*9+j))=(kc k)[j]?)∧∀x∈bO k,okI x) len (fun i hil=>by
   obtain⟨cs',h1,h2⟩:=hi i (by omega);obtain⟨k,rfl,hwf⟩:=Oy h2;obtain⟨_,_,h3⟩:=World.cells?_some h1;refine⟨k,fun j hj => ?_,hwf⟩;have := h3 j hj
   rw[←Go.Deep.add_add,this,Array.getElem?_toList])
  refine⟨l,⟨some a,cap,by rw[hlen],by omega,hm,fun h0 => ?_⟩,fun i hil=>(hq i (by omega)).2⟩;obtain⟨b,off,spot⟩:=a;have h1:=(hq 0 (by omega)).1 0 (by omega);have hk0:(kc (ae l 0))[0]?=some (.int .i64 (ae l 0).id):=rfl;rw[hk0] at h1
  have hspot:spot=none:=by simpa [Addr.add] using World.cell?_spot h1
  subst hspot
  have gX:∀i,(⟨b,off,none⟩:Addr).add i=⟨b,off+i,none⟩:=by intro i;unfold Addr.add;split <;> simp_all
  refine⟨b,off,rfl,?_,fun j hj i hi9 => ?_⟩
  ·have := World.block_lt_of_cell? _ _ h1
   simpa [Addr.add] using this
  ·have := (hq j (by omega)).1 i hi9
   rw[gX,←Nat.add_assoc] at this;exact this
theorem si {fuel:Nat} {cs:List Value} {x:DataW H × List MemPlace} (h:DataW.trod enc Tryz.prog w ai sp held fuel 45 cs=some x):∃(nx:Int) (v:Value) (l:List K),cs=[.int .i64 nx,v]∧(Lit.int .i64 nx).wf=true∧RdK w v l∧cQ l:=by
 have hl:=iR s5 (c:=2) (by kernel_rfl) h;obtain⟨z0,e0,w0⟩:=bR s5 h 0 0 (by rw[Oj];rfl);obtain⟨n,y,hy⟩:=fld s5 h 1 1 1 (by rw[Oj];rfl) (by kernel_rfl);obtain⟨c0,c1,rfl⟩:=E5 cs hl;obtain⟨l,hr,hw⟩:=Bn (v:=c1) hy
 simp at e0
 subst e0;exact⟨z0,c1,l,rfl,w0,hr,hw⟩
theorem uh {fuel:Nat} {cs:List Value} {x:DataW H × List MemPlace} (h:DataW.trod enc Tryz.prog w ai sp held fuel 47 cs=some x):∃(b:BK) (v:Value) (l:List K),cs=(bc b v).toList∧b.mach∧RdK w v l∧cQ l:=by
 have hl:=iR gW (c:=38) (by kernel_rfl) h;obtain⟨n0,y0,h0⟩:=fld gW h 0 0 16 (by rw[oD];rfl) (by kernel_rfl);obtain⟨d0,f0,g0⟩:=qm h0;obtain⟨z1,e1,w1⟩:=bR gW h 1 16 (by rw[oD];rfl);obtain⟨z2,e2,w2⟩:=bR gW h 2 17 (by rw[oD];rfl);obtain⟨z3,e3,w3⟩:=bR gW h 3 18 (by rw[oD];rfl);obtain⟨z4,e4,w4⟩:=bR gW h 4 19 (by rw[oD];rfl);obtain⟨n5,y5,h5⟩:=fld gW h 5 20 16 (by rw[oD];rfl) (by kernel_rfl);obtain⟨d5,f5,g5⟩:=qm h5;obtain⟨z6,e6,w6⟩:=kq gW h 6 36 (by rw[oD];rfl);obtain⟨n7,y7,h7⟩:=fld gW h 7 37 1 (by rw[oD];rfl) (by kernel_rfl);clear h h0 h5;obtain⟨c0,c1,c2,c3,c4,c5,c6,c7,c8,c9,c10,c11,c12,c13,c14,c15,c16,c17,c18,c19,c20,c21,c22,c23,c24,c25,c26,c27,c28,c29,c30,c31,c32,c33,c34,c35,c36,c37,rfl⟩:=Kt cs hl;obtain⟨l,hr,hw⟩:=Bn (v:=c37) h7;refine⟨⟨d0,z1,z2,z3,z4,d5,z6⟩,c37,l,?_,⟨g0,g5,YX w1 w2 w3 w4,w6⟩,hr,hw⟩;unfold am at f0 f5
 simp at f0 f5 e1 e2 e3 e4 e6
 obtain⟨rfl,rfl,rfl,rfl,rfl,rfl,rfl,rfl,rfl,rfl,rfl,rfl,rfl,rfl,rfl,rfl⟩:=f0;obtain⟨rfl,rfl,rfl,rfl,rfl,rfl,rfl,rfl,rfl,rfl,rfl,rfl,rfl,rfl,rfl,rfl⟩:=f5;subst e1 e2 e3 e4 e6;unfold bc
 rfl
theorem zT {r:Reach} {b0:Nat} {v:Value} {d:DataW H} {ps:List MemPlace} (hval:Value.okWide Tryz.prog w r b0 45 v) (hd:DataW.Trod enc Tryz.prog w ai sp held 45 v d ps) :
  ∃(nx:Int) (u:Value) (l:List K),v = .agg #[.int .i64 nx,u]∧(Lit.int .i64 nx).wf=true∧RdK w u l∧cQ l:=by
 obtain⟨cs,rfl,fuel,hf⟩:=mK s5 hval hd;obtain⟨nx,u,l,hcs,h1,h2,h3⟩:=si hf;exact⟨nx,u,l,by rw[oN hcs],h1,h2,h3⟩
theorem Mi {r:Reach} {b0:Nat} {v:Value} {d:DataW H} {ps:List MemPlace} (hval:Value.okWide Tryz.prog w r b0 47 v) (hd:DataW.Trod enc Tryz.prog w ai sp held 47 v d ps) :
  ∃(b:BK) (u:Value) (l:List K),v = .agg (bc b u)∧b.mach∧RdK w u l∧cQ l:=by
 obtain⟨cs,rfl,fuel,hf⟩:=mK gW hval hd;obtain⟨b,u,l,hcs,h1,h2,h3⟩:=uh hf;exact⟨b,u,l,by rw[oN hcs],h1,h2,h3⟩
theorem DI {fuel:Nat} {cs:List Value} {x:DataW H × List MemPlace} (h:DataW.trod enc Tryz.prog w ai sp held fuel 213 cs=some x) (hx:x.1 = .agg (KK.map fun k => .lit (.int .u32 (W32 k)))):cs=(row KK).toList:=by
 obtain⟨xs,m,_,hxx,hl,hxs,hi⟩:=DataW.trod_array Tryz.underlying213 h
 have hc:Tryz.prog.cellsOf 213=64:=by kernel_rfl
 have hu:Tryz.prog.cellsOf 130=1:=by kernel_rfl
 rw[hc] at hl;rw[hu] at hi
 have e1:xs.map (·.1)=KK.map fun k => .lit (.int .u32 (W32 k)):=by
  rw[hxx] at hx
  simpa using hx
 have hkl:KK.length=64:=lB
 apply List.ext_getElem?
 intro i
 have hr:(row KK).toList=KK.map fun k=>Value.int .u32 (W32 k):=by simp[row]
 rw[hr]
 by_cases hlt:i<64
 ·have h1:=hi i hlt
  rw[K_ (by omega:i<xs.length)] at h1;obtain⟨z,hz,he,_⟩:=DataW.trod_int Tryz.underlying130 h1
  have e2:(xs.map (·.1))[i]? = (KK.map fun k=>(DataW.lit (.int .u32 (W32 k)):DataW H))[i]? := by rw[e1]
  rw[List.getElem?_map,K_ (by omega:i<xs.length),List.getElem?_map,K_ (by omega:i<KK.length),Option.map_some,Option.map_some,he] at e2;simp only[Option.some.injEq,DataW.lit.injEq,Lit.int.injEq,true_and] at e2;rw[List.getElem?_map,K_ (by omega:i<KK.length),Option.map_some,←e2]
  have h2:((cs.drop (i*1)).take 1)[0]?=some (.int .u32 z):=by rw[hz];rfl
  rw[List.getElem?_take,G_ (by omega),List.getElem?_drop,Nat.mul_one,Nat.add_zero] at h2;exact h2
 ·rw[List.getElem?_eq_none (by omega),List.getElem?_eq_none (by rw[List.length_map];omega)]
end
theorem zx (cs:Array Value) (h:cs.toList=(row KK).toList):cs=row KK:=Array.ext' h
end
end Go.Proofs.YtmfiaadjdbemnaaGreatDoor
