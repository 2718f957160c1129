/- Contracts and lemmas. No condition. -/
import Derived.Test.YtmfiaadjdbemnaaGreatDoorSB04
import Derived.Laws.AppendOwn
import Derived.Lib.AppendStr
import Derived.Lib.ConvBytes
set_option maxRecDepth 100000
set_option maxHeartbeats 8000000
set_option linter.unusedSimpArgs false
set_option linter.unusedVariables false
namespace Go.Proofs.YtmfiaadjdbemnaaGreatDoor
open Tryz
section
open Go.RowKit
def brow (l:List UInt8):Array Value:=(bcs l).toArray
def z32:List UInt8:=List.replicate 32 0
theorem MV:(prog.info? 139).map (·.zero)=some (some (.agg (brow z32))):=by kernel_rfl
theorem oy (w:World):(zeroValue 139).run prog w = .ok (.agg (brow z32)) w:=by
 have h:=MV;generalize brow z32=L at h ⊢
 cases hq:prog.info? 139 with
 | none=>rw[hq] at h;cases h
 | some i =>
   rw[hq] at h
   simp at h
   simp[zeroValue,typeInfo,hq,h]
structure SW (w:World) (s:HS) (bk:List UInt8) (n:Nat) (wr:World):Prop where
 b:wr.heap[w.heap.size]?=some (.cells (stc s bk n) 135 (0,0))
 r:wr.heap[w.heap.size+1]?=some (.cells (brow z32) 139 (0,0))
 k:KAt wr
 below:Below w.heap.size w wr
 lb:bk.length=64
theorem SW.keep {w wr w':World} {s:HS} {bk:List UInt8} {n:Nat} (h:SW w s bk n wr) {B:Nat} (hB:w.heap.size+2≤B) (hw:0<w.heap.size) (hb:Below B wr w'):SW w s bk n w' :=
 ⟨by rw[hb.block _ (by omega)];exact h.b,by rw[hb.block _ (by omega)];exact h.r,by unfold KAt;rw[hb.block _ (by omega)];exact h.k,h.below.trans (hb.mono (by omega)),h.lb⟩
def iZ:Value→Nat
 | .slice _ n _=>n
 | _=>0
theorem RdE.form1 {α:Type} {E:El α} {w:World} {v:Value} {l:List α} (h:RdE E w v l) {n:Nat} (hn:l.length=n):∃a cap,v = .slice a n cap:=by
 obtain⟨a,cap,rfl,_⟩:=h;exact⟨a,cap,by rw[hn]⟩
theorem jz (n:Nat):kS n<64:=Nat.mod_lt _ (by decide)
theorem FL (n j:Nat) (hj:j≤kS n):(n+(1+j)) % 64=56↔j=kS n:=by
 unfold kS at *
 omega
theorem KY {w:World} {ai:Nat} (c:UInt8) (hb:ai≤w.heap.size):ap eB (w.alloc (.cells #[.int .u8 (B8 c)] 5)) ai (.slice (some ⟨w.heap.size,0,none⟩) 1 1) [c] :=
 ⟨by simp[El.flat],.inr ⟨w.heap.size,1,#[.int .u8 (B8 c)],rfl,hb,heap_alloc_new _ _,A_ _,by unfold maxLen;omega,by simp,by simp[El.flat]⟩⟩
theorem eF (m:Nat):B8 (UInt8.ofNat m)=(m:Int) % 256:=by
 unfold B8;rw[UInt8.toNat_ofNat']
 omega
theorem b6 {w:World} {v:Value} {l:List UInt8} (h:RdE eB w v l):(convert 80 9 v).run prog w = .ok (.string ⟨l.toArray⟩) w:=by
 obtain⟨a,cap,rfl,h1,h2,h3⟩:=h
 cases a with
 | none =>
   have hl:l=[]:=by
    cases l with
    | nil=>rfl
    | cons x l =>
      obtain⟨b,off,e,_⟩:=h3 (by simp)
      cases e
   subst hl;exact run_convert_bytes_nil w _ _ underlying80 underlying5 _ _ _ underlying9
 | some p =>
   refine run_convert_bytes_back w _ _ _ p cap l underlying80 underlying5 underlying9 (fun j hj => ?_);obtain⟨b,off,e,_,hc⟩:=h3 (by omega)
   cases e
   have gX:(⟨b,off,none⟩:Addr).add j=⟨b,off+j,none⟩:=by unfold Addr.add;split <;> simp_all
   rw[gX,hc j _ (yO l j hj)]
   simp[byteAt,I_,hj,B8]
theorem cI (c:UInt8):B8 c % 256=B8 c:=by
 unfold B8;have := c.toNat_lt
 omega
def mF (s:HS) (i:Nat):List UInt8:=(eb s).take i++List.replicate (32-i) 0
theorem pj (s:HS):(eb s).length=32:=rfl
theorem qI (s:HS) (i:Nat) (hi:i≤32):(mF s i).length=32:=by
 unfold mF;rw[E_,b_,pj,List.length_replicate]
 omega
theorem BD (s:HS):mF s 32=eb s:=by
 unfold mF;rw[Y_ (Nat.le_of_eq (pj s)),Nat.sub_self,List.replicate_zero,List.append_nil]
theorem qd (s:HS) (i:Nat) (hi:i<32) (c:UInt8) (hc:(eb s)[i]?=some c):(brow (mF s i)).setIfInBounds i (.int .u8 (B8 c))=brow (mF s (i+1)):=by
 unfold brow
 apply Array.ext'
 rw[Array.toList_setIfInBounds]
 show (bcs (mF s i)).set i (.int .u8 (B8 c))=bcs (mF s (i+1))
 unfold bcs;rw[←List.map_set (f:=fun x=>Value.int .u8 (B8 x))]
 congr 1
 unfold mF
 have hl:((eb s).take i).length=i:=by rw[b_,pj];omega
 rw[List.set_append_right _ _ (by omega),hl,Nat.sub_self,show 32-i=(32-(i+1))+1 by omega,List.replicate_succ,C_,List.take_add_one,hc]
 simp
theorem QH (s:HS) (q r:Nat) (hq:q<8) (hr:r<4):(eb s)[4*q+r]? = (w4 (w16 (hs s) q))[r]? := by
 rcases (by omega:q=0∨q=1∨q=2∨q=3∨q=4∨q=5∨q=6∨q=7) with rfl|rfl|rfl|rfl|rfl|rfl|rfl|rfl <;>
  (rcases (by omega:r=0∨r=1∨r=2∨r=3) with rfl|rfl|rfl|rfl <;> rfl)
theorem nH (l:List UInt8) (i:Nat) (hi:i<l.length):(brow l)[i]?=some (.int .u8 (B8 (byteAt l i))):=by
 simp[brow,bcs,byteAt,hi]
theorem bV (l:List UInt8):(brow l).size=l.length:=by simp[brow,bcs]
theorem iW (l:List UInt8):((brow l).all fun u=>u.oneCell')=true:=by
 rw[Array.all_eq_true_iff_forall_mem];intro x hx;simp only[brow,bcs,List.mem_toArray,List.mem_map] at hx;obtain⟨y,_,rfl⟩:=hx
 rfl
theorem Sv:(prog.info? 139).map (·.size)=some 32:=by kernel_rfl
theorem ir (l:List UInt8) (h:l.length=32):(prog.info? 139).map (·.size)=some (brow l).size:=by rw[bV,h];exact Sv
structure TW (w:World) (s:HS) (bk:List UInt8) (n g i:Nat) (wr:World):Prop where
 b:wr.heap[w.heap.size]?=some (.cells (stc s bk n) 135 (0,0))
 r:wr.heap[w.heap.size+1]?=some (.cells (brow z32) 139 (0,0))
 o:wr.heap[g]?=some (.cells (brow (mF s i)) 139 (0,0))
 hg:w.heap.size+1<g
 below:Below w.heap.size w wr
 lb:bk.length=64
theorem Mj {w w1 wd:World} {s0 s1:HS} {bk0 bk1:List UInt8} {n n1:Nat} (h:SW w s0 bk0 n w1) (hl:bk1.length=64) (hg:wd.heap[w.heap.size]?=some (.cells (stc s1 bk1 n1) 135 (0,0))) (ho:∀k,k≠w.heap.size→wd.heap[k]? = w1.heap[k]?) (hb:Below w.heap.size w1 wd) :
  TW w s1 bk1 n1 wd.heap.size 0 (wd.alloc (.cells (brow z32) 139)):=by
 have hr:wd.heap[w.heap.size+1]?=some (.cells (brow z32) 139 (0,0)):=by rw[ho _ (by omega)];exact h.r
 have h1:=(Q_.1 hr).1;exact⟨by rw[bx _ _ _ (by omega)];exact hg,by rw[bx _ _ _ h1];exact hr,al _ _ _ rfl,h1,(h.below.trans hb).alloc (by omega) _,hl⟩
theorem TW.next {w wr:World} {s:HS} {bk:List UInt8} {n g i:Nat} (h:TW w s bk n g i wr) (hi:i<32) (c:UInt8) (hc:(eb s)[i]?=some c):TW w s bk n g (i+1) (wr.setCell ⟨g,i,none⟩ (.int .u8 (B8 c))):=by
 have h1:=h.hg;rw[au _ _ _ _ _ _ _ h.o,qd s i hi c hc];exact⟨by rw[aj _ _ _ _ (by omega)];exact h.b,by rw[aj _ _ _ _ (by omega)];exact h.r,setRow_heap _ _ _ _ _ _ h.o,h.hg,h.below.trans (aK (by omega)),h.lb⟩
attribute [local irreducible] Calls stc eJ yK row brow
theorem WV (M : List UInt8) (v : Value) (w : World) (hv : StV M v) (hk : KAt w) (hlen : M.length ≤ 100000000000) :
  Calls prog 69 #[v] w fun e w'=>e = .returned (.agg (brow (sha M)))∧Below w.heap.size w w':=by
 have HSV:=O hv;obtain⟨bk0,rfl,hb0,ht0,-⟩:=hv;have hz:=oy;have hw1:0<w.heap.size:=hk.lt;have HW1:=O hw1;have HLEN:=O hlen
 have H0:Hid (SW w (eJ M (M.length / 64)) bk0 M.length ((w.alloc (.cells (stc (eJ M (M.length / 64)) bk0 M.length) 135)).alloc (.cells (brow z32) 139))):=O
  ⟨by rw[bx _ _ _ (by simp),al _ _ _ rfl],al _ _ _ (by simp),by unfold KAt;rw[bx _ _ _ (by first |(simp;done)|(simp;omega)),bx _ _ _ hw1];exact hk,((O_ _ _).alloc (A_ _) _).alloc (by simp) _,hb0⟩
 have hmul:(8:Int)*(M.length:Int) % 18446744073709551616=((8*M.length:Nat):Int):=by omega
 have c72:((w.alloc (.cells (stc (eJ M (M.length / 64)) bk0 M.length) 135)).alloc (.cells (brow z32) 139)).cell? ⟨w.heap.size,72,none⟩=some (.int .u64 M.length):=by rw[e_ _ _ _ _ _ _ H0.out.b,FB _ _ _ hb0]
 clear hk ht0 hb0;generalize hs0:eJ M (M.length / 64)=s0 at H0 c72 ⊢
 go_enter func69,ntmps69
 go_wp2
 go_loopw [4] (fun o wr=>∃j:Nat,j≤kS M.length∧(∃a cap,o = .slice a (1+j) cap)∧Hid (ap eB wr (w.heap.size+2) o ([128]++List.replicate j 0))∧Hid (SW w s0 bk0 M.length wr)) (fun o _=>70-iZ o)
 case atStart =>
  refine⟨0,N_ _,⟨_,_,rfl⟩,O ?_,O (H0.out.keep (by simp) HW1.out ((O_ _ _).alloc (A_ _) _))⟩;have h:=KY (w:=(w.alloc (.cells (stc s0 bk0 M.length) 135)).alloc (.cells (brow z32) 139)) (ai:=w.heap.size+2) 128 (by simp);rw[show B8 128=128 from rfl] at h
  simpa using h
 case round =>
  obtain⟨j,hj,⟨a,cap,rfl⟩,hown,hsw⟩:=hrel
  have cn:wr.cell? ⟨w.heap.size,72,none⟩=some (.int .u64 M.length):=by rw[e_ _ _ _ _ _ _ hsw.out.b,FB _ _ _ hsw.out.lb]
  have hzl:=jz M.length;have hz1:=FL M.length j hj;have HZ1:=O hz1;have HBS:=O hsw.out.below.size
  have hw2:w.heap.size+2≤wr.heap.size:=by have := (Q_.1 hsw.out.r).1;omega
  have HW2:=O hw2
  have jb:j≤63:=by omega
  have jb2:(j:Int)≤63:=by omega
  have mb:(M.length:Int)≤100000000000:=by omega
  by_cases hq:j=kS M.length
  ·have tq : ((M.length : Int) + (1 + (j : Int))) % 64 = 56 := by have := hz1.2 hq; omega
   have tq2:(((M.length:Int)+(1+(j:Int))) % 64 != 56)=false:=by rw[tq];rfl
   have HQ:=O hq;clear hz1 tq hj hq;go_wp2;have hown1:Hid (ap eB wr (w.heap.size+2) (.slice a (1+j) cap) ([128]++List.replicate (kS M.length) 0)):=O (by rw[←HQ.out];exact hown.out);have HP0:Hid (([128]++List.replicate (kS M.length) 0:List UInt8).length≤64):=O (by have := jz M.length;simp;omega);have HPL:Hid (([128]++List.replicate (kS M.length) 0:List UInt8).length=1+j):=O (by have := HQ.out;simp;omega);generalize hP0':([128]++List.replicate (kS M.length) 0:List UInt8)=P0 at hown1 HP0 HPL;have hP0:=O hP0';clear hP0'
   have hn0:0≤8*(M.length:Int):=by omega
   have hn1:8*(M.length:Int)<18446744073709551616:=by omega
   clear mb hlen hmul;generalize hNI:8*(M.length:Int)=NI at hn0 hn1 ⊢;have HNI:Hid (NI=8*(M.length:Int)):=O hNI.symm;clear hNI
   go_loopw [23,4] (fun o u wr=>∃i:Nat,i≤8∧o = .int .i64 i∧(∃a cap,u = .slice a (1+j+i) cap)∧Hid (ap eB wr (w.heap.size+2) u (P0++(be8 (8*M.length)).take i))∧Hid (SW w s0 bk0 M.length wr)) (fun o _ _=>8-(intOf o).toNat)
   case atStart=>exact⟨0,by omega,rfl,⟨_,_,rfl⟩,by simpa using hown1,hsw⟩
   case round =>
    obtain⟨i,hi,rfl,⟨a2,cap2,rfl⟩,hown2,hsw2⟩:=hrel;have HW3:Hid (w.heap.size+2≤wr.heap.size):=O (by have := (Q_.1 hsw2.out.r).1;omega)
    rcases (by omega:i=0∨i=1∨i=2∨i=3∨i=4∨i=5∨i=6∨i=7∨i=8) with rfl|rfl|rfl|rfl|rfl|rfl|rfl|rfl|rfl
    ·have et:(be8 (8*M.length)).take (0+1)=(be8 (8*M.length)).take 0++[UInt8.ofNat (8*M.length / 2 ^ 56)]:=rfl
     have ev:NI / 72057594037927936 % 256=B8 (UInt8.ofNat (8*M.length / 2 ^ 56)):=by rw[eF,HNI.out];omega
     have ev0:NI / 72057594037927936=B8 (UInt8.ofNat (8*M.length / 2 ^ 56)):=by rw[←ev];omega
     generalize hc:UInt8.ofNat (8*M.length / 2 ^ 56)=c at et ev ev0;have em:B8 c % 256=B8 c:=cI c;have ET:=O et;clear et hc
     go_wp2_with (at_builtin;go_loud (refine br aN rfl (.tmp 26) (.tmp 33) rfl (w.heap.size+2) _ _ rfl (hown2.out.on ((O_ _ _).alloc (A_ _) _)) (.slice (some ⟨wr.heap.size,0,none⟩) 1 1) [c] rfl (bP wr c aN) (by have := HP0.out;simp;omega) (by have := HW3.out;simp;omega) ?_);intro v5 w4 ho4 hg4 hloc;have HB4:=O (((O_ wr.heap.size wr).alloc (A_ _) (.cells #[.int .u8 (B8 c)] 5)).mono HW3.out |>.trans ((hown2.out.on ((O_ _ _).alloc (A_ _) _)).below hg4 (by have := HW3.out;simp;omega)));have HO4:=O ho4;clear ho4 hg4 hloc)
     go_roundw
     case rel=>exact⟨1,by decide,by go_num,HO4.out.rd.form1 (by have := HP0.out;have := HPL.out;simp[be8];omega),O (by have h:=HO4.out;rw[R_,←ET.out] at h;exact h),O (hsw2.out.keep (A_ _) HW1.out HB4.out)⟩
     case measure=>simp[intOf]
    ·have et:(be8 (8*M.length)).take (1+1)=(be8 (8*M.length)).take 1++[UInt8.ofNat (8*M.length / 2 ^ 48)]:=rfl
     have ev:NI / 281474976710656 % 256=B8 (UInt8.ofNat (8*M.length / 2 ^ 48)):=by rw[eF,HNI.out];omega
     skip
     generalize hc:UInt8.ofNat (8*M.length / 2 ^ 48)=c at et ev;have em:B8 c % 256=B8 c:=cI c;have ET:=O et;clear et hc
     go_wp2_with (at_builtin;go_loud (refine br aN rfl (.tmp 26) (.tmp 33) rfl (w.heap.size+2) _ _ rfl (hown2.out.on ((O_ _ _).alloc (A_ _) _)) (.slice (some ⟨wr.heap.size,0,none⟩) 1 1) [c] rfl (bP wr c aN) (by have := HP0.out;simp;omega) (by have := HW3.out;simp;omega) ?_);intro v5 w4 ho4 hg4 hloc;have HB4:=O (((O_ wr.heap.size wr).alloc (A_ _) (.cells #[.int .u8 (B8 c)] 5)).mono HW3.out |>.trans ((hown2.out.on ((O_ _ _).alloc (A_ _) _)).below hg4 (by have := HW3.out;simp;omega)));have HO4:=O ho4;clear ho4 hg4 hloc)
     go_roundw
     case rel=>exact⟨2,by decide,by go_num,HO4.out.rd.form1 (by have := HP0.out;have := HPL.out;simp[be8];omega),O (by have h:=HO4.out;rw[R_,←ET.out] at h;exact h),O (hsw2.out.keep (A_ _) HW1.out HB4.out)⟩
     case measure=>simp[intOf]
    ·have et:(be8 (8*M.length)).take (2+1)=(be8 (8*M.length)).take 2++[UInt8.ofNat (8*M.length / 2 ^ 40)]:=rfl
     have ev:NI / 1099511627776 % 256=B8 (UInt8.ofNat (8*M.length / 2 ^ 40)):=by rw[eF,HNI.out];omega
     skip
     generalize hc:UInt8.ofNat (8*M.length / 2 ^ 40)=c at et ev;have em:B8 c % 256=B8 c:=cI c;have ET:=O et;clear et hc
     go_wp2_with (at_builtin;go_loud (refine br aN rfl (.tmp 26) (.tmp 33) rfl (w.heap.size+2) _ _ rfl (hown2.out.on ((O_ _ _).alloc (A_ _) _)) (.slice (some ⟨wr.heap.size,0,none⟩) 1 1) [c] rfl (bP wr c aN) (by have := HP0.out;simp;omega) (by have := HW3.out;simp;omega) ?_);intro v5 w4 ho4 hg4 hloc;have HB4:=O (((O_ wr.heap.size wr).alloc (A_ _) (.cells #[.int .u8 (B8 c)] 5)).mono HW3.out |>.trans ((hown2.out.on ((O_ _ _).alloc (A_ _) _)).below hg4 (by have := HW3.out;simp;omega)));have HO4:=O ho4;clear ho4 hg4 hloc)
     go_roundw
     case rel=>exact⟨3,by decide,by go_num,HO4.out.rd.form1 (by have := HP0.out;have := HPL.out;simp[be8];omega),O (by have h:=HO4.out;rw[R_,←ET.out] at h;exact h),O (hsw2.out.keep (A_ _) HW1.out HB4.out)⟩
     case measure=>simp[intOf]
    ·have et:(be8 (8*M.length)).take (3+1)=(be8 (8*M.length)).take 3++[UInt8.ofNat (8*M.length / 2 ^ 32)]:=rfl
     have ev:NI / 4294967296 % 256=B8 (UInt8.ofNat (8*M.length / 2 ^ 32)):=by rw[eF,HNI.out];omega
     skip
     generalize hc:UInt8.ofNat (8*M.length / 2 ^ 32)=c at et ev;have em:B8 c % 256=B8 c:=cI c;have ET:=O et;clear et hc
     go_wp2_with (at_builtin;go_loud (refine br aN rfl (.tmp 26) (.tmp 33) rfl (w.heap.size+2) _ _ rfl (hown2.out.on ((O_ _ _).alloc (A_ _) _)) (.slice (some ⟨wr.heap.size,0,none⟩) 1 1) [c] rfl (bP wr c aN) (by have := HP0.out;simp;omega) (by have := HW3.out;simp;omega) ?_);intro v5 w4 ho4 hg4 hloc;have HB4:=O (((O_ wr.heap.size wr).alloc (A_ _) (.cells #[.int .u8 (B8 c)] 5)).mono HW3.out |>.trans ((hown2.out.on ((O_ _ _).alloc (A_ _) _)).below hg4 (by have := HW3.out;simp;omega)));have HO4:=O ho4;clear ho4 hg4 hloc)
     go_roundw
     case rel=>exact⟨4,by decide,by go_num,HO4.out.rd.form1 (by have := HP0.out;have := HPL.out;simp[be8];omega),O (by have h:=HO4.out;rw[R_,←ET.out] at h;exact h),O (hsw2.out.keep (A_ _) HW1.out HB4.out)⟩
     case measure=>simp[intOf]
    ·have et:(be8 (8*M.length)).take (4+1)=(be8 (8*M.length)).take 4++[UInt8.ofNat (8*M.length / 2 ^ 24)]:=rfl
     have ev:NI / 16777216 % 256=B8 (UInt8.ofNat (8*M.length / 2 ^ 24)):=by rw[eF,HNI.out];omega
     skip
     generalize hc:UInt8.ofNat (8*M.length / 2 ^ 24)=c at et ev;have em:B8 c % 256=B8 c:=cI c;have ET:=O et;clear et hc
     go_wp2_with (at_builtin;go_loud (refine br aN rfl (.tmp 26) (.tmp 33) rfl (w.heap.size+2) _ _ rfl (hown2.out.on ((O_ _ _).alloc (A_ _) _)) (.slice (some ⟨wr.heap.size,0,none⟩) 1 1) [c] rfl (bP wr c aN) (by have := HP0.out;simp;omega) (by have := HW3.out;simp;omega) ?_);intro v5 w4 ho4 hg4 hloc;have HB4:=O (((O_ wr.heap.size wr).alloc (A_ _) (.cells #[.int .u8 (B8 c)] 5)).mono HW3.out |>.trans ((hown2.out.on ((O_ _ _).alloc (A_ _) _)).below hg4 (by have := HW3.out;simp;omega)));have HO4:=O ho4;clear ho4 hg4 hloc)
     go_roundw
     case rel=>exact⟨5,by decide,by go_num,HO4.out.rd.form1 (by have := HP0.out;have := HPL.out;simp[be8];omega),O (by have h:=HO4.out;rw[R_,←ET.out] at h;exact h),O (hsw2.out.keep (A_ _) HW1.out HB4.out)⟩
     case measure=>simp[intOf]
    ·have et:(be8 (8*M.length)).take (5+1)=(be8 (8*M.length)).take 5++[UInt8.ofNat (8*M.length / 2 ^ 16)]:=rfl
     have ev:NI / 65536 % 256=B8 (UInt8.ofNat (8*M.length / 2 ^ 16)):=by rw[eF,HNI.out];omega
     skip
     generalize hc:UInt8.ofNat (8*M.length / 2 ^ 16)=c at et ev;have em:B8 c % 256=B8 c:=cI c;have ET:=O et;clear et hc
     go_wp2_with (at_builtin;go_loud (refine br aN rfl (.tmp 26) (.tmp 33) rfl (w.heap.size+2) _ _ rfl (hown2.out.on ((O_ _ _).alloc (A_ _) _)) (.slice (some ⟨wr.heap.size,0,none⟩) 1 1) [c] rfl (bP wr c aN) (by have := HP0.out;simp;omega) (by have := HW3.out;simp;omega) ?_);intro v5 w4 ho4 hg4 hloc;have HB4:=O (((O_ wr.heap.size wr).alloc (A_ _) (.cells #[.int .u8 (B8 c)] 5)).mono HW3.out |>.trans ((hown2.out.on ((O_ _ _).alloc (A_ _) _)).below hg4 (by have := HW3.out;simp;omega)));have HO4:=O ho4;clear ho4 hg4 hloc)
     go_roundw
     case rel=>exact⟨6,by decide,by go_num,HO4.out.rd.form1 (by have := HP0.out;have := HPL.out;simp[be8];omega),O (by have h:=HO4.out;rw[R_,←ET.out] at h;exact h),O (hsw2.out.keep (A_ _) HW1.out HB4.out)⟩
     case measure=>simp[intOf]
    ·have et:(be8 (8*M.length)).take (6+1)=(be8 (8*M.length)).take 6++[UInt8.ofNat (8*M.length / 2 ^ 8)]:=rfl
     have ev:NI / 256 % 256=B8 (UInt8.ofNat (8*M.length / 2 ^ 8)):=by rw[eF,HNI.out];omega
     skip
     generalize hc:UInt8.ofNat (8*M.length / 2 ^ 8)=c at et ev;have em:B8 c % 256=B8 c:=cI c;have ET:=O et;clear et hc
     go_wp2_with (at_builtin;go_loud (refine br aN rfl (.tmp 26) (.tmp 33) rfl (w.heap.size+2) _ _ rfl (hown2.out.on ((O_ _ _).alloc (A_ _) _)) (.slice (some ⟨wr.heap.size,0,none⟩) 1 1) [c] rfl (bP wr c aN) (by have := HP0.out;simp;omega) (by have := HW3.out;simp;omega) ?_);intro v5 w4 ho4 hg4 hloc;have HB4:=O (((O_ wr.heap.size wr).alloc (A_ _) (.cells #[.int .u8 (B8 c)] 5)).mono HW3.out |>.trans ((hown2.out.on ((O_ _ _).alloc (A_ _) _)).below hg4 (by have := HW3.out;simp;omega)));have HO4:=O ho4;clear ho4 hg4 hloc)
     go_roundw
     case rel=>exact⟨7,by decide,by go_num,HO4.out.rd.form1 (by have := HP0.out;have := HPL.out;simp[be8];omega),O (by have h:=HO4.out;rw[R_,←ET.out] at h;exact h),O (hsw2.out.keep (A_ _) HW1.out HB4.out)⟩
     case measure=>simp[intOf]
    ·have et:(be8 (8*M.length)).take (7+1)=(be8 (8*M.length)).take 7++[UInt8.ofNat (8*M.length / 2 ^ 0)]:=rfl
     have ev:NI % 256=B8 (UInt8.ofNat (8*M.length / 2 ^ 0)):=by rw[eF,HNI.out];omega
     skip
     generalize hc:UInt8.ofNat (8*M.length / 2 ^ 0)=c at et ev;have em:B8 c % 256=B8 c:=cI c;have ET:=O et;clear et hc
     go_wp2_with (at_builtin;go_loud (refine br aN rfl (.tmp 26) (.tmp 33) rfl (w.heap.size+2) _ _ rfl (hown2.out.on ((O_ _ _).alloc (A_ _) _)) (.slice (some ⟨wr.heap.size,0,none⟩) 1 1) [c] rfl (bP wr c aN) (by have := HP0.out;simp;omega) (by have := HW3.out;simp;omega) ?_);intro v5 w4 ho4 hg4 hloc;have HB4:=O (((O_ wr.heap.size wr).alloc (A_ _) (.cells #[.int .u8 (B8 c)] 5)).mono HW3.out |>.trans ((hown2.out.on ((O_ _ _).alloc (A_ _) _)).below hg4 (by have := HW3.out;simp;omega)));have HO4:=O ho4;clear ho4 hg4 hloc)
     go_roundw
     case rel=>exact⟨8,by decide,by go_num,HO4.out.rd.form1 (by have := HP0.out;have := HPL.out;simp[be8];omega),O (by have h:=HO4.out;rw[R_,←ET.out] at h;exact h),O (hsw2.out.keep (A_ _) HW1.out HB4.out)⟩
     case measure=>simp[intOf]
    ·have hcv:=b6 hown2.out.rd
     have HSV2:Hid (StV M (.agg (stc s0 bk0 M.length))):=O (by have h:=HSV.out;rw[hs0] at h;exact h)
     have hPD:M++(P0++(be8 (8*M.length)).take 8)=gj M:=by rw[←hP0.out,R_];rfl
     have hPL2:M.length+(P0++(be8 (8*M.length)).take 8).length≤1000000000000:=by
      have h1:=HP0.out;have h2:=HLEN.out;have h3:((be8 (8*M.length)).take 8).length=8:=rfl;rw[E_,h3]
      omega
     have HPL2:=O hPL2;have HPD:=O hPD;clear hPD hPL2 HNI hn0 hn1;generalize P0++(be8 (8*M.length)).take 8=PD at hcv HPL2 HPD hown2
     go_wp2_with (first
      |(refine wpList_load_row rfl 135 (.tmp 1) rfl w.heap.size rfl _ _ (0,0) _ hsw2.out.b underlying135 rfl (r9 _ _ _ hsw2.out.lb) ?_)
      |(go_at_call 67;refine(Qv M PD _ _ HSV2.out hsw2.out.k HPL2.out).mono ?_;rintro e w1 ⟨v1,rfl,⟨bk1,rfl,hbl,-⟩,hb1⟩;rw[HPD.out];have HBL:=O hbl;have SW1:=O (hsw2.out.keep HW3.out HW1.out hb1);clear hbl hb1;generalize hs1:eJ (gj M) ((gj M).length / 64)=s1;generalize hn1:(gj M).length=n1)
      |(refine aM (T:=135) (stc s1 bk1 n1) (r9 _ _ _ HBL.out) rfl (.tmp 1) (.tmp 39) rfl w.heap.size (stc s0 bk0 M.length) rfl rfl (tN _ _ _) (by rw[gA _ _ _ HBL.out,gA _ _ _ SW1.out.lb]) SW1.out.b ?_;intro wd hgd hod hbd;have HT:Hid (TW w s1 bk1 n1 wd.heap.size 0 (wd.alloc (.cells (brow z32) 139))):=(O (Mj SW1.out HBL.out hgd hod (hbd _ (A_ _))));clear hgd hod hbd))
     have HS1:Hid (sha M=eb s1):=O (by rw[←hs1];rfl);clear hs1 hn1 hcv
     go_loopw [40] (fun o wr=>∃i:Nat,i≤32∧o = .int .i64 i∧Hid (TW w s1 bk1 n1 wd.heap.size i wr)) (fun o _=>32-(intOf o).toNat)
     case atStart=>exact⟨0,by omega,rfl,HT⟩
     case round =>
      obtain⟨i,hi,rfl,htw⟩:=hrel
      by_cases h32:i<32
      ·obtain⟨q,r,hqr,hq8,hr4⟩:∃q r,i=4*q+r∧q<8∧r<4:=⟨i / 4,i % 4,by omega,by omega,by omega⟩
       have hcx:wr.cell? ⟨w.heap.size,q,none⟩=some (.int .u32 (W32 (w16 (hs s1) q))):=by rw[e_ _ _ _ _ _ _ htw.out.b,Rj _ _ _ _ hq8]
       have hfz:=frozen_of_row _ _ i _ _ htw.out.o
       have hq:(i:Int) / 4=(q:Int):=by omega
       have hbx:(eb s1)[i]? = (w4 (w16 (hs s1) q))[r]? := by rw[hqr];exact QH s1 q r hq8 hr4
       have hL:i<32:=h32
       have hcell:wr.cell? ⟨wd.heap.size,i,none⟩=some (.int .u8 (B8 (byteAt (mF s1 i) i))):=by
        rw[e_ _ _ _ _ _ _ htw.out.o];exact nH _ _ (by rw[qI _ _ hi];exact h32)
       have hr:(i:Int) % 4=(r:Int):=by omega
       generalize w16 (hs s1) q=x at hcx hbx;have HQR:=O hqr;clear hqr
       rcases (by omega:r=0∨r=1∨r=2∨r=3) with rfl|rfl|rfl|rfl
       ·have HX:Hid ((eb s1)[i]?=some (shr x 24).toUInt8):=O hbx
        clear hbx;go_wp2;go_roundw
        case rel=>exact⟨i+1,h32,by go_num,O (htw.out.next h32 _ HX.out)⟩
        case measure=>simp[intOf];omega
       ·have HX:Hid ((eb s1)[i]?=some (shr x 16).toUInt8):=O hbx
        clear hbx;go_wp2;go_roundw
        case rel=>exact⟨i+1,h32,by go_num,O (htw.out.next h32 _ HX.out)⟩
        case measure=>simp[intOf];omega
       ·have HX:Hid ((eb s1)[i]?=some (shr x 8).toUInt8):=O hbx
        clear hbx;go_wp2;go_roundw
        case rel=>exact⟨i+1,h32,by go_num,O (htw.out.next h32 _ HX.out)⟩
        case measure=>simp[intOf];omega
       ·have HX:Hid ((eb s1)[i]?=some x.toUInt8):=O hbx
        clear hbx;go_wp2;go_roundw
        case rel=>exact⟨i+1,h32,by go_num,O (htw.out.next h32 _ HX.out)⟩
        case measure=>simp[intOf];omega
      ·have h32':i=32:=by omega
       subst h32';have HLX:(mF s1 32).length=32:=qI _ _ (A_ _);clear h32 hi
       go_wp2_with (first
        |(refine wpList_load_row rfl 139 (.tmp 6) rfl wd.heap.size rfl _ _ (0,0) _ htw.out.o underlying139 rfl (ir _ HLX) ?_)
        |(refine aM (T:=139) (brow (mF s1 32)) (ir _ HLX) rfl (.tmp 2) (.tmp 57) rfl (w.heap.size+1) (brow z32) rfl rfl (iW _) (by rw[bV,bV,HLX];rfl) htw.out.r ?_;intro we hge hoe hbe))
       (try simp only[Exit.inBlock,Exit.then])
       refine g_ (results_cell_row rfl _ _ (w.heap.size+1) _ (brow (mF s1 32)) (0,0) _ rfl hge underlying139 rfl (ir _ HLX)) rfl ?_;exact⟨by rw[BD,HS1.out],htw.out.below.trans (hbe _ (by omega))⟩
  ·have tq:¬((M.length:Int)+(1+(j:Int))) % 64=56:=by intro h;exact hq (hz1.1 (by omega))
   have tq2:(((M.length:Int)+(1+(j:Int))) % 64 != 56)=true:=by simpa using tq
   have HJ:Hid (j+1≤kS M.length):=O (by omega);clear hz1 hq tq hj
   go_wp2_with (at_builtin;(refine br aN rfl (.tmp 20) (.tmp 21) rfl (w.heap.size+2) (.slice a (1+j) cap) ([128]++List.replicate j 0) rfl (hown.out.on ((O_ _ _).alloc (A_ _) _)) (.slice (some ⟨wr.heap.size,0,none⟩) 1 1) [0] rfl (bP wr (0:UInt8) aN) (by simp;have := jz M.length;have := HJ.out;omega) (by have := HW2.out;simp;omega) ?_);intro v5 w4 ho4 hg4 hloc;have HB4:=O (((O_ wr.heap.size wr).alloc (A_ _) (.cells #[.int .u8 0] 5)).mono HW2.out |>.trans ((hown.out.on ((O_ _ _).alloc (A_ _) _)).below hg4 (by have := HW2.out;simp;omega)));have HO4:=O ho4;clear ho4 hg4 hloc)
   go_roundw
   case rel=>exact⟨j+1,HJ.out,HO4.out.rd.form1 (by simp;omega),O (by have h:=HO4.out;rw[R_,←List.replicate_succ'] at h;exact h),O (hsw.out.keep (A_ _) HW1.out HB4.out)⟩
   case measure =>
    obtain⟨a5,c5,e5⟩:=HO4.out.rd.form1 (n:=1+j+1) (by simp;omega);have := HJ.out;have := jz M.length
    show 70-iZ v5<70-iZ (.slice a (1+j) cap)
    rw[e5];simp only[iZ]
    omega
end
section
open Go.RowKit
theorem DK (n:Nat):∀M:List UInt8,M.length=n→(lx M).take (M.length % 64)=M.drop (64*(M.length / 64)):=by
 induction n with
 | zero =>
   intro M hM;have : M=[]:=List.length_eq_zero_iff.1 hM;subst this
   rfl
 | succ n ih =>
   intro M hM
   have hne:M≠[]:=by intro e;rw[e] at hM;simp at hM
   have hd:M.dropLast.length=n:=by rw[List.length_dropLast];omega
   rw[←List.dropLast_concat_getLast hne];generalize M.getLast hne=c;generalize M.dropLast=N at hd ⊢;have h:=ih N hd;have hlt:N.length % 64<64:=Nat.mod_lt _ (by decide);rw[yo _ _ (by simp only[List.length_singleton];omega)]
   by_cases h64:N.length % 64+1=64
   ·obtain⟨p1,p2,p3,p4⟩:=Fx N [c] (lx N) (om N) h (by simpa using h64)
    rw[p1,p2,p4,c_]
   ·obtain⟨p1,p2,p3,p4⟩:=Fy N [c] (lx N) (om N) h (by simp only[List.length_singleton];omega)
    rw[p1,p2,p4]
theorem Mb (M:List UInt8):StV M (stv M):=⟨lx M,rfl,om M,DK _ M rfl,rfl⟩
theorem te (w:World):Calls prog 66 #[] w fun e w'=>e = .returned (stv [])∧Below w.heap.size w w':=Ny w
theorem ue (M text:List UInt8) (w:World) (hk:KAt w) (hlen:M.length+text.length≤1000000000000) :
  Calls prog 67 #[stv M,.string ⟨text.toArray⟩] w fun e w'=>e = .returned (stv (M++text))∧Below w.heap.size w w':=by
 refine(Qv M text _ w (Mb M) hk hlen).mono ?_;rintro e w' ⟨v',rfl,hv,hb⟩;exact⟨by rw[hv.eq],hb⟩
theorem FE (M:List UInt8) (w:World) (hk:KAt w) (hlen:M.length≤100000000000) :
  Calls prog 69 #[stv M] w fun e w'=>e = .returned (.agg (brow (sha M)))∧Below w.heap.size w w':=WV M _ w (Mb M) hk hlen
theorem KAt.on {w w':World} (h:KAt w) (hb:Below w.heap.size w w'):KAt w':=by
 have hlt:=h.lt;unfold KAt;rw[hb.block _ hlt];exact h
theorem KAt.alloc {w:World} (h:KAt w) (X:Obj):KAt (w.alloc X):=h.on ((O_ _ _).alloc (A_ _) X)
theorem KAt.later {w:World} (h:KAt w) (u:dj w):KAt u.now:=h.on u.below
attribute [local irreducible] Calls stc eJ yK row brow stv sha
theorem Sq (v:Value) (m:List UInt8) (w:World) (hv:RdE eB w v m) (hk:KAt w) (hlen:m.length≤100000000000) :
  Calls prog 150 #[v] w fun e w'=>e = .returned (.agg (brow (sha m)))∧Below w.heap.size w w':=by
 have hz:=oy;have hcv:∀u:dj (w.alloc (.cells (brow z32) 139)),(convert 80 9 v).run prog u.now = .ok (.string ⟨m.toArray⟩) u.now:=fun u=>b6 ((hv.alloc _).on u.below);have HK:Hid (KAt (w.alloc (.cells (brow z32) 139))):=O (hk.alloc _);have HB:Hid (Below w.heap.size w (w.alloc (.cells (brow z32) 139))):=O ((O_ _ _).alloc (A_ _) _);have HG:Hid ((w.alloc (.cells (brow z32) 139)).heap[w.heap.size]?=some (.cells (brow z32) 139 (0,0))):=O (al _ _ _ rfl)
 have h32:(brow (sha m)).size=32:=by rw[bV,ew]
 have HL:=O hlen;clear hk hlen
 go_enter func150,ntmps150
 go_wp2;generalize w.alloc (.cells (brow z32) 139)=wa at hcv HK HB HG ⊢;refine Rm 5 (by kernel_rfl) (by kernel_rfl) ?_;simp only[F_,c_,J_,L_]
 repeat (first
  | go_big_quiet_step ((go_at_call 66;exact dj.call _ (te _)))
  | go_big_quiet_step ((go_at_call 67;exact dj.call _ (ue [] m _ (HK.out.later _) (by have := HL.out;simp;omega))))
  | go_big_quiet_step ((go_at_call 69;exact dj.call _ (FE m _ (HK.out.later _) HL.out))))
 refine h_ ?_;rintro _ ⟨u,rfl⟩;have HG2:Hid (u.now.heap[w.heap.size]?=some (.cells (brow z32) 139 (0,0))):=O (by rw[u.below.block _ (Q_.1 HG.out).1];exact HG.out)
 go_wp2_with (refine aM (T:=139) (brow (sha m)) (ir _ (ew m)) rfl (.tmp 2) (.tmp 7) rfl w.heap.size (brow z32) rfl rfl (iW _) (by rw[bV,bV,ew];rfl) HG2.out ?_;intro we hge hoe hbe)
 (try simp only[Exit.inBlock,Exit.then])
 refine g_ (results_cell_row rfl _ _ w.heap.size _ (brow (sha m)) (0,0) _ rfl hge underlying139 rfl (ir _ (ew m))) rfl ?_;exact⟨rfl,HB.out.trans ((u.below.mono HB.out.size).trans (hbe _ (A_ _)))⟩
end
section
open Go.RowKit
theorem Ij:(prog.info? 132).map (·.zero)=some (some (.agg (brow zb))):=by kernel_rfl
theorem MZ (w:World):(zeroValue 132).run prog w = .ok (.agg (brow zb)) w:=by
 have h:=Ij;generalize brow zb=L at h ⊢
 cases hq:prog.info? 132 with
 | none=>rw[hq] at h;cases h
 | some i =>
   rw[hq] at h
   simp at h
   simp[zeroValue,typeInfo,hq,h]
def pki (k:List UInt8) (c:UInt8) (i:Nat):List UInt8:=(eC k c).take i++(lay zb 0 k).drop i
theorem cl (k:List UInt8) (c:UInt8):(eC k c).length=64:=by unfold eC;rw[List.length_map,List.length_range]
theorem vm (k:List UInt8) (hk:k.length≤64):(lay zb 0 k).length=64:=zc _ _ _ rfl (by omega)
theorem OC (k:List UInt8) (i:Nat) (hk:k.length≤64) (hi:i<64):(lay zb 0 k)[i]?=some (byteAt k i):=by
 unfold lay byteAt;rw[c_,List.nil_append,a_]
 by_cases h:i<k.length
 ·rw[List.getElem?_append_left h,K_ h,I_,K_ h]
  rfl
 ·rw[List.getElem?_append_right (by omega),List.getElem?_drop,I_,List.getElem?_eq_none (Nat.le_of_not_lt h)]
  have : zb[k.length+(i-k.length)]?=some 0:=by
   unfold zb;rw[List.getElem?_replicate,G_ (by omega)]
  rw[this]
  rfl
theorem Pb (k:List UInt8) (c:UInt8) (i:Nat) (hk:k.length≤64) (hi:i≤64):(pki k c i).length=64:=by
 unfold pki;rw[E_,b_,S_,cl,vm k hk]
 omega
theorem Tg (k:List UInt8) (c:UInt8) (i:Nat) (hk:k.length≤64) (hi:i<64):(pki k c i)[i]?=some (byteAt k i):=by
 unfold pki
 have hl:((eC k c).take i).length=i:=by rw[b_,cl];omega
 rw[List.getElem?_append_right (by omega),hl,Nat.sub_self,List.getElem?_drop,Nat.add_zero,OC k i hk hi]
theorem Pc (k:List UInt8) (c:UInt8) (i:Nat) (hk:k.length≤64) (hi:i<64):(brow (pki k c i)).setIfInBounds i (.int .u8 (B8 (byteAt k i ^^^ c)))=brow (pki k c (i+1)):=by
 unfold brow
 apply Array.ext'
 rw[Array.toList_setIfInBounds]
 show (bcs (pki k c i)).set i (.int .u8 (B8 _))=bcs (pki k c (i+1))
 unfold bcs;rw[←List.map_set (f:=fun x=>Value.int .u8 (B8 x))]
 congr 1
 unfold pki
 have hl:((eC k c).take i).length=i:=by rw[b_,cl];omega
 have hd:i<(lay zb 0 k).length:=by rw[vm k hk];exact hi
 have hp:(eC k c)[i]?=some (byteAt k i ^^^ c):=by
  unfold eC;rw[List.getElem?_map,List.getElem?_range hi]
  rfl
 rw[List.set_append_right _ _ (by omega),hl,Nat.sub_self,List.drop_eq_getElem_cons hd,C_,List.take_add_one,hp]
 simp
theorem Pa (k:List UInt8) (c:UInt8) (hk:k.length≤64):pki k c 64=eC k c:=by
 unfold pki;rw[Y_ (Nat.le_of_eq (cl k c)),List.drop_eq_nil_of_le (Nat.le_of_eq (vm k hk)),List.append_nil]
theorem zy {w:World} {g:Nat} {l:List UInt8} {T:TypeId} (hg:w.heap[g]?=some (.cells (brow l) T (0,0))) (hl:l.length≤1000):RdE eB w (.slice (some ⟨g,0,none⟩) l.length l.length) l:=by
 refine⟨_,l.length,rfl,A_ _,by unfold maxLen;omega,fun _=>⟨g,0,rfl,(Q_.1 hg).1,fun j u hu => ?_⟩⟩;rw[mU] at hu;rw[a_,e_ _ _ _ _ _ _ hg,←hu]
 simp[brow,bcs]
structure PW (w:World) (k:List UInt8) (c:UInt8) (i:Nat) (wr:World):Prop where
 b:wr.heap[w.heap.size]?=some (.cells (brow (pki k c i)) 132 (0,0))
 below:Below w.heap.size w wr
theorem PW.next {w wr:World} {k:List UInt8} {c:UInt8} {i:Nat} (h:PW w k c i wr) (hk:k.length≤64) (hi:i<64):PW w k c (i+1) (wr.setCell ⟨w.heap.size,i,none⟩ (.int .u8 (B8 (byteAt k i ^^^ c)))):=by
 rw[au _ _ _ _ _ _ _ h.b,Pc k c i hk hi];exact⟨setRow_heap _ _ _ _ _ _ h.b,h.below.trans (aK (A_ _))⟩
theorem K6 (k:List UInt8) (c:UInt8):pki k c 0=lay zb 0 k:=by simp[pki]
theorem FU (k:List UInt8) (hk:k.length≤64):((brow zb).toList.take 0++bcs (k.take k.length)++(brow zb).toList.drop (0+k.length)).toArray=brow (lay zb 0 k):=by
 unfold brow lay bcs
 simp[zb]
attribute [local irreducible] Calls brow
theorem BI (k:List UInt8) (c:UInt8) (g:Nat) (w:World) (hg:w.cell? ⟨g,0,none⟩=some (.string ⟨k.toArray⟩)) (hk:k.length≤64) :
  Calls prog 151 #[.int .u8 (B8 c),.pointer (some ⟨g,0,none⟩)] w fun e w'=>e = .returned (.string ⟨(eC k c).toArray⟩)∧Below w.heap.size w w':=by
 have hz:=MZ
 have hlt:g<w.heap.size:=by
  unfold World.cell? at hg
  cases hb:w.heap[g]? with
  | none=>simp[hb] at hg
  | some o=>exact(Q_.1 hb).1
 have hK:=O hk;have HB:Hid (Below w.heap.size w (w.alloc (.cells (brow zb) 132))):=O ((O_ _ _).alloc (A_ _) _);have HG:Hid ((w.alloc (.cells (brow zb) 132)).heap[w.heap.size]?=some (.cells (brow zb) 132 (0,0))):=O (al _ _ _ rfl)
 have hg2:(w.alloc (.cells (brow zb) 132)).cell? ⟨g,0,none⟩=some (.string ⟨k.toArray⟩):=by rw[HB.out.cell (p:=⟨g,0,none⟩) hlt];exact hg
 have hmin:Nat.min k.length 64=k.length:=Nat.min_eq_left hk;have HM:=O hmin;clear hk hmin hg
 go_enter func151,ntmps151
 go_wp2;generalize w.alloc (.cells (brow zb) 132)=wa at hg2 HB HG ⊢;refine dD 2 (by kernel_rfl) (by kernel_rfl) ?_;simp only[F_,c_,J_,L_]
 repeat (go_big_quiet_step (fail))
 refine h_ ?_;rintro _ ⟨n,rfl⟩
 go_wp2_with (refine Jj rfl (.tmp 6) (.tmp 7) rfl k w.heap.size 0 64 64 k.length rfl rfl (brow zb) 132 HG.out HM.out (by rw[bV];have := hK.out;simp[zb];omega) ?_;intro wb hgb hob hbb;have H1:Hid (PW w k c 0 wb):=O ⟨by rw[K6,←FU k hK.out];exact hgb,HB.out.trans ((ak n (O_ _ _)).trans (hbb _ (A_ _)))⟩;clear hgb hob hbb)
 go_loopw [9] (fun o wr=>∃i:Nat,i≤64∧o = .int .i64 i∧Hid (PW w k c i wr)) (fun o _=>64-(intOf o).toNat)
 case atStart=>exact⟨0,by omega,rfl,H1⟩
 case round =>
  obtain⟨i,hi,rfl,hpw⟩:=hrel
  by_cases h64:i<64
  ·have hfz:=frozen_of_row _ _ i _ _ hpw.out.b
   have hcell:wr.cell? ⟨w.heap.size,i,none⟩=some (.int .u8 (B8 (byteAt k i))):=by
    rw[e_ _ _ _ _ _ _ hpw.out.b];have h:=Tg k c i hK.out h64;rw[nH _ _ (by rw[Pb k c i hK.out hi];exact h64)];unfold byteAt at h ⊢;rw[I_,h]
    rfl
   go_wp2;go_roundw
   case rel=>exact⟨i+1,h64,by go_num,O (hpw.out.next hK.out h64)⟩
   case measure=>simp[intOf];omega
  ·have h64':i=64:=by omega
   subst h64';have hb:Hid (wr.heap[w.heap.size]?=some (.cells (brow (eC k c)) 132 (0,0))):=O (by rw[←Pa k c hK.out];exact hpw.out.b)
   have hcv:(convert 80 9 (.slice (some ⟨w.heap.size,0,none⟩) 64 64)).run prog wr = .ok (.string ⟨(eC k c).toArray⟩) wr:=by
    have h:=b6 (zy hb.out (by rw[cl];omega));rw[cl] at h;exact h
   clear h64 hi;go_wp2;go_ret;exact⟨rfl,hpw.out.below⟩
end
section
open Go.RowKit
theorem cw (w:World) (l:List UInt8):(convert 9 80 (.string ⟨l.toArray⟩)).run prog w = .ok (.slice (some ⟨w.heap.size,0,none⟩) l.length (grownCap w l.length 0 5)) (Lib.bytesWorld w 5 ⟨l.toArray⟩) :=
 Lib.run_convert_string_bytes w _ _ _ _ underlying9 underlying80 underlying5
theorem bU (w:World) (l:List UInt8):Below w.heap.size w (Lib.bytesWorld w 5 ⟨l.toArray⟩) :=
 ⟨rfl,rfl,rfl,by rw[Lib.bytesWorld_size];omega,fun k hk=>Lib.bytesWorld_at_old _ _ _ _ hk⟩
theorem fo (w:World) (l:List UInt8) (hl:l.length≤maxLen):RdE eB (Lib.bytesWorld w 5 ⟨l.toArray⟩) (.slice (some ⟨w.heap.size,0,none⟩) l.length (grownCap w l.length 0 5)) l:=by
 refine⟨_,_,rfl,grownCap_ge _ _ _ _,grownCap_le_maxLen _ _ _ _ hl,fun _=>⟨w.heap.size,0,rfl,by rw[Lib.bytesWorld_size];omega,fun j u hu => ?_⟩⟩;rw[mU] at hu
 have hj:j<l.length:=by have := (d_.1 hu).1;rwa [iP] at this
 rw[a_,Lib.bytesWorld_cell _ _ _ _ hj,←hu]
 simp[bcs,B8,hj]
structure MW (w:World) (k:List UInt8) (wr:World):Prop where
 c:wr.cell? ⟨w.heap.size,0,none⟩=some (.string ⟨(bK k).toArray⟩)
 k:KAt wr
 below:Below w.heap.size w wr
theorem MW.later {w wr:World} {k:List UInt8} (h:MW w k wr) (hl:w.heap.size<wr.heap.size) (u:dj wr):MW w k u.now :=
 ⟨by rw[u.below.cell (p:=⟨w.heap.size,0,none⟩) hl];exact h.c,h.k.later u,h.below.trans (u.below.mono h.below.size)⟩
theorem MW.lt {w wr:World} {k:List UInt8} (h:MW w k wr):w.heap.size<wr.heap.size:=by
 have hc:=h.c;unfold World.cell? at hc
 cases hb:wr.heap[w.heap.size]? with
 | none=>simp[hb] at hc
 | some o=>exact(Q_.1 hb).1
theorem MW.on {w wr w':World} {k:List UInt8} (h:MW w k wr) (hb:Below wr.heap.size wr w'):MW w k w':=h.later h.lt ⟨w',hb⟩
theorem SR {w we:World} {k l:List UInt8} {x:Value} (hs:bK k=l) (he:we.heap[w.heap.size]?=some (.cells #[x] 9 (0,0))) (hk:KAt we) (hb:Below w.heap.size w we):MW w k (we.setCell ⟨w.heap.size,0,none⟩ (.string ⟨l.toArray⟩)):=by
 have h1:(0:Nat)≠w.heap.size:=by
  intro e;have h:=hk;unfold KAt at h;obtain⟨t,h⟩:=h;rw[e,he] at h;simp only[Option.some.injEq,Obj.cells.injEq] at h;have hsz:=congrArg Array.size h.1;rw[co,lB] at hsz
  simp at hsz
 rw[au _ _ _ _ _ _ _ he];exact⟨by rw[e_ _ _ _ _ _ _ (setRow_heap _ _ _ _ _ _ he),hs];rfl,by unfold KAt;rw[aj _ _ _ _ h1];exact hk,hb.trans (aK (A_ _))⟩
attribute [local irreducible] Calls brow stv sha
theorem E8 (k t:List UInt8) (w:World) (hk:KAt w) (hl:k.length≤1000000000) (ht:t.length≤1000000000) :
  Calls prog 106 #[.string ⟨k.toArray⟩,.string ⟨t.toArray⟩] w fun e w'=>e = .returned (.string ⟨(mac k t).toArray⟩)∧Below w.heap.size w w':=by
 have hz:=oy;have hmf:∀(fn:Fn) (first cap:Array Value) (w:World),(Instr.makeFunc fn first cap).run prog w = .ok (.func fn first cap) w:=fun _ _ _ _=>rfl;have HL:=O hl;have HT:=O ht;have HA:Hid ((w.alloc (.cells #[.string ⟨k.toArray⟩] 9)).heap[w.heap.size]?=some (.cells #[.string ⟨k.toArray⟩] 9 (0,0))):=O (al _ _ _ rfl);have hca:(w.alloc (.cells #[.string ⟨k.toArray⟩] 9)).cell? ⟨w.heap.size,0,none⟩=some (.string ⟨k.toArray⟩):=e_ _ _ _ _ _ _ HA.out;have HKA:Hid (KAt (w.alloc (.cells #[.string ⟨k.toArray⟩] 9))):=O (hk.alloc _);have HBA:Hid (Below w.heap.size w (w.alloc (.cells #[.string ⟨k.toArray⟩] 9))):=O ((O_ _ _).alloc (A_ _) _);clear hl ht hk
 go_enter func106,ntmps106
 go_upto_region 1 with fail
 generalize w.alloc (.cells #[.string ⟨k.toArray⟩] 9)=wa at HA hca HKA HBA ⊢
 go_upto_if 11 with fail
 go_cut [5,11] from 12 to 16 (fun _ _ wc=>Hid (MW w k wc))
 case first =>
  by_cases h64:k.length≤64
  ·have i1:¬(64:Int)<k.length:=by omega
   have hs:bK k=k:=by unfold bK;rw[G_ h64]
   go_wp2
   all_goals go_meet
   case rel=>exact O ⟨by rw[hs];exact hca,HKA.out,HBA.out⟩
  ·have i1:(64:Int)<k.length:=by omega
   have HS:Hid (bK k=sha k):=O (by unfold bK;rw[H_ h64]);have hcv:=cw wa k;have HSB:=O (bU wa k);have HRD:=O (fo wa k (by have := HL.out;unfold maxLen;omega));generalize Lib.bytesWorld wa 5 ⟨k.toArray⟩=ws at hcv HSB HRD
   go_wp2_with (first
    |(go_at_call 150;refine(Sq _ k _ HRD.out (HKA.out.on HSB.out) (by have := HL.out;omega)).mono ?_;rintro e w1 ⟨rfl,hb1⟩;have HB1:=O ((HSB.out).trans (hb1.mono HSB.out.size));clear hb1)
    |(refine aM (T:=139) (brow (sha k)) (ir _ (ew k)) rfl (.tmp 5) (.tmp 14) rfl w1.heap.size (brow z32) rfl rfl (iW _) (by rw[bV,bV,ew];rfl) (al _ _ _ rfl) ?_;intro we hge hoe hbe;have HB2:Hid (Below wa.heap.size wa we):=(O (HB1.out.trans ((((O_ _ _).alloc (A_ _) _).trans (hbe _ (A_ _))).mono HB1.out.size)));have hcv2:=b6 (zy hge (by rw[ew];omega));rw[ew] at hcv2;have HE:Hid (we.heap[w.heap.size]?=some (.cells #[.string ⟨k.toArray⟩] 9 (0,0))):=(O (by rw[HB2.out.block _ (Q_.1 HA.out).1];exact HA.out));have hce:=e_ _ _ 0 _ _ _ HE.out;have hfe:=frozen_of_row _ _ 0 _ _ HE.out;clear hge hoe hbe))
   go_meet
   case rel=>exact O (SR HS.out HE.out (HKA.out.on HB2.out) (HBA.out.trans (HB2.out.mono HBA.out.size)))
 case rest =>
  have hcc:=hcut.out.c;have HPL:Hid ((bK k).length≤64):=O (by unfold bK;split;assumption;rw[ew];omega);have HPI:Hid (eC (bK k) 54++t=eC (bK k) 54++t):=O rfl;clear hca
  go_upto_region 6 with (first
   |(go_at_call 66;refine(te _).mono ?_;rintro e w1 ⟨rfl,hb1⟩;have H1:=O (hcut.out.on hb1);clear hb1)
   |(go_at_call 151;refine(BI (bK k) 54 w.heap.size _ H1.out.c HPL.out).mono ?_;rintro e w2 ⟨rfl,hb2⟩;have H2:=O (H1.out.on hb2);clear hb2)
   |(go_at_call 67;refine(ue [] (eC (bK k) 54) _ H2.out.k (by rw[cl];decide)).mono ?_;rintro e w3 ⟨rfl,hb3⟩;have H3:=O (H2.out.on hb3);clear hb3;rw[List.nil_append])
   |(go_at_call 67;refine(ue (eC (bK k) 54) t _ H3.out.k (by rw[cl];have := HT.out;omega)).mono ?_;rintro e w4 ⟨rfl,hb4⟩;have H4:=O (H3.out.on hb4);clear hb4)
   |(go_at_call 69;refine(FE (eC (bK k) 54++t) _ H4.out.k (by rw[E_,cl];have := HT.out;omega)).mono ?_;rintro e w5 ⟨rfl,hb5⟩;have H5:=O (H4.out.on hb5);clear hb5;generalize hinn:sha (eC (bK k) 54++t)=inn;have HIN:=O hinn;have HIL:Hid (inn.length=32):=(O (by rw[←hinn];exact ew _));clear hinn)
   |(refine aM (T:=139) (brow inn) (ir _ HIL.out) rfl (.tmp 7) (.tmp 24) rfl w5.heap.size (brow z32) rfl rfl (iW _) (by rw[bV,bV,HIL.out];rfl) (al _ _ _ rfl) ?_;intro w6 hg6 ho6 hb6;have H6:=O (H5.out.on (((O_ _ _).alloc (A_ _) _).trans (hb6 _ (A_ _))));have HG6:=O hg6;clear hg6 ho6 hb6))
  have HPL2:Hid ((eC (bK k) 92).length=64):=O (cl _ _)
  try dsimp only[Act.put]
  refine aY 9 [[],[],[0,1],[0,2],[],[4],[3,5],[6],[]] (SP.of [.eq (stv []),.eq (.func (.func 151) #[] #[.pointer (some ⟨w.heap.size,0,none⟩)]),.eq (.string ⟨(eC (bK k) 92).toArray⟩),.eq (stv (eC (bK k) 92)),.eq (.slice (some ⟨w5.heap.size,0,none⟩) 32 32),.eq (.string ⟨inn.toArray⟩),.eq (stv (eC (bK k) 92++inn)),.eq (.agg (brow (sha (eC (bK k) 92++inn)))),.fresh w.heap.size (brow z32) 139]) (fun _=>undef) ?h1 ?h2 ?h3 ?h4 ?h5 ?h6
  case h1=>kernel_rfl
  case h2=>kernel_rfl
  case h3=>kernel_rfl
  case h4 =>
   simp only[F_,c_]
   repeat (first |exact trivial|refine⟨fun vals v=>by kernel_rfl,?_⟩)
  case h5 =>
   simp only[F_,c_];refine⟨?_,?_,?_,?_,?_,?_,?_,?_,?_,trivial⟩
   all_goals (intro wq hbq vals;simp only[given,SP.of,Nat.reduceAdd,a_,X_,W_];intro Q hQ;simp only[ay,upd,Act.put,B_,C_,D_,Nat.reduceAdd,a_,Nat.reduceEqDiff,if_true,if_false,reduceIte];have HM:=O (H6.out.on hbq);have HBQ:=O hbq;clear hbq)
   ·go_wp2_with (go_at_call 66;refine(te _).mono ?_;rintro e x1 ⟨rfl,hx1⟩)
    exact ab hQ _ (by kernel_rfl) hx1 rfl
   ·go_wp2
    exact ab hQ _ (by kernel_rfl) (O_ _ _) rfl
   ·go_wp2_with (go_at_call 151;refine(BI (bK k) 92 w.heap.size _ HM.out.c HPL.out).mono ?_;rintro e x1 ⟨rfl,hx1⟩)
    exact ab hQ _ (by kernel_rfl) hx1 rfl
   ·go_wp2_with (go_at_call 67;refine(ue [] (eC (bK k) 92) _ HM.out.k (by rw[cl];decide)).mono ?_;rintro e x1 ⟨rfl,hx1⟩)
    exact ab hQ _ (by kernel_rfl) hx1 rfl
   ·go_wp2
    exact ab hQ _ (by kernel_rfl) (O_ _ _) rfl
   ·have hcv:=b6 (zy (w:=wq) (g:=w5.heap.size) (l:=inn) (T:=139) (by rw[HBQ.out.block _ (Q_.1 HG6.out).1];exact HG6.out) (by rw[HIL.out];omega))
    rw[HIL.out] at hcv;go_wp2;exact ab hQ _ (by kernel_rfl) (O_ _ _) rfl
   ·go_wp2_with (go_at_call 67;refine(ue (eC (bK k) 92) inn _ HM.out.k (by rw[cl,HIL.out];decide)).mono ?_;rintro e x1 ⟨rfl,hx1⟩)
    exact ab hQ _ (by kernel_rfl) hx1 rfl
   ·go_wp2_with (go_at_call 69;refine(FE (eC (bK k) 92++inn) _ HM.out.k (by rw[E_,cl,HIL.out];decide)).mono ?_;rintro e x1 ⟨rfl,hx1⟩)
    exact ab hQ _ (by kernel_rfl) hx1 rfl
   ·go_wp2
    exact ab hQ _ (by kernel_rfl) ((O_ _ _).alloc (A_ _) _) ⟨wq.heap.size,rfl,HM.out.below.size,al _ _ _ rfl⟩
  case h6 =>
   intro wq hbq vals
   show given _ _ _ [0,1,2,3,4,5,6,7,8] _
   simp only[given,SP.of,SP.fresh,X_,W_];rintro _ ⟨g,rfl,hg1,hg2⟩;simp only[F_,c_,J_,L_];simp only[ay,upd,Act.put,B_,C_,D_,Nat.reduceAdd,a_,Nat.reduceEqDiff,if_true,if_false,reduceIte];have HM:=O (H6.out.on hbq);have HG1:=O hg1;have HG2:=O hg2;clear hbq hg1 hg2;have HMC:Hid (sha (eC (bK k) 92++inn)=mac k t):=O (by rw[←HIN.out];rfl);rw[HMC.out];have HML:Hid ((mac k t).length=32):=O (ju k t);generalize mac k t=mk at HMC HML ⊢;have HME:Hid (mac k t=mk):=O (by rw[←HMC.out,←HIN.out];rfl)
   go_wp2_with (refine aM (T:=139) (brow mk) (ir _ HML.out) rfl (.tmp 8) (.tmp 32) rfl g (brow z32) rfl rfl (iW _) (by rw[bV,bV,HML.out];rfl) HG2.out ?_;intro w9 hg9 ho9 hb9;have hcv:=b6 (zy hg9 (by rw[HML.out];omega));rw[HML.out] at hcv;have HB9:=O (HM.out.below.trans (hb9 _ HG1.out));clear hg9 ho9 hb9)
   go_ret;exact⟨by rw[HME.out];rfl,HB9.out⟩
end
section
open Go.RowKit
theorem zQ (l:List UInt8):Lib.strCells ⟨l.toArray⟩=eB.flat l:=by rw[mU];rfl
theorem D8 {w:World} {ops:Array Oper} {rest:List Oper} {o:Oper} {a:Act} {Q:Exit→Act→World→Prop} (hgd:o.guard=none) (s x:Operand)
  (ho:o.op = .call { callee := .builtin .append,args := #[s,x],argTypes := #[80,9] })
  (ai:Nat) (v:Value) (l:List UInt8) (hs:a.eval s=v) (hown:ap eB w ai v l) (t:List UInt8) (hx:a.eval x = .string ⟨t.toArray⟩)
  (hsz:l.length+t.length≤1000000000) (hbase:ai≤w.heap.size)
  (h:∀v' w',ap eB w' ai v' (l++t)→w.grownBy w' v.ownBlock→wpList prog ops Q rest (a.put o.dst v') w'):wpList prog ops Q (o::rest) a w:=by
 obtain⟨i0,z0,hi,hz,hs9,hz9,hb0,hb1⟩:=aN.info'
 have hz2:(prog.info? 5).map (fun i=>(i.zero,i.bytes))=some (some (.int .u8 0),1):=by kernel_rfl
 have hi':prog.info? 5=some i0:=hi;rw[hi'] at hz2;simp only[Option.map_some,Option.some.injEq,Prod.mk.injEq] at hz2
 obtain⟨v',w',hrun,h1,h2,_⟩:=Lib.run_append_own_string (P:=prog) w ai 80 9 o.type 5 i0 underlying80 underlying9 hi' hz2.1 hs9 hz2.2 v l.length (eB.flat l) hown ⟨t.toArray⟩
  (by show l.length+t.length≤maxLen;unfold maxLen;omega) (by show l.length+t.length≤_;omega) hbase
 refine wpList_plain hgd fun K hK => ?_;unfold Oper.wp execOp;simp only[ho,resolve,invoke,builtin,Sem.run_bind,Sem.run_pure,Result.andThen_ok,List.map_toArray,List.map_cons,List.map_nil,hs,hx,hrun];refine hK _ _ (h _ _ ?_ h2);have h3:w'.ownsRow ai 5 1 v' (l.length+t.length) (eB.flat l++Lib.strCells ⟨t.toArray⟩):=h1;rw[zQ,←El.flat_append] at h3;unfold ap;rw[E_];exact h3
open Go.RowKit
def nb (m:Nat):Nat :=
 if m=0 then 0 else if m<256 then 1 else if m<65536 then 2 else if m<16777216 then 3 else if m<4294967296 then 4 else if m<1099511627776 then 5 else if m<281474976710656 then 6 else if m<72057594037927936 then 7 else 8
theorem lh (m:Nat):nb m≤8:=by unfold nb;repeat' split <;> try omega
theorem nh (m k:Nat) (hk:k≤8) (h1:m<256 ^ k) (h2:k=0∨256 ^ (k-1)≤m):nb m=k:=by
 unfold nb
 rcases (by omega:k=0∨k=1∨k=2∨k=3∨k=4∨k=5∨k=6∨k=7∨k=8) with rfl|rfl|rfl|rfl|rfl|rfl|rfl|rfl|rfl <;> simp at h1 h2 <;> (repeat' split) <;> omega
theorem QS (m:Nat) (hm:m<18446744073709551616):m<256 ^ nb m:=by
 unfold nb
 (repeat' split) <;> simp <;> omega
theorem Wj (m:Nat):nb m=0∨256 ^ (nb m-1)≤m:=by
 unfold nb
 (repeat' split) <;> simp <;> omega
def beN (m k:Nat):List UInt8:=(List.range k).map fun i=>UInt8.ofNat (m / 256 ^ (k-1-i))
def jg (m:Nat) (f:UInt8):List UInt8:=(UInt8.ofNat (128+nb m) ^^^ f)::(beN m (nb m)).map (· ^^^ f)
def bF (n:Int):List UInt8:=if 0≤n then jg n.toNat 0 else jg (-1-n).toNat 255
def aV (s:List UInt8):List UInt8:=bF s.length++s
theorem td (m k:Nat):(beN m k).length=k:=by unfold beN;rw[List.length_map,List.length_range]
theorem bZ (m:Nat) (f:UInt8):(jg m f).length=1+nb m:=by unfold jg;rw[Z_,List.length_map,td];omega
theorem N5 (m:Nat) (f:UInt8):(jg m f).length≤9:=by rw[bZ];have := lh m;omega
theorem cg (n:Int):(bF n).length≤9:=by unfold bF;split <;> exact N5 _ _
theorem uP (m:Nat) (f:UInt8):(jg m f).take 1=[UInt8.ofNat (128+nb m) ^^^ f]:=rfl
theorem fT (m:Nat) (f:UInt8) (r:Nat) (h1:1≤r) (h2:r≤nb m):(jg m f).take (1+(nb m-(r-1)))=(jg m f).take (1+(nb m-r))++[UInt8.ofNat (m / 256 ^ (r-1)) ^^^ f]:=by
 have e:1+(nb m-(r-1))=(1+(nb m-r))+1:=by omega
 rw[e,List.take_add_one]
 congr 1
 unfold jg;rw[show 1+(nb m-r)=(nb m-r)+1 by omega,List.getElem?_cons_succ];unfold beN;rw[List.getElem?_map,List.getElem?_map,List.getElem?_range (by omega)];simp only[Option.map_some];rw[show nb m-1-(nb m-r)=r-1 by omega]
 rfl
theorem xk (m:Nat) (f:UInt8):(jg m f).take (1+(nb m-0))=jg m f:=Y_ (by rw[bZ];omega)
end
end Go.Proofs.YtmfiaadjdbemnaaGreatDoor
