/- Contracts and lemmas. No condition. -/
import Derived.Test.YtmfiaadjdbemnaaGreatDoorSB02
import Derived.Deep.CutRange
import Derived.Laws.Cover3
set_option maxRecDepth 100000
set_option maxHeartbeats 8000000
set_option linter.unusedSimpArgs false
set_option linter.unusedVariables false
namespace Go.Proofs.YtmfiaadjdbemnaaGreatDoor
open Tryz
section
variable {ops:Array Oper} {rest:List Oper} {o:Oper} {a:Act} {w:World} {Q:Exit→Act→World→Prop}
section
open Go.RowKit
theorem KF (n:Nat) (h0:0<n) (h:n<32):IntKind.u64.wrap (-(n:Int))=18446744073709551616-(n:Int):=by
 rw[IntKind.wrap_u64]
 omega
theorem OP (n:Nat) (h0:0<n) (h:n<32):bits BinOp.and IntKind.u64 (18446744073709551616-(n:Int)) 31=((32-n:Nat):Int):=by
 have e1:(18446744073709551616:Int)-(n:Int)=((18446744073709551616-n:Nat):Int):=by omega
 have : bits BinOp.and IntKind.u64 ((18446744073709551616-n:Nat):Int) ((31:Nat):Int)=(((18446744073709551616-n) &&& 31:Nat):Int):=u64_and_nat _ 31 (by omega) (by omega);rw[e1]
 have e:(18446744073709551616-n) &&& 31=32-n:=by rw[Nat.and_two_pow_sub_one_eq_mod _ 5];omega
 rw[e] at this;exact this
attribute [local irreducible] Calls
theorem pE (x:UInt32) (n:Nat) (h0:0<n) (h:n<32) (w:World) :
  Calls prog 178 #[.int .u32 (W32 x),.int .i64 (-(n:Int))] w fun e w'=>e = .returned (.int .u32 (W32 (rr x n)))∧w'=w:=by
 have hw:=KF n h0 h;have hb:=OP n h0 h;have e1:=jY x (32-n);have e2:=iu x n
 have i1:(32:Int)-((32-n:Nat):Int)=(n:Int):=by omega
 have i2:((32-n:Nat):Int)<32:=by omega
 have i3:((32-n:Nat):Int).toNat=32-n:=rfl
 go_enter func178,ntmps178
 go_wp2;go_ret;exact⟨nT (by unfold rr;exact UInt32.or_comm _ _),rfl⟩
theorem QQ (x:UInt32) (i j k:Nat) (i0:0<i) (i1:i<32) (j0:0<j) (j1:j<32) (k0:0<k) (k1:k<32) (w:World) :
  Calls prog 158 #[.int .u32 (W32 x),.int .i64 (i:Int),.int .i64 (j:Int),.int .i64 (k:Int)] w fun e w'=>e = .returned (.int .u32 (W32 (KB x i j k)))∧w'=w:=by
 have hi:=pE x i i0 i1;have hj:=pE x j j0 j1;have hk:=pE x k k0 k1;have HI:=O hi;have HJ:=O hj;have HK:=O hk
 have n1:IntKind.i64.wrap (-(i:Int)) = -(i:Int):=by rw[IntKind.wrap_i64];omega
 have n2:IntKind.i64.wrap (-(j:Int)) = -(j:Int):=by rw[IntKind.wrap_i64];omega
 have n3:IntKind.i64.wrap (-(k:Int)) = -(k:Int):=by rw[IntKind.wrap_i64];omega
 clear hi hj hk;have tok1:True:=trivial;have tok2:True:=trivial
 go_enter func158,ntmps158
 go_wp2_with (first
  |(go_at_call 178;clear tok1;refine(HI.out _).mono ?_;rintro e _ ⟨rfl,rfl⟩)
  |(go_at_call 178;clear tok2;refine(HJ.out _).mono ?_;rintro e _ ⟨rfl,rfl⟩)
  |(go_at_call 178;refine(HK.out _).mono ?_;rintro e _ ⟨rfl,rfl⟩))
 go_ret;exact⟨rfl,rfl⟩
end
section
open Go.RowKit
abbrev eB:El UInt8:=⟨5,80,1,fun x=>[.int .u8 (B8 x)]⟩
theorem aN:eB.OK:=⟨underlying80,by kernel_rfl,fun _=>rfl,fun x u hu=>by simp at hu;rw[hu];rfl,by decide⟩
theorem wT (l:List UInt8) (j:Nat) (h:j<l.length):byteAt l j=l[j]:=by simp[byteAt,h]
theorem yO (l:List UInt8) (j:Nat) (h:j<l.length):(eB.flat l)[j]?=some (.int .u8 (B8 (byteAt l j))):=by
 have := El.flat_at aN l j 0 h (by decide);rw[Nat.mul_one,Nat.add_zero] at this;rw[this,wT l j h]
 rfl
theorem fp {w:World} {a:Option Addr} {n cap:Nat} {l:List UInt8} (h:RdE eB w (.slice a n cap) l):0<l.length→∃b off,a=some ⟨b,off,none⟩∧b<w.heap.size∧∀j,j<l.length→w.cell? ⟨b,off+j,none⟩=some (.int .u8 (B8 (byteAt l j))):=by
 obtain⟨a',c',e,_,_,h3⟩:=h
 cases e
 intro h0;obtain⟨b,off,rfl,hlt,hc⟩:=h3 h0;exact⟨b,off,rfl,hlt,fun j hj=>hc j _ (yO l j hj)⟩
def z64:List UInt32:=List.replicate 64 0
def ext (b:List UInt8) (t:Nat):List UInt32:=sch b t++List.replicate (64-t) 0
theorem yT (b:List UInt8) (t:Nat) (h:t≤64):(ext b t).length=64:=by unfold ext;rw[E_,iT,List.length_replicate];omega
theorem ED (b:List UInt8) (t:Nat) (x:UInt32) (h:t<64):(ext b t).set t x=sch b t++(x::List.replicate (63-t) 0):=by
 unfold ext;rw[List.set_append_right _ _ (by rw[iT];exact A_ _),iT,Nat.sub_self,show 64-t=(63-t)+1 by omega,List.replicate_succ]
 rfl
theorem qq (b:List UInt8) (t:Nat) (h:t<64) (x:UInt32) (hx:x=if t<16 then wordAt b t else xP (sch b t)):(ext b t).set t x=ext b (t+1):=by
 rw[ED b t x h,hx];unfold ext;rw[sch,R_,show 64-(t+1)=63-t by omega]
 rfl
theorem ext_at (b:List UInt8) (t i:Nat) (h:i<t):w16 (ext b t) i=wd (sch b t) i:=by
 unfold w16 wd ext;rw[I_,I_,List.getElem?_append_left (by rw[iT];exact h)]
theorem My (l:List UInt32) (i:Nat) (x:UInt32) (h:i<l.length):w16 (l.set i x) i=x:=by rw[Ad l i i x h,G_ rfl]
def sP (b:List UInt8) (t:Nat):Nat→UInt32
 | 0=>0
 | m+1=>shl (sP b t m) 8 ||| (byteAt b (4*t+m)).toUInt32
theorem Hr:shl 0 8=0:=by decide
theorem Ha (b:List UInt8) (t:Nat):sP b t 4=wordAt b t:=by
 unfold wordAt be4;simp only[sP,Hr,Nat.add_zero,UInt32.zero_or]
theorem MX:(prog.info? 213).map (·.zero)=some (some (.agg (row z64))):=by kernel_rfl
theorem tT (w:World):(zeroValue 213).run prog w = .ok (.agg (row z64)) w:=by
 have h:=MX;generalize row z64=L at h ⊢
 cases hq:prog.info? 213 with
 | none=>rw[hq] at h;cases h
 | some i =>
   rw[hq] at h
   simp at h
   simp[zeroValue,typeInfo,hq,h]
theorem AV (b:List UInt8):z64=ext b 0:=rfl
theorem AU (b:List UInt8):ext b 64=sch b 64:=by unfold ext;simp
theorem Sw:(prog.info? 213).map (·.size)=some 64:=by kernel_rfl
theorem zI (s:List UInt32) (h:s.length=64):(prog.info? 213).map (·.size)=some (row s).size:=by rw[co,h];exact Sw
theorem Kl (hgd:o.guard=none) (x:Operand) (ho:o.op = .load 213 x)
  (g:Nat) (hx:a.eval x = .pointer (some ⟨g,0,none⟩)) (s:List UInt32) (T:TypeId) (hg:w.heap[g]?=some (.cells (row s) T (0,0))) (hl:s.length=64)
  (h:wpList prog ops Q rest (a.put o.dst (.agg (row s))) w):wpList prog ops Q (o::rest) a w :=
 wpList_load_row hgd _ x ho g hx T (row s) (0,0) _ hg underlying213 rfl (zI s hl) h
theorem L6 (hgd:o.guard=none) (x y:Operand) (ho:o.op = .store 213 x y)
  (g:Nat) (s:List UInt32) (hx:a.eval x = .pointer (some ⟨g,0,none⟩)) (hy:a.eval y = .agg (row s)) (T:TypeId) (old:Array Value) (hg:w.heap[g]?=some (.cells old T (0,0))) (hold:old.size=64) (hl:s.length=64)
  (h:wpList prog ops Q rest (a.put o.dst undef) (w.setRow g (row s))):wpList prog ops Q (o::rest) a w :=
 wpList_store_row hgd _ x y ho g (row s) hx hy T old hg (zI s hl) (by rw[co,hl,hold]) (l7 s) h
theorem Lm {fn:Func} {p:Tmp} (h:fn.results = #[.cell p 213]) (tmps:Array Value) (w:World) (g:Nat) (T:TypeId) (s:List UInt32)
  (hp:tmps.getD p undef = .pointer (some ⟨g,0,none⟩)) (hg:w.heap[g]?=some (.cells (row s) T (0,0))) (hl:s.length=64):(results fn tmps).run prog w = .ok (.agg (row s)) w :=
 results_cell_row h tmps w g T (row s) (0,0) _ hp hg underlying213 rfl (zI s hl)
theorem JI (b:List UInt8) (t:Nat) (h:t<64):(ext b t).set t (sP b t 0)=ext b t:=by
 rw[ED b t _ h];unfold ext;rw[show 64-t=(63-t)+1 by omega,List.replicate_succ]
 rfl
theorem tS:z64.length=64:=by unfold z64;rw[List.length_replicate]
@[go_sem] theorem Xd (x:UInt32):W32 x / 8=W32 (shr x 3):=iu x 3
@[go_sem] theorem UP (x:UInt32):W32 x / 1024=W32 (shr x 10):=iu x 10
theorem xQ (b:List UInt8) (t:Nat):xP (sch b t)=wd (sch b t) (t-16)+sg0 (wd (sch b t) (t-15))+wd (sch b t) (t-7)+sg1 (wd (sch b t) (t-2)):=by
 unfold xP;rw[iT]
attribute [local irreducible] Calls
theorem DD (v:Value) (b:List UInt8) (w:World) (hv:RdE eB w v b) (hb:b.length=64) :
  Calls prog 157 #[v] w fun e w'=>e = .returned (.agg (row (sch b 64)))∧Below w.heap.size w w':=by
 have HV:=O hv;obtain⟨a,cap,rfl,hcap,hcm,_⟩:=hv;obtain⟨bb,off,rfl,hbl,aO⟩:=fp HV.out (by omega);rw[hb] at HV hcap ⊢;unfold maxLen at hcm;have HROW:=O aO;clear aO;have hz:=tT
 go_enter func157,ntmps157
 go_wp2;rw[AV b]
 go_loopw [11] (fun i wr=>∃t:Nat,t≤64∧i = .int .i64 t∧∃n,wr=((w.alloc (.cells (row z64) 213)).alloc (.cells (row (ext b t)) 213)).drewN n) (fun i _=>64-(intOf i).toNat)
 case atStart=>exact⟨0,by omega,rfl,0,rfl⟩
 case round =>
  obtain⟨t,ht,rfl,n,rfl⟩:=hrel;clear hz;have hel:=yT b t ht
  by_cases hlt:t<64
  ·have hd:decide ((t:Int)<64)=true:=by simp;omega
   by_cases h16:t<16
   ·have hd2:decide ((t:Int)<16)=true:=by simp;omega
    have yc:¬cap=4*t:=by omega
    have yd:¬(cap:Int)=4*(t:Int):=by omega
    have wm:IntKind.i64.wrap (4*(t:Int))=4*(t:Int):=by rw[IntKind.wrap_i64];omega
    have wa:IntKind.i64.wrap (4*(t:Int)+4)=4*(t:Int)+4:=by rw[IntKind.wrap_i64];omega
    go_wp2
    go_loopw [24] (fun i wr=>∃m:Nat,m≤4∧i = .int .i64 m∧∃n,wr=((w.alloc (.cells (row z64) 213)).alloc (.cells (row ((ext b t).set t (sP b t m))) 213)).drewN n) (fun i _=>4-(intOf i).toNat)
    case atStart=>exact⟨0,by omega,rfl,n,by rw[JI b t hlt]⟩
    case round =>
     obtain⟨m,hm,rfl,n,rfl⟩:=hrel
     by_cases hm4:m<4
     ·have hd3:decide ((m:Int)<4)=true:=by simp;omega
      have hix:m<4*t+4-4*t:=by omega
      have hcm4:=HROW.out (4*t+m) (by omega);rw[show off+(4*t+m)=off+4*t+m by omega] at hcm4
      have hs1:((ext b t).set t (sP b t m)).length=64:=by rw[List.length_set,hel]
      have hsame:=My (ext b t) t (sP b t m) (by omega);go_wp2;go_roundw
      case rel=>exact⟨m+1,by omega,by go_num,n,rfl⟩
      case measure=>simp[intOf];omega
     ·have he:m=4:=by omega
      subst he
      have hd3:decide (((4:Nat):Int)<4)=false:=by decide
      go_wp2;go_roundw
      case rel=>exact⟨t+1,by omega,by go_num,n,by rw[qq b t hlt (sP b t 4) (by rw[G_ h16,Ha])]⟩
      case measure=>simp[intOf];omega
   ·have hd2:decide ((t:Int)<16)=false:=by simp;omega
    have q15:(t:Int)-15=((t-15:Nat):Int):=by omega
    have q2:(t:Int)-2=((t-2:Nat):Int):=by omega
    have q16:(t:Int)-16=((t-16:Nat):Int):=by omega
    have q7:(t:Int)-7=((t-7:Nat):Int):=by omega
    have i15:t-15<64:=by omega
    have i2:t-2<64:=by omega
    have i16:t-16<64:=by omega
    have i7:t-7<64:=by omega
    have r7:∀(x:UInt32) (w:World),Calls prog 178 #[.int .u32 (W32 x),.int .i64 (-7)] w fun e w'=>e = .returned (.int .u32 (W32 (rr x 7)))∧w'=w:=fun x w=>pE x 7 (by omega) (by omega) w;have r18:∀(x:UInt32) (w:World),Calls prog 178 #[.int .u32 (W32 x),.int .i64 (-18)] w fun e w'=>e = .returned (.int .u32 (W32 (rr x 18)))∧w'=w:=fun x w=>pE x 18 (by omega) (by omega) w;have r17:∀(x:UInt32) (w:World),Calls prog 178 #[.int .u32 (W32 x),.int .i64 (-17)] w fun e w'=>e = .returned (.int .u32 (W32 (rr x 17)))∧w'=w:=fun x w=>pE x 17 (by omega) (by omega) w;have r19:∀(x:UInt32) (w:World),Calls prog 178 #[.int .u32 (W32 x),.int .i64 (-19)] w fun e w'=>e = .returned (.int .u32 (W32 (rr x 19)))∧w'=w:=fun x w=>pE x 19 (by omega) (by omega) w;go_wp2
    go_quiet (fail)
    go_wp2_with (first
     |(go_at_call 178;refine(r7 _ _).mono ?_;rintro e _ ⟨rfl,rfl⟩)
     |(go_at_call 178;refine(r18 _ _).mono ?_;rintro e _ ⟨rfl,rfl⟩)
     |(go_at_call 178;refine(r17 _ _).mono ?_;rintro e _ ⟨rfl,rfl⟩)
     |(go_at_call 178;refine(r19 _ _).mono ?_;rintro e _ ⟨rfl,rfl⟩))
    refine dJ 15 (by kernel_rfl) (by kernel_rfl) ?_;simp only[F_,c_,J_,L_]
    repeat (go_big_quiet_step (fail))
    refine h_ ?_;rintro _ ⟨nq2,rfl⟩;go_wp2;go_roundw
    case rel =>
     refine⟨t+1,by omega,by go_num,nq2,?_⟩;rw[←qq b t hlt (xP (sch b t)) (by rw[H_ h16]),xQ,←ext_at b t (t-16) (by omega),←ext_at b t (t-15) (by omega),←ext_at b t (t-7) (by omega),←ext_at b t (t-2) (by omega)]
     rfl
    case measure=>simp[intOf];omega
  ·have he:t=64:=by omega
   subst he
   go_wp2_with (first
    |(refine Kl rfl (.tmp 3) rfl _ rfl _ 213 (dL _ _ _ _) hel ?_)
    |(refine L6 rfl (.tmp 2) (.tmp 78) rfl _ _ rfl rfl 213 _ (cF _ _ _ _) (by rw[co];exact tS) hel ?_))
   refine g_ (v := .agg (row _)) (Lm rfl _ _ _ _ _ rfl (setRow_heap _ _ _ _ _ _ (cF _ _ _ _)) hel) rfl ⟨by rw[AU],?_⟩;exact below_setRow (ak _ (((O_ _ _).alloc (A_ _) _).alloc (by simp) _)) (by omega) _
end
section
open Go.RowKit
def hs (s:HS):List UInt32:=[s.a,s.b,s.c,s.d,s.e,s.f,s.g,s.h]
theorem gK (s:HS):(hs s).length=8:=rfl
abbrev q4 (a b c d:UInt32):Array Value := #[.int .u32 (W32 a),.int .u32 (W32 b),.int .u32 (W32 c),.int .u32 (W32 d)]
def KAt (w:World):Prop:=∃t,w.heap[0]?=some (.cells (row KK) t (0,0))
theorem KAt.lt {w:World} (h:KAt w):0<w.heap.size:=by obtain⟨t,h⟩:=h;exact(Q_.1 h).1
theorem Hh (w:List UInt32) (s:HS):pD w s 0=s:=rfl
theorem Hg (w:List UInt32) (s:HS) (t:Nat):pD w s (t+1)=rnd (wd KK t) (wd w t) (pD w s t):=rfl
theorem lB:KK.length=64:=rfl
theorem Tt (s:HS):row (hs s) = #[.int .u32 (W32 s.a),.int .u32 (W32 s.b),.int .u32 (W32 s.c),.int .u32 (W32 s.d),.int .u32 (W32 s.e),.int .u32 (W32 s.f),.int .u32 (W32 s.g),.int .u32 (W32 s.h)]:=rfl
@[go_sem] theorem aah (a:Option Addr) (len cap:Nat) (w:World) (h:4≤len):(Instr.arrayAt 215 (.slice a len cap)).run prog w = .ok (.pointer a) w:=by simp[Instr.arrayAt,run_underlying underlying215,Nat.not_lt.2 h]
def aO (s:HS):Array Value := #[.int .u32 (W32 s.a),.int .u32 (W32 s.b),.int .u32 (W32 s.c),.int .u32 (W32 s.d),.int .u32 (W32 s.e),.int .u32 (W32 s.f),.int .u32 (W32 s.g),.int .u32 (W32 s.h)]
theorem Ar (s:HS) (w w1:World) {Z:Obj} (h:Below ((w.alloc (.cells (aO s) 131)).alloc Z).heap.size ((w.alloc (.cells (aO s) 131)).alloc Z) w1) :
  w.heap.size+2≤w1.heap.size∧w1.heap[w.heap.size]?=some (.cells (aO s) 131)∧(∀i u,(aO s)[i]?=some u→w1.cell? ⟨w.heap.size,i,none⟩=some u):=by
 have hs:=h.size;simp only[World.size_alloc] at hs
 have hb:w1.heap[w.heap.size]?=some (.cells (aO s) 131):=by
  rw[h.block _ (by simp only[World.size_alloc];omega)];exact cF w _ _ 0
 refine⟨by omega,hb,fun i u hu => ?_⟩;unfold World.cell?
 simp[hb,hu]
structure CW (w:World) (l:List UInt32) (b:List UInt8) (gt gv ge:Nat) (v:HS) (wr:World):Prop where
 kk:KAt wr
 ll:wr.heap[w.heap.size]?=some (.cells (row l) 131)
 rr:∃z,wr.heap[w.heap.size+1]?=some (.cells z 131)∧z.size=8
 tt:wr.heap[gt]?=some (.cells (row (sch b 64)) 213)
 vv:wr.heap[gv]?=some (.cells (q4 v.a v.b v.c v.d) 215)
 ee:wr.heap[ge]?=some (.cells (q4 v.e v.f v.g v.h) 215)
 ht:w.heap.size+1<gt
 hv:gt<gv
 he:gt<ge
 hn:gv≠ge
 below:Below w.heap.size w wr
 h0:0<w.heap.size
theorem CW.drew {w wr:World} {l b gt gv ge v} (h:CW w l b gt gv ge v wr) (n:Nat):CW w l b gt gv ge v (wr.drewN n) :=
 ⟨h.kk,h.ll,h.rr,h.tt,h.vv,h.ee,h.ht,h.hv,h.he,h.hn,ak n h.below,h.h0⟩
theorem qh (s:HS) (b:List UInt8) (w w1:World) (hK:KAt w) {Z:Array Value} (hZ:Z.size=8)
  (h:Below ((w.alloc (.cells (aO s) 131)).alloc (.cells Z 131)).heap.size ((w.alloc (.cells (aO s) 131)).alloc (.cells Z 131)) w1) (wr:World)
  (hb:Below w1.heap.size w1 wr) (gv ge:Nat) (ht:wr.heap[w1.heap.size]?=some (.cells (row (sch b 64)) 213))
  (hv:wr.heap[gv]?=some (.cells (q4 s.a s.b s.c s.d) 215)) (he:wr.heap[ge]?=some (.cells (q4 s.e s.f s.g s.h) 215))
  (g1:w1.heap.size<gv) (g2:w1.heap.size<ge) (hn:gv≠ge):CW w (hs s) b w1.heap.size gv ge s wr:=by
 have hs1:=h.size;simp only[World.size_alloc] at hs1;have hk1:0<w.heap.size:=hK.lt;have hA:Below w.heap.size w ((w.alloc (.cells (aO s) 131)).alloc (.cells Z 131)):=((O_ _ _).alloc (A_ _) _).alloc (by simp) _;have hW:Below w.heap.size w w1:=hA.trans (h.mono (by simp only[World.size_alloc];omega));refine⟨?_,?_,⟨Z,?_,hZ⟩,ht,hv,he,by omega,g1,g2,hn,hW.trans (hb.mono (by omega)),hk1⟩
 ·unfold KAt;rw[hb.block 0 (by omega),hW.block 0 hk1];exact hK
 ·rw[hb.block _ (by omega),h.block _ (by simp only[World.size_alloc];omega)];exact cF w _ _ 0
 ·rw[hb.block _ (by omega),h.block _ (by simp only[World.size_alloc];omega)];exact dL w _ _ 0
theorem tu (w:World) (A X Y:Obj) (n:Nat):((((w.alloc A).alloc X).alloc Y).drewN n).heap[w.heap.size]?=some A:=by
 show (((w.alloc A).alloc X).alloc Y).heap[w.heap.size]?=some A
 rw[bx _ _ _ (by simp only[World.size_alloc];omega),bx _ _ _ (by simp only[World.size_alloc];omega),al _ _ _ rfl]
theorem tv (w:World) (A X Y:Obj) (n:Nat):((((w.alloc A).alloc X).alloc Y).drewN n).heap[w.heap.size+1]?=some X:=by
 show (((w.alloc A).alloc X).alloc Y).heap[w.heap.size+1]?=some X
 rw[bx _ _ _ (by simp only[World.size_alloc];omega),al _ _ _ (by simp only[World.size_alloc])]
theorem tw (w:World) (A X Y:Obj) (n:Nat):((((w.alloc A).alloc X).alloc Y).drewN n).heap[w.heap.size+1+1]?=some Y:=by
 show (((w.alloc A).alloc X).alloc Y).heap[w.heap.size+1+1]?=some Y
 rw[al _ _ _ (by simp only[World.size_alloc])]
theorem yC (w:World) (A X Y:Obj) (n:Nat):Below w.heap.size w ((((w.alloc A).alloc X).alloc Y).drewN n) :=
 ak n ((((O_ _ _).alloc (A_ _) _).alloc (by simp only[World.size_alloc];omega) _).alloc (by simp only[World.size_alloc];omega) _)
theorem CW.cells {w wr:World} {l b gt gv ge v} (h:CW w l b gt gv ge v wr) :
  (wr.cell? ⟨gv,0,none⟩=some (.int .u32 (W32 v.a))∧wr.cell? ⟨gv,1,none⟩=some (.int .u32 (W32 v.b))∧wr.cell? ⟨gv,2,none⟩=some (.int .u32 (W32 v.c))∧wr.cell? ⟨gv,3,none⟩=some (.int .u32 (W32 v.d))) ∧
  (wr.cell? ⟨ge,0,none⟩=some (.int .u32 (W32 v.e))∧wr.cell? ⟨ge,1,none⟩=some (.int .u32 (W32 v.f))∧wr.cell? ⟨ge,2,none⟩=some (.int .u32 (W32 v.g))∧wr.cell? ⟨ge,3,none⟩=some (.int .u32 (W32 v.h))):=by
 have h1:=h.vv;have h2:=h.ee
 refine⟨⟨?_,?_,?_,?_⟩,⟨?_,?_,?_,?_⟩⟩ <;> (unfold World.cell?;simp[h1,h2])
theorem CW.word {w wr:World} {l b gt gv ge v} (h:CW w l b gt gv ge v wr) (t:Nat) (ht:t<64):wr.cell? ⟨gt,t,none⟩=some (.int .u32 (W32 (w16 (sch b 64) t))):=by
 have h1:=h.tt;have h2:=l6 (sch b 64) t (by rw[iT];exact ht);unfold World.cell?;simp[h1,h2]
theorem LJ:(prog.info? 130).map (·.size)=some 1:=by kernel_rfl
theorem Ss (s:List UInt32) (hs:s.length=64) (k:Nat) (hk:k<64) (w:World):(Instr.index 213 (.agg (row s)) (.int .i64 k)).run prog w = .ok (.int .u32 (W32 (w16 s k))) w:=by
 have hz:(sizeOf 130).run prog w = .ok 1 w:=by
  cases hq:prog.info? 130 with
  | none=>have := LJ;rw[hq] at this;cases this
  | some i=>have h1:=LJ;rw[hq] at h1;simp at h1;simp[sizeOf,typeInfo,hq,h1]
 have h1:(k:Int)<64:=by omega
 have h2:k<s.length:=by omega
 simp[Instr.index,go_sem,hz,h1,h2]
 intro h3;omega
@[go_sem] theorem X7 (x : UInt32) : bits .xor .u32 IntKind.u32.max (W32 x) = W32 (~~~x) := by
  have e:IntKind.u32.max=W32 4294967295:=rfl;rw[e,s4]
  congr 1
theorem Yb (a b c d:UInt32):(W32 a+W32 b+W32 c+W32 d) % 4294967296=W32 (a+b+c+d):=by
 unfold W32;simp only[UInt32.toNat_add]
 omega
theorem QJ:(prog.info? 215).map (·.size)=some 4:=by kernel_rfl
theorem aK {w:World} {g B:Nat} {cs:Array Value} (h:B≤g):Below B w (w.setRow g cs) :=
 ⟨rfl,rfl,rfl,by simp[World.setRow],fun k hk=>by
  unfold World.setRow;rw[Array.getElem?_modify]
  have : ¬g=k:=by omega
  simp[this]⟩
theorem aj (w:World) (g:Nat) (cs:Array Value) (k:Nat) (h:k≠g):(w.setRow g cs).heap[k]? = w.heap[k]? := by
 unfold World.setRow;rw[Array.getElem?_modify,H_ (fun e=>h e.symm)]
theorem aM {T:TypeId} (cs:Array Value) (hinf:(prog.info? T).map (·.size)=some cs.size) (hgd:o.guard=none) (x y:Operand) (ho:o.op = .store T x y)
  (g:Nat) (c0:Array Value) (hx:a.eval x = .pointer (some ⟨g,0,none⟩)) (hy:a.eval y = .agg cs) (hone:(cs.all fun u=>u.oneCell')=true) (hsz:c0.size=cs.size)
  (hg:w.heap[g]?=some (.cells c0 T (0,0)))
  (h:∀w',w'.heap[g]?=some (.cells cs T (0,0))→(∀k,k≠g→w'.heap[k]? = w.heap[k]?)→(∀B,B≤g→Below B w w')→wpList prog ops Q rest (a.put o.dst undef) w'):wpList prog ops Q (o::rest) a w :=
 wpList_store_row hgd _ x y ho g cs hx hy _ _ hg hinf hsz hone (h _ (setRow_heap _ _ _ _ _ _ hg) (fun k hk=>aj _ _ _ _ hk) (fun B hB=>aK hB))
theorem KM (a b c d:UInt32):((q4 a b c d).all fun u=>u.oneCell')=true:=by
 have h:∀x,(Value.int .u32 x).oneCell'=true:=fun _=>rfl
 simp[q4,h]
theorem CW.setE {w wr w':World} {l b gt gv ge v} (h:CW w l b gt gv ge v wr) {e f g k:UInt32} (hg:w'.heap[ge]?=some (.cells (q4 e f g k) 215 (0,0))) (ho:∀k,k≠ge→w'.heap[k]? = wr.heap[k]?) (hb:∀B,B≤ge→Below B wr w') :
  CW w l b gt gv ge ⟨v.a,v.b,v.c,v.d,e,f,g,k⟩ w':=by
 have h1:=h.ht;have h2:=h.he;have h3:=h.hv;have h4:=h.hn;exact⟨by unfold KAt;rw[ho 0 (by omega)];exact h.kk,by rw[ho _ (by omega)];exact h.ll,by rw[ho _ (by omega)];exact h.rr,by rw[ho _ (by omega)];exact h.tt,by rw[ho _ h4];exact h.vv,hg,h1,h3,h2,h4,h.below.trans (hb _ (by omega)),h.h0⟩
theorem CW.setV {w wr w':World} {l b gt gv ge v} (h:CW w l b gt gv ge v wr) {e f g k:UInt32} (hg:w'.heap[gv]?=some (.cells (q4 e f g k) 215 (0,0))) (ho:∀k,k≠gv→w'.heap[k]? = wr.heap[k]?) (hb:∀B,B≤gv→Below B wr w') :
  CW w l b gt gv ge ⟨e,f,g,k,v.e,v.f,v.g,v.h⟩ w':=by
 have h1:=h.ht;have h2:=h.he;have h3:=h.hv;have h4:=h.hn;exact⟨by unfold KAt;rw[ho 0 (by omega)];exact h.kk,by rw[ho _ (by omega)];exact h.ll,by rw[ho _ (by omega)];exact h.rr,by rw[ho _ (by omega)];exact h.tt,hg,by rw[ho _ (fun e=>h4 e.symm)];exact h.ee,h1,h3,h2,h4,h.below.trans (hb _ (by omega)),h.h0⟩
theorem au (w:World) (g i:Nat) (cs:Array Value) (T:TypeId) (fr:Nat × Nat) (v:Value) (h:w.heap[g]?=some (.cells cs T fr)):w.setCell ⟨g,i,none⟩ v=w.setRow g (cs.setIfInBounds i v):=by
 unfold World.setCell World.setRow;simp only[World.mk.injEq,and_true]
 apply Array.ext_getElem?
 intro j;simp only[Array.getElem?_modify]
 by_cases h':g=j
 ·subst h'
  simp[h]
 ·simp[h']
theorem CW.setL {w wr:World} {l b gt gv ge v} (h:CW w l b gt gv ge v wr) (i:Nat) (hi:i<l.length) (x:UInt32):CW w (l.set i x) b gt gv ge v (wr.setCell ⟨w.heap.size,i,none⟩ (.int .u32 (W32 x))):=by
 have h1:=h.ht;have h2:=h.he;have h3:=h.hv;have h4:=h.hn
 have hk:0<w.heap.size∨w.heap.size≤0:=by omega
 rw[au _ _ _ _ _ _ _ h.ll,Pr];refine⟨?_,setRow_heap _ _ _ _ _ _ h.ll,by rw[aj _ _ _ _ (by omega)];exact h.rr,by rw[aj _ _ _ _ (by omega)];exact h.tt,by rw[aj _ _ _ _ (by omega)];exact h.vv,by rw[aj _ _ _ _ (by omega)];exact h.ee,h1,h3,h2,h4,h.below.trans (aK (A_ _)),h.h0⟩;have h0:=h.h0;unfold KAt;rw[aj _ _ _ _ (by omega)];exact h.kk
theorem CW.lcell {w wr:World} {l b gt gv ge v} (h:CW w l b gt gv ge v wr) (i:Nat) (hi:i<l.length):wr.cell? ⟨w.heap.size,i,none⟩=some (.int .u32 (W32 (w16 l i))):=by
 have h1:=h.ll;have h2:=l6 l i hi;unfold World.cell?;simp[h1,h2]
theorem CW.lfree {w wr:World} {l b gt gv ge v} (h:CW w l b gt gv ge v wr) (i:Nat):wr.frozen? ⟨w.heap.size,i,none⟩=false:=frozen_of_row _ _ i _ _ h.ll
def tZ (s v:HS):Nat→List UInt32
 | 0=>[s.a,s.b,s.c,s.d,s.e,s.f,s.g,s.h]
 | 1=>[s.a+v.a,s.b,s.c,s.d,s.e+v.e,s.f,s.g,s.h]
 | 2=>[s.a+v.a,s.b+v.b,s.c,s.d,s.e+v.e,s.f+v.f,s.g,s.h]
 | 3=>[s.a+v.a,s.b+v.b,s.c+v.c,s.d,s.e+v.e,s.f+v.f,s.g+v.g,s.h]
 | _=>[s.a+v.a,s.b+v.b,s.c+v.c,s.d+v.d,s.e+v.e,s.f+v.f,s.g+v.g,s.h+v.h]
theorem cD (s v:HS) (i:Nat):(tZ s v i).length=8:=by
 unfold tZ;split <;> rfl
theorem vR (l:List UInt32) (h:l.length=8):(prog.info? 131).map (·.size)=some (row l).size:=by rw[co,h];kernel_rfl
attribute [local irreducible] Calls sch pD yK row KK z64
theorem CK (s:HS) (v:Value) (b:List UInt8) (w:World) (hv:RdE eB w v b) (hb:b.length=64) (hk:KAt w) :
  Calls prog 111 #[.agg (row (hs s)),v] w fun e w'=>e = .returned (.agg (row (hs (yK s b))))∧Below w.heap.size w w':=by
 have HV:=O hv;have HK:=O hk;clear hv hk;rw[Tt s];have hz:=tT;have hsl:=iT b 64
 go_enter func111,ntmps111
 go_wp2_with (first
  |(go_at_call 157;refine(DD v b _ ((HV.out.alloc _).alloc _) hb).mono ?_;rintro e w1 ⟨rfl,hB⟩;have HB:=O hB;clear hB)
  |(refine L6 rfl (.tmp 5) (.tmp 14) rfl _ _ rfl rfl 213 _ (heap_alloc_new _ _) (by rw[co];exact tS) hsl ?_))
 rw[kD _ _ _ _ _ rfl];obtain⟨hsz,hblk,hcell⟩:=Ar s w w1 HB.out;have c0:w1.cell? ⟨w.heap.size,0,none⟩=some (.int .u32 (W32 s.a)):=hcell 0 _ rfl;have c1:w1.cell? ⟨w.heap.size,1,none⟩=some (.int .u32 (W32 s.b)):=hcell 1 _ rfl;have c2:w1.cell? ⟨w.heap.size,2,none⟩=some (.int .u32 (W32 s.c)):=hcell 2 _ rfl;have c3:w1.cell? ⟨w.heap.size,3,none⟩=some (.int .u32 (W32 s.d)):=hcell 3 _ rfl;have c4:w1.cell? ⟨w.heap.size,4,none⟩=some (.int .u32 (W32 s.e)):=hcell 4 _ rfl;have c5:w1.cell? ⟨w.heap.size,5,none⟩=some (.int .u32 (W32 s.f)):=hcell 5 _ rfl;have c6:w1.cell? ⟨w.heap.size,6,none⟩=some (.int .u32 (W32 s.g)):=hcell 6 _ rfl;have c7:w1.cell? ⟨w.heap.size,7,none⟩=some (.int .u32 (W32 s.h)):=hcell 7 _ rfl;clear hz
 have hlt0:w.heap.size<w1.heap.size:=by omega
 have hlt1:w.heap.size<w1.heap.size+1:=by omega
 have hlt2:w.heap.size<w1.heap.size+2:=by omega
 have hlt3:w.heap.size<w1.heap.size+1+1:=by omega
 simp only[Act.put]
 go_cut [6,7] from 15 to 20 (fun o p wx=>∃gv ge:Nat,o = .pointer (some ⟨gv,0,none⟩)∧p = .pointer (some ⟨ge,0,none⟩)∧CW w (hs s) b w1.heap.size gv ge s wx)
 case first =>
  go_region
  all_goals (go_wp2;go_meet)
  case rel=>first
   | exact⟨_,_,rfl,rfl,qh s b w w1 HK.out rfl HB.out _ (yC w1 _ _ _ 1) _ _ (tu w1 _ _ _ 1) (tv w1 _ _ _ 1) (tw w1 _ _ _ 1) (by omega) (by omega) (by omega)⟩
   | exact⟨_,_,rfl,rfl,qh s b w w1 HK.out rfl HB.out _ (yC w1 _ _ _ 1) _ _ (tu w1 _ _ _ 1) (tw w1 _ _ _ 1) (tv w1 _ _ _ 1) (by omega) (by omega) (by omega)⟩
  case rel=>first
   | exact⟨_,_,rfl,rfl,qh s b w w1 HK.out rfl HB.out _ (yC w1 _ _ _ 1) _ _ (tu w1 _ _ _ 1) (tv w1 _ _ _ 1) (tw w1 _ _ _ 1) (by omega) (by omega) (by omega)⟩
   | exact⟨_,_,rfl,rfl,qh s b w w1 HK.out rfl HB.out _ (yC w1 _ _ _ 1) _ _ (tu w1 _ _ _ 1) (tw w1 _ _ _ 1) (tv w1 _ _ _ 1) (by omega) (by omega) (by omega)⟩
 case rest =>
  obtain⟨gv,ge,rfl,rfl,hcw⟩:=hcut;have HCW:=O hcw;clear hcw c0 c1 c2 c3 c4 c5 c6 c7 hlt0 hlt1 hlt2 hlt3 hblk hcell;obtain⟨tk,hkk⟩:=HCW.out.kk;have HKK:=O hkk;clear hkk
  go_wp2_with (refine Kl rfl (.global 0) rfl _ rfl _ tk HKK.out lB ?_)
  have m1:∀(x:UInt32) (w:World),Calls prog 158 #[.int .u32 (W32 x),.int .i64 6,.int .i64 11,.int .i64 25] w fun e w'=>e = .returned (.int .u32 (W32 (KB x 6 11 25)))∧∃n,w'=w.drewN n:=fun x w=>(QQ x 6 11 25 (by omega) (by omega) (by omega) (by omega) (by omega) (by omega) w).mono fun _ _ h=>⟨h.1,0,h.2⟩;have m2:∀(x:UInt32) (w:World),Calls prog 158 #[.int .u32 (W32 x),.int .i64 2,.int .i64 13,.int .i64 22] w fun e w'=>e = .returned (.int .u32 (W32 (KB x 2 13 22)))∧∃n,w'=w.drewN n:=fun x w=>(QQ x 2 13 22 (by omega) (by omega) (by omega) (by omega) (by omega) (by omega) w).mono fun _ _ h=>⟨h.1,0,h.2⟩
  go_loopw [22] (fun i wr=>∃t:Nat,t≤64∧i = .int .i64 t∧Hid (CW w (hs s) b w1.heap.size gv ge (pD (sch b 64) s t) wr)) (fun i _=>64-(intOf i).toNat)
  case atStart=>exact⟨0,by omega,rfl,by rw[Hh];exact HCW⟩
  case round =>
   obtain⟨t,ht,rfl,hcw⟩:=hrel
   by_cases hlt:t<64
   ·have hd:decide ((t:Int)<64)=true:=by simp;omega
    have hkl:t<KK.length:=by rw[lB];exact hlt
    have hix:=Ss KK lB t hlt
    have hti:(t:Int)<64:=by omega
    obtain⟨⟨v0,v1,v2,v3⟩,⟨e0,e1,e2,e3⟩⟩:=hcw.out.cells;have ct:=hcw.out.word t hlt;have hee:=hcw.out.ee;generalize hst:pD (sch b 64) s t=st at hcw v0 v1 v2 v3 e0 e1 e2 e3;have HST:=O hst;have HLT:=O hlt;clear hst hee
    go_upto_region 6 with fail
    go_cut [10] from 23 to 93 (fun x wc=>x = .int .u32 (W32 (Hf (wd KK t) (wd (sch b 64) t) st))∧∃n,wc=wr.drewN n)
    case first =>
     go_quiet ((go_at_call 158;exact Calls.quiet_of (m1 _ _)))
     all_goals (go_wp2;go_meet)
     exact⟨by rw[Yb];rfl,_,rfl⟩
    case rest =>
     obtain⟨rfl,n1,hw⟩:=hcut;have H1:Hid (CW w (hs s) b w1.heap.size gv ge st wc):=O (by rw[hw];exact hcw.out.drew n1);clear hw hcw v0 v1 v2 v3 e0 e1 e2 e3 ct;obtain⟨X,hX⟩:∃X,X=Hf (wd KK t) (wd (sch b 64) t) st:=⟨_,rfl⟩;have HX:=O hX;rw[←hX];clear hX;obtain⟨⟨v0,v1,v2,v3⟩,⟨e0,e1,e2,e3⟩⟩:=H1.out.cells
     go_upto_region 7 with fail
     go_cut [11] from 23 to 93 (fun y wf=>y = .int .u32 (W32 (Lo st))∧∃n,wf=wc.drewN n)
     case first =>
      first |refine fR (by kernel_rfl) (by kernel_rfl) ?_|refine fG (by kernel_rfl) (by kernel_rfl) ?_
      repeat (quiet_step ((go_at_call 158;exact Calls.quiet_of (m2 _ _))))
      refine h_ ?_;rintro _ ⟨nq2,rfl⟩
      all_goals (go_wp2;go_meet)
      exact⟨rfl,_,rfl⟩
     case rest =>
      obtain⟨rfl,n2,hw⟩:=hcut;have H2:=O (H1.out.drew n2);rw[←hw] at H2;clear hw v0 v1 v2 v3 e0 e1 e2 e3;obtain⟨Y,hY⟩:∃Y,Y=Lo st:=⟨_,rfl⟩;have HY:=O hY;rw[←hY];clear hY;obtain⟨⟨v0,v1,v2,v3⟩,⟨e0,e1,e2,e3⟩⟩:=H2.out.cells
      go_wp2_with (first
       |(refine aM (T:=215) (q4 (st.d+X) st.e st.f st.g) QJ rfl (.tmp 7) (.tmp 82) rfl ge (q4 st.e st.f st.g st.h) rfl rfl (KM _ _ _ _) rfl H2.out.ee ?_;intro wa hga hoa hba;have H3:=O (H2.out.setE hga hoa hba);clear hga hoa hba v0 v1 v2 v3 e0 e1 e2 e3;obtain⟨⟨v0,v1,v2,v3⟩,⟨e0,e1,e2,e3⟩⟩:=H3.out.cells)
       |(refine aM (T:=215) (q4 (X+Y) st.a st.b st.c) QJ rfl (.tmp 6) (.tmp 92) rfl gv (q4 st.a st.b st.c st.d) rfl rfl (KM _ _ _ _) rfl H3.out.vv ?_;intro wb hgb hob hbb;have H4:=O (H3.out.setV hgb hob hbb);clear hgb hob hbb v0 v1 v2 v3 e0 e1 e2 e3))
      go_roundw
      case rel=>exact⟨t+1,by have := HLT.out;omega,by go_num,O (by rw[Hg,HST.out];unfold rnd;rw[←HX.out,←HY.out];exact H4.out)⟩
      case measure=>have := HLT.out;simp[intOf];omega
   ·have he:t=64:=by omega
    subst he;obtain⟨vz,hvz⟩:∃vz,vz=pD (sch b 64) s 64:=⟨_,rfl⟩;have HVZ:=O hvz;rw[←hvz] at hcw;clear hvz hlt ht;go_wp2
    go_loopw [94] (fun o wr=>∃i:Nat,i≤4∧o = .int .i64 i∧Hid (CW w (tZ s vz i) b w1.heap.size gv ge vz wr)) (fun o _=>4-(intOf o).toNat)
    case atStart=>exact⟨0,by omega,rfl,hcw⟩
    case round =>
     obtain⟨i,hi,rfl,H⟩:=hrel;clear hcw
     rcases (by omega:i=0∨i=1∨i=2∨i=3∨i=4) with rfl|rfl|rfl|rfl|rfl
     ·have l0:wr.cell? ⟨w.heap.size,0,none⟩=some (.int .u32 (W32 s.a)):=H.out.lcell 0 (by rw[cD];decide)
      have f0:=H.out.lfree 0;obtain⟨⟨v0,v1,v2,v3⟩,⟨e0,e1,e2,e3⟩⟩:=H.out.cells
      go_upto_region 14 with fail
      go_cut [12] from 95 to 114 (fun u wc=>u = .int .i64 0∧CW w ((tZ s vz 0).set 0 (s.a+vz.a)) b w1.heap.size gv ge vz wc)
      case first =>
       first |refine dJ 8 (by kernel_rfl) (by kernel_rfl) ?_|refine dD 8 (by kernel_rfl) (by kernel_rfl) ?_
       simp only[F_,c_,J_,L_]
       repeat (go_big_quiet_step (fail))
       refine h_ ?_;rintro _ ⟨nq,rfl⟩
       all_goals (go_wp2;go_meet)
       exact⟨rfl,(H.out.drew nq).setL 0 (by rw[cD];decide) _⟩
      case rest =>
       obtain⟨rfl,hc⟩:=hcut;have H2:=O hc;clear hc l0 f0 v0 v1 v2 v3 e0 e1 e2 e3;have l4:wc.cell? ⟨w.heap.size,4,none⟩=some (.int .u32 (W32 s.e)):=H2.out.lcell 4 (by rw[List.length_set,cD];decide);have f4:=H2.out.lfree 4;obtain⟨⟨v0,v1,v2,v3⟩,⟨e0,e1,e2,e3⟩⟩:=H2.out.cells;go_wp2
       first |refine dJ 9 (by kernel_rfl) (by kernel_rfl) ?_|refine dD 9 (by kernel_rfl) (by kernel_rfl) ?_
       simp only[F_,c_,J_,L_]
       repeat (go_big_quiet_step (fail))
       refine h_ ?_;rintro _ ⟨nq,rfl⟩;go_wp2;go_roundw
       case rel=>exact⟨1,by decide,by go_num,O ((H2.out.drew nq).setL 4 (by rw[List.length_set,cD];decide) (s.e+vz.e))⟩
       case measure=>simp[intOf]
     ·have l0:wr.cell? ⟨w.heap.size,1,none⟩=some (.int .u32 (W32 s.b)):=H.out.lcell 1 (by rw[cD];decide)
      have f0:=H.out.lfree 1;obtain⟨⟨v0,v1,v2,v3⟩,⟨e0,e1,e2,e3⟩⟩:=H.out.cells
      go_upto_region 14 with fail
      go_cut [12] from 95 to 114 (fun u wc=>u = .int .i64 1∧CW w ((tZ s vz 1).set 1 (s.b+vz.b)) b w1.heap.size gv ge vz wc)
      case first =>
       first |refine dJ 8 (by kernel_rfl) (by kernel_rfl) ?_|refine dD 8 (by kernel_rfl) (by kernel_rfl) ?_
       simp only[F_,c_,J_,L_]
       repeat (go_big_quiet_step (fail))
       refine h_ ?_;rintro _ ⟨nq,rfl⟩
       all_goals (go_wp2;go_meet)
       exact⟨rfl,(H.out.drew nq).setL 1 (by rw[cD];decide) _⟩
      case rest =>
       obtain⟨rfl,hc⟩:=hcut;have H2:=O hc;clear hc l0 f0 v0 v1 v2 v3 e0 e1 e2 e3;have l4:wc.cell? ⟨w.heap.size,5,none⟩=some (.int .u32 (W32 s.f)):=H2.out.lcell 5 (by rw[List.length_set,cD];decide);have f4:=H2.out.lfree 5;obtain⟨⟨v0,v1,v2,v3⟩,⟨e0,e1,e2,e3⟩⟩:=H2.out.cells;go_wp2
       first |refine dJ 9 (by kernel_rfl) (by kernel_rfl) ?_|refine dD 9 (by kernel_rfl) (by kernel_rfl) ?_
       simp only[F_,c_,J_,L_]
       repeat (go_big_quiet_step (fail))
       refine h_ ?_;rintro _ ⟨nq,rfl⟩;go_wp2;go_roundw
       case rel=>exact⟨2,by decide,by go_num,O ((H2.out.drew nq).setL 5 (by rw[List.length_set,cD];decide) (s.f+vz.f))⟩
       case measure=>simp[intOf]
     ·have l0:wr.cell? ⟨w.heap.size,2,none⟩=some (.int .u32 (W32 s.c)):=H.out.lcell 2 (by rw[cD];decide)
      have f0:=H.out.lfree 2;obtain⟨⟨v0,v1,v2,v3⟩,⟨e0,e1,e2,e3⟩⟩:=H.out.cells
      go_upto_region 14 with fail
      go_cut [12] from 95 to 114 (fun u wc=>u = .int .i64 2∧CW w ((tZ s vz 2).set 2 (s.c+vz.c)) b w1.heap.size gv ge vz wc)
      case first =>
       first |refine dJ 8 (by kernel_rfl) (by kernel_rfl) ?_|refine dD 8 (by kernel_rfl) (by kernel_rfl) ?_
       simp only[F_,c_,J_,L_]
       repeat (go_big_quiet_step (fail))
       refine h_ ?_;rintro _ ⟨nq,rfl⟩
       all_goals (go_wp2;go_meet)
       exact⟨rfl,(H.out.drew nq).setL 2 (by rw[cD];decide) _⟩
      case rest =>
       obtain⟨rfl,hc⟩:=hcut;have H2:=O hc;clear hc l0 f0 v0 v1 v2 v3 e0 e1 e2 e3;have l4:wc.cell? ⟨w.heap.size,6,none⟩=some (.int .u32 (W32 s.g)):=H2.out.lcell 6 (by rw[List.length_set,cD];decide);have f4:=H2.out.lfree 6;obtain⟨⟨v0,v1,v2,v3⟩,⟨e0,e1,e2,e3⟩⟩:=H2.out.cells;go_wp2
       first |refine dJ 9 (by kernel_rfl) (by kernel_rfl) ?_|refine dD 9 (by kernel_rfl) (by kernel_rfl) ?_
       simp only[F_,c_,J_,L_]
       repeat (go_big_quiet_step (fail))
       refine h_ ?_;rintro _ ⟨nq,rfl⟩;go_wp2;go_roundw
       case rel=>exact⟨3,by decide,by go_num,O ((H2.out.drew nq).setL 6 (by rw[List.length_set,cD];decide) (s.g+vz.g))⟩
       case measure=>simp[intOf]
     ·have l0:wr.cell? ⟨w.heap.size,3,none⟩=some (.int .u32 (W32 s.d)):=H.out.lcell 3 (by rw[cD];decide)
      have f0:=H.out.lfree 3;obtain⟨⟨v0,v1,v2,v3⟩,⟨e0,e1,e2,e3⟩⟩:=H.out.cells
      go_upto_region 14 with fail
      go_cut [12] from 95 to 114 (fun u wc=>u = .int .i64 3∧CW w ((tZ s vz 3).set 3 (s.d+vz.d)) b w1.heap.size gv ge vz wc)
      case first =>
       first |refine dJ 8 (by kernel_rfl) (by kernel_rfl) ?_|refine dD 8 (by kernel_rfl) (by kernel_rfl) ?_
       simp only[F_,c_,J_,L_]
       repeat (go_big_quiet_step (fail))
       refine h_ ?_;rintro _ ⟨nq,rfl⟩
       all_goals (go_wp2;go_meet)
       exact⟨rfl,(H.out.drew nq).setL 3 (by rw[cD];decide) _⟩
      case rest =>
       obtain⟨rfl,hc⟩:=hcut;have H2:=O hc;clear hc l0 f0 v0 v1 v2 v3 e0 e1 e2 e3;have l4:wc.cell? ⟨w.heap.size,7,none⟩=some (.int .u32 (W32 s.h)):=H2.out.lcell 7 (by rw[List.length_set,cD];decide);have f4:=H2.out.lfree 7;obtain⟨⟨v0,v1,v2,v3⟩,⟨e0,e1,e2,e3⟩⟩:=H2.out.cells;go_wp2
       first |refine dJ 9 (by kernel_rfl) (by kernel_rfl) ?_|refine dD 9 (by kernel_rfl) (by kernel_rfl) ?_
       simp only[F_,c_,J_,L_]
       repeat (go_big_quiet_step (fail))
       refine h_ ?_;rintro _ ⟨nq,rfl⟩;go_wp2;go_roundw
       case rel=>exact⟨4,by decide,by go_num,O ((H2.out.drew nq).setL 7 (by rw[List.length_set,cD];decide) (s.h+vz.h))⟩
       case measure=>simp[intOf]
     ·obtain⟨z,hz1,hz2⟩:=H.out.rr
      have HZ:=O hz1;clear hz1
      go_wp2_with (first
       |(refine wpList_load_row rfl 131 (.tmp 2) rfl w.heap.size rfl _ (row (tZ s vz 4)) (0,0) _ H.out.ll underlying131 rfl (vR _ (cD _ _ _)) ?_)
       |(refine aM (T:=131) (row (tZ s vz 4)) (vR _ (cD _ _ _)) rfl (.tmp 4) (.tmp 115) rfl (w.heap.size+1) z rfl rfl (l7 _) (by rw[hz2,co,cD]) HZ.out ?_;intro wb hgb hob hbb))
      (try simp only[Exit.inBlock,Exit.then])
      refine g_ (v := .agg (row (tZ s vz 4))) (results_cell_row rfl _ _ (w.heap.size+1) _ _ (0,0) _ rfl hgb underlying131 rfl (vR _ (cD _ _ _))) rfl ⟨?_,H.out.below.trans (hbb _ (by omega))⟩;rw[show hs (yK s b)=tZ s vz 4 from by unfold yK;rw[←HVZ.out];rfl]
end
end
end Go.Proofs.YtmfiaadjdbemnaaGreatDoor
