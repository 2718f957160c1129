/- Contracts and lemmas. No condition. -/
import Derived.Test.YtmfiaadjdbemnaaGreatDoorLFound01
import Derived.Test.YtmfiaadjdbemnaaGreatDoorLFound02
import Derived.Test.YtmfiaadjdbemnaaGreatDoorSB20
import Derived.ChangeOld
import Derived.ChangeSame
import Derived.Deep.Fields
import Derived.Deep.Slices
import Derived.LaidLaws
import Derived.LaidMore
import Derived.Maps.OwnOps
import Derived.Maps.Views
import Derived.OpenShut
import Derived.ProofKit
import Derived.ShutString
import Derived.Test.YtmfiaadjdbemnaaGreatDoorRows
import Derived.WalkArith
set_option maxRecDepth 100000
set_option maxHeartbeats 8000000
set_option linter.unusedSimpArgs false
set_option linter.unusedVariables false
namespace Go.Proofs.YtmfiaadjdbemnaaGreatDoor
section
open Go.RowKit
def leN (m k:Nat):List UInt8:=(List.range k).map fun i=>UInt8.ofNat (m / 256 ^ i)
theorem tA (m k:Nat):(leN m k).length=k:=by unfold leN;rw[List.length_map,List.length_range]
theorem Ko (m k:Nat):leN m (k+1)=leN m k++[UInt8.ofNat (m / 256 ^ k)]:=by
 unfold leN;rw[List.range_succ,List.map_append]
 rfl
theorem SE (m k i:Nat) (h:i<k):byteAt (leN m k) i=UInt8.ofNat (m / 256 ^ i):=by
 unfold byteAt leN;rw[I_,List.getElem?_map,List.getElem?_range h]
 rfl
theorem Ju (m k:Nat):m / 256 ^ k / 256=m / 256 ^ (k+1):=by rw[Nat.div_div_eq_div_mul,Nat.pow_succ]
theorem T5 (d:UInt8):(255:UInt8)-d=d ^^^ 255:=by
 apply UInt8.toBitVec_inj.1
 show (255#8)-d.toBitVec=d.toBitVec ^^^ (255#8)
 rw[show (255#8)=BitVec.allOnes 8 from rfl,BitVec.allOnes_sub_eq_not,BitVec.xor_allOnes]
theorem Om (k:Nat) (hk:k≤8):(UInt8.ofNat (128+k) ^^^ 255:UInt8)=UInt8.ofNat (127-k):=by
 rcases (by omega:k=0∨k=1∨k=2∨k=3∨k=4∨k=5∨k=6∨k=7∨k=8) with rfl|rfl|rfl|rfl|rfl|rfl|rfl|rfl|rfl <;> decide
open Go.RowKit Go.Shelf
theorem tF (cs:Array Value) (off:Nat) (w:World):(part 23 cs off).run Tryz.prog w = .ok (.agg (cs.extract off (off+16))) w:=by
 have h1:(isAgg 23).run Tryz.prog w = .ok true w:=by simp[isAgg,run_underlying Tryz.underlying23]
 have h2:(sizeOf 23).run Tryz.prog w = .ok 16 w:=by
  cases hq:Tryz.prog.info? 23 with
  | none=>have := cC;rw[hq] at this;cases this
  | some i=>have h1:=cC;rw[hq] at h1;simp at h1;simp[sizeOf,typeInfo,hq,h1]
 simp[part,h1,h2]
theorem kA (cs:Array Value) (off:Nat) (v:Value) (h:cs[off]?=some v) (w:World):(part 3 cs off).run Tryz.prog w = .ok v w:=by
 have h1:(isAgg 3).run Tryz.prog w = .ok false w:=by simp[isAgg,run_underlying Tryz.underlying3]
 simp[part,h1,h]
theorem du (d:Nat) (xs ys:Array Value) (f:Field) (fs:List Field) (hn:f.name ≠ "_") (w:World) (a b:Value) (r:Bool) (h1:(part f.type xs f.offset).run Tryz.prog w = .ok a w) (h2:(part f.type ys f.offset).run Tryz.prog w = .ok b w)
  (h3:(Op.equalIn d f.type a b).run Tryz.prog w = .ok r w):(Op.eqFields d xs ys (f::fs)).run Tryz.prog w=if r=true then (Op.eqFields d xs ys fs).run Tryz.prog w else .ok false w:=by
 simp only[Op.eqFields,hn,ne_eq,not_false_eq_true,if_true,Sem.run_bind,h1,h2,h3,Result.andThen_ok]
 cases r <;> rfl
end
section
namespace F6
def pow (a:B):Nat→B
 | 0=>1
 | n+1=>mul (pow a n) a
end F6
end
section
namespace Fld
open F6
attribute [go_sem] Sr J2
theorem MO (x:UInt8) (h:bit x 7=true):(256:Int)≤2*B8 x∧bits .xor .i64 (2*B8 x) 285=B8 (xt x):=by
 obtain⟨h1,h2⟩:=MN x h;rw[Int.mul_comm];exact⟨by omega,h2⟩
theorem MQ (x:UInt8) (h:bit x 7=false):¬(256:Int)≤2*B8 x∧2*B8 x=B8 (xt x):=by
 obtain⟨h1,h2⟩:=MP x h;rw[Int.mul_comm];exact⟨by omega,h2⟩
theorem Nz (b:UInt8) (k:Nat):((B8 b / 2 ^ k).tmod 2 == 1)=bit b k:=by
 have e:B8 b / 2 ^ k=((b.toNat / 2 ^ k:Nat):Int):=by unfold B8;rw[Int.natCast_ediv,Int.natCast_pow];rfl
 have h:=CA b k;rw[sf] at h;rw[e,h,Int.tmod_eq_emod_of_nonneg (Int.natCast_nonneg _)];generalize b.toNat / 2 ^ k=n;rw[Bool.eq_iff_iff,beq_iff_eq,decide_eq_true_eq]
 omega
end Fld
end
section
namespace Fld
open Go.RowKit F6
theorem xL (a b:UInt8) (w:World) :
  Calls Tryz.prog 116 #[.int .u8 (B8 a),.int .u8 (B8 b)] w fun e w'=>e = .returned (.int .u8 (B8 (mul a b)))∧w'=w:=by
 go_enter Tryz.func116,Tryz.ntmps116
 go_wp2
 go_loop [5,6,7] (fun p x i=>∃k:Nat,k≤8∧i = .int .i64 k∧x = .int .i64 (B8 (xts a k))∧p = .int .i64 (B8 (cY a b k))) (fun _ _ i=>8-(intOf i).toNat)
 case atStart=>exact⟨0,by omega,rfl,rfl,rfl⟩
 case round =>
  obtain⟨k,hk,rfl,rfl,rfl⟩:=hrel
  by_cases hlt:k<8
  ·have hb:=Nz b k
   have em:cY a b (k+1)=cY a b k ^^^ (if bit b k then xts a k else 0):=rfl;have ex:xts a (k+1)=xt (xts a k):=rfl;have HK:=O hlt;have EX:=O ex;clear ex
   cases hbit:bit b k
   ·rw[hbit] at hb em
    have em':cY a b (k+1)=cY a b k:=by rw[em];simp
    have EM:=O em';clear em em' hbit
    cases h7:bit (xts a k) 7
    ·obtain⟨x1,x2⟩:=MQ _ h7
     have X2:=O x2;clear x2 h7;go_wp2
     go_round
     case rel=>exact⟨k+1,HK.out,by go_num,by rw[X2.out,EP,EX.out],by rw[EM.out]⟩
     case measure=>have := HK.out;simp[intOf];omega
    ·obtain⟨x1,x2⟩:=MO _ h7
     clear h7;go_wp2
     go_round
     case rel=>exact⟨k+1,HK.out,by go_num,by rw[EX.out],by rw[EM.out]⟩
     case measure=>have := HK.out;simp[intOf];omega
   ·rw[hbit] at hb em
    have em':cY a b (k+1)=cY a b k ^^^ xts a k:=by rw[em];simp
    have EM:=O em';clear em em' hbit
    cases h7:bit (xts a k) 7
    ·obtain⟨x1,x2⟩:=MQ _ h7
     have X2:=O x2;clear x2 h7;go_wp2
     go_round
     case rel=>exact⟨k+1,HK.out,by go_num,by rw[X2.out,EP,EX.out],by rw[EM.out]⟩
     case measure=>have := HK.out;simp[intOf];omega
    ·obtain⟨x1,x2⟩:=MO _ h7
     clear h7;go_wp2
     go_round
     case rel=>exact⟨k+1,HK.out,by go_num,by rw[EX.out],by rw[EM.out]⟩
     case measure=>have := HK.out;simp[intOf];omega
  ·have he:k=8:=by omega
   have HE:=O he;clear he;go_wp2;go_ret;exact⟨by rw[HE.out];rfl,rfl⟩
end Fld
end
section
namespace Fld
open Go.RowKit F6
attribute [local irreducible] mul pow sq sqp
theorem rO (a:UInt8):pow a 0=1:=by unfold pow;rfl
theorem rN (a:UInt8) (n:Nat):pow a (n+1)=mul (pow a n) a:=by conv=>lhs;unfold pow
end Fld
end
section
namespace Fld
open Go.RowKit F6
attribute [local irreducible] mul ev
theorem Sf (l:List UInt8) (x o:UInt8) (k:Nat) (h:k<l.length) (he:ev l x=o ^^^ mul (pow x k) (ev (l.drop k) x)) :
  ev l x=(o ^^^ mul (byteAt l k) (pow x k)) ^^^ mul (pow x (k+1)) (ev (l.drop (k+1)) x):=by
 rw[he,EB l x k h,fx,xor_assoc,mul_comm (pow x k) (byteAt l k),rN,dS]
theorem eval_r (v:Value) (l:List UInt8) (x:UInt8) (w:World) (hv:RdB w v l) :
  Calls Tryz.prog 73 #[v,.int .u8 (B8 x)] w fun e w'=>e = .returned (.int .u8 (B8 (ev l x)))∧w'=w:=by
 obtain⟨a,cap,rfl,hl,hcap,hcells⟩:=hv;unfold maxLen at hcap
 go_enter Tryz.func73,Tryz.ntmps73
 go_wp2
 go_loop [5,6,7] (fun y p i=>∃(k:Nat) (o:UInt8),k≤l.length∧i = .int .i64 k∧p = .int .u8 (B8 (pow x k))∧y = .int .u8 (B8 o)∧ev l x=o ^^^ mul (pow x k) (ev (l.drop k) x)) (fun _ _ i=>l.length-(intOf i).toNat)
 case atStart=>exact⟨0,0,N_ _,rfl,by rw[rO];rfl,rfl,by rw[rO,one_mul,zero_xor];rfl⟩
 case round =>
  obtain⟨k,o,hk,rfl,rfl,rfl,he⟩:=hrel
  by_cases hlt:k<l.length
  ·obtain⟨b,off,rfl,hbl,hc⟩:=hcells (by omega)
   have hcj:=hc k hlt
   have hjl:(k:Int)<l.length:=by omega
   have hx:=Sf l x o k hlt he;have hp:=rN x k;have HX:=O hx;have HP:=O hp;have HJ:=O hlt;clear hx hp he hcells
   go_wp2_with (go_at_call 116;refine(xL _ _ _).mono ?_;rintro e _ ⟨rfl,rfl⟩)
   go_round
   case rel=>exact⟨k+1,_,HJ.out,by go_num,by rw[HP.out],rfl,HX.out⟩
   case measure=>have := HJ.out;simp[intOf];omega
  ·have hk':k=l.length:=by omega
   have he':ev l x=o:=by
    rw[he,hk',List.drop_length]
    have : ev [] x=0:=by unfold ev;rfl
    rw[this,mul_zero,xor_zero]
   have HE:=O he';clear he he' hk';go_wp2;go_ret;exact⟨by rw[HE.out];rfl,rfl⟩
end Fld
end
section
theorem Tryz.own:ownKnob Tryz.prog.godebug=none:=by kernel_rfl
theorem Tryz.laidOut:laidOutB Tryz.prog=true:=by kernel_rfl
theorem vW (a:ByteArray):∃l:List UInt8,a=⟨l.toArray⟩:=⟨a.data.toList,by simp⟩
theorem J1 {a:Int} (h:(Lit.int .i64 a).wf=true) : -9223372036854775808≤a∧a≤9223372036854775807:=by
 simp only[Lit.wf,T_,decide_eq_true_eq] at h;exact h
open Go.ChangeShapes Go.WideShapes Go.ChangeAt Go.RowKit Go.Deep
set_option maxRecDepth 10000
section fk
variable {H:Type} {enc:TypeId × Value→H} {w:World} {ai:Nat} {sp:Nat→Bool} {held:Bool}
theorem fld {T t:TypeId} {fs:Array Field} {fuel:Nat} {cs:List Value} {x:DataW H × List MemPlace} (ht:Tryz.prog.underlying T=some (.struct fs)) (h:DataW.trod enc Tryz.prog w ai sp held fuel T cs=some x) (i o c:Nat)
  (hf:(fs.toList.map fun f=>(f.type,f.offset))[i]?=some (t,o)) (hc:Tryz.prog.cellsOf t=c):∃n y,DataW.trod enc Tryz.prog w ai sp held n t ((cs.drop o).take c)=some y:=by
 obtain⟨xs,n,_,_,_,hxs,hh⟩:=DataW.trod_struct ht h;rw[List.getElem?_map] at hf
 cases hfi:fs.toList[i]? with
 | none=>rw[hfi] at hf;cases hf
 | some f =>
   rw[hfi] at hf;simp only[Option.map_some,Option.some.injEq,Prod.mk.injEq] at hf
   have hfa:fs[i]?=some f:=by rw[←Array.getElem?_toList];exact hfi
   have h1:=hh i f hfa;rw[hf.1,hf.2,hc] at h1
   have hlt:i<xs.length:=by rw[hxs];exact(Q_.1 hfa).1
   exact⟨n,xs[i],by rw[h1,K_ hlt]⟩
theorem iR {T:TypeId} {fs:Array Field} {fuel c:Nat} {cs:List Value} {x:DataW H × List MemPlace} (ht:Tryz.prog.underlying T=some (.struct fs)) (hc:Tryz.prog.cellsOf T=c) (h:DataW.trod enc Tryz.prog w ai sp held fuel T cs=some x):cs.length=c:=by
 obtain⟨xs,n,_,_,hl,_⟩:=DataW.trod_struct ht h;rw[hl,hc]
theorem CN {cs:List Value} {o:Nat} {v:Value} (h:(cs.drop o).take 1=[v]):cs[o]?=some v:=cell_of_cut h
theorem bR {T:TypeId} {fs:Array Field} {fuel:Nat} {cs:List Value} {x:DataW H × List MemPlace} (ht:Tryz.prog.underlying T=some (.struct fs)) (h:DataW.trod enc Tryz.prog w ai sp held fuel T cs=some x) (i o:Nat)
  (hf:(fs.toList.map fun f=>(f.type,f.offset))[i]?=some (3,o)):∃z:Int,cs[o]?=some (.int .i64 z)∧(Lit.int .i64 z).wf=true:=by
 obtain⟨n,y,hy⟩:=fld ht h i o 1 hf (by kernel_rfl);obtain⟨z,hz,_,hw⟩:=DataW.trod_int Tryz.underlying3 hy;exact⟨z,CN hz,hw⟩
theorem kq {T:TypeId} {fs:Array Field} {fuel:Nat} {cs:List Value} {x:DataW H × List MemPlace} (ht:Tryz.prog.underlying T=some (.struct fs)) (h:DataW.trod enc Tryz.prog w ai sp held fuel T cs=some x) (i o:Nat)
  (hf:(fs.toList.map fun f=>(f.type,f.offset))[i]?=some (9,o)):∃l:List UInt8,cs[o]?=some (.string ⟨l.toArray⟩)∧l.length≤maxLen:=by
 obtain⟨n,y,hy⟩:=fld ht h i o 1 hf (by kernel_rfl);obtain⟨s,hs,_,hl⟩:=DataW.trod_string Tryz.underlying9 hy;obtain⟨l,rfl⟩:=vW s;exact⟨l,CN hs,hl⟩
theorem Mm {a:Int} (h:(Lit.int .u8 a).wf=true):∃c:UInt8,a=B8 c:=by
 simp only[Lit.wf,T_,decide_eq_true_eq] at h;have h1:(0:Int)≤a:=h.1;have h2:a≤255:=h.2;refine⟨UInt8.ofNat a.toNat,?_⟩;unfold B8;rw[UInt8.toNat_ofNat_of_lt' (by show a.toNat<256;omega)]
 omega
theorem qf {Q:Nat→UInt8→Prop} (n:Nat) (h:∀i,i<n→∃c,Q i c):∃d:List UInt8,d.length=n∧∀i,i<n→Q i (byteAt d i):=by
 induction n with
 | zero=>exact⟨[],rfl,fun i hi=>absurd hi (by omega)⟩
 | succ n ih =>
   obtain⟨d,hd,hq⟩:=ih (fun i hi=>h i (by omega));obtain⟨c,hc⟩:=h n (by omega);refine⟨d++[c],by simp[hd],fun i hi => ?_⟩
   by_cases e:i<n
   ·have : byteAt (d++[c]) i=byteAt d i:=by unfold byteAt;rw[I_,I_,List.getElem?_append_left (by omega)]
    rw[this];exact hq i e
   ·obtain rfl:i=n:=by omega
    have : byteAt (d++[c]) i=c:=by unfold byteAt;rw[I_,List.getElem?_append_right (by omega),hd];simp
    rw[this];exact hc
theorem E5 (l:List Value) (h:l.length=2):∃c0 c1,l=[c0,c1]:=by
 match l,h with
 | [c0,c1],_=>exact⟨c0,c1,rfl⟩
theorem mK {r:Reach} {b0:Nat} {T:TypeId} {fs:Array Field} {v:Value} (ht:Tryz.prog.underlying T=some (.struct fs)) (hval:Value.okWide Tryz.prog w r b0 T v) {d:DataW H} {ps:List MemPlace} (hd:DataW.Trod enc Tryz.prog w ai sp held T v d ps) :
  ∃cs:Array Value,v = .agg cs∧∃fuel,DataW.trod enc Tryz.prog w ai sp held fuel T cs.toList=some (d,ps):=by
 obtain⟨cs,rfl,_⟩:=okWide_struct ht hval;obtain⟨fuel,hf⟩:=hd;exact⟨cs,rfl,fuel,hf⟩
theorem oN {cs:Array Value} {l:List Value} (h:cs.toList=l):cs=l.toArray:=by rw[←h]
end fk
end
section
open Go.ChangeShapes Go.WideShapes Go.ChangeAt Go.RowKit Go.Deep
set_option maxRecDepth 10000
theorem okN {a:Int} (h:(Lit.int .i64 a).wf=true):okI a:=by
 have := J1 h;unfold okI
 omega
section
variable {H:Type} {enc:TypeId × Value→H} {w:World} {ai:Nat} {sp:Nat→Bool} {held:Bool}
theorem qm {fuel:Nat} {cs:List Value} {x:DataW H × List MemPlace} (h:DataW.trod enc Tryz.prog w ai sp held fuel 23 cs=some x):∃d:List UInt8,cs=(am d).toList∧d.length=16:=by
 obtain⟨xs,m,_,_,hl,hxs,hh⟩:=DataW.trod_array Tryz.underlying23 h
 have hc:Tryz.prog.cellsOf 23=16:=by kernel_rfl
 have hu:Tryz.prog.cellsOf 5=1:=by kernel_rfl
 rw[hc] at hl;rw[hu] at hh
 have key:∀i,i<16→∃c:UInt8,cs[i]?=some (.int .u8 (B8 c)):=by
  intro i hi;have h1:=hh i hi;rw[K_ (by omega:i<xs.length),Nat.mul_one] at h1;obtain⟨z,hz,_,hw⟩:=DataW.trod_int Tryz.underlying5 h1;obtain⟨c,rfl⟩:=Mm hw;exact⟨c,CN hz⟩
 obtain⟨d,hd,hq⟩:=qf 16 key;refine⟨d,List.ext_getElem? fun i => ?_,hd⟩;have e:(am d).toList=(List.range 16).map (aq d):=rfl;rw[e]
 by_cases hi:i<16
 ·rw[hq i hi];simp[hi,aq]
 ·rw[List.getElem?_eq_none (by omega),List.getElem?_eq_none (by simp;omega)]
theorem DI {fuel:Nat} {cs:List Value} {x:DataW H × List MemPlace} (h:DataW.trod enc Tryz.prog w ai sp held fuel 213 cs=some x) (hx:x.1 = .agg (KK.map fun k => .lit (.int .u32 (W32 k)))):cs=(row KK).toList:=by
 obtain⟨xs,m,_,hxx,hl,hxs,hi⟩:=DataW.trod_array Tryz.underlying213 h
 have hc:Tryz.prog.cellsOf 213=64:=by kernel_rfl
 have hu:Tryz.prog.cellsOf 130=1:=by kernel_rfl
 rw[hc] at hl;rw[hu] at hi
 have e1:xs.map (·.1)=KK.map fun k => .lit (.int .u32 (W32 k)):=by
  rw[hxx] at hx
  simpa using hx
 have hkl:KK.length=64:=lB
 apply List.ext_getElem?
 intro i
 have hr:(row KK).toList=KK.map fun k=>Value.int .u32 (W32 k):=by simp[row]
 rw[hr]
 by_cases hlt:i<64
 ·have h1:=hi i hlt
  rw[K_ (by omega:i<xs.length)] at h1;obtain⟨z,hz,he,_⟩:=DataW.trod_int Tryz.underlying130 h1
  have e2:(xs.map (·.1))[i]? = (KK.map fun k=>(DataW.lit (.int .u32 (W32 k)):DataW H))[i]? := by rw[e1]
  rw[List.getElem?_map,K_ (by omega:i<xs.length),List.getElem?_map,K_ (by omega:i<KK.length),Option.map_some,Option.map_some,he] at e2;simp only[Option.some.injEq,DataW.lit.injEq,Lit.int.injEq,true_and] at e2;rw[List.getElem?_map,K_ (by omega:i<KK.length),Option.map_some,←e2]
  have h2:((cs.drop (i*1)).take 1)[0]?=some (.int .u32 z):=by rw[hz];rfl
  rw[List.getElem?_take,G_ (by omega),List.getElem?_drop,Nat.mul_one,Nat.add_zero] at h2;exact h2
 ·rw[List.getElem?_eq_none (by omega),List.getElem?_eq_none (by rw[List.length_map];omega)]
end
theorem zx (cs:Array Value) (h:cs.toList=(row KK).toList):cs=row KK:=Array.ext' h
end
end Go.Proofs.YtmfiaadjdbemnaaGreatDoor
