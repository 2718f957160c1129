/- Contracts and lemmas. No condition. -/
import Derived.Test.YtmfiaadjdbemnaaGreatDoorSB12
import Derived.Test.YtmfiaadjdbemnaaGreatDoorSB05
import Derived.Deep.AppendLies
import Derived.Deep.Onto
import Derived.Deep.RegionLaw
import Derived.Deep.RegionLawGrows
set_option maxRecDepth 100000
set_option maxHeartbeats 8000000
set_option linter.unusedSimpArgs false
set_option linter.unusedVariables false
namespace Go.Proofs.YtmfiaadjdbemnaaGreatDoor
open Tryz
section
open Go.RowKit Go.Shelf
theorem Oq:(prog.info? 86).map (fun i=>(i.zero.map (·.cells.size),i.size,decide (0<i.bytes∧i.bytes≤200)))=some (some 9,9,true):=by kernel_rfl
theorem yY:∃i z,prog.info? 86=some i∧i.zero=some z∧i.size=9∧z.cells.size=9∧0<i.bytes∧i.bytes≤200:=by
 have h:=Oq
 cases hi:prog.info? 86 with
 | none=>rw[hi] at h;cases h
 | some i =>
   rw[hi] at h;simp only[Option.map_some,Option.some.injEq,Prod.mk.injEq,decide_eq_true_eq] at h
   cases hz:i.zero with
   | none=>rw[hz] at h;cases h.1
   | some z =>
     rw[hz] at h;exact⟨i,z,rfl,hz,h.2.1,by simpa using h.1,h.2.2.1,h.2.2.2⟩
def b7 (w:World) (ai:Nat) (v:Value) (l:List K):Prop:=w.ownsRow ai 86 9 v l.length (dV l)
theorem b7.rd {w:World} {ai:Nat} {v:Value} {l:List K} (h:b7 w ai v l):RdK w v l:=O6 rfl h
theorem b7.nil (w:World) (ai:Nat):b7 w ai (.slice none 0 0) []:=World.ownsRow_nil w ai _ 9
theorem b7.keep {w w':World} {ai B:Nat} {v:Value} {l:List K} (h:b7 w ai v l) (hb:Below B w w') (hB:w.heap.size≤B):b7 w' ai v l:=by
 refine⟨h.1,?_⟩
 rcases h.2 with hn|⟨g,cap,cur,rfl,hg,hgg,r⟩
 ·exact .inl hn
 ·exact .inr ⟨g,cap,cur,rfl,hg,by rw[hb.block _ (P_ (Q_.1 hgg).1 hB)];exact hgg,r⟩
theorem wO {w:World} {ops:Array Oper} {rest:List Oper} {o:Oper} {a:Act} {Q:Exit→Act→World→Prop} (hgd:o.guard=none) (s x:Operand)
  (ho:o.op = .call { callee := .builtin .append,args := #[s,x],argTypes := #[43,43] })
  (ai:Nat) (v:Value) (l:List K) (hs:a.eval s=v) (hown:b7 w ai v l) (xv:Value) (news:List K) (hx:a.eval x=xv) (hr:RdK w xv news)
  (hsz:l.length+news.length≤1000000) (hbase:ai≤w.heap.size)
  (h:∀v' w',b7 w' ai v' (l++news)→Below ai w w'→wpList prog ops Q rest (a.put o.dst v') w'):wpList prog ops Q (o::rest) a w:=by
 obtain⟨i0,z0,hi,hz,hs9,hz9,hb0,hb1⟩:=yY;have hfl:=hr;obtain⟨ad,cap,rfl,hcap,_,hc⟩:=hr
 have hflat:=hfl.flat
 cases ad with
 | some p =>
   refine wpList_append_own w hgd s x 43 ho ai 86 i0 z0 9 i0.bytes underlying43 hi hz hs9 rfl hz9 (by decide) v l.length (dV l) hs hown p news.length cap (dV news) hx (k8 news) (hflat p rfl) (rH news)
    (by unfold maxLen;omega) (M_ (Nat.mul_le_mul hsz hb1) (by decide)) hbase ?_
   intro v' w' h1 h2 _;refine h v' w' ?_ ((O_ ai w).grown h2 hbase (fun k hk=>(World.ownsRow.lt hown k hk).1));unfold b7;rw[E_,lS];exact h1
 | none =>
   have hn:news=[]:=by
    cases news with
    | nil=>rfl
    | cons c l =>
      obtain⟨b,off,e,_⟩:=hc (by simp)
      cases e
   subst hn
   have key:∃ad' n cap',v = .slice ad' n cap'∧n≤cap':=by
    rcases hown.2 with⟨rfl,_⟩|⟨g,cap',cur,rfl,_,_,h1,_⟩
    ·exact⟨none,0,0,rfl,A_ _⟩
    ·exact⟨_,_,_,rfl,h1⟩
   obtain⟨ad',n,cap',rfl,hle⟩:=key;have hrun:=run_append_nothing (P:=prog) w 43 43 o.type 86 i0 underlying43 hi ad' n cap' hle (.slice none 0 cap) (Src.ofNil w underlying43 cap);refine wpList_plain hgd fun K hK => ?_;unfold Oper.wp execOp;have hx':a.eval x = .slice none 0 cap:=hx;simp only[ho,resolve,invoke,builtin,Sem.run_bind,Sem.run_pure,Result.andThen_ok,List.map_toArray,List.map_cons,List.map_nil,hs,hx',hrun];exact hK _ _ (h _ _ (by rw[List.append_nil];exact hown) (O_ _ _))
theorem Q9 (w:World) (k:K):RdK (w.alloc (.cells (kc k) 86)) (.slice (some ⟨w.heap.size,0,none⟩) 1 1) [k] :=
 ⟨_,1,rfl,A_ _,by unfold maxLen;omega,fun _=>⟨w.heap.size,0,rfl,by simp,fun j hj i hi=>by
  have : j=0:=by simpa using hj
  subst this;rw[e_ _ _ _ _ _ _ (heap_alloc_new _ _)]
  simp[ae]⟩⟩
theorem N4 (w:World):b7 (w.alloc (.cells #[] 86)) w.heap.size (.slice (some ⟨w.heap.size,0,none⟩) 0 0) [] :=
 ⟨rfl,.inr ⟨w.heap.size,0,#[],rfl,A_ _,heap_alloc_new _ _,A_ _,by unfold maxLen;omega,rfl,rfl⟩⟩
attribute [local irreducible] Calls
theorem Ep (v:Value) (l:List K) (w:World) (hv:RdK w v l) (hl:l.length≤5000) :
  Calls prog 53 #[v] w fun e w'=>∃v',e = .returned v'∧b7 w' w.heap.size v' l∧Below w.heap.size w w':=by
 have HV:=O hv;obtain⟨a,cap,rfl,_,_,hc⟩:=hv;have heq:∀(a:Option Addr) (n c:Nat) (w:World),(binOp .eql 43 (.slice a n c) (.slice none 0 0)).run prog w = .ok (.bool a.isNone) w:=fun a n c w=>Lib.run_eql_slice_nil w _ _ a n c 0 0 underlying43
 cases a with
 | none =>
   have hn:l=[]:=by
    cases l with
    | nil=>rfl
    | cons c l =>
      obtain⟨b,off,e,_⟩:=hc (by simp)
      cases e
   subst hn
   go_enter func53,ntmps53
   go_wp2;go_ret;exact⟨_,rfl,b7.nil _ _,O_ _ _⟩
 | some p =>
   have hsz:Hid (([]:List K).length+l.length≤1000000):=O (by simp;omega);clear hc
   go_enter func53,ntmps53
   go_wp2_with (at_builtin;refine wO rfl (.tmp 5) (.tmp 6) rfl w.heap.size _ [] rfl (N4 w) _ l rfl (HV.out.alloc _) hsz.out (by rw[World.size_alloc];exact Nat.le_succ _) ?_;intro v' w' ho hb)
   go_ret;exact⟨_,rfl,ho,((O_ _ _).alloc (A_ _) _).trans hb⟩
end
section
open Go.RowKit Go.Shelf
theorem qY (x y:List UInt8):((⟨x.toArray⟩:ByteArray).toList == (⟨y.toArray⟩:ByteArray).toList)=(x == y):=by
 rw[ByteArray.toList_eq,ByteArray.toList_eq]
open Go.RowKit Go.Shelf
def bL (nx:Int) (l:List K) (k:K):Int:=if bf k=true∧k.par<nx then (if l.length<4096∧nx<2147483647 then 0 else 2) else 1
theorem fb (nx:Int) (l:List K) (k:K):(bf k=false∧bL nx l k=1)∨(bf k=true∧nx≤k.par∧bL nx l k=1)∨(bf k=true∧¬nx≤k.par∧(4096:Int)≤l.length∧bL nx l k=2) ∨
  (bf k=true∧¬nx≤k.par∧¬(4096:Int)≤l.length∧2147483647≤nx∧bL nx l k=2)∨(bf k=true∧¬nx≤k.par∧¬(4096:Int)≤l.length∧¬2147483647≤nx∧bL nx l k=0):=by
 unfold bL
 cases h1:bf k
 ·simp
 by_cases h2:nx≤k.par
 ·have : ¬k.par<nx:=by omega
  simp[h2,this]
 have a2:k.par<nx:=by omega
 by_cases h3:(4096:Int)≤l.length
 ·have : ¬l.length<4096:=by omega
  simp[h2,a2,h3,this]
 have a3:l.length<4096:=by omega
 by_cases h4:2147483647≤nx
 ·have : ¬nx<2147483647:=by omega
  simp[h2,a2,h3,a3,h4,this]
 have a4:nx<2147483647:=by omega
 simp[h2,a2,h3,a3,h4,a4]
theorem nP (w:World) (A B C:Obj):(((w.alloc A).alloc B).alloc C).heap[w.heap.size+1+1]?=some C:=Kk w A B C
attribute [local irreducible] Calls bf
end
section
open Go.RowKit Go.Shelf
theorem Ch {ops:Array Oper} {o:Oper} {a:Act} {w:World} {K:Act→World→Prop} {Q:Exit→Act→World→Prop} {E:Prop} (hgd:o.guard=none) (s x:Operand)
  (ho:o.op = .call { callee := .builtin .append,args := #[s,x],argTypes := #[43,43] })
  (ao:Option Addr) (l:List Go.Proofs.YtmfiaadjdbemnaaGreatDoor.K) (hs:a.eval s = .slice ao l.length l.length) (hr:RdK w (.slice ao l.length l.length) l) (ad:Addr) (m c:Nat) (news:List Go.Proofs.YtmfiaadjdbemnaaGreatDoor.K) (hx:a.eval x = .slice (some ad) m c) (hl:news.length=m) (hm:0<m)
  (hnews:RdK w (.slice (some ad) m c) news) (hsz:l.length+m≤1000000)
  (h:∀v' w',b7 w' w.heap.size v' (l++news)→Below w.heap.size w w'→K (a.put o.dst v') w') :
  if Region.wanted o (yielded ops a.tmps)=true then Oper.wp prog o a w K Q else E:=by
 obtain⟨i0,z0,hi,hz,hs9,hz9,hb0,hb1⟩:=yY
 have hn:ao=none→l.length=0∧l.length=0:=by
  intro e;subst e;obtain⟨a',c',e,_,_,h3⟩:=hr
  cases e
  have : l.length=0:=by
   rcases Nat.eq_zero_or_pos l.length with h0|h0
   ·exact h0
   ·obtain⟨b,off,e,_⟩:=h3 h0
    cases e
  exact⟨this,this⟩
 refine step_append_grows hgd s x 43 ho 86 i0 z0 9 i0.bytes underlying43 hi hz hs9 rfl hz9 (by decide) ao l.length l.length (dV l) hs hn (k8 l) hr.flat ad m c (dV news) hx (by rw[k8,hl]) (hnews.flat ad rfl) (rH news)
  (by omega) (by unfold maxLen;omega) (M_ (Nat.mul_le_mul hsz hb1) (by decide)) ?_
 intro v' w' h1 h2;refine h v' w' ?_ ((O_ _ w).grown h2 (A_ _) (fun k hk=>by cases hk));unfold b7;rw[E_,hl,lS];exact h1
open Go.RowKit Go.Shelf
def aW (k:K) (n:Int):K:={ k with id:=n }
def aU (k:K) (n:Int):K:={ k with par:=n }
theorem cN (nx:Int) (l:List K):aP nx l=true↔l.length≤4096∧1≤nx∧nx≤2147483647∧∀j,j<l.length→oE nx l j=true:=by
 unfold aP;rw[T_,T_,decide_eq_true_eq,kJ,List.all_eq_true];simp only[List.mem_range]
 constructor
 ·rintro⟨⟨a,b,c⟩,d⟩;exact⟨a,b,c,d⟩
 ·rintro⟨a,b,c,d⟩;exact⟨⟨a,b,c⟩,d⟩
theorem jS (nx:Int) (l:List K) (i:Nat):oE nx l i=true↔bf (ae l i)=true∧cv l i<(ae l i).id∧(ae l i).id<nx∧(ae l i).par<nx:=by
 unfold oE;simp only[T_,decide_eq_true_eq]
 constructor
 ·rintro⟨⟨⟨a,b⟩,c⟩,d⟩;exact⟨a,b,c,d⟩
 ·rintro⟨a,b,c,d⟩;exact⟨⟨⟨a,b⟩,c⟩,d⟩
open Go.RowKit Go.Shelf
theorem de (w:World) (g i:Nat) (cs:Array Value) (T:TypeId) (fr:Nat × Nat) (v:Value) (h:w.heap[g]?=some (.cells cs T fr)):w.setCell ⟨g,i,none⟩ v=w.setRow g (cs.setIfInBounds i v):=by
 unfold World.setCell World.setRow;simp only[World.mk.injEq,and_true]
 apply Array.ext_getElem?
 intro j;simp only[Array.getElem?_modify]
 by_cases h':g=j
 ·subst h'
  simp[h]
 ·simp[h']
theorem EV {w:World} {B:Nat} {k:K} (h:di w B k) (n:Int):di (w.setCell ⟨B,0,none⟩ (.int .i64 n)) B (aW k n):=by
 unfold di at *;rw[de w B 0 _ _ _ _ h,setRow_heap _ _ _ _ _ _ h]
 rfl
attribute [local irreducible] Calls bf
theorem bA {w:World} {g g2 k:Nat} {v:Value} (h:g2≠g):(w.setCell ⟨g2,k,none⟩ v).heap[g]? = w.heap[g]? := by
 unfold World.setCell
 simp[Array.getElem?_modify,h]
theorem fY (w:World) (p:Addr) (v:Value):(w.setCell p v).heap.size=w.heap.size:=by simp[World.setCell]
theorem di.free {w:World} {B:Nat} {k:K} (h:di w B k) (j:Nat):w.frozen? ⟨B,j,none⟩=false:=by
 unfold di at h
 simp[World.frozen?,h]
theorem A9 {w:World} {g:Nat} {cs:Array Value} {T:TypeId} (h:w.heap[g]?=some (.cells cs T (0,0))) (j:Nat):w.frozen? ⟨g,j,none⟩=false:=by simp[World.frozen?,h]
theorem lm {w:World} {ai:Nat} {v:Value} {l:List K} {g2 k:Nat} {x:Value} (h:b7 w ai v l) (hlt:g2<ai):b7 (w.setCell ⟨g2,k,none⟩ x) ai v l:=by
 refine⟨h.1,?_⟩
 rcases h.2 with hn|⟨g,cap,cur,rfl,hg,hgg,r⟩
 ·exact .inl hn
 ·exact .inr ⟨g,cap,cur,rfl,hg,by rw[bA (by omega)];exact hgg,r⟩
theorem xV {w:World} {ai b':Nat} {va:Option Addr} {c:Nat} {l:List K} {x:K} (h:b7 w ai (.slice va (l++[x]).length c) (l++[x])) (hb:b'≤ai):b7 w b' (.slice va (l.length+1) c) (l++[x]):=by
 have h2:=World.ownsRow.mono h hb;unfold b7;rw[E_] at h2 ⊢;exact h2
theorem xS (w:World) (k:K):RdK (w.alloc (.cells (kc k) 86)).drew (.slice (some ⟨w.heap.size,0,none⟩) 1 1) [k]:=(Q9 w k).drew 1
end
section
open Go.RowKit
abbrev q8 (a b c d e f g h:UInt32):Array Value := #[.int .u32 (W32 a),.int .u32 (W32 b),.int .u32 (W32 c),.int .u32 (W32 d),.int .u32 (W32 e),.int .u32 (W32 f),.int .u32 (W32 g),.int .u32 (W32 h)]
attribute [local irreducible] Calls brow row sha gj
end
section
namespace Fld
open Go.RowKit F6
def brow (s:List UInt8):Array Value:=(s.map fun x=>Value.int .u8 (B8 x)).toArray
@[go_sem] theorem bV (s:List UInt8):(brow s).size=s.length:=by simp[brow]
@[go_sem] theorem As (s : List UInt8) (i : Nat) (h : i < s.length) : (brow s)[i]?=some (.int .u8 (B8 (byteAt s i))) := by
  simp[brow,byteAt,K_ h]
@[go_sem] theorem Uf (s : List UInt8) (i : Nat) (h : i < (brow s).size) : (brow s)[i] = .int .u8 (B8 (byteAt s i)) := by
  have h':i<s.length:=by rwa [bV] at h
  have := As s i h';rw[Array.getElem?_eq_getElem h] at this;exact Option.some.inj this
@[go_sem] theorem qd (s : List UInt8) (i : Nat) (x : UInt8) : (brow s).setIfInBounds i (.int .u8 (B8 x)) = brow (s.set i x) := by
  simp[brow,List.map_set]
def sqs (a:UInt8) (k:Nat):List UInt8:=(List.range 8).map fun j=>if j<k then sq a j else 0
theorem Fw (a:UInt8) (k:Nat):(sqs a k).length=8:=by simp[sqs]
theorem L4 (a:UInt8) (k j:Nat) (h:j<k) (h8:k≤8):byteAt (sqs a k) j=sq a j:=by
 have hj:j<8:=by omega
 simp[byteAt,sqs,I_,hj,h]
theorem PY (a:UInt8) (k:Nat) (h:k<8):(sqs a k).set k (sq a k)=sqs a (k+1):=by
 apply List.ext_getElem (by simp[sqs])
 intro i h1 h2;rw[List.getElem_set];simp only[sqs,List.getElem_map,List.getElem_range]
 by_cases e:k=i
 ·subst e;simp
 ·rw[H_ e]
  by_cases hi:i<k
  ·rw[G_ hi,G_ (by omega)]
  ·rw[H_ hi,H_ (by omega)]
attribute [local irreducible] mul
theorem GP (a:UInt8) (w:World) :
  Calls prog 197 #[.int .u8 (B8 a)] w fun e w'=>e = .returned (.int .u8 (B8 (ku a)))∧Below w.heap.size w w':=by
 go_enter func197,ntmps197
 go_wp2
 go_loopw [4,5] (fun p i wr=>∃m:Nat,m≤7∧i = .int .i64 ((m+1:Nat):Int)∧p = .int .u8 (B8 (sqp a m))∧∃n,wr=(w.alloc (.cells (brow (sqs a (m+1))) 257)).drewN n) (fun _ i _=>8-(intOf i).toNat)
 case atStart=>exact⟨0,by omega,rfl,rfl,0,rfl⟩
 case round =>
  obtain⟨m,hm,rfl,rfl,n,rfl⟩:=hrel
  by_cases hlt:m<7
  ·have hlen:=Fw a (m+1)
   have hlen2:=Fw a (m+2);have hat:=L4 a (m+1) m (by omega) (by omega);have hat2:=L4 a (m+2) (m+1) (by omega) (by omega);have hst:=PY a (m+1) (by omega);have hsq:mul (sq a m) (sq a m)=sq a (m+1):=rfl;have hsp:mul (sqp a m) (sq a (m+1))=sqp a (m+1):=rfl
   have b1:m<8:=by omega
   have b2:m+1<8:=by omega
   have b3:(m:Int)<8:=by omega
   have b4:(m:Int)+1<8:=by omega
   have e0:(m:Int)+1-1=m:=by omega
   have HK:=O hlt;have HSP:=O hsp;clear hsp;rw[show ((m+1:Nat):Int)=(m:Int)+1 by simp];go_wp2
   first |refine dJ 11 (by kernel_rfl) (by kernel_rfl) ?_|refine dD 11 (by kernel_rfl) (by kernel_rfl) ?_
   simp only[F_,c_,J_,L_]
   repeat (go_big_quiet_step ((go_at_call 156;refine Calls.quiet_of_same (xK _ _ _))))
   refine h_ ?_;rintro _ ⟨nq,rfl⟩
   go_wp2_with (go_at_call 156;refine(xK _ _ _).mono ?_;rintro e _ ⟨rfl,rfl⟩)
   go_roundw
   case rel=>exact⟨m+1,HK.out,by go_num,by rw[HSP.out],_,rfl⟩
   case measure=>have := HK.out;simp[intOf];omega
  ·have he:m=7:=by omega
   have HE:=O he;clear he;go_wp2;go_ret;exact⟨by rw[HE.out];rfl,ak _ ((O_ _ _).alloc (A_ _) _)⟩
theorem Qx {a:UInt8} (h:a≠0):(B8 a == 0)=false:=by rw[U_];intro e;exact h (pJ (by rw[e];rfl))
theorem VD (a b:UInt8) (h:b≠0) (w:World) :
  Calls prog 189 #[.int .u8 (B8 a),.int .u8 (B8 b)] w fun e w'=>e = .returned (.tuple #[.int .u8 (B8 (div a b)),.int .i64 0])∧Below w.heap.size w w':=by
 have hb:=Qx h
 by_cases ha:a=0
 ·subst ha
  have hz:div 0 b=0:=by rw[div,zero_mul]
  rw[hz]
  go_enter func189,ntmps189
  go_wp2
  go_ret2
  exact⟨rfl,O_ _ _⟩
 ·have ha':=Qx ha
  go_enter func189,ntmps189
  go_wp2_with (first
   |(go_at_call 197;refine(GP _ _).mono ?_;rintro e w1 ⟨rfl,hb1⟩)
   |(go_at_call 156;refine(xK _ _ _).mono ?_;rintro e _ ⟨rfl,rfl⟩))
  go_ret2
  exact⟨rfl,hb1⟩
end Fld
end
section
namespace Fld
open Go.RowKit F6
def RdB (w:World) (v:Value) (l:List UInt8):Prop :=
 ∃ a cap, v = .slice a l.length cap ∧ l.length ≤ cap ∧ cap ≤ maxLen ∧
   (0<l.length→∃b off,a=some ⟨b,off,none⟩∧b<w.heap.size∧∀i,i<l.length→w.cell? ⟨b,off+i,none⟩=some (.int .u8 (B8 (byteAt l i))))
theorem RdB.keep {w w':World} {v:Value} {l:List UInt8} {B:Nat} (h:RdB w v l) (hb:Below B w w') (hB:w.heap.size≤B):RdB w' v l:=by
 obtain⟨a,cap,rfl,h1,h2,h3⟩:=h;refine⟨a,cap,rfl,h1,h2,fun h0 => ?_⟩;obtain⟨b,off,rfl,hlt,hc⟩:=h3 h0;refine⟨b,off,rfl,P_ hlt hb.size,fun i hi => ?_⟩;rw[hb.cell (p:=⟨b,off+i,none⟩) (P_ hlt hB)];exact hc i hi
theorem EB (l:List UInt8) (x:UInt8) (k:Nat) (h:k<l.length):ev (l.drop k) x=byteAt l k ^^^ mul x (ev (l.drop (k+1)) x):=by
 rw[List.drop_eq_getElem_cons h]
 show l[k] ^^^ mul x _=_
 rw[byteAt,I_,K_ h];rfl
attribute [local irreducible] mul ev
theorem eval_c (v:Value) (l:List UInt8) (x:UInt8) (w:World) (hv:RdB w v l) :
  Calls prog 110 #[v,.int .u8 (B8 x)] w fun e w'=>e = .returned (.int .u8 (B8 (ev l x)))∧∃n,w'=w.drewN n:=by
 obtain⟨a,cap,rfl,hl,hcap,hcells⟩:=hv;unfold maxLen at hcap
 go_enter func110,ntmps110
 go_wp2
 go_loopw [4,5] (fun y i wr=>∃k:Nat,k≤l.length∧i = .int .i64 ((k:Int)-1)∧y = .int .u8 (B8 (ev (l.drop k) x))∧∃n,wr=w.drewN n) (fun _ i _=>((intOf i)+1).toNat)
 case atStart=>exact⟨l.length,A_ _,by go_num,by rw[List.drop_length];unfold ev;rfl,0,rfl⟩
 case round =>
  obtain⟨k,hk,rfl,rfl,n,rfl⟩:=hrel
  cases k with
  | zero =>
    go_wp2;go_ret;exact⟨rfl,n,rfl⟩
  | succ j =>
    obtain⟨b,off,rfl,hlt,hc⟩:=hcells (by omega);have hcj:=hc j (by omega)
    have hjl:(j:Int)<l.length:=by omega
    have hjn:j<l.length:=by omega
    have hx:mul (ev (l.drop (j+1)) x) x ^^^ byteAt l j=ev (l.drop j) x:=by rw[EB l x j hjn,mul_comm,xor_comm]
    have HX:=O hx;have HJ:=O hjn;clear hx hcells;rw[show ((j+1:Nat):Int)-1=(j:Int) by omega];go_wp2
    first |refine fR (by kernel_rfl) (by kernel_rfl) ?_|refine fG (by kernel_rfl) (by kernel_rfl) ?_
    repeat (go_big_quiet_step ((go_at_call 156;refine Calls.quiet_of_same (xK _ _ _))))
    refine h_ ?_;rintro _ ⟨nq,rfl⟩;go_wp2;go_roundw
    case rel=>exact⟨j,Nat.le_of_lt HJ.out,by go_num,by rw[HX.out],_,rfl⟩
    case measure=>simp[intOf]
end Fld
end
section
namespace Fld
open Go.RowKit F6
def okX (l:List UInt8):Bool:=decide (1≤l.length) && decide (l.length≤255) && decide l.Nodup
def trow (s:List Bool):Array Value:=(s.map Value.bool).toArray
@[go_sem] theorem Hx (s:List Bool):(trow s).size=s.length:=by simp[trow]
def tAt (s:List Bool) (i:Nat):Bool:=s.getD i false
@[go_sem] theorem trow_get (s : List Bool) (i : Nat) (h : i < s.length) : (trow s)[i]?=some (.bool (tAt s i)) := by
  simp[trow,tAt,K_ h]
@[go_sem] theorem UL (s : List Bool) (i : Nat) (h : i < (trow s).size) : (trow s)[i] = .bool (tAt s i) := by
  have h':i<s.length:=by rwa [Hx] at h
  have := trow_get s i h';rw[Array.getElem?_eq_getElem h] at this;exact Option.some.inj this
@[go_sem] theorem trow_set (s : List Bool) (i : Nat) (x : Bool) : (trow s).setIfInBounds i (.bool x) = trow (s.set i x) := by
  simp[trow,List.map_set]
def seenB (l:List UInt8):List Bool:=(List.range 256).map fun j=>decide (UInt8.ofNat j∈l)
theorem seen_len (l:List UInt8):(seenB l).length=256:=by simp[seenB]
theorem LB:seenB []=List.replicate 256 false:=by decide +kernel
theorem seen_at (l:List UInt8) (x:UInt8):tAt (seenB l) x.toNat=decide (x∈l):=by
 have h:=x.toNat_lt;have h2:x.toNat<256:=h
 simp[tAt,seenB,I_,List.getElem?_range h2]
theorem seen_set (l:List UInt8) (x:UInt8):(seenB l).set x.toNat true=seenB (l++[x]):=by
 apply List.ext_getElem (by simp[seenB])
 intro i h1 h2
 have hi:i<256:=by simpa [seenB] using h2
 rw[List.getElem_set];simp only[seenB,List.getElem_map,List.getElem_range]
 by_cases e:x.toNat=i
 ·subst e;simp
 ·rw[H_ e]
  have hne:UInt8.ofNat i≠x:=by
   intro h;apply e;rw[←h,UInt8.toNat_ofNat_of_lt' hi]
  simp[hne]
theorem iM (l:List UInt8) (k:Nat) (h:k<l.length):l.take (k+1)=l.take k++[byteAt l k]:=by
 rw[List.take_succ_eq_append_getElem h,byteAt,I_,K_ h];rfl
theorem DZ:(prog.info? 233).map (·.zero)=some (some (.agg (trow (List.replicate 256 false)))):=by kernel_rfl
theorem zero_seen (w:World):(zeroValue 233).run prog w = .ok (.agg (trow (seenB []))) w:=by
 have h:=DZ;rw[←LB] at h;generalize trow (seenB [])=L at h ⊢
 cases hq:prog.info? 233 with
 | none=>rw[hq] at h;cases h
 | some i =>
   rw[hq] at h
   simp at h
   simp[zeroValue,typeInfo,hq,h]
theorem uJ (v:Value) (l:List UInt8) (w:World) (hv:RdB w v l) :
  Calls prog 187 #[v] w fun e w'=>e = .returned (.bool (okX l))∧Below w.heap.size w w':=by
 obtain⟨a,cap,rfl,hl,hcap,hcells⟩:=hv;unfold maxLen at hcap;have hz:=zero_seen
 go_enter func187,ntmps187
 go_wp2
 go_loopw [8] (fun i wr=>∃k:Nat,k≤l.length∧i = .int .i64 k∧(l.take k).Nodup∧wr=w.alloc (.cells (trow (seenB (l.take k))) 233)) (fun i _=>l.length-(intOf i).toNat)
 case atStart=>exact⟨0,N_ _,rfl,List.nodup_nil,rfl⟩
 case round =>
  clear hz;obtain⟨k,hk,rfl,hnd,rfl⟩:=hrel
  by_cases hlt:k<l.length
  ·obtain⟨b,off,rfl,hbl,hc⟩:=hcells (by omega)
   have hcj:=hc k hlt
   have hki:(k:Int)<l.length:=by omega
   have hsn:=iM l k hlt;have hsl:=seen_len (l.take k);have hsa:=seen_at (l.take k) (byteAt l k);have hss:=seen_set (l.take k) (byteAt l k);rw[←hsn] at hss;have hx0:=jZ (byteAt l k);have hx1:=kI (byteAt l k)
   have hxn:(B8 (byteAt l k)).toNat=(byteAt l k).toNat:=by simp[B8]
   have hxl:(byteAt l k).toNat<256:=(byteAt l k).toNat_lt
   have hl0:(0:Int)<l.length:=by omega
   have HK:=O hlt;have HSN:=O hsn;clear hsn
   by_cases hm:byteAt l k∈l.take k
   ·have hno:okX l=false:=by
     have : ¬l.Nodup:=by
      intro hn;have h2:(l.take (k+1)).Nodup:=(List.take_sublist _ _).nodup hn;rw[HSN.out,List.nodup_append] at h2;exact h2.2.2 _ hm _ (by simp) rfl
     simp[okX,this]
    rw[show decide (byteAt l k∈l.take k)=true by simpa using hm] at hsa;have HNO:=O hno;clear hno hm hnd;go_wp2;go_ret;exact⟨by rw[HNO.out];rfl,(O_ _ _).alloc (A_ _) _⟩
   ·have hnd2:(l.take (k+1)).Nodup:=by
     rw[HSN.out,List.nodup_append];refine⟨hnd,by simp,?_⟩;intro x hx y hy e;rw[List.mem_singleton] at hy;rw[e,hy] at hx;exact hm hx
    have HND:=O hnd2;rw[show decide (byteAt l k∈l.take k)=false by simpa using hm] at hsa;have hst:=seen_set (l.take k) (byteAt l k);rw[←HSN.out] at hst;clear hnd hnd2 hm hss;go_wp2;go_roundw
    case rel=>exact⟨k+1,HK.out,by go_num,HND.out,rfl⟩
    case measure=>have := HK.out;simp[intOf];omega
  ·have he:k=l.length:=by omega
   have hnd':l.Nodup:=by rw[he,List.take_length] at hnd;exact hnd
   have hok:okX l=(decide (1≤l.length) && decide (l.length≤255)):=by simp[okX,hnd']
   have HO:=O hok;clear hok hnd hnd' hcells
   by_cases h1:1≤l.length
   ·have h1':(1:Int)≤l.length:=by omega
    by_cases h2:l.length≤255
    ·have h2':(l.length:Int)≤255:=by omega
     have hres:okX l=true:=by rw[HO.out];simp;omega
     have HR:=O hres;clear hres he;go_wp2;go_ret;exact⟨by rw[HR.out];rfl,(O_ _ _).alloc (A_ _) _⟩
    ·have h2':¬(l.length:Int)≤255:=by omega
     have hres:okX l=false:=by rw[HO.out];simp;omega
     have HR:=O hres;clear hres he;go_wp2;go_ret;exact⟨by rw[HR.out];rfl,(O_ _ _).alloc (A_ _) _⟩
   ·have h1':¬(1:Int)≤l.length:=by omega
    have hres:okX l=false:=by rw[HO.out];simp;omega
    have HR:=O hres;clear hres he;go_wp2;go_ret;exact⟨by rw[HR.out];rfl,(O_ _ _).alloc (A_ _) _⟩
end Fld
end
end Go.Proofs.YtmfiaadjdbemnaaGreatDoor
