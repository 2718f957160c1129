/- Contracts and lemmas. No condition. -/
import Derived.Test.YtmfiaadjdbemnaaGreatDoorSB12
import Derived.Deep.AppendLies
import Derived.Deep.Onto
import Derived.Deep.RegionLaw
import Derived.Deep.RegionLawGrows
set_option maxRecDepth 100000
set_option maxHeartbeats 8000000
namespace Go.Proofs.YtmfiaadjdbemnaaGreatDoor
section
open Go.RowKit
theorem vO (w:World) (cs0 cs:Array Value) (T:TypeId):(w.alloc (.cells cs0 T)).setRow w.heap.size cs=w.alloc (.cells cs T):=by
 unfold World.setRow World.alloc;simp only[World.mk.injEq,and_true]
 apply Array.ext_getElem?
 intro j;rw[Array.getElem?_modify]
 by_cases h:w.heap.size=j
 ·subst h
  simp
 ·simp only[h,if_false]
  simp only[Array.getElem?_push];rw[if_neg (fun e=>h e.symm),if_neg (fun e=>h e.symm)]
theorem aH {ops:Array Oper} {rest:List Oper} {o:Oper} {a:Act} {w0:World} {Q:Exit→Act→World→Prop} {cs0:Array Value} (cs:Array Value) (T:TypeId) (hgd:o.guard=none) (x y:Operand) (ho:o.op = .store T x y)
  (n:Nat) (hx:a.eval x = .pointer (some ⟨n,0,none⟩)) (hn:w0.heap.size=n) (hy:a.eval y = .agg cs) (hi:(Tryz.prog.info? T).map (·.size)=some cs.size) (hold:cs0.size=cs.size) (h1:cs.all (·.oneCell')=true)
  (h:wpList Tryz.prog ops Q rest (a.put o.dst undef) (w0.alloc (.cells cs T))):wpList Tryz.prog ops Q (o::rest) a (w0.alloc (.cells cs0 T)):=by
 subst hn;refine wpList_store_row hgd T x y ho w0.heap.size cs hx hy T cs0 (heap_alloc_new _ _) hi hold h1 ?_;rw[vO];exact h
open Go.RowKit Go.Shelf
theorem Oq:(Tryz.prog.info? 86).map (fun i=>(i.zero.map (·.cells.size),i.size,decide (0<i.bytes∧i.bytes≤200)))=some (some 9,9,true):=by kernel_rfl
theorem yY:∃i z,Tryz.prog.info? 86=some i∧i.zero=some z∧i.size=9∧z.cells.size=9∧0<i.bytes∧i.bytes≤200:=by
 have h:=Oq
 cases hi:Tryz.prog.info? 86 with
 | none=>rw[hi] at h;cases h
 | some i =>
   rw[hi] at h;simp only[Option.map_some,Option.some.injEq,Prod.mk.injEq,decide_eq_true_eq] at h
   cases hz:i.zero with
   | none=>rw[hz] at h;cases h.1
   | some z =>
     rw[hz] at h;exact⟨i,z,rfl,hz,h.2.1,by simpa using h.1,h.2.2.1,h.2.2.2⟩
def b7 (w:World) (ai:Nat) (v:Value) (l:List K):Prop:=w.ownsRow ai 86 9 v l.length (dV l)
theorem b7.rd {w:World} {ai:Nat} {v:Value} {l:List K} (h:b7 w ai v l):RdK w v l:=O6 rfl h
theorem b7.nil (w:World) (ai:Nat):b7 w ai (.slice none 0 0) []:=World.ownsRow_nil w ai _ 9
theorem b7.keep {w w':World} {ai B:Nat} {v:Value} {l:List K} (h:b7 w ai v l) (hb:Below B w w') (hB:w.heap.size≤B):b7 w' ai v l:=by
 refine⟨h.1,?_⟩
 rcases h.2 with hn|⟨g,cap,cur,rfl,hg,hgg,r⟩
 ·exact .inl hn
 ·exact .inr ⟨g,cap,cur,rfl,hg,by rw[hb.block _ (Nat.lt_of_lt_of_le (Array.getElem?_eq_some_iff.1 hgg).1 hB)];exact hgg,r⟩
theorem wO {w:World} {ops:Array Oper} {rest:List Oper} {o:Oper} {a:Act} {Q:Exit→Act→World→Prop} (hgd:o.guard=none) (s x:Operand)
  (ho:o.op = .call { callee := .builtin .append,args := #[s,x],argTypes := #[43,43] })
  (ai:Nat) (v:Value) (l:List K) (hs:a.eval s=v) (hown:b7 w ai v l) (xv:Value) (news:List K) (hx:a.eval x=xv) (hr:RdK w xv news)
  (hsz:l.length+news.length≤1000000) (hbase:ai≤w.heap.size)
  (h:∀v' w',b7 w' ai v' (l++news)→Below ai w w'→wpList Tryz.prog ops Q rest (a.put o.dst v') w'):wpList Tryz.prog ops Q (o::rest) a w:=by
 obtain⟨i0,z0,hi,hz,hs9,hz9,hb0,hb1⟩:=yY;have hfl:=hr;obtain⟨ad,cap,rfl,hcap,_,hc⟩:=hr
 have hflat:=hfl.flat
 cases ad with
 | some p =>
   refine wpList_append_own w hgd s x 43 ho ai 86 i0 z0 9 i0.bytes Tryz.underlying43 hi hz hs9 rfl hz9 (by decide) v l.length (dV l) hs hown p news.length cap (dV news) hx (k8 news) (hflat p rfl) (rH news)
    (by unfold maxLen;omega) (Nat.le_trans (Nat.mul_le_mul hsz hb1) (by decide)) hbase ?_
   intro v' w' h1 h2 _;refine h v' w' ?_ ((Oo ai w).grown h2 hbase (fun k hk=>(World.ownsRow.lt hown k hk).1));unfold b7;rw[List.length_append,lS];exact h1
 | none =>
   have hn:news=[]:=by
    cases news with
    | nil=>rfl
    | cons c l =>
      obtain⟨b,off,e,_⟩:=hc (by simp)
      cases e
   subst hn
   have key:∃ad' n cap',v = .slice ad' n cap'∧n≤cap':=by
    rcases hown.2 with⟨rfl,_⟩|⟨g,cap',cur,rfl,_,_,h1,_⟩
    ·exact⟨none,0,0,rfl,Nat.le_refl _⟩
    ·exact⟨_,_,_,rfl,h1⟩
   obtain⟨ad',n,cap',rfl,hle⟩:=key;have hrun:=run_append_nothing (P:=Tryz.prog) w 43 43 o.type 86 i0 Tryz.underlying43 hi ad' n cap' hle (.slice none 0 cap) (Src.ofNil w Tryz.underlying43 cap);refine wpList_plain hgd fun K hK => ?_;unfold Oper.wp execOp;have hx':a.eval x = .slice none 0 cap:=hx;simp only[ho,resolve,invoke,builtin,Sem.run_bind,Sem.run_pure,Result.andThen_ok,List.map_toArray,List.map_cons,List.map_nil,hs,hx',hrun];exact hK _ _ (h _ _ (by rw[List.append_nil];exact hown) (Oo _ _))
theorem Q9 (w:World) (k:K):RdK (w.alloc (.cells (kc k) 86)) (.slice (some ⟨w.heap.size,0,none⟩) 1 1) [k] :=
 ⟨_,1,rfl,Nat.le_refl _,by unfold maxLen;omega,fun _=>⟨w.heap.size,0,rfl,by simp,fun j hj i hi=>by
  have : j=0:=by simpa using hj
  subst this;rw[cell_of_row _ _ _ _ _ _ (heap_alloc_new _ _)]
  simp[ae]⟩⟩
theorem N4 (w:World):b7 (w.alloc (.cells #[] 86)) w.heap.size (.slice (some ⟨w.heap.size,0,none⟩) 0 0) [] :=
 ⟨rfl,.inr ⟨w.heap.size,0,#[],rfl,Nat.le_refl _,heap_alloc_new _ _,Nat.le_refl _,by unfold maxLen;omega,rfl,rfl⟩⟩
attribute [local irreducible] Calls
theorem Ep (v:Value) (l:List K) (w:World) (hv:RdK w v l) (hl:l.length≤5000) :
  Calls Tryz.prog 53 #[v] w fun e w'=>∃v',e = .returned v'∧b7 w' w.heap.size v' l∧Below w.heap.size w w':=by
 have HV:=O hv;obtain⟨a,cap,rfl,_,_,hc⟩:=hv;have heq:∀(a:Option Addr) (n c:Nat) (w:World),(binOp .eql 43 (.slice a n c) (.slice none 0 0)).run Tryz.prog w = .ok (.bool a.isNone) w:=fun a n c w=>Lib.run_eql_slice_nil w _ _ a n c 0 0 Tryz.underlying43
 cases a with
 | none =>
   have hn:l=[]:=by
    cases l with
    | nil=>rfl
    | cons c l =>
      obtain⟨b,off,e,_⟩:=hc (by simp)
      cases e
   subst hn
   go_enter Tryz.func53,Tryz.ntmps53
   go_wp2;go_ret;exact⟨_,rfl,b7.nil _ _,Oo _ _⟩
 | some p =>
   have hsz:Hid (([]:List K).length+l.length≤1000000):=O (by simp;omega);clear hc
   go_enter Tryz.func53,Tryz.ntmps53
   go_wp2_with (at_builtin;refine wO rfl (.tmp 5) (.tmp 6) rfl w.heap.size _ [] rfl (N4 w) _ l rfl (HV.out.alloc _) hsz.out (by rw[World.size_alloc];exact Nat.le_succ _) ?_;intro v' w' ho hb)
   go_ret;exact⟨_,rfl,ho,((Oo _ _).alloc (Nat.le_refl _) _).trans hb⟩
end
section
open Go.RowKit Go.Shelf
theorem qY (x y:List UInt8):((⟨x.toArray⟩:ByteArray).toList == (⟨y.toArray⟩:ByteArray).toList)=(x == y):=by
 rw[ByteArray.toList_eq,ByteArray.toList_eq]
open Go.RowKit Go.Shelf
def bL (nx:Int) (l:List K) (k:K):Int:=if bf k=true∧k.par<nx then (if l.length<4096∧nx<2147483647 then 0 else 2) else 1
theorem fb (nx:Int) (l:List K) (k:K):(bf k=false∧bL nx l k=1)∨(bf k=true∧nx≤k.par∧bL nx l k=1)∨(bf k=true∧¬nx≤k.par∧(4096:Int)≤l.length∧bL nx l k=2) ∨
  (bf k=true∧¬nx≤k.par∧¬(4096:Int)≤l.length∧2147483647≤nx∧bL nx l k=2)∨(bf k=true∧¬nx≤k.par∧¬(4096:Int)≤l.length∧¬2147483647≤nx∧bL nx l k=0):=by
 unfold bL
 cases h1:bf k
 ·simp
 by_cases h2:nx≤k.par
 ·have : ¬k.par<nx:=by omega
  simp[h2,this]
 have a2:k.par<nx:=by omega
 by_cases h3:(4096:Int)≤l.length
 ·have : ¬l.length<4096:=by omega
  simp[h2,a2,h3,this]
 have a3:l.length<4096:=by omega
 by_cases h4:2147483647≤nx
 ·have : ¬nx<2147483647:=by omega
  simp[h2,a2,h3,a3,h4,this]
 have a4:nx<2147483647:=by omega
 simp[h2,a2,h3,a3,h4,a4]
theorem nP (w:World) (A B C:Obj):(((w.alloc A).alloc B).alloc C).heap[w.heap.size+1+1]?=some C:=Kk w A B C
attribute [local irreducible] Calls bf
end
section
open Go.RowKit Go.Shelf
theorem Ch {ops:Array Oper} {o:Oper} {a:Act} {w:World} {K:Act→World→Prop} {Q:Exit→Act→World→Prop} {E:Prop} (hgd:o.guard=none) (s x:Operand)
  (ho:o.op = .call { callee := .builtin .append,args := #[s,x],argTypes := #[43,43] })
  (ao:Option Addr) (l:List Go.Proofs.YtmfiaadjdbemnaaGreatDoor.K) (hs:a.eval s = .slice ao l.length l.length) (hr:RdK w (.slice ao l.length l.length) l) (ad:Addr) (m c:Nat) (news:List Go.Proofs.YtmfiaadjdbemnaaGreatDoor.K) (hx:a.eval x = .slice (some ad) m c) (hl:news.length=m) (hm:0<m)
  (hnews:RdK w (.slice (some ad) m c) news) (hsz:l.length+m≤1000000)
  (h:∀v' w',b7 w' w.heap.size v' (l++news)→Below w.heap.size w w'→K (a.put o.dst v') w') :
  if Region.wanted o (yielded ops a.tmps)=true then Oper.wp Tryz.prog o a w K Q else E:=by
 obtain⟨i0,z0,hi,hz,hs9,hz9,hb0,hb1⟩:=yY
 have hn:ao=none→l.length=0∧l.length=0:=by
  intro e;subst e;obtain⟨a',c',e,_,_,h3⟩:=hr
  cases e
  have : l.length=0:=by
   rcases Nat.eq_zero_or_pos l.length with h0|h0
   ·exact h0
   ·obtain⟨b,off,e,_⟩:=h3 h0
    cases e
  exact⟨this,this⟩
 refine step_append_grows hgd s x 43 ho 86 i0 z0 9 i0.bytes Tryz.underlying43 hi hz hs9 rfl hz9 (by decide) ao l.length l.length (dV l) hs hn (k8 l) hr.flat ad m c (dV news) hx (by rw[k8,hl]) (hnews.flat ad rfl) (rH news)
  (by omega) (by unfold maxLen;omega) (Nat.le_trans (Nat.mul_le_mul hsz hb1) (by decide)) ?_
 intro v' w' h1 h2;refine h v' w' ?_ ((Oo _ w).grown h2 (Nat.le_refl _) (fun k hk=>by cases hk));unfold b7;rw[List.length_append,hl,lS];exact h1
open Go.RowKit Go.Shelf
def aW (k:K) (n:Int):K:={ k with id:=n }
def aU (k:K) (n:Int):K:={ k with par:=n }
theorem cN (nx:Int) (l:List K):aP nx l=true↔l.length≤4096∧1≤nx∧nx≤2147483647∧∀j,j<l.length→oE nx l j=true:=by
 unfold aP;rw[Bool.and_eq_true,Bool.and_eq_true,decide_eq_true_eq,kJ,List.all_eq_true];simp only[List.mem_range]
 constructor
 ·rintro⟨⟨a,b,c⟩,d⟩;exact⟨a,b,c,d⟩
 ·rintro⟨a,b,c,d⟩;exact⟨⟨a,b,c⟩,d⟩
theorem jS (nx:Int) (l:List K) (i:Nat):oE nx l i=true↔bf (ae l i)=true∧cv l i<(ae l i).id∧(ae l i).id<nx∧(ae l i).par<nx:=by
 unfold oE;simp only[Bool.and_eq_true,decide_eq_true_eq]
 constructor
 ·rintro⟨⟨⟨a,b⟩,c⟩,d⟩;exact⟨a,b,c,d⟩
 ·rintro⟨a,b,c,d⟩;exact⟨⟨⟨a,b⟩,c⟩,d⟩
open Go.RowKit Go.Shelf
theorem de (w:World) (g i:Nat) (cs:Array Value) (T:TypeId) (fr:Nat × Nat) (v:Value) (h:w.heap[g]?=some (.cells cs T fr)):w.setCell ⟨g,i,none⟩ v=w.setRow g (cs.setIfInBounds i v):=by
 unfold World.setCell World.setRow;simp only[World.mk.injEq,and_true]
 apply Array.ext_getElem?
 intro j;simp only[Array.getElem?_modify]
 by_cases h':g=j
 ·subst h'
  simp[h]
 ·simp[h']
theorem EV {w:World} {B:Nat} {k:K} (h:di w B k) (n:Int):di (w.setCell ⟨B,0,none⟩ (.int .i64 n)) B (aW k n):=by
 unfold di at *;rw[de w B 0 _ _ _ _ h,setRow_heap _ _ _ _ _ _ h]
 rfl
attribute [local irreducible] Calls bf
theorem bA {w:World} {g g2 k:Nat} {v:Value} (h:g2≠g):(w.setCell ⟨g2,k,none⟩ v).heap[g]? = w.heap[g]? := by
 unfold World.setCell
 simp[Array.getElem?_modify,h]
theorem fY (w:World) (p:Addr) (v:Value):(w.setCell p v).heap.size=w.heap.size:=by simp[World.setCell]
theorem di.free {w:World} {B:Nat} {k:K} (h:di w B k) (j:Nat):w.frozen? ⟨B,j,none⟩=false:=by
 unfold di at h
 simp[World.frozen?,h]
theorem A9 {w:World} {g:Nat} {cs:Array Value} {T:TypeId} (h:w.heap[g]?=some (.cells cs T (0,0))) (j:Nat):w.frozen? ⟨g,j,none⟩=false:=by simp[World.frozen?,h]
theorem lm {w:World} {ai:Nat} {v:Value} {l:List K} {g2 k:Nat} {x:Value} (h:b7 w ai v l) (hlt:g2<ai):b7 (w.setCell ⟨g2,k,none⟩ x) ai v l:=by
 refine⟨h.1,?_⟩
 rcases h.2 with hn|⟨g,cap,cur,rfl,hg,hgg,r⟩
 ·exact .inl hn
 ·exact .inr ⟨g,cap,cur,rfl,hg,by rw[bA (by omega)];exact hgg,r⟩
theorem xV {w:World} {ai b':Nat} {va:Option Addr} {c:Nat} {l:List K} {x:K} (h:b7 w ai (.slice va (l++[x]).length c) (l++[x])) (hb:b'≤ai):b7 w b' (.slice va (l.length+1) c) (l++[x]):=by
 have h2:=World.ownsRow.mono h hb;unfold b7;rw[List.length_append] at h2 ⊢;exact h2
theorem xS (w:World) (k:K):RdK (w.alloc (.cells (kc k) 86)).drew (.slice (some ⟨w.heap.size,0,none⟩) 1 1) [k]:=(Q9 w k).drew 1
end
section
open Go.RowKit Go.Shelf
attribute [local irreducible] Calls bf
theorem Rz (nx:Int) (v:Value) (l:List K) (k:K) (w:World) (hv:RdK w v l) (hk:k.wf) (he:bL nx l k≠0) :
  Calls Tryz.prog 61 #[.agg #[.int .i64 nx,v],kv k] w fun e w'=>e = .returned (.tuple #[.agg #[.int .i64 0,.slice none 0 0],.int .i64 0,.int .i64 (bL nx l k)])∧Below w.heap.size w w':=by
 have hval:=fun w=>Ac k hk w;obtain⟨W0,hW0⟩:∃W0,W0=((w.alloc (.cells #[.int .i64 nx,v] 45)).alloc (.cells (kc k) 86)).alloc (.cells #[.int .i64 0,.slice none 0 0] 45):=⟨_,rfl⟩
 have hbx:∀w1,Below W0.heap.size W0 w1→w1.cell? ⟨w.heap.size,0,none⟩=some (.int .i64 nx)∧w1.cell? ⟨w.heap.size,1,none⟩=some v∧w1.cell? ⟨w.heap.size+1,7,none⟩=some (.int .i64 k.par) ∧
   w1.heap[w.heap.size+1+1]?=some (.cells #[.int .i64 0,.slice none 0 0] 45 (0,0))∧Below w.heap.size w w1:=by
  intro w1 h;rw[hW0] at h;have h1:Below ((w.alloc (.cells #[.int .i64 nx,v] 45)).alloc (.cells (kc k) 86)).heap.size ((w.alloc (.cells #[.int .i64 nx,v] 45)).alloc (.cells (kc k) 86)) w1:=cJ _ _ h;exact⟨mP _ _ _ _ h1 0,mP _ _ _ _ h1 1,Ek _ _ _ _ h1 7,by rw[h.block _ (by simp)];exact nP _ _ _ _,qC _ _ _ _ h⟩
 have HBX:=O hbx;have HW:=O hW0;obtain⟨a,cap,rfl,_,_,_⟩:=hv;clear hW0 hbx;unfold kv kc at hval ⊢;unfold kc at HW
 rcases fb nx l k with⟨h1,hr⟩|⟨h1,h2,hr⟩|⟨h1,h2,h3,hr⟩|⟨h1,h2,h3,h4,hr⟩|⟨h1,h2,h3,h4,hr⟩
 case inr.inr.inr.inr=>exact absurd hr he
 all_goals
  rw[h1] at hval;rw[hr];clear h1 hr he
  go_enter Tryz.func61,Tryz.ntmps61
  go_wp2_with (go_at_call 104;refine(hval _).mono ?_;rintro e w1 ⟨rfl,hb⟩;rw[←HW.out] at hb;obtain⟨n0,n1,p7,hg,hbb⟩:=HBX.out _ hb;have r0:w1.cell? ⟨w.heap.size+1+1,0,none⟩=some (.int .i64 0):=cell_of_row _ _ _ _ _ _ hg;have r1:w1.cell? ⟨w.heap.size+1+1,1,none⟩=some (.slice none 0 0):=cell_of_row _ _ _ _ _ _ hg;have g0:=A9 hg 0;have g1:=A9 hg 1;have HBB:=O hbb;clear hg hb hbb)
  have hle:w.heap.size≤w.heap.size+1+1:=by omega
  refine bodyPost_ret (v := .tuple #[.agg #[.int .i64 0,.slice none 0 0],.int .i64 0,.int .i64 _]) (by simp[results,Tryz.results61,go_sem,r0,r1]) rfl ⟨rfl,?_⟩;exact(HBB.out.setCell (p:=⟨w.heap.size+1+1,0,none⟩) hle _).setCell (p:=⟨w.heap.size+1+1,1,none⟩) hle _
theorem RdK.clip {w:World} {a:Option Addr} {cap:Nat} {l:List K} (h:RdK w (.slice a l.length cap) l):RdK w (.slice a l.length l.length) l:=by
 obtain⟨a',c',e,h1,h2,h3⟩:=h
 cases e
 exact⟨a,l.length,rfl,Nat.le_refl _,by omega,h3⟩
theorem Iu (nx:Int) (v:Value) (l:List K) (k:K) (w:World) (hv:RdK w v l) (hk:k.wf) (he:bL nx l k=0) (hl:l.length≤5000) (hnx:IntKind.i64.wrap (nx+1)=nx+1) :
  Calls Tryz.prog 61 #[.agg #[.int .i64 nx,v],kv k] w fun e w'=>∃v',e = .returned (.tuple #[.agg #[.int .i64 (nx+1),v'],.int .i64 nx,.int .i64 0])∧b7 w' w.heap.size v' (l++[aW k nx])∧Below w.heap.size w w':=by
 have hval:=fun w=>Ac k hk w;obtain⟨W0,hW0⟩:∃W0,W0=((w.alloc (.cells #[.int .i64 nx,v] 45)).alloc (.cells (kc k) 86)).alloc (.cells #[.int .i64 0,.slice none 0 0] 45):=⟨_,rfl⟩
 have hvw:RdK W0 v l:=by rw[hW0];exact((hv.alloc _).alloc _).alloc _
 have hbx:∀w1,Below W0.heap.size W0 w1→w1.cell? ⟨w.heap.size,0,none⟩=some (.int .i64 nx)∧w1.cell? ⟨w.heap.size,1,none⟩=some v∧di w1 (w.heap.size+1) k ∧
   w1.heap[w.heap.size+1+1]?=some (.cells #[.int .i64 0,.slice none 0 0] 45 (0,0))∧Below w.heap.size w w1:=by
  intro w1 h;rw[hW0] at h;have h1:Below ((w.alloc (.cells #[.int .i64 nx,v] 45)).alloc (.cells (kc k) 86)).heap.size ((w.alloc (.cells #[.int .i64 nx,v] 45)).alloc (.cells (kc k) 86)) w1:=cJ _ _ h;exact⟨mP _ _ _ _ h1 0,mP _ _ _ _ h1 1,(VV w _ k).on h1,by rw[h.block _ (by simp)];exact nP _ _ _ _,qC _ _ _ _ h⟩
 have HBX:=O hbx;have HW:=O hW0;have HVW:=O hv;have hszW:Hid (w.heap.size+1+1<W0.heap.size):=O (by rw[hW0];simp);obtain⟨a,cap,rfl,hcap,hcapm,_⟩:=hv;clear hW0 hbx hvw;unfold kv kc at hval ⊢;unfold kc at HW
 rcases fb nx l k with⟨h1,hr⟩|⟨h1,h2,hr⟩|⟨h1,h2,h3,hr⟩|⟨h1,h2,h3,h4,hr⟩|⟨h1,h2,h3,h4,hr⟩
 ·rw[hr] at he;cases he
 ·rw[hr] at he;cases he
 ·rw[hr] at he;cases he
 ·rw[hr] at he;cases he
 ·rw[h1] at hval
  clear h1 hr he
  go_enter Tryz.func61,Tryz.ntmps61
  go_wp2_with (go_at_call 104;refine(hval _).mono ?_;rintro e w1 ⟨rfl,hb⟩;rw[←HW.out] at hb;obtain⟨n0,n1,hka,hg,hbb⟩:=HBX.out _ hb;have p0:w1.cell? ⟨w.heap.size+1,0,none⟩=some (.int .i64 k.id):=hka.cell 0;have p7:w1.cell? ⟨w.heap.size+1,7,none⟩=some (.int .i64 k.par):=hka.cell 7;have f0:=hka.free 0;have HG:=O hg;have HKA:=O hka;have HB1:=O hb;have HBB:=O hbb;clear hg hka hb hbb)
  have hsz:=hszW.out;have hb1s:=HB1.out.size;obtain⟨w2,hw2⟩:∃w2,w2=w1.setCell ⟨w.heap.size+1,0,none⟩ (.int .i64 nx):=⟨_,rfl⟩
  have hw2s:w2.heap.size=w1.heap.size:=by rw[hw2,fY]
  have y1:di w2 (w.heap.size+1) (aW k nx):=by rw[hw2];exact EV HKA.out nx
  have y2:w2.heap[w.heap.size+1+1]?=some (.cells #[.int .i64 0,.slice none 0 0] 45 (0,0)):=by
   rw[hw2,bA (by omega)];exact HG.out
  have hb12:Below (w.heap.size+1) w1 w2:=by rw[hw2];exact(Oo (w.heap.size+1) w1).setCell (p:=⟨w.heap.size+1,0,none⟩) (Nat.le_refl _) _
  have y3:w2.cell? ⟨w.heap.size,0,none⟩=some (.int .i64 nx):=by rw[hb12.cell (p:=⟨w.heap.size,0,none⟩) (by show w.heap.size<_;omega)];exact n0
  have y4:w2.cell? ⟨w.heap.size,1,none⟩=some (.slice a l.length cap):=by rw[hb12.cell (p:=⟨w.heap.size,1,none⟩) (by show w.heap.size<_;omega)];exact n1
  have y5:RdK w2 (.slice a l.length l.length) l:=(HVW.out.on (HBB.out.trans (hb12.mono (by omega)))).clip;have y6:Below w.heap.size w w2:=HBB.out.trans (hb12.mono (by omega));rw[←hw2]
  have HF:Hid (∀w3,Below w2.heap.size w2 w3→w3.cell? ⟨w.heap.size,0,none⟩=some (.int .i64 nx)∧w3.cell? ⟨w.heap.size,1,none⟩=some (.slice a l.length cap)∧s7 w3 (w.heap.size+1) 0 (aW k nx)) :=
   O (fun w3 h3=>⟨by rw[h3.cell (p:=⟨w.heap.size,0,none⟩) (by show w.heap.size<_;omega)];exact y3,by rw[h3.cell (p:=⟨w.heap.size,1,none⟩) (by show w.heap.size<_;omega)];exact y4,(y1.on h3).nine⟩)
  have HQ:Hid (∀w3,Below w2.heap.size w2 w3→w3.heap[w.heap.size+1+1]?=some (.cells #[.int .i64 0,.slice none 0 0] 45 (0,0))):=O (fun w3 h3=>by rw[h3.block _ (by omega)];exact y2);unfold s7 at HF;simp only[Nat.zero_add] at HF;have HRD0:=O y5;have HB6:=O y6;have hb0:=HF.out w2 (Oo _ _);obtain⟨z0,z1,x0,x1,x2,x3,x4,x5,x6,x7,x8⟩:=hb0
  have l1:w.heap.size<w2.heap.size:=by omega
  have l2:w.heap.size+1<w2.heap.size:=by omega
  have l3:w.heap.size+1+1<w2.heap.size:=by omega
  have ne1:w.heap.size+1+1≠w.heap.size:=by omega
  have ne2:w.heap.size≠w.heap.size+1+1:=by omega
  have HRM:Hid (l.length+1≤1000000):=O (by omega);have HCAP:=O hcap;have HCAPM:=O hcapm;clear y1 y2 y3 y4 y5 y6 hb12 hcap hcapm n0 n1 p0 p7 f0 hw2s;clear hw2
  go_region_held3 (fun w'=>w'.cell? ⟨w.heap.size,0,none⟩=some (.int .i64 nx)∧w'.cell? ⟨w.heap.size,1,none⟩=some (.slice a l.length cap)∧w'.cell? ⟨w.heap.size+1,0,none⟩=some (.int .i64 (aW k nx).id)∧w'.cell? ⟨w.heap.size+1,1,none⟩=some (.int .i64 (aW k nx).ty)∧w'.cell? ⟨w.heap.size+1,2,none⟩=some (.string ⟨(aW k nx).val.toArray⟩) ∧
    w'.cell? ⟨w.heap.size+1,3,none⟩=some (.int .i64 (aW k nx).uses)∧w'.cell? ⟨w.heap.size+1,4,none⟩=some (.int .i64 (aW k nx).start)∧w'.cell? ⟨w.heap.size+1,5,none⟩=some (.int .i64 (aW k nx).fin) ∧
    w'.cell? ⟨w.heap.size+1,6,none⟩=some (.int .i64 (aW k nx).ver)∧w'.cell? ⟨w.heap.size+1,7,none⟩=some (.int .i64 (aW k nx).par)∧w'.cell? ⟨w.heap.size+1,8,none⟩=some (.bool (aW k nx).raw))
   (first
    | go_keep
    | exact HF.out _ (Oo _ _)
    | exact HF.out _ ((ak 1 ((Oo w2.heap.size w2).alloc (Nat.le_refl _) _)).trans (hb'.mono (by simp))))
   ((first
     |(refine Ch rfl (.tmp 38) (.tmp 40) rfl a l rfl ((HRD0.out.alloc _).drew 1) ⟨w2.heap.size,0,none⟩ 1 1 [aW k nx] rfl rfl (by decide) (xS w2 (aW k nx)) HRM.out ?_;intro v' w' ho' hb';have HRD:=O ho';have hrd:=ho'.rd;clear ho';obtain⟨va,vcap,rfl,_,_,_⟩:=hrd;have hbw:=(ak 1 ((Oo w2.heap.size w2).alloc (Nat.le_refl _) (.cells (kc (aW k nx)) 86))).trans (hb'.mono (by simp));have qr:=HQ.out w' hbw;have HBF:=O (HB6.out.trans (hbw.mono (by omega)));have r0:w'.cell? ⟨w.heap.size+1+1,0,none⟩=some (.int .i64 0):=cell_of_row _ _ _ _ _ _ qr;have r1:w'.cell? ⟨w.heap.size+1+1,1,none⟩=some (.slice none 0 0):=cell_of_row _ _ _ _ _ _ qr;have g0:=A9 qr 0;have g1:=A9 qr 1;clear qr hbw)
     |(go_at_call 105;refine(RZ _ _ _ _ HCAP.out HCAPM.out).mono ?_;rintro e wf ⟨rfl,hwf⟩;rw[hwf];clear hwf)))
  all_goals
   go_wp2
   have hle:w.heap.size≤w.heap.size+1+1:=by omega
   have hs:=hszW.out;refine bodyPost_ret (v := .tuple #[.agg #[.int .i64 (nx+1),.slice va (l.length+1) vcap],.int .i64 nx,.int .i64 0]) (by simp[results,Tryz.results61,go_sem,r0,r1];rfl) rfl ⟨_,rfl,?_,?_⟩
   ·exact xV (lm (lm HRD.out (by simp;omega)) (by simp;omega)) (by simp;omega)
   ·exact(HBF.out.setCell (p:=⟨w.heap.size+1+1,0,none⟩) hle _).setCell (p:=⟨w.heap.size+1+1,1,none⟩) hle _
end
section
namespace Fld
open F6
def sr (b:UInt8) (k:Nat):UInt8:=UInt8.ofNat (b.toNat / 2 ^ k)
theorem sf (b:UInt8) (k:Nat):(sr b k).toNat=b.toNat / 2 ^ k:=by
 unfold sr;rw[UInt8.toNat_ofNat_of_lt' (by have := b.toNat_lt;have := Nat.div_le_self b.toNat (2 ^ k);show _<256;omega)]
theorem P1 (b:UInt8):sr b 0=b:=by simp[sr]
theorem PZ (b:UInt8) (k:Nat):B8 (sr b k) / 2=B8 (sr b (k+1)):=by
 unfold B8;rw[sf,sf,Nat.pow_succ,←Nat.div_div_eq_div_mul]
 omega
theorem CA (b:UInt8) (k:Nat):bit b k=decide ((sr b k).toNat % 2=1):=by
 unfold bit;rw[sf,Nat.testBit_eq_decide_div_mod_eq]
theorem Nn:∀x:UInt8,bits .and .u8 (B8 x) 1=((x.toNat % 2:Nat):Int):=fun x =>
 ru (p:=fun x=>bits .and .u8 (B8 x) 1=((x.toNat % 2:Nat):Int)) (by decide +kernel) x
theorem MN (x:UInt8) (h:bit x 7=true):(255:Int)<B8 x*2∧bits .xor .i64 (B8 x*2) 285=B8 (xt x) :=
 ru (p:=fun x=>bit x 7=true→(255:Int)<B8 x*2∧bits .xor .i64 (B8 x*2) 285=B8 (xt x)) (by decide +kernel) x h
theorem MP (x:UInt8) (h:bit x 7=false):¬(255:Int)<B8 x*2∧B8 x*2=B8 (xt x) :=
 ru (p:=fun x=>bit x 7=false→¬(255:Int)<B8 x*2∧B8 x*2=B8 (xt x)) (by decide +kernel) x h
@[go_sem] theorem TX (x y : UInt8) : bits .xor .i64 (B8 x) (B8 y) = B8 (x ^^^ y) := by
  have h1:=x.toNat_lt;have h2:=y.toNat_lt;have hx:x.toNat ^^^ y.toNat<2 ^ 8:=Nat.xor_lt_two_pow (by omega) (by omega)
  show IntKind.i64.wrap ((BitVec.ofInt 64 (x.toNat:Int) ^^^ BitVec.ofInt 64 (y.toNat:Int)).toNat:Int)=_
  rw[BitVec.toNat_xor]
  have e:∀n:Nat,n<256→(BitVec.ofInt 64 (n:Int)).toNat=n:=by
   intro n hn;rw[BitVec.ofInt_natCast,BitVec.toNat_ofNat]
   omega
  rw[e _ h1,e _ h2,IntKind.wrap_i64];unfold B8;rw[UInt8.toNat_xor]
  omega
@[go_sem] theorem Hy (x : UInt8) : B8 x % 256 = B8 x := by
  have := jZ x;have := kI x;omega
@[go_sem] theorem Xf (x:UInt8):IntKind.u8.wrap (B8 x)=B8 x:=by rw[IntKind.wrap_u8];exact Hy x
theorem Sr (x:UInt8):IntKind.i64.wrap (B8 x)=B8 x:=by
 have := jZ x;have := kI x;rw[IntKind.wrap_i64];omega
theorem J2 (x:UInt8):IntKind.i64.wrap (B8 x*2)=B8 x*2:=by
 have := jZ x;have := kI x;rw[IntKind.wrap_i64];omega
@[go_sem] theorem EP (x : UInt8) : RowKit.wrap64 (B8 x) = B8 x := by
  have := jZ x;have := kI x;unfold RowKit.wrap64;omega
@[go_sem] theorem Uq (x : UInt8) : RowKit.wrap64 (B8 x * 2) = B8 x * 2 := by
  have := jZ x;have := kI x;unfold RowKit.wrap64;omega
attribute [go_sem] Sr J2
@[go_sem] theorem Up (x : UInt8) : RowKit.wrap64 (2 * B8 x) = 2 * B8 x := by
  have := jZ x;have := kI x;unfold RowKit.wrap64;omega
theorem Dk (a b:UInt8) (k:Nat) (hk:k≤8) (h:sr b k=0):cY a b k=mul a b:=by
 have e:∀j,cY a b (k+j)=cY a b k:=by
  intro j
  induction j with
  | zero=>rfl
  | succ j ih =>
    show cY a b (k+j) ^^^ (if bit b (k+j) then xts a (k+j) else 0)=_
    have : bit b (k+j)=false:=by
     have h0:=congrArg UInt8.toNat h;rw[sf] at h0;have h1:b.toNat / 2 ^ k=0:=h0;rw[CA,sf,Nat.pow_add,←Nat.div_div_eq_div_mul,h1]
     simp
    rw[this,ih];simp
 have := e (8-k);rw[show k+(8-k)=8 by omega] at this;exact this.symm
end Fld
end
section
namespace Fld
open Go.RowKit F6
theorem xK (a b:UInt8) (w:World) :
  Calls Tryz.prog 156 #[.int .u8 (B8 a),.int .u8 (B8 b)] w fun e w'=>e = .returned (.int .u8 (B8 (mul a b)))∧w'=w:=by
 go_enter Tryz.func156,Tryz.ntmps156
 go_wp2
 go_loop [1,5,6] (fun y x p=>∃k:Nat,k≤8∧y = .int .u8 (B8 (sr b k))∧x = .int .i64 (B8 (xts a k))∧p = .int .i64 (B8 (cY a b k))) (fun y _ _=>(intOf y).toNat)
 case atStart=>exact⟨0,by omega,by rw[P1],rfl,rfl⟩
 case round =>
  obtain⟨k,hk,rfl,rfl,rfl⟩:=hrel
  by_cases hz:sr b k=0
  ·have hd:B8 (sr b k)=0:=by rw[hz];rfl
   have he:=Dk a b k hk hz;rw[hd];go_wp2;go_ret;exact⟨rfl,rfl⟩
  ·have hpos:(0:Int)<B8 (sr b k):=by
    have := jZ (sr b k);have : B8 (sr b k)≠0:=fun h=>hz (pJ (by rw[h];rfl))
    omega
   have hk8:k<8:=by
    refine Nat.lt_of_le_of_ne hk (fun h=>hz ?_);subst h;unfold sr;rw[Nat.div_eq_of_lt b.toNat_lt];rfl
   have hb:=CA b k;have ha:=Nn (sr b k);have hn:=PZ b k
   have hlt:(B8 (sr b k) / 2).toNat<(B8 (sr b k)).toNat:=by omega
   have em:cY a b (k+1)=cY a b k ^^^ (if bit b k then xts a k else 0):=rfl;have ex:xts a (k+1)=xt (xts a k):=rfl;have HN:=O hn;have HL:=O hlt;have HZ:=O hz;have HK:=O hk8;have EX:=O ex;clear hn hlt hz hk8 ex
   cases hbit:bit b k
   ·rw[hbit] at hb em
    have h0:bits .and .u8 (B8 (sr b k)) 1=0:=by rw[ha];have := of_decide_eq_false hb.symm;omega
    have em':cY a b (k+1)=cY a b k:=by rw[em];simp
    have EM:=O em';clear hb em em' ha hbit
    cases h7:bit (xts a k) 7
    ·obtain⟨x1,x2⟩:=MP _ h7
     have X2:=O x2;clear x2 h7;go_wp2
     go_round
     case rel=>exact⟨k+1,HK.out,by rw[HN.out],by rw[X2.out,EX.out],by rw[EM.out]⟩
     case measure=>exact HL.out
    ·obtain⟨x1,x2⟩:=MN _ h7
     clear h7;go_wp2
     go_round
     case rel=>exact⟨k+1,HK.out,by rw[HN.out],by rw[EX.out],by rw[EM.out]⟩
     case measure=>exact HL.out
   ·rw[hbit] at hb em
    have h0:bits .and .u8 (B8 (sr b k)) 1=1:=by rw[ha];have := of_decide_eq_true hb.symm;omega
    have em':cY a b (k+1)=cY a b k ^^^ xts a k:=by rw[em];simp
    have EM:=O em';clear hb em em' ha hbit
    cases h7:bit (xts a k) 7
    ·obtain⟨x1,x2⟩:=MP _ h7
     have X2:=O x2;clear x2 h7;go_wp2
     go_round
     case rel=>exact⟨k+1,HK.out,by rw[HN.out],by rw[X2.out,EX.out],by rw[EM.out]⟩
     case measure=>exact HL.out
    ·obtain⟨x1,x2⟩:=MN _ h7
     clear h7;go_wp2
     go_round
     case rel=>exact⟨k+1,HK.out,by rw[HN.out],by rw[EX.out],by rw[EM.out]⟩
     case measure=>exact HL.out
end Fld
end
section
namespace Fld
open Go.RowKit F6
def brow (s:List UInt8):Array Value:=(s.map fun x=>Value.int .u8 (B8 x)).toArray
@[go_sem] theorem bV (s:List UInt8):(brow s).size=s.length:=by simp[brow]
@[go_sem] theorem As (s : List UInt8) (i : Nat) (h : i < s.length) : (brow s)[i]?=some (.int .u8 (B8 (byteAt s i))) := by
  simp[brow,byteAt,List.getElem?_eq_getElem h]
@[go_sem] theorem Uf (s : List UInt8) (i : Nat) (h : i < (brow s).size) : (brow s)[i] = .int .u8 (B8 (byteAt s i)) := by
  have h':i<s.length:=by rwa [bV] at h
  have := As s i h';rw[Array.getElem?_eq_getElem h] at this;exact Option.some.inj this
@[go_sem] theorem qd (s : List UInt8) (i : Nat) (x : UInt8) : (brow s).setIfInBounds i (.int .u8 (B8 x)) = brow (s.set i x) := by
  simp[brow,List.map_set]
def sqs (a:UInt8) (k:Nat):List UInt8:=(List.range 8).map fun j=>if j<k then sq a j else 0
theorem Fw (a:UInt8) (k:Nat):(sqs a k).length=8:=by simp[sqs]
theorem L4 (a:UInt8) (k j:Nat) (h:j<k) (h8:k≤8):byteAt (sqs a k) j=sq a j:=by
 have hj:j<8:=by omega
 simp[byteAt,sqs,List.getD_eq_getElem?_getD,hj,h]
theorem PY (a:UInt8) (k:Nat) (h:k<8):(sqs a k).set k (sq a k)=sqs a (k+1):=by
 apply List.ext_getElem (by simp[sqs])
 intro i h1 h2;rw[List.getElem_set];simp only[sqs,List.getElem_map,List.getElem_range]
 by_cases e:k=i
 ·subst e;simp
 ·rw[if_neg e]
  by_cases hi:i<k
  ·rw[if_pos hi,if_pos (by omega)]
  ·rw[if_neg hi,if_neg (by omega)]
attribute [local irreducible] mul
theorem GP (a:UInt8) (w:World) :
  Calls Tryz.prog 197 #[.int .u8 (B8 a)] w fun e w'=>e = .returned (.int .u8 (B8 (ku a)))∧Below w.heap.size w w':=by
 go_enter Tryz.func197,Tryz.ntmps197
 go_wp2
 go_loopw [4,5] (fun p i wr=>∃m:Nat,m≤7∧i = .int .i64 ((m+1:Nat):Int)∧p = .int .u8 (B8 (sqp a m))∧∃n,wr=(w.alloc (.cells (brow (sqs a (m+1))) 257)).drewN n) (fun _ i _=>8-(intOf i).toNat)
 case atStart=>exact⟨0,by omega,rfl,rfl,0,rfl⟩
 case round =>
  obtain⟨m,hm,rfl,rfl,n,rfl⟩:=hrel
  by_cases hlt:m<7
  ·have hlen:=Fw a (m+1)
   have hlen2:=Fw a (m+2);have hat:=L4 a (m+1) m (by omega) (by omega);have hat2:=L4 a (m+2) (m+1) (by omega) (by omega);have hst:=PY a (m+1) (by omega);have hsq:mul (sq a m) (sq a m)=sq a (m+1):=rfl;have hsp:mul (sqp a m) (sq a (m+1))=sqp a (m+1):=rfl
   have b1:m<8:=by omega
   have b2:m+1<8:=by omega
   have b3:(m:Int)<8:=by omega
   have b4:(m:Int)+1<8:=by omega
   have e0:(m:Int)+1-1=m:=by omega
   have HK:=O hlt;have HSP:=O hsp;clear hsp;rw[show ((m+1:Nat):Int)=(m:Int)+1 by simp];go_wp2
   first |refine dJ 11 (by kernel_rfl) (by kernel_rfl) ?_|refine dD 11 (by kernel_rfl) (by kernel_rfl) ?_
   simp only[List.take_succ_cons,List.take_zero,List.drop_succ_cons,List.drop_zero]
   repeat (go_big_quiet_step ((go_at_call 156;refine Calls.quiet_of_same (xK _ _ _))))
   refine wpQuiet_nil ?_;rintro _ ⟨nq,rfl⟩
   go_wp2_with (go_at_call 156;refine(xK _ _ _).mono ?_;rintro e _ ⟨rfl,rfl⟩)
   go_roundw
   case rel=>exact⟨m+1,HK.out,by go_num,by rw[HSP.out],_,rfl⟩
   case measure=>have := HK.out;simp[intOf];omega
  ·have he:m=7:=by omega
   have HE:=O he;clear he;go_wp2;go_ret;exact⟨by rw[HE.out];rfl,ak _ ((Oo _ _).alloc (Nat.le_refl _) _)⟩
theorem Qx {a:UInt8} (h:a≠0):(B8 a == 0)=false:=by rw[beq_eq_false_iff_ne];intro e;exact h (pJ (by rw[e];rfl))
theorem VD (a b:UInt8) (h:b≠0) (w:World) :
  Calls Tryz.prog 189 #[.int .u8 (B8 a),.int .u8 (B8 b)] w fun e w'=>e = .returned (.tuple #[.int .u8 (B8 (div a b)),.int .i64 0])∧Below w.heap.size w w':=by
 have hb:=Qx h
 by_cases ha:a=0
 ·subst ha
  have hz:div 0 b=0:=by rw[div,zero_mul]
  rw[hz]
  go_enter Tryz.func189,Tryz.ntmps189
  go_wp2
  go_ret2
  exact⟨rfl,Oo _ _⟩
 ·have ha':=Qx ha
  go_enter Tryz.func189,Tryz.ntmps189
  go_wp2_with (first
   |(go_at_call 197;refine(GP _ _).mono ?_;rintro e w1 ⟨rfl,hb1⟩)
   |(go_at_call 156;refine(xK _ _ _).mono ?_;rintro e _ ⟨rfl,rfl⟩))
  go_ret2
  exact⟨rfl,hb1⟩
end Fld
end
section
namespace Fld
open Go.RowKit F6
def RdB (w:World) (v:Value) (l:List UInt8):Prop :=
 ∃ a cap, v = .slice a l.length cap ∧ l.length ≤ cap ∧ cap ≤ maxLen ∧
   (0<l.length→∃b off,a=some ⟨b,off,none⟩∧b<w.heap.size∧∀i,i<l.length→w.cell? ⟨b,off+i,none⟩=some (.int .u8 (B8 (byteAt l i))))
theorem RdB.keep {w w':World} {v:Value} {l:List UInt8} {B:Nat} (h:RdB w v l) (hb:Below B w w') (hB:w.heap.size≤B):RdB w' v l:=by
 obtain⟨a,cap,rfl,h1,h2,h3⟩:=h;refine⟨a,cap,rfl,h1,h2,fun h0 => ?_⟩;obtain⟨b,off,rfl,hlt,hc⟩:=h3 h0;refine⟨b,off,rfl,Nat.lt_of_lt_of_le hlt hb.size,fun i hi => ?_⟩;rw[hb.cell (p:=⟨b,off+i,none⟩) (Nat.lt_of_lt_of_le hlt hB)];exact hc i hi
theorem EB (l:List UInt8) (x:UInt8) (k:Nat) (h:k<l.length):ev (l.drop k) x=byteAt l k ^^^ mul x (ev (l.drop (k+1)) x):=by
 rw[List.drop_eq_getElem_cons h]
 show l[k] ^^^ mul x _=_
 rw[byteAt,List.getD_eq_getElem?_getD,List.getElem?_eq_getElem h];rfl
attribute [local irreducible] mul ev
theorem eval_c (v:Value) (l:List UInt8) (x:UInt8) (w:World) (hv:RdB w v l) :
  Calls Tryz.prog 110 #[v,.int .u8 (B8 x)] w fun e w'=>e = .returned (.int .u8 (B8 (ev l x)))∧∃n,w'=w.drewN n:=by
 obtain⟨a,cap,rfl,hl,hcap,hcells⟩:=hv;unfold maxLen at hcap
 go_enter Tryz.func110,Tryz.ntmps110
 go_wp2
 go_loopw [4,5] (fun y i wr=>∃k:Nat,k≤l.length∧i = .int .i64 ((k:Int)-1)∧y = .int .u8 (B8 (ev (l.drop k) x))∧∃n,wr=w.drewN n) (fun _ i _=>((intOf i)+1).toNat)
 case atStart=>exact⟨l.length,Nat.le_refl _,by go_num,by rw[List.drop_length];unfold ev;rfl,0,rfl⟩
 case round =>
  obtain⟨k,hk,rfl,rfl,n,rfl⟩:=hrel
  cases k with
  | zero =>
    go_wp2;go_ret;exact⟨rfl,n,rfl⟩
  | succ j =>
    obtain⟨b,off,rfl,hlt,hc⟩:=hcells (by omega);have hcj:=hc j (by omega)
    have hjl:(j:Int)<l.length:=by omega
    have hjn:j<l.length:=by omega
    have hx:mul (ev (l.drop (j+1)) x) x ^^^ byteAt l j=ev (l.drop j) x:=by rw[EB l x j hjn,mul_comm,xor_comm]
    have HX:=O hx;have HJ:=O hjn;clear hx hcells;rw[show ((j+1:Nat):Int)-1=(j:Int) by omega];go_wp2
    first |refine fR (by kernel_rfl) (by kernel_rfl) ?_|refine fG (by kernel_rfl) (by kernel_rfl) ?_
    repeat (go_big_quiet_step ((go_at_call 156;refine Calls.quiet_of_same (xK _ _ _))))
    refine wpQuiet_nil ?_;rintro _ ⟨nq,rfl⟩;go_wp2;go_roundw
    case rel=>exact⟨j,Nat.le_of_lt HJ.out,by go_num,by rw[HX.out],_,rfl⟩
    case measure=>simp[intOf]
end Fld
end
section
namespace Fld
open Go.RowKit F6
def okX (l:List UInt8):Bool:=decide (1≤l.length) && decide (l.length≤255) && decide l.Nodup
def trow (s:List Bool):Array Value:=(s.map Value.bool).toArray
@[go_sem] theorem Hx (s:List Bool):(trow s).size=s.length:=by simp[trow]
def tAt (s:List Bool) (i:Nat):Bool:=s.getD i false
@[go_sem] theorem trow_get (s : List Bool) (i : Nat) (h : i < s.length) : (trow s)[i]?=some (.bool (tAt s i)) := by
  simp[trow,tAt,List.getElem?_eq_getElem h]
@[go_sem] theorem UL (s : List Bool) (i : Nat) (h : i < (trow s).size) : (trow s)[i] = .bool (tAt s i) := by
  have h':i<s.length:=by rwa [Hx] at h
  have := trow_get s i h';rw[Array.getElem?_eq_getElem h] at this;exact Option.some.inj this
@[go_sem] theorem trow_set (s : List Bool) (i : Nat) (x : Bool) : (trow s).setIfInBounds i (.bool x) = trow (s.set i x) := by
  simp[trow,List.map_set]
def seenB (l:List UInt8):List Bool:=(List.range 256).map fun j=>decide (UInt8.ofNat j∈l)
theorem seen_len (l:List UInt8):(seenB l).length=256:=by simp[seenB]
theorem LB:seenB []=List.replicate 256 false:=by decide +kernel
theorem seen_at (l:List UInt8) (x:UInt8):tAt (seenB l) x.toNat=decide (x∈l):=by
 have h:=x.toNat_lt;have h2:x.toNat<256:=h
 simp[tAt,seenB,List.getD_eq_getElem?_getD,List.getElem?_range h2]
theorem seen_set (l:List UInt8) (x:UInt8):(seenB l).set x.toNat true=seenB (l++[x]):=by
 apply List.ext_getElem (by simp[seenB])
 intro i h1 h2
 have hi:i<256:=by simpa [seenB] using h2
 rw[List.getElem_set];simp only[seenB,List.getElem_map,List.getElem_range]
 by_cases e:x.toNat=i
 ·subst e;simp
 ·rw[if_neg e]
  have hne:UInt8.ofNat i≠x:=by
   intro h;apply e;rw[←h,UInt8.toNat_ofNat_of_lt' hi]
  simp[hne]
theorem iM (l:List UInt8) (k:Nat) (h:k<l.length):l.take (k+1)=l.take k++[byteAt l k]:=by
 rw[List.take_succ_eq_append_getElem h,byteAt,List.getD_eq_getElem?_getD,List.getElem?_eq_getElem h];rfl
theorem DZ:(Tryz.prog.info? 233).map (·.zero)=some (some (.agg (trow (List.replicate 256 false)))):=by kernel_rfl
theorem zero_seen (w:World):(zeroValue 233).run Tryz.prog w = .ok (.agg (trow (seenB []))) w:=by
 have h:=DZ;rw[←LB] at h;generalize trow (seenB [])=L at h ⊢
 cases hq:Tryz.prog.info? 233 with
 | none=>rw[hq] at h;cases h
 | some i =>
   rw[hq] at h
   simp at h
   simp[zeroValue,typeInfo,hq,h]
theorem uJ (v:Value) (l:List UInt8) (w:World) (hv:RdB w v l) :
  Calls Tryz.prog 187 #[v] w fun e w'=>e = .returned (.bool (okX l))∧Below w.heap.size w w':=by
 obtain⟨a,cap,rfl,hl,hcap,hcells⟩:=hv;unfold maxLen at hcap;have hz:=zero_seen
 go_enter Tryz.func187,Tryz.ntmps187
 go_wp2
 go_loopw [8] (fun i wr=>∃k:Nat,k≤l.length∧i = .int .i64 k∧(l.take k).Nodup∧wr=w.alloc (.cells (trow (seenB (l.take k))) 233)) (fun i _=>l.length-(intOf i).toNat)
 case atStart=>exact⟨0,Nat.zero_le _,rfl,List.nodup_nil,rfl⟩
 case round =>
  clear hz;obtain⟨k,hk,rfl,hnd,rfl⟩:=hrel
  by_cases hlt:k<l.length
  ·obtain⟨b,off,rfl,hbl,hc⟩:=hcells (by omega)
   have hcj:=hc k hlt
   have hki:(k:Int)<l.length:=by omega
   have hsn:=iM l k hlt;have hsl:=seen_len (l.take k);have hsa:=seen_at (l.take k) (byteAt l k);have hss:=seen_set (l.take k) (byteAt l k);rw[←hsn] at hss;have hx0:=jZ (byteAt l k);have hx1:=kI (byteAt l k)
   have hxn:(B8 (byteAt l k)).toNat=(byteAt l k).toNat:=by simp[B8]
   have hxl:(byteAt l k).toNat<256:=(byteAt l k).toNat_lt
   have hl0:(0:Int)<l.length:=by omega
   have HK:=O hlt;have HSN:=O hsn;clear hsn
   by_cases hm:byteAt l k∈l.take k
   ·have hno:okX l=false:=by
     have : ¬l.Nodup:=by
      intro hn;have h2:(l.take (k+1)).Nodup:=(List.take_sublist _ _).nodup hn;rw[HSN.out,List.nodup_append] at h2;exact h2.2.2 _ hm _ (by simp) rfl
     simp[okX,this]
    rw[show decide (byteAt l k∈l.take k)=true by simpa using hm] at hsa;have HNO:=O hno;clear hno hm hnd;go_wp2;go_ret;exact⟨by rw[HNO.out];rfl,(Oo _ _).alloc (Nat.le_refl _) _⟩
   ·have hnd2:(l.take (k+1)).Nodup:=by
     rw[HSN.out,List.nodup_append];refine⟨hnd,by simp,?_⟩;intro x hx y hy e;rw[List.mem_singleton] at hy;rw[e,hy] at hx;exact hm hx
    have HND:=O hnd2;rw[show decide (byteAt l k∈l.take k)=false by simpa using hm] at hsa;have hst:=seen_set (l.take k) (byteAt l k);rw[←HSN.out] at hst;clear hnd hnd2 hm hss;go_wp2;go_roundw
    case rel=>exact⟨k+1,HK.out,by go_num,HND.out,rfl⟩
    case measure=>have := HK.out;simp[intOf];omega
  ·have he:k=l.length:=by omega
   have hnd':l.Nodup:=by rw[he,List.take_length] at hnd;exact hnd
   have hok:okX l=(decide (1≤l.length) && decide (l.length≤255)):=by simp[okX,hnd']
   have HO:=O hok;clear hok hnd hnd' hcells
   by_cases h1:1≤l.length
   ·have h1':(1:Int)≤l.length:=by omega
    by_cases h2:l.length≤255
    ·have h2':(l.length:Int)≤255:=by omega
     have hres:okX l=true:=by rw[HO.out];simp;omega
     have HR:=O hres;clear hres he;go_wp2;go_ret;exact⟨by rw[HR.out];rfl,(Oo _ _).alloc (Nat.le_refl _) _⟩
    ·have h2':¬(l.length:Int)≤255:=by omega
     have hres:okX l=false:=by rw[HO.out];simp;omega
     have HR:=O hres;clear hres he;go_wp2;go_ret;exact⟨by rw[HR.out];rfl,(Oo _ _).alloc (Nat.le_refl _) _⟩
   ·have h1':¬(1:Int)≤l.length:=by omega
    have hres:okX l=false:=by rw[HO.out];simp;omega
    have HR:=O hres;clear hres he;go_wp2;go_ret;exact⟨by rw[HR.out];rfl,(Oo _ _).alloc (Nat.le_refl _) _⟩
end Fld
end
section
namespace Fld
open F6
def pp (xs:List UInt8) (i:Nat) (x:UInt8) (k:Nat):UInt8:=pr ((xs.take k).eraseIdx i) x
theorem zo (xs:List UInt8) (i:Nat) (x:UInt8):pp xs i x 0=1:=by simp[pp,pr]
theorem Pf (l:List UInt8) (a x:UInt8):pr (l++[a]) x=mul (pr l x) (x ^^^ a):=by simp[pr]
theorem zn (xs:List UInt8) (i:Nat) (x:UInt8) (k:Nat) (hk:k<xs.length) (h:k≠i):pp xs i x (k+1)=mul (pp xs i x k) (x ^^^ byteAt xs k):=by
 have e:(xs.take (k+1)).eraseIdx i=(xs.take k).eraseIdx i++[byteAt xs k]:=by
  rw[iM xs k hk]
  by_cases hi:i<k
  ·rw[List.eraseIdx_append_of_lt_length (by rw[List.length_take];omega)]
  ·rw[List.eraseIdx_of_length_le (by rw[List.length_append,List.length_take,List.length_singleton];omega),List.eraseIdx_of_length_le (by rw[List.length_take];omega)]
 rw[pp,e,Pf];rfl
theorem zm (xs:List UInt8) (i:Nat) (x:UInt8) (hi:i<xs.length):pp xs i x (i+1)=pp xs i x i:=by
 have e:(xs.take (i+1)).eraseIdx i=(xs.take i).eraseIdx i:=by
  rw[iM xs i hi,List.eraseIdx_of_length_le (l:=xs.take i) (by rw[List.length_take];omega),List.eraseIdx_append_of_length_le (by rw[List.length_take];omega)]
  have : i-(xs.take i).length=0:=by rw[List.length_take];omega
  rw[this];simp
 rw[pp,e];rfl
theorem zl (xs:List UInt8) (i:Nat) (x:UInt8):pp xs i x xs.length=pr (xs.eraseIdx i) x:=by rw[pp,List.take_length]
theorem Rc (xs:List UInt8) (i:Nat) (hn:xs.Nodup) (hi:i<xs.length):pp xs i (byteAt xs i) xs.length≠0:=by
 rw[zl,Fd];exact zp (lj xs hn i hi)
theorem Rd (xs:List UInt8) (i:Nat) (x:UInt8):div (pp xs i x xs.length) (pp xs i (byteAt xs i) xs.length)=wt xs x i:=by
 rw[zl,zl];rfl
def wts (xs:List UInt8) (x:UInt8) (k:Nat):List UInt8:=(List.range k).map (wt xs x)
theorem Cq (xs:List UInt8) (x:UInt8) (k:Nat):wts xs x (k+1)=wts xs x k++[wt xs x k]:=by simp[wts,List.range_succ]
theorem rm (xs:List UInt8) (x:UInt8) (k:Nat):(wts xs x k).length=k:=by simp[wts]
theorem ME (xs:List UInt8) (x:UInt8) (n k:Nat) (h:k<n):byteAt (wts xs x n) k=wt xs x k:=by
 simp[byteAt,wts,List.getD_eq_getElem?_getD,h]
theorem nQ {l:List UInt8} (h:okX l=true):l.Nodup∧1≤l.length∧l.length≤255:=by
 simp[okX] at h
 exact⟨h.2,h.1.1,h.1.2⟩
end Fld
end
section
namespace Fld
open F6
def tab (n:Nat) (f:Nat→UInt8):List UInt8:=(List.range n).map f
theorem tab_len (n:Nat) (f:Nat→UInt8):(tab n f).length=n:=by simp[tab]
theorem tab_at (n:Nat) (f:Nat→UInt8) (j:Nat):byteAt (tab n f) j=if j<n then f j else 0:=by
 by_cases h:j<n
 ·simp[byteAt,tab,List.getD_eq_getElem?_getD,h]
 ·simp[byteAt,tab,List.getD_eq_getElem?_getD,h]
theorem ext_at {l m:List UInt8} (h:l.length=m.length) (h2:∀j,j<l.length→byteAt l j=byteAt m j):l=m:=by
 refine List.ext_getElem h (fun i h3 h4 => ?_);have := h2 i h3
 simpa [byteAt,List.getD_eq_getElem?_getD,h3,h4] using this
theorem at_set (l:List UInt8) (k j:Nat) (x:UInt8):byteAt (l.set k x) j=if k=j∧j<l.length then x else byteAt l j:=by
 simp only[byteAt,List.getD_eq_getElem?_getD,List.getElem?_set]
 by_cases h:k=j
 ·subst h
  by_cases h2:k<l.length
  ·simp[h2]
  ·simp[h2]
 ·simp[h]
theorem at_rep (n j:Nat):byteAt (List.replicate n (0:UInt8)) j=0:=by
 simp only[byteAt,List.getD_eq_getElem?_getD,List.getElem?_replicate]
 split <;> rfl
end Fld
end
section
namespace Fld
open Go.RowKit
def bv (l:List UInt8):List Value:=l.map fun b => .int .u8 (B8 b)
def cR (w:World) (ai:Nat) (v:Value) (l:List UInt8):Prop:=w.ownsRow ai 5 1 v l.length (bv l)
theorem sH:(Tryz.prog.info? 5).map (fun i=>(i.zero,i.size,i.bytes))=some (some (.int .u8 0),1,1):=by kernel_rfl
theorem ny (l:List UInt8):strOfNums (l.map B8)=⟨l.toArray⟩:=by
 unfold strOfNums;rw[List.map_map]
 congr 2
 have : ((fun n:Int=>UInt8.ofNat n.toNat) ∘ B8)=id:=by
  funext x
  simp[B8]
 rw[this,List.map_id]
theorem qg {w:World} {ai:Nat} {v:Value} {l:List UInt8} (h:cR w ai v l):(convert 80 9 v).run Tryz.prog w = .ok (.string ⟨l.toArray⟩) w:=by
 rcases h.2 with⟨rfl,hn⟩|⟨g,cap,cur,rfl,_,hgg,h1,_,h2,h3⟩
 ·have hl:l=[]:=List.length_eq_zero_iff.1 hn
  subst hl;exact run_convert_bytes_nil w _ _ Tryz.underlying80 Tryz.underlying5 _ _ _ Tryz.underlying9
 ·rw[←ny l]
  refine run_convert_bytes_arg w _ _ Tryz.underlying80 Tryz.underlying5 g 0 _ _ _ (by simp) (fun i hi => ?_) _ Tryz.underlying9;rw[Nat.zero_add,cell_of_row _ _ _ _ _ _ hgg]
  have e:(cur.toList.take (l.length*1))[i]? = (bv l)[i]? := by rw[h3]
  rw[List.getElem?_take,if_pos (by omega),Array.getElem?_toList] at e;rw[e]
  simp[bv,List.getD_eq_getElem?_getD,List.getElem?_eq_getElem hi]
theorem cR.rd {w:World} {ai:Nat} {v:Value} {l:List UInt8} (h:cR w ai v l):RdB w v l:=by
 rcases h.2 with⟨rfl,hn⟩|⟨g,cap,cur,rfl,_,hgg,h1,h2,_,h3⟩
 ·exact⟨none,0,by rw[hn],by omega,by unfold maxLen;omega,fun h0=>by omega⟩
 ·refine⟨_,cap,rfl,h1,h2,fun h0=>⟨g,0,rfl,(Array.getElem?_eq_some_iff.1 hgg).1,fun i hi => ?_⟩⟩
  rw[Nat.zero_add,cell_of_row _ _ _ _ _ _ hgg]
  have e:(cur.toList.take (l.length*1))[i]? = (bv l)[i]? := by rw[h3]
  rw[List.getElem?_take,if_pos (by omega),Array.getElem?_toList] at e;rw[e]
  simp[bv,byteAt,List.getD_eq_getElem?_getD,List.getElem?_eq_getElem hi]
theorem cR.opened {w:World} {ai:Nat} {v:Value} {l:List UInt8} {n:Nat} (h:cR w ai v l) (hn:l.length=n) :
  ∃a cap,v = .slice a n cap∧n≤cap∧cap≤maxLen∧(0<n→∃g,a=some ⟨g,0,none⟩∧ai≤g∧g<w.heap.size∧∀i,i<n→w.cell? ⟨g,i,none⟩=some (.int .u8 (B8 (byteAt l i)))):=by
 subst hn
 rcases h.2 with⟨rfl,hn⟩|⟨g,cap,cur,rfl,hb,hgg,h1,h2,_,h3⟩
 ·exact⟨none,0,by rw[hn],by omega,by unfold maxLen;omega,fun h0=>by omega⟩
 ·refine⟨_,cap,rfl,h1,h2,fun h0=>⟨g,rfl,hb,(Array.getElem?_eq_some_iff.1 hgg).1,fun i hi => ?_⟩⟩
  rw[cell_of_row _ _ _ _ _ _ hgg]
  have e:(cur.toList.take (l.length*1))[i]? = (bv l)[i]? := by rw[h3]
  rw[List.getElem?_take,if_pos (by omega),Array.getElem?_toList] at e;rw[e]
  simp[bv,byteAt,List.getD_eq_getElem?_getD,List.getElem?_eq_getElem hi]
end Fld
end
end Go.Proofs.YtmfiaadjdbemnaaGreatDoor
