/- Contracts and lemmas. No condition. -/
import Derived.Test.YtmfiaadjdbemnaaGreatDoorSB01
import Derived.Shelf.GgClosure.Gives
set_option maxRecDepth 100000
set_option maxHeartbeats 8000000
namespace Go.Proofs.YtmfiaadjdbemnaaGreatDoor
section
open Go.RowKit
inductive SP where
 | eq (c:Value)
 | pred (q:Value→World→Prop) (st:∀v w w',Below w.heap.size w w'→q v w→q v w')
def SP.p:SP→Value→World→Prop
 | .eq c,v,_=>v=c
 | .pred q _,v,w=>q v w
theorem SP.keep (R:SP) {v:Value} {w w':World} (hb:Below w.heap.size w w') (h:R.p v w):R.p v w':=by
 cases R with
 | eq c=>exact h
 | pred q st=>exact st v w w' hb h
def SP.any:SP := .pred (fun _ _=>True) (fun _ _ _ _ h=>h)
def SP.fresh (B:Nat) (cs:Array Value) (T:TypeId):SP :=
 .pred (fun v w=>∃g:Nat,v = .pointer (some ⟨g,0,none⟩)∧B≤g∧w.heap[g]?=some (.cells cs T (0,0)))
  (fun v w w' hb ⟨g,e,h1,h2⟩=>⟨g,e,h1,by rw[hb.block _ (Array.getElem?_eq_some_iff.1 h2).1];exact h2⟩)
def SP.of (l:List SP) (i:Nat):SP:=l.getD i SP.any
def upd (vals:Nat→Value) (i:Nat) (v:Value):Nat→Value:=fun j=>if j=i then v else vals j
theorem q9 {vals:Nat→Value} {i:Nat} {v:Value} (h:vals i=v):upd vals i v=vals:=by
 funext j
 unfold upd
 split
 ·rename_i e;rw[e,h]
 ·rfl
def ay (a:Act) (vals:Nat→Value):Nat→List Oper→Act
 | _,[]=>a
 | i,o::rest=>(ay a vals (i+1) rest).put o.dst (vals i)
def given (R:Nat→SP) (w:World) (body:(Nat→Value)→Prop):List Nat→(Nat→Value)→Prop
 | [],vals=>body vals
 | j :: l, vals => match R j with
   | .eq c=>given R w body l (upd vals j c)
   | .pred q _=>∀x,q x w→given R w body l (upd vals j x)
theorem nN {R:Nat→SP} {w:World} {body:(Nat→Value)→Prop} {vals:Nat→Value}:∀(l:List Nat),given R w body l vals→(∀j∈l,(R j).p (vals j) w)→body vals
 | [],h,_=>h
 | j :: l, h, hp => by
   have h1:=hp j (List.mem_cons_self ..);unfold given at h
   cases hr:R j with
   | eq c =>
     rw[hr] at h h1;have e:=q9 (vals:=vals) (i:=j) (v:=c) h1;simp only[e] at h;exact nN l h (fun k hk=>hp k (List.mem_cons_of_mem _ hk))
   | pred q st =>
     rw[hr] at h h1;have h2:=h (vals j) h1;rw[q9 rfl] at h2;exact nN l h2 (fun k hk=>hp k (List.mem_cons_of_mem _ hk))
def yN (o:Oper):List Nat:=((o.after.toList.filter (Region.binds .any)).map (·.on)).eraseDups
theorem lX {o:Oper} {j:Nat}:j∈yN o↔∃e∈o.after,Region.binds .any e=true∧e.on=j:=by
 simp[yN,and_assoc]
def Ct (F:(Nat→Value)→Act) (R:SP) (dst:Option Tmp) (vals:Nat→Value) (w:World) (Q:Exit→Act→World→Prop):Prop :=
 ∀v w',Below w.heap.size w w'→R.p v w'→Q .normal ((F vals).put dst v) w'
theorem ab {F:(Nat→Value)→Act} {R:SP} {dst:Option Tmp} {vals:Nat→Value} {w:World} {Q:Exit→Act→World→Prop} (h:Hid (Ct F R dst vals w Q)) (v:Value) {w':World} {a:Act} (ha:a=(F vals).put dst v) (hb:Below w.heap.size w w') (hr:R.p v w'):Q .normal a w':=by
 rw[ha];exact h.out v w' hb hr
def rR (P:Program) (ops:Array Oper) (B:Nat) (w0:World) (F:(Nat→Value)→Act) (R:Nat→SP) (ds:List (List Nat)):Nat→List Oper→Prop
 | _,[]=>True
 | i,o::rest=>(∀(w:World),Below B w0 w→∀vals:Nat→Value,given R w (fun vals=>∀Q:Exit→Act→World→Prop,Hid (Ct F (R i) o.dst vals w Q)→wpList P ops Q [o] (F vals) w) (ds.getD i []) vals)∧rR P ops B w0 F R ds (i+1) rest
def nk (F:(Nat→Value)→Act):Nat→List Oper→Prop
 | _,[]=>True
 | i,o::rest=>(∀vals v,(F vals).put o.dst v=F (upd vals i v))∧nk F (i+1) rest
theorem yf {P:Program} {ops:Array Oper} {B:Nat} {w0:World} {F:(Nat→Value)→Act} {R:Nat→SP} {ds:List (List Nat)}:∀(l:List Oper) (k:Nat),rR P ops B w0 F R ds k l→∀i o,l[i]?=some o →
  ∀(w:World),Below B w0 w→∀(vals:Nat→Value),given R w (fun vals=>∀Q:Exit→Act→World→Prop,Hid (Ct F (R (k+i)) o.dst vals w Q)→wpList P ops Q [o] (F vals) w) (ds.getD (k+i) []) vals
 | [],_,_,_,_,h=>by cases h
 | o::l,k,h,0,o',ho=>by cases ho;exact h.1
 | o :: l, k, h, i + 1, o', ho => by
   have := yf l (k+1) h.2 i o' ho
   rwa [show k+1+i=k+(i+1) by omega] at this
theorem rS {F:(Nat→Value)→Act}:∀(l:List Oper) (k:Nat),nk F k l→∀i o,l[i]?=some o→∀vals v,(F vals).put o.dst v=F (upd vals (k+i) v)
 | [],_,_,_,_,h=>by cases h
 | o::l,k,h,0,o',ho=>by cases ho;exact h.1
 | o :: l, k, h, i + 1, o', ho => by
   have := rS l (k+1) h.2 i o' ho
   rwa [show k+1+i=k+(i+1) by omega] at this
theorem iw {P:Program} {ops:Array Oper} {Q:Exit→Act→World→Prop} {i:Nat} {o:Oper} (ho:ops[i]?=some o) {K:Act→World→Prop} {a:Act} {w:World} (h:wpList P ops (Exit.then K Q) [o] a w):wpOp P ops Q i K a w:=by
 unfold wpOp;simp only[ho];unfold wpList at h
 split
 ·rename_i hw
  rw[if_pos hw] at h
  rcases h with h|⟨h1,a',w',h2⟩
  ·refine .inl ?_
   unfold Oper.wp at h ⊢;generalize (execOp a.eval o).run P w=r at h ⊢
   cases r with
   | ok n w' =>
     cases n with
     | value v=>exact h
     | skip=>exact h
     | defer d=>exact h
     | enter f args =>
       refine Calls.mono h ?_;intro e w'' he
       cases e with
       | returned v=>exact he
       | panicked c=>exact he
       | outgrown=>obtain⟨a2,w2,h2⟩:=he;exact⟨a2,w2,h2⟩
     | row row args=>exact Rows.mono h (fun _ _ he=>he)
     | _=>exact h
   | halt x w' =>
     cases x with
     | panic u=>exact h
     | _=>exact h
  ·exact .inr ⟨h1,a',w',h2⟩
 ·rename_i hw
  rw[if_neg hw] at h;exact h
def dH (n g:Nat):Array Bool:=(List.replicate n true++List.replicate g false).toArray
def vF (ops:Array Oper) (n:Nat) (ds:List (List Nat)):Bool :=
 decide (n≤ops.size) && Region.sinkB .any ops n && Region.chainB .any ops n && Region.seqB .any ops (ops.size-n) n (dH n (ops.size-n)) && (List.range n).all (fun i=>((ops[i]?).map (fun o=>(yN o).all (fun j=>decide (j<i)) && (ds.getD i []).all (fun j=>(yN o).contains j))).getD false)
theorem qE (m:Array Bool) (n:Nat) (hm:n≤m.size):(∀i,i<n→m.getD i false=true)∨∃i,i<n∧m.getD i false=false∧∀j,j<i→m.getD j false=true:=by
 induction n with
 | zero=>exact .inl (fun i hi=>absurd hi (Nat.not_lt_zero _))
 | succ n ih =>
   rcases ih (by omega) with h|⟨i,hi,h1,h2⟩
   ·cases hq:m.getD n false with
    | true=>exact .inl (fun i hi=>by rcases Nat.lt_or_ge i n with h'|h';exact h i h';rwa [show i=n by omega])
    | false=>exact .inr ⟨n,Nat.lt_succ_self n,hq,fun j hj=>h j hj⟩
   ·exact .inr ⟨i,by omega,h1,h2⟩
def fP (m:Array Bool) (n:Nat):Nat:=((List.range n).filter (fun i => !m.getD i false)).length
theorem CY (m:Array Bool) (i:Nat) (hi:i<m.size) (hu:m.getD i false=false) (l:List Nat) (hl:l.Nodup) (hmem:i∈l) :
  (l.filter (fun j => !(m.setIfInBounds i true).getD j false)).length+1=(l.filter (fun j => !m.getD j false)).length:=by
 induction l with
 | nil=>cases hmem
 | cons x l ih =>
   have hx:=List.nodup_cons.1 hl
   by_cases hxi:x=i
   ·subst hxi
    have h1:(m.setIfInBounds x true).getD x false=true:=by simp[hi]
    have h2:∀j∈l,(!(m.setIfInBounds x true).getD j false)=(!m.getD j false):=fun j hj=>by rw[getD_set_ne false (fun e:x=j=>hx.1 (by rw[e];exact hj))]
    rw[List.filter_cons,List.filter_cons,h1,hu,List.filter_congr h2]
    simp
   ·have h1:(m.setIfInBounds i true).getD x false=m.getD x false:=getD_set_ne false (fun e=>hxi e.symm)
    have hm':i∈l:=by rcases List.mem_cons.1 hmem with h|h;exact absurd h.symm hxi;exact h
    have := ih hx.2 hm';rw[List.filter_cons,List.filter_cons,h1]
    split <;> simp_all <;> omega
theorem wl (m:Array Bool) (n i:Nat) (hin:i<n) (hi:i<m.size) (hu:m.getD i false=false):fP (m.setIfInBounds i true) n+1=fP m n :=
 CY m i hi hu _ List.nodup_range (List.mem_range.2 hin)
theorem s6 {m:Array Bool} {n:Nat} (h:fP m n=0):∀i,i<n→m.getD i false=true:=by
 intro i hi;have h1:(List.range n).filter (fun i => !m.getD i false)=[]:=List.length_eq_zero_iff.1 h;have := (List.filter_eq_nil_iff.1 h1) i (List.mem_range.2 hi)
 simpa using this
theorem yg {P:Program} {Q:Exit→Act→World→Prop} {l:List Oper} {n B:Nat} {w0:World} {F:(Nat→Value)→Act} {R:Nat→SP} {ds:List (List Nat)} (hB:vF l.toArray n ds=true)
  (hput:nk F 0 (l.take n)) (hobs:rR P l.toArray B w0 F R ds 0 (l.take n)) (hfin:∀w,Below B w0 w→∀vals,given R w (fun vals=>wpList P l.toArray Q (l.drop n) (F vals) w) (List.range n) vals) (hB0:B≤w0.heap.size)
  (f:Nat):∀(m:Array Bool) (vals:Nat→Value) (w:World),HeadInv .any l.toArray n m→fP m n=f→Below B w0 w→(∀i,i<n→m.getD i false=true→(R i).p (vals i) w) →
   wpAny P .any l.toArray Q (f+(l.length-n)) m (F vals) w:=by
 simp only[vF,Bool.and_eq_true,decide_eq_true_eq] at hB;obtain⟨⟨⟨⟨hn,hs⟩,hc⟩,hseq⟩,hdep⟩:=hB
 have hnl:n≤l.length:=by simpa using hn
 induction f with
 | zero =>
   intro m vals w inv hu hb hR;have hall:=s6 hu
   have hm:m=dH n (l.length-n):=by
    apply Array.ext_getElem?
    intro i
    have hsz:m.size=l.length:=by simpa using inv.size
    unfold dH;simp only[List.getElem?_toArray]
    by_cases hi:i<n
    ·have h1:=hall i hi
     rw[List.getElem?_append_left (by simpa using hi),List.getElem?_replicate,if_pos hi]
     have hi2:i<m.size:=by omega
     simp[hi2] at h1
     rw[Array.getElem?_eq_getElem hi2,h1]
    ·by_cases hi2:i<l.length
     ·have h1:=inv.tail i (by omega) (by simpa using hi2)
      rw[List.getElem?_append_right (by simp;omega),List.getElem?_replicate,if_pos (by simp;omega)]
      have hi3:i<m.size:=by omega
      simp[hi3] at h1
      rw[Array.getElem?_eq_getElem hi3,h1]
     ·rw[List.getElem?_append_right (by simp;omega),List.getElem?_replicate,if_neg (by simp;omega),Array.getElem?_eq_none (by omega)]
   have hd:(l.drop n).length=l.length-n:=by simp
   have := wpAny_of_seq (md := .any) (P:=P) (Q':=Q) (ops:=l.toArray) (l.drop n) n m (F vals) w (fun j=>by simp[List.getElem?_drop]) (by rw[hd,hm];simpa using hseq)
    (nN _ (hfin w hb vals) (fun j hj=>hR j (List.mem_range.1 hj) (hall j (List.mem_range.1 hj))))
   rw[Nat.zero_add]
   rwa [hd] at this
 | succ f ih =>
   intro m vals w inv hu hb hR
   have hsz:m.size=l.length:=by simpa using inv.size
   obtain⟨i0,hi0,hun0,hdone0⟩:∃i,i<n∧m.getD i false=false∧∀j,j<i→m.getD j false=true:=by
    rcases qE m n (by omega) with h|h
    ·have : fP m n=0:=by
      unfold fP;rw[List.length_eq_zero_iff,List.filter_eq_nil_iff];intro a ha;rw[h a (List.mem_range.1 ha)]
      simp
     omega
    ·exact h
   have hready0:i0∈Region.ready .any l.toArray m:=by
    rw[mem_ready]
    have hlt:i0<l.length:=by omega
    refine⟨getD_in (by omega) hun0,l[i0],by simp[hlt],fun e he hbn => ?_⟩;have h1:=List.all_eq_true.1 hdep i0 (List.mem_range.2 hi0);simp only[List.getElem?_toArray,List.getElem?_eq_getElem hlt,Option.map_some,Option.getD_some,Bool.and_eq_true] at h1;exact hdone0 _ (of_decide_eq_true (List.all_eq_true.1 h1.1 _ (lX.2 ⟨e,he,hbn,rfl⟩)))
   have hne:Region.ready .any l.toArray m≠[]:=List.ne_nil_of_mem hready0;rw[show f+1+(l.length-n)=(f+(l.length-n))+1 by omega];refine⟨fun h0=>absurd h0 hne,fun i hi => ?_⟩
   have hin:i<n:=by
    rcases Nat.lt_or_ge i n with h|h
    ·exact h
    ·obtain⟨_,oi,hoi,_⟩:=mem_ready.1 hi
     have hil:i<l.length:=by have := (Array.getElem?_eq_some_iff.1 hoi).1;simpa using this
     exact absurd hi (tail_waits hs hc (by simp;omega) inv _ i0 rfl hi0 (getD_in (by omega) hun0) i h)
   obtain⟨hund,oi,hoi,hdeps⟩:=mem_ready.1 hi
   have hoi2:(l.take n)[i]?=some oi:=by rw[List.getElem?_take,if_pos hin];simpa using hoi
   have hui:m.getD i false=false:=getD_both hund
   have hob:=nN _ (yf (l.take n) 0 hobs i oi hoi2 w hb vals) (fun j hj=>by
    have h1:=List.all_eq_true.1 hdep i (List.mem_range.2 hin)
    have hil:i<l.length:=by omega
    have hoi3:l[i]?=some oi:=by simpa using hoi
    simp only[List.getElem?_toArray,hoi3,Option.map_some,Option.getD_some,Bool.and_eq_true] at h1;rw[Nat.zero_add] at hj;have hjd:=List.contains_iff_mem.1 (List.all_eq_true.1 h1.2 j hj);obtain⟨e,he,hbn,rfl⟩:=lX.1 hjd;have hlt:=of_decide_eq_true (List.all_eq_true.1 h1.1 _ hjd)
    exact hR _ (by omega) (hdeps e he hbn))
   refine iw hoi (hob _ (O ?_));intro v w' hb' hr
   show wpAny P .any l.toArray Q (f+(l.length-n)) (m.setIfInBounds i true) _ w'
   have hpu:=rS (l.take n) 0 hput i oi hoi2 vals v;rw[hpu,Nat.zero_add];rw[Nat.zero_add] at hr;have hus:=wl m n i hin (by omega) hui;refine ih _ _ _ (inv.set hi hin) (by omega) (hb.trans (hb'.mono (by have := hb.size;omega))) ?_;intro j hj hjd;unfold upd
   by_cases hji:j=i
   ·subst hji
    rw[if_pos rfl];exact hr
   ·rw[if_neg hji]
    rw[getD_set_ne false (fun e=>hji e.symm)] at hjd;exact(R j).keep hb' (hR j hj hjd)
theorem aY {P:Program} {id:Nat} {Q:Exit→Act→World→Prop} {a:Act} {w:World} {l:List Oper} (n:Nat) (ds:List (List Nat)) (R:Nat→SP) (vals0:Nat→Value) (hm:P.follows .mixedOrders=true) (hB:vF l.toArray n ds=true)
  (ha:a=ay a vals0 0 (l.take n)) (hput:nk (fun vals=>ay a vals 0 (l.take n)) 0 (l.take n))
  (hobs:rR P l.toArray w.heap.size w (fun vals=>ay a vals 0 (l.take n)) R ds 0 (l.take n))
  (hfin:∀w',Below w.heap.size w w'→∀vals,given R w' (fun vals=>wpList P l.toArray Q (l.drop n) (ay a vals 0 (l.take n)) w') (List.range n) vals):(Code.region id l.toArray true).wp P Q a w:=by
 refine wp_region_any hm ?_
 have hn:n≤l.length:=by
  have h:=hB;simp only[vF,Bool.and_eq_true,decide_eq_true_eq] at h
  simpa using h.1.1.1.1
 have inv:HeadInv .any l.toArray n (Array.replicate l.toArray.size false) :=
  ⟨by simp,fun j oj _ hl=>absurd hl (by rw[getD_replicate_false];exact Bool.false_ne_true),fun t _ h2=>getD_in (by simpa using h2) (getD_replicate_false _ _)⟩
 have hu:fP (Array.replicate l.toArray.size false) n=n:=by
  unfold fP;rw[List.filter_eq_self.2 (fun i _=>by rw[getD_replicate_false];rfl),List.length_range]
 have := yg (P:=P) (Q:=Q) (w0:=w) (R:=R) hB hput hobs hfin (Nat.le_refl _) n _ vals0 w.drew inv hu ((Oo _ _).drew) (fun i _ h=>by rw[getD_replicate_false] at h;cases h);rw[show n+(l.length-n)=l.toArray.size by simp;omega] at this;rw[ha];exact this
open Go.RowKit
structure K where
 id:Int
 ty:Int
 val:List UInt8
 uses:Int
 start:Int
 fin:Int
 ver:Int
 par:Int
 raw:Bool
deriving DecidableEq
instance:Inhabited K:=⟨⟨0,0,[],0,0,0,0,0,false⟩⟩
def kc (k:K):Array Value := #[.int .i64 k.id,.int .i64 k.ty,.string ⟨k.val.toArray⟩,.int .i64 k.uses,.int .i64 k.start,.int .i64 k.fin,.int .i64 k.ver,.int .i64 k.par,.bool k.raw]
def kv (k:K):Value := .agg (kc k)
def win (n lo hi:Int):Bool:=decide (lo≤n) && decide (n≤hi)
theorem Af (n lo hi:Int) (w:World):Calls Tryz.prog 74 #[.int .i64 n,.int .i64 lo,.int .i64 hi] w fun e w'=>e = .returned (.bool (win n lo hi))∧w'=w:=by
 unfold win
 by_cases h1:lo≤n
 ·by_cases h2:n≤hi
  ·go_enter Tryz.func74,Tryz.ntmps74
   go_wp2;go_ret
   simp[h1,h2]
  ·go_enter Tryz.func74,Tryz.ntmps74
   go_wp2;go_ret
   simp[h1,h2]
 ·go_enter Tryz.func74,Tryz.ntmps74
  go_wp2;go_ret;refine⟨?_,rfl⟩;rw[decide_eq_false (by omega:¬lo≤n)]
  rfl
theorem Xo (n lo hi:Int) (w:World):Calls Tryz.prog 149 #[.int .i64 n,.int .i64 lo,.int .i64 hi] w fun e w'=>e = .returned (.bool (win n lo hi))∧w'=w:=by
 unfold win
 by_cases h1:lo≤n
 ·by_cases h2:n≤hi
  ·go_enter Tryz.func149,Tryz.ntmps149
   go_wp2;go_ret
   simp[h1,h2]
  ·go_enter Tryz.func149,Tryz.ntmps149
   go_wp2;go_ret
   simp[h1,h2]
 ·go_enter Tryz.func149,Tryz.ntmps149
  go_wp2;go_ret;refine⟨?_,rfl⟩;rw[decide_eq_false (by omega:¬lo≤n)]
  rfl
def wu (u:Int):Bool:=bits .and .i64 u 956 == u
def bf (k:K):Bool:=win k.ty 0 31 && ((k.val.length:Int) == 32) && wu k.uses && win k.start 0 1099511627776 && win k.fin k.start 1099511627776 && win k.ver 1 2147483647 && win k.par 0 2147483647
attribute [local irreducible] win Calls
theorem nB {X Y:BitVec 64} (h:IntKind.i64.wrap (X.toNat:Int)=IntKind.i64.wrap (Y.toNat:Int)):X=Y:=by
 rw[IntKind.wrap_i64,IntKind.wrap_i64] at h;have h1:=X.isLt;have h2:=Y.isLt
 apply BitVec.eq_of_toNat_eq
 omega
theorem Bt (A M:BitVec 64):A &&& ~~~M=0↔A &&& M=A:=by
 constructor
 ·intro h
  apply BitVec.eq_of_getLsbD_eq
  intro i hi;have := congrArg (fun X=>X.getLsbD i) h;simp only[BitVec.getLsbD_and,BitVec.getLsbD_not,BitVec.getLsbD_zero,hi,decide_true,Bool.true_and] at this ⊢;generalize A.getLsbD i=x at this ⊢;generalize M.getLsbD i=y at this ⊢;clear h hi
  revert this
  cases x <;> cases y <;> simp
 ·intro h
  apply BitVec.eq_of_getLsbD_eq
  intro i hi;have := congrArg (fun X=>X.getLsbD i) h;simp only[BitVec.getLsbD_and,BitVec.getLsbD_not,BitVec.getLsbD_zero,hi,decide_true,Bool.true_and] at this ⊢;generalize A.getLsbD i=x at this ⊢;generalize M.getLsbD i=y at this ⊢;clear h hi
  revert this
  cases x <;> cases y <;> simp
theorem Ms (u:Int) (h:IntKind.i64.wrap u=u):(bits .andNot .i64 u 956 == 0)=wu u:=by
 have e1:bits .andNot .i64 u 956=IntKind.i64.wrap ((BitVec.ofInt 64 u &&& ~~~BitVec.ofInt 64 956).toNat:Int):=rfl;have e2:bits .and .i64 u 956=IntKind.i64.wrap ((BitVec.ofInt 64 u &&& BitVec.ofInt 64 956).toNat:Int):=rfl
 have e3:IntKind.i64.wrap ((BitVec.ofInt 64 u).toNat:Int)=u:=by
  rw[IntKind.wrap_i64] at h ⊢;rw[BitVec.toNat_ofInt]
  omega
 have key:(bits .andNot .i64 u 956=0)↔(bits .and .i64 u 956=u):=by
  rw[e1,e2]
  constructor
  ·intro h0
   have hz:BitVec.ofInt 64 u &&& ~~~BitVec.ofInt 64 956=0:=nB (by rw[h0];rfl);rw[(Bt _ _).1 hz,e3]
  ·intro h0
   have hz:BitVec.ofInt 64 u &&& BitVec.ofInt 64 956=BitVec.ofInt 64 u:=nB (by rw[h0,e3]);rw[(Bt _ _).2 hz];rfl
 unfold wu
 by_cases hk:bits .and .i64 u 956=u
 ·rw[beq_iff_eq.2 hk,beq_iff_eq.2 (key.2 hk)]
 ·rw[beq_eq_false_iff_ne.2 hk,beq_eq_false_iff_ne.2 (fun e=>hk (key.1 e))]
def DQ (k:K):Bool:=win k.ty 0 31 && ((k.val.length:Int) == 32) && wu k.uses && win k.start 0 k.fin && win k.fin 0 1099511627776 && win k.ver 1 2147483647 && win k.par 0 2147483647
theorem kJ (n lo hi:Int):win n lo hi=true↔lo≤n∧n≤hi:=by unfold win;simp
theorem Mv (k:K):DQ k=bf k:=by
 unfold DQ bf
 have : (win k.start 0 k.fin && win k.fin 0 1099511627776)=(win k.start 0 1099511627776 && win k.fin k.start 1099511627776):=by
  rw[Bool.eq_iff_iff];simp only[Bool.and_eq_true,kJ]
  omega
 simp only[Bool.and_assoc];rw[←Bool.and_assoc (win k.start 0 k.fin),←Bool.and_assoc (win k.start 0 1099511627776),this]
structure K.wf (k:K):Prop where
 id:IntKind.i64.wrap k.id=k.id
 uses:IntKind.i64.wrap k.uses=k.uses
theorem Ac (k:K) (hk:k.wf) (w:World):Calls Tryz.prog 104 #[kv k] w fun e w'=>e = .returned (.bool (bf k))∧Below w.heap.size w w':=by
 rw[←Mv];unfold kv kc;have hu:=Ms k.uses hk.uses;have hb:=(Oo w.heap.size w).alloc (Nat.le_refl _) (.cells #[.int .i64 k.id,.int .i64 k.ty,.string ⟨k.val.toArray⟩,.int .i64 k.uses,.int .i64 k.start,.int .i64 k.fin,.int .i64 k.ver,.int .i64 k.par,.bool k.raw] 86);have HB:=O hb;have HU:=O hu;clear hb hu
 go_enter Tryz.func104,Tryz.ntmps104
 go_wp2_with (go_at_call 149;refine(Xo _ _ _ _).mono ?_;rintro e _ ⟨rfl,rfl⟩)
 all_goals
  go_ret;refine⟨?_,HB.out⟩;unfold DQ;rw[←HU.out]
  simp_all
end
section
open Go.RowKit
attribute [local irreducible] Calls
def di (w:World) (B:Nat) (k:K):Prop:=w.heap[B]?=some (.cells (kc k) 86 (0,0))
theorem di.lt {w:World} {B:Nat} {k:K} (h:di w B k):B<w.heap.size:=(Array.getElem?_eq_some_iff.1 h).1
theorem di.keep {w w':World} {B:Nat} {k:K} (h:di w B k) {n:Nat} (hb:Below n w w') (hn:B<n):di w' B k:=by
 unfold di;rw[hb.block _ hn];exact h
theorem di.on {w w':World} {B:Nat} {k:K} (h:di w B k) (hb:Below w.heap.size w w'):di w' B k:=h.keep hb h.lt
theorem di.cell {w:World} {B:Nat} {k:K} (h:di w B k) (j:Nat):w.cell? ⟨B,j,none⟩=(kc k)[j]? := cell_of_row _ _ _ _ _ _ h
theorem di.new (w:World) (k:K):di (w.alloc (.cells (kc k) 86)) w.heap.size k:=heap_alloc_new _ _
def D3 (g:Nat) (lb:Array Value) (p:K→Bool) (w:World):Prop :=
 ∀(W:World) (x:K),Below w.heap.size w W→Calls Tryz.prog g (#[kv x]++lb) W fun e w'=>e = .returned (.bool (p x))∧Below w.heap.size w w'
end
section
open Go.RowKit Go.Shelf
def ae (l:List K) (j:Nat):K:=l[j]!
theorem az (l:List K) (j:Nat) (h:j<l.length):ae l j=l[j]:=by simp[ae,h]
def RdK (w:World) (v:Value) (l:List K):Prop :=
 ∃ a cap, v = .slice a l.length cap ∧ l.length ≤ cap ∧ cap ≤ maxLen ∧
   (0<l.length→∃b off,a=some ⟨b,off,none⟩∧b<w.heap.size∧∀j,j<l.length→∀i,i<9→w.cell? ⟨b,off+j*9+i,none⟩=(kc (ae l j))[i]?)
theorem RdK.keep {w w':World} {v:Value} {l:List K} {B:Nat} (h:RdK w v l) (hb:Below B w w') (hB:w.heap.size≤B):RdK w' v l:=by
 obtain⟨a,cap,rfl,h1,h2,h3⟩:=h;refine⟨a,cap,rfl,h1,h2,fun h0 => ?_⟩;obtain⟨b,off,rfl,hlt,hc⟩:=h3 h0;refine⟨b,off,rfl,Nat.lt_of_lt_of_le hlt hb.size,fun j hj i hi => ?_⟩;rw[hb.cell (p:=⟨b,off+j*9+i,none⟩) (Nat.lt_of_lt_of_le hlt hB)];exact hc j hj i hi
theorem RdK.on {w w':World} {v:Value} {l:List K} (h:RdK w v l) (hb:Below w.heap.size w w'):RdK w' v l:=h.keep hb (Nat.le_refl _)
theorem RdK.alloc {w:World} {v:Value} {l:List K} (h:RdK w v l) (X:Obj):RdK (w.alloc X) v l:=h.on ((Oo w.heap.size w).alloc (Nat.le_refl _) X)
theorem RdK.drew {w:World} {v:Value} {l:List K} (n:Nat) (h:RdK w v l):RdK (w.drewN n) v l:=h.on (ak n (Oo w.heap.size w))
theorem RdK.nil (w:World):RdK w (.slice none 0 0) []:=⟨none,0,rfl,Nat.le_refl _,by unfold maxLen;omega,fun h=>absurd h (by simp)⟩
def s7 (w:World) (b o:Nat) (k:K):Prop :=
 w.cell? ⟨b,o,none⟩=some (.int .i64 k.id)∧w.cell? ⟨b,o+1,none⟩=some (.int .i64 k.ty)∧w.cell? ⟨b,o+2,none⟩=some (.string ⟨k.val.toArray⟩) ∧
 w.cell? ⟨b,o+3,none⟩=some (.int .i64 k.uses)∧w.cell? ⟨b,o+4,none⟩=some (.int .i64 k.start)∧w.cell? ⟨b,o+5,none⟩=some (.int .i64 k.fin) ∧
 w.cell? ⟨b,o+6,none⟩=some (.int .i64 k.ver)∧w.cell? ⟨b,o+7,none⟩=some (.int .i64 k.par)∧w.cell? ⟨b,o+8,none⟩=some (.bool k.raw)
theorem RdK.cells {w:World} {a:Option Addr} {n cap:Nat} {l:List K} (h:RdK w (.slice a n cap) l):0<l.length→∃b off,a=some ⟨b,off,none⟩∧b<w.heap.size ∧
  ∀j,j<l.length→s7 w b (off+j*9) (ae l j):=by
 obtain⟨a',c',e,_,_,h3⟩:=h
 cases e
 intro h0;obtain⟨b,off,rfl,hlt,hc⟩:=h3 h0;refine⟨b,off,rfl,hlt,fun j hj=>⟨hc j hj 0 (by omega),hc j hj 1 (by omega),hc j hj 2 (by omega),hc j hj 3 (by omega),hc j hj 4 (by omega),hc j hj 5 (by omega),hc j hj 6 (by omega),hc j hj 7 (by omega),hc j hj 8 (by omega)⟩⟩
theorem RdK.len {w:World} {v:Value} {l:List K} (h:RdK w v l):l.length≤maxLen:=by
 obtain⟨a,cap,rfl,h1,h2,h3⟩:=h
 omega
def gD (p:K→Bool) (l:List K):Int:=match l.findIdx? p with |some i=>(i:Int)|none => -1
theorem sD (p:K→Bool) (l:List K) (k:Nat) (hk:k<l.length) (h:∀j,j<k→p (ae l j)=false) (hp:p (ae l k)=true):gD p l=k:=by
 have e:(ae l k)=l[k]:=az l k hk
 have : l.findIdx? p=some k:=by
  rw[List.findIdx?_eq_some_iff_getElem];refine⟨hk,by rw[←e];exact hp,fun j hj => ?_⟩;have := h j hj;rw[az l j (by omega)] at this
  simpa using this
 rw[gD,this]
theorem qt (p:K→Bool) (l:List K) (h:∀j,j<l.length→p (ae l j)=false):gD p l = -1:=by
 have : l.findIdx? p=none:=by
  rw[List.findIdx?_eq_none_iff];intro x hx;obtain⟨i,hi,rfl⟩:=List.mem_iff_getElem.1 hx;have := h i hi;rw[az l i hi] at this;exact this
 rw[gD,this]
attribute [local irreducible] Calls
theorem sG (v:Value) (l:List K) (g:Nat) (lb:Array Value) (p:K→Bool) (w:World) (eg:∀args w,(callFunc g args).run Tryz.prog w = .ok (.enter g args) w) (hv:RdK w v l) (hp:D3 g lb p w) :
  Calls Tryz.prog 102 #[v,.func (.func g) #[] lb] w fun e w'=>e = .returned (.int .i64 (gD p l))∧Below w.heap.size w w':=by
 have hlen:=hv.len;unfold maxLen at hlen;have HV:=O hv;have HP:=O hp;obtain⟨a,cap,rfl,_,_,_⟩:=hv;clear hp
 go_enter Tryz.func102,Tryz.ntmps102
 go_wp2
 go_loopw [8] (fun o wr=>∃k:Nat,k≤l.length∧o = .int .i64 k∧Hid (∀j,j<k→p (ae l j)=false)∧Below w.heap.size w wr) (fun o _=>l.length-(intOf o).toNat)
 case atStart=>exact⟨0,Nat.zero_le _,rfl,O (fun j hj=>absurd hj (by omega)),Oo _ _⟩
 case round =>
  obtain⟨k,hk,rfl,hno,hb⟩:=hrel
  by_cases hlt:k<l.length
  ·obtain⟨b,off,rfl,hbl,aO⟩:=((HV.out.on hb).cells) (by omega)
   have hl2:=aO k hlt;have hcall:=HP.out wr (ae l k) hb
   have i1:(k:Int)<l.length:=by omega
   have HK:=O hlt;have HX:Hid (∀j,j<k+1→j≠k→p (ae l j)=false):=O (fun j hj hne=>hno.out j (by omega));have HH:=O (fun h=>sD p l k hlt hno.out h);unfold kv kc at hcall;clear aO hno hb;generalize hy:(ae l k)=y at hl2 hcall HH;obtain⟨d0,d1,d2,d3,d4,d5,d6,d7,d8⟩:=hl2;have HY:=O hy;clear hy
   cases hq:p y with
   | true =>
     rw[hq] at hcall;have r:=HH.out hq;have HC:=O hcall;clear hcall
     go_wp2_with (go_at_fn g;refine HC.out.mono ?_;rintro e w1 ⟨rfl,hb'⟩)
     go_ret;exact⟨by rw[r];rfl,hb'⟩
   | false =>
     rw[hq] at hcall;have HC:=O hcall;have HQ:=O hq;clear hcall hq
     go_wp2_with (go_at_fn g;refine HC.out.mono ?_;rintro e w1 ⟨rfl,hb'⟩)
     go_roundw
     case rel=>exact⟨k+1,HK.out,by go_num,O (fun j hj=>by
      by_cases e:j=k
      ·subst e;rw[HY.out];exact HQ.out
      ·exact HX.out j hj e),hb'⟩
     case measure=>have := HK.out;simp[intOf];omega
  ·have he:k=l.length:=by omega
   have i1:(l.length:Int)≤k:=by omega
   have hm:=qt p l (fun j hj=>hno.out j (by omega));have HM:=O hm;clear hm hno he;go_wp2;go_ret;exact⟨by rw[HM.out];rfl,hb⟩
end
section
open Go.RowKit Go.Shelf
theorem VV (w:World) (A:Obj) (k:K):di ((w.alloc A).alloc (.cells (kc k) 86)) (w.heap.size+1) k:=by
 have h:=di.new (w.alloc A) k
 rwa [World.size_alloc] at h
theorem dm (w:World) (A B:Obj) {w1:World} (h:Below ((w.alloc A).alloc B).heap.size ((w.alloc A).alloc B) w1):Below w.heap.size w w1 :=
 (((Oo _ _).alloc (Nat.le_refl _) A).alloc (by simp) B).trans (h.mono (by simp;omega))
theorem mP (w:World) (cs:Array Value) (T:TypeId) (B:Obj) {w1:World} (h:Below ((w.alloc (.cells cs T)).alloc B).heap.size ((w.alloc (.cells cs T)).alloc B) w1) (j:Nat):w1.cell? ⟨w.heap.size,j,none⟩=cs[j]? := by
 have h2:=((Oo (w.alloc (.cells cs T)).heap.size (w.alloc (.cells cs T))).alloc (Nat.le_refl _) B).trans (h.mono (by simp));rw[h2.cell (p:=⟨w.heap.size,j,none⟩) (by simp)];exact cell_of_row _ _ _ _ _ _ (heap_alloc_new _ _)
attribute [local irreducible] Calls
end
section
open Go.RowKit Go.Shelf
theorem di.nine {w:World} {B:Nat} {k:K} (h:di w B k):s7 w B 0 k:=⟨h.cell 0,h.cell 1,h.cell 2,h.cell 3,h.cell 4,h.cell 5,h.cell 6,h.cell 7,h.cell 8⟩
attribute [local irreducible] Calls
end
section
open Go.RowKit Go.Shelf
theorem AZ (p:K→Bool) (l:List K):decide (0≤gD p l)=l.any p:=by
 unfold gD
 cases h:l.findIdx? p with
 | none =>
   rw[List.findIdx?_eq_none_iff] at h
   have : l.any p=false:=by
    rw[List.any_eq_false];intro x hx
    simpa using h x hx
   rw[this];rfl
 | some i =>
   rw[List.findIdx?_eq_some_iff_getElem] at h;obtain⟨hi,hp,_⟩:=h;have : l.any p=true:=List.any_eq_true.2 ⟨_,List.getElem_mem hi,hp⟩;rw[this]
   simp
theorem gi (w:World) (cs:Array Value) (T:TypeId) {w1:World} (h:Below (w.alloc (.cells cs T)).heap.size (w.alloc (.cells cs T)) w1) (j:Nat):w1.cell? ⟨w.heap.size,j,none⟩=cs[j]? := by
 rw[h.cell (p:=⟨w.heap.size,j,none⟩) (by simp)];exact cell_of_row _ _ _ _ _ _ (heap_alloc_new _ _)
theorem cJ (w:World) (A:Obj) {w1:World} (h:Below (w.alloc A).heap.size (w.alloc A) w1):Below w.heap.size w w1 :=
 ((Oo _ _).alloc (Nat.le_refl _) A).trans (h.mono (by simp))
attribute [local irreducible] Calls
theorem uC (v:Value) (l:List K) (g:Nat) (lb:Array Value) (p:K→Bool) (w:World) (eg:∀args w,(callFunc g args).run Tryz.prog w = .ok (.enter g args) w) (hv:RdK w v l) (hp:D3 g lb p w) :
  Calls Tryz.prog 60 #[v,.func (.func g) #[] lb] w fun e w'=>e = .returned (.bool (l.any p))∧Below w.heap.size w w':=by
 have hc:=sG v l g lb p w eg hv hp;rw[←AZ];have HC:=O hc;clear hc hp
 go_enter Tryz.func60,Tryz.ntmps60
 go_wp2_with (go_at_call 102;refine HC.out.mono ?_;rintro e w1 ⟨rfl,hb⟩)
 go_ret;exact⟨rfl,hb⟩
end
end Go.Proofs.YtmfiaadjdbemnaaGreatDoor
