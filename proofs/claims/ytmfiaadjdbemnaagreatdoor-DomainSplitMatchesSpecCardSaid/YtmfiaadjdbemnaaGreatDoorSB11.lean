/- Contracts and lemmas. No condition. -/
import Derived.Test.YtmfiaadjdbemnaaGreatDoorSB02
import Derived.Test.YtmfiaadjdbemnaaGreatDoorSB10
import Derived.Shelf.GgClosure.Gives
set_option maxRecDepth 100000
set_option maxHeartbeats 8000000
set_option linter.unusedSimpArgs false
set_option linter.unusedVariables false
namespace Go.Proofs.YtmfiaadjdbemnaaGreatDoor
open Tryz
section
open Go.RowKit
structure K where
 id:Int
 ty:Int
 val:List UInt8
 uses:Int
 start:Int
 fin:Int
 ver:Int
 par:Int
 raw:Bool
deriving DecidableEq
instance:Inhabited K:=⟨⟨0,0,[],0,0,0,0,0,false⟩⟩
def kc (k:K):Array Value := #[.int .i64 k.id,.int .i64 k.ty,.string ⟨k.val.toArray⟩,.int .i64 k.uses,.int .i64 k.start,.int .i64 k.fin,.int .i64 k.ver,.int .i64 k.par,.bool k.raw]
def kv (k:K):Value := .agg (kc k)
def win (n lo hi:Int):Bool:=decide (lo≤n) && decide (n≤hi)
theorem Af (n lo hi:Int) (w:World):Calls prog 74 #[.int .i64 n,.int .i64 lo,.int .i64 hi] w fun e w'=>e = .returned (.bool (win n lo hi))∧w'=w:=by
 unfold win
 by_cases h1:lo≤n
 ·by_cases h2:n≤hi
  ·go_enter func74,ntmps74
   go_wp2;go_ret
   simp[h1,h2]
  ·go_enter func74,ntmps74
   go_wp2;go_ret
   simp[h1,h2]
 ·go_enter func74,ntmps74
  go_wp2;go_ret;refine⟨?_,rfl⟩;rw[V_ (by omega:¬lo≤n)]
  rfl
theorem Xo (n lo hi:Int) (w:World):Calls prog 149 #[.int .i64 n,.int .i64 lo,.int .i64 hi] w fun e w'=>e = .returned (.bool (win n lo hi))∧w'=w:=by
 unfold win
 by_cases h1:lo≤n
 ·by_cases h2:n≤hi
  ·go_enter func149,ntmps149
   go_wp2;go_ret
   simp[h1,h2]
  ·go_enter func149,ntmps149
   go_wp2;go_ret
   simp[h1,h2]
 ·go_enter func149,ntmps149
  go_wp2;go_ret;refine⟨?_,rfl⟩;rw[V_ (by omega:¬lo≤n)]
  rfl
def wu (u:Int):Bool:=bits .and .i64 u 956 == u
def bf (k:K):Bool:=win k.ty 0 31 && ((k.val.length:Int) == 32) && wu k.uses && win k.start 0 1099511627776 && win k.fin k.start 1099511627776 && win k.ver 1 2147483647 && win k.par 0 2147483647
attribute [local irreducible] win Calls
theorem nB {X Y:BitVec 64} (h:IntKind.i64.wrap (X.toNat:Int)=IntKind.i64.wrap (Y.toNat:Int)):X=Y:=by
 rw[IntKind.wrap_i64,IntKind.wrap_i64] at h;have h1:=X.isLt;have h2:=Y.isLt
 apply BitVec.eq_of_toNat_eq
 omega
theorem Bt (A M:BitVec 64):A &&& ~~~M=0↔A &&& M=A:=by
 constructor
 ·intro h
  apply BitVec.eq_of_getLsbD_eq
  intro i hi;have := congrArg (fun X=>X.getLsbD i) h;simp only[BitVec.getLsbD_and,BitVec.getLsbD_not,BitVec.getLsbD_zero,hi,decide_true,Bool.true_and] at this ⊢;generalize A.getLsbD i=x at this ⊢;generalize M.getLsbD i=y at this ⊢;clear h hi
  revert this
  cases x <;> cases y <;> simp
 ·intro h
  apply BitVec.eq_of_getLsbD_eq
  intro i hi;have := congrArg (fun X=>X.getLsbD i) h;simp only[BitVec.getLsbD_and,BitVec.getLsbD_not,BitVec.getLsbD_zero,hi,decide_true,Bool.true_and] at this ⊢;generalize A.getLsbD i=x at this ⊢;generalize M.getLsbD i=y at this ⊢;clear h hi
  revert this
  cases x <;> cases y <;> simp
theorem Ms (u:Int) (h:IntKind.i64.wrap u=u):(bits .andNot .i64 u 956 == 0)=wu u:=by
 have e1:bits .andNot .i64 u 956=IntKind.i64.wrap ((BitVec.ofInt 64 u &&& ~~~BitVec.ofInt 64 956).toNat:Int):=rfl;have e2:bits .and .i64 u 956=IntKind.i64.wrap ((BitVec.ofInt 64 u &&& BitVec.ofInt 64 956).toNat:Int):=rfl
 have e3:IntKind.i64.wrap ((BitVec.ofInt 64 u).toNat:Int)=u:=by
  rw[IntKind.wrap_i64] at h ⊢;rw[BitVec.toNat_ofInt]
  omega
 have key:(bits .andNot .i64 u 956=0)↔(bits .and .i64 u 956=u):=by
  rw[e1,e2]
  constructor
  ·intro h0
   have hz:BitVec.ofInt 64 u &&& ~~~BitVec.ofInt 64 956=0:=nB (by rw[h0];rfl);rw[(Bt _ _).1 hz,e3]
  ·intro h0
   have hz:BitVec.ofInt 64 u &&& BitVec.ofInt 64 956=BitVec.ofInt 64 u:=nB (by rw[h0,e3]);rw[(Bt _ _).2 hz];rfl
 unfold wu
 by_cases hk:bits .and .i64 u 956=u
 ·rw[beq_iff_eq.2 hk,beq_iff_eq.2 (key.2 hk)]
 ·rw[U_.2 hk,U_.2 (fun e=>hk (key.1 e))]
def DQ (k:K):Bool:=win k.ty 0 31 && ((k.val.length:Int) == 32) && wu k.uses && win k.start 0 k.fin && win k.fin 0 1099511627776 && win k.ver 1 2147483647 && win k.par 0 2147483647
theorem kJ (n lo hi:Int):win n lo hi=true↔lo≤n∧n≤hi:=by unfold win;simp
theorem Mv (k:K):DQ k=bf k:=by
 unfold DQ bf
 have : (win k.start 0 k.fin && win k.fin 0 1099511627776)=(win k.start 0 1099511627776 && win k.fin k.start 1099511627776):=by
  rw[Bool.eq_iff_iff];simp only[T_,kJ]
  omega
 simp only[Bool.and_assoc];rw[←Bool.and_assoc (win k.start 0 k.fin),←Bool.and_assoc (win k.start 0 1099511627776),this]
structure K.wf (k:K):Prop where
 id:IntKind.i64.wrap k.id=k.id
 uses:IntKind.i64.wrap k.uses=k.uses
theorem Ac (k:K) (hk:k.wf) (w:World):Calls prog 104 #[kv k] w fun e w'=>e = .returned (.bool (bf k))∧Below w.heap.size w w':=by
 rw[←Mv];unfold kv kc;have hu:=Ms k.uses hk.uses;have hb:=(O_ w.heap.size w).alloc (A_ _) (.cells #[.int .i64 k.id,.int .i64 k.ty,.string ⟨k.val.toArray⟩,.int .i64 k.uses,.int .i64 k.start,.int .i64 k.fin,.int .i64 k.ver,.int .i64 k.par,.bool k.raw] 86);have HB:=O hb;have HU:=O hu;clear hb hu
 go_enter func104,ntmps104
 go_wp2_with (go_at_call 149;refine(Xo _ _ _ _).mono ?_;rintro e _ ⟨rfl,rfl⟩)
 all_goals
  go_ret;refine⟨?_,HB.out⟩;unfold DQ;rw[←HU.out]
  simp_all
end
section
open Go.RowKit
attribute [local irreducible] Calls
def di (w:World) (B:Nat) (k:K):Prop:=w.heap[B]?=some (.cells (kc k) 86 (0,0))
theorem di.lt {w:World} {B:Nat} {k:K} (h:di w B k):B<w.heap.size:=(Q_.1 h).1
theorem di.keep {w w':World} {B:Nat} {k:K} (h:di w B k) {n:Nat} (hb:Below n w w') (hn:B<n):di w' B k:=by
 unfold di;rw[hb.block _ hn];exact h
theorem di.on {w w':World} {B:Nat} {k:K} (h:di w B k) (hb:Below w.heap.size w w'):di w' B k:=h.keep hb h.lt
theorem di.cell {w:World} {B:Nat} {k:K} (h:di w B k) (j:Nat):w.cell? ⟨B,j,none⟩=(kc k)[j]? := e_ _ _ _ _ _ _ h
theorem di.new (w:World) (k:K):di (w.alloc (.cells (kc k) 86)) w.heap.size k:=heap_alloc_new _ _
def D3 (g:Nat) (lb:Array Value) (p:K→Bool) (w:World):Prop :=
 ∀(W:World) (x:K),Below w.heap.size w W→Calls prog g (#[kv x]++lb) W fun e w'=>e = .returned (.bool (p x))∧Below w.heap.size w w'
end
section
open Go.RowKit Go.Shelf
def ae (l:List K) (j:Nat):K:=l[j]!
theorem az (l:List K) (j:Nat) (h:j<l.length):ae l j=l[j]:=by simp[ae,h]
def RdK (w:World) (v:Value) (l:List K):Prop :=
 ∃ a cap, v = .slice a l.length cap ∧ l.length ≤ cap ∧ cap ≤ maxLen ∧
   (0<l.length→∃b off,a=some ⟨b,off,none⟩∧b<w.heap.size∧∀j,j<l.length→∀i,i<9→w.cell? ⟨b,off+j*9+i,none⟩=(kc (ae l j))[i]?)
theorem RdK.keep {w w':World} {v:Value} {l:List K} {B:Nat} (h:RdK w v l) (hb:Below B w w') (hB:w.heap.size≤B):RdK w' v l:=by
 obtain⟨a,cap,rfl,h1,h2,h3⟩:=h;refine⟨a,cap,rfl,h1,h2,fun h0 => ?_⟩;obtain⟨b,off,rfl,hlt,hc⟩:=h3 h0;refine⟨b,off,rfl,P_ hlt hb.size,fun j hj i hi => ?_⟩;rw[hb.cell (p:=⟨b,off+j*9+i,none⟩) (P_ hlt hB)];exact hc j hj i hi
theorem RdK.on {w w':World} {v:Value} {l:List K} (h:RdK w v l) (hb:Below w.heap.size w w'):RdK w' v l:=h.keep hb (A_ _)
theorem RdK.alloc {w:World} {v:Value} {l:List K} (h:RdK w v l) (X:Obj):RdK (w.alloc X) v l:=h.on ((O_ w.heap.size w).alloc (A_ _) X)
theorem RdK.drew {w:World} {v:Value} {l:List K} (n:Nat) (h:RdK w v l):RdK (w.drewN n) v l:=h.on (ak n (O_ w.heap.size w))
theorem RdK.nil (w:World):RdK w (.slice none 0 0) []:=⟨none,0,rfl,A_ _,by unfold maxLen;omega,fun h=>absurd h (by simp)⟩
def s7 (w:World) (b o:Nat) (k:K):Prop :=
 w.cell? ⟨b,o,none⟩=some (.int .i64 k.id)∧w.cell? ⟨b,o+1,none⟩=some (.int .i64 k.ty)∧w.cell? ⟨b,o+2,none⟩=some (.string ⟨k.val.toArray⟩) ∧
 w.cell? ⟨b,o+3,none⟩=some (.int .i64 k.uses)∧w.cell? ⟨b,o+4,none⟩=some (.int .i64 k.start)∧w.cell? ⟨b,o+5,none⟩=some (.int .i64 k.fin) ∧
 w.cell? ⟨b,o+6,none⟩=some (.int .i64 k.ver)∧w.cell? ⟨b,o+7,none⟩=some (.int .i64 k.par)∧w.cell? ⟨b,o+8,none⟩=some (.bool k.raw)
theorem RdK.cells {w:World} {a:Option Addr} {n cap:Nat} {l:List K} (h:RdK w (.slice a n cap) l):0<l.length→∃b off,a=some ⟨b,off,none⟩∧b<w.heap.size ∧
  ∀j,j<l.length→s7 w b (off+j*9) (ae l j):=by
 obtain⟨a',c',e,_,_,h3⟩:=h
 cases e
 intro h0;obtain⟨b,off,rfl,hlt,hc⟩:=h3 h0;refine⟨b,off,rfl,hlt,fun j hj=>⟨hc j hj 0 (by omega),hc j hj 1 (by omega),hc j hj 2 (by omega),hc j hj 3 (by omega),hc j hj 4 (by omega),hc j hj 5 (by omega),hc j hj 6 (by omega),hc j hj 7 (by omega),hc j hj 8 (by omega)⟩⟩
theorem RdK.len {w:World} {v:Value} {l:List K} (h:RdK w v l):l.length≤maxLen:=by
 obtain⟨a,cap,rfl,h1,h2,h3⟩:=h
 omega
def gD (p:K→Bool) (l:List K):Int:=match l.findIdx? p with |some i=>(i:Int)|none => -1
theorem sD (p:K→Bool) (l:List K) (k:Nat) (hk:k<l.length) (h:∀j,j<k→p (ae l j)=false) (hp:p (ae l k)=true):gD p l=k:=by
 have e:(ae l k)=l[k]:=az l k hk
 have : l.findIdx? p=some k:=by
  rw[List.findIdx?_eq_some_iff_getElem];refine⟨hk,by rw[←e];exact hp,fun j hj => ?_⟩;have := h j hj;rw[az l j (by omega)] at this
  simpa using this
 rw[gD,this]
theorem qt (p:K→Bool) (l:List K) (h:∀j,j<l.length→p (ae l j)=false):gD p l = -1:=by
 have : l.findIdx? p=none:=by
  rw[List.findIdx?_eq_none_iff];intro x hx;obtain⟨i,hi,rfl⟩:=List.mem_iff_getElem.1 hx;have := h i hi;rw[az l i hi] at this;exact this
 rw[gD,this]
attribute [local irreducible] Calls
theorem sG (v:Value) (l:List K) (g:Nat) (lb:Array Value) (p:K→Bool) (w:World) (eg:∀args w,(callFunc g args).run prog w = .ok (.enter g args) w) (hv:RdK w v l) (hp:D3 g lb p w) :
  Calls prog 102 #[v,.func (.func g) #[] lb] w fun e w'=>e = .returned (.int .i64 (gD p l))∧Below w.heap.size w w':=by
 have hlen:=hv.len;unfold maxLen at hlen;have HV:=O hv;have HP:=O hp;obtain⟨a,cap,rfl,_,_,_⟩:=hv;clear hp
 go_enter func102,ntmps102
 go_wp2
 go_loopw [8] (fun o wr=>∃k:Nat,k≤l.length∧o = .int .i64 k∧Hid (∀j,j<k→p (ae l j)=false)∧Below w.heap.size w wr) (fun o _=>l.length-(intOf o).toNat)
 case atStart=>exact⟨0,N_ _,rfl,O (fun j hj=>absurd hj (by omega)),O_ _ _⟩
 case round =>
  obtain⟨k,hk,rfl,hno,hb⟩:=hrel
  by_cases hlt:k<l.length
  ·obtain⟨b,off,rfl,hbl,aO⟩:=((HV.out.on hb).cells) (by omega)
   have hl2:=aO k hlt;have hcall:=HP.out wr (ae l k) hb
   have i1:(k:Int)<l.length:=by omega
   have HK:=O hlt;have HX:Hid (∀j,j<k+1→j≠k→p (ae l j)=false):=O (fun j hj hne=>hno.out j (by omega));have HH:=O (fun h=>sD p l k hlt hno.out h);unfold kv kc at hcall;clear aO hno hb;generalize hy:(ae l k)=y at hl2 hcall HH;obtain⟨d0,d1,d2,d3,d4,d5,d6,d7,d8⟩:=hl2;have HY:=O hy;clear hy
   cases hq:p y with
   | true =>
     rw[hq] at hcall;have r:=HH.out hq;have HC:=O hcall;clear hcall
     go_wp2_with (go_at_fn g;refine HC.out.mono ?_;rintro e w1 ⟨rfl,hb'⟩)
     go_ret;exact⟨by rw[r];rfl,hb'⟩
   | false =>
     rw[hq] at hcall;have HC:=O hcall;have HQ:=O hq;clear hcall hq
     go_wp2_with (go_at_fn g;refine HC.out.mono ?_;rintro e w1 ⟨rfl,hb'⟩)
     go_roundw
     case rel=>exact⟨k+1,HK.out,by go_num,O (fun j hj=>by
      by_cases e:j=k
      ·subst e;rw[HY.out];exact HQ.out
      ·exact HX.out j hj e),hb'⟩
     case measure=>have := HK.out;simp[intOf];omega
  ·have he:k=l.length:=by omega
   have i1:(l.length:Int)≤k:=by omega
   have hm:=qt p l (fun j hj=>hno.out j (by omega));have HM:=O hm;clear hm hno he;go_wp2;go_ret;exact⟨by rw[HM.out];rfl,hb⟩
end
section
open Go.RowKit
theorem B0 (s:List UInt32) (hl:s.length=16) (w:World) :
  Calls prog 182 #[.agg (row s)] w fun e w'=>e = .returned (.agg (row (C3.rounds s 10)))∧Below w.heap.size w w':=by
 go_enter func182,ntmps182
 go_wp2
 go_loopw [5] (fun i wr=>∃m:Nat,m≤10∧i = .int .i64 m∧∃n,wr=((w.alloc (.cells (row (C3.rounds s m)) 226)).alloc (.cells sx 226)).drewN n) (fun i _=>10-(intOf i).toNat)
 case atStart=>exact⟨0,by omega,rfl,0,rfl⟩
 case round =>
  obtain⟨m,hm,rfl,n,rfl⟩:=hrel
  by_cases hlt:m<10
  ·have hd:decide ((m:Int)<10)=true:=by simp;omega
   go_wp2
   go_loopw [7] (fun i wr=>∃k:Nat,k≤4∧i = .int .i64 k∧∃n,wr=((w.alloc (.cells (row (C3.qk (C3.rounds s m) k)) 226)).alloc (.cells sx 226)).drewN n) (fun i _=>4-(intOf i).toNat)
   case atStart=>exact⟨0,by omega,rfl,n,rfl⟩
   case round =>
    obtain⟨k,hk,rfl,n,rfl⟩:=hrel
    have hlen:(C3.qk (C3.rounds s m) k).length=16:=by rw[C3.length_qk,C3.length_rounds,hl]
    by_cases hlt2:k<4
    ·have c4:4+k<16:=by omega
     have c8:8+k<16:=by omega
     have c12:12+k<16:=by omega
     have c0:k<16:=by omega
     go_wp2;refine dJ 11 (by kernel_rfl) (by kernel_rfl) ?_;simp only[F_,c_,J_,L_]
     repeat (go_big_quiet_step (fail))
     refine h_ ?_;rintro _ ⟨nq,rfl⟩;have HQ:=O (C3.qk_lo (C3.rounds s m) k hlt2)
     go_wp2_with (go_at_call 194;refine(xZ _ (C3.qk (C3.rounds s m) k) 226 _ _ _ _ _ (cF _ _ _ _) (by omega) (by omega) (by omega) (by omega) (by omega) (by omega) (by omega) (by omega) (by omega) (by omega)).mono ?_;rintro e w' ⟨rfl,n2,rfl⟩)
     go_roundw
     case rel=>exact⟨k+1,by omega,by go_num,nq+n2,by rw[HQ.out]⟩
     case measure=>simp[intOf];omega
    ·have he:k=4:=by omega
     have HE:=O he;clear he
     have hd2:decide ((k:Int)<4)=false:=by simp;omega
     go_wp2
     go_loopw [23] (fun i wr=>∃k:Nat,k≤4∧i = .int .i64 k∧∃n,wr=((w.alloc (.cells (row (C3.qk (C3.rounds s m) (4+k))) 226)).alloc (.cells sx 226)).drewN n) (fun i _=>4-(intOf i).toNat)
     case atStart=>exact⟨0,by omega,rfl,n,by rw[HE.out]⟩
     case round =>
      clear hk hlen hlt2;obtain⟨k,hk,rfl,n,rfl⟩:=hrel
      have hlen:(C3.qk (C3.rounds s m) (4+k)).length=16:=by rw[C3.length_qk,C3.length_rounds,hl]
      by_cases hlt2:k<4
      ·have d1:(k+1) % 4<4:=Nat.mod_lt _ (by omega)
       have d2:(k+2) % 4<4:=Nat.mod_lt _ (by omega);have d3:(k+3) % 4<4:=Nat.mod_lt _ (by omega);go_wp2;refine dJ 17 (by kernel_rfl) (by kernel_rfl) ?_;simp only[F_,c_,J_,L_]
       repeat (go_big_quiet_step (fail))
       refine h_ ?_;rintro _ ⟨nq,rfl⟩;have HQ:=O (C3.qk_hi (C3.rounds s m) k hlt2)
       go_wp2_with (go_at_call 194;refine(xZ _ (C3.qk (C3.rounds s m) (4+k)) 226 _ _ _ _ _ (cF _ _ _ _) (by omega) (by omega) (by omega) (by omega) (by omega) (by omega) (by omega) (by omega) (by omega) (by omega)).mono ?_;rintro e w' ⟨rfl,n2,rfl⟩)
       go_roundw
       case rel=>exact⟨k+1,by omega,by go_num,nq+n2,by rw[HQ.out]⟩
       case measure=>simp[intOf];omega
      ·have he:k=4:=by omega
       have HE:=O he;clear he;go_wp2;go_roundw
       case rel=>exact⟨m+1,by omega,by go_num,n,by rw[HE.out];rfl⟩
       case measure=>simp[intOf];omega
  ·have hlen:(C3.rounds s m).length=16:=by rw[C3.length_rounds,hl]
   have he:m=10:=by omega
   have HE:=O he;clear he
   go_wp2_with (first
         |(refine ng rfl (.tmp 1) rfl _ rfl _ 226 (cF _ _ _ _) hlen ?_)
         |(refine gN rfl (.tmp 2) (.tmp 46) rfl _ _ rfl rfl 226 _ (dL _ _ _ _) rfl hlen ?_))
   refine g_ (v := .agg (row _)) (zv rfl _ _ _ _ _ rfl (setRow_heap _ _ _ _ _ _ (dL _ _ _ _)) hlen) rfl ⟨by rw[HE.out],?_⟩;exact below_setRow (ak _ (((O_ _ _).alloc (A_ _) _).alloc (by simp) _)) (by omega) _
open Go.RowKit
theorem vO (w:World) (cs0 cs:Array Value) (T:TypeId):(w.alloc (.cells cs0 T)).setRow w.heap.size cs=w.alloc (.cells cs T):=by
 unfold World.setRow World.alloc;simp only[World.mk.injEq,and_true]
 apply Array.ext_getElem?
 intro j;rw[Array.getElem?_modify]
 by_cases h:w.heap.size=j
 ·subst h
  simp
 ·simp only[h,if_false]
  simp only[Array.getElem?_push];rw[H_ (fun e=>h e.symm),H_ (fun e=>h e.symm)]
theorem aH {ops:Array Oper} {rest:List Oper} {o:Oper} {a:Act} {w0:World} {Q:Exit→Act→World→Prop} {cs0:Array Value} (cs:Array Value) (T:TypeId) (hgd:o.guard=none) (x y:Operand) (ho:o.op = .store T x y)
  (n:Nat) (hx:a.eval x = .pointer (some ⟨n,0,none⟩)) (hn:w0.heap.size=n) (hy:a.eval y = .agg cs) (hi:(prog.info? T).map (·.size)=some cs.size) (hold:cs0.size=cs.size) (h1:cs.all (·.oneCell')=true)
  (h:wpList prog ops Q rest (a.put o.dst undef) (w0.alloc (.cells cs T))):wpList prog ops Q (o::rest) a (w0.alloc (.cells cs0 T)):=by
 subst hn;refine wpList_store_row hgd T x y ho w0.heap.size cs hx hy T cs0 (heap_alloc_new _ _) hi hold h1 ?_;rw[vO];exact h
end
section
namespace Fld
open F6
def sr (b:UInt8) (k:Nat):UInt8:=UInt8.ofNat (b.toNat / 2 ^ k)
theorem sf (b:UInt8) (k:Nat):(sr b k).toNat=b.toNat / 2 ^ k:=by
 unfold sr;rw[UInt8.toNat_ofNat_of_lt' (by have := b.toNat_lt;have := Nat.div_le_self b.toNat (2 ^ k);show _<256;omega)]
theorem P1 (b:UInt8):sr b 0=b:=by simp[sr]
theorem PZ (b:UInt8) (k:Nat):B8 (sr b k) / 2=B8 (sr b (k+1)):=by
 unfold B8;rw[sf,sf,Nat.pow_succ,←Nat.div_div_eq_div_mul]
 omega
theorem CA (b:UInt8) (k:Nat):bit b k=decide ((sr b k).toNat % 2=1):=by
 unfold bit;rw[sf,Nat.testBit_eq_decide_div_mod_eq]
theorem Nn:∀x:UInt8,bits .and .u8 (B8 x) 1=((x.toNat % 2:Nat):Int):=fun x =>
 ru (p:=fun x=>bits .and .u8 (B8 x) 1=((x.toNat % 2:Nat):Int)) (by decide +kernel) x
theorem MN (x:UInt8) (h:bit x 7=true):(255:Int)<B8 x*2∧bits .xor .i64 (B8 x*2) 285=B8 (xt x) :=
 ru (p:=fun x=>bit x 7=true→(255:Int)<B8 x*2∧bits .xor .i64 (B8 x*2) 285=B8 (xt x)) (by decide +kernel) x h
theorem MP (x:UInt8) (h:bit x 7=false):¬(255:Int)<B8 x*2∧B8 x*2=B8 (xt x) :=
 ru (p:=fun x=>bit x 7=false→¬(255:Int)<B8 x*2∧B8 x*2=B8 (xt x)) (by decide +kernel) x h
@[go_sem] theorem TX (x y : UInt8) : bits .xor .i64 (B8 x) (B8 y) = B8 (x ^^^ y) := by
  have h1:=x.toNat_lt;have h2:=y.toNat_lt;have hx:x.toNat ^^^ y.toNat<2 ^ 8:=Nat.xor_lt_two_pow (by omega) (by omega)
  show IntKind.i64.wrap ((BitVec.ofInt 64 (x.toNat:Int) ^^^ BitVec.ofInt 64 (y.toNat:Int)).toNat:Int)=_
  rw[BitVec.toNat_xor]
  have e:∀n:Nat,n<256→(BitVec.ofInt 64 (n:Int)).toNat=n:=by
   intro n hn;rw[BitVec.ofInt_natCast,BitVec.toNat_ofNat]
   omega
  rw[e _ h1,e _ h2,IntKind.wrap_i64];unfold B8;rw[UInt8.toNat_xor]
  omega
@[go_sem] theorem Hy (x : UInt8) : B8 x % 256 = B8 x := by
  have := jZ x;have := kI x;omega
@[go_sem] theorem Xf (x:UInt8):IntKind.u8.wrap (B8 x)=B8 x:=by rw[IntKind.wrap_u8];exact Hy x
theorem Sr (x:UInt8):IntKind.i64.wrap (B8 x)=B8 x:=by
 have := jZ x;have := kI x;rw[IntKind.wrap_i64];omega
theorem J2 (x:UInt8):IntKind.i64.wrap (B8 x*2)=B8 x*2:=by
 have := jZ x;have := kI x;rw[IntKind.wrap_i64];omega
@[go_sem] theorem EP (x : UInt8) : RowKit.wrap64 (B8 x) = B8 x := by
  have := jZ x;have := kI x;unfold RowKit.wrap64;omega
@[go_sem] theorem Uq (x : UInt8) : RowKit.wrap64 (B8 x * 2) = B8 x * 2 := by
  have := jZ x;have := kI x;unfold RowKit.wrap64;omega
attribute [go_sem] Sr J2
@[go_sem] theorem Up (x : UInt8) : RowKit.wrap64 (2 * B8 x) = 2 * B8 x := by
  have := jZ x;have := kI x;unfold RowKit.wrap64;omega
theorem Dk (a b:UInt8) (k:Nat) (hk:k≤8) (h:sr b k=0):cY a b k=mul a b:=by
 have e:∀j,cY a b (k+j)=cY a b k:=by
  intro j
  induction j with
  | zero=>rfl
  | succ j ih =>
    show cY a b (k+j) ^^^ (if bit b (k+j) then xts a (k+j) else 0)=_
    have : bit b (k+j)=false:=by
     have h0:=congrArg UInt8.toNat h;rw[sf] at h0;have h1:b.toNat / 2 ^ k=0:=h0;rw[CA,sf,Nat.pow_add,←Nat.div_div_eq_div_mul,h1]
     simp
    rw[this,ih];simp
 have := e (8-k);rw[show k+(8-k)=8 by omega] at this;exact this.symm
end Fld
end
section
namespace Fld
open Go.RowKit F6
theorem xK (a b:UInt8) (w:World) :
  Calls prog 156 #[.int .u8 (B8 a),.int .u8 (B8 b)] w fun e w'=>e = .returned (.int .u8 (B8 (mul a b)))∧w'=w:=by
 go_enter func156,ntmps156
 go_wp2
 go_loop [1,5,6] (fun y x p=>∃k:Nat,k≤8∧y = .int .u8 (B8 (sr b k))∧x = .int .i64 (B8 (xts a k))∧p = .int .i64 (B8 (cY a b k))) (fun y _ _=>(intOf y).toNat)
 case atStart=>exact⟨0,by omega,by rw[P1],rfl,rfl⟩
 case round =>
  obtain⟨k,hk,rfl,rfl,rfl⟩:=hrel
  by_cases hz:sr b k=0
  ·have hd:B8 (sr b k)=0:=by rw[hz];rfl
   have he:=Dk a b k hk hz;rw[hd];go_wp2;go_ret;exact⟨rfl,rfl⟩
  ·have hpos:(0:Int)<B8 (sr b k):=by
    have := jZ (sr b k);have : B8 (sr b k)≠0:=fun h=>hz (pJ (by rw[h];rfl))
    omega
   have hk8:k<8:=by
    refine Nat.lt_of_le_of_ne hk (fun h=>hz ?_);subst h;unfold sr;rw[Nat.div_eq_of_lt b.toNat_lt];rfl
   have hb:=CA b k;have ha:=Nn (sr b k);have hn:=PZ b k
   have hlt:(B8 (sr b k) / 2).toNat<(B8 (sr b k)).toNat:=by omega
   have em:cY a b (k+1)=cY a b k ^^^ (if bit b k then xts a k else 0):=rfl;have ex:xts a (k+1)=xt (xts a k):=rfl;have HN:=O hn;have HL:=O hlt;have HZ:=O hz;have HK:=O hk8;have EX:=O ex;clear hn hlt hz hk8 ex
   cases hbit:bit b k
   ·rw[hbit] at hb em
    have h0:bits .and .u8 (B8 (sr b k)) 1=0:=by rw[ha];have := of_decide_eq_false hb.symm;omega
    have em':cY a b (k+1)=cY a b k:=by rw[em];simp
    have EM:=O em';clear hb em em' ha hbit
    cases h7:bit (xts a k) 7
    ·obtain⟨x1,x2⟩:=MP _ h7
     have X2:=O x2;clear x2 h7;go_wp2
     go_round
     case rel=>exact⟨k+1,HK.out,by rw[HN.out],by rw[X2.out,EX.out],by rw[EM.out]⟩
     case measure=>exact HL.out
    ·obtain⟨x1,x2⟩:=MN _ h7
     clear h7;go_wp2
     go_round
     case rel=>exact⟨k+1,HK.out,by rw[HN.out],by rw[EX.out],by rw[EM.out]⟩
     case measure=>exact HL.out
   ·rw[hbit] at hb em
    have h0:bits .and .u8 (B8 (sr b k)) 1=1:=by rw[ha];have := of_decide_eq_true hb.symm;omega
    have em':cY a b (k+1)=cY a b k ^^^ xts a k:=by rw[em];simp
    have EM:=O em';clear hb em em' ha hbit
    cases h7:bit (xts a k) 7
    ·obtain⟨x1,x2⟩:=MP _ h7
     have X2:=O x2;clear x2 h7;go_wp2
     go_round
     case rel=>exact⟨k+1,HK.out,by rw[HN.out],by rw[X2.out,EX.out],by rw[EM.out]⟩
     case measure=>exact HL.out
    ·obtain⟨x1,x2⟩:=MN _ h7
     clear h7;go_wp2
     go_round
     case rel=>exact⟨k+1,HK.out,by rw[HN.out],by rw[EX.out],by rw[EM.out]⟩
     case measure=>exact HL.out
end Fld
end
end Go.Proofs.YtmfiaadjdbemnaaGreatDoor
