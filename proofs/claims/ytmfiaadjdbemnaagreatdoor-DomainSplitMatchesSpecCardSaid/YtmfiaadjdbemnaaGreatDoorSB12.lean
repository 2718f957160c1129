/- Contracts and lemmas. No condition. -/
import Derived.Test.YtmfiaadjdbemnaaGreatDoorSB11
import Derived.ChangeKeysEq
import Derived.Deep.MidRow
import Derived.Laws.Tables
import Derived.OrdersIn
import Derived.RangeFuncCalls
import Derived.RangeFuncNested
import Derived.TacticsIn
set_option maxRecDepth 100000
set_option maxHeartbeats 8000000
set_option linter.unusedSimpArgs false
set_option linter.unusedVariables false
namespace Go.Proofs.YtmfiaadjdbemnaaGreatDoor
open Tryz
section
open Go.RowKit Go.Shelf
theorem VV (w:World) (A:Obj) (k:K):di ((w.alloc A).alloc (.cells (kc k) 86)) (w.heap.size+1) k:=by
 have h:=di.new (w.alloc A) k
 rwa [World.size_alloc] at h
theorem dm (w:World) (A B:Obj) {w1:World} (h:Below ((w.alloc A).alloc B).heap.size ((w.alloc A).alloc B) w1):Below w.heap.size w w1 :=
 (((O_ _ _).alloc (A_ _) A).alloc (by simp) B).trans (h.mono (by simp;omega))
theorem mP (w:World) (cs:Array Value) (T:TypeId) (B:Obj) {w1:World} (h:Below ((w.alloc (.cells cs T)).alloc B).heap.size ((w.alloc (.cells cs T)).alloc B) w1) (j:Nat):w1.cell? ⟨w.heap.size,j,none⟩=cs[j]? := by
 have h2:=((O_ (w.alloc (.cells cs T)).heap.size (w.alloc (.cells cs T))).alloc (A_ _) B).trans (h.mono (by simp));rw[h2.cell (p:=⟨w.heap.size,j,none⟩) (by simp)];exact e_ _ _ _ _ _ _ (heap_alloc_new _ _)
attribute [local irreducible] Calls
end
section
open Go.RowKit Go.Shelf
theorem di.nine {w:World} {B:Nat} {k:K} (h:di w B k):s7 w B 0 k:=⟨h.cell 0,h.cell 1,h.cell 2,h.cell 3,h.cell 4,h.cell 5,h.cell 6,h.cell 7,h.cell 8⟩
attribute [local irreducible] Calls
end
section
open Go.RowKit Go.Shelf
theorem AZ (p:K→Bool) (l:List K):decide (0≤gD p l)=l.any p:=by
 unfold gD
 cases h:l.findIdx? p with
 | none =>
   rw[List.findIdx?_eq_none_iff] at h
   have : l.any p=false:=by
    rw[List.any_eq_false];intro x hx
    simpa using h x hx
   rw[this];rfl
 | some i =>
   rw[List.findIdx?_eq_some_iff_getElem] at h;obtain⟨hi,hp,_⟩:=h;have : l.any p=true:=List.any_eq_true.2 ⟨_,List.getElem_mem hi,hp⟩;rw[this]
   simp
theorem gi (w:World) (cs:Array Value) (T:TypeId) {w1:World} (h:Below (w.alloc (.cells cs T)).heap.size (w.alloc (.cells cs T)) w1) (j:Nat):w1.cell? ⟨w.heap.size,j,none⟩=cs[j]? := by
 rw[h.cell (p:=⟨w.heap.size,j,none⟩) (by simp)];exact e_ _ _ _ _ _ _ (heap_alloc_new _ _)
theorem cJ (w:World) (A:Obj) {w1:World} (h:Below (w.alloc A).heap.size (w.alloc A) w1):Below w.heap.size w w1 :=
 ((O_ _ _).alloc (A_ _) A).trans (h.mono (by simp))
attribute [local irreducible] Calls
theorem uC (v:Value) (l:List K) (g:Nat) (lb:Array Value) (p:K→Bool) (w:World) (eg:∀args w,(callFunc g args).run prog w = .ok (.enter g args) w) (hv:RdK w v l) (hp:D3 g lb p w) :
  Calls prog 60 #[v,.func (.func g) #[] lb] w fun e w'=>e = .returned (.bool (l.any p))∧Below w.heap.size w w':=by
 have hc:=sG v l g lb p w eg hv hp;rw[←AZ];have HC:=O hc;clear hc hp
 go_enter func60,ntmps60
 go_wp2_with (go_at_call 102;refine HC.out.mono ?_;rintro e w1 ⟨rfl,hb⟩)
 go_ret;exact⟨rfl,hb⟩
end
section
open Go.RowKit Go.Shelf
structure BK where
 dom:List UInt8
 ep:Int
 num:Int
 fw:Int
 tm:Int
 pol:List UInt8
 mo:List UInt8
def aq (d:List UInt8) (i:Nat):Value := .int .u8 (B8 (byteAt d i))
def bc (b:BK) (v:Value):Array Value := #[aq b.dom 0,aq b.dom 1,aq b.dom 2,aq b.dom 3,aq b.dom 4,aq b.dom 5,aq b.dom 6,aq b.dom 7,aq b.dom 8,aq b.dom 9,aq b.dom 10,aq b.dom 11,aq b.dom 12,aq b.dom 13,aq b.dom 14,aq b.dom 15,.int .i64 b.ep,.int .i64 b.num,.int .i64 b.fw,.int .i64 b.tm,aq b.pol 0,aq b.pol 1,aq b.pol 2,aq b.pol 3,aq b.pol 4,aq b.pol 5,aq b.pol 6,aq b.pol 7,aq b.pol 8,aq b.pol 9,aq b.pol 10,aq b.pol 11,aq b.pol 12,aq b.pol 13,aq b.pol 14,aq b.pol 15,.string ⟨b.mo.toArray⟩,v]
@[go_sem] theorem aC (b:BK) (v:Value):(bc b v).size=38:=rfl
@[go_sem] theorem Yh (b:BK) (v:Value):(bc b v)[0]?=some (aq b.dom 0):=rfl
@[go_sem] theorem Yi (b:BK) (v:Value):(bc b v)[1]?=some (aq b.dom 1):=rfl
@[go_sem] theorem Yj (b:BK) (v:Value):(bc b v)[2]?=some (aq b.dom 2):=rfl
@[go_sem] theorem Yl (b:BK) (v:Value):(bc b v)[3]?=some (aq b.dom 3):=rfl
@[go_sem] theorem Ym (b:BK) (v:Value):(bc b v)[4]?=some (aq b.dom 4):=rfl
@[go_sem] theorem Yn (b:BK) (v:Value):(bc b v)[5]?=some (aq b.dom 5):=rfl
@[go_sem] theorem Yo (b:BK) (v:Value):(bc b v)[6]?=some (aq b.dom 6):=rfl
@[go_sem] theorem Yp (b:BK) (v:Value):(bc b v)[7]?=some (aq b.dom 7):=rfl
@[go_sem] theorem Yq (b:BK) (v:Value):(bc b v)[8]?=some (aq b.dom 8):=rfl
@[go_sem] theorem Yr (b:BK) (v:Value):(bc b v)[9]?=some (aq b.dom 9):=rfl
@[go_sem] theorem U6 (b:BK) (v:Value):(bc b v)[10]?=some (aq b.dom 10):=rfl
@[go_sem] theorem U7 (b:BK) (v:Value):(bc b v)[11]?=some (aq b.dom 11):=rfl
@[go_sem] theorem U8 (b:BK) (v:Value):(bc b v)[12]?=some (aq b.dom 12):=rfl
@[go_sem] theorem U9 (b:BK) (v:Value):(bc b v)[13]?=some (aq b.dom 13):=rfl
@[go_sem] theorem Va (b:BK) (v:Value):(bc b v)[14]?=some (aq b.dom 14):=rfl
@[go_sem] theorem Vb (b:BK) (v:Value):(bc b v)[15]?=some (aq b.dom 15):=rfl
@[go_sem] theorem uj (b:BK) (v:Value):(bc b v)[16]?=some (.int .i64 b.ep):=rfl
@[go_sem] theorem sy (b:BK) (v:Value):(bc b v)[17]?=some (.int .i64 b.num):=rfl
@[go_sem] theorem ul (b:BK) (v:Value):(bc b v)[18]?=some (.int .i64 b.fw):=rfl
@[go_sem] theorem um (b:BK) (v:Value):(bc b v)[19]?=some (.int .i64 b.tm):=rfl
@[go_sem] theorem Vc (b:BK) (v:Value):(bc b v)[20]?=some (aq b.pol 0):=rfl
@[go_sem] theorem Vd (b:BK) (v:Value):(bc b v)[21]?=some (aq b.pol 1):=rfl
@[go_sem] theorem Ve (b:BK) (v:Value):(bc b v)[22]?=some (aq b.pol 2):=rfl
@[go_sem] theorem Vf (b:BK) (v:Value):(bc b v)[23]?=some (aq b.pol 3):=rfl
@[go_sem] theorem Vg (b:BK) (v:Value):(bc b v)[24]?=some (aq b.pol 4):=rfl
@[go_sem] theorem Vh (b:BK) (v:Value):(bc b v)[25]?=some (aq b.pol 5):=rfl
@[go_sem] theorem Vi (b:BK) (v:Value):(bc b v)[26]?=some (aq b.pol 6):=rfl
@[go_sem] theorem Vj (b:BK) (v:Value):(bc b v)[27]?=some (aq b.pol 7):=rfl
@[go_sem] theorem Vk (b:BK) (v:Value):(bc b v)[28]?=some (aq b.pol 8):=rfl
@[go_sem] theorem Vl (b:BK) (v:Value):(bc b v)[29]?=some (aq b.pol 9):=rfl
@[go_sem] theorem Vm (b:BK) (v:Value):(bc b v)[30]?=some (aq b.pol 10):=rfl
@[go_sem] theorem Vn (b:BK) (v:Value):(bc b v)[31]?=some (aq b.pol 11):=rfl
@[go_sem] theorem Vo (b:BK) (v:Value):(bc b v)[32]?=some (aq b.pol 12):=rfl
@[go_sem] theorem Vp (b:BK) (v:Value):(bc b v)[33]?=some (aq b.pol 13):=rfl
@[go_sem] theorem Vq (b:BK) (v:Value):(bc b v)[34]?=some (aq b.pol 14):=rfl
@[go_sem] theorem Vr (b:BK) (v:Value):(bc b v)[35]?=some (aq b.pol 15):=rfl
@[go_sem] theorem uo (b:BK) (v:Value):(bc b v)[36]?=some (.string ⟨b.mo.toArray⟩):=rfl
@[go_sem] theorem iU (b:BK) (v:Value):(bc b v)[37]?=some v:=rfl
attribute [irreducible] bc
theorem Kk (w:World) (A B C:Obj):(((w.alloc A).alloc B).alloc C).heap[w.heap.size+2]?=some C:=by
 have h:=heap_alloc_new ((w.alloc A).alloc B) C;rw[World.size_alloc,World.size_alloc] at h;exact h
theorem qC (w:World) (A B C:Obj) {w1:World} (h:Below (((w.alloc A).alloc B).alloc C).heap.size (((w.alloc A).alloc B).alloc C) w1):Below w.heap.size w w1 :=
 (((O_ _ _).alloc (A_ _) A).alloc (by simp) B).trans ((cJ _ _ h).mono (by simp;omega))
attribute [local irreducible] Calls
end
section
open Go.RowKit Go.Shelf
theorem Ek (w:World) (A:Obj) (cs:Array Value) (T:TypeId) {w1:World} (h:Below ((w.alloc A).alloc (.cells cs T)).heap.size ((w.alloc A).alloc (.cells cs T)) w1) (j:Nat):w1.cell? ⟨w.heap.size+1,j,none⟩=cs[j]? := by
 have := gi (w.alloc A) cs T h j
 rwa [World.size_alloc] at this
attribute [local irreducible] Calls
end
section
open Go.RowKit Go.Shelf
def cv (l:List K) (i:Nat):Int:=if i=0 then 0 else (ae l (i-1)).id
theorem gR (l:List K):cv l 0=0:=rfl
theorem gQ (l:List K) (i:Nat):cv l (i+1)=(ae l i).id:=rfl
def oE (nx:Int) (l:List K) (i:Nat):Bool:=bf (ae l i) && decide (cv l i<(ae l i).id) && decide ((ae l i).id<nx) && decide ((ae l i).par<nx)
def aP (nx:Int) (l:List K):Bool:=decide (l.length≤4096) && win nx 1 2147483647 && (List.range l.length).all (oE nx l)
attribute [local irreducible] Calls aP oE bf cv win
end
section
open Go.RowKit Go.Shelf
def jQ (l:List Int) (j:Nat):Int:=l.getD j 0
theorem k7 (l:List Int) (j:Nat) (h:j<l.length):jQ l j=l[j]:=by simp[jQ,h]
def RdI (w:World) (v:Value) (l:List Int):Prop :=
 ∃ a cap, v = .slice a l.length cap ∧ l.length ≤ cap ∧ cap ≤ maxLen ∧
   (0<l.length→∃b off,a=some ⟨b,off,none⟩∧b<w.heap.size∧∀i,i<l.length→w.cell? ⟨b,off+i,none⟩=some (.int .i64 (jQ l i)))
theorem RdI.keep {w w':World} {v:Value} {l:List Int} {B:Nat} (h:RdI w v l) (hb:Below B w w') (hB:w.heap.size≤B):RdI w' v l:=by
 obtain⟨a,cap,rfl,h1,h2,h3⟩:=h;refine⟨a,cap,rfl,h1,h2,fun h0 => ?_⟩;obtain⟨b,off,rfl,hlt,hc⟩:=h3 h0;refine⟨b,off,rfl,P_ hlt hb.size,fun i hi => ?_⟩;rw[hb.cell (p:=⟨b,off+i,none⟩) (P_ hlt hB)];exact hc i hi
theorem RdI.on {w w':World} {v:Value} {l:List Int} (h:RdI w v l) (hb:Below w.heap.size w w'):RdI w' v l:=h.keep hb (A_ _)
theorem RdI.alloc {w:World} {v:Value} {l:List Int} (h:RdI w v l) (X:Obj):RdI (w.alloc X) v l:=h.on ((O_ w.heap.size w).alloc (A_ _) X)
theorem RdI.cells {w:World} {a:Option Addr} {n cap:Nat} {l:List Int} (h:RdI w (.slice a n cap) l):0<l.length→∃b off,a=some ⟨b,off,none⟩∧b<w.heap.size∧∀j,j<l.length→w.cell? ⟨b,off+j,none⟩=some (.int .i64 (jQ l j)):=by
 obtain⟨a',c',e,_,_,h3⟩:=h
 cases e
 exact h3
theorem RdI.len {w:World} {v:Value} {l:List Int} (h:RdI w v l):l.length≤maxLen:=by
 obtain⟨a,cap,rfl,h1,h2,h3⟩:=h
 omega
theorem Em (w:World) (l:List Int) (h:l.length≤1000):RdI (w.alloc (.cells (l.map (Value.int .i64)).toArray 3)) (.slice (some ⟨w.heap.size,0,none⟩) l.length l.length) l :=
 ⟨_,_,rfl,A_ _,by unfold maxLen;omega,fun _=>⟨w.heap.size,0,rfl,by simp,fun i hi=>by
  rw[a_,e_ _ _ _ _ _ _ (heap_alloc_new _ _)]
  simp[jQ,hi]⟩⟩
def oU (p:Int→Bool) (l:List Int):Int:=match l.findIdx? p with |some i=>(i:Int)|none => -1
theorem C0 (p:Int→Bool) (l:List Int) (k:Nat) (hk:k<l.length) (h:∀j,j<k→p (jQ l j)=false) (hp:p (jQ l k)=true):oU p l=k:=by
 have : l.findIdx? p=some k:=by
  rw[List.findIdx?_eq_some_iff_getElem];refine⟨hk,by rw[←k7 l k hk];exact hp,fun j hj => ?_⟩;have := h j hj;rw[k7 l j (by omega)] at this
  simpa using this
 rw[oU,this]
theorem AY (p:Int→Bool) (l:List Int) (h:∀j,j<l.length→p (jQ l j)=false):oU p l = -1:=by
 have : l.findIdx? p=none:=by
  rw[List.findIdx?_eq_none_iff];intro x hx;obtain⟨i,hi,rfl⟩:=List.mem_iff_getElem.1 hx;have := h i hi;rw[k7 l i hi] at this;exact this
 rw[oU,this]
theorem CZ (p:Int→Bool) (l:List Int):decide (0≤oU p l)=l.any p:=by
 unfold oU
 cases h:l.findIdx? p with
 | none =>
   rw[List.findIdx?_eq_none_iff] at h
   have : l.any p=false:=by
    rw[List.any_eq_false];intro x hx
    simpa using h x hx
   rw[this];rfl
 | some i =>
   rw[List.findIdx?_eq_some_iff_getElem] at h;obtain⟨hi,hp,_⟩:=h;have : l.any p=true:=List.any_eq_true.2 ⟨_,List.getElem_mem hi,hp⟩;rw[this]
   simp
def Ir (g:Nat) (lb:Array Value) (p:Int→Bool) (w:World):Prop :=
 ∀(W:World) (x:Int),Below w.heap.size w W→Calls prog g (#[.int .i64 x]++lb) W fun e w'=>e = .returned (.bool (p x))∧Below w.heap.size w w'
attribute [local irreducible] Calls
theorem Bh (v:Value) (l:List Int) (g:Nat) (lb:Array Value) (p:Int→Bool) (w:World) (eg:∀args w,(callFunc g args).run prog w = .ok (.enter g args) w) (hv:RdI w v l) (hp:Ir g lb p w) :
  Calls prog 179 #[v,.func (.func g) #[] lb] w fun e w'=>e = .returned (.int .i64 (oU p l))∧Below w.heap.size w w':=by
 have hlen:=hv.len;unfold maxLen at hlen;have HV:=O hv;have HP:=O hp;obtain⟨a,cap,rfl,_,_,_⟩:=hv;clear hp
 go_enter func179,ntmps179
 go_wp2
 go_loopw [8] (fun o wr=>∃k:Nat,k≤l.length∧o = .int .i64 k∧Hid (∀j,j<k→p (jQ l j)=false)∧Below w.heap.size w wr) (fun o _=>l.length-(intOf o).toNat)
 case atStart=>exact⟨0,N_ _,rfl,O (fun j hj=>absurd hj (by omega)),O_ _ _⟩
 case round =>
  obtain⟨k,hk,rfl,hno,hb⟩:=hrel
  by_cases hlt:k<l.length
  ·obtain⟨b,off,rfl,hbl,aO⟩:=((HV.out.on hb).cells) (by omega)
   have d0:=aO k hlt;have hcall:=HP.out wr (jQ l k) hb
   have i1:(k:Int)<l.length:=by omega
   have HK:=O hlt;have HX:Hid (∀j,j<k+1→j≠k→p (jQ l j)=false):=O (fun j hj hne=>hno.out j (by omega));have HH:=O (fun h=>C0 p l k hlt hno.out h);clear aO hno hb;generalize hy:jQ l k=y at d0 hcall HH;have HY:=O hy;clear hy
   cases hq:p y with
   | true =>
     rw[hq] at hcall;have r:=HH.out hq;have HC:=O hcall;clear hcall
     go_wp2_with (go_at_fn g;refine HC.out.mono ?_;rintro e w1 ⟨rfl,hb'⟩)
     go_ret;exact⟨by rw[r];rfl,hb'⟩
   | false =>
     rw[hq] at hcall;have HC:=O hcall;have HQ:=O hq;clear hcall hq
     go_wp2_with (go_at_fn g;refine HC.out.mono ?_;rintro e w1 ⟨rfl,hb'⟩)
     go_roundw
     case rel=>exact⟨k+1,HK.out,by go_num,O (fun j hj=>by
      by_cases e:j=k
      ·subst e;rw[HY.out];exact HQ.out
      ·exact HX.out j hj e),hb'⟩
     case measure=>have := HK.out;simp[intOf];omega
  ·have he:k=l.length:=by omega
   have i1:(l.length:Int)≤k:=by omega
   have hm:=AY p l (fun j hj=>hno.out j (by omega));have HM:=O hm;clear hm hno he;go_wp2;go_ret;exact⟨by rw[HM.out];rfl,hb⟩
theorem uB (v:Value) (l:List Int) (g:Nat) (lb:Array Value) (p:Int→Bool) (w:World) (eg:∀args w,(callFunc g args).run prog w = .ok (.enter g args) w) (hv:RdI w v l) (hp:Ir g lb p w) :
  Calls prog 164 #[v,.func (.func g) #[] lb] w fun e w'=>e = .returned (.bool (l.any p))∧Below w.heap.size w w':=by
 have hc:=Bh v l g lb p w eg hv hp;rw[←CZ];have HC:=O hc;clear hc hp
 go_enter func164,ntmps164
 go_wp2_with (go_at_call 179;refine HC.out.mono ?_;rintro e w1 ⟨rfl,hb⟩)
 go_ret;exact⟨rfl,hb⟩
theorem Yz:∀args w,(callFunc 165 args).run prog w = .ok (.enter 165 args) w:=enters_of func165 (by kernel_rfl) rfl
theorem Cp (most:Int) (C:Nat) (w:World) (hC:w.heap[C]?=some (.cells #[.int .i64 most] 3 (0,0))):Ir 165 #[.pointer (some ⟨C,0,none⟩)] (fun n => !win n 0 most) w:=fun W x hb=>by
 have zC:C<w.heap.size:=(Q_.1 hC).1
 have c0:W.cell? ⟨C,0,none⟩=some (.int .i64 most):=by rw[hb.cell (p:=⟨C,0,none⟩) zC];exact e_ _ _ _ _ _ _ hC
 show Calls prog 165 #[.int .i64 x,.pointer (some ⟨C,0,none⟩)] W _
 unfold win;simp only[]
 by_cases h1:x<0
 ·rw[V_ (by omega:¬0≤x)]
  go_enter func165,ntmps165
  go_wp2;go_ret;exact⟨rfl,hb⟩
 ·have h1':¬x<0:=h1
  rw[decide_eq_true (by omega:0≤x)]
  by_cases h2:most<x
  ·rw[V_ (by omega:¬x≤most)]
   go_enter func165,ntmps165
   go_wp2;go_ret;exact⟨rfl,hb⟩
  ·rw[decide_eq_true (by omega:x≤most)]
   go_enter func165,ntmps165
   go_wp2;go_ret;exact⟨rfl,hb⟩
theorem rl (most:Int) (v:Value) (l:List Int) (w:World) (hv:RdI w v l) :
  Calls prog 117 #[.int .i64 most,v] w fun e w'=>e = .returned (.bool (l.all (fun n=>win n 0 most)))∧Below w.heap.size w w':=by
 have hmf:∀(fn:Fn) (first cap:Array Value) (w:World),(Instr.makeFunc fn first cap).run prog w = .ok (.func fn first cap) w:=fun _ _ _ _=>rfl;have hc:=uB v l 165 #[.pointer (some ⟨w.heap.size,0,none⟩)] (fun n => !win n 0 most) (w.alloc (.cells #[.int .i64 most] 3)) Yz (hv.alloc _) (Cp most _ _ (heap_alloc_new _ _))
 have e:l.all (fun n=>win n 0 most) = !(l.any (fun n => !win n 0 most)):=by
  rw[List.all_eq_not_any_not]
 rw[e];generalize l.any (fun n => !win n 0 most)=r at hc ⊢;have HC:=O hc;clear hc e
 go_enter func117,ntmps117
 go_wp2_with (go_at_call 164;refine HC.out.mono ?_;rintro e w1 ⟨rfl,hb⟩)
 go_ret;exact⟨rfl,cJ _ _ hb⟩
end
section
open Go.RowKit Go.Shelf
def okB (l:List K) (i:Nat):Bool:=bf (ae l i) && decide (cv l i<(ae l i).id) && decide ((ae l i).id≤2147483647)
def eY (b:BK) (l:List K):Bool:=win b.ep 0 2147483647 && win b.num 0 2147483647 && win b.fw 0 2147483647 && win b.tm 0 1099511627776 && decide (1≤b.mo.length) && decide (b.mo.length≤12) && decide (l.length≤4096)
def aI (b:BK) (l:List K):Bool:=eY b l && (List.range l.length).all (okB l)
theorem BA (l:List K) (i:Nat):(okB l i=false∧bf (ae l i)=false)∨(okB l i=false∧bf (ae l i)=true∧(ae l i).id≤cv l i) ∨
  (okB l i=false∧bf (ae l i)=true∧¬(ae l i).id≤cv l i∧2147483647<(ae l i).id) ∨
  (okB l i=true∧bf (ae l i)=true∧¬(ae l i).id≤cv l i∧¬2147483647<(ae l i).id):=by
 unfold okB
 by_cases h0:bf (ae l i)=true
 ·by_cases h1:(ae l i).id≤cv l i
  ·exact .inr (.inl ⟨by rw[V_ (by omega:¬cv l i<(ae l i).id)];simp,h0,h1⟩)
  ·by_cases h2:2147483647<(ae l i).id
   ·exact .inr (.inr (.inl ⟨by rw[V_ (by omega:¬(ae l i).id≤2147483647)];simp,h0,h1,h2⟩))
   ·exact .inr (.inr (.inr ⟨by rw[h0,decide_eq_true (by omega:cv l i<(ae l i).id),decide_eq_true (by omega:(ae l i).id≤2147483647)];rfl,h0,h1,h2⟩))
 ·have h0':bf (ae l i)=false:=by simpa using h0
  exact .inl ⟨by rw[h0'];rfl,h0'⟩
theorem uf (l:List K) (i:Nat) (hi:i<l.length) (h:okB l i=false):(List.range l.length).all (okB l)=false:=by
 rw[List.all_eq_false];exact⟨i,List.mem_range.2 hi,by rw[h];decide⟩
theorem wN (l:List K) (h:∀j,j<l.length→okB l j=true):(List.range l.length).all (okB l)=true :=
 List.all_eq_true.2 (fun i hi=>h i (List.mem_range.1 hi))
attribute [local irreducible] Calls aI okB bf cv win eY
end
section
open Go.RowKit Go.Shelf
theorem bi3 (w:World) (a b c:Int):RdI (w.alloc (.cells #[.int .i64 a,.int .i64 b,.int .i64 c] 3)) (.slice (some ⟨w.heap.size,0,none⟩) 3 3) [a,b,c]:=Em w [a,b,c] (by simp)
theorem bi1 (w:World) (a:Int):RdI (w.alloc (.cells #[.int .i64 a] 3)) (.slice (some ⟨w.heap.size,0,none⟩) 1 1) [a]:=Em w [a] (by simp)
def r1 (b:BK):Bool:=[b.ep,b.num,b.fw].all (fun n=>win n 0 2147483647)
def r2 (b:BK):Bool:=[b.tm].all (fun n=>win n 0 1099511627776)
def r3 (b:BK):Bool:=[(b.mo.length:Int)-1].all (fun n=>win n 0 11)
theorem VR (b:BK) (l:List K):(eY b l=true∧r1 b=true∧r2 b=true∧r3 b=true∧(l.length:Int)≤4096)∨(eY b l=false∧r1 b=false)∨(eY b l=false∧r1 b=true∧r2 b=false) ∨
  (eY b l=false∧r1 b=true∧r2 b=true∧r3 b=false)∨(eY b l=false∧r1 b=true∧r2 b=true∧r3 b=true∧¬(l.length:Int)≤4096):=by
 have h3:r3 b=(decide (1≤b.mo.length) && decide (b.mo.length≤12)):=by
  unfold r3 win;simp only[List.all_cons,List.all_nil,Bool.and_true]
  congr 1 <;> rw[decide_eq_decide] <;> omega
 have hh:eY b l=(r1 b && r2 b && r3 b && decide (l.length≤4096)):=by
  rw[h3];unfold eY r1 r2;simp only[List.all_cons,List.all_nil,Bool.and_true,Bool.and_assoc]
 rw[hh]
 cases r1 b
 ·simp
 cases r2 b
 ·simp
 cases r3 b
 ·simp
 by_cases h:l.length≤4096
 ·have : (l.length:Int)≤4096:=by omega
  simp[h,this]
 ·have : ¬(l.length:Int)≤4096:=by omega
  simp[h,this]
attribute [local irreducible] Calls aI okB bf cv win eY r1 r2 r3
theorem rf (b:BK) (u:Value) (l:List K) (w:World) (hv:RdK w u l) (hwf:∀i,i<l.length→(ae l i).wf) (hmo:b.mo.length≤maxLen) :
  Calls prog 76 #[.agg (bc b u)] w fun e w'=>e = .returned (.bool (aI b l))∧Below w.heap.size w w':=by
 have hlen:=hv.len;unfold maxLen at hlen hmo;obtain⟨W0,hW0⟩:∃W0,W0=w.alloc (.cells (bc b u) 47):=⟨_,rfl⟩
 have hvw:RdK W0 u l:=by rw[hW0];exact hv.alloc _
 have hbx:∀w1,Below W0.heap.size W0 w1→w1.cell? ⟨w.heap.size,37,none⟩=some u∧w1.cell? ⟨w.heap.size,16,none⟩=some (.int .i64 b.ep)∧w1.cell? ⟨w.heap.size,17,none⟩=some (.int .i64 b.num) ∧
   w1.cell? ⟨w.heap.size,18,none⟩=some (.int .i64 b.fw)∧w1.cell? ⟨w.heap.size,19,none⟩=some (.int .i64 b.tm)∧w1.cell? ⟨w.heap.size,36,none⟩=some (.string ⟨b.mo.toArray⟩):=by
  intro w1 h;rw[hW0] at h;exact⟨(gi _ _ _ h 37).trans (iU b u),(gi _ _ _ h 16).trans (uj b u),(gi _ _ _ h 17).trans (sy b u),(gi _ _ _ h 18).trans (ul b u),(gi _ _ _ h 19).trans (um b u),(gi _ _ _ h 36).trans (uo b u)⟩
 have hbe:∀w1,Below W0.heap.size W0 w1→Below w.heap.size w w1:=by
  intro w1 h;rw[hW0] at h;exact cJ _ _ h
 have hsz:w.heap.size<W0.heap.size:=by rw[hW0];simp
 have HV:=O hvw;have HBX:=O hbx;have HBE:=O hbe;have HW:=O hW0;have HWF:=O hwf
 have hve:aI b l=(eY b l && (List.range l.length).all (okB l)):=by unfold aI;rfl
 rw[hve];have HT0:=O (fun i hi h=>uf l i hi h);have HT1:=O (wN l);have HHC:=O (VR b l)
 have mw:IntKind.i64.wrap ((b.mo.length:Int)-1)=(b.mo.length:Int)-1:=by rw[IntKind.wrap_i64];omega
 have HE1:Hid ([b.ep,b.num,b.fw].all (fun n=>win n 0 2147483647)=r1 b):=O (by unfold r1;rfl);have HE2:Hid ([b.tm].all (fun n=>win n 0 1099511627776)=r2 b):=O (by unfold r2;rfl);have HE3:Hid ([(b.mo.length:Int)-1].all (fun n=>win n 0 11)=r3 b):=O (by unfold r3;rfl);obtain⟨a,cap,rfl,_,_,_⟩:=hv;clear hW0 hvw hbx hbe hve hwf
 go_enter func76,ntmps76
 go_wp2
 go_loopw [3,9] (fun la o wr=>∃i:Nat,i≤l.length∧o = .int .i64 i∧la = .int .i64 (cv l i)∧Hid (∀j,j<i→okB l j=true)∧Below W0.heap.size W0 wr) (fun _ o _=>l.length-(intOf o).toNat)
 case atStart=>exact⟨0,N_ _,rfl,by rw[gR],O (fun j hj=>absurd hj (by omega)),by rw[←HW.out];exact O_ _ _⟩
 case round =>
  obtain⟨i,hi,rfl,rfl,hno,hb⟩:=hrel;obtain⟨t1,t16,t17,t18,t19,t36⟩:=HBX.out wr hb;have hbs:=hb.size
  have z0:w.heap.size<wr.heap.size:=by omega
  have z0':w.heap.size≠wr.heap.size:=by omega
  by_cases hlt:i<l.length
  ·obtain⟨bb,off,rfl,hbl,aO⟩:=((HV.out.on hb).cells) (by omega)
   obtain⟨d0,d1,d2,d3,d4,d5,d6,d7,d8⟩:=aO i hlt
   have i1:(i:Int)<l.length:=by omega
   have HK:=O hlt;have HNO:=hno;have HB:=O hb;have hval:=Ac (ae l i) (HWF.out i hlt) (wr.alloc (.cells (kc (ae l i)) 86))
   have hbx2:∀w1,Below (wr.alloc (.cells (kc (ae l i)) 86)).heap.size (wr.alloc (.cells (kc (ae l i)) 86)) w1 →
     w1.cell? ⟨wr.heap.size,0,none⟩=some (.int .i64 (ae l i).id)∧Below W0.heap.size W0 w1:=by
    intro w1 h;exact⟨gi _ _ _ h 0,HB.out.trans ((cJ _ _ h).mono hbs)⟩
   unfold kv at hval;unfold kc at hval hbx2;have HLS:=O (gQ l i);have HX2:=O hbx2;clear aO hb hno hbx2
   rcases BA l i with⟨ho,h1⟩|⟨ho,h1,h2⟩|⟨ho,h1,h2,h3⟩|⟨ho,h1,h2,h3⟩
   case inr.inr.inr =>
    rw[h1] at hval;have HVAL:=O hval;have HO:=O ho;clear hval h1 ho
    go_wp2_with (go_at_call 104;refine HVAL.out.mono ?_;rintro e w1 ⟨rfl,hb'⟩;obtain⟨e0,hbb⟩:=HX2.out _ hb';clear hb')
    go_roundw
    case rel=>exact⟨i+1,HK.out,by go_num,by rw[HLS.out],O (fun j hj=>by
     by_cases e:j=i
     ·subst e;exact HO.out
     ·exact HNO.out j (by omega)),hbb⟩
    case measure=>have := HK.out;simp[intOf];omega
   all_goals
    have HRES:=O (HT0.out i HK.out ho);rw[h1] at hval;have HVAL:=O hval;clear hval h1 ho
    go_wp2_with (go_at_call 104;refine HVAL.out.mono ?_;rintro e w1 ⟨rfl,hb'⟩;obtain⟨e0,hbb⟩:=HX2.out _ hb';clear hb')
    go_ret;exact⟨by rw[HRES.out,Bool.and_false];rfl,HBE.out _ hbb⟩
  ·have he:i=l.length:=by omega
   have i1:(l.length:Int)≤i:=by omega
   have HRES:=O (HT1.out (fun j hj=>hno.out j (by omega)));have HB:=hb;have tok2:True:=trivial;clear hno he
   rcases HHC.out with⟨hh,f1,f2,f3,f4⟩|⟨hh,f1⟩|⟨hh,f1,f2⟩|⟨hh,f1,f2,f3⟩|⟨hh,f1,f2,f3,f4⟩
   all_goals
    have HH:=O hh;clear hh
    go_wp2_with (first
     |(go_at_call 117;refine(rl _ _ _ _ (bi3 _ _ _ _)).mono ?_;rw[HE1.out];rintro e w1 ⟨rfl,hb'⟩;replace HB:=HB.trans ((cJ _ _ hb').mono HB.size);obtain⟨t1,t16,t17,t18,t19,t36⟩:=HBX.out _ HB;clear hb')
     |(go_at_call 117;clear tok2;refine(rl _ _ _ _ (bi1 _ _)).mono ?_;rw[HE2.out];rintro e w2 ⟨rfl,hb'⟩;replace HB:=HB.trans ((cJ _ _ hb').mono HB.size);obtain⟨t1,t16,t17,t18,t19,t36⟩:=HBX.out _ HB;clear hb')
     |(go_at_call 117;refine(rl _ _ _ _ (bi1 _ _)).mono ?_;rw[HE3.out];rintro e w3 ⟨rfl,hb'⟩;replace HB:=HB.trans ((cJ _ _ hb').mono HB.size);obtain⟨t1,t16,t17,t18,t19,t36⟩:=HBX.out _ HB;clear hb'))
    go_ret;exact⟨by rw[HRES.out,Bool.and_true,HH.out];first |rfl|exact BZ (V_ (by omega))|exact BZ (decide_eq_true (by omega)),HBE.out _ HB⟩
end
section
open Go.RowKit Go.Shelf
def am (d:List UInt8):Array Value := #[aq d 0,aq d 1,aq d 2,aq d 3,aq d 4,aq d 5,aq d 6,aq d 7,aq d 8,aq d 9,aq d 10,aq d 11,aq d 12,aq d 13,aq d 14,aq d 15]
def dEq (x y:List UInt8):Bool:=(List.range 16).all fun i=>byteAt x i == byteAt y i
theorem K1 (d:List UInt8) (i:Nat) (hi:i<16) (w:World):(part 5 (am d) (i*1)).run prog w = .ok (aq d i) w:=by
 have e:am d=((List.range 16).map (aq d)).toArray:=rfl
 have h:(am d)[i]?=some (aq d i):=by rw[e];simp[hi]
 rw[Nat.mul_one]
 simp[part,go_sem,h]
theorem YB (d:Nat) (x y:List UInt8) (w:World):∀(is:List Nat),(∀i∈is,i<16)→(Op.eqItems (d+1) 5 1 (am x) (am y) is).run prog w = .ok (is.all fun i=>byteAt x i == byteAt y i) w:=by
 intro is
 induction is with
 | nil=>intro _;rfl
 | cons i is ih =>
   intro h;have h1:=K1 x i (h i (by simp)) w;have h2:=K1 y i (h i (by simp)) w;have h3:(Op.equalIn (d+1) 5 (aq x i) (aq y i)).run prog w = .ok (B8 (byteAt x i) == B8 (byteAt y i)) w:=run_equalIn_int w d _ _ _ _ _ underlying5
   have h4:(B8 (byteAt x i) == B8 (byteAt y i))=(byteAt x i == byteAt y i):=by
    by_cases e:byteAt x i=byteAt y i
    ·rw[e];simp
    ·rw[U_.2 e,U_]
     exact fun e2=>e (pJ e2)
   simp only[Op.eqItems,Sem.run_bind,h1,h2,h3,Result.andThen_ok,h4,List.all_cons]
   cases byteAt x i == byteAt y i with
   | true=>simpa using ih (fun j hj=>h j (by simp[hj]))
   | false=>rfl
theorem nL (d:Nat) (x y:List UInt8) (w:World):(Op.equalIn (d+2) 23 (.agg (am x)) (.agg (am y))).run prog w = .ok (dEq x y) w:=by
 obtain⟨i0,hi⟩:∃i,prog.info? 5=some i:=Option.isSome_iff_exists.1 (by kernel_rfl);rw[show d+2=(d+1)+1 from rfl,run_equalIn_array w (d+1) (am x) (am y) underlying23 hi]
 have hc:prog.cellsOf 5=1:=by kernel_rfl
 rw[hc];exact YB d x y w (List.range 16) (fun i hi=>List.mem_range.1 hi)
theorem sO (x y:List UInt8) (w:World):(binOp .neq 23 (.agg (am x)) (.agg (am y))).run prog w = .ok (.bool (!dEq x y)) w:=by
 rw[run_neq_struct];rw[show (10000:Nat)=9998+2 from rfl,nL 9998 x y]
 rfl
open Go.RowKit Go.Shelf
theorem dU:(prog.info? 47).map (·.size)=some 38:=by kernel_rfl
theorem cC:(prog.info? 23).map (·.size)=some 16:=by kernel_rfl
theorem cH {ops:Array Oper} {rest:List Oper} {o:Oper} {a:Act} {w:World} {Q:Exit→Act→World→Prop} (b:BK) (u:Value)
  (hgd:Region.wanted o (yielded ops a.tmps)=true) (x:Operand) (ho:o.op = .load 47 x)
  (g:Nat) (hx:a.eval x = .pointer (some ⟨g,0,none⟩)) (T':TypeId) (hg:w.heap[g]?=some (.cells (bc b u) T' (0,0)))
  (h:wpList prog ops Q rest (a.put o.dst (.agg (bc b u))) w):wpList prog ops Q (o::rest) a w :=
 wpList_step fun K hK=>by
  rw[G_ hgd];exact wp_load_row _ x ho g hx _ (bc b u) (0,0) _ hg underlying47 rfl (by rw[aC];exact dU) (hK _ _ h)
theorem Dh {ops:Array Oper} {rest:List Oper} {o:Oper} {a:Act} {w:World} {Q:Exit→Act→World→Prop} (d:List UInt8) (g off:Nat) (hc:w.rangeAt g off (am d).toList)
  (hgd:Region.wanted o (yielded ops a.tmps)=true) (x:Operand) (ho:o.op = .load 23 x) (hx:a.eval x = .pointer (some ⟨g,off,none⟩))
  (h:wpList prog ops Q rest (a.put o.dst (.agg (am d))) w):wpList prog ops Q (o::rest) a w :=
 wpList_step fun K hK=>by
  rw[G_ hgd];exact wp_load_mid _ x ho g off hx (am d).toList _ hc underlying23 rfl cC (hK _ _ h)
attribute [local semireducible] bc
attribute [local irreducible] bc am Calls aI dEq
end
section
namespace C3
theorem dt (key:List UInt8) (ctr:UInt32) (nonce text:List UInt8) (i:Nat) (h:i<text.length):byteAt (xorText key ctr nonce text) i=xorAt key ctr nonce text i:=by
 unfold byteAt xorText;rw[I_,List.getElem?_map,List.getElem?_range h]
 rfl
theorem uT {s t:List UInt8} (hl:s.length=t.length) (h:∀i,i<s.length→byteAt s i=byteAt t i):s=t:=by
 apply List.ext_getElem hl
 intro i h1 h2;have := h i h1
 simpa [byteAt,I_,K_ h1,K_ h2] using this
theorem ro (a b:UInt8):a ^^^ b ^^^ b=a:=by rw[UInt8.xor_assoc,UInt8.xor_self,UInt8.xor_zero]
theorem xorText_twice (key:List UInt8) (ctr:UInt32) (nonce text:List UInt8):xorText key ctr nonce (xorText key ctr nonce text)=text:=by
 refine uT (by rw[length_xorText,length_xorText]) (fun i hi => ?_);rw[length_xorText,length_xorText] at hi;rw[dt _ _ _ _ _ (by rw[length_xorText];exact hi),xorAt,dt _ _ _ _ _ hi,xorAt,ro]
end C3
end
section
open Go.RowKit Go.Shelf
def dV:List K→List Value
 | []=>[]
 | k::l=>(kc k).toList++dV l
theorem mZ (k:K):(kc k).toList.length=9:=rfl
theorem k8 (l:List K):(dV l).length=l.length*9:=by
 induction l with
 | nil=>rfl
 | cons k l ih=>rw[dV,E_,mZ,ih,Z_];omega
theorem lS (l m:List K):dV (l++m)=dV l++dV m:=by
 induction l with
 | nil=>rfl
 | cons k l ih=>rw[List.cons_append,dV,dV,ih,R_]
theorem vf (l:List K) (j i:Nat) (hj:j<l.length) (hi:i<9):(dV l)[j*9+i]? = (kc (ae l j))[i]? := by
 induction l generalizing j with
 | nil=>simp at hj
 | cons k l ih =>
   cases j with
   | zero =>
     rw[dV,Nat.zero_mul,a_,List.getElem?_append_left (by rw[mZ];exact hi),Array.getElem?_toList]
     rfl
   | succ j =>
     have hj':j<l.length:=by simpa using hj
     rw[dV,List.getElem?_append_right (by rw[mZ];omega),mZ,show (j+1)*9+i-9=j*9+i by omega,ih j hj'];rw[az _ _ hj',az _ _ hj]
     rfl
theorem rH (l:List K):∀u∈dV l,u.oneCell'=true:=by
 induction l with
 | nil=>intro u hu;simp[dV] at hu
 | cons k l ih =>
   intro u hu;rw[dV,List.mem_append] at hu
   rcases hu with hu|hu
   ·simp[kc] at hu
    rcases hu with rfl|rfl|rfl|rfl|rfl|rfl|rfl|rfl|rfl <;> rfl
   ·exact ih u hu
theorem RdK.flat {w:World} {a:Option Addr} {n cap:Nat} {l:List K} (h:RdK w (.slice a n cap) l):∀b,a=some b→∀j u,(dV l)[j]?=some u→w.cell? (b.add j)=some u:=by
 obtain⟨a',c',e,_,_,h3⟩:=h
 cases e
 intro b hb j u hu
 have hj:j<l.length*9:=by
  have := (d_.1 hu).1
  rwa [k8] at this
 obtain⟨b0,off,e,_,hc⟩:=h3 (by omega);rw[hb] at e
 cases e
 have gX:(⟨b0,off,none⟩:Addr).add j=⟨b0,off+j,none⟩:=by unfold Addr.add;split <;> simp_all
 have e2:j=(j / 9)*9+j % 9:=by omega
 rw[gX];have := hc (j / 9) (by omega) (j % 9) (by omega);rw[show off+j / 9*9+j % 9=off+j by omega,←vf l (j / 9) (j % 9) (by omega) (by omega),←e2,hu] at this;exact this
theorem O6 {w:World} {ai:Nat} {v:Value} {l:List K} {n:Nat} (hn:n=l.length) (h:w.ownsRow ai 86 9 v n (dV l)):RdK w v l:=by
 subst hn
 rcases h.2 with⟨rfl,h0⟩|⟨g,cap,cur,rfl,hb,hg,h1,h2,h3,h4⟩
 ·have : l=[]:=List.length_eq_zero_iff.1 h0
  subst this;exact RdK.nil w
 ·refine⟨_,cap,rfl,h1,h2,fun h0=>⟨g,0,rfl,(Q_.1 hg).1,fun j hj i hi => ?_⟩⟩
  rw[a_,e_ _ _ _ _ _ _ hg,←vf l j i hj hi,←h4,List.getElem?_take,G_ (by omega),Array.getElem?_toList]
theorem RZ (a:Option Addr) (n cap:Nat) (w:World) (h1:n≤cap) (h2:cap≤maxLen):Calls prog 105 #[.slice a n cap] w fun e w'=>e = .returned (.slice a n n)∧w'=w:=by
 unfold maxLen at h2
 have i1:(n:Int)≤cap:=by omega
 have i2:(0:Int)≤n:=by omega
 go_enter func105,ntmps105
 go_wp2;go_ret;exact⟨rfl,rfl⟩
open Go.RowKit
variable {P:Program}
def Bx (l:List Oper):Bool:=l.all fun o=>match o.op with | .defer _=>false|_=>true
theorem vu {l:List Oper} (h:Bx l=true):∀o∈l,∀c,o.op ≠ .defer c:=by
 intro o ho c hc;have := List.all_eq_true.1 h o ho;rw[hc] at this
 cases this
theorem B4 {l n:Nat} {row:String} {args:Array Value} {w:World} {R:Value→World→Prop} (h:Rows P row args w R):RowsIn (Fence.wide.inRound l) n P row args w R:=by
 intro c cs _;obtain⟨v,w',r,s⟩:=h c cs;exact⟨v,w',r,stepsIn_wide.2 s⟩
theorem Fb {l n:Nat} {o:Oper} {a:Act} {w:World} {K:Act→World→Prop} {Q:Exit→Act→World→Prop} (hd:∀c,o.op ≠ .defer c) (hQ:¬LetsOut Q)
  (h:o.wp P a w K Q∨(o.asks P a w∧LetsOut Q)):o.wpIn (Fence.wide.inRound l) n P a w K Q:=by
 rcases h with h|h
 ·refine⟨fun _ _=>trivial,?_⟩
  rw[show (Fence.wide.inRound l).round=some l from rfl,Oper.semAt_some l a.eval o hd];unfold Oper.wp at h;generalize (execOp a.eval o).run P w=r at h ⊢
  cases r with
  | ok x w' =>
    cases x with
    | value v=>exact h
    | skip=>exact h
    | defer d=>exact h
    | enter f args=>exact⟨(fun hh=>by cases hh),CallsIn.inRound l (callsIn_wide.2 h)⟩
    | row row args=>exact⟨(fun hh=>by cases hh),B4 h⟩
    | _=>exact h.elim
  | halt x w'=>cases x <;> exact h
 ·exact absurd h.2 hQ
theorem rI {l0 n:Nat} {ops:Array Oper} {Q:Exit→Act→World→Prop} (hQ:¬LetsOut Q):∀(l:List Oper) (a:Act) (w:World),(∀o∈l,∀c,o.op ≠ .defer c)→wpList P ops Q l a w→wpListIn (Fence.wide.inRound l0) n P ops Q l a w
 | [],_,_,_,h=>h
 | o :: rest, a, w, hd, h => by
   unfold wpList at h;unfold wpListIn
   split
   ·rename_i hw
    rw[G_ hw] at h;exact Oper.wpIn_mono (fun a w h=>rI hQ rest a w (fun o ho=>hd o (List.mem_cons_of_mem _ ho)) h) (Fb (hd o (List.mem_cons_self ..)) hQ h)
   ·rename_i hw
    rw[H_ hw] at h;exact⟨fun _ _=>trivial,rI hQ rest _ w (fun o ho=>hd o (List.mem_cons_of_mem _ ho)) h⟩
theorem vE {l0 n id:Nat} {l:List Oper} {a:Act} {w:World} {Q:Exit→Act→World→Prop} (hQ:¬LetsOut Q) (hd:Bx l=true) (h:wpList P l.toArray Q l a w):(Code.region id l.toArray false).wpIn (Fence.wide.inRound l0) n P Q a w :=
 wpIn_region_lit (rI hQ l a w (vu hd) h)
theorem pU {l0 n:Nat} {md:Region.Mode} {l:List Oper} {Q:Exit→Act→World→Prop} (hQ:¬LetsOut Q) (hd:Bx l=true):∀(f:Nat) (m:Array Bool) (a:Act) (w:World),wpAny P md l.toArray Q f m a w→wpAnyIn (Fence.wide.inRound l0) n P md l.toArray Q f m a w
 | 0,_,_,_,h=>h
 | f + 1, m, a, w, h => by
   refine⟨h.1,fun i hi => ?_⟩;have h1:=h.2 i hi;unfold wpOp at h1;unfold wpOpIn
   split
   ·rename_i ho
    simp only[ho] at h1;exact pU hQ hd f _ _ _ h1
   ·rename_i o ho
    simp only[ho] at h1
    have hm:o∈l:=by
     have h2:l[i]?=some o:=by simpa using ho
     exact List.mem_of_getElem? h2
    split
    ·rename_i hw
     rw[G_ hw] at h1;exact Oper.wpIn_mono (fun a w h=>pU hQ hd f _ a w h) (Fb (vu hd o hm) hQ h1)
    ·rename_i hw
     rw[H_ hw] at h1;exact⟨fun _ _=>trivial,pU hQ hd f _ _ _ h1⟩
theorem BV {Q:Exit→Act→World→Prop} {a:Act} {w:World} {l:List Oper} (n:Nat) (ds:List (List Nat)) (R:Nat→SP) (vals0:Nat→Value) (hB:vF l.toArray n ds=true)
  (ha:a=ay a vals0 0 (l.take n)) (hput:nk (fun vals=>ay a vals 0 (l.take n)) 0 (l.take n))
  (hobs:rR P l.toArray w.heap.size w (fun vals=>ay a vals 0 (l.take n)) R ds 0 (l.take n))
  (hfin:∀w',Below w.heap.size w w'→∀vals,given R w' (fun vals=>wpList P l.toArray Q (l.drop n) (ay a vals 0 (l.take n)) w') (List.range n) vals) :
  wpAny P .any l.toArray Q l.toArray.size (Array.replicate l.toArray.size false) a w.drew:=by
 have hn:n≤l.length:=by
  have h:=hB;simp only[vF,T_,decide_eq_true_eq] at h
  simpa using h.1.1.1.1
 have inv:HeadInv .any l.toArray n (Array.replicate l.toArray.size false) :=
  ⟨by simp,fun j oj _ hl=>absurd hl (by rw[getD_replicate_false];exact Bool.false_ne_true),fun t _ h2=>getD_in (by simpa using h2) (getD_replicate_false _ _)⟩
 have hu:fP (Array.replicate l.toArray.size false) n=n:=by
  unfold fP;rw[List.filter_eq_self.2 (fun i _=>by rw[getD_replicate_false];rfl),List.length_range]
 have := yg (P:=P) (Q:=Q) (w0:=w) (R:=R) hB hput hobs hfin (A_ _) n _ vals0 w.drew inv hu ((O_ _ _).drew) (fun i _ h=>by rw[getD_replicate_false] at h;cases h);rw[show n+(l.length-n)=l.toArray.size by simp;omega] at this;rw[ha];exact this
theorem qN {l0 k:Nat} {id:Nat} {Q:Exit→Act→World→Prop} {a:Act} {w:World} {l:List Oper} (n:Nat) (ds:List (List Nat)) (R:Nat→SP) (vals0:Nat→Value) (hQ:¬LetsOut Q) (hd:Bx l=true) (hm:P.follows .mixedOrders=true) (hB:vF l.toArray n ds=true)
  (ha:a=ay a vals0 0 (l.take n)) (hput:nk (fun vals=>ay a vals 0 (l.take n)) 0 (l.take n))
  (hobs:rR P l.toArray w.heap.size w (fun vals=>ay a vals 0 (l.take n)) R ds 0 (l.take n))
  (hfin:∀w',Below w.heap.size w w'→∀vals,given R w' (fun vals=>wpList P l.toArray Q (l.drop n) (ay a vals 0 (l.take n)) w') (List.range n) vals):(Code.region id l.toArray true).wpIn (Fence.wide.inRound l0) k P Q a w :=
 wpIn_region_any hm (pU hQ hd _ _ _ _ (BV n ds R vals0 hB ha hput hobs hfin))
theorem zz {n:Nat} {row:String} {args:Array Value} {w:World} {R:Value→World→Prop} (h:Rows P row args w R):RowsIn Fence.wide n P row args w R:=by
 intro c cs _;obtain⟨v,w',r,s⟩:=h c cs;exact⟨v,w',r,stepsIn_wide.2 s⟩
theorem Tb {n:Nat} {o:Oper} {a:Act} {w:World} {K:Act→World→Prop} {Q:Exit→Act→World→Prop} (hd:∀c,o.op ≠ .defer c) (hQ:¬LetsOut Q)
  (h:o.wp P a w K Q∨(o.asks P a w∧LetsOut Q)):o.wpIn Fence.wide n P a w K Q:=by
 rcases h with h|h
 ·refine⟨fun _ _=>trivial,?_⟩
  rw[show Fence.wide.round=none from rfl,Oper.semAt_none];unfold Oper.wp at h;generalize (execOp a.eval o).run P w=r at h ⊢
  cases r with
  | ok x w' =>
    cases x with
    | value v=>exact h
    | skip=>exact h
    | defer d=>exact h
    | enter f args=>exact⟨(fun hh=>by cases hh),callsIn_wide.2 h⟩
    | row row args=>exact⟨(fun hh=>by cases hh),zz h⟩
    | _=>exact h.elim
  | halt x w'=>cases x <;> exact h
 ·exact absurd h.2 hQ
theorem py {n:Nat} {ops:Array Oper} {Q:Exit→Act→World→Prop} (hQ:¬LetsOut Q) (rest:List Oper):∀(pre:List Oper) (a:Act) (w:World),(∀o∈pre,∀c,o.op ≠ .defer c)→wpList P ops (Exit.then (wpListIn Fence.wide n P ops Q rest) Q) pre a w→wpListIn Fence.wide n P ops Q (pre++rest) a w
 | [],_,_,_,h=>h
 | o :: pre, a, w, hd, h => by
   have hQ2:¬LetsOut (Exit.then (wpListIn Fence.wide n P ops Q rest) Q):=fun ⟨a,w,hx⟩=>hQ ⟨a,w,hx⟩;unfold wpList at h;rw[List.cons_append];unfold wpListIn
   split
   ·rename_i hw
    rw[G_ hw] at h;have h1:=Tb (n:=n) (hd o (List.mem_cons_self ..)) hQ2 h;have h2:=Oper.wpIn_mono (fun a w h=>py hQ rest pre a w (fun o ho=>hd o (List.mem_cons_of_mem _ ho)) h) h1;unfold Oper.wpIn at h2 ⊢;refine⟨h2.1,?_⟩;have h3:=h2.2;generalize (o.semAt Fence.wide.round a.eval).run P w=r at h3 ⊢
    cases r with
    | ok x w' =>
      cases x with
      | enter f args=>exact⟨h3.1,CallsIn.mono h3.2 (fun e w he=>by cases e <;> exact he)⟩
      | round l f tmps assign body=>exact⟨h3.1,RoundIn.mono h3.2 (fun e w he=>by cases e <;> exact he)⟩
      | _=>exact h3
    | halt x w'=>cases x <;> exact h3
   ·rename_i hw
    rw[H_ hw] at h;exact⟨fun _ _=>trivial,py hQ rest pre _ w (fun o ho=>hd o (List.mem_cons_of_mem _ ho)) h⟩
theorem He {n id:Nat} (k:Nat) {l:List Oper} {a:Act} {w:World} {Q:Exit→Act→World→Prop} (hQ:¬LetsOut Q) (hd:Bx (l.take k)=true) (h:wpList P l.toArray (Exit.then (wpListIn Fence.wide n P l.toArray Q (l.drop k)) Q) (l.take k) a w):(Code.region id l.toArray false).wpIn Fence.wide n P Q a w :=
 wpIn_region_lit (by
  have h1:=py hQ (l.drop k) (l.take k) a w (vu hd) h
  rwa [List.take_append_drop] at h1)
theorem kK {F:Fence} {n:Nat} {x y:Code} {Q:Exit→Act→World→Prop} {a:Act} {w:World} (hQ:¬LetsOut Q) (h:∀(K:Act→World→Prop) (Q':Exit→Act→World→Prop),¬LetsOut (Exit.then K Q')→Hid (∀a w,y.wpIn F n P Q a w→K a w)→x.wpIn F n P (Exit.then K Q') a w):(Code.seq x y).wpIn F n P Q a w :=
 wpIn_seq (h _ Q (fun ⟨a,w,hx⟩=>hQ ⟨a,w,hx⟩) (O fun _ _ h=>h))
end
end Go.Proofs.YtmfiaadjdbemnaaGreatDoor
