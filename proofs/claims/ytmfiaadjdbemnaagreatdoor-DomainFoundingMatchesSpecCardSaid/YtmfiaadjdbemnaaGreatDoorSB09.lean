/- Contracts and lemmas. No condition. -/
import Derived.Test.YtmfiaadjdbemnaaGreatDoorSB04
set_option maxRecDepth 100000
set_option maxHeartbeats 8000000
namespace Go.Proofs.YtmfiaadjdbemnaaGreatDoor
section
open Go.RowKit Go.Shelf
structure BK where
 dom:List UInt8
 ep:Int
 num:Int
 fw:Int
 tm:Int
 pol:List UInt8
 mo:List UInt8
def aq (d:List UInt8) (i:Nat):Value := .int .u8 (B8 (byteAt d i))
def bc (b:BK) (v:Value):Array Value := #[aq b.dom 0,aq b.dom 1,aq b.dom 2,aq b.dom 3,aq b.dom 4,aq b.dom 5,aq b.dom 6,aq b.dom 7,aq b.dom 8,aq b.dom 9,aq b.dom 10,aq b.dom 11,aq b.dom 12,aq b.dom 13,aq b.dom 14,aq b.dom 15,.int .i64 b.ep,.int .i64 b.num,.int .i64 b.fw,.int .i64 b.tm,aq b.pol 0,aq b.pol 1,aq b.pol 2,aq b.pol 3,aq b.pol 4,aq b.pol 5,aq b.pol 6,aq b.pol 7,aq b.pol 8,aq b.pol 9,aq b.pol 10,aq b.pol 11,aq b.pol 12,aq b.pol 13,aq b.pol 14,aq b.pol 15,.string ⟨b.mo.toArray⟩,v]
@[go_sem] theorem aC (b:BK) (v:Value):(bc b v).size=38:=rfl
@[go_sem] theorem Yh (b:BK) (v:Value):(bc b v)[0]?=some (aq b.dom 0):=rfl
@[go_sem] theorem Yi (b:BK) (v:Value):(bc b v)[1]?=some (aq b.dom 1):=rfl
@[go_sem] theorem Yj (b:BK) (v:Value):(bc b v)[2]?=some (aq b.dom 2):=rfl
@[go_sem] theorem Yl (b:BK) (v:Value):(bc b v)[3]?=some (aq b.dom 3):=rfl
@[go_sem] theorem Ym (b:BK) (v:Value):(bc b v)[4]?=some (aq b.dom 4):=rfl
@[go_sem] theorem Yn (b:BK) (v:Value):(bc b v)[5]?=some (aq b.dom 5):=rfl
@[go_sem] theorem Yo (b:BK) (v:Value):(bc b v)[6]?=some (aq b.dom 6):=rfl
@[go_sem] theorem Yp (b:BK) (v:Value):(bc b v)[7]?=some (aq b.dom 7):=rfl
@[go_sem] theorem Yq (b:BK) (v:Value):(bc b v)[8]?=some (aq b.dom 8):=rfl
@[go_sem] theorem Yr (b:BK) (v:Value):(bc b v)[9]?=some (aq b.dom 9):=rfl
@[go_sem] theorem U6 (b:BK) (v:Value):(bc b v)[10]?=some (aq b.dom 10):=rfl
@[go_sem] theorem U7 (b:BK) (v:Value):(bc b v)[11]?=some (aq b.dom 11):=rfl
@[go_sem] theorem U8 (b:BK) (v:Value):(bc b v)[12]?=some (aq b.dom 12):=rfl
@[go_sem] theorem U9 (b:BK) (v:Value):(bc b v)[13]?=some (aq b.dom 13):=rfl
@[go_sem] theorem Va (b:BK) (v:Value):(bc b v)[14]?=some (aq b.dom 14):=rfl
@[go_sem] theorem Vb (b:BK) (v:Value):(bc b v)[15]?=some (aq b.dom 15):=rfl
@[go_sem] theorem uj (b:BK) (v:Value):(bc b v)[16]?=some (.int .i64 b.ep):=rfl
@[go_sem] theorem sy (b:BK) (v:Value):(bc b v)[17]?=some (.int .i64 b.num):=rfl
@[go_sem] theorem ul (b:BK) (v:Value):(bc b v)[18]?=some (.int .i64 b.fw):=rfl
@[go_sem] theorem um (b:BK) (v:Value):(bc b v)[19]?=some (.int .i64 b.tm):=rfl
@[go_sem] theorem Vc (b:BK) (v:Value):(bc b v)[20]?=some (aq b.pol 0):=rfl
@[go_sem] theorem Vd (b:BK) (v:Value):(bc b v)[21]?=some (aq b.pol 1):=rfl
@[go_sem] theorem Ve (b:BK) (v:Value):(bc b v)[22]?=some (aq b.pol 2):=rfl
@[go_sem] theorem Vf (b:BK) (v:Value):(bc b v)[23]?=some (aq b.pol 3):=rfl
@[go_sem] theorem Vg (b:BK) (v:Value):(bc b v)[24]?=some (aq b.pol 4):=rfl
@[go_sem] theorem Vh (b:BK) (v:Value):(bc b v)[25]?=some (aq b.pol 5):=rfl
@[go_sem] theorem Vi (b:BK) (v:Value):(bc b v)[26]?=some (aq b.pol 6):=rfl
@[go_sem] theorem Vj (b:BK) (v:Value):(bc b v)[27]?=some (aq b.pol 7):=rfl
@[go_sem] theorem Vk (b:BK) (v:Value):(bc b v)[28]?=some (aq b.pol 8):=rfl
@[go_sem] theorem Vl (b:BK) (v:Value):(bc b v)[29]?=some (aq b.pol 9):=rfl
@[go_sem] theorem Vm (b:BK) (v:Value):(bc b v)[30]?=some (aq b.pol 10):=rfl
@[go_sem] theorem Vn (b:BK) (v:Value):(bc b v)[31]?=some (aq b.pol 11):=rfl
@[go_sem] theorem Vo (b:BK) (v:Value):(bc b v)[32]?=some (aq b.pol 12):=rfl
@[go_sem] theorem Vp (b:BK) (v:Value):(bc b v)[33]?=some (aq b.pol 13):=rfl
@[go_sem] theorem Vq (b:BK) (v:Value):(bc b v)[34]?=some (aq b.pol 14):=rfl
@[go_sem] theorem Vr (b:BK) (v:Value):(bc b v)[35]?=some (aq b.pol 15):=rfl
@[go_sem] theorem uo (b:BK) (v:Value):(bc b v)[36]?=some (.string ⟨b.mo.toArray⟩):=rfl
@[go_sem] theorem iU (b:BK) (v:Value):(bc b v)[37]?=some v:=rfl
attribute [irreducible] bc
theorem Kk (w:World) (A B C:Obj):(((w.alloc A).alloc B).alloc C).heap[w.heap.size+2]?=some C:=by
 have h:=heap_alloc_new ((w.alloc A).alloc B) C;rw[World.size_alloc,World.size_alloc] at h;exact h
theorem qC (w:World) (A B C:Obj) {w1:World} (h:Below (((w.alloc A).alloc B).alloc C).heap.size (((w.alloc A).alloc B).alloc C) w1):Below w.heap.size w w1 :=
 (((Oo _ _).alloc (Nat.le_refl _) A).alloc (by simp) B).trans ((cJ _ _ h).mono (by simp;omega))
attribute [local irreducible] Calls
end
section
open Go.RowKit Go.Shelf
theorem Ek (w:World) (A:Obj) (cs:Array Value) (T:TypeId) {w1:World} (h:Below ((w.alloc A).alloc (.cells cs T)).heap.size ((w.alloc A).alloc (.cells cs T)) w1) (j:Nat):w1.cell? ⟨w.heap.size+1,j,none⟩=cs[j]? := by
 have := gi (w.alloc A) cs T h j
 rwa [World.size_alloc] at this
attribute [local irreducible] Calls
end
section
open Go.RowKit Go.Shelf
def cv (l:List K) (i:Nat):Int:=if i=0 then 0 else (ae l (i-1)).id
theorem gR (l:List K):cv l 0=0:=rfl
theorem gQ (l:List K) (i:Nat):cv l (i+1)=(ae l i).id:=rfl
def oE (nx:Int) (l:List K) (i:Nat):Bool:=bf (ae l i) && decide (cv l i<(ae l i).id) && decide ((ae l i).id<nx) && decide ((ae l i).par<nx)
def aP (nx:Int) (l:List K):Bool:=decide (l.length≤4096) && win nx 1 2147483647 && (List.range l.length).all (oE nx l)
attribute [local irreducible] Calls aP oE bf cv win
end
section
open Go.RowKit Go.Shelf
def jQ (l:List Int) (j:Nat):Int:=l.getD j 0
theorem k7 (l:List Int) (j:Nat) (h:j<l.length):jQ l j=l[j]:=by simp[jQ,h]
def RdI (w:World) (v:Value) (l:List Int):Prop :=
 ∃ a cap, v = .slice a l.length cap ∧ l.length ≤ cap ∧ cap ≤ maxLen ∧
   (0<l.length→∃b off,a=some ⟨b,off,none⟩∧b<w.heap.size∧∀i,i<l.length→w.cell? ⟨b,off+i,none⟩=some (.int .i64 (jQ l i)))
theorem RdI.keep {w w':World} {v:Value} {l:List Int} {B:Nat} (h:RdI w v l) (hb:Below B w w') (hB:w.heap.size≤B):RdI w' v l:=by
 obtain⟨a,cap,rfl,h1,h2,h3⟩:=h;refine⟨a,cap,rfl,h1,h2,fun h0 => ?_⟩;obtain⟨b,off,rfl,hlt,hc⟩:=h3 h0;refine⟨b,off,rfl,Nat.lt_of_lt_of_le hlt hb.size,fun i hi => ?_⟩;rw[hb.cell (p:=⟨b,off+i,none⟩) (Nat.lt_of_lt_of_le hlt hB)];exact hc i hi
theorem RdI.on {w w':World} {v:Value} {l:List Int} (h:RdI w v l) (hb:Below w.heap.size w w'):RdI w' v l:=h.keep hb (Nat.le_refl _)
theorem RdI.alloc {w:World} {v:Value} {l:List Int} (h:RdI w v l) (X:Obj):RdI (w.alloc X) v l:=h.on ((Oo w.heap.size w).alloc (Nat.le_refl _) X)
theorem RdI.cells {w:World} {a:Option Addr} {n cap:Nat} {l:List Int} (h:RdI w (.slice a n cap) l):0<l.length→∃b off,a=some ⟨b,off,none⟩∧b<w.heap.size∧∀j,j<l.length→w.cell? ⟨b,off+j,none⟩=some (.int .i64 (jQ l j)):=by
 obtain⟨a',c',e,_,_,h3⟩:=h
 cases e
 exact h3
theorem RdI.len {w:World} {v:Value} {l:List Int} (h:RdI w v l):l.length≤maxLen:=by
 obtain⟨a,cap,rfl,h1,h2,h3⟩:=h
 omega
theorem Em (w:World) (l:List Int) (h:l.length≤1000):RdI (w.alloc (.cells (l.map (Value.int .i64)).toArray 3)) (.slice (some ⟨w.heap.size,0,none⟩) l.length l.length) l :=
 ⟨_,_,rfl,Nat.le_refl _,by unfold maxLen;omega,fun _=>⟨w.heap.size,0,rfl,by simp,fun i hi=>by
  rw[Nat.zero_add,cell_of_row _ _ _ _ _ _ (heap_alloc_new _ _)]
  simp[jQ,hi]⟩⟩
def oU (p:Int→Bool) (l:List Int):Int:=match l.findIdx? p with |some i=>(i:Int)|none => -1
theorem C0 (p:Int→Bool) (l:List Int) (k:Nat) (hk:k<l.length) (h:∀j,j<k→p (jQ l j)=false) (hp:p (jQ l k)=true):oU p l=k:=by
 have : l.findIdx? p=some k:=by
  rw[List.findIdx?_eq_some_iff_getElem];refine⟨hk,by rw[←k7 l k hk];exact hp,fun j hj => ?_⟩;have := h j hj;rw[k7 l j (by omega)] at this
  simpa using this
 rw[oU,this]
theorem AY (p:Int→Bool) (l:List Int) (h:∀j,j<l.length→p (jQ l j)=false):oU p l = -1:=by
 have : l.findIdx? p=none:=by
  rw[List.findIdx?_eq_none_iff];intro x hx;obtain⟨i,hi,rfl⟩:=List.mem_iff_getElem.1 hx;have := h i hi;rw[k7 l i hi] at this;exact this
 rw[oU,this]
theorem CZ (p:Int→Bool) (l:List Int):decide (0≤oU p l)=l.any p:=by
 unfold oU
 cases h:l.findIdx? p with
 | none =>
   rw[List.findIdx?_eq_none_iff] at h
   have : l.any p=false:=by
    rw[List.any_eq_false];intro x hx
    simpa using h x hx
   rw[this];rfl
 | some i =>
   rw[List.findIdx?_eq_some_iff_getElem] at h;obtain⟨hi,hp,_⟩:=h;have : l.any p=true:=List.any_eq_true.2 ⟨_,List.getElem_mem hi,hp⟩;rw[this]
   simp
def Ir (g:Nat) (lb:Array Value) (p:Int→Bool) (w:World):Prop :=
 ∀(W:World) (x:Int),Below w.heap.size w W→Calls Tryz.prog g (#[.int .i64 x]++lb) W fun e w'=>e = .returned (.bool (p x))∧Below w.heap.size w w'
attribute [local irreducible] Calls
theorem Bh (v:Value) (l:List Int) (g:Nat) (lb:Array Value) (p:Int→Bool) (w:World) (eg:∀args w,(callFunc g args).run Tryz.prog w = .ok (.enter g args) w) (hv:RdI w v l) (hp:Ir g lb p w) :
  Calls Tryz.prog 179 #[v,.func (.func g) #[] lb] w fun e w'=>e = .returned (.int .i64 (oU p l))∧Below w.heap.size w w':=by
 have hlen:=hv.len;unfold maxLen at hlen;have HV:=O hv;have HP:=O hp;obtain⟨a,cap,rfl,_,_,_⟩:=hv;clear hp
 go_enter Tryz.func179,Tryz.ntmps179
 go_wp2
 go_loopw [8] (fun o wr=>∃k:Nat,k≤l.length∧o = .int .i64 k∧Hid (∀j,j<k→p (jQ l j)=false)∧Below w.heap.size w wr) (fun o _=>l.length-(intOf o).toNat)
 case atStart=>exact⟨0,Nat.zero_le _,rfl,O (fun j hj=>absurd hj (by omega)),Oo _ _⟩
 case round =>
  obtain⟨k,hk,rfl,hno,hb⟩:=hrel
  by_cases hlt:k<l.length
  ·obtain⟨b,off,rfl,hbl,aO⟩:=((HV.out.on hb).cells) (by omega)
   have d0:=aO k hlt;have hcall:=HP.out wr (jQ l k) hb
   have i1:(k:Int)<l.length:=by omega
   have HK:=O hlt;have HX:Hid (∀j,j<k+1→j≠k→p (jQ l j)=false):=O (fun j hj hne=>hno.out j (by omega));have HH:=O (fun h=>C0 p l k hlt hno.out h);clear aO hno hb;generalize hy:jQ l k=y at d0 hcall HH;have HY:=O hy;clear hy
   cases hq:p y with
   | true =>
     rw[hq] at hcall;have r:=HH.out hq;have HC:=O hcall;clear hcall
     go_wp2_with (go_at_fn g;refine HC.out.mono ?_;rintro e w1 ⟨rfl,hb'⟩)
     go_ret;exact⟨by rw[r];rfl,hb'⟩
   | false =>
     rw[hq] at hcall;have HC:=O hcall;have HQ:=O hq;clear hcall hq
     go_wp2_with (go_at_fn g;refine HC.out.mono ?_;rintro e w1 ⟨rfl,hb'⟩)
     go_roundw
     case rel=>exact⟨k+1,HK.out,by go_num,O (fun j hj=>by
      by_cases e:j=k
      ·subst e;rw[HY.out];exact HQ.out
      ·exact HX.out j hj e),hb'⟩
     case measure=>have := HK.out;simp[intOf];omega
  ·have he:k=l.length:=by omega
   have i1:(l.length:Int)≤k:=by omega
   have hm:=AY p l (fun j hj=>hno.out j (by omega));have HM:=O hm;clear hm hno he;go_wp2;go_ret;exact⟨by rw[HM.out];rfl,hb⟩
theorem uB (v:Value) (l:List Int) (g:Nat) (lb:Array Value) (p:Int→Bool) (w:World) (eg:∀args w,(callFunc g args).run Tryz.prog w = .ok (.enter g args) w) (hv:RdI w v l) (hp:Ir g lb p w) :
  Calls Tryz.prog 164 #[v,.func (.func g) #[] lb] w fun e w'=>e = .returned (.bool (l.any p))∧Below w.heap.size w w':=by
 have hc:=Bh v l g lb p w eg hv hp;rw[←CZ];have HC:=O hc;clear hc hp
 go_enter Tryz.func164,Tryz.ntmps164
 go_wp2_with (go_at_call 179;refine HC.out.mono ?_;rintro e w1 ⟨rfl,hb⟩)
 go_ret;exact⟨rfl,hb⟩
theorem Yz:∀args w,(callFunc 165 args).run Tryz.prog w = .ok (.enter 165 args) w:=enters_of Tryz.func165 (by kernel_rfl) rfl
theorem Cp (most:Int) (C:Nat) (w:World) (hC:w.heap[C]?=some (.cells #[.int .i64 most] 3 (0,0))):Ir 165 #[.pointer (some ⟨C,0,none⟩)] (fun n => !win n 0 most) w:=fun W x hb=>by
 have zC:C<w.heap.size:=(Array.getElem?_eq_some_iff.1 hC).1
 have c0:W.cell? ⟨C,0,none⟩=some (.int .i64 most):=by rw[hb.cell (p:=⟨C,0,none⟩) zC];exact cell_of_row _ _ _ _ _ _ hC
 show Calls Tryz.prog 165 #[.int .i64 x,.pointer (some ⟨C,0,none⟩)] W _
 unfold win;simp only[]
 by_cases h1:x<0
 ·rw[decide_eq_false (by omega:¬0≤x)]
  go_enter Tryz.func165,Tryz.ntmps165
  go_wp2;go_ret;exact⟨rfl,hb⟩
 ·have h1':¬x<0:=h1
  rw[decide_eq_true (by omega:0≤x)]
  by_cases h2:most<x
  ·rw[decide_eq_false (by omega:¬x≤most)]
   go_enter Tryz.func165,Tryz.ntmps165
   go_wp2;go_ret;exact⟨rfl,hb⟩
  ·rw[decide_eq_true (by omega:x≤most)]
   go_enter Tryz.func165,Tryz.ntmps165
   go_wp2;go_ret;exact⟨rfl,hb⟩
theorem rl (most:Int) (v:Value) (l:List Int) (w:World) (hv:RdI w v l) :
  Calls Tryz.prog 117 #[.int .i64 most,v] w fun e w'=>e = .returned (.bool (l.all (fun n=>win n 0 most)))∧Below w.heap.size w w':=by
 have hmf:∀(fn:Fn) (first cap:Array Value) (w:World),(Instr.makeFunc fn first cap).run Tryz.prog w = .ok (.func fn first cap) w:=fun _ _ _ _=>rfl;have hc:=uB v l 165 #[.pointer (some ⟨w.heap.size,0,none⟩)] (fun n => !win n 0 most) (w.alloc (.cells #[.int .i64 most] 3)) Yz (hv.alloc _) (Cp most _ _ (heap_alloc_new _ _))
 have e:l.all (fun n=>win n 0 most) = !(l.any (fun n => !win n 0 most)):=by
  rw[List.all_eq_not_any_not]
 rw[e];generalize l.any (fun n => !win n 0 most)=r at hc ⊢;have HC:=O hc;clear hc e
 go_enter Tryz.func117,Tryz.ntmps117
 go_wp2_with (go_at_call 164;refine HC.out.mono ?_;rintro e w1 ⟨rfl,hb⟩)
 go_ret;exact⟨rfl,cJ _ _ hb⟩
end
section
open Go.RowKit Go.Shelf
def okB (l:List K) (i:Nat):Bool:=bf (ae l i) && decide (cv l i<(ae l i).id) && decide ((ae l i).id≤2147483647)
def eY (b:BK) (l:List K):Bool:=win b.ep 0 2147483647 && win b.num 0 2147483647 && win b.fw 0 2147483647 && win b.tm 0 1099511627776 && decide (1≤b.mo.length) && decide (b.mo.length≤12) && decide (l.length≤4096)
def aI (b:BK) (l:List K):Bool:=eY b l && (List.range l.length).all (okB l)
theorem BA (l:List K) (i:Nat):(okB l i=false∧bf (ae l i)=false)∨(okB l i=false∧bf (ae l i)=true∧(ae l i).id≤cv l i) ∨
  (okB l i=false∧bf (ae l i)=true∧¬(ae l i).id≤cv l i∧2147483647<(ae l i).id) ∨
  (okB l i=true∧bf (ae l i)=true∧¬(ae l i).id≤cv l i∧¬2147483647<(ae l i).id):=by
 unfold okB
 by_cases h0:bf (ae l i)=true
 ·by_cases h1:(ae l i).id≤cv l i
  ·exact .inr (.inl ⟨by rw[decide_eq_false (by omega:¬cv l i<(ae l i).id)];simp,h0,h1⟩)
  ·by_cases h2:2147483647<(ae l i).id
   ·exact .inr (.inr (.inl ⟨by rw[decide_eq_false (by omega:¬(ae l i).id≤2147483647)];simp,h0,h1,h2⟩))
   ·exact .inr (.inr (.inr ⟨by rw[h0,decide_eq_true (by omega:cv l i<(ae l i).id),decide_eq_true (by omega:(ae l i).id≤2147483647)];rfl,h0,h1,h2⟩))
 ·have h0':bf (ae l i)=false:=by simpa using h0
  exact .inl ⟨by rw[h0'];rfl,h0'⟩
theorem uf (l:List K) (i:Nat) (hi:i<l.length) (h:okB l i=false):(List.range l.length).all (okB l)=false:=by
 rw[List.all_eq_false];exact⟨i,List.mem_range.2 hi,by rw[h];decide⟩
theorem wN (l:List K) (h:∀j,j<l.length→okB l j=true):(List.range l.length).all (okB l)=true :=
 List.all_eq_true.2 (fun i hi=>h i (List.mem_range.1 hi))
attribute [local irreducible] Calls aI okB bf cv win eY
end
section
open Go.RowKit Go.Shelf
theorem bi3 (w:World) (a b c:Int):RdI (w.alloc (.cells #[.int .i64 a,.int .i64 b,.int .i64 c] 3)) (.slice (some ⟨w.heap.size,0,none⟩) 3 3) [a,b,c]:=Em w [a,b,c] (by simp)
theorem bi1 (w:World) (a:Int):RdI (w.alloc (.cells #[.int .i64 a] 3)) (.slice (some ⟨w.heap.size,0,none⟩) 1 1) [a]:=Em w [a] (by simp)
def r1 (b:BK):Bool:=[b.ep,b.num,b.fw].all (fun n=>win n 0 2147483647)
def r2 (b:BK):Bool:=[b.tm].all (fun n=>win n 0 1099511627776)
def r3 (b:BK):Bool:=[(b.mo.length:Int)-1].all (fun n=>win n 0 11)
theorem VR (b:BK) (l:List K):(eY b l=true∧r1 b=true∧r2 b=true∧r3 b=true∧(l.length:Int)≤4096)∨(eY b l=false∧r1 b=false)∨(eY b l=false∧r1 b=true∧r2 b=false) ∨
  (eY b l=false∧r1 b=true∧r2 b=true∧r3 b=false)∨(eY b l=false∧r1 b=true∧r2 b=true∧r3 b=true∧¬(l.length:Int)≤4096):=by
 have h3:r3 b=(decide (1≤b.mo.length) && decide (b.mo.length≤12)):=by
  unfold r3 win;simp only[List.all_cons,List.all_nil,Bool.and_true]
  congr 1 <;> rw[decide_eq_decide] <;> omega
 have hh:eY b l=(r1 b && r2 b && r3 b && decide (l.length≤4096)):=by
  rw[h3];unfold eY r1 r2;simp only[List.all_cons,List.all_nil,Bool.and_true,Bool.and_assoc]
 rw[hh]
 cases r1 b
 ·simp
 cases r2 b
 ·simp
 cases r3 b
 ·simp
 by_cases h:l.length≤4096
 ·have : (l.length:Int)≤4096:=by omega
  simp[h,this]
 ·have : ¬(l.length:Int)≤4096:=by omega
  simp[h,this]
attribute [local irreducible] Calls aI okB bf cv win eY r1 r2 r3
theorem rf (b:BK) (u:Value) (l:List K) (w:World) (hv:RdK w u l) (hwf:∀i,i<l.length→(ae l i).wf) (hmo:b.mo.length≤maxLen) :
  Calls Tryz.prog 76 #[.agg (bc b u)] w fun e w'=>e = .returned (.bool (aI b l))∧Below w.heap.size w w':=by
 have hlen:=hv.len;unfold maxLen at hlen hmo;obtain⟨W0,hW0⟩:∃W0,W0=w.alloc (.cells (bc b u) 47):=⟨_,rfl⟩
 have hvw:RdK W0 u l:=by rw[hW0];exact hv.alloc _
 have hbx:∀w1,Below W0.heap.size W0 w1→w1.cell? ⟨w.heap.size,37,none⟩=some u∧w1.cell? ⟨w.heap.size,16,none⟩=some (.int .i64 b.ep)∧w1.cell? ⟨w.heap.size,17,none⟩=some (.int .i64 b.num) ∧
   w1.cell? ⟨w.heap.size,18,none⟩=some (.int .i64 b.fw)∧w1.cell? ⟨w.heap.size,19,none⟩=some (.int .i64 b.tm)∧w1.cell? ⟨w.heap.size,36,none⟩=some (.string ⟨b.mo.toArray⟩):=by
  intro w1 h;rw[hW0] at h;exact⟨(gi _ _ _ h 37).trans (iU b u),(gi _ _ _ h 16).trans (uj b u),(gi _ _ _ h 17).trans (sy b u),(gi _ _ _ h 18).trans (ul b u),(gi _ _ _ h 19).trans (um b u),(gi _ _ _ h 36).trans (uo b u)⟩
 have hbe:∀w1,Below W0.heap.size W0 w1→Below w.heap.size w w1:=by
  intro w1 h;rw[hW0] at h;exact cJ _ _ h
 have hsz:w.heap.size<W0.heap.size:=by rw[hW0];simp
 have HV:=O hvw;have HBX:=O hbx;have HBE:=O hbe;have HW:=O hW0;have HWF:=O hwf
 have hve:aI b l=(eY b l && (List.range l.length).all (okB l)):=by unfold aI;rfl
 rw[hve];have HT0:=O (fun i hi h=>uf l i hi h);have HT1:=O (wN l);have HHC:=O (VR b l)
 have mw:IntKind.i64.wrap ((b.mo.length:Int)-1)=(b.mo.length:Int)-1:=by rw[IntKind.wrap_i64];omega
 have HE1:Hid ([b.ep,b.num,b.fw].all (fun n=>win n 0 2147483647)=r1 b):=O (by unfold r1;rfl);have HE2:Hid ([b.tm].all (fun n=>win n 0 1099511627776)=r2 b):=O (by unfold r2;rfl);have HE3:Hid ([(b.mo.length:Int)-1].all (fun n=>win n 0 11)=r3 b):=O (by unfold r3;rfl);obtain⟨a,cap,rfl,_,_,_⟩:=hv;clear hW0 hvw hbx hbe hve hwf
 go_enter Tryz.func76,Tryz.ntmps76
 go_wp2
 go_loopw [3,9] (fun la o wr=>∃i:Nat,i≤l.length∧o = .int .i64 i∧la = .int .i64 (cv l i)∧Hid (∀j,j<i→okB l j=true)∧Below W0.heap.size W0 wr) (fun _ o _=>l.length-(intOf o).toNat)
 case atStart=>exact⟨0,Nat.zero_le _,rfl,by rw[gR],O (fun j hj=>absurd hj (by omega)),by rw[←HW.out];exact Oo _ _⟩
 case round =>
  obtain⟨i,hi,rfl,rfl,hno,hb⟩:=hrel;obtain⟨t1,t16,t17,t18,t19,t36⟩:=HBX.out wr hb;have hbs:=hb.size
  have z0:w.heap.size<wr.heap.size:=by omega
  have z0':w.heap.size≠wr.heap.size:=by omega
  by_cases hlt:i<l.length
  ·obtain⟨bb,off,rfl,hbl,aO⟩:=((HV.out.on hb).cells) (by omega)
   obtain⟨d0,d1,d2,d3,d4,d5,d6,d7,d8⟩:=aO i hlt
   have i1:(i:Int)<l.length:=by omega
   have HK:=O hlt;have HNO:=hno;have HB:=O hb;have hval:=Ac (ae l i) (HWF.out i hlt) (wr.alloc (.cells (kc (ae l i)) 86))
   have hbx2:∀w1,Below (wr.alloc (.cells (kc (ae l i)) 86)).heap.size (wr.alloc (.cells (kc (ae l i)) 86)) w1 →
     w1.cell? ⟨wr.heap.size,0,none⟩=some (.int .i64 (ae l i).id)∧Below W0.heap.size W0 w1:=by
    intro w1 h;exact⟨gi _ _ _ h 0,HB.out.trans ((cJ _ _ h).mono hbs)⟩
   unfold kv at hval;unfold kc at hval hbx2;have HLS:=O (gQ l i);have HX2:=O hbx2;clear aO hb hno hbx2
   rcases BA l i with⟨ho,h1⟩|⟨ho,h1,h2⟩|⟨ho,h1,h2,h3⟩|⟨ho,h1,h2,h3⟩
   case inr.inr.inr =>
    rw[h1] at hval;have HVAL:=O hval;have HO:=O ho;clear hval h1 ho
    go_wp2_with (go_at_call 104;refine HVAL.out.mono ?_;rintro e w1 ⟨rfl,hb'⟩;obtain⟨e0,hbb⟩:=HX2.out _ hb';clear hb')
    go_roundw
    case rel=>exact⟨i+1,HK.out,by go_num,by rw[HLS.out],O (fun j hj=>by
     by_cases e:j=i
     ·subst e;exact HO.out
     ·exact HNO.out j (by omega)),hbb⟩
    case measure=>have := HK.out;simp[intOf];omega
   all_goals
    have HRES:=O (HT0.out i HK.out ho);rw[h1] at hval;have HVAL:=O hval;clear hval h1 ho
    go_wp2_with (go_at_call 104;refine HVAL.out.mono ?_;rintro e w1 ⟨rfl,hb'⟩;obtain⟨e0,hbb⟩:=HX2.out _ hb';clear hb')
    go_ret;exact⟨by rw[HRES.out,Bool.and_false];rfl,HBE.out _ hbb⟩
  ·have he:i=l.length:=by omega
   have i1:(l.length:Int)≤i:=by omega
   have HRES:=O (HT1.out (fun j hj=>hno.out j (by omega)));have HB:=hb;have tok2:True:=trivial;clear hno he
   rcases HHC.out with⟨hh,f1,f2,f3,f4⟩|⟨hh,f1⟩|⟨hh,f1,f2⟩|⟨hh,f1,f2,f3⟩|⟨hh,f1,f2,f3,f4⟩
   all_goals
    have HH:=O hh;clear hh
    go_wp2_with (first
     |(go_at_call 117;refine(rl _ _ _ _ (bi3 _ _ _ _)).mono ?_;rw[HE1.out];rintro e w1 ⟨rfl,hb'⟩;replace HB:=HB.trans ((cJ _ _ hb').mono HB.size);obtain⟨t1,t16,t17,t18,t19,t36⟩:=HBX.out _ HB;clear hb')
     |(go_at_call 117;clear tok2;refine(rl _ _ _ _ (bi1 _ _)).mono ?_;rw[HE2.out];rintro e w2 ⟨rfl,hb'⟩;replace HB:=HB.trans ((cJ _ _ hb').mono HB.size);obtain⟨t1,t16,t17,t18,t19,t36⟩:=HBX.out _ HB;clear hb')
     |(go_at_call 117;refine(rl _ _ _ _ (bi1 _ _)).mono ?_;rw[HE3.out];rintro e w3 ⟨rfl,hb'⟩;replace HB:=HB.trans ((cJ _ _ hb').mono HB.size);obtain⟨t1,t16,t17,t18,t19,t36⟩:=HBX.out _ HB;clear hb'))
    go_ret;exact⟨by rw[HRES.out,Bool.and_true,HH.out];first |rfl|exact BZ (decide_eq_false (by omega))|exact BZ (decide_eq_true (by omega)),HBE.out _ HB⟩
end
section
open Go.RowKit
structure Qt (Rl E0:World→World→Prop) (J:Bool→World→Prop):Prop where
 sub:∀a b,E0 a b→Rl a b
 keep:∀d a b,J d a→E0 a b→J d b
def AP (Rl E0:World→World→Prop) (J:Bool→World→Prop) (c i:Nat) (w w':World):Prop:=if i=c then Rl w w'∧J true w' else E0 w w'
variable {Rl:World→World→Prop}
inductive SPG (Rl:World→World→Prop) where
 | eq (c:Value)
 | pred (q:Value→World→Prop) (st:∀v w w',Rl w w'→q v w→q v w')
def SPG.p:SPG Rl→Value→World→Prop
 | .eq c,v,_=>v=c
 | .pred q _,v,w=>q v w
theorem SPG.keep (R:SPG Rl) {v:Value} {w w':World} (hb:Rl w w') (h:R.p v w):R.p v w':=by
 cases R with
 | eq c=>exact h
 | pred q st=>exact st v w w' hb h
def SPG.any:SPG Rl := .pred (fun _ _=>True) (fun _ _ _ _ h=>h)
def SPG.of (l:List (SPG Rl)) (i:Nat):SPG Rl:=l.getD i SPG.any
def gJ (R:Nat→SPG Rl) (w:World) (body:(Nat→Value)→Prop):List Nat→(Nat→Value)→Prop
 | [],vals=>body vals
 | j :: l, vals => match R j with
   | .eq c=>gJ R w body l (upd vals j c)
   | .pred q _=>∀x,q x w→gJ R w body l (upd vals j x)
theorem lN {R:Nat→SPG Rl} {w:World} {body:(Nat→Value)→Prop} {vals:Nat→Value}:∀(l:List Nat),gJ R w body l vals→(∀j∈l,(R j).p (vals j) w)→body vals
 | [],h,_=>h
 | j :: l, h, hp => by
   have h1:=hp j (List.mem_cons_self ..);unfold gJ at h
   cases hr:R j with
   | eq c =>
     rw[hr] at h h1;have e:=q9 (vals:=vals) (i:=j) (v:=c) h1;simp only[e] at h;exact lN l h (fun k hk=>hp k (List.mem_cons_of_mem _ hk))
   | pred q st =>
     rw[hr] at h h1;have h2:=h (vals j) h1;rw[q9 rfl] at h2;exact lN l h2 (fun k hk=>hp k (List.mem_cons_of_mem _ hk))
def yw (Ef:World→World→Prop) (F:(Nat→Value)→Act) (R:SPG Rl) (dst:Option Tmp) (vals:Nat→Value) (w:World) (Q:Exit→Act→World→Prop):Prop :=
 ∀v w',Ef w w'→R.p v w'→Q .normal ((F vals).put dst v) w'
theorem fN {Ef:World→World→Prop} {F:(Nat→Value)→Act} {R:SPG Rl} {dst:Option Tmp} {vals:Nat→Value} {w:World} {Q:Exit→Act→World→Prop} (h:Hid (yw Ef F R dst vals w Q)) (v:Value) {w':World} {a:Act} (ha:a=(F vals).put dst v) (hb:Ef w w') (hr:R.p v w'):Q .normal a w':=by
 rw[ha];exact h.out v w' hb hr
def tK (P:Program) (ops:Array Oper) (E0:World→World→Prop) (J:Bool→World→Prop) (c:Nat) (F:(Nat→Value)→Act) (R:Nat→SPG Rl) (ds:List (List Nat)):Nat→List Oper→Prop
 | _,[]=>True
 | i,o::rest=>(∀(d:Bool) (w:World),(i=c→d=false)→J d w→∀vals:Nat→Value,gJ R w (fun vals=>∀Q:Exit→Act→World→Prop,Hid (yw (AP Rl E0 J c i) F (R i) o.dst vals w Q)→wpList P ops Q [o] (F vals) w) (ds.getD i []) vals)∧tK P ops E0 J c F R ds (i+1) rest
theorem vG {P:Program} {ops:Array Oper} {E0:World→World→Prop} {J:Bool→World→Prop} {c:Nat} {F:(Nat→Value)→Act} {R:Nat→SPG Rl} {ds:List (List Nat)}:∀(l:List Oper) (k:Nat),tK P ops E0 J c F R ds k l→∀i o,l[i]?=some o →
  ∀(d:Bool) (w:World),(k+i=c→d=false)→J d w→∀(vals:Nat→Value),gJ R w (fun vals=>∀Q:Exit→Act→World→Prop,Hid (yw (AP Rl E0 J c (k+i)) F (R (k+i)) o.dst vals w Q)→wpList P ops Q [o] (F vals) w) (ds.getD (k+i) []) vals
 | [],_,_,_,_,h=>by cases h
 | o::l,k,h,0,o',ho=>by cases ho;exact h.1
 | o :: l, k, h, i + 1, o', ho => by
   have := vG l (k+1) h.2 i o' ho
   rwa [show k+1+i=k+(i+1) by omega] at this
theorem Dx {E0:World→World→Prop} {J:Bool→World→Prop} {c:Nat} (hr0:Qt Rl E0 J) {P:Program} {Q:Exit→Act→World→Prop} {l:List Oper} {n:Nat} (hcn:c<n) {F:(Nat→Value)→Act} {R:Nat→SPG Rl} {ds:List (List Nat)} (hB:vF l.toArray n ds=true)
  (hput:nk F 0 (l.take n)) (hobs:tK P l.toArray E0 J c F R ds 0 (l.take n)) (hfin:∀w,J true w→∀vals,gJ R w (fun vals=>wpList P l.toArray Q (l.drop n) (F vals) w) (List.range n) vals)
  (f:Nat):∀(m:Array Bool) (vals:Nat→Value) (w:World),HeadInv .any l.toArray n m→fP m n=f→J (m.getD c false) w→(∀i,i<n→m.getD i false=true→(R i).p (vals i) w) →
   wpAny P .any l.toArray Q (f+(l.length-n)) m (F vals) w:=by
 simp only[vF,Bool.and_eq_true,decide_eq_true_eq] at hB;obtain⟨⟨⟨⟨hn,hs⟩,hc⟩,hseq⟩,hdep⟩:=hB
 have hnl:n≤l.length:=by simpa using hn
 induction f with
 | zero =>
   intro m vals w inv hu hb hR;have hall:=s6 hu
   have hm:m=dH n (l.length-n):=by
    apply Array.ext_getElem?
    intro i
    have hsz:m.size=l.length:=by simpa using inv.size
    unfold dH;simp only[List.getElem?_toArray]
    by_cases hi:i<n
    ·have h1:=hall i hi
     rw[List.getElem?_append_left (by simpa using hi),List.getElem?_replicate,if_pos hi]
     have hi2:i<m.size:=by omega
     simp[hi2] at h1
     rw[Array.getElem?_eq_getElem hi2,h1]
    ·by_cases hi2:i<l.length
     ·have h1:=inv.tail i (by omega) (by simpa using hi2)
      rw[List.getElem?_append_right (by simp;omega),List.getElem?_replicate,if_pos (by simp;omega)]
      have hi3:i<m.size:=by omega
      simp[hi3] at h1
      rw[Array.getElem?_eq_getElem hi3,h1]
     ·rw[List.getElem?_append_right (by simp;omega),List.getElem?_replicate,if_neg (by simp;omega),Array.getElem?_eq_none (by omega)]
   have hd:(l.drop n).length=l.length-n:=by simp
   have := wpAny_of_seq (md := .any) (P:=P) (Q':=Q) (ops:=l.toArray) (l.drop n) n m (F vals) w (fun j=>by simp[List.getElem?_drop]) (by rw[hd,hm];simpa using hseq)
    (lN _ (hfin w (by rwa [hall c hcn] at hb) vals) (fun j hj=>hR j (List.mem_range.1 hj) (hall j (List.mem_range.1 hj))))
   rw[Nat.zero_add]
   rwa [hd] at this
 | succ f ih =>
   intro m vals w inv hu hb hR
   have hsz:m.size=l.length:=by simpa using inv.size
   obtain⟨i0,hi0,hun0,hdone0⟩:∃i,i<n∧m.getD i false=false∧∀j,j<i→m.getD j false=true:=by
    rcases qE m n (by omega) with h|h
    ·have : fP m n=0:=by
      unfold fP;rw[List.length_eq_zero_iff,List.filter_eq_nil_iff];intro a ha;rw[h a (List.mem_range.1 ha)]
      simp
     omega
    ·exact h
   have hready0:i0∈Region.ready .any l.toArray m:=by
    rw[mem_ready]
    have hlt:i0<l.length:=by omega
    refine⟨getD_in (by omega) hun0,l[i0],by simp[hlt],fun e he hbn => ?_⟩;have h1:=List.all_eq_true.1 hdep i0 (List.mem_range.2 hi0);simp only[List.getElem?_toArray,List.getElem?_eq_getElem hlt,Option.map_some,Option.getD_some,Bool.and_eq_true] at h1;exact hdone0 _ (of_decide_eq_true (List.all_eq_true.1 h1.1 _ (lX.2 ⟨e,he,hbn,rfl⟩)))
   have hne:Region.ready .any l.toArray m≠[]:=List.ne_nil_of_mem hready0;rw[show f+1+(l.length-n)=(f+(l.length-n))+1 by omega];refine⟨fun h0=>absurd h0 hne,fun i hi => ?_⟩
   have hin:i<n:=by
    rcases Nat.lt_or_ge i n with h|h
    ·exact h
    ·obtain⟨_,oi,hoi,_⟩:=mem_ready.1 hi
     have hil:i<l.length:=by have := (Array.getElem?_eq_some_iff.1 hoi).1;simpa using this
     exact absurd hi (tail_waits hs hc (by simp;omega) inv _ i0 rfl hi0 (getD_in (by omega) hun0) i h)
   obtain⟨hund,oi,hoi,hdeps⟩:=mem_ready.1 hi
   have hoi2:(l.take n)[i]?=some oi:=by rw[List.getElem?_take,if_pos hin];simpa using hoi
   have hui:m.getD i false=false:=getD_both hund
   have hob:=lN _ (vG (l.take n) 0 hobs i oi hoi2 (m.getD c false) w (fun e=>by rw[←e,Nat.zero_add];exact hui) hb vals) (fun j hj=>by
    have h1:=List.all_eq_true.1 hdep i (List.mem_range.2 hin)
    have hil:i<l.length:=by omega
    have hoi3:l[i]?=some oi:=by simpa using hoi
    simp only[List.getElem?_toArray,hoi3,Option.map_some,Option.getD_some,Bool.and_eq_true] at h1;rw[Nat.zero_add] at hj;have hjd:=List.contains_iff_mem.1 (List.all_eq_true.1 h1.2 j hj);obtain⟨e,he,hbn,rfl⟩:=lX.1 hjd;have hlt:=of_decide_eq_true (List.all_eq_true.1 h1.1 _ hjd)
    exact hR _ (by omega) (hdeps e he hbn))
   refine iw hoi (hob _ (O ?_));intro v w' hb' hr
   show wpAny P .any l.toArray Q (f+(l.length-n)) (m.setIfInBounds i true) _ w'
   have hpu:=rS (l.take n) 0 hput i oi hoi2 vals v;rw[hpu,Nat.zero_add];rw[Nat.zero_add] at hr;have hus:=wl m n i hin (by omega) hui;rw[Nat.zero_add] at hb'
   have hRl:Rl w w':=by
    unfold AP at hb'
    split at hb'
    ·exact hb'.1
    ·exact hr0.sub _ _ hb'
   have hJ':J ((m.setIfInBounds i true).getD c false) w':=by
    unfold AP at hb'
    split at hb'
    ·rename_i e
     subst e
     have : (m.setIfInBounds i true).getD i false=true:=by
      have hi9:i<m.size:=by omega
      simp[hi9]
     rw[this];exact hb'.2
    ·rename_i e
     rw[getD_set_ne false e];exact hr0.keep _ _ _ hb hb'
   refine ih _ _ _ (inv.set hi hin) (by omega) hJ' ?_;intro j hj hjd;unfold upd
   by_cases hji:j=i
   ·subst hji
    rw[if_pos rfl];exact hr
   ·rw[if_neg hji]
    rw[getD_set_ne false (fun e=>hji e.symm)] at hjd;exact(R j).keep hRl (hR j hj hjd)
theorem sU {E0:World→World→Prop} {J:Bool→World→Prop} (c:Nat) (hr0:Qt Rl E0 J) {P:Program} {id:Nat} {Q:Exit→Act→World→Prop} {a:Act} {w:World} {l:List Oper} (n:Nat) (hcn:c<n) (ds:List (List Nat)) (R:Nat→SPG Rl) (vals0:Nat→Value) (hm:P.follows .mixedOrders=true) (hB:vF l.toArray n ds=true)
  (ha:a=ay a vals0 0 (l.take n)) (hput:nk (fun vals=>ay a vals 0 (l.take n)) 0 (l.take n)) (hJ0:J false w.drew)
  (hobs:tK P l.toArray E0 J c (fun vals=>ay a vals 0 (l.take n)) R ds 0 (l.take n))
  (hfin:∀w',J true w'→∀vals,gJ R w' (fun vals=>wpList P l.toArray Q (l.drop n) (ay a vals 0 (l.take n)) w') (List.range n) vals):(Code.region id l.toArray true).wp P Q a w:=by
 refine wp_region_any hm ?_
 have hn:n≤l.length:=by
  have h:=hB;simp only[vF,Bool.and_eq_true,decide_eq_true_eq] at h
  simpa using h.1.1.1.1
 have inv:HeadInv .any l.toArray n (Array.replicate l.toArray.size false) :=
  ⟨by simp,fun j oj _ hl=>absurd hl (by rw[getD_replicate_false];exact Bool.false_ne_true),fun t _ h2=>getD_in (by simpa using h2) (getD_replicate_false _ _)⟩
 have hu:fP (Array.replicate l.toArray.size false) n=n:=by
  unfold fP;rw[List.filter_eq_self.2 (fun i _=>by rw[getD_replicate_false];rfl),List.length_range]
 have := Dx hr0 (P:=P) (Q:=Q) (R:=R) hcn hB hput hobs hfin n _ vals0 w.drew inv hu (by rw[getD_replicate_false];exact hJ0) (fun i _ h=>by rw[getD_replicate_false] at h;cases h);rw[show n+(l.length-n)=l.toArray.size by simp;omega] at this;rw[ha];exact this
theorem qo {E0:World→World→Prop} {J:Bool→World→Prop} {c i:Nat} {w w':World} (h:i≠c) (he:E0 w w'):AP Rl E0 J c i w w':=by
 unfold AP;rw[if_neg h];exact he
theorem Ez {E0:World→World→Prop} {J:Bool→World→Prop} {c:Nat} {w w':World} (h1:Rl w w') (h2:J true w'):AP Rl E0 J c c w w':=by
 unfold AP;rw[if_pos rfl];exact⟨h1,h2⟩
theorem lM {R:Nat→SPG Rl} {w:World} {body:(Nat→Value)→Prop} {vals:Nat→Value} (h:body vals):gJ R w body [] vals:=h
theorem ft {R:Nat→SPG Rl} {w:World} {body:(Nat→Value)→Prop} {vals:Nat→Value} {j:Nat} {l:List Nat} {c:Value} (hr:R j = .eq c) (h:gJ R w body l (upd vals j c)):gJ R w body (j::l) vals:=by
 unfold gJ;rw[hr];exact h
theorem Bc {R:Nat→SPG Rl} {w:World} {body:(Nat→Value)→Prop} {vals:Nat→Value} {j:Nat} {l:List Nat} {q:Value→World→Prop} {st:∀v w w',Rl w w'→q v w→q v w'} (hr:R j = .pred q st) (h:∀x,q x w→gJ R w body l (upd vals j x)):gJ R w body (j::l) vals:=by
 unfold gJ;rw[hr];exact h
end
end Go.Proofs.YtmfiaadjdbemnaaGreatDoor
