/- Contracts and lemmas. No condition. -/
import Derived.Test.YtmfiaadjdbemnaaGreatDoorSB01
import Derived.ArgAppend
import Derived.Deep.Upon
import Derived.Lib.SliceRun
import Derived.Maps.AppendAt
import Derived.Test.YtmfiaadjdbemnaaGreatDoorChecked
set_option linter.unusedSimpArgs false
set_option linter.unusedVariables false
namespace Go.Proofs.YtmfiaadjdbemnaaGreatDoor
open Tryz
section
def wd (l:List UInt32) (i:Nat):UInt32:=l.getD i 0
def rr (x:UInt32) (n:Nat):UInt32:=shr x n ||| shl x (32-n)
def KB (x:UInt32) (i j k:Nat):UInt32:=rr x i ^^^ rr x j ^^^ rr x k
def KK:List UInt32:=[0x428a2f98,0x71374491,0xb5c0fbcf,0xe9b5dba5,0x3956c25b,0x59f111f1,0x923f82a4,0xab1c5ed5,
 0xd807aa98,0x12835b01,0x243185be,0x550c7dc3,0x72be5d74,0x80deb1fe,0x9bdc06a7,0xc19bf174,
 0xe49b69c1,0xefbe4786,0x0fc19dc6,0x240ca1cc,0x2de92c6f,0x4a7484aa,0x5cb0a9dc,0x76f988da,
 0x983e5152,0xa831c66d,0xb00327c8,0xbf597fc7,0xc6e00bf3,0xd5a79147,0x06ca6351,0x14292967,
 0x27b70a85,0x2e1b2138,0x4d2c6dfc,0x53380d13,0x650a7354,0x766a0abb,0x81c2c92e,0x92722c85,
 0xa2bfe8a1,0xa81a664b,0xc24b8b70,0xc76c51a3,0xd192e819,0xd6990624,0xf40e3585,0x106aa070,
 0x19a4c116,0x1e376c08,0x2748774c,0x34b0bcb5,0x391c0cb3,0x4ed8aa4a,0x5b9cca4f,0x682e6ff3,
 0x748f82ee,0x78a5636f,0x84c87814,0x8cc70208,0x90befffa,0xa4506ceb,0xbef9a3f7,0xc67178f2]
def be4 (a b c d:UInt8):UInt32:=shl (shl (shl a.toUInt32 8 ||| b.toUInt32) 8 ||| c.toUInt32) 8 ||| d.toUInt32
def wordAt (b:List UInt8) (t:Nat):UInt32:=be4 (byteAt b (4*t)) (byteAt b (4*t+1)) (byteAt b (4*t+2)) (byteAt b (4*t+3))
def sg0 (p:UInt32):UInt32:=rr p 7 ^^^ rr p 18 ^^^ shr p 3
def sg1 (q:UInt32):UInt32:=rr q 17 ^^^ rr q 19 ^^^ shr q 10
def xP (l:List UInt32):UInt32:=wd l (l.length-16)+sg0 (wd l (l.length-15))+wd l (l.length-7)+sg1 (wd l (l.length-2))
def sch (b:List UInt8):Nat→List UInt32
 | 0=>[]
 | t+1=>sch b t++[if t<16 then wordAt b t else xP (sch b t)]
theorem iT (b:List UInt8) (t:Nat):(sch b t).length=t:=by
 induction t with
 | zero=>rfl
 | succ t ih=>rw[sch,E_,ih];rfl
structure HS where
 a:UInt32
 b:UInt32
 c:UInt32
 d:UInt32
 e:UInt32
 f:UInt32
 g:UInt32
 h:UInt32
deriving DecidableEq
def Hf (k w:UInt32) (s:HS):UInt32:=s.h+KB s.e 6 11 25+((s.e &&& s.f) ^^^ (~~~s.e &&& s.g))+k+w
def Lo (s:HS):UInt32:=KB s.a 2 13 22+((s.a &&& s.b) ^^^ (s.a &&& s.c) ^^^ (s.b &&& s.c))
def rnd (k w:UInt32) (s:HS):HS:=⟨Hf k w s+Lo s,s.a,s.b,s.c,s.d+Hf k w s,s.e,s.f,s.g⟩
def pD (w:List UInt32) (s:HS):Nat→HS
 | 0=>s
 | t+1=>rnd (wd KK t) (wd w t) (pD w s t)
def gX (s v:HS):HS:=⟨s.a+v.a,s.b+v.b,s.c+v.c,s.d+v.d,s.e+v.e,s.f+v.f,s.g+v.g,s.h+v.h⟩
def yK (s:HS) (b:List UInt8):HS:=gX s (pD (sch b 64) s 64)
def iv:HS:=⟨0x6a09e667,0xbb67ae85,0x3c6ef372,0xa54ff53a,0x510e527f,0x9b05688c,0x1f83d9ab,0x5be0cd19⟩
def eJ (m:List UInt8):Nat→HS
 | 0=>iv
 | n+1=>yK (eJ m n) ((m.drop (64*n)).take 64)
def kS (n:Nat):Nat:=(119-n % 64) % 64
def be8 (n:Nat):List UInt8:=(List.range 8).map fun i=>UInt8.ofNat (n / 2 ^ (56-8*i))
def gj (m:List UInt8):List UInt8:=m++([128]++(List.replicate (kS m.length) 0++be8 (8*m.length)))
def w4 (x:UInt32):List UInt8:=[(shr x 24).toUInt8,(shr x 16).toUInt8,(shr x 8).toUInt8,x.toUInt8]
def eb (s:HS):List UInt8:=w4 s.a++(w4 s.b++(w4 s.c++(w4 s.d++(w4 s.e++(w4 s.f++(w4 s.g++w4 s.h))))))
def sha (m:List UInt8):List UInt8:=eb (eJ (gj m) ((gj m).length / 64))
def eC (k:List UInt8) (with':UInt8):List UInt8:=(List.range 64).map fun i=>byteAt k i ^^^ with'
def bK (k:List UInt8):List UInt8:=if k.length≤64 then k else sha k
def mac (k t:List UInt8):List UInt8:=sha (eC (bK k) 0x5c++sha (eC (bK k) 0x36++t))
theorem ew (m:List UInt8):(sha m).length=32:=rfl
theorem ju (k t:List UInt8):(mac k t).length=32:=rfl
open Go.RowKit
structure El (α:Type) where
 T:TypeId
 S:TypeId
 c:Nat
 cf:α→List Value
structure El.OK {α:Type} (E:El α):Prop where
 und:prog.underlying E.S=some (.slice E.T)
 info:(prog.info? E.T).map (fun i=>(i.zero.map (·.cells.size),i.size,decide (0<i.bytes∧i.bytes≤200)))=some (some E.c,E.c,true)
 len:∀x,(E.cf x).length=E.c
 one:∀x,∀u∈E.cf x,u.oneCell'=true
 pos:0<E.c
variable {α:Type} {E:El α}
theorem El.OK.info' (h:E.OK):∃i z,prog.info? E.T=some i∧i.zero=some z∧i.size=E.c∧z.cells.size=E.c∧0<i.bytes∧i.bytes≤200:=by
 have h:=h.info
 cases hi:prog.info? E.T with
 | none=>rw[hi] at h;cases h
 | some i =>
   rw[hi] at h;simp only[Option.map_some,Option.some.injEq,Prod.mk.injEq,decide_eq_true_eq] at h
   cases hz:i.zero with
   | none=>rw[hz] at h;cases h.1
   | some z =>
     rw[hz] at h;exact⟨i,z,rfl,hz,h.2.1,by simpa using h.1,h.2.2.1,h.2.2.2⟩
def El.flat (E:El α):List α→List Value
 | []=>[]
 | x::l=>E.cf x++E.flat l
theorem El.flat_len (hE:E.OK) (l:List α):(E.flat l).length=l.length*E.c:=by
 induction l with
 | nil=>simp[El.flat]
 | cons x l ih=>rw[El.flat,E_,hE.len,ih,Z_,Nat.add_mul];omega
theorem El.flat_append (l m:List α):E.flat (l++m)=E.flat l++E.flat m:=by
 induction l with
 | nil=>rfl
 | cons x l ih=>rw[List.cons_append,El.flat,El.flat,ih,R_]
theorem El.flat_one (hE:E.OK) (l:List α):∀u∈E.flat l,u.oneCell'=true:=by
 induction l with
 | nil=>intro u hu;simp[El.flat] at hu
 | cons x l ih =>
   intro u hu;rw[El.flat,List.mem_append] at hu
   rcases hu with hu|hu
   ·exact hE.one x u hu
   ·exact ih u hu
theorem El.flat_at (hE:E.OK) (l:List α) (j i:Nat) (hj:j<l.length) (hi:i<E.c):(E.flat l)[j*E.c+i]? = (E.cf l[j])[i]? := by
 induction l generalizing j with
 | nil=>simp at hj
 | cons x l ih =>
   cases j with
   | zero =>
     rw[El.flat,Nat.zero_mul,a_,List.getElem?_append_left (by rw[hE.len];exact hi)]
     rfl
   | succ j =>
     have hj':j<l.length:=by simpa using hj
     rw[El.flat,List.getElem?_append_right (by rw[hE.len,Nat.add_mul];omega),hE.len,show (j+1)*E.c+i-E.c=j*E.c+i by rw[Nat.add_mul];omega,ih j hj']
     rfl
def RdE (E:El α) (w:World) (v:Value) (l:List α):Prop :=
 ∃ a cap, v = .slice a l.length cap ∧ l.length ≤ cap ∧ cap ≤ maxLen ∧
   (0<l.length→∃b off,a=some ⟨b,off,none⟩∧b<w.heap.size∧∀j u,(E.flat l)[j]?=some u→w.cell? ⟨b,off+j,none⟩=some u)
theorem RdE.keep {w w':World} {v:Value} {l:List α} {B:Nat} (h:RdE E w v l) (hb:Below B w w') (hB:w.heap.size≤B):RdE E w' v l:=by
 obtain⟨a,cap,rfl,h1,h2,h3⟩:=h;refine⟨a,cap,rfl,h1,h2,fun h0 => ?_⟩;obtain⟨b,off,rfl,hlt,hc⟩:=h3 h0;refine⟨b,off,rfl,P_ hlt hb.size,fun j u hu => ?_⟩;rw[hb.cell (p:=⟨b,off+j,none⟩) (P_ hlt hB)];exact hc j u hu
theorem RdE.on {w w':World} {v:Value} {l:List α} (h:RdE E w v l) (hb:Below w.heap.size w w'):RdE E w' v l:=h.keep hb (A_ _)
theorem RdE.alloc {w:World} {v:Value} {l:List α} (h:RdE E w v l) (X:Obj):RdE E (w.alloc X) v l:=h.on ((O_ w.heap.size w).alloc (A_ _) X)
theorem RdE.nil (w:World):RdE E w (.slice none 0 0) []:=⟨none,0,rfl,A_ _,by unfold maxLen;omega,fun h=>absurd h (by simp)⟩
theorem RdE.len {w:World} {v:Value} {l:List α} (h:RdE E w v l):l.length≤maxLen:=by
 obtain⟨a,cap,rfl,h1,h2,h3⟩:=h
 omega
theorem RdE.cell (hE:E.OK) {w:World} {a:Option Addr} {n cap:Nat} {l:List α} (h:RdE E w (.slice a n cap) l) (h0:0<l.length):∃b off,a=some ⟨b,off,none⟩∧b<w.heap.size ∧
  ∀j (hj:j<l.length) i,i<E.c→w.cell? ⟨b,off+j*E.c+i,none⟩=(E.cf l[j])[i]? := by
 obtain⟨a',c',e,_,_,h3⟩:=h
 cases e
 obtain⟨b,off,rfl,hlt,hc⟩:=h3 h0;refine⟨b,off,rfl,hlt,fun j hj i hi => ?_⟩;have h1:=El.flat_at hE l j i hj hi
 have h2:i<(E.cf l[j]).length:=by rw[hE.len];exact hi
 rw[K_ h2] at h1 ⊢;have := hc _ _ h1
 rwa [←Nat.add_assoc] at this
theorem RdE.flatc {w:World} {a:Option Addr} {n cap:Nat} {l:List α} (hE:E.OK) (h:RdE E w (.slice a n cap) l):∀b,a=some b→∀j u,(E.flat l)[j]?=some u→w.cell? (b.add j)=some u:=by
 obtain⟨a',c',e,_,_,h3⟩:=h
 cases e
 intro b hb j u hu
 have hj:0<l.length:=by
  rcases Nat.eq_zero_or_pos l.length with h0|h0
  ·have : l=[]:=List.length_eq_zero_iff.1 h0
   subst this
   simp[El.flat] at hu
  ·exact h0
 obtain⟨b0,off,e,_,hc⟩:=h3 hj;rw[hb] at e
 cases e
 have gX:(⟨b0,off,none⟩:Addr).add j=⟨b0,off+j,none⟩:=by unfold Addr.add;split <;> simp_all
 rw[gX];exact hc j u hu
def ap (E:El α) (w:World) (ai:Nat) (v:Value) (l:List α):Prop:=w.ownsRow ai E.T E.c v l.length (E.flat l)
theorem ap.rd {w:World} {ai:Nat} {v:Value} {l:List α} (h:ap E w ai v l):RdE E w v l:=by
 rcases h.2 with⟨rfl,h0⟩|⟨g,cap,cur,rfl,hb,hg,h1,h2,h3,h4⟩
 ·have : l=[]:=List.length_eq_zero_iff.1 h0
  subst this;exact RdE.nil w
 ·refine⟨_,cap,rfl,h1,h2,fun h0=>⟨g,0,rfl,(Q_.1 hg).1,fun j u hu => ?_⟩⟩
  have hj:j<(E.flat l).length:=(d_.1 hu).1;rw[a_,e_ _ _ _ _ _ _ hg,←hu,←h4,List.getElem?_take]
  have hj2:j<l.length*E.c:=by rw[←h4,b_] at hj;omega
  rw[G_ hj2,Array.getElem?_toList]
theorem ap.nil (w:World) (ai:Nat):ap E w ai (.slice none 0 0) []:=⟨by simp[El.flat],.inl ⟨rfl,rfl⟩⟩
theorem ap.keep {w w':World} {ai B:Nat} {v:Value} {l:List α} (h:ap E w ai v l) (hb:Below B w w') (hB:w.heap.size≤B):ap E w' ai v l:=by
 refine⟨h.1,?_⟩
 rcases h.2 with hn|⟨g,cap,cur,rfl,hg,hgg,r⟩
 ·exact .inl hn
 ·exact .inr ⟨g,cap,cur,rfl,hg,by rw[hb.block _ (P_ (Q_.1 hgg).1 hB)];exact hgg,r⟩
theorem ap.on {w w':World} {ai:Nat} {v:Value} {l:List α} (h:ap E w ai v l) (hb:Below w.heap.size w w'):ap E w' ai v l:=h.keep hb (A_ _)
theorem ap.mono {w:World} {ai base':Nat} {v:Value} {l:List α} (h:ap E w ai v l) (hb:base'≤ai):ap E w base' v l:=by
 refine⟨h.1,?_⟩
 rcases h.2 with hn|⟨g,cap,cur,rfl,hg,r⟩
 ·exact .inl hn
 ·exact .inr ⟨g,cap,cur,rfl,M_ hb hg,r⟩
theorem kR {w:World} {g g2 k:Nat} {v:Value} (h:g2≠g):(w.setCell ⟨g2,k,none⟩ v).heap[g]? = w.heap[g]? := by
 unfold World.setCell
 simp[Array.getElem?_modify,h]
theorem ap.setNe {w:World} {ai:Nat} {v:Value} {l:List α} {g2 k:Nat} {x:Value} (h:ap E w ai v l) (hne:v.ownBlock≠some g2):ap E (w.setCell ⟨g2,k,none⟩ x) ai v l:=by
 refine⟨h.1,?_⟩
 rcases h.2 with hn|⟨g,cap,cur,rfl,hg,hgg,r⟩
 ·exact .inl hn
 ·exact .inr ⟨g,cap,cur,rfl,hg,by rw[kR (fun e=>hne (by rw[e];rfl))];exact hgg,r⟩
theorem ap.lt {w:World} {ai:Nat} {v:Value} {l:List α} (h:ap E w ai v l):∀k,v.ownBlock=some k→ai≤k∧k<w.heap.size:=World.ownsRow.lt h
theorem ap.neNew {w:World} {ai:Nat} {v:Value} {l:List α} (h:ap E w ai v l) {g:Nat} (hg:w.heap.size≤g):v.ownBlock≠some g:=fun e=>by have := (h.lt g e).2;omega
theorem ap.neOld {w:World} {ai:Nat} {v:Value} {l:List α} (h:ap E w ai v l) {g:Nat} (hg:g<ai):v.ownBlock≠some g:=fun e=>by have := (h.lt g e).1;omega
theorem ap.neType {w:World} {ai:Nat} {v:Value} {l:List α} (h:ap E w ai v l) {g:Nat} {cs:Array Value} {T:TypeId} {fr:Nat × Nat} (hb:w.heap[g]?=some (.cells cs T fr)) (hT:T≠E.T):v.ownBlock≠some g:=by
 rcases h.2 with⟨rfl,_⟩|⟨g0,cap,cur,rfl,_,hg,_⟩
 ·simp[Value.ownBlock]
 ·intro e
  simp only[Value.ownBlock,Option.some.injEq] at e;subst e;rw[hg] at hb;simp only[Option.some.injEq,Obj.cells.injEq] at hb;exact hT hb.2.1.symm
theorem ap.grown {w w':World} {ai:Nat} {v:Value} {l:List α} {row:Option Nat} (h:ap E w ai v l) (hg:w.grownBy w' row) (hne:∀g,row=some g→v.ownBlock≠some g):ap E w' ai v l:=by
 refine World.ownsRow.kept h hg ?_
 cases hv:v.ownBlock with
 | none=>exact .inl rfl
 | some g =>
   refine .inr fun e => ?_;exact hne g e.symm (by rw[hv])
theorem bP (w:World) (x:α) (hE:E.OK):RdE E (w.alloc (.cells (E.cf x).toArray E.T)) (.slice (some ⟨w.heap.size,0,none⟩) 1 1) [x] :=
 ⟨_,1,rfl,A_ _,by unfold maxLen;omega,fun _=>⟨w.heap.size,0,rfl,by simp,fun j u hu=>by
  rw[e_ _ _ _ _ _ _ (heap_alloc_new _ _),a_]
  simpa [El.flat] using hu⟩⟩
theorem br {w:World} {ops:Array Oper} {rest:List Oper} {o:Oper} {a:Act} {Q:Exit→Act→World→Prop} (hE:E.OK) (hgd:o.guard=none) (s x:Operand)
  (ho:o.op = .call { callee := .builtin .append,args := #[s,x],argTypes := #[E.S,E.S] })
  (ai:Nat) (v:Value) (l:List α) (hs:a.eval s=v) (hown:ap E w ai v l) (xv:Value) (news:List α) (hx:a.eval x=xv) (hr:RdE E w xv news)
  (hsz:l.length+news.length≤1000000) (hbase:ai≤w.heap.size)
  (h:∀v' w',ap E w' ai v' (l++news)→w.grownBy w' v.ownBlock→(v'.ownBlock=v.ownBlock∨v'.ownBlock=some w.heap.size)→wpList prog ops Q rest (a.put o.dst v') w'):wpList prog ops Q (o::rest) a w:=by
 obtain⟨i0,z0,hi,hz,hs9,hz9,hb0,hb1⟩:=hE.info';have hfl:=hr;obtain⟨ad,cap,rfl,hcap,_,hc⟩:=hr;have hflat:=hfl.flatc hE
 cases ad with
 | some p =>
   refine wpList_append_own_at w hgd s x E.S ho ai E.T i0 z0 E.c i0.bytes hE.und hi hz hs9 rfl hz9 hE.pos v l.length (E.flat l) hs hown p news.length cap (E.flat news) hx (El.flat_len hE news) (hflat p rfl) (El.flat_one hE news)
    (by unfold maxLen;omega) (M_ (Nat.mul_le_mul hsz hb1) (by decide)) hbase ?_
   intro v' w' h1 h2 _ h3;refine h v' w' ?_ h2 h3;unfold ap;rw[E_,El.flat_append];exact h1
 | none =>
   have hn:news=[]:=by
    cases news with
    | nil=>rfl
    | cons c l =>
      obtain⟨b,off,e,_⟩:=hc (by simp)
      cases e
   subst hn
   have key:∃ad' n cap',v = .slice ad' n cap'∧n≤cap':=by
    rcases hown.2 with⟨rfl,_⟩|⟨g,cap',cur,rfl,_,_,h1,_⟩
    ·exact⟨none,0,0,rfl,A_ _⟩
    ·exact⟨_,_,_,rfl,h1⟩
   obtain⟨ad',n,cap',rfl,hle⟩:=key;have hrun:=run_append_nothing (P:=prog) w E.S E.S o.type E.T i0 hE.und hi ad' n cap' hle (.slice none 0 cap) (Src.ofNil w hE.und cap);refine wpList_plain hgd fun K hK => ?_;unfold Oper.wp execOp;have hx':a.eval x = .slice none 0 cap:=hx;simp only[ho,resolve,invoke,builtin,Sem.run_bind,Sem.run_pure,Result.andThen_ok,List.map_toArray,List.map_cons,List.map_nil,hs,hx',hrun];exact hK _ _ (h _ _ (by rw[List.append_nil];exact hown) ⟨rfl,rfl,rfl,A_ _,fun _ _ _=>rfl⟩ (.inl rfl))
theorem mW {w w':World} {v:Value} {B:Nat} (hg:w.grownBy w' v.ownBlock) (hB:B≤w.heap.size) (hv:∀k,v.ownBlock=some k→B≤k):Below B w w':=(O_ B w).grown hg hB hv
theorem ap.below {w w':World} {ai:Nat} {v:Value} {l:List α} (h:ap E w ai v l) (hg:w.grownBy w' v.ownBlock) (hB:ai≤w.heap.size):Below ai w w':=mW hg hB (fun k hk=>(h.lt k hk).1)
theorem fJ {w w':World} {row:Option Nat} (hg:w.grownBy w' row) {g:Nat} (hlt:g<w.heap.size) (hne:∀k,row=some k→k≠g):w'.heap[g]? = w.heap[g]? :=
 hg.block g hlt (fun e=>hne g e.symm rfl)
end
section
open Go.RowKit
inductive SP where
 | eq (c:Value)
 | pred (q:Value→World→Prop) (st:∀v w w',Below w.heap.size w w'→q v w→q v w')
def SP.p:SP→Value→World→Prop
 | .eq c,v,_=>v=c
 | .pred q _,v,w=>q v w
theorem SP.keep (R:SP) {v:Value} {w w':World} (hb:Below w.heap.size w w') (h:R.p v w):R.p v w':=by
 cases R with
 | eq c=>exact h
 | pred q st=>exact st v w w' hb h
def SP.any:SP := .pred (fun _ _=>True) (fun _ _ _ _ h=>h)
def SP.fresh (B:Nat) (cs:Array Value) (T:TypeId):SP :=
 .pred (fun v w=>∃g:Nat,v = .pointer (some ⟨g,0,none⟩)∧B≤g∧w.heap[g]?=some (.cells cs T (0,0)))
  (fun v w w' hb ⟨g,e,h1,h2⟩=>⟨g,e,h1,by rw[hb.block _ (Q_.1 h2).1];exact h2⟩)
def SP.of (l:List SP) (i:Nat):SP:=l.getD i SP.any
def upd (vals:Nat→Value) (i:Nat) (v:Value):Nat→Value:=fun j=>if j=i then v else vals j
theorem q9 {vals:Nat→Value} {i:Nat} {v:Value} (h:vals i=v):upd vals i v=vals:=by
 funext j
 unfold upd
 split
 ·rename_i e;rw[e,h]
 ·rfl
def ay (a:Act) (vals:Nat→Value):Nat→List Oper→Act
 | _,[]=>a
 | i,o::rest=>(ay a vals (i+1) rest).put o.dst (vals i)
def given (R:Nat→SP) (w:World) (body:(Nat→Value)→Prop):List Nat→(Nat→Value)→Prop
 | [],vals=>body vals
 | j :: l, vals => match R j with
   | .eq c=>given R w body l (upd vals j c)
   | .pred q _=>∀x,q x w→given R w body l (upd vals j x)
theorem nN {R:Nat→SP} {w:World} {body:(Nat→Value)→Prop} {vals:Nat→Value}:∀(l:List Nat),given R w body l vals→(∀j∈l,(R j).p (vals j) w)→body vals
 | [],h,_=>h
 | j :: l, h, hp => by
   have h1:=hp j (List.mem_cons_self ..);unfold given at h
   cases hr:R j with
   | eq c =>
     rw[hr] at h h1;have e:=q9 (vals:=vals) (i:=j) (v:=c) h1;simp only[e] at h;exact nN l h (fun k hk=>hp k (List.mem_cons_of_mem _ hk))
   | pred q st =>
     rw[hr] at h h1;have h2:=h (vals j) h1;rw[q9 rfl] at h2;exact nN l h2 (fun k hk=>hp k (List.mem_cons_of_mem _ hk))
def yN (o:Oper):List Nat:=((o.after.toList.filter (Region.binds .any)).map (·.on)).eraseDups
theorem lX {o:Oper} {j:Nat}:j∈yN o↔∃e∈o.after,Region.binds .any e=true∧e.on=j:=by
 simp[yN,and_assoc]
def Ct (F:(Nat→Value)→Act) (R:SP) (dst:Option Tmp) (vals:Nat→Value) (w:World) (Q:Exit→Act→World→Prop):Prop :=
 ∀v w',Below w.heap.size w w'→R.p v w'→Q .normal ((F vals).put dst v) w'
theorem ab {F:(Nat→Value)→Act} {R:SP} {dst:Option Tmp} {vals:Nat→Value} {w:World} {Q:Exit→Act→World→Prop} (h:Hid (Ct F R dst vals w Q)) (v:Value) {w':World} {a:Act} (ha:a=(F vals).put dst v) (hb:Below w.heap.size w w') (hr:R.p v w'):Q .normal a w':=by
 rw[ha];exact h.out v w' hb hr
def rR (P:Program) (ops:Array Oper) (B:Nat) (w0:World) (F:(Nat→Value)→Act) (R:Nat→SP) (ds:List (List Nat)):Nat→List Oper→Prop
 | _,[]=>True
 | i,o::rest=>(∀(w:World),Below B w0 w→∀vals:Nat→Value,given R w (fun vals=>∀Q:Exit→Act→World→Prop,Hid (Ct F (R i) o.dst vals w Q)→wpList P ops Q [o] (F vals) w) (ds.getD i []) vals)∧rR P ops B w0 F R ds (i+1) rest
def nk (F:(Nat→Value)→Act):Nat→List Oper→Prop
 | _,[]=>True
 | i,o::rest=>(∀vals v,(F vals).put o.dst v=F (upd vals i v))∧nk F (i+1) rest
theorem yf {P:Program} {ops:Array Oper} {B:Nat} {w0:World} {F:(Nat→Value)→Act} {R:Nat→SP} {ds:List (List Nat)}:∀(l:List Oper) (k:Nat),rR P ops B w0 F R ds k l→∀i o,l[i]?=some o →
  ∀(w:World),Below B w0 w→∀(vals:Nat→Value),given R w (fun vals=>∀Q:Exit→Act→World→Prop,Hid (Ct F (R (k+i)) o.dst vals w Q)→wpList P ops Q [o] (F vals) w) (ds.getD (k+i) []) vals
 | [],_,_,_,_,h=>by cases h
 | o::l,k,h,0,o',ho=>by cases ho;exact h.1
 | o :: l, k, h, i + 1, o', ho => by
   have := yf l (k+1) h.2 i o' ho
   rwa [show k+1+i=k+(i+1) by omega] at this
theorem rS {F:(Nat→Value)→Act}:∀(l:List Oper) (k:Nat),nk F k l→∀i o,l[i]?=some o→∀vals v,(F vals).put o.dst v=F (upd vals (k+i) v)
 | [],_,_,_,_,h=>by cases h
 | o::l,k,h,0,o',ho=>by cases ho;exact h.1
 | o :: l, k, h, i + 1, o', ho => by
   have := rS l (k+1) h.2 i o' ho
   rwa [show k+1+i=k+(i+1) by omega] at this
theorem iw {P:Program} {ops:Array Oper} {Q:Exit→Act→World→Prop} {i:Nat} {o:Oper} (ho:ops[i]?=some o) {K:Act→World→Prop} {a:Act} {w:World} (h:wpList P ops (Exit.then K Q) [o] a w):wpOp P ops Q i K a w:=by
 unfold wpOp;simp only[ho];unfold wpList at h
 split
 ·rename_i hw
  rw[G_ hw] at h
  rcases h with h|⟨h1,a',w',h2⟩
  ·refine .inl ?_
   unfold Oper.wp at h ⊢;generalize (execOp a.eval o).run P w=r at h ⊢
   cases r with
   | ok n w' =>
     cases n with
     | value v=>exact h
     | skip=>exact h
     | defer d=>exact h
     | enter f args =>
       refine Calls.mono h ?_;intro e w'' he
       cases e with
       | returned v=>exact he
       | panicked c=>exact he
       | outgrown=>obtain⟨a2,w2,h2⟩:=he;exact⟨a2,w2,h2⟩
     | row row args=>exact Rows.mono h (fun _ _ he=>he)
     | _=>exact h
   | halt x w' =>
     cases x with
     | panic u=>exact h
     | _=>exact h
  ·exact .inr ⟨h1,a',w',h2⟩
 ·rename_i hw
  rw[H_ hw] at h;exact h
def dH (n g:Nat):Array Bool:=(List.replicate n true++List.replicate g false).toArray
def vF (ops:Array Oper) (n:Nat) (ds:List (List Nat)):Bool :=
 decide (n≤ops.size) && Region.sinkB .any ops n && Region.chainB .any ops n && Region.seqB .any ops (ops.size-n) n (dH n (ops.size-n)) && (List.range n).all (fun i=>((ops[i]?).map (fun o=>(yN o).all (fun j=>decide (j<i)) && (ds.getD i []).all (fun j=>(yN o).contains j))).getD false)
theorem qE (m:Array Bool) (n:Nat) (hm:n≤m.size):(∀i,i<n→m.getD i false=true)∨∃i,i<n∧m.getD i false=false∧∀j,j<i→m.getD j false=true:=by
 induction n with
 | zero=>exact .inl (fun i hi=>absurd hi (Nat.not_lt_zero _))
 | succ n ih =>
   rcases ih (by omega) with h|⟨i,hi,h1,h2⟩
   ·cases hq:m.getD n false with
    | true=>exact .inl (fun i hi=>by rcases Nat.lt_or_ge i n with h'|h';exact h i h';rwa [show i=n by omega])
    | false=>exact .inr ⟨n,Nat.lt_succ_self n,hq,fun j hj=>h j hj⟩
   ·exact .inr ⟨i,by omega,h1,h2⟩
def fP (m:Array Bool) (n:Nat):Nat:=((List.range n).filter (fun i => !m.getD i false)).length
theorem CY (m:Array Bool) (i:Nat) (hi:i<m.size) (hu:m.getD i false=false) (l:List Nat) (hl:l.Nodup) (hmem:i∈l) :
  (l.filter (fun j => !(m.setIfInBounds i true).getD j false)).length+1=(l.filter (fun j => !m.getD j false)).length:=by
 induction l with
 | nil=>cases hmem
 | cons x l ih =>
   have hx:=List.nodup_cons.1 hl
   by_cases hxi:x=i
   ·subst hxi
    have h1:(m.setIfInBounds x true).getD x false=true:=by simp[hi]
    have h2:∀j∈l,(!(m.setIfInBounds x true).getD j false)=(!m.getD j false):=fun j hj=>by rw[getD_set_ne false (fun e:x=j=>hx.1 (by rw[e];exact hj))]
    rw[List.filter_cons,List.filter_cons,h1,hu,List.filter_congr h2]
    simp
   ·have h1:(m.setIfInBounds i true).getD x false=m.getD x false:=getD_set_ne false (fun e=>hxi e.symm)
    have hm':i∈l:=by rcases List.mem_cons.1 hmem with h|h;exact absurd h.symm hxi;exact h
    have := ih hx.2 hm';rw[List.filter_cons,List.filter_cons,h1]
    split <;> simp_all <;> omega
theorem wl (m:Array Bool) (n i:Nat) (hin:i<n) (hi:i<m.size) (hu:m.getD i false=false):fP (m.setIfInBounds i true) n+1=fP m n :=
 CY m i hi hu _ List.nodup_range (List.mem_range.2 hin)
theorem s6 {m:Array Bool} {n:Nat} (h:fP m n=0):∀i,i<n→m.getD i false=true:=by
 intro i hi;have h1:(List.range n).filter (fun i => !m.getD i false)=[]:=List.length_eq_zero_iff.1 h;have := (List.filter_eq_nil_iff.1 h1) i (List.mem_range.2 hi)
 simpa using this
theorem yg {P:Program} {Q:Exit→Act→World→Prop} {l:List Oper} {n B:Nat} {w0:World} {F:(Nat→Value)→Act} {R:Nat→SP} {ds:List (List Nat)} (hB:vF l.toArray n ds=true)
  (hput:nk F 0 (l.take n)) (hobs:rR P l.toArray B w0 F R ds 0 (l.take n)) (hfin:∀w,Below B w0 w→∀vals,given R w (fun vals=>wpList P l.toArray Q (l.drop n) (F vals) w) (List.range n) vals) (hB0:B≤w0.heap.size)
  (f:Nat):∀(m:Array Bool) (vals:Nat→Value) (w:World),HeadInv .any l.toArray n m→fP m n=f→Below B w0 w→(∀i,i<n→m.getD i false=true→(R i).p (vals i) w) →
   wpAny P .any l.toArray Q (f+(l.length-n)) m (F vals) w:=by
 simp only[vF,T_,decide_eq_true_eq] at hB;obtain⟨⟨⟨⟨hn,hs⟩,hc⟩,hseq⟩,hdep⟩:=hB
 have hnl:n≤l.length:=by simpa using hn
 induction f with
 | zero =>
   intro m vals w inv hu hb hR;have hall:=s6 hu
   have hm:m=dH n (l.length-n):=by
    apply Array.ext_getElem?
    intro i
    have hsz:m.size=l.length:=by simpa using inv.size
    unfold dH;simp only[List.getElem?_toArray]
    by_cases hi:i<n
    ·have h1:=hall i hi
     rw[List.getElem?_append_left (by simpa using hi),List.getElem?_replicate,G_ hi]
     have hi2:i<m.size:=by omega
     simp[hi2] at h1
     rw[Array.getElem?_eq_getElem hi2,h1]
    ·by_cases hi2:i<l.length
     ·have h1:=inv.tail i (by omega) (by simpa using hi2)
      rw[List.getElem?_append_right (by simp;omega),List.getElem?_replicate,G_ (by simp;omega)]
      have hi3:i<m.size:=by omega
      simp[hi3] at h1
      rw[Array.getElem?_eq_getElem hi3,h1]
     ·rw[List.getElem?_append_right (by simp;omega),List.getElem?_replicate,H_ (by simp;omega),Array.getElem?_eq_none (by omega)]
   have hd:(l.drop n).length=l.length-n:=by simp
   have := wpAny_of_seq (md := .any) (P:=P) (Q':=Q) (ops:=l.toArray) (l.drop n) n m (F vals) w (fun j=>by simp[List.getElem?_drop]) (by rw[hd,hm];simpa using hseq)
    (nN _ (hfin w hb vals) (fun j hj=>hR j (List.mem_range.1 hj) (hall j (List.mem_range.1 hj))))
   rw[a_]
   rwa [hd] at this
 | succ f ih =>
   intro m vals w inv hu hb hR
   have hsz:m.size=l.length:=by simpa using inv.size
   obtain⟨i0,hi0,hun0,hdone0⟩:∃i,i<n∧m.getD i false=false∧∀j,j<i→m.getD j false=true:=by
    rcases qE m n (by omega) with h|h
    ·have : fP m n=0:=by
      unfold fP;rw[List.length_eq_zero_iff,List.filter_eq_nil_iff];intro a ha;rw[h a (List.mem_range.1 ha)]
      simp
     omega
    ·exact h
   have hready0:i0∈Region.ready .any l.toArray m:=by
    rw[mem_ready]
    have hlt:i0<l.length:=by omega
    refine⟨getD_in (by omega) hun0,l[i0],by simp[hlt],fun e he hbn => ?_⟩;have h1:=List.all_eq_true.1 hdep i0 (List.mem_range.2 hi0);simp only[List.getElem?_toArray,K_ hlt,Option.map_some,Option.getD_some,T_] at h1;exact hdone0 _ (of_decide_eq_true (List.all_eq_true.1 h1.1 _ (lX.2 ⟨e,he,hbn,rfl⟩)))
   have hne:Region.ready .any l.toArray m≠[]:=List.ne_nil_of_mem hready0;rw[show f+1+(l.length-n)=(f+(l.length-n))+1 by omega];refine⟨fun h0=>absurd h0 hne,fun i hi => ?_⟩
   have hin:i<n:=by
    rcases Nat.lt_or_ge i n with h|h
    ·exact h
    ·obtain⟨_,oi,hoi,_⟩:=mem_ready.1 hi
     have hil:i<l.length:=by have := (Q_.1 hoi).1;simpa using this
     exact absurd hi (tail_waits hs hc (by simp;omega) inv _ i0 rfl hi0 (getD_in (by omega) hun0) i h)
   obtain⟨hund,oi,hoi,hdeps⟩:=mem_ready.1 hi
   have hoi2:(l.take n)[i]?=some oi:=by rw[List.getElem?_take,G_ hin];simpa using hoi
   have hui:m.getD i false=false:=getD_both hund
   have hob:=nN _ (yf (l.take n) 0 hobs i oi hoi2 w hb vals) (fun j hj=>by
    have h1:=List.all_eq_true.1 hdep i (List.mem_range.2 hin)
    have hil:i<l.length:=by omega
    have hoi3:l[i]?=some oi:=by simpa using hoi
    simp only[List.getElem?_toArray,hoi3,Option.map_some,Option.getD_some,T_] at h1;rw[a_] at hj;have hjd:=List.contains_iff_mem.1 (List.all_eq_true.1 h1.2 j hj);obtain⟨e,he,hbn,rfl⟩:=lX.1 hjd;have hlt:=of_decide_eq_true (List.all_eq_true.1 h1.1 _ hjd)
    exact hR _ (by omega) (hdeps e he hbn))
   refine iw hoi (hob _ (O ?_));intro v w' hb' hr
   show wpAny P .any l.toArray Q (f+(l.length-n)) (m.setIfInBounds i true) _ w'
   have hpu:=rS (l.take n) 0 hput i oi hoi2 vals v;rw[hpu,a_];rw[a_] at hr;have hus:=wl m n i hin (by omega) hui;refine ih _ _ _ (inv.set hi hin) (by omega) (hb.trans (hb'.mono (by have := hb.size;omega))) ?_;intro j hj hjd;unfold upd
   by_cases hji:j=i
   ·subst hji
    rw[G_ rfl];exact hr
   ·rw[H_ hji]
    rw[getD_set_ne false (fun e=>hji e.symm)] at hjd;exact(R j).keep hb' (hR j hj hjd)
theorem aY {P:Program} {id:Nat} {Q:Exit→Act→World→Prop} {a:Act} {w:World} {l:List Oper} (n:Nat) (ds:List (List Nat)) (R:Nat→SP) (vals0:Nat→Value) (hm:P.follows .mixedOrders=true) (hB:vF l.toArray n ds=true)
  (ha:a=ay a vals0 0 (l.take n)) (hput:nk (fun vals=>ay a vals 0 (l.take n)) 0 (l.take n))
  (hobs:rR P l.toArray w.heap.size w (fun vals=>ay a vals 0 (l.take n)) R ds 0 (l.take n))
  (hfin:∀w',Below w.heap.size w w'→∀vals,given R w' (fun vals=>wpList P l.toArray Q (l.drop n) (ay a vals 0 (l.take n)) w') (List.range n) vals):(Code.region id l.toArray true).wp P Q a w:=by
 refine wp_region_any hm ?_
 have hn:n≤l.length:=by
  have h:=hB;simp only[vF,T_,decide_eq_true_eq] at h
  simpa using h.1.1.1.1
 have inv:HeadInv .any l.toArray n (Array.replicate l.toArray.size false) :=
  ⟨by simp,fun j oj _ hl=>absurd hl (by rw[getD_replicate_false];exact Bool.false_ne_true),fun t _ h2=>getD_in (by simpa using h2) (getD_replicate_false _ _)⟩
 have hu:fP (Array.replicate l.toArray.size false) n=n:=by
  unfold fP;rw[List.filter_eq_self.2 (fun i _=>by rw[getD_replicate_false];rfl),List.length_range]
 have := yg (P:=P) (Q:=Q) (w0:=w) (R:=R) hB hput hobs hfin (A_ _) n _ vals0 w.drew inv hu ((O_ _ _).drew) (fun i _ h=>by rw[getD_replicate_false] at h;cases h);rw[show n+(l.length-n)=l.toArray.size by simp;omega] at this;rw[ha];exact this
open Go.RowKit
abbrev eI:El Int:=⟨3,59,1,fun n=>[.int .i64 n]⟩
theorem iB:eI.OK:=⟨underlying59,by kernel_rfl,fun _=>rfl,fun x u hu=>by simp at hu;rw[hu];rfl,by decide⟩
end
end Go.Proofs.YtmfiaadjdbemnaaGreatDoor
