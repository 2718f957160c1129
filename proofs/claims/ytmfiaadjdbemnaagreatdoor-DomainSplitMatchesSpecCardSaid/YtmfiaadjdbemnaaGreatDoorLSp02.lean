/- Contracts and lemmas. No condition. -/
import Derived.Test.YtmfiaadjdbemnaaGreatDoorLSp01
import Derived.Test.YtmfiaadjdbemnaaGreatDoorLFound05
import Derived.Deep.Cut
set_option maxRecDepth 100000
set_option maxHeartbeats 8000000
set_option linter.unusedSimpArgs false
set_option linter.unusedVariables false
namespace Go.Proofs.YtmfiaadjdbemnaaGreatDoor
open Go.Proofs.Tryz
section
open Go.RowKit
attribute [local irreducible] win Calls
theorem ov (k:K) (w:World):Calls prog 75 #[kv k] w fun e w'=>e = .returned (.bool (bf k))∧Below w.heap.size w w':=by
 unfold kv kc;have hb:=(O_ w.heap.size w).alloc (A_ _) (.cells #[.int .i64 k.id,.int .i64 k.ty,.string ⟨k.val.toArray⟩,.int .i64 k.uses,.int .i64 k.start,.int .i64 k.fin,.int .i64 k.ver,.int .i64 k.par,.bool k.raw] 86);have HB:=O hb;clear hb
 go_enter func75,ntmps75
 go_wp2_with (go_at_call 74;refine(Af _ _ _ _).mono ?_;rintro e _ ⟨rfl,rfl⟩)
 all_goals
  go_ret;refine⟨?_,HB.out⟩
  simp_all [bf,wu]
end
section
open Go.RowKit Go.Shelf
attribute [local irreducible] Calls
theorem MB (n hi:Int) (w:World):Calls prog 124 #[.int .i64 n,.int .i64 hi] w fun e w'=>e = .returned (.bool (win n 0 hi))∧w'=w:=by
 unfold win
 by_cases h1:0≤n
 ·by_cases h2:n≤hi
  ·go_enter func124,ntmps124
   go_wp2;go_ret
   simp[h1,h2]
  ·go_enter func124,ntmps124
   go_wp2;go_ret
   simp[h1,h2]
 ·go_enter func124,ntmps124
  go_wp2;go_ret;refine⟨?_,rfl⟩;rw[V_ (by omega:¬0≤n)]
  rfl
end
section
open Go.RowKit Go.Shelf
theorem Be (b:BK) (l:List K) :
  (eY b l=true∧win b.ep 0 2147483647=true∧win b.num 0 2147483647=true∧win b.fw 0 2147483647=true∧win b.tm 0 1099511627776=true∧¬(b.mo.length:Int)<1∧¬12<(b.mo.length:Int)∧¬4096<(l.length:Int)) ∨
  (eY b l=false∧win b.ep 0 2147483647=false) ∨
  (eY b l=false∧win b.ep 0 2147483647=true∧win b.num 0 2147483647=false) ∨
  (eY b l=false∧win b.ep 0 2147483647=true∧win b.num 0 2147483647=true∧win b.fw 0 2147483647=false) ∨
  (eY b l=false∧win b.ep 0 2147483647=true∧win b.num 0 2147483647=true∧win b.fw 0 2147483647=true∧win b.tm 0 1099511627776=false) ∨
  (eY b l=false∧win b.ep 0 2147483647=true∧win b.num 0 2147483647=true∧win b.fw 0 2147483647=true∧win b.tm 0 1099511627776=true∧(b.mo.length:Int)<1) ∨
  (eY b l=false∧win b.ep 0 2147483647=true∧win b.num 0 2147483647=true∧win b.fw 0 2147483647=true∧win b.tm 0 1099511627776=true∧¬(b.mo.length:Int)<1∧12<(b.mo.length:Int)) ∨
  (eY b l=false∧win b.ep 0 2147483647=true∧win b.num 0 2147483647=true∧win b.fw 0 2147483647=true∧win b.tm 0 1099511627776=true∧¬(b.mo.length:Int)<1∧¬12<(b.mo.length:Int)∧4096<(l.length:Int)):=by
 unfold eY
 cases h1:win b.ep 0 2147483647
 ·simp
 cases h2:win b.num 0 2147483647
 ·simp
 cases h3:win b.fw 0 2147483647
 ·simp
 cases h4:win b.tm 0 1099511627776
 ·simp
 by_cases h5:(b.mo.length:Int)<1
 ·have : ¬1≤b.mo.length:=by omega
  simp[h5,this]
 by_cases h6:12<(b.mo.length:Int)
 ·have : ¬b.mo.length≤12:=by omega
  simp[h5,h6,this]
 by_cases h7:4096<(l.length:Int)
 ·have : ¬l.length≤4096:=by omega
  simp[h5,h6,h7,this]
 have a5:1≤b.mo.length:=by omega
 have a6:b.mo.length≤12:=by omega
 have a7:l.length≤4096:=by omega
 simp[h5,h6,h7,a5,a6,a7]
attribute [local irreducible] Calls aI okB bf cv win eY
theorem rg (b:BK) (u:Value) (l:List K) (w:World) (hv:RdK w u l) :
  Calls prog 80 #[.agg (bc b u)] w fun e w'=>e = .returned (.bool (aI b l))∧Below w.heap.size w w':=by
 have hlen:=hv.len;unfold maxLen at hlen;obtain⟨W0,hW0⟩:∃W0,W0=w.alloc (.cells (bc b u) 47):=⟨_,rfl⟩
 have hvw:RdK W0 u l:=by rw[hW0];exact hv.alloc _
 have hbx:∀w1,Below W0.heap.size W0 w1→w1.cell? ⟨w.heap.size,37,none⟩=some u:=by
  intro w1 h;rw[hW0] at h;rw[gi _ _ _ h 37];exact iU b u
 have hbe:∀w1,Below W0.heap.size W0 w1→Below w.heap.size w w1:=by
  intro w1 h;rw[hW0] at h;exact cJ _ _ h
 have hsz:w.heap.size<W0.heap.size:=by rw[hW0];simp
 have HV:=O hvw;have HBX:=O hbx;have HBE:=O hbe;have HW:=O hW0
 have hve:aI b l=(eY b l && (List.range l.length).all (okB l)):=by unfold aI;rfl
 rw[hve];obtain⟨a,cap,rfl,_,_,_⟩:=hv;clear hW0 hvw hbx hbe hve
 rcases Be b l with⟨hh,f1,f2,f3,f4,f5,f6,f7⟩|⟨hh,f1⟩|⟨hh,f1,f2⟩|⟨hh,f1,f2,f3⟩|⟨hh,f1,f2,f3,f4⟩|⟨hh,f1,f2,f3,f4,f5⟩|⟨hh,f1,f2,f3,f4,f5,f6⟩|⟨hh,f1,f2,f3,f4,f5,f6,f7⟩
 case inl =>
  rw[hh,Bool.true_and];have HT0:=O (fun i hi h=>uf l i hi h);have HT1:=O (wN l);clear hh
  go_enter func80,ntmps80
  go_wp2_with (go_at_call 124;refine(MB _ _ _).mono ?_;rintro e wf ⟨rfl,hwf⟩;rw[hwf];clear hwf)
  go_loopw [3,4] (fun la o wr=>∃i:Nat,i≤l.length∧o = .int .i64 i∧la = .int .i64 (cv l i)∧Hid (∀j,j<i→okB l j=true)∧Below W0.heap.size W0 wr) (fun _ o _=>l.length-(intOf o).toNat)
  case atStart=>exact⟨0,N_ _,rfl,by rw[gR],O (fun j hj=>absurd hj (by omega)),by rw[←HW.out];exact O_ _ _⟩
  case round =>
   obtain⟨i,hi,rfl,rfl,hno,hb⟩:=hrel;have t1:=HBX.out wr hb;have hbs:=hb.size
   by_cases hlt:i<l.length
   ·obtain⟨bb,off,rfl,hbl,aO⟩:=((HV.out.on hb).cells) (by omega)
    obtain⟨d0,d1,d2,d3,d4,d5,d6,d7,d8⟩:=aO i hlt
    have i1:(i:Int)<l.length:=by omega
    have HK:=O hlt;have HNO:=hno;have HB:=O hb;have hval:=ov (ae l i) wr
    have hbx2:∀w1,Below wr.heap.size wr w1→w1.cell? ⟨bb,off+i*9,none⟩=some (.int .i64 (ae l i).id)∧w1.cell? ⟨w.heap.size,37,none⟩=some (.slice (some ⟨bb,off,none⟩) l.length cap)∧Below W0.heap.size W0 w1:=by
     intro w1 h;have h2:=HB.out.trans (h.mono hbs);exact⟨by rw[h.cell (p:=⟨bb,off+i*9,none⟩) hbl];exact d0,HBX.out _ h2,h2⟩
    unfold kv kc at hval;have HLS:=O (gQ l i);have HX2:=O hbx2;clear aO hb hno hbx2
    rcases BA l i with⟨ho,h1⟩|⟨ho,h1,h2⟩|⟨ho,h1,h2,h3⟩|⟨ho,h1,h2,h3⟩
    case inr.inr.inr =>
     rw[h1] at hval;have HVAL:=O hval;have HO:=O ho;clear hval h1 ho
     go_wp2_with (go_at_call 75;refine HVAL.out.mono ?_;rintro e w1 ⟨rfl,hb'⟩;obtain⟨e0,n0,hbb⟩:=HX2.out _ hb';clear hb')
     go_roundw
     case rel=>exact⟨i+1,HK.out,by go_num,by rw[HLS.out],O (fun j hj=>by
      by_cases e:j=i
      ·subst e;exact HO.out
      ·exact HNO.out j (by omega)),hbb⟩
     case measure=>have := HK.out;simp[intOf];omega
    all_goals
     have HRES:=O (HT0.out i HK.out ho);rw[h1] at hval;have HVAL:=O hval;clear hval h1 ho
     go_wp2_with (go_at_call 75;refine HVAL.out.mono ?_;rintro e w1 ⟨rfl,hb'⟩;obtain⟨e0,n0,hbb⟩:=HX2.out _ hb';clear hb')
     go_ret;exact⟨by rw[HRES.out];rfl,HBE.out _ hbb⟩
   ·have he:i=l.length:=by omega
    have i1:(l.length:Int)≤i:=by omega
    have HRES:=O (HT1.out (fun j hj=>hno.out j (by omega)));clear hno he;go_wp2;go_ret;exact⟨by rw[HRES.out];rfl,HBE.out _ hb⟩
 all_goals
  rw[hh,Bool.false_and];clear hh
  go_enter func80,ntmps80
  go_wp2_with (go_at_call 124;refine(MB _ _ _).mono ?_;rintro e wf ⟨rfl,hwf⟩;rw[hwf];clear hwf)
  go_ret;exact⟨rfl,HBE.out _ (by rw[←HW.out];exact O_ _ _)⟩
end
section
open Go.RowKit Go.Shelf
structure PK where
 dom:List UInt8
 pol:List UInt8
 fw:Int
 num:Int
def pc (p:PK):Array Value := #[aq p.dom 0,aq p.dom 1,aq p.dom 2,aq p.dom 3,aq p.dom 4,aq p.dom 5,aq p.dom 6,aq p.dom 7,aq p.dom 8,aq p.dom 9,aq p.dom 10,aq p.dom 11,aq p.dom 12,aq p.dom 13,aq p.dom 14,aq p.dom 15,aq p.pol 0,aq p.pol 1,aq p.pol 2,aq p.pol 3,aq p.pol 4,aq p.pol 5,aq p.pol 6,aq p.pol 7,aq p.pol 8,aq p.pol 9,aq p.pol 10,aq p.pol 11,aq p.pol 12,aq p.pol 13,aq p.pol 14,aq p.pol 15,.int .i64 p.fw,.int .i64 p.num]
open Go.RowKit Go.Shelf
structure PS where
 nx:Int
 ks:List K
 ps:List (Int × Int)
 ids:List Int
theorem mj (l:List K) (i:Nat) (h:i<l.length):l.take (i+1)=l.take i++[ae l i]:=by
 rw[az l i h];exact List.take_succ_eq_append_getElem h
open Go.RowKit
def pQ (w:World) (lo g:Nat):Prop:=∀k,k<8→∃b,lo≤b∧b<w.heap.size∧w.cell? ⟨g,k,none⟩=some (.slice (some ⟨b,0,none⟩) 4 4) ∧
 ∀j,j<4→w.cell? ⟨b,j,none⟩=some (.int .i64 ((C3.order.getD k []).getD j 0:Nat))
theorem pQ.keep {w w':World} {lo g:Nat} (h:pQ w lo g) (hg:lo≤g) (hg2:g<w.heap.size) (hs:w.heap.size≤w'.heap.size) (hb:∀b,lo≤b→b<w.heap.size→w'.heap[b]? = w.heap[b]?):pQ w' lo g:=by
 intro k hk;obtain⟨b,h1,h2,h3,h4⟩:=h k hk;refine⟨b,h1,by omega,?_,fun j hj => ?_⟩
 ·rw[←h3];exact World.cell?_of_block (hb g hg hg2)
 ·rw[←h4 j hj];exact World.cell?_of_block (hb b h1 h2)
theorem O5 (w:World):Calls prog 195 #[] w fun e w'=>∃g,e = .returned (.slice (some ⟨g,0,none⟩) 8 8)∧w.heap.size≤g∧g<w'.heap.size∧pQ w' w.heap.size g∧Below w.heap.size w w':=by
 go_enter func195,ntmps195
 go_wp2;go_ret;refine⟨_,rfl,by omega,by simp,?_,?_⟩
 ·intro k hk
  have h8:k=0∨k=1∨k=2∨k=3∨k=4∨k=5∨k=6∨k=7:=by omega
  refine⟨w.heap.size+k,by omega,by simp;omega,?_,fun j hj => ?_⟩
  ·rcases h8 with rfl|rfl|rfl|rfl|rfl|rfl|rfl|rfl <;> simp[go_sem]
  ·have h4:j=0∨j=1∨j=2∨j=3:=by omega
   rcases h8 with rfl|rfl|rfl|rfl|rfl|rfl|rfl|rfl <;> rcases h4 with rfl|rfl|rfl|rfl <;> simp[go_sem,C3.order]
 ·repeat (first |exact O_ _ _|refine Below.alloc ?_ (by simp;try omega) _)
theorem KV:∀k,k<8→((C3.order.getD k []).getD 0 0<16∧(C3.order.getD k []).getD 1 0<16∧(C3.order.getD k []).getD 2 0<16∧(C3.order.getD k []).getD 3 0<16) ∧
  ((C3.order.getD k []).getD 0 0≠(C3.order.getD k []).getD 1 0∧(C3.order.getD k []).getD 0 0≠(C3.order.getD k []).getD 2 0∧(C3.order.getD k []).getD 0 0≠(C3.order.getD k []).getD 3 0) ∧
  ((C3.order.getD k []).getD 1 0≠(C3.order.getD k []).getD 2 0∧(C3.order.getD k []).getD 1 0≠(C3.order.getD k []).getD 3 0∧(C3.order.getD k []).getD 2 0≠(C3.order.getD k []).getD 3 0):=by decide
structure yv (w:World) (g:Nat) (X:List UInt32) (wr:World):Prop where
 row:wr.heap[w.heap.size]?=some (.cells (row X) 226 (0,0))
 res:wr.heap[w.heap.size+1]?=some (.cells sx 226 (0,0))
 ord:pQ wr (w.heap.size+2) g
 g1:w.heap.size+2≤g
 g2:g<wr.heap.size
 below:Below w.heap.size w wr
theorem yv.next {w:World} {g:Nat} {X Y:List UInt32} {wr w2:World} (h:yv w g X wr) (n:Nat) (hb:Below wr.heap.size (wr.drewN n) w2):yv w g Y (w2.setRow w.heap.size (Go.Proofs.YtmfiaadjdbemnaaGreatDoor.row Y)):=by
 have hB:w.heap.size<wr.heap.size:=by have := h.g1;have := h.g2;omega
 have e1:w2.heap[w.heap.size]?=some (.cells (Go.Proofs.YtmfiaadjdbemnaaGreatDoor.row X) 226 (0,0)):=by rw[hb.block _ hB];exact h.row
 have hs:wr.heap.size≤w2.heap.size:=hb.size;refine⟨setRow_heap _ _ _ _ _ _ e1,?_,?_,h.g1,?_,?_⟩
 ·rw[setRow_other _ _ _ _ (by omega),hb.block _ (by have := h.g1;have := h.g2;omega)];exact h.res
 ·refine h.ord.keep h.g1 h.g2 (by rw[size_setRow];exact hs) (fun b h1 h2 => ?_)
  rw[setRow_other _ _ _ _ (by omega),hb.block _ h2];rfl
 ·have := h.g2;rw[size_setRow];omega
 ·exact below_setRow (h.below.trans ((ak n (O_ _ _)).trans (hb.mono (by omega)))) (A_ _) _
theorem DA (s:List UInt32) (hl:s.length=16) (w:World) :
  Calls prog 185 #[.agg (row s)] w fun e w'=>e = .returned (.agg (row (C3.rounds s 10)))∧Below w.heap.size w w':=by
 go_enter func185,ntmps185
 go_wp2_with (go_at_call 195;refine(O5 _).mono ?_;rintro e w1 ⟨g,rfl,hg1,hg2,hord,hb1⟩)
 simp only[World.size_alloc] at hg1 hg2 hord hb1
 have I0:yv w g s w1:=by
  refine⟨?_,?_,hord,hg1,hg2,?_⟩
  ·rw[hb1.block _ (by omega),bx _ _ _ (by simp),al _ _ _ rfl]
  ·rw[hb1.block _ (by omega),al _ _ _ (by simp)];rfl
  ·exact(((O_ _ _).alloc (A_ _) _).alloc (by simp) _).trans (hb1.mono (by omega))
 clear hord hb1 hg1 hg2
 go_loopw [4] (fun i wr=>∃m:Nat,m≤10∧i = .int .i64 m∧yv w g (C3.rounds s m) wr) (fun i _=>10-(intOf i).toNat)
 case atStart=>exact⟨0,by omega,rfl,I0⟩
 case round =>
  obtain⟨m,hm,rfl,I⟩:=hrel
  have hlen:(C3.rounds s m).length=16:=by rw[C3.length_rounds,hl]
  by_cases hlt:m<10
  ·have hd:decide ((m:Int)<10)=true:=by simp;omega
   go_wp2
   go_loopw [5] (fun i wr=>∃k:Nat,k≤8∧i = .int .i64 k∧yv w g (C3.qk (C3.rounds s m) k) wr) (fun i _=>8-(intOf i).toNat)
   case atStart=>exact⟨0,by omega,rfl,I⟩
   case round =>
    clear I
    rename_i wq
    obtain⟨k,hk,rfl,I⟩:=hrel
    have hlenk:(C3.qk (C3.rounds s m) k).length=16:=by rw[C3.length_qk,hlen]
    by_cases hlt2:k<8
    ·obtain⟨b,hb1,hb2,hc,hcj⟩:=I.ord k hlt2
     have q0:=hcj 0 (by omega);have q1:=hcj 1 (by omega);have q2:=hcj 2 (by omega);have q3:=hcj 3 (by omega);obtain⟨⟨b0,b1,b2,b3⟩,⟨n01,n02,n03⟩,⟨n12,n13,n23⟩⟩:=KV k hlt2;have hq:C3.qk (C3.rounds s m) (k+1)=C3.qset (C3.qk (C3.rounds s m) k) ((C3.order.getD k []).getD 0 0) ((C3.order.getD k []).getD 1 0) ((C3.order.getD k []).getD 2 0) ((C3.order.getD k []).getD 3 0):=rfl;clear hcj;generalize (C3.order.getD k []).getD 0 0=o0 at *;generalize (C3.order.getD k []).getD 1 0=o1 at *;generalize (C3.order.getD k []).getD 2 0=o2 at *;generalize (C3.order.getD k []).getD 3 0=o3 at *;have HQ:=O hq;clear hq;have aO:∀i,wr.cell? ⟨w.heap.size,i,none⟩=(row (C3.qk (C3.rounds s m) k))[i]? := fun i=>e_ _ _ i _ _ _ I.row
     have hB:w.heap.size<wr.heap.size:=by have := I.g1;have := I.g2;omega
     go_wp2;refine dD 25 (by kernel_rfl) (by kernel_rfl) ?_;simp only[F_,c_,J_,L_]
     repeat (first |go_big_quiet_step (fail)|quiet_step (fail))
     refine h_ ?_;rintro _ ⟨nq,rfl⟩;clear aO
     go_wp2_with (first
      |(go_at_call 196;refine(BP _ _ hlenk o0 o1 o2 o3 b0 b1 b2 b3 n01 n02 n03 n12 n13 n23).mono ?_;rintro e w2 ⟨rfl,hb⟩)
      |(refine gN rfl (.tmp 1) (.tmp 42) rfl _ _ rfl rfl 226 _ ((hb.block _ hB).trans I.row) (by rw[co,hlenk]) (by rw[C3.length_qset,hlenk]) ?_))
     go_roundw
     case rel=>exact⟨k+1,by omega,by go_num,by rw[HQ.out];exact I.next nq hb⟩
     case measure=>simp[intOf];omega
    ·have he:k=8:=by omega
     have HE:=O he;clear he;go_wp2;go_roundw
     case rel=>exact⟨m+1,by omega,by go_num,by have := I;rw[HE.out] at this;exact this⟩
     case measure=>simp[intOf];omega
  ·have he:m=10:=by omega
   have HE:=O he;clear he
   go_wp2_with (first
         |(refine ng rfl (.tmp 1) rfl _ rfl _ 226 I.row hlen ?_)
         |(refine gN rfl (.tmp 2) (.tmp 43) rfl _ _ rfl rfl 226 _ I.res rfl hlen ?_))
   refine g_ (v := .agg (row _)) (zv rfl _ _ _ _ _ rfl (setRow_heap _ _ _ _ _ _ I.res) hlen) rfl ⟨by rw[HE.out],?_⟩;exact below_setRow I.below (by omega) _
open Go.RowKit
attribute [local irreducible] Calls bF aV
theorem EU (v:Value) (l:List Int) (w:World) (hv:RdE eI w v l) (hok:∀x∈l,okI x) (hl:(cd l).length≤900000) (hn:l.length≤900000) :
  Calls prog 130 #[v] w fun e w'=>∃v',e = .returned v'∧ap eB w' w.heap.size v' (cd l)∧Below w.heap.size w w':=by
 have HV:=O hv;have HL:=O hl;have HOK:=O hok
 have hni:(l.length:Int)≤900000:=by omega
 have HN:=O hn;have hE:cd l=bF l.length++ea bF l:=rfl;have HE:=O hE;obtain⟨a,cap,rfl,_,_,_⟩:=hv;clear hl hok hE hn
 go_enter func130,ntmps130
 go_wp2_with (go_at_call 132;refine(Bj (l.length:Int) (by omega) (by have := HN.out;omega) _).mono ?_;rintro e w1 ⟨v1,rfl,ho1,hb1⟩;have HO1:=O ho1;have HB1:=O hb1;clear ho1 hb1)
 go_loopw [4,3] (fun i o wr=>∃j:Nat,j≤l.length∧i = .int .i64 j∧Hid (ap eB wr w.heap.size o (bF l.length++ea bF (l.take j)))∧Hid (Below w.heap.size w wr)) (fun i _ _=>l.length-(intOf i).toNat)
 case atStart=>exact⟨0,N_ _,rfl,O (by rw[c_,fj,List.append_nil];exact HO1.out),HB1⟩
 case round =>
  obtain⟨j,hj,rfl,hown,hb⟩:=hrel
  by_cases hlt:j<l.length
  ·have j1:(j:Int)<l.length:=by omega
   obtain⟨bb,off,rfl,hbl,aO⟩:=iE (HV.out.on hb.out) (by omega);have cj:=aO j hlt;have hx:=HOK.out l[j] (List.getElem_mem hlt);have HT:=O (kU bF l j hlt)
   have hle:(bF (l.length:Int)++(ea bF (l.take j)++bF l[j])).length≤900000:=by
    rw[←HT.out];have h1:=HL.out;rw[HE.out,E_] at h1;have := hG bF l (j+1);rw[E_]
    omega
   generalize l[j]=x at cj hx HT hle;have HX:=O hx;have HLE:=O hle;have HJ:=O hlt;clear aO hx hlt hle
   go_wp2_with (first
    |(go_at_call 132;refine(Bj x HX.out.1 HX.out.2 _).mono ?_;rintro e w2 ⟨v2,rfl,ho2,hb2⟩;have HO2:=O ho2;have HB2:=O hb2;clear ho2 hb2)
    |(at_builtin;refine br aN rfl (.tmp 14) (.tmp 19) rfl w.heap.size _ _ rfl (hown.out.on HB2.out) _ (bF x) rfl HO2.out.rd (by have := HLE.out;rw[E_,E_] at this;rw[E_];omega) (M_ hb.out.size HB2.out.size) ?_;intro v3 w3 ho3 hg3 _;have HO3:=O ho3;have HB3:Hid (Below w.heap.size w w3):=(O ((hb.out.trans (HB2.out.mono hb.out.size)).grown hg3 (M_ hb.out.size HB2.out.size) (fun k hk2=>(hown.out.lt k hk2).1)));clear ho3 hg3))
   go_roundw
   case rel=>exact⟨j+1,HJ.out,by go_num,O (by rw[HT.out,←R_];exact HO3.out),HB3⟩
   case measure=>have := HJ.out;simp[intOf];omega
  ·have he:j=l.length:=by omega
   have j1:¬(j:Int)<l.length:=by omega
   have HF:Hid (bF l.length++ea bF (l.take j)=cd l):=O (by rw[he,List.take_length];rfl);clear he hlt hj;go_wp2;go_ret;exact⟨_,rfl,by rw[←HF.out];exact hown.out,hb.out⟩
theorem vX (v:Value) (l:List (List UInt8)) (w:World) (hv:RdE eS w v l) (hl:(eN l).length≤900000) (hn:l.length≤900000) :
  Calls prog 131 #[v] w fun e w'=>∃v',e = .returned v'∧ap eB w' w.heap.size v' (eN l)∧Below w.heap.size w w':=by
 have HV:=O hv;have HL:=O hl
 have hni:(l.length:Int)≤900000:=by omega
 have HN:=O hn;have hE:eN l=bF l.length++ea aV l:=rfl;have HE:=O hE;obtain⟨a,cap,rfl,_,_,_⟩:=hv;clear hl hE hn
 go_enter func131,ntmps131
 go_wp2_with (go_at_call 132;refine(Bj (l.length:Int) (by omega) (by have := HN.out;omega) _).mono ?_;rintro e w1 ⟨v1,rfl,ho1,hb1⟩;have HO1:=O ho1;have HB1:=O hb1;clear ho1 hb1)
 go_loopw [4,3] (fun i o wr=>∃j:Nat,j≤l.length∧i = .int .i64 j∧Hid (ap eB wr w.heap.size o (bF l.length++ea aV (l.take j)))∧Hid (Below w.heap.size w wr)) (fun i _ _=>l.length-(intOf i).toNat)
 case atStart=>exact⟨0,N_ _,rfl,O (by rw[c_,fj,List.append_nil];exact HO1.out),HB1⟩
 case round =>
  obtain⟨j,hj,rfl,hown,hb⟩:=hrel
  by_cases hlt:j<l.length
  ·have j1:(j:Int)<l.length:=by omega
   obtain⟨bb,off,rfl,hbl,aO⟩:=dQ (HV.out.on hb.out) (by omega);have cj:=aO j hlt;have HT:=O (kU aV l j hlt)
   have hle:(bF (l.length:Int)++(ea aV (l.take j)++aV l[j])).length≤900000:=by
    rw[←HT.out];have h1:=HL.out;rw[HE.out,E_] at h1;have := hG aV l (j+1);rw[E_]
    omega
   have hxl:l[j].length≤(aV l[j]).length:=by unfold aV;rw[E_];omega
   generalize l[j]=x at cj HT hle hxl;have HLE:=O hle;have HXL:=O hxl;have HJ:=O hlt;clear aO hlt hle hxl
   go_wp2_with (first
    |(go_at_call 84;refine(lH x _ (by have h1:=HLE.out;have h2:=HXL.out;rw[E_,E_] at h1;omega)).mono ?_;rintro e w2 ⟨v2,rfl,ho2,hb2⟩;have HO2:=O ho2;have HB2:=O hb2;clear ho2 hb2)
    |(at_builtin;refine br aN rfl (.tmp 14) (.tmp 19) rfl w.heap.size _ _ rfl (hown.out.on HB2.out) _ (aV x) rfl HO2.out.rd (by have := HLE.out;rw[E_,E_] at this;rw[E_];omega) (M_ hb.out.size HB2.out.size) ?_;intro v3 w3 ho3 hg3 _;have HO3:=O ho3;have HB3:Hid (Below w.heap.size w w3):=(O ((hb.out.trans (HB2.out.mono hb.out.size)).grown hg3 (M_ hb.out.size HB2.out.size) (fun k hk2=>(hown.out.lt k hk2).1)));clear ho3 hg3))
   go_roundw
   case rel=>exact⟨j+1,HJ.out,by go_num,O (by rw[HT.out,←R_];exact HO3.out),HB3⟩
   case measure=>have := HJ.out;simp[intOf];omega
  ·have he:j=l.length:=by omega
   have j1:¬(j:Int)<l.length:=by omega
   have HF:Hid (bF l.length++ea aV (l.take j)=eN l):=O (by rw[he,List.take_length];rfl);clear he hlt hj;go_wp2;go_ret;exact⟨_,rfl,by rw[←HF.out];exact hown.out,hb.out⟩
end
section
open Go.RowKit
def rn:Except Int PS→Int
 | .ok s=>s.nx
 | .error _=>0
open Go.RowKit
def RelEndC (B n c:Nat) (F:(Nat→Value)→Act) (R:Bool→Nat→SP) (dst:Option Tmp) (vals:Nat→Value) (w:World) (Q:Exit→Act→World→Prop):Prop :=
 ∀v w',Below B w w'→(∀j,j<n→j≠c→(R false j).p (vals j) w→(R true j).p (vals j) w')→(R true c).p v w'→Q .normal ((F vals).put dst v) w'
theorem relEnd_finC {B n c:Nat} {F:(Nat→Value)→Act} {R:Bool→Nat→SP} {dst:Option Tmp} {vals:Nat→Value} {w:World} {Q:Exit→Act→World→Prop} (h:Hid (RelEndC B n c F R dst vals w Q)) (v:Value) {w':World} {a:Act} (ha:a=(F vals).put dst v) (hb:Below B w w') (hk:∀j,j<n→j≠c→(R false j).p (vals j) w→(R true j).p (vals j) w') (hr:(R true c).p v w'):Q .normal a w':=by
 rw[ha];exact h.out v w' hb hk hr
def relObsS (P : Program) (ops : Array Oper) (B : Nat) (w0 : World) (F : (Nat → Value) → Act) (R : Bool → Nat → SP) (ds : List (List Nat)) (n c : Nat) : Nat → List Oper → Prop
 | _,[]=>True
 | i,o::rest=>(if i=c then (∀(w:World),Below B w0 w→∀vals:Nat→Value,given (R false) w (fun vals=>∀Q:Exit→Act→World→Prop,Hid (RelEndC B n c F R o.dst vals w Q)→wpList P ops Q [o] (F vals) w) (ds.getD i []) vals)
    else (∀(d:Bool) (w:World),((ds.getD c []).contains i=true→d=false)→Below B w0 w→∀vals:Nat→Value,given (R d) w (fun vals=>∀Q:Exit→Act→World→Prop,Hid (Ct F (R d i) o.dst vals w Q)→wpList P ops Q [o] (F vals) w) (ds.getD i []) vals))∧relObsS P ops B w0 F R ds n c (i+1) rest
theorem relObs_atS {P:Program} {ops:Array Oper} {B:Nat} {w0:World} {F:(Nat→Value)→Act} {R:Bool→Nat→SP} {ds:List (List Nat)} {n c:Nat}:∀(l:List Oper) (k:Nat),relObsS P ops B w0 F R ds n c k l→∀i o,l[i]?=some o →
  (if k+i=c then (∀(w:World),Below B w0 w→∀vals:Nat→Value,given (R false) w (fun vals=>∀Q:Exit→Act→World→Prop,Hid (RelEndC B n c F R o.dst vals w Q)→wpList P ops Q [o] (F vals) w) (ds.getD (k+i) []) vals)
   else (∀(d:Bool) (w:World),((ds.getD c []).contains (k+i)=true→d=false)→Below B w0 w→∀vals:Nat→Value,given (R d) w (fun vals=>∀Q:Exit→Act→World→Prop,Hid (Ct F (R d (k+i)) o.dst vals w Q)→wpList P ops Q [o] (F vals) w) (ds.getD (k+i) []) vals))
 | [],_,_,_,_,h=>by cases h
 | o::l,k,h,0,o',ho=>by cases ho;exact h.1
 | o :: l, k, h, i + 1, o', ho => by
   have := relObs_atS l (k+1) h.2 i o' ho
   rwa [show k+1+i=k+(i+1) by omega] at this
theorem rel_soundS {P:Program} {Q:Exit→Act→World→Prop} {l:List Oper} {n B:Nat} {w0:World} {F:(Nat→Value)→Act} {R:Bool→Nat→SP} {ds:List (List Nat)} {c:Nat} (hcn:c<n) (hB:vF l.toArray n ds=true)
  (hput:nk F 0 (l.take n)) (hobs:relObsS P l.toArray B w0 F R ds n c 0 (l.take n)) (hfin:∀w,Below B w0 w→∀vals,given (R true) w (fun vals=>wpList P l.toArray Q (l.drop n) (F vals) w) (List.range n) vals) (hB0:B≤w0.heap.size)
  (f:Nat):∀(m:Array Bool) (vals:Nat→Value) (w:World),HeadInv .any l.toArray n m→fP m n=f→Below B w0 w→(∀i,i<n→m.getD i false=true→(R (m.getD c false) i).p (vals i) w) →
   wpAny P .any l.toArray Q (f+(l.length-n)) m (F vals) w:=by
 simp only[vF,T_,decide_eq_true_eq] at hB;obtain⟨⟨⟨⟨hn,hs⟩,hc⟩,hseq⟩,hdep⟩:=hB
 have hnl:n≤l.length:=by simpa using hn
 induction f with
 | zero =>
   intro m vals w inv hu hb hR;have hall:=s6 hu
   have hm:m=dH n (l.length-n):=by
    apply Array.ext_getElem?
    intro i
    have hsz:m.size=l.length:=by simpa using inv.size
    unfold dH;simp only[List.getElem?_toArray]
    by_cases hi:i<n
    ·have h1:=hall i hi
     rw[List.getElem?_append_left (by simpa using hi),List.getElem?_replicate,G_ hi]
     have hi2:i<m.size:=by omega
     simp[hi2] at h1
     rw[Array.getElem?_eq_getElem hi2,h1]
    ·by_cases hi2:i<l.length
     ·have h1:=inv.tail i (by omega) (by simpa using hi2)
      rw[List.getElem?_append_right (by simp;omega),List.getElem?_replicate,G_ (by simp;omega)]
      have hi3:i<m.size:=by omega
      simp[hi3] at h1
      rw[Array.getElem?_eq_getElem hi3,h1]
     ·rw[List.getElem?_append_right (by simp;omega),List.getElem?_replicate,H_ (by simp;omega),Array.getElem?_eq_none (by omega)]
   have hd:(l.drop n).length=l.length-n:=by simp
   have := wpAny_of_seq (md := .any) (P:=P) (Q':=Q) (ops:=l.toArray) (l.drop n) n m (F vals) w (fun j=>by simp[List.getElem?_drop]) (by rw[hd,hm];simpa using hseq)
    (nN _ (hfin w hb vals) (fun j hj=>by have := hR j (List.mem_range.1 hj) (hall j (List.mem_range.1 hj));rwa [hall c hcn] at this))
   rw[a_]
   rwa [hd] at this
 | succ f ih =>
   intro m vals w inv hu hb hR
   have hsz:m.size=l.length:=by simpa using inv.size
   obtain⟨i0,hi0,hun0,hdone0⟩:∃i,i<n∧m.getD i false=false∧∀j,j<i→m.getD j false=true:=by
    rcases qE m n (by omega) with h|h
    ·have : fP m n=0:=by
      unfold fP;rw[List.length_eq_zero_iff,List.filter_eq_nil_iff];intro a ha;rw[h a (List.mem_range.1 ha)]
      simp
     omega
    ·exact h
   have hready0:i0∈Region.ready .any l.toArray m:=by
    rw[mem_ready]
    have hlt:i0<l.length:=by omega
    refine⟨getD_in (by omega) hun0,l[i0],by simp[hlt],fun e he hbn => ?_⟩;have h1:=List.all_eq_true.1 hdep i0 (List.mem_range.2 hi0);simp only[List.getElem?_toArray,K_ hlt,Option.map_some,Option.getD_some,T_] at h1;exact hdone0 _ (of_decide_eq_true (List.all_eq_true.1 h1.1 _ (lX.2 ⟨e,he,hbn,rfl⟩)))
   have hne:Region.ready .any l.toArray m≠[]:=List.ne_nil_of_mem hready0;rw[show f+1+(l.length-n)=(f+(l.length-n))+1 by omega];refine⟨fun h0=>absurd h0 hne,fun i hi => ?_⟩
   have hin:i<n:=by
    rcases Nat.lt_or_ge i n with h|h
    ·exact h
    ·obtain⟨_,oi,hoi,_⟩:=mem_ready.1 hi
     have hil:i<l.length:=by have := (Q_.1 hoi).1;simpa using this
     exact absurd hi (tail_waits hs hc (by simp;omega) inv _ i0 rfl hi0 (getD_in (by omega) hun0) i h)
   obtain⟨hund,oi,hoi,hdeps⟩:=mem_ready.1 hi
   have hoi2:(l.take n)[i]?=some oi:=by rw[List.getElem?_take,G_ hin];simpa using hoi
   have hui:m.getD i false=false:=getD_both hund
   have hdd:∀j∈ds.getD i [],j<n∧m.getD j false=true:=fun j hj=>by
    have h1:=List.all_eq_true.1 hdep i (List.mem_range.2 hin)
    have hil:i<l.length:=by omega
    have hoi3:l[i]?=some oi:=by simpa using hoi
    simp only[List.getElem?_toArray,hoi3,Option.map_some,Option.getD_some,T_] at h1;have hjd:=List.contains_iff_mem.1 (List.all_eq_true.1 h1.2 j hj);obtain⟨e,he,hbn,rfl⟩:=lX.1 hjd;have hlt:=of_decide_eq_true (List.all_eq_true.1 h1.1 _ hjd);exact⟨by omega,hdeps e he hbn⟩
   have hpu:=rS (l.take n) 0 hput i oi hoi2 vals;rw[a_] at hpu;have hus:=wl m n i hin (by omega) hui;have hat:=relObs_atS (l.take n) 0 hobs i oi hoi2
   rw[a_] at hat
   by_cases hic:i=c
   ·rw[G_ hic] at hat
    have hcf:m.getD c false=false:=by rw[←hic];exact hui
    have hob:=nN _ (hat w hb vals) (fun j hj=>by have := hR j (hdd j hj).1 (hdd j hj).2;rwa [hcf] at this);refine iw hoi (hob _ (O ?_));intro v w' hb' hk hr
    show wpAny P .any l.toArray Q (f+(l.length-n)) (m.setIfInBounds i true) _ w'
    rw[hpu]
    have hcd:(m.setIfInBounds i true).getD c false=true:=by
     rw[←hic]
     have hi9:i<m.size:=by omega
     simp[hi9]
    refine ih _ _ _ (inv.set hi hin) (by omega) (hb.trans hb') ?_;intro j hj hjd;rw[hcd];unfold upd
    by_cases hji:j=i
    ·subst hji
     rw[G_ rfl,hic];exact hr
    ·rw[H_ hji]
     rw[getD_set_ne false (fun e=>hji e.symm)] at hjd;have := hR j hj hjd;rw[hcf] at this;exact hk j hj (fun e=>hji (by rw[e,hic])) this
   ·rw[H_ hic] at hat
    have hdc:(ds.getD c []).contains i=true→m.getD c false=false:=fun hci=>by
     cases hmc:m.getD c false with
     | false=>rfl
     | true =>
       have hcl:c<l.length:=by omega
       have hoc:l.toArray[c]?=some l[c]:=by simp[hcl]
       have h1:=List.all_eq_true.1 hdep c (List.mem_range.2 hcn);rw[hoc] at h1;simp only[Option.map_some,Option.getD_some,T_] at h1;have hjd:=List.contains_iff_mem.1 (List.all_eq_true.1 h1.2 i (List.contains_iff_mem.1 hci));obtain⟨e,he,hbn,hei⟩:=lX.1 hjd;have := inv.closed c _ hoc hmc e he hbn;rw[hei,hui] at this
       cases this
    have hob:=nN _ (hat (m.getD c false) w hdc hb vals) (fun j hj=>hR j (hdd j hj).1 (hdd j hj).2);refine iw hoi (hob _ (O ?_));intro v w' hb' hr
    show wpAny P .any l.toArray Q (f+(l.length-n)) (m.setIfInBounds i true) _ w'
    rw[hpu];refine ih _ _ _ (inv.set hi hin) (by omega) (hb.trans (hb'.mono (by have := hb.size;omega))) ?_;intro j hj hjd;rw[getD_set_ne false hic];unfold upd
    by_cases hji:j=i
    ·subst hji
     rw[G_ rfl];exact hr
    ·rw[H_ hji]
     rw[getD_set_ne false (fun e=>hji e.symm)] at hjd;exact(R _ j).keep hb' (hR j hj hjd)
theorem region_relS {P:Program} {id:Nat} {Q:Exit→Act→World→Prop} {a:Act} {w:World} {l:List Oper} (c n:Nat) (hcn:c<n) (ds:List (List Nat)) (R:Bool→Nat→SP) (vals0:Nat→Value) (hm:P.follows .mixedOrders=true) (hB:vF l.toArray n ds=true)
  (ha:a=ay a vals0 0 (l.take n)) (hput:nk (fun vals=>ay a vals 0 (l.take n)) 0 (l.take n))
  (hobs:relObsS P l.toArray w.heap.size w (fun vals=>ay a vals 0 (l.take n)) R ds n c 0 (l.take n))
  (hfin:∀w',Below w.heap.size w w'→∀vals,given (R true) w' (fun vals=>wpList P l.toArray Q (l.drop n) (ay a vals 0 (l.take n)) w') (List.range n) vals):(Code.region id l.toArray true).wp P Q a w:=by
 refine wp_region_any hm ?_
 have hn:n≤l.length:=by
  have h:=hB;simp only[vF,T_,decide_eq_true_eq] at h
  simpa using h.1.1.1.1
 have inv:HeadInv .any l.toArray n (Array.replicate l.toArray.size false) :=
  ⟨by simp,fun j oj _ hl=>absurd hl (by rw[getD_replicate_false];exact Bool.false_ne_true),fun t _ h2=>getD_in (by simpa using h2) (getD_replicate_false _ _)⟩
 have hu:fP (Array.replicate l.toArray.size false) n=n:=by
  unfold fP;rw[List.filter_eq_self.2 (fun i _=>by rw[getD_replicate_false];rfl),List.length_range]
 have := rel_soundS hcn (P:=P) (Q:=Q) (w0:=w) (R:=R) hB hput hobs hfin (A_ _) n _ vals0 w.drew inv hu ((O_ _ _).drew) (fun i _ h=>by rw[getD_replicate_false] at h;cases h);rw[show n+(l.length-n)=l.toArray.size by simp;omega] at this;rw[ha];exact this
end
end Go.Proofs.YtmfiaadjdbemnaaGreatDoor
