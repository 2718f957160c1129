/- Contracts and lemmas. No condition. -/
import Derived.Test.YtmfiaadjdbemnaaGreatDoorLBack01
import Derived.Test.YtmfiaadjdbemnaaGreatDoorSB20
set_option maxRecDepth 100000
set_option maxHeartbeats 8000000
set_option linter.unusedSimpArgs false
set_option linter.unusedVariables false
namespace Go.Proofs.YtmfiaadjdbemnaaGreatDoor
open Tryz
section
open Go.RowKit
attribute [local irreducible] Calls
theorem kQ (x:UInt32) (k:Int) (hk1:0≤k) (hk2:k<32) (w:World) :
  Calls prog 163 #[.int .u32 (W32 x),.int .i64 k] w fun e w'=>e = .returned (.int .u32 (W32 (rr x k.toNat)))∧∃n,w'=w.drewN n:=by
 obtain⟨n,rfl⟩:=Int.eq_ofNat_of_zero_le hk1;have e1:=iu x n;have e2:=jY x (32-n)
 go_enter func163,ntmps163
 go_wp2
 go_quiet (fail)
 go_wp2;go_ret;exact⟨nT rfl,_,rfl⟩
end
section
open Go.RowKit
def leN (m k:Nat):List UInt8:=(List.range k).map fun i=>UInt8.ofNat (m / 256 ^ i)
theorem tA (m k:Nat):(leN m k).length=k:=by unfold leN;rw[List.length_map,List.length_range]
theorem Ko (m k:Nat):leN m (k+1)=leN m k++[UInt8.ofNat (m / 256 ^ k)]:=by
 unfold leN;rw[List.range_succ,List.map_append]
 rfl
theorem SE (m k i:Nat) (h:i<k):byteAt (leN m k) i=UInt8.ofNat (m / 256 ^ i):=by
 unfold byteAt leN;rw[I_,List.getElem?_map,List.getElem?_range h]
 rfl
theorem Ju (m k:Nat):m / 256 ^ k / 256=m / 256 ^ (k+1):=by rw[Nat.div_div_eq_div_mul,Nat.pow_succ]
theorem T5 (d:UInt8):(255:UInt8)-d=d ^^^ 255:=by
 apply UInt8.toBitVec_inj.1
 show (255#8)-d.toBitVec=d.toBitVec ^^^ (255#8)
 rw[show (255#8)=BitVec.allOnes 8 from rfl,BitVec.allOnes_sub_eq_not,BitVec.xor_allOnes]
theorem Om (k:Nat) (hk:k≤8):(UInt8.ofNat (128+k) ^^^ 255:UInt8)=UInt8.ofNat (127-k):=by
 rcases (by omega:k=0∨k=1∨k=2∨k=3∨k=4∨k=5∨k=6∨k=7∨k=8) with rfl|rfl|rfl|rfl|rfl|rfl|rfl|rfl|rfl <;> decide
open Go.RowKit Go.Shelf
attribute [local irreducible] Calls
theorem MB (n hi:Int) (w:World):Calls prog 124 #[.int .i64 n,.int .i64 hi] w fun e w'=>e = .returned (.bool (win n 0 hi))∧w'=w:=by
 unfold win
 by_cases h1:0≤n
 ·by_cases h2:n≤hi
  ·go_enter func124,ntmps124
   go_wp2;go_ret
   simp[h1,h2]
  ·go_enter func124,ntmps124
   go_wp2;go_ret
   simp[h1,h2]
 ·go_enter func124,ntmps124
  go_wp2;go_ret;refine⟨?_,rfl⟩;rw[V_ (by omega:¬0≤n)]
  rfl
end
section
open Go.RowKit Go.Shelf
theorem Be (b:BK) (l:List K) :
  (eY b l=true∧win b.ep 0 2147483647=true∧win b.num 0 2147483647=true∧win b.fw 0 2147483647=true∧win b.tm 0 1099511627776=true∧¬(b.mo.length:Int)<1∧¬12<(b.mo.length:Int)∧¬4096<(l.length:Int)) ∨
  (eY b l=false∧win b.ep 0 2147483647=false) ∨
  (eY b l=false∧win b.ep 0 2147483647=true∧win b.num 0 2147483647=false) ∨
  (eY b l=false∧win b.ep 0 2147483647=true∧win b.num 0 2147483647=true∧win b.fw 0 2147483647=false) ∨
  (eY b l=false∧win b.ep 0 2147483647=true∧win b.num 0 2147483647=true∧win b.fw 0 2147483647=true∧win b.tm 0 1099511627776=false) ∨
  (eY b l=false∧win b.ep 0 2147483647=true∧win b.num 0 2147483647=true∧win b.fw 0 2147483647=true∧win b.tm 0 1099511627776=true∧(b.mo.length:Int)<1) ∨
  (eY b l=false∧win b.ep 0 2147483647=true∧win b.num 0 2147483647=true∧win b.fw 0 2147483647=true∧win b.tm 0 1099511627776=true∧¬(b.mo.length:Int)<1∧12<(b.mo.length:Int)) ∨
  (eY b l=false∧win b.ep 0 2147483647=true∧win b.num 0 2147483647=true∧win b.fw 0 2147483647=true∧win b.tm 0 1099511627776=true∧¬(b.mo.length:Int)<1∧¬12<(b.mo.length:Int)∧4096<(l.length:Int)):=by
 unfold eY
 cases h1:win b.ep 0 2147483647
 ·simp
 cases h2:win b.num 0 2147483647
 ·simp
 cases h3:win b.fw 0 2147483647
 ·simp
 cases h4:win b.tm 0 1099511627776
 ·simp
 by_cases h5:(b.mo.length:Int)<1
 ·have : ¬1≤b.mo.length:=by omega
  simp[h5,this]
 by_cases h6:12<(b.mo.length:Int)
 ·have : ¬b.mo.length≤12:=by omega
  simp[h5,h6,this]
 by_cases h7:4096<(l.length:Int)
 ·have : ¬l.length≤4096:=by omega
  simp[h5,h6,h7,this]
 have a5:1≤b.mo.length:=by omega
 have a6:b.mo.length≤12:=by omega
 have a7:l.length≤4096:=by omega
 simp[h5,h6,h7,a5,a6,a7]
attribute [local irreducible] Calls aI okB bf cv win eY
theorem rg (b:BK) (u:Value) (l:List K) (w:World) (hv:RdK w u l) :
  Calls prog 80 #[.agg (bc b u)] w fun e w'=>e = .returned (.bool (aI b l))∧Below w.heap.size w w':=by
 have hlen:=hv.len;unfold maxLen at hlen;obtain⟨W0,hW0⟩:∃W0,W0=w.alloc (.cells (bc b u) 47):=⟨_,rfl⟩
 have hvw:RdK W0 u l:=by rw[hW0];exact hv.alloc _
 have hbx:∀w1,Below W0.heap.size W0 w1→w1.cell? ⟨w.heap.size,37,none⟩=some u:=by
  intro w1 h;rw[hW0] at h;rw[gi _ _ _ h 37];exact iU b u
 have hbe:∀w1,Below W0.heap.size W0 w1→Below w.heap.size w w1:=by
  intro w1 h;rw[hW0] at h;exact cJ _ _ h
 have hsz:w.heap.size<W0.heap.size:=by rw[hW0];simp
 have HV:=O hvw;have HBX:=O hbx;have HBE:=O hbe;have HW:=O hW0
 have hve:aI b l=(eY b l && (List.range l.length).all (okB l)):=by unfold aI;rfl
 rw[hve];obtain⟨a,cap,rfl,_,_,_⟩:=hv;clear hW0 hvw hbx hbe hve
 rcases Be b l with⟨hh,f1,f2,f3,f4,f5,f6,f7⟩|⟨hh,f1⟩|⟨hh,f1,f2⟩|⟨hh,f1,f2,f3⟩|⟨hh,f1,f2,f3,f4⟩|⟨hh,f1,f2,f3,f4,f5⟩|⟨hh,f1,f2,f3,f4,f5,f6⟩|⟨hh,f1,f2,f3,f4,f5,f6,f7⟩
 case inl =>
  rw[hh,Bool.true_and];have HT0:=O (fun i hi h=>uf l i hi h);have HT1:=O (wN l);clear hh
  go_enter func80,ntmps80
  go_wp2_with (go_at_call 124;refine(MB _ _ _).mono ?_;rintro e wf ⟨rfl,hwf⟩;rw[hwf];clear hwf)
  go_loopw [3,4] (fun la o wr=>∃i:Nat,i≤l.length∧o = .int .i64 i∧la = .int .i64 (cv l i)∧Hid (∀j,j<i→okB l j=true)∧Below W0.heap.size W0 wr) (fun _ o _=>l.length-(intOf o).toNat)
  case atStart=>exact⟨0,N_ _,rfl,by rw[gR],O (fun j hj=>absurd hj (by omega)),by rw[←HW.out];exact O_ _ _⟩
  case round =>
   obtain⟨i,hi,rfl,rfl,hno,hb⟩:=hrel;have t1:=HBX.out wr hb;have hbs:=hb.size
   by_cases hlt:i<l.length
   ·obtain⟨bb,off,rfl,hbl,aO⟩:=((HV.out.on hb).cells) (by omega)
    obtain⟨d0,d1,d2,d3,d4,d5,d6,d7,d8⟩:=aO i hlt
    have i1:(i:Int)<l.length:=by omega
    have HK:=O hlt;have HNO:=hno;have HB:=O hb;have hval:=ov (ae l i) wr
    have hbx2:∀w1,Below wr.heap.size wr w1→w1.cell? ⟨bb,off+i*9,none⟩=some (.int .i64 (ae l i).id)∧w1.cell? ⟨w.heap.size,37,none⟩=some (.slice (some ⟨bb,off,none⟩) l.length cap)∧Below W0.heap.size W0 w1:=by
     intro w1 h;have h2:=HB.out.trans (h.mono hbs);exact⟨by rw[h.cell (p:=⟨bb,off+i*9,none⟩) hbl];exact d0,HBX.out _ h2,h2⟩
    unfold kv kc at hval;have HLS:=O (gQ l i);have HX2:=O hbx2;clear aO hb hno hbx2
    rcases BA l i with⟨ho,h1⟩|⟨ho,h1,h2⟩|⟨ho,h1,h2,h3⟩|⟨ho,h1,h2,h3⟩
    case inr.inr.inr =>
     rw[h1] at hval;have HVAL:=O hval;have HO:=O ho;clear hval h1 ho
     go_wp2_with (go_at_call 75;refine HVAL.out.mono ?_;rintro e w1 ⟨rfl,hb'⟩;obtain⟨e0,n0,hbb⟩:=HX2.out _ hb';clear hb')
     go_roundw
     case rel=>exact⟨i+1,HK.out,by go_num,by rw[HLS.out],O (fun j hj=>by
      by_cases e:j=i
      ·subst e;exact HO.out
      ·exact HNO.out j (by omega)),hbb⟩
     case measure=>have := HK.out;simp[intOf];omega
    all_goals
     have HRES:=O (HT0.out i HK.out ho);rw[h1] at hval;have HVAL:=O hval;clear hval h1 ho
     go_wp2_with (go_at_call 75;refine HVAL.out.mono ?_;rintro e w1 ⟨rfl,hb'⟩;obtain⟨e0,n0,hbb⟩:=HX2.out _ hb';clear hb')
     go_ret;exact⟨by rw[HRES.out];rfl,HBE.out _ hbb⟩
   ·have he:i=l.length:=by omega
    have i1:(l.length:Int)≤i:=by omega
    have HRES:=O (HT1.out (fun j hj=>hno.out j (by omega)));clear hno he;go_wp2;go_ret;exact⟨by rw[HRES.out];rfl,HBE.out _ hb⟩
 all_goals
  rw[hh,Bool.false_and];clear hh
  go_enter func80,ntmps80
  go_wp2_with (go_at_call 124;refine(MB _ _ _).mono ?_;rintro e wf ⟨rfl,hwf⟩;rw[hwf];clear hwf)
  go_ret;exact⟨rfl,HBE.out _ (by rw[←HW.out];exact O_ _ _)⟩
end
section
open Go.RowKit
def pQ (w:World) (lo g:Nat):Prop:=∀k,k<8→∃b,lo≤b∧b<w.heap.size∧w.cell? ⟨g,k,none⟩=some (.slice (some ⟨b,0,none⟩) 4 4) ∧
 ∀j,j<4→w.cell? ⟨b,j,none⟩=some (.int .i64 ((C3.order.getD k []).getD j 0:Nat))
theorem pQ.keep {w w':World} {lo g:Nat} (h:pQ w lo g) (hg:lo≤g) (hg2:g<w.heap.size) (hs:w.heap.size≤w'.heap.size) (hb:∀b,lo≤b→b<w.heap.size→w'.heap[b]? = w.heap[b]?):pQ w' lo g:=by
 intro k hk;obtain⟨b,h1,h2,h3,h4⟩:=h k hk;refine⟨b,h1,by omega,?_,fun j hj => ?_⟩
 ·rw[←h3];exact World.cell?_of_block (hb g hg hg2)
 ·rw[←h4 j hj];exact World.cell?_of_block (hb b h1 h2)
theorem O5 (w:World):Calls prog 195 #[] w fun e w'=>∃g,e = .returned (.slice (some ⟨g,0,none⟩) 8 8)∧w.heap.size≤g∧g<w'.heap.size∧pQ w' w.heap.size g∧Below w.heap.size w w':=by
 go_enter func195,ntmps195
 go_wp2;go_ret;refine⟨_,rfl,by omega,by simp,?_,?_⟩
 ·intro k hk
  have h8:k=0∨k=1∨k=2∨k=3∨k=4∨k=5∨k=6∨k=7:=by omega
  refine⟨w.heap.size+k,by omega,by simp;omega,?_,fun j hj => ?_⟩
  ·rcases h8 with rfl|rfl|rfl|rfl|rfl|rfl|rfl|rfl <;> simp[go_sem]
  ·have h4:j=0∨j=1∨j=2∨j=3:=by omega
   rcases h8 with rfl|rfl|rfl|rfl|rfl|rfl|rfl|rfl <;> rcases h4 with rfl|rfl|rfl|rfl <;> simp[go_sem,C3.order]
 ·repeat (first |exact O_ _ _|refine Below.alloc ?_ (by simp;try omega) _)
theorem KV:∀k,k<8→((C3.order.getD k []).getD 0 0<16∧(C3.order.getD k []).getD 1 0<16∧(C3.order.getD k []).getD 2 0<16∧(C3.order.getD k []).getD 3 0<16) ∧
  ((C3.order.getD k []).getD 0 0≠(C3.order.getD k []).getD 1 0∧(C3.order.getD k []).getD 0 0≠(C3.order.getD k []).getD 2 0∧(C3.order.getD k []).getD 0 0≠(C3.order.getD k []).getD 3 0) ∧
  ((C3.order.getD k []).getD 1 0≠(C3.order.getD k []).getD 2 0∧(C3.order.getD k []).getD 1 0≠(C3.order.getD k []).getD 3 0∧(C3.order.getD k []).getD 2 0≠(C3.order.getD k []).getD 3 0):=by decide
structure yv (w:World) (g:Nat) (X:List UInt32) (wr:World):Prop where
 row:wr.heap[w.heap.size]?=some (.cells (row X) 226 (0,0))
 res:wr.heap[w.heap.size+1]?=some (.cells sx 226 (0,0))
 ord:pQ wr (w.heap.size+2) g
 g1:w.heap.size+2≤g
 g2:g<wr.heap.size
 below:Below w.heap.size w wr
theorem yv.next {w:World} {g:Nat} {X Y:List UInt32} {wr w2:World} (h:yv w g X wr) (n:Nat) (hb:Below wr.heap.size (wr.drewN n) w2):yv w g Y (w2.setRow w.heap.size (Go.Proofs.YtmfiaadjdbemnaaGreatDoor.row Y)):=by
 have hB:w.heap.size<wr.heap.size:=by have := h.g1;have := h.g2;omega
 have e1:w2.heap[w.heap.size]?=some (.cells (Go.Proofs.YtmfiaadjdbemnaaGreatDoor.row X) 226 (0,0)):=by rw[hb.block _ hB];exact h.row
 have hs:wr.heap.size≤w2.heap.size:=hb.size;refine⟨setRow_heap _ _ _ _ _ _ e1,?_,?_,h.g1,?_,?_⟩
 ·rw[setRow_other _ _ _ _ (by omega),hb.block _ (by have := h.g1;have := h.g2;omega)];exact h.res
 ·refine h.ord.keep h.g1 h.g2 (by rw[size_setRow];exact hs) (fun b h1 h2 => ?_)
  rw[setRow_other _ _ _ _ (by omega),hb.block _ h2];rfl
 ·have := h.g2;rw[size_setRow];omega
 ·exact below_setRow (h.below.trans ((ak n (O_ _ _)).trans (hb.mono (by omega)))) (A_ _) _
theorem DA (s:List UInt32) (hl:s.length=16) (w:World) :
  Calls prog 185 #[.agg (row s)] w fun e w'=>e = .returned (.agg (row (C3.rounds s 10)))∧Below w.heap.size w w':=by
 go_enter func185,ntmps185
 go_wp2_with (go_at_call 195;refine(O5 _).mono ?_;rintro e w1 ⟨g,rfl,hg1,hg2,hord,hb1⟩)
 simp only[World.size_alloc] at hg1 hg2 hord hb1
 have I0:yv w g s w1:=by
  refine⟨?_,?_,hord,hg1,hg2,?_⟩
  ·rw[hb1.block _ (by omega),bx _ _ _ (by simp),al _ _ _ rfl]
  ·rw[hb1.block _ (by omega),al _ _ _ (by simp)];rfl
  ·exact(((O_ _ _).alloc (A_ _) _).alloc (by simp) _).trans (hb1.mono (by omega))
 clear hord hb1 hg1 hg2
 go_loopw [4] (fun i wr=>∃m:Nat,m≤10∧i = .int .i64 m∧yv w g (C3.rounds s m) wr) (fun i _=>10-(intOf i).toNat)
 case atStart=>exact⟨0,by omega,rfl,I0⟩
 case round =>
  obtain⟨m,hm,rfl,I⟩:=hrel
  have hlen:(C3.rounds s m).length=16:=by rw[C3.length_rounds,hl]
  by_cases hlt:m<10
  ·have hd:decide ((m:Int)<10)=true:=by simp;omega
   go_wp2
   go_loopw [5] (fun i wr=>∃k:Nat,k≤8∧i = .int .i64 k∧yv w g (C3.qk (C3.rounds s m) k) wr) (fun i _=>8-(intOf i).toNat)
   case atStart=>exact⟨0,by omega,rfl,I⟩
   case round =>
    clear I
    rename_i wq
    obtain⟨k,hk,rfl,I⟩:=hrel
    have hlenk:(C3.qk (C3.rounds s m) k).length=16:=by rw[C3.length_qk,hlen]
    by_cases hlt2:k<8
    ·obtain⟨b,hb1,hb2,hc,hcj⟩:=I.ord k hlt2
     have q0:=hcj 0 (by omega);have q1:=hcj 1 (by omega);have q2:=hcj 2 (by omega);have q3:=hcj 3 (by omega);obtain⟨⟨b0,b1,b2,b3⟩,⟨n01,n02,n03⟩,⟨n12,n13,n23⟩⟩:=KV k hlt2;have hq:C3.qk (C3.rounds s m) (k+1)=C3.qset (C3.qk (C3.rounds s m) k) ((C3.order.getD k []).getD 0 0) ((C3.order.getD k []).getD 1 0) ((C3.order.getD k []).getD 2 0) ((C3.order.getD k []).getD 3 0):=rfl;clear hcj;generalize (C3.order.getD k []).getD 0 0=o0 at *;generalize (C3.order.getD k []).getD 1 0=o1 at *;generalize (C3.order.getD k []).getD 2 0=o2 at *;generalize (C3.order.getD k []).getD 3 0=o3 at *;have HQ:=O hq;clear hq;have aO:∀i,wr.cell? ⟨w.heap.size,i,none⟩=(row (C3.qk (C3.rounds s m) k))[i]? := fun i=>e_ _ _ i _ _ _ I.row
     have hB:w.heap.size<wr.heap.size:=by have := I.g1;have := I.g2;omega
     go_wp2;refine dD 25 (by kernel_rfl) (by kernel_rfl) ?_;simp only[F_,c_,J_,L_]
     repeat (first |go_big_quiet_step (fail)|quiet_step (fail))
     refine h_ ?_;rintro _ ⟨nq,rfl⟩;clear aO
     go_wp2_with (first
      |(go_at_call 196;refine(BP _ _ hlenk o0 o1 o2 o3 b0 b1 b2 b3 n01 n02 n03 n12 n13 n23).mono ?_;rintro e w2 ⟨rfl,hb⟩)
      |(refine gN rfl (.tmp 1) (.tmp 42) rfl _ _ rfl rfl 226 _ ((hb.block _ hB).trans I.row) (by rw[co,hlenk]) (by rw[C3.length_qset,hlenk]) ?_))
     go_roundw
     case rel=>exact⟨k+1,by omega,by go_num,by rw[HQ.out];exact I.next nq hb⟩
     case measure=>simp[intOf];omega
    ·have he:k=8:=by omega
     have HE:=O he;clear he;go_wp2;go_roundw
     case rel=>exact⟨m+1,by omega,by go_num,by have := I;rw[HE.out] at this;exact this⟩
     case measure=>simp[intOf];omega
  ·have he:m=10:=by omega
   have HE:=O he;clear he
   go_wp2_with (first
         |(refine ng rfl (.tmp 1) rfl _ rfl _ 226 I.row hlen ?_)
         |(refine gN rfl (.tmp 2) (.tmp 43) rfl _ _ rfl rfl 226 _ I.res rfl hlen ?_))
   refine g_ (v := .agg (row _)) (zv rfl _ _ _ _ _ rfl (setRow_heap _ _ _ _ _ _ I.res) hlen) rfl ⟨by rw[HE.out],?_⟩;exact below_setRow I.below (by omega) _
open Go.RowKit
theorem TG (x y:UInt32) (n:Nat):shl (x ||| y) n=shl x n ||| shl y n:=by
 apply UInt32.toBitVec_inj.1
 show (x.toBitVec ||| y.toBitVec) <<< n=x.toBitVec <<< n ||| y.toBitVec <<< n
 exact BitVec.shiftLeft_or_distrib _ _ _
theorem PC (x:UInt32) (m n:Nat):shl (shl x m) n=shl x (m+n):=by
 apply UInt32.toBitVec_inj.1
 show (x.toBitVec <<< m) <<< n=x.toBitVec <<< (m+n)
 rw[BitVec.shiftLeft_add]
theorem IK (a b c d:UInt8):be4 a b c d=shl a.toUInt32 24 ||| shl b.toUInt32 16 ||| shl c.toUInt32 8 ||| d.toUInt32:=by
 unfold be4;simp only[TG,PC]
attribute [local irreducible] Calls
theorem Qe (v:Value) (b:List UInt8) (w:World) (hv:RdE eB w v b) (hb:b.length=64) :
  Calls prog 162 #[v] w fun e w'=>e = .returned (.agg (row (sch b 64)))∧Below w.heap.size w w':=by
 have HV:=O hv;obtain⟨a,cap,rfl,hcap,hcm,_⟩:=hv;obtain⟨bb,off,rfl,hbl,aO⟩:=fp HV.out (by omega);rw[hb] at HV hcap ⊢;unfold maxLen at hcm;have HROW:=O aO;clear aO;have hz:=tT
 go_enter func162,ntmps162
 go_wp2;rw[AV b]
 go_loopw [4] (fun i wr=>∃t:Nat,t≤16∧i = .int .i64 t∧∃n,wr=((w.alloc (.cells (row z64) 213)).alloc (.cells (row (ext b t)) 213)).drewN n) (fun i _=>16-(intOf i).toNat)
 case atStart=>exact⟨0,by omega,rfl,0,rfl⟩
 case round =>
  obtain⟨t,ht,rfl,n,rfl⟩:=hrel;clear hz;have hel:=yT b t (by omega)
  by_cases h16:t<16
  ·have hd:decide ((t:Int)<16)=true:=by simp;omega
   have hlt:t<64:=by omega
   have c0:=HROW.out (4*t) (by omega);have c1:=HROW.out (4*t+1) (by omega);have c2:=HROW.out (4*t+2) (by omega);have c3:=HROW.out (4*t+3) (by omega)
   have b0:4*(t:Int)<64:=by omega
   have b1:4*(t:Int)+1<64:=by omega
   have b2:4*(t:Int)+2<64:=by omega
   have b3:4*(t:Int)+3<64:=by omega
   have d0:(0:Int)≤4*(t:Int):=by omega
   have d1:(0:Int)≤4*(t:Int)+1:=by omega
   have d2:(0:Int)≤4*(t:Int)+2:=by omega
   have d3:(0:Int)≤4*(t:Int)+3:=by omega
   have hcv:=IK (byteAt b (4*t)) (byteAt b (4*t+1)) (byteAt b (4*t+2)) (byteAt b (4*t+3));have HCV:=O hcv;clear hcv;go_wp2
   first |refine dJ 35 (by kernel_rfl) (by kernel_rfl) ?_|refine dD 35 (by kernel_rfl) (by kernel_rfl) ?_
   simp only[F_,c_,J_,L_]
   repeat (go_big_quiet_step (fail))
   refine h_ ?_;rintro _ ⟨nq,rfl⟩;go_wp2;go_roundw
   case rel=>exact⟨t+1,by omega,by go_num,nq,by rw[←HCV.out,qq b t (by omega) _ (by rw[G_ h16];rfl)]⟩
   case measure=>simp[intOf];omega
  ·have he:t=16:=by omega
   subst he
   have hd:decide (((16:Nat):Int)<16)=false:=by decide
   clear ht h16 hel;go_wp2
   go_loopw [5] (fun i wr=>∃t:Nat,16≤t∧t≤64∧i = .int .i64 t∧∃n,wr=((w.alloc (.cells (row z64) 213)).alloc (.cells (row (ext b t)) 213)).drewN n) (fun i _=>64-(intOf i).toNat)
   case atStart=>exact⟨16,by omega,by omega,rfl,n,rfl⟩
   case round =>
    obtain⟨t,hlo,ht,rfl,n,rfl⟩:=hrel;clear hd;have hel:=yT b t ht
    by_cases hlt:t<64
    ·have hd:decide ((t:Int)<64)=true:=by simp;omega
     have q15:(t:Int)-15=((t-15:Nat):Int):=by omega
     have q2:(t:Int)-2=((t-2:Nat):Int):=by omega
     have q16:(t:Int)-16=((t-16:Nat):Int):=by omega
     have q7:(t:Int)-7=((t-7:Nat):Int):=by omega
     have i15:t-15<64:=by omega
     have i2:t-2<64:=by omega
     have i16:t-16<64:=by omega
     have i7:t-7<64:=by omega
     have r7:∀(x:UInt32) (w:World),Calls prog 163 #[.int .u32 (W32 x),.int .i64 7] w fun e w'=>e = .returned (.int .u32 (W32 (rr x 7)))∧∃n,w'=w.drewN n:=fun x w=>kQ x 7 (by omega) (by omega) w;have r18:∀(x:UInt32) (w:World),Calls prog 163 #[.int .u32 (W32 x),.int .i64 18] w fun e w'=>e = .returned (.int .u32 (W32 (rr x 18)))∧∃n,w'=w.drewN n:=fun x w=>kQ x 18 (by omega) (by omega) w;have r17:∀(x:UInt32) (w:World),Calls prog 163 #[.int .u32 (W32 x),.int .i64 17] w fun e w'=>e = .returned (.int .u32 (W32 (rr x 17)))∧∃n,w'=w.drewN n:=fun x w=>kQ x 17 (by omega) (by omega) w;have r19:∀(x:UInt32) (w:World),Calls prog 163 #[.int .u32 (W32 x),.int .i64 19] w fun e w'=>e = .returned (.int .u32 (W32 (rr x 19)))∧∃n,w'=w.drewN n:=fun x w=>kQ x 19 (by omega) (by omega) w;have R7:=O r7;have R18:=O r18;have R17:=O r17;have R19:=O r19;clear r7 r18 r17 r19;go_wp2
     first |refine fR (by kernel_rfl) (by kernel_rfl) ?_|refine fG (by kernel_rfl) (by kernel_rfl) ?_
     repeat (first
      | go_big_quiet_step ((go_at_call 163;exact Calls.quiet_of (R7.out _ _)))
      | go_big_quiet_step ((go_at_call 163;exact Calls.quiet_of (R18.out _ _))))
     refine h_ ?_;rintro _ ⟨nq,rfl⟩;go_wp2
     first |refine fR (by kernel_rfl) (by kernel_rfl) ?_|refine fG (by kernel_rfl) (by kernel_rfl) ?_
     repeat (first
      | go_big_quiet_step ((go_at_call 163;exact Calls.quiet_of (R17.out _ _)))
      | go_big_quiet_step ((go_at_call 163;exact Calls.quiet_of (R19.out _ _))))
     refine h_ ?_;rintro _ ⟨nq,rfl⟩;go_wp2
     first |refine dJ 15 (by kernel_rfl) (by kernel_rfl) ?_|refine dD 15 (by kernel_rfl) (by kernel_rfl) ?_
     simp only[F_,c_,J_,L_]
     repeat (go_big_quiet_step (fail))
     refine h_ ?_;rintro _ ⟨nq,rfl⟩;go_wp2;go_roundw
     case rel =>
      refine⟨t+1,by omega,by omega,by go_num,nq,?_⟩;rw[←qq b t hlt (xP (sch b t)) (by rw[H_ (by omega)]),xQ,←ext_at b t (t-16) (by omega),←ext_at b t (t-15) (by omega),←ext_at b t (t-7) (by omega),←ext_at b t (t-2) (by omega)]
      rfl
     case measure=>simp[intOf];omega
    ·have he:t=64:=by omega
     subst he
     go_wp2_with (first
      |(refine Kl rfl (.tmp 3) rfl _ rfl _ 213 (dL _ _ _ _) hel ?_)
      |(refine L6 rfl (.tmp 2) (.tmp 100) rfl _ _ rfl rfl 213 _ (cF _ _ _ _) (by rw[co];exact tS) hel ?_))
     refine g_ (v := .agg (row _)) (Lm rfl _ _ _ _ _ rfl (setRow_heap _ _ _ _ _ _ (cF _ _ _ _)) hel) rfl ⟨by rw[AU],?_⟩;exact below_setRow (ak _ (((O_ _ _).alloc (A_ _) _).alloc (by simp) _)) (by omega) _
end
section
open Go.RowKit
attribute [local irreducible] Calls
theorem K0 (v:Value) (m:List UInt8) (w:World) (hv:RdE eB w v m) (hlen:m.length≤500000) :
  Calls prog 161 #[v] w fun e w'=>∃v',e = .returned v'∧ap eB w' w.heap.size v' (gj m)∧Below w.heap.size w w':=by
 have HV:=O hv;obtain⟨av,capv,rfl,hcapv,hcmv,_⟩:=hv;have HLEN:=O hlen;have HE:=O (yQ (E:=eB) w rfl)
 have hml:(m.length:Int)≤500000:=by omega
 have HB0:=O ((O_ w.heap.size w).alloc (A_ _) (.cells #[] 5));have HVA:=O (HV.out.alloc (.cells #[] 5));clear hcapv hcmv
 go_enter func161,ntmps161
 go_wp2_with (first
  |(at_builtin;refine br aN rfl (.tmp 6) (.tmp 7) rfl w.heap.size _ [] rfl HE.out (.slice av m.length capv) m rfl HVA.out (by have := HLEN.out;simp;omega) (by simp) ?_;intro v1 w1 ho1 hg1 hloc1;have HB1:=O (HB0.out.trans (HE.out.below hg1 (by simp)));have HO1:Hid (ap eB w1 w.heap.size v1 m):=(O ho1);obtain⟨a1,c1,rfl⟩:=ho1.rd.form1 (n:=m.length) (by simp);clear ho1 hg1 hloc1)
  |(at_builtin;refine br aN rfl (.tmp 9) (.tmp 10) rfl w.heap.size _ m rfl (HO1.out.on ((O_ _ _).alloc (A_ _) _)) (.slice (some ⟨w1.heap.size,0,none⟩) 1 1) [128] rfl (bP w1 (128:UInt8) aN) (by have := HLEN.out;simp;omega) (by have := HB1.out.size;simp;omega) ?_;intro v2 w2 ho2 hg2 hloc2;have HB2:=O (HB1.out.trans (((O_ _ _).alloc (A_ _) (.cells #[.int .u8 128] 5)).mono HB1.out.size |>.trans ((HO1.out.on ((O_ _ _).alloc (A_ _) _)).below hg2 (by have := HB1.out.size;simp;omega))));have HO2:Hid (ap eB w2 w.heap.size v2 (m++[128])):=(O ho2);obtain⟨a2,c2,rfl⟩:=ho2.rd.form1 (n:=m.length+1) (by simp);clear ho2 hg2 hloc2))
 go_loopw [3] (fun o wr=>∃j:Nat,j≤kS m.length∧(∃a cap,o = .slice a (m.length+1+j) cap)∧Hid (ap eB wr w.heap.size o (m++[128]++List.replicate j 0))∧Hid (Below w.heap.size w wr)) (fun o _=>1000000-iZ o)
 case atStart=>exact⟨0,N_ _,⟨_,_,rfl⟩,by simpa using HO2,HB2⟩
 case round =>
  obtain⟨j,hj,⟨a,cap,rfl⟩,hown,hbw⟩:=hrel;have hzl:=jz m.length;have hz1:=FL m.length j hj;have HW:=O hbw.out.size
  have jb2:(j:Int)≤63:=by omega
  by_cases hq:j=kS m.length
  ·have tq:((m.length:Int)+1+(j:Int)) % 64=56:=by have := hz1.2 hq;omega
   have tq2:(((m.length:Int)+1+(j:Int)) % 64 != 56)=false:=by rw[tq];rfl
   have HQ:=O hq
   have hmul:(8:Int)*(m.length:Int) % 18446744073709551616=((8*m.length:Nat):Int):=by omega
   clear hz1 tq hj hq;go_wp2;have hown1:Hid (ap eB wr w.heap.size (.slice a (m.length+1+j) cap) (m++[128]++List.replicate (kS m.length) 0)):=O (by rw[←HQ.out];exact hown.out);have HPL:Hid ((m++[128]++List.replicate (kS m.length) 0:List UInt8).length=m.length+1+j):=O (by have := HQ.out;simp;omega);have HP0:Hid ((m++[128]++List.replicate (kS m.length) 0:List UInt8).length≤600000):=O (by have := jz m.length;have := HLEN.out;simp;omega);have HPD:Hid ((m++[128]++List.replicate (kS m.length) 0)++be8 (8*m.length)=gj m):=O (by unfold gj;simp only[R_]);generalize (m++[128]++List.replicate (kS m.length) 0:List UInt8)=P0 at hown1 HP0 HPL HPD
   have hn0:0≤8*(m.length:Int):=by omega
   have hn1:8*(m.length:Int)<18446744073709551616:=by omega
   clear hml hlen hmul;generalize hNI:8*(m.length:Int)=NI at hn0 hn1 ⊢;have HNI:Hid (NI=8*(m.length:Int)):=O hNI.symm;clear hNI
   go_loopw [5,3] (fun o u wr=>∃i:Nat,i≤8∧o = .int .i64 i∧(∃a cap,u = .slice a (m.length+1+j+i) cap)∧Hid (ap eB wr w.heap.size u (P0++(be8 (8*m.length)).take i))∧Hid (Below w.heap.size w wr)) (fun o _ _=>8-(intOf o).toNat)
   case atStart=>exact⟨0,by omega,rfl,⟨_,_,rfl⟩,by simpa using hown1,hbw⟩
   case round =>
    obtain⟨i,hi,rfl,⟨a2,cap2,rfl⟩,hown2,hbw2⟩:=hrel;have HW3:=O hbw2.out.size
    rcases (by omega:i=0∨i=1∨i=2∨i=3∨i=4∨i=5∨i=6∨i=7∨i=8) with rfl|rfl|rfl|rfl|rfl|rfl|rfl|rfl|rfl
    ·have et:(be8 (8*m.length)).take (0+1)=(be8 (8*m.length)).take 0++[UInt8.ofNat (8*m.length / 2 ^ 56)]:=rfl
     have ev:NI / 72057594037927936 % 256=B8 (UInt8.ofNat (8*m.length / 2 ^ 56)):=by rw[eF,HNI.out];omega
     have ev0:NI / 72057594037927936=B8 (UInt8.ofNat (8*m.length / 2 ^ 56)):=by rw[←ev];omega
     generalize hc:UInt8.ofNat (8*m.length / 2 ^ 56)=c at et ev ev0;have em:B8 c % 256=B8 c:=cI c;have ET:=O et;clear et hc
     go_wp2_with (at_builtin;go_loud (refine br aN rfl (.tmp 27) (.tmp 34) rfl w.heap.size _ _ rfl (hown2.out.on ((O_ _ _).alloc (A_ _) _)) (.slice (some ⟨wr.heap.size,0,none⟩) 1 1) [c] rfl (bP wr c aN) (by have := HP0.out;simp;omega) (by have := HW3.out;simp;omega) ?_);intro v5 w4 ho4 hg4 hloc;have HB4:=O (hbw2.out.trans (((O_ wr.heap.size wr).alloc (A_ _) (.cells #[.int .u8 (B8 c)] 5)).mono HW3.out |>.trans ((hown2.out.on ((O_ _ _).alloc (A_ _) _)).below hg4 (by have := HW3.out;simp;omega))));have HO4:=O ho4;clear ho4 hg4 hloc)
     go_roundw
     case rel=>exact⟨1,by decide,by go_num,HO4.out.rd.form1 (by have := HP0.out;have := HPL.out;simp[be8];omega),O (by have h:=HO4.out;rw[R_,←ET.out] at h;exact h),HB4⟩
     case measure=>simp[intOf]
    ·have et:(be8 (8*m.length)).take (1+1)=(be8 (8*m.length)).take 1++[UInt8.ofNat (8*m.length / 2 ^ 48)]:=rfl
     have ev:NI / 281474976710656 % 256=B8 (UInt8.ofNat (8*m.length / 2 ^ 48)):=by rw[eF,HNI.out];omega
     skip
     generalize hc:UInt8.ofNat (8*m.length / 2 ^ 48)=c at et ev;have em:B8 c % 256=B8 c:=cI c;have ET:=O et;clear et hc
     go_wp2_with (at_builtin;go_loud (refine br aN rfl (.tmp 27) (.tmp 34) rfl w.heap.size _ _ rfl (hown2.out.on ((O_ _ _).alloc (A_ _) _)) (.slice (some ⟨wr.heap.size,0,none⟩) 1 1) [c] rfl (bP wr c aN) (by have := HP0.out;simp;omega) (by have := HW3.out;simp;omega) ?_);intro v5 w4 ho4 hg4 hloc;have HB4:=O (hbw2.out.trans (((O_ wr.heap.size wr).alloc (A_ _) (.cells #[.int .u8 (B8 c)] 5)).mono HW3.out |>.trans ((hown2.out.on ((O_ _ _).alloc (A_ _) _)).below hg4 (by have := HW3.out;simp;omega))));have HO4:=O ho4;clear ho4 hg4 hloc)
     go_roundw
     case rel=>exact⟨2,by decide,by go_num,HO4.out.rd.form1 (by have := HP0.out;have := HPL.out;simp[be8];omega),O (by have h:=HO4.out;rw[R_,←ET.out] at h;exact h),HB4⟩
     case measure=>simp[intOf]
    ·have et:(be8 (8*m.length)).take (2+1)=(be8 (8*m.length)).take 2++[UInt8.ofNat (8*m.length / 2 ^ 40)]:=rfl
     have ev:NI / 1099511627776 % 256=B8 (UInt8.ofNat (8*m.length / 2 ^ 40)):=by rw[eF,HNI.out];omega
     skip
     generalize hc:UInt8.ofNat (8*m.length / 2 ^ 40)=c at et ev;have em:B8 c % 256=B8 c:=cI c;have ET:=O et;clear et hc
     go_wp2_with (at_builtin;go_loud (refine br aN rfl (.tmp 27) (.tmp 34) rfl w.heap.size _ _ rfl (hown2.out.on ((O_ _ _).alloc (A_ _) _)) (.slice (some ⟨wr.heap.size,0,none⟩) 1 1) [c] rfl (bP wr c aN) (by have := HP0.out;simp;omega) (by have := HW3.out;simp;omega) ?_);intro v5 w4 ho4 hg4 hloc;have HB4:=O (hbw2.out.trans (((O_ wr.heap.size wr).alloc (A_ _) (.cells #[.int .u8 (B8 c)] 5)).mono HW3.out |>.trans ((hown2.out.on ((O_ _ _).alloc (A_ _) _)).below hg4 (by have := HW3.out;simp;omega))));have HO4:=O ho4;clear ho4 hg4 hloc)
     go_roundw
     case rel=>exact⟨3,by decide,by go_num,HO4.out.rd.form1 (by have := HP0.out;have := HPL.out;simp[be8];omega),O (by have h:=HO4.out;rw[R_,←ET.out] at h;exact h),HB4⟩
     case measure=>simp[intOf]
    ·have et:(be8 (8*m.length)).take (3+1)=(be8 (8*m.length)).take 3++[UInt8.ofNat (8*m.length / 2 ^ 32)]:=rfl
     have ev:NI / 4294967296 % 256=B8 (UInt8.ofNat (8*m.length / 2 ^ 32)):=by rw[eF,HNI.out];omega
     skip
     generalize hc:UInt8.ofNat (8*m.length / 2 ^ 32)=c at et ev;have em:B8 c % 256=B8 c:=cI c;have ET:=O et;clear et hc
     go_wp2_with (at_builtin;go_loud (refine br aN rfl (.tmp 27) (.tmp 34) rfl w.heap.size _ _ rfl (hown2.out.on ((O_ _ _).alloc (A_ _) _)) (.slice (some ⟨wr.heap.size,0,none⟩) 1 1) [c] rfl (bP wr c aN) (by have := HP0.out;simp;omega) (by have := HW3.out;simp;omega) ?_);intro v5 w4 ho4 hg4 hloc;have HB4:=O (hbw2.out.trans (((O_ wr.heap.size wr).alloc (A_ _) (.cells #[.int .u8 (B8 c)] 5)).mono HW3.out |>.trans ((hown2.out.on ((O_ _ _).alloc (A_ _) _)).below hg4 (by have := HW3.out;simp;omega))));have HO4:=O ho4;clear ho4 hg4 hloc)
     go_roundw
     case rel=>exact⟨4,by decide,by go_num,HO4.out.rd.form1 (by have := HP0.out;have := HPL.out;simp[be8];omega),O (by have h:=HO4.out;rw[R_,←ET.out] at h;exact h),HB4⟩
     case measure=>simp[intOf]
    ·have et:(be8 (8*m.length)).take (4+1)=(be8 (8*m.length)).take 4++[UInt8.ofNat (8*m.length / 2 ^ 24)]:=rfl
     have ev:NI / 16777216 % 256=B8 (UInt8.ofNat (8*m.length / 2 ^ 24)):=by rw[eF,HNI.out];omega
     skip
     generalize hc:UInt8.ofNat (8*m.length / 2 ^ 24)=c at et ev;have em:B8 c % 256=B8 c:=cI c;have ET:=O et;clear et hc
     go_wp2_with (at_builtin;go_loud (refine br aN rfl (.tmp 27) (.tmp 34) rfl w.heap.size _ _ rfl (hown2.out.on ((O_ _ _).alloc (A_ _) _)) (.slice (some ⟨wr.heap.size,0,none⟩) 1 1) [c] rfl (bP wr c aN) (by have := HP0.out;simp;omega) (by have := HW3.out;simp;omega) ?_);intro v5 w4 ho4 hg4 hloc;have HB4:=O (hbw2.out.trans (((O_ wr.heap.size wr).alloc (A_ _) (.cells #[.int .u8 (B8 c)] 5)).mono HW3.out |>.trans ((hown2.out.on ((O_ _ _).alloc (A_ _) _)).below hg4 (by have := HW3.out;simp;omega))));have HO4:=O ho4;clear ho4 hg4 hloc)
     go_roundw
     case rel=>exact⟨5,by decide,by go_num,HO4.out.rd.form1 (by have := HP0.out;have := HPL.out;simp[be8];omega),O (by have h:=HO4.out;rw[R_,←ET.out] at h;exact h),HB4⟩
     case measure=>simp[intOf]
    ·have et:(be8 (8*m.length)).take (5+1)=(be8 (8*m.length)).take 5++[UInt8.ofNat (8*m.length / 2 ^ 16)]:=rfl
     have ev:NI / 65536 % 256=B8 (UInt8.ofNat (8*m.length / 2 ^ 16)):=by rw[eF,HNI.out];omega
     skip
     generalize hc:UInt8.ofNat (8*m.length / 2 ^ 16)=c at et ev;have em:B8 c % 256=B8 c:=cI c;have ET:=O et;clear et hc
     go_wp2_with (at_builtin;go_loud (refine br aN rfl (.tmp 27) (.tmp 34) rfl w.heap.size _ _ rfl (hown2.out.on ((O_ _ _).alloc (A_ _) _)) (.slice (some ⟨wr.heap.size,0,none⟩) 1 1) [c] rfl (bP wr c aN) (by have := HP0.out;simp;omega) (by have := HW3.out;simp;omega) ?_);intro v5 w4 ho4 hg4 hloc;have HB4:=O (hbw2.out.trans (((O_ wr.heap.size wr).alloc (A_ _) (.cells #[.int .u8 (B8 c)] 5)).mono HW3.out |>.trans ((hown2.out.on ((O_ _ _).alloc (A_ _) _)).below hg4 (by have := HW3.out;simp;omega))));have HO4:=O ho4;clear ho4 hg4 hloc)
     go_roundw
     case rel=>exact⟨6,by decide,by go_num,HO4.out.rd.form1 (by have := HP0.out;have := HPL.out;simp[be8];omega),O (by have h:=HO4.out;rw[R_,←ET.out] at h;exact h),HB4⟩
     case measure=>simp[intOf]
    ·have et:(be8 (8*m.length)).take (6+1)=(be8 (8*m.length)).take 6++[UInt8.ofNat (8*m.length / 2 ^ 8)]:=rfl
     have ev:NI / 256 % 256=B8 (UInt8.ofNat (8*m.length / 2 ^ 8)):=by rw[eF,HNI.out];omega
     skip
     generalize hc:UInt8.ofNat (8*m.length / 2 ^ 8)=c at et ev;have em:B8 c % 256=B8 c:=cI c;have ET:=O et;clear et hc
     go_wp2_with (at_builtin;go_loud (refine br aN rfl (.tmp 27) (.tmp 34) rfl w.heap.size _ _ rfl (hown2.out.on ((O_ _ _).alloc (A_ _) _)) (.slice (some ⟨wr.heap.size,0,none⟩) 1 1) [c] rfl (bP wr c aN) (by have := HP0.out;simp;omega) (by have := HW3.out;simp;omega) ?_);intro v5 w4 ho4 hg4 hloc;have HB4:=O (hbw2.out.trans (((O_ wr.heap.size wr).alloc (A_ _) (.cells #[.int .u8 (B8 c)] 5)).mono HW3.out |>.trans ((hown2.out.on ((O_ _ _).alloc (A_ _) _)).below hg4 (by have := HW3.out;simp;omega))));have HO4:=O ho4;clear ho4 hg4 hloc)
     go_roundw
     case rel=>exact⟨7,by decide,by go_num,HO4.out.rd.form1 (by have := HP0.out;have := HPL.out;simp[be8];omega),O (by have h:=HO4.out;rw[R_,←ET.out] at h;exact h),HB4⟩
     case measure=>simp[intOf]
    ·have et:(be8 (8*m.length)).take (7+1)=(be8 (8*m.length)).take 7++[UInt8.ofNat (8*m.length / 2 ^ 0)]:=rfl
     have ev:NI % 256=B8 (UInt8.ofNat (8*m.length / 2 ^ 0)):=by rw[eF,HNI.out];omega
     skip
     generalize hc:UInt8.ofNat (8*m.length / 2 ^ 0)=c at et ev;have em:B8 c % 256=B8 c:=cI c;have ET:=O et;clear et hc
     go_wp2_with (at_builtin;go_loud (refine br aN rfl (.tmp 27) (.tmp 34) rfl w.heap.size _ _ rfl (hown2.out.on ((O_ _ _).alloc (A_ _) _)) (.slice (some ⟨wr.heap.size,0,none⟩) 1 1) [c] rfl (bP wr c aN) (by have := HP0.out;simp;omega) (by have := HW3.out;simp;omega) ?_);intro v5 w4 ho4 hg4 hloc;have HB4:=O (hbw2.out.trans (((O_ wr.heap.size wr).alloc (A_ _) (.cells #[.int .u8 (B8 c)] 5)).mono HW3.out |>.trans ((hown2.out.on ((O_ _ _).alloc (A_ _) _)).below hg4 (by have := HW3.out;simp;omega))));have HO4:=O ho4;clear ho4 hg4 hloc)
     go_roundw
     case rel=>exact⟨8,by decide,by go_num,HO4.out.rd.form1 (by have := HP0.out;have := HPL.out;simp[be8];omega),O (by have h:=HO4.out;rw[R_,←ET.out] at h;exact h),HB4⟩
     case measure=>simp[intOf]
    ·have HR:Hid (ap eB wr w.heap.size (.slice a2 (m.length+1+j+8) cap2) (gj m)):=O (by rw[←HPD.out];exact hown2.out)
     go_wp2;go_ret;exact⟨_,rfl,HR.out,hbw2.out⟩
  ·have tq:¬((m.length:Int)+1+(j:Int)) % 64=56:=by intro h;exact hq (hz1.1 (by omega))
   have tq2:(((m.length:Int)+1+(j:Int)) % 64 != 56)=true:=by simpa using tq
   have HJ:Hid (j+1≤kS m.length):=O (by omega);clear hz1 hq tq hj
   go_wp2_with (at_builtin;(refine br aN rfl (.tmp 16) (.tmp 17) rfl w.heap.size (.slice a (m.length+1+j) cap) (m++[128]++List.replicate j 0) rfl (hown.out.on ((O_ _ _).alloc (A_ _) _)) (.slice (some ⟨wr.heap.size,0,none⟩) 1 1) [0] rfl (bP wr (0:UInt8) aN) (by simp;have := jz m.length;have := HJ.out;have := HLEN.out;omega) (by have := HW.out;simp;omega) ?_);intro v5 w4 ho4 hg4 hloc;have HB4:=O (hbw.out.trans (((O_ wr.heap.size wr).alloc (A_ _) (.cells #[.int .u8 0] 5)).mono HW.out |>.trans ((hown.out.on ((O_ _ _).alloc (A_ _) _)).below hg4 (by have := HW.out;simp;omega))));have HO4:=O ho4;clear ho4 hg4 hloc)
   go_roundw
   case rel=>exact⟨j+1,HJ.out,HO4.out.rd.form1 (by simp;omega),O (by have h:=HO4.out;rw[R_,←List.replicate_succ'] at h;exact h),HB4⟩
   case measure =>
    obtain⟨a5,c5,e5⟩:=HO4.out.rd.form1 (n:=m.length+1+j+1) (by simp;omega);have := HJ.out;have := jz m.length;have := HLEN.out
    show 1000000-iZ v5<1000000-iZ (.slice a (m.length+1+j) cap)
    rw[e5];simp only[iZ]
    omega
end
section
namespace Fld
open Go.RowKit F6
theorem Kx (l:List UInt8) (k:Nat) (x:UInt8) (hk:k≤l.length) (h:∀j,j<k→byteAt l j≠x):x ∉ l.take k:=by
 intro hm;obtain⟨j,hj,e⟩:=List.getElem_of_mem hm
 have hj':j<k:=by rw[b_] at hj;omega
 refine h j hj' ?_;rw[List.getElem_take] at e;rw[byteAt,I_,K_ (by omega),←e];rfl
theorem Dm (l:List UInt8) (k:Nat) (h:k<l.length) (hn:(l.take k).Nodup) (hm:byteAt l k ∉ l.take k):(l.take (k+1)).Nodup:=by
 rw[iM l k h,List.nodup_append];refine⟨hn,by simp,?_⟩;intro x hx y hy e;rw[List.mem_singleton] at hy;rw[e,hy] at hx;exact hm hx
theorem G0 (l:List UInt8) (i k:Nat) (hi:i<l.length) (hk:k<i) (h:byteAt l i=byteAt l k):¬l.Nodup:=by
 intro hn;have := List.pairwise_iff_getElem.1 hn k i (by omega) hi hk
 apply this
 rw[byteAt,byteAt,I_,I_,K_ hi,K_ (by omega)] at h;exact h.symm
theorem uK (v:Value) (l:List UInt8) (w:World) (hv:RdB w v l) :
  Calls prog 190 #[v] w fun e w'=>e = .returned (.bool (okX l))∧∃n,w'=w.drewN n:=by
 obtain⟨a,cap,rfl,hl,hcap,hcells⟩:=hv;unfold maxLen at hcap
 by_cases h0:l.length=0
 ·have hno:okX l=false:=by simp[okX,h0]
  have HN:=O hno
  have hz:((l.length:Int) == 0)=true:=by rw[beq_iff_eq];omega
  clear hno
  go_enter func190,ntmps190
  go_wp2;go_ret;exact⟨by rw[HN.out];rfl,0,rfl⟩
 have hz:((l.length:Int) == 0)=false:=by rw[U_];omega
 by_cases h255:255<l.length
 ·have hno:okX l=false:=by simp[okX];omega
  have HN:=O hno
  have h2:(255:Int)<l.length:=by omega
  clear hno
  go_enter func190,ntmps190
  go_wp2;go_ret;exact⟨by rw[HN.out];rfl,0,rfl⟩
 have h2:¬(255:Int)<l.length:=by omega
 obtain⟨b,off,rfl,hbl,hc⟩:=hcells (by omega)
 have hok:okX l=decide l.Nodup:=by simp[okX];omega
 have HO:=O hok;clear hok hcells
 go_enter func190,ntmps190
 go_wp2
 go_loopw [3] (fun i wr=>∃k:Nat,k≤l.length∧i = .int .i64 k∧(l.take k).Nodup∧∃n,wr=w.drewN n) (fun i _=>l.length-(intOf i).toNat)
 case atStart=>exact⟨0,N_ _,rfl,List.nodup_nil,0,rfl⟩
 case round =>
  obtain⟨i,hi,rfl,hnd,n,rfl⟩:=hrel
  by_cases hlt:i<l.length
  ·have hii:(i:Int)<l.length:=by omega
   have HND:=O hnd;have HI:=O hlt;clear hnd;go_wp2
   go_loopw [4] (fun j wr=>∃k:Nat,k≤i∧j = .int .i64 k∧(∀m,m<k→byteAt l m≠byteAt l i)∧∃n,wr=w.drewN n) (fun j _=>i-(intOf j).toNat)
   case atStart=>exact⟨0,N_ _,rfl,fun m h=>absurd h (Nat.not_lt_zero m),n,rfl⟩
   case round =>
    obtain⟨k,hk,rfl,hne,n,rfl⟩:=hrel;have hi:=HI.out
    by_cases hki:k<i
    ·have c1:=hc i hi
     have c2:=hc k (by omega)
     have i1:(i:Int)<l.length:=by omega
     have i2:(k:Int)<l.length:=by omega
     have i3:(k:Int)<i:=by omega
     have HK:=O hki;have HNE:=O hne;clear hne
     by_cases he:byteAt l i=byteAt l k
     ·have hno:okX l=false:=by rw[HO.out];simpa using G0 l i k hi hki he
      have HN:=O hno;clear hno
      have heq:(B8 (byteAt l i) == B8 (byteAt l k))=true:=by rw[he];simp
      clear he;go_wp2
      first |refine fR (by kernel_rfl) (by kernel_rfl) ?_|refine fG (by kernel_rfl) (by kernel_rfl) ?_
      repeat (go_big_quiet_step (fail))
      refine h_ ?_;rintro _ ⟨nq,rfl⟩;go_wp2;go_ret;exact⟨by rw[HN.out];rfl,_,rfl⟩
     ·have heq:(B8 (byteAt l i) == B8 (byteAt l k))=false:=by rw[U_];intro h;exact he (pJ h)
      have HE:=O he;clear he;go_wp2
      first |refine fR (by kernel_rfl) (by kernel_rfl) ?_|refine fG (by kernel_rfl) (by kernel_rfl) ?_
      repeat (go_big_quiet_step (fail))
      refine h_ ?_;rintro _ ⟨nq,rfl⟩;go_wp2;go_roundw
      case rel =>
       refine⟨k+1,HK.out,by go_num,?_,_,rfl⟩;intro m hm
       by_cases hmk:m=k
       ·rw[hmk];exact fun h=>HE.out h.symm
       ·exact HNE.out m (by omega)
      case measure=>have := HK.out;simp[intOf];omega
    ·have he:k=i:=by omega
     have hn2:=Dm l i hi HND.out (Kx l i (byteAt l i) (by omega) (fun m hm=>hne m (by omega)));have HN2:=O hn2
     have i3:(i:Int)≤k:=by omega
     clear he hne hn2;go_wp2;go_roundw
     case rel=>exact⟨i+1,HI.out,by go_num,HN2.out,n,rfl⟩
     case measure=>have := HI.out;simp[intOf];omega
  ·have he:i=l.length:=by omega
   have hnd':l.Nodup:=by rw[he,List.take_length] at hnd;exact hnd
   have hyes:okX l=true:=by rw[HO.out];simpa using hnd'
   have HY:=O hyes;clear hyes hnd hnd';go_wp2;go_ret;exact⟨by rw[HY.out];rfl,n,rfl⟩
end Fld
end
section
namespace Fld
open F6
def dn (p:List UInt8) (x:UInt8) (k:Nat):List UInt8:=tab p.length fun j=>if k<j then byteAt p (j-1) ^^^ mul (byteAt p j) x else byteAt p j
end Fld
end
end Go.Proofs.YtmfiaadjdbemnaaGreatDoor
