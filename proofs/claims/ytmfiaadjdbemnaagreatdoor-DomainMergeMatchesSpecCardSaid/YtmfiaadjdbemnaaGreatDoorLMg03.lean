/- Contracts and lemmas. No condition. -/
import Derived.Test.YtmfiaadjdbemnaaGreatDoorLMg01
import Derived.Test.YtmfiaadjdbemnaaGreatDoorSB17
set_option maxRecDepth 100000
set_option maxHeartbeats 8000000
set_option linter.unusedSimpArgs false
set_option linter.unusedVariables false
namespace Go.Proofs.YtmfiaadjdbemnaaGreatDoor
open Go.Proofs.Tryz
section
open Go.RowKit
def leN (m k:Nat):List UInt8:=(List.range k).map fun i=>UInt8.ofNat (m / 256 ^ i)
theorem tA (m k:Nat):(leN m k).length=k:=by unfold leN;rw[List.length_map,List.length_range]
theorem Ko (m k:Nat):leN m (k+1)=leN m k++[UInt8.ofNat (m / 256 ^ k)]:=by
 unfold leN;rw[List.range_succ,List.map_append]
 rfl
theorem SE (m k i:Nat) (h:i<k):byteAt (leN m k) i=UInt8.ofNat (m / 256 ^ i):=by
 unfold byteAt leN;rw[I_,List.getElem?_map,List.getElem?_range h]
 rfl
theorem Ju (m k:Nat):m / 256 ^ k / 256=m / 256 ^ (k+1):=by rw[Nat.div_div_eq_div_mul,Nat.pow_succ]
theorem T5 (d:UInt8):(255:UInt8)-d=d ^^^ 255:=by
 apply UInt8.toBitVec_inj.1
 show (255#8)-d.toBitVec=d.toBitVec ^^^ (255#8)
 rw[show (255#8)=BitVec.allOnes 8 from rfl,BitVec.allOnes_sub_eq_not,BitVec.xor_allOnes]
theorem Om (k:Nat) (hk:k≤8):(UInt8.ofNat (128+k) ^^^ 255:UInt8)=UInt8.ofNat (127-k):=by
 rcases (by omega:k=0∨k=1∨k=2∨k=3∨k=4∨k=5∨k=6∨k=7∨k=8) with rfl|rfl|rfl|rfl|rfl|rfl|rfl|rfl|rfl <;> decide
open Go.RowKit
def pQ (w:World) (lo g:Nat):Prop:=∀k,k<8→∃b,lo≤b∧b<w.heap.size∧w.cell? ⟨g,k,none⟩=some (.slice (some ⟨b,0,none⟩) 4 4) ∧
 ∀j,j<4→w.cell? ⟨b,j,none⟩=some (.int .i64 ((C3.order.getD k []).getD j 0:Nat))
theorem pQ.keep {w w':World} {lo g:Nat} (h:pQ w lo g) (hg:lo≤g) (hg2:g<w.heap.size) (hs:w.heap.size≤w'.heap.size) (hb:∀b,lo≤b→b<w.heap.size→w'.heap[b]? = w.heap[b]?):pQ w' lo g:=by
 intro k hk;obtain⟨b,h1,h2,h3,h4⟩:=h k hk;refine⟨b,h1,by omega,?_,fun j hj => ?_⟩
 ·rw[←h3];exact World.cell?_of_block (hb g hg hg2)
 ·rw[←h4 j hj];exact World.cell?_of_block (hb b h1 h2)
theorem O5 (w:World):Calls prog 195 #[] w fun e w'=>∃g,e = .returned (.slice (some ⟨g,0,none⟩) 8 8)∧w.heap.size≤g∧g<w'.heap.size∧pQ w' w.heap.size g∧Below w.heap.size w w':=by
 go_enter func195,ntmps195
 go_wp2;go_ret;refine⟨_,rfl,by omega,by simp,?_,?_⟩
 ·intro k hk
  have h8:k=0∨k=1∨k=2∨k=3∨k=4∨k=5∨k=6∨k=7:=by omega
  refine⟨w.heap.size+k,by omega,by simp;omega,?_,fun j hj => ?_⟩
  ·rcases h8 with rfl|rfl|rfl|rfl|rfl|rfl|rfl|rfl <;> simp[go_sem]
  ·have h4:j=0∨j=1∨j=2∨j=3:=by omega
   rcases h8 with rfl|rfl|rfl|rfl|rfl|rfl|rfl|rfl <;> rcases h4 with rfl|rfl|rfl|rfl <;> simp[go_sem,C3.order]
 ·repeat (first |exact O_ _ _|refine Below.alloc ?_ (by simp;try omega) _)
theorem KV:∀k,k<8→((C3.order.getD k []).getD 0 0<16∧(C3.order.getD k []).getD 1 0<16∧(C3.order.getD k []).getD 2 0<16∧(C3.order.getD k []).getD 3 0<16) ∧
  ((C3.order.getD k []).getD 0 0≠(C3.order.getD k []).getD 1 0∧(C3.order.getD k []).getD 0 0≠(C3.order.getD k []).getD 2 0∧(C3.order.getD k []).getD 0 0≠(C3.order.getD k []).getD 3 0) ∧
  ((C3.order.getD k []).getD 1 0≠(C3.order.getD k []).getD 2 0∧(C3.order.getD k []).getD 1 0≠(C3.order.getD k []).getD 3 0∧(C3.order.getD k []).getD 2 0≠(C3.order.getD k []).getD 3 0):=by decide
structure yv (w:World) (g:Nat) (X:List UInt32) (wr:World):Prop where
 row:wr.heap[w.heap.size]?=some (.cells (row X) 226 (0,0))
 res:wr.heap[w.heap.size+1]?=some (.cells sx 226 (0,0))
 ord:pQ wr (w.heap.size+2) g
 g1:w.heap.size+2≤g
 g2:g<wr.heap.size
 below:Below w.heap.size w wr
theorem yv.next {w:World} {g:Nat} {X Y:List UInt32} {wr w2:World} (h:yv w g X wr) (n:Nat) (hb:Below wr.heap.size (wr.drewN n) w2):yv w g Y (w2.setRow w.heap.size (Go.Proofs.YtmfiaadjdbemnaaGreatDoor.row Y)):=by
 have hB:w.heap.size<wr.heap.size:=by have := h.g1;have := h.g2;omega
 have e1:w2.heap[w.heap.size]?=some (.cells (Go.Proofs.YtmfiaadjdbemnaaGreatDoor.row X) 226 (0,0)):=by rw[hb.block _ hB];exact h.row
 have hs:wr.heap.size≤w2.heap.size:=hb.size;refine⟨setRow_heap _ _ _ _ _ _ e1,?_,?_,h.g1,?_,?_⟩
 ·rw[setRow_other _ _ _ _ (by omega),hb.block _ (by have := h.g1;have := h.g2;omega)];exact h.res
 ·refine h.ord.keep h.g1 h.g2 (by rw[size_setRow];exact hs) (fun b h1 h2 => ?_)
  rw[setRow_other _ _ _ _ (by omega),hb.block _ h2];rfl
 ·have := h.g2;rw[size_setRow];omega
 ·exact below_setRow (h.below.trans ((ak n (O_ _ _)).trans (hb.mono (by omega)))) (A_ _) _
theorem DA (s:List UInt32) (hl:s.length=16) (w:World) :
  Calls prog 185 #[.agg (row s)] w fun e w'=>e = .returned (.agg (row (C3.rounds s 10)))∧Below w.heap.size w w':=by
 go_enter func185,ntmps185
 go_wp2_with (go_at_call 195;refine(O5 _).mono ?_;rintro e w1 ⟨g,rfl,hg1,hg2,hord,hb1⟩)
 simp only[World.size_alloc] at hg1 hg2 hord hb1
 have I0:yv w g s w1:=by
  refine⟨?_,?_,hord,hg1,hg2,?_⟩
  ·rw[hb1.block _ (by omega),bx _ _ _ (by simp),al _ _ _ rfl]
  ·rw[hb1.block _ (by omega),al _ _ _ (by simp)];rfl
  ·exact(((O_ _ _).alloc (A_ _) _).alloc (by simp) _).trans (hb1.mono (by omega))
 clear hord hb1 hg1 hg2
 go_loopw [4] (fun i wr=>∃m:Nat,m≤10∧i = .int .i64 m∧yv w g (C3.rounds s m) wr) (fun i _=>10-(intOf i).toNat)
 case atStart=>exact⟨0,by omega,rfl,I0⟩
 case round =>
  obtain⟨m,hm,rfl,I⟩:=hrel
  have hlen:(C3.rounds s m).length=16:=by rw[C3.length_rounds,hl]
  by_cases hlt:m<10
  ·have hd:decide ((m:Int)<10)=true:=by simp;omega
   go_wp2
   go_loopw [5] (fun i wr=>∃k:Nat,k≤8∧i = .int .i64 k∧yv w g (C3.qk (C3.rounds s m) k) wr) (fun i _=>8-(intOf i).toNat)
   case atStart=>exact⟨0,by omega,rfl,I⟩
   case round =>
    clear I
    rename_i wq
    obtain⟨k,hk,rfl,I⟩:=hrel
    have hlenk:(C3.qk (C3.rounds s m) k).length=16:=by rw[C3.length_qk,hlen]
    by_cases hlt2:k<8
    ·obtain⟨b,hb1,hb2,hc,hcj⟩:=I.ord k hlt2
     have q0:=hcj 0 (by omega);have q1:=hcj 1 (by omega);have q2:=hcj 2 (by omega);have q3:=hcj 3 (by omega);obtain⟨⟨b0,b1,b2,b3⟩,⟨n01,n02,n03⟩,⟨n12,n13,n23⟩⟩:=KV k hlt2;have hq:C3.qk (C3.rounds s m) (k+1)=C3.qset (C3.qk (C3.rounds s m) k) ((C3.order.getD k []).getD 0 0) ((C3.order.getD k []).getD 1 0) ((C3.order.getD k []).getD 2 0) ((C3.order.getD k []).getD 3 0):=rfl;clear hcj;generalize (C3.order.getD k []).getD 0 0=o0 at *;generalize (C3.order.getD k []).getD 1 0=o1 at *;generalize (C3.order.getD k []).getD 2 0=o2 at *;generalize (C3.order.getD k []).getD 3 0=o3 at *;have HQ:=O hq;clear hq;have aO:∀i,wr.cell? ⟨w.heap.size,i,none⟩=(row (C3.qk (C3.rounds s m) k))[i]? := fun i=>e_ _ _ i _ _ _ I.row
     have hB:w.heap.size<wr.heap.size:=by have := I.g1;have := I.g2;omega
     go_wp2;refine dD 25 (by kernel_rfl) (by kernel_rfl) ?_;simp only[F_,c_,J_,L_]
     repeat (first |go_big_quiet_step (fail)|quiet_step (fail))
     refine h_ ?_;rintro _ ⟨nq,rfl⟩;clear aO
     go_wp2_with (first
      |(go_at_call 196;refine(BP _ _ hlenk o0 o1 o2 o3 b0 b1 b2 b3 n01 n02 n03 n12 n13 n23).mono ?_;rintro e w2 ⟨rfl,hb⟩)
      |(refine gN rfl (.tmp 1) (.tmp 42) rfl _ _ rfl rfl 226 _ ((hb.block _ hB).trans I.row) (by rw[co,hlenk]) (by rw[C3.length_qset,hlenk]) ?_))
     go_roundw
     case rel=>exact⟨k+1,by omega,by go_num,by rw[HQ.out];exact I.next nq hb⟩
     case measure=>simp[intOf];omega
    ·have he:k=8:=by omega
     have HE:=O he;clear he;go_wp2;go_roundw
     case rel=>exact⟨m+1,by omega,by go_num,by have := I;rw[HE.out] at this;exact this⟩
     case measure=>simp[intOf];omega
  ·have he:m=10:=by omega
   have HE:=O he;clear he
   go_wp2_with (first
         |(refine ng rfl (.tmp 1) rfl _ rfl _ 226 I.row hlen ?_)
         |(refine gN rfl (.tmp 2) (.tmp 43) rfl _ _ rfl rfl 226 _ I.res rfl hlen ?_))
   refine g_ (v := .agg (row _)) (zv rfl _ _ _ _ _ rfl (setRow_heap _ _ _ _ _ _ I.res) hlen) rfl ⟨by rw[HE.out],?_⟩;exact below_setRow I.below (by omega) _
open Go.RowKit
def cA (w:World):Prop:=∃t,w.heap[1]?=some (.cells (row KK) t (0,0))
theorem cA.lt {w:World} (h:cA w):1<w.heap.size:=by obtain⟨t,h⟩:=h;exact(Q_.1 h).1
theorem cA.on {w w':World} (h:cA w) (hb:Below w.heap.size w w'):cA w':=by
 have hlt:=h.lt;unfold cA;rw[hb.block _ hlt];exact h
theorem O7 {w:World} {ai:Nat} {v:Value} {l:List UInt8} (h:ap eB w ai v l) (h0:0<l.length) :
  ∃b cap X,v = .slice (some ⟨b,0,none⟩) l.length cap∧l.length≤cap∧cap≤maxLen∧ai≤b∧w.heap[b]?=some X∧∀w':World,w'.heap[b]?=some X→RdE eB w' (.slice (some ⟨b,0,none⟩) l.length cap) l:=by
 rcases h.2 with⟨rfl,hn⟩|⟨g,cap,cur,rfl,hb,hg,h1,h2,h3,h4⟩
 ·omega
 ·refine⟨g,cap,_,rfl,h1,h2,hb,hg,fun w' hw' => ?_⟩
  exact ap.rd (ai:=ai) (⟨h.1,.inr ⟨g,cap,cur,rfl,hb,hw',h1,h2,h3,h4⟩⟩:ap eB w' ai _ l)
theorem Lh {w:World} {b cap n:Nat} {l:List UInt8} (h:RdE eB w (.slice (some ⟨b,0,none⟩) n cap) l) (k:Nat) (hk:k+64≤l.length) (c:Nat) (hc1:64≤c) (hc2:c≤maxLen):RdE eB w (.slice (some ⟨b,k,none⟩) 64 c) ((l.drop k).take 64):=by
 obtain⟨a',c',e,h1,h2,h3⟩:=h
 cases e
 obtain⟨b2,off,e,hlt,hcell⟩:=h3 (by omega)
 cases e
 have hl:((l.drop k).take 64).length=64:=by rw[b_,S_];omega
 refine⟨_,c,by rw[hl],by rw[hl];exact hc1,hc2,fun _=>⟨b,k,rfl,hlt,fun j u hu => ?_⟩⟩;rw[mU] at hu hcell
 have hj:j<64:=by have := (d_.1 hu).1;rw[iP,hl] at this;exact this
 have := hcell (k+j) u (by rw[←hu];unfold bcs;rw[List.getElem?_map,List.getElem?_map,List.getElem?_take,G_ hj,List.getElem?_drop])
 rwa [a_] at this
structure RW (w:World) (b0:Nat) (X:Obj) (S:List UInt32) (wr:World):Prop where
 k:cA wr
 r:wr.heap[w.heap.size]?=some (.cells (brow z32) 139 (0,0))
 s:wr.heap[w.heap.size+1]?=some (.cells (row S) 131 (0,0))
 p:wr.heap[b0]?=some X
 hb:w.heap.size+1<b0
 below:Below w.heap.size w wr
 ls:S.length=8
theorem RW.on {w wr w':World} {b0:Nat} {X:Obj} {S:List UInt32} (h:RW w b0 X S wr) (hb:Below wr.heap.size wr w'):RW w b0 X S w' :=
 ⟨h.k.on hb,by rw[hb.block _ (Q_.1 h.r).1];exact h.r,by rw[hb.block _ (Q_.1 h.s).1];exact h.s,by rw[hb.block _ (Q_.1 h.p).1];exact h.p,h.hb,h.below.trans (hb.mono h.below.size),h.ls⟩
structure VW (w:World) (b0:Nat) (X:Obj) (S:List UInt32) (gt gv:Nat) (ws V:List UInt32) (wr:World):Prop extends RW w b0 X S wr where
 t:wr.heap[gt]?=some (.cells (row ws) 213 (0,0))
 v:wr.heap[gv]?=some (.cells (row V) 131 (0,0))
 ht:b0<gt
 hv:gt<gv
 lt:ws.length=64
 lv:V.length=8
theorem VW.drew {w wr:World} {b0:Nat} {X:Obj} {S:List UInt32} {gt gv:Nat} {ws V:List UInt32} (h:VW w b0 X S gt gv ws V wr) (n:Nat):VW w b0 X S gt gv ws V (wr.drewN n) :=
 ⟨⟨h.k,h.r,h.s,h.p,h.hb,ak n h.below,h.ls⟩,h.t,h.v,h.ht,h.hv,h.lt,h.lv⟩
theorem VW.setV {w wr w':World} {b0:Nat} {X:Obj} {S:List UInt32} {gt gv:Nat} {ws V V':List UInt32} (h:VW w b0 X S gt gv ws V wr) (hl:V'.length=8) (hg:w'.heap[gv]?=some (.cells (row V') 131 (0,0))) (ho:∀k,k≠gv→w'.heap[k]? = wr.heap[k]?) (hb:∀B,B≤gv→Below B wr w'):VW w b0 X S gt gv ws V' w':=by
 have h1:=h.hb;have h2:=h.ht;have h3:=h.hv;exact⟨⟨by unfold cA;rw[ho _ (by omega)];exact h.k,by rw[ho _ (by omega)];exact h.r,by rw[ho _ (by omega)];exact h.s,by rw[ho _ (by omega)];exact h.p,h.hb,h.below.trans (hb _ (by omega)),h.ls⟩,by rw[ho _ (by omega)];exact h.t,hg,h.ht,h.hv,h.lt,hl⟩
theorem VW.setS {w wr:World} {b0:Nat} {X:Obj} {S:List UInt32} {gt gv:Nat} {ws V:List UInt32} (h:VW w b0 X S gt gv ws V wr) (h0:1<w.heap.size) (i:Nat) (x:UInt32):VW w b0 X (S.set i x) gt gv ws V (wr.setCell ⟨w.heap.size+1,i,none⟩ (.int .u32 (W32 x))):=by
 have h1:=h.hb;have h2:=h.ht;have h3:=h.hv;rw[au _ _ _ _ _ _ _ h.s]
 have e:(row S).setIfInBounds i (.int .u32 (W32 x))=row (S.set i x):=by
  unfold row
  apply Array.ext'
  rw[Array.toList_setIfInBounds]
  simp[List.map_set]
 rw[e];exact⟨⟨by unfold cA;rw[aj _ _ _ _ (by omega)];exact h.k,by rw[aj _ _ _ _ (by omega)];exact h.r,setRow_heap _ _ _ _ _ _ h.s,by rw[aj _ _ _ _ (by omega)];exact h.p,h.hb,h.below.trans (aK (by omega)),by rw[List.length_set];exact h.ls⟩,by rw[aj _ _ _ _ (by omega)];exact h.t,by rw[aj _ _ _ _ (by omega)];exact h.v,h.ht,h.hv,h.lt,h.lv⟩
theorem VW.vc {w wr:World} {b0:Nat} {X:Obj} {S:List UInt32} {gt gv:Nat} {ws V:List UInt32} (h:VW w b0 X S gt gv ws V wr) (i:Nat) (hi:i<8):wr.cell? ⟨gv,i,none⟩=some (.int .u32 (W32 (w16 V i))):=by
 have hl:=h.lv;rw[e_ _ _ _ _ _ _ h.v]
 simp[row,w16,show i<V.length by omega]
theorem VW.sc {w wr:World} {b0:Nat} {X:Obj} {S:List UInt32} {gt gv:Nat} {ws V:List UInt32} (h:VW w b0 X S gt gv ws V wr) (i:Nat) (hi:i<8):wr.cell? ⟨w.heap.size+1,i,none⟩=some (.int .u32 (W32 (w16 S i))):=by
 have hl:=h.ls;rw[e_ _ _ _ _ _ _ h.s]
 simp[row,w16,show i<S.length by omega]
theorem VW.tc {w wr:World} {b0:Nat} {X:Obj} {S:List UInt32} {gt gv:Nat} {ws V:List UInt32} (h:VW w b0 X S gt gv ws V wr) (i:Nat) (hi:i<64):wr.cell? ⟨gt,i,none⟩=some (.int .u32 (W32 (wd ws i))):=by
 have hl:=h.lt;rw[e_ _ _ _ _ _ _ h.t]
 simp[row,wd,show i<ws.length by omega]
theorem VW.kc {w wr:World} {b0:Nat} {X:Obj} {S:List UInt32} {gt gv:Nat} {ws V:List UInt32} (h:VW w b0 X S gt gv ws V wr) (i:Nat) (hi:i<64):wr.cell? ⟨1,i,none⟩=some (.int .u32 (W32 (wd KK i))):=by
 have hl:=lB;obtain⟨tk,hk⟩:=h.k;rw[e_ _ _ _ _ _ _ hk]
 simp[row,wd,show i<KK.length by omega]
theorem Tu:row (hs iv) = #[.int .u32 1779033703,.int .u32 3144134277,.int .u32 1013904242,.int .u32 2773480762,.int .u32 1359893119,.int .u32 2600822924,.int .u32 528734635,.int .u32 1541459225]:=rfl
def z8:List UInt32:=List.replicate 8 0
theorem Qm:(prog.info? 131).map (·.zero)=some (some (.agg (row z8))):=by kernel_rfl
theorem Ud (w:World):(zeroValue 131).run prog w = .ok (.agg (row z8)) w:=by
 have h:=Qm;generalize row z8=L at h ⊢
 cases hq:prog.info? 131 with
 | none=>rw[hq] at h;cases h
 | some i =>
   rw[hq] at h
   simp at h
   simp[zeroValue,typeInfo,hq,h]
theorem Lr {w w1:World} {b0:Nat} {X:Obj} (hk:cA w) (hb:Below ((w.alloc (.cells (brow z32) 139)).alloc (.cells (row (hs iv)) 131)).heap.size ((w.alloc (.cells (brow z32) 139)).alloc (.cells (row (hs iv)) 131)) w1)
  (hX:w1.heap[b0]?=some X) (h0:((w.alloc (.cells (brow z32) 139)).alloc (.cells (row (hs iv)) 131)).heap.size≤b0):RW w b0 X (hs iv) w1:=by
 have hs0:=h0;simp only[World.size_alloc] at hs0;have hA:Below w.heap.size w ((w.alloc (.cells (brow z32) 139)).alloc (.cells (row (hs iv)) 131)):=((O_ _ _).alloc (A_ _) _).alloc (by simp) _;exact⟨(hk.on hA).on hb,by rw[hb.block _ (by simp only[World.size_alloc];omega)];exact cF w _ _ 0,by rw[hb.block _ (by simp only[World.size_alloc];omega)];exact dL w _ _ 0,hX,by omega,hA.trans (hb.mono hA.size),rfl⟩
theorem Mx {w w2 w3 w4:World} {b0:Nat} {X:Obj} {S ws:List UInt32} (h2:RW w b0 X S w2) (h3:RW w b0 X S w3) (ht:w3.heap[w2.heap.size]?=some (.cells (row ws) 213 (0,0))) (lt:ws.length=64)
  (hg:w4.heap[w3.heap.size]?=some (.cells (row S) 131 (0,0))) (hb:Below w3.heap.size w3 w4):VW w b0 X S w2.heap.size w3.heap.size ws S w4 :=
 ⟨h3.on hb,by rw[hb.block _ (Q_.1 ht).1];exact ht,hg,(Q_.1 h2.p).1,(Q_.1 ht).1,lt,h3.ls⟩
theorem La (a b c d e f g h:UInt32):row (hs ⟨a,b,c,d,e,f,g,h⟩)=q8 a b c d e f g h:=rfl
theorem NL (a b c d e f g h:UInt32):prog.built 131 [(0,.int .u32 (W32 a)),(1,.int .u32 (W32 b)),(2,.int .u32 (W32 c)),(3,.int .u32 (W32 d)),(4,.int .u32 (W32 e)),(5,.int .u32 (W32 f)),(6,.int .u32 (W32 g)),(7,.int .u32 (W32 h))]=some (q8 a b c d e f g h):=by kernel_rfl
theorem Vt {ops:Array Oper} {rest:List Oper} {o:Oper} {a:Act} {w:World} {Q:Exit→Act→World→Prop} (hg:o.guard=none) (x0 x1 x2 x3 x4 x5 x6 x7:Operand) (ho:o.op = .build 131 #[(0,x0),(1,x1),(2,x2),(3,x3),(4,x4),(5,x5),(6,x6),(7,x7)])
  (v0 v1 v2 v3 v4 v5 v6 v7:UInt32) (h0:a.eval x0 = .int .u32 (W32 v0)) (h1:a.eval x1 = .int .u32 (W32 v1)) (h2:a.eval x2 = .int .u32 (W32 v2)) (h3:a.eval x3 = .int .u32 (W32 v3)) (h4:a.eval x4 = .int .u32 (W32 v4)) (h5:a.eval x5 = .int .u32 (W32 v5)) (h6:a.eval x6 = .int .u32 (W32 v6)) (h7:a.eval x7 = .int .u32 (W32 v7))
  (h:wpList prog ops Q rest (a.put o.dst (.agg (q8 v0 v1 v2 v3 v4 v5 v6 v7))) w):wpList prog ops Q (o::rest) a w:=by
 have e:(prog.built 131 ((#[(0,x0),(1,x1),(2,x2),(3,x3),(4,x4),(5,x5),(6,x6),(7,x7)]:Array (Nat × Operand)).map fun (i,x)=>(i,a.eval x)).toList)=some (q8 v0 v1 v2 v3 v4 v5 v6 v7):=by
  simp only[List.map_toArray,List.map_cons,List.map_nil,h0,h1,h2,h3,h4,h5,h6,h7];exact NL v0 v1 v2 v3 v4 v5 v6 v7
 refine wpList_build hg _ _ ho (by rw[e];rfl) ?_;rw[e];exact h
theorem VT:(prog.info? 131).map (·.size)=some 8:=by kernel_rfl
theorem S7 (a b c d e f g h:UInt32):((q8 a b c d e f g h).all fun u=>u.oneCell')=true:=by
 rw[←La];exact l7 _
def FM (s v:List UInt32) (i:Nat):List UInt32:=(List.zipWith (· + ·) s v).take i++s.drop i
theorem Nk (s v:HS) (i:Nat) (hi:i<8):w16 (FM (hs s) (hs v) i) i=w16 (hs s) i:=by
 rcases (by omega:i=0∨i=1∨i=2∨i=3∨i=4∨i=5∨i=6∨i=7) with rfl|rfl|rfl|rfl|rfl|rfl|rfl|rfl <;> rfl
theorem Iv (s v:HS) (i:Nat) (hi:i<8):(FM (hs s) (hs v) i).set i (w16 (hs s) i+w16 (hs v) i)=FM (hs s) (hs v) (i+1):=by
 rcases (by omega:i=0∨i=1∨i=2∨i=3∨i=4∨i=5∨i=6∨i=7) with rfl|rfl|rfl|rfl|rfl|rfl|rfl|rfl <;> rfl
theorem Dy (w:List UInt32) (s:HS) (t:Nat):pD w s (t+1)=rnd (wd KK t) (wd w t) (pD w s t):=rfl
theorem CD (m:List UInt8) (n:Nat):hs (eJ m (n+1))=FM (hs (eJ m n)) (hs (pD (sch ((m.drop (64*n)).take 64) 64) (eJ m n) 64)) 8:=rfl
theorem PB (m:List UInt8):sha m=eb (eJ (gj m) ((gj m).length / 64)):=rfl
structure OW (w:World) (s:HS) (g i:Nat) (wr:World):Prop where
 sr:wr.heap[w.heap.size+1]?=some (.cells (row (hs s)) 131 (0,0))
 r:wr.heap[w.heap.size]?=some (.cells (brow z32) 139 (0,0))
 o:wr.heap[g]?=some (.cells (brow (mF s i)) 139 (0,0))
 hg:w.heap.size+1<g
 below:Below w.heap.size w wr
theorem KX {w wr:World} {b0:Nat} {X:Obj} {s:HS} (h:RW w b0 X (hs s) wr):OW w s wr.heap.size 0 (wr.alloc (.cells (brow z32) 139)) :=
 ⟨by rw[bx _ _ _ (Q_.1 h.s).1];exact h.s,by rw[bx _ _ _ (Q_.1 h.r).1];exact h.r,al _ _ _ rfl,(Q_.1 h.s).1,h.below.alloc h.below.size _⟩
theorem OW.next {w wr:World} {s:HS} {g i:Nat} (h:OW w s g i wr) (hi:i<32) (c:UInt8) (hc:(eb s)[i]?=some c):OW w s g (i+1) (wr.setCell ⟨g,i,none⟩ (.int .u8 (B8 c))):=by
 have h1:=h.hg;rw[au _ _ _ _ _ _ _ h.o,qd s i hi c hc];exact⟨by rw[aj _ _ _ _ (by omega)];exact h.sr,by rw[aj _ _ _ _ (by omega)];exact h.r,setRow_heap _ _ _ _ _ _ h.o,h.hg,h.below.trans (aK (by omega))⟩
theorem OW.sc {w wr:World} {s:HS} {g i:Nat} (h:OW w s g i wr) (q:Nat) (hq:q<8):wr.cell? ⟨w.heap.size+1,q,none⟩=some (.int .u32 (W32 (w16 (hs s) q))):=by
 rw[e_ _ _ _ _ _ _ h.sr];have hl:(hs s).length=8:=rfl
 simp[row,w16,show q<(hs s).length by omega]
theorem OT (x:UInt32):bits .xor .u32 (W32 x) 4294967295=W32 (~~~x):=by
 have h:=s4 x 0xffffffff;have e:x ^^^ 0xffffffff = ~~~x:=UInt32.xor_neg_one;rw[e] at h;exact h
theorem KZ (m:List UInt8):0<(gj m).length:=by
 have := BH m;unfold gj at *;simp only[E_,List.length_singleton] at *
 omega
theorem O8 (m:List UInt8):(gj m).length≤m.length+80:=by
 have := jz m.length;unfold gj be8;simp only[E_,List.length_replicate,List.length_map,List.length_range,List.length_singleton]
 omega
attribute [local irreducible] Calls brow row sha gj
theorem FC (v : Value) (m : List UInt8) (w : World) (hv : RdE eB w v m) (hk : cA w) (hlen : m.length ≤ 400000) :
  Calls prog 115 #[v] w fun e w'=>e = .returned (.agg (brow (sha m)))∧Below w.heap.size w w':=by
 have hz:=oy;have hz64:=tT;have HLEN:=O hlen;have HV2:Hid (∀u:World,Below w.heap.size w u→RdE eB u v m):=O (fun u hu=>hv.on hu);have HK:=O hk;have H0:=O hk.lt;clear hv hk hlen
 go_enter func115,ntmps115
 go_upto_region 4 with (first
  |(go_at_call 161;refine(K0 v m _ (HV2.out _ (((O_ _ _).alloc (A_ _) _).alloc (by simp) _)) (by have := HLEN.out;omega)).mono ?_;rintro e w1 ⟨v1,rfl,ho1,hb1⟩;obtain⟨b0,cap,X,rfl,hc1,hc2,hb0,hX,hrd⟩:=O7 ho1 (KZ m);rw[←Tu] at hb1 hb0;have HR1:=O (Lr HK.out hb1 hX hb0);have HRD:=O hrd;have HC1:=O hc1;have HC2:=O hc2;clear ho1 hb1 hb0 hX hrd hc1 hc2))
 have hz8:=Ud;obtain⟨q,hq⟩:∃q,(gj m).length=64*q:=⟨(gj m).length / 64,by have := BH m;omega⟩;have HQ:=O hq
 have hqb:q≤100000:=by have := O8 m;have := HLEN.out;omega
 have HQB:=O hqb;have hc1:=HC1.out;have hc2:=HC2.out;unfold maxLen at hc2;rw[hq] at hc1 ⊢;rw[hq] at HRD;clear hq hqb
 go_loopw [5] (fun o wr=>∃n:Nat,n≤q∧o = .int .i64 (64*(n:Int))∧Hid (RW w b0 X (hs (eJ (gj m) n)) wr)) (fun o _=>64*100000-(intOf o).toNat)
 case atStart=>exact⟨0,by omega,rfl,HR1⟩
 case round =>
  obtain⟨n,hn,rfl,hrw⟩:=hrel;have bq:=HQB.out
  by_cases hlt:n<q
  ·have hL : (hs (eJ (gj m) n)).length = 8 := rfl
   generalize hS:eJ (gj m) n=S0 at hrw hL;have HS:=O hS;have HLT:=O hlt;have HPL:Hid (64*n+64≤(gj m).length):=O (by rw[HQ.out];omega)
   have bn:(n:Int)≤100000:=by omega
   have bn0:(0:Int)≤64*(n:Int):=by omega
   have bn1:64*(n:Int)<64*(q:Int):=by omega
   have bn2:64*(n:Int)+64≤(cap:Int):=by omega
   have bn3:64*n+64≤cap:=by omega
   clear hS hlt hn;have HBL:Hid ((((gj m).drop (64*n)).take 64).length=64):=O (by rw[b_,S_];have := HPL.out;omega)
   go_upto_region 8 with (first
    |(go_at_call 162;refine(Qe _ (((gj m).drop (64*n)).take 64) _ (Lh (HRD.out _ hrw.out.p) (64*n) HPL.out _ (by omega) (by unfold maxLen;omega)) HBL.out).mono ?_;rintro e w2 ⟨rfl,hb2⟩;have H2:=O (hrw.out.on hb2);clear hb2)
    |(refine aM (T:=213) (row (sch (((gj m).drop (64*n)).take 64) 64)) (zI _ (iT _ _)) rfl (.tmp 6) (.tmp 28) rfl w2.heap.size (row z64) rfl rfl (l7 _) (by rw[co,co,iT];exact tS) (al _ _ _ rfl) ?_;intro w3 hg3 ho3 hb3;have H3:=O (H2.out.on (((O_ _ _).alloc (A_ _) _).trans (hb3 _ (A_ _))));have HT3:=O hg3;clear hg3 ho3 hb3)
    |(refine wpList_load_row rfl 131 (.tmp 3) rfl (w.heap.size+1) rfl _ _ (0,0) _ H3.out.s underlying131 rfl (vR _ hL) ?_)
    |(refine aM (T:=131) (row (hs S0)) (vR _ hL) rfl (.tmp 7) (.tmp 29) rfl w3.heap.size (row z8) rfl rfl (l7 _) (by rw[co,co,hL];rfl) (al _ _ _ rfl) ?_;intro w4 hg4 ho4 hb4;have H4:=O (Mx H2.out H3.out HT3.out (iT _ _) hg4 (((O_ _ _).alloc (A_ _) _).trans (hb4 _ (A_ _))));clear hg4 ho4 hb4))
   have H4':Hid (∃gt gv ws,w2.heap.size=gt∧w3.heap.size=gv∧sch (((gj m).drop (64*n)).take 64) 64=ws∧VW w b0 X (hs S0) gt gv ws (hs S0) w4):=O ⟨_,_,_,rfl,rfl,rfl,H4.out⟩;obtain⟨gt,gv,ws,e1,e2,e3,h4⟩:=H4'.out;have HWS:=O e3;have H5:=O h4;rw[e1,e2,e3];clear e3 h4 H4 H4' HT3 HBL;clear e1 e2 H3 H2 hrw;go_wp2
   go_loopw [8] (fun o wr=>∃t:Nat,t≤64∧o = .int .i64 t∧Hid (VW w b0 X (hs S0) gt gv ws (hs (pD ws S0 t)) wr)) (fun o _=>64-(intOf o).toNat)
   case atStart=>exact⟨0,by omega,rfl,H5⟩
   case round =>
    obtain⟨t,ht,rfl,hvw⟩:=hrel
    by_cases h64:t<64
    ·have hd:decide ((t:Int)<64)=true:=by simp;omega
     generalize hst:pD ws S0 t=st at hvw;have HST:=O hst;have HLT2:=O h64;have c0:wr.cell? ⟨gv,0,none⟩=some (.int .u32 (W32 st.a)):=hvw.out.vc 0 (by decide);have c1:wr.cell? ⟨gv,1,none⟩=some (.int .u32 (W32 st.b)):=hvw.out.vc 1 (by decide);have c2:wr.cell? ⟨gv,2,none⟩=some (.int .u32 (W32 st.c)):=hvw.out.vc 2 (by decide);have c3:wr.cell? ⟨gv,3,none⟩=some (.int .u32 (W32 st.d)):=hvw.out.vc 3 (by decide);have c4:wr.cell? ⟨gv,4,none⟩=some (.int .u32 (W32 st.e)):=hvw.out.vc 4 (by decide);have c5:wr.cell? ⟨gv,5,none⟩=some (.int .u32 (W32 st.f)):=hvw.out.vc 5 (by decide);have c6:wr.cell? ⟨gv,6,none⟩=some (.int .u32 (W32 st.g)):=hvw.out.vc 6 (by decide);have c7:wr.cell? ⟨gv,7,none⟩=some (.int .u32 (W32 st.h)):=hvw.out.vc 7 (by decide);have ct:=hvw.out.tc t h64;have ck:=hvw.out.kc t h64;have hnx:bits .xor .u32 (W32 st.e) 4294967295=W32 (~~~st.e):=OT _;have R6:Hid (∀(x:UInt32) (w:World),Calls prog 163 #[.int .u32 (W32 x),.int .i64 6] w fun e w'=>e = .returned (.int .u32 (W32 (rr x 6)))∧∃n,w'=w.drewN n):=O (fun x w=>kQ x 6 (by omega) (by omega) w);have R11:Hid (∀(x:UInt32) (w:World),Calls prog 163 #[.int .u32 (W32 x),.int .i64 11] w fun e w'=>e = .returned (.int .u32 (W32 (rr x 11)))∧∃n,w'=w.drewN n):=O (fun x w=>kQ x 11 (by omega) (by omega) w);have R25:Hid (∀(x:UInt32) (w:World),Calls prog 163 #[.int .u32 (W32 x),.int .i64 25] w fun e w'=>e = .returned (.int .u32 (W32 (rr x 25)))∧∃n,w'=w.drewN n):=O (fun x w=>kQ x 25 (by omega) (by omega) w);have R2:Hid (∀(x:UInt32) (w:World),Calls prog 163 #[.int .u32 (W32 x),.int .i64 2] w fun e w'=>e = .returned (.int .u32 (W32 (rr x 2)))∧∃n,w'=w.drewN n):=O (fun x w=>kQ x 2 (by omega) (by omega) w);have R13:Hid (∀(x:UInt32) (w:World),Calls prog 163 #[.int .u32 (W32 x),.int .i64 13] w fun e w'=>e = .returned (.int .u32 (W32 (rr x 13)))∧∃n,w'=w.drewN n):=O (fun x w=>kQ x 13 (by omega) (by omega) w);have R22:Hid (∀(x:UInt32) (w:World),Calls prog 163 #[.int .u32 (W32 x),.int .i64 22] w fun e w'=>e = .returned (.int .u32 (W32 (rr x 22)))∧∃n,w'=w.drewN n):=O (fun x w=>kQ x 22 (by omega) (by omega) w);clear hst ht bn2 bn3 bn1 hc1 hc2 bn bn0 bq
     go_upto_region 11 with fail
     go_cut [9] from 30 to 117 (fun x wc=>x = .int .u32 (W32 (Hf (wd KK t) (wd ws t) st))∧∃n,wc=wr.drewN n)
     case first =>
      first |refine fR (by kernel_rfl) (by kernel_rfl) ?_|refine fG (by kernel_rfl) (by kernel_rfl) ?_
      repeat (first
       | go_big_quiet_step ((go_at_call 163;exact Calls.quiet_of (R6.out _ _)))
       | go_big_quiet_step ((go_at_call 163;exact Calls.quiet_of (R11.out _ _)))
       | go_big_quiet_step ((go_at_call 163;exact Calls.quiet_of (R25.out _ _))))
      refine h_ ?_;rintro _ ⟨nq,rfl⟩;go_wp2
      go_meet
      exact⟨rfl,_,rfl⟩
     case rest =>
      obtain⟨rfl,n1,hw⟩:=hcut;have H6:Hid (VW w b0 X (hs S0) gt gv ws (hs st) wc):=O (by rw[hw];exact hvw.out.drew n1);clear hw hvw c0 c1 c2 c3 c4 c5 c6 c7 ct ck hnx R6 R11 R25;obtain⟨XX,hX⟩:∃XX,XX=Hf (wd KK t) (wd ws t) st:=⟨_,rfl⟩;have HX:=O hX;rw[←hX];clear hX;have c0:wc.cell? ⟨gv,0,none⟩=some (.int .u32 (W32 st.a)):=H6.out.vc 0 (by decide);have c1:wc.cell? ⟨gv,1,none⟩=some (.int .u32 (W32 st.b)):=H6.out.vc 1 (by decide);have c2:wc.cell? ⟨gv,2,none⟩=some (.int .u32 (W32 st.c)):=H6.out.vc 2 (by decide)
      go_upto_region 12 with fail
      go_cut [10] from 30 to 117 (fun y wf=>y = .int .u32 (W32 (Lo st))∧∃n,wf=wc.drewN n)
      case first =>
       first |refine fR (by kernel_rfl) (by kernel_rfl) ?_|refine fG (by kernel_rfl) (by kernel_rfl) ?_
       repeat (first
        | go_big_quiet_step ((go_at_call 163;exact Calls.quiet_of (R2.out _ _)))
        | go_big_quiet_step ((go_at_call 163;exact Calls.quiet_of (R13.out _ _)))
        | go_big_quiet_step ((go_at_call 163;exact Calls.quiet_of (R22.out _ _))))
       refine h_ ?_;rintro _ ⟨nq,rfl⟩;go_wp2
       go_meet
       exact⟨rfl,_,rfl⟩
      case rest =>
       obtain⟨rfl,n2,hw⟩:=hcut;have H7:=O (H6.out.drew n2);rw[←hw] at H7;clear hw c0 c1 c2 R2 R13 R22;obtain⟨YY,hY⟩:∃YY,YY=Lo st:=⟨_,rfl⟩;have HY:=O hY;rw[←hY];clear hY;have c0:wc.cell? ⟨gv,0,none⟩=some (.int .u32 (W32 st.a)):=H7.out.vc 0 (by decide);have c1:wc.cell? ⟨gv,1,none⟩=some (.int .u32 (W32 st.b)):=H7.out.vc 1 (by decide);have c2:wc.cell? ⟨gv,2,none⟩=some (.int .u32 (W32 st.c)):=H7.out.vc 2 (by decide);have c3:wc.cell? ⟨gv,3,none⟩=some (.int .u32 (W32 st.d)):=H7.out.vc 3 (by decide);have c4:wc.cell? ⟨gv,4,none⟩=some (.int .u32 (W32 st.e)):=H7.out.vc 4 (by decide);have c5:wc.cell? ⟨gv,5,none⟩=some (.int .u32 (W32 st.f)):=H7.out.vc 5 (by decide);have c6:wc.cell? ⟨gv,6,none⟩=some (.int .u32 (W32 st.g)):=H7.out.vc 6 (by decide);clear hd;have hr8:(row (hs st)).size=8:=co (hs st)
       go_wp2_with (first
        |(refine Vt rfl (.tmp 100) (.tmp 102) (.tmp 104) (.tmp 106) (.tmp 110) (.tmp 112) (.tmp 114) (.tmp 116) rfl (XX+YY) st.a st.b st.c (st.d+XX) st.e st.f st.g rfl rfl rfl rfl rfl rfl rfl rfl ?_)
        |(refine aM (T:=131) (q8 (XX+YY) st.a st.b st.c (st.d+XX) st.e st.f st.g) VT rfl (.tmp 7) (.tmp 117) rfl gv (row (hs st)) rfl rfl (S7 _ _ _ _ _ _ _ _) hr8 H7.out.v ?_;intro wd hgd hod hbd;have H8:=O (H7.out.setV (V':=hs ⟨XX+YY,st.a,st.b,st.c,st.d+XX,st.e,st.f,st.g⟩) rfl (by rw[La];exact hgd) hod hbd);clear hgd hod hbd))
       go_roundw
       case rel=>exact⟨t+1,by have := HLT2.out;omega,by go_num,O (by rw[Dy ws S0 t,HST.out];unfold rnd;rw[←HX.out,←HY.out];exact H8.out)⟩
       case measure=>have := HLT2.out;simp[intOf];omega
    ·have he:t=64:=by omega
     subst he;obtain⟨vz,hvz⟩:∃vz,vz=pD ws S0 64:=⟨_,rfl⟩;have HVZ:=O hvz;rw[←hvz] at hvw;clear hvz h64 ht hc1 hc2 bn2 bn3 bn1 bn bn0 bq;go_wp2
     go_loopw [11] (fun o wr=>∃i:Nat,i≤8∧o = .int .i64 i∧Hid (VW w b0 X (FM (hs S0) (hs vz) i) gt gv ws (hs vz) wr)) (fun o _=>8-(intOf o).toNat)
     case atStart=>exact⟨0,by omega,rfl,hvw⟩
     case round =>
      obtain⟨i,hi,rfl,H⟩:=hrel
      by_cases h8:i<8
      ·have hd:decide ((i:Int)<8)=true:=by simp;omega
       have s0:=H.out.sc i h8;rw[Nk S0 vz i h8] at s0;have v0:=H.out.vc i h8;have f0:=frozen_of_row _ _ i _ _ H.out.s;clear hvw;go_wp2
       first |refine dJ 9 (by kernel_rfl) (by kernel_rfl) ?_|refine dD 9 (by kernel_rfl) (by kernel_rfl) ?_
       simp only[F_,c_,J_,L_]
       repeat (go_big_quiet_step (fail))
       refine h_ ?_;rintro _ ⟨nq,rfl⟩;go_wp2;go_roundw
       case rel=>exact⟨i+1,h8,by go_num,O (by rw[←Iv S0 vz i h8];exact(H.out.drew nq).setS H0.out i _)⟩
       case measure=>simp[intOf];omega
      ·have he8:i=8:=by omega
       subst he8
       have hd:decide (((8:Nat):Int)<8)=false:=by decide
       have HF:Hid (RW w b0 X (hs (eJ (gj m) (n+1))) wr):=O (by rw[CD (gj m) n,HS.out,HWS.out,←HVZ.out];exact H.out.toRW)
       have bnn:(n:Int)≤100000:=by have := HLT.out;have := HQB.out;omega
       have bnn0:(0:Int)≤64*(n:Int):=by omega
       clear hvw h8 hi;go_wp2;go_roundw
       case rel=>exact⟨n+1,HLT.out,by go_num,HF⟩
       case measure=>have := HLT.out;have := HQB.out;simp[intOf];omega
  ·have he:n=q:=by omega
   subst he;have HS1:Hid (sha m=eb (eJ (gj m) n)):=O (by rw[PB,HQ.out,Nat.mul_div_cancel_left _ (by decide)]);generalize eJ (gj m) n=s1 at hrw HS1;clear hn bq hc1 hc2 hz64 hz8
   have hd:decide (64*(n:Int)<64*(n:Int))=false:=by simp
   go_wp2
   go_loopw [13] (fun o wr'=>∃i:Nat,i≤32∧o = .int .i64 i∧Hid (OW w s1 wr.heap.size i wr')) (fun o _=>32-(intOf o).toNat)
   case atStart=>exact⟨0,by omega,rfl,O (KX hrw.out)⟩
   case round =>
    obtain⟨i,hi,rfl,how⟩:=hrel;clear hd
    by_cases h32:i<32
    ·obtain⟨q,r,hqr,hq8,hr4⟩:∃q r,i=4*q+r∧q<8∧r<4:=⟨i / 4,i % 4,by omega,by omega,by omega⟩
     have hcx:=how.out.sc q hq8;have hfz:=frozen_of_row _ _ i _ _ how.out.o
     have hq:(i:Int) / 4=(q:Int):=by omega
     have hbx:(eb s1)[i]? = (w4 (w16 (hs s1) q))[r]? := by rw[hqr];exact QH s1 q r hq8 hr4
     have hL:i<32:=h32;have hcell:=e_ _ _ i _ _ _ how.out.o;rw[nH _ _ (by rw[qI _ _ hi];exact h32)] at hcell
     have hr:(i:Int) % 4=(r:Int):=by omega
     generalize w16 (hs s1) q=x at hcx hbx;have HQR:=O hqr;clear hqr
     rcases (by omega:r=0∨r=1∨r=2∨r=3) with rfl|rfl|rfl|rfl
     ·have HX:Hid ((eb s1)[i]?=some (shr x 24).toUInt8):=O hbx
      clear hbx;go_wp2;go_roundw
      case rel=>exact⟨i+1,h32,by go_num,O (how.out.next h32 _ HX.out)⟩
      case measure=>simp[intOf];omega
     ·have HX:Hid ((eb s1)[i]?=some (shr x 16).toUInt8):=O hbx
      clear hbx;go_wp2;go_roundw
      case rel=>exact⟨i+1,h32,by go_num,O (how.out.next h32 _ HX.out)⟩
      case measure=>simp[intOf];omega
     ·have HX:Hid ((eb s1)[i]?=some (shr x 8).toUInt8):=O hbx
      clear hbx;go_wp2;go_roundw
      case rel=>exact⟨i+1,h32,by go_num,O (how.out.next h32 _ HX.out)⟩
      case measure=>simp[intOf];omega
     ·have HX:Hid ((eb s1)[i]?=some x.toUInt8):=O hbx
      clear hbx;go_wp2;go_roundw
      case rel=>exact⟨i+1,h32,by go_num,O (how.out.next h32 _ HX.out)⟩
      case measure=>simp[intOf];omega
    ·have h32':i=32:=by omega
     subst h32';have HLX:(mF s1 32).length=32:=qI _ _ (A_ _);clear h32 hi
     go_wp2_with (first
      |(refine wpList_load_row rfl 139 (.tmp 12) rfl _ rfl _ _ (0,0) _ how.out.o underlying139 rfl (ir _ HLX) ?_)
      |(refine aM (T:=139) (brow (mF s1 32)) (ir _ HLX) rfl (.tmp 2) (.tmp 147) rfl w.heap.size (brow z32) rfl rfl (iW _) (by rw[bV,bV,HLX];rfl) how.out.r ?_;intro we hge hoe hbe))
     (try simp only[Exit.inBlock,Exit.then])
     refine g_ (results_cell_row rfl _ _ w.heap.size _ (brow (mF s1 32)) (0,0) _ rfl hge underlying139 rfl (ir _ HLX)) rfl ?_;exact⟨by rw[BD,HS1.out],how.out.below.trans (hbe _ (A_ _))⟩
end
section
namespace Fld
open Go.RowKit F6
theorem xL (a b:UInt8) (w:World) :
  Calls prog 116 #[.int .u8 (B8 a),.int .u8 (B8 b)] w fun e w'=>e = .returned (.int .u8 (B8 (mul a b)))∧w'=w:=by
 go_enter func116,ntmps116
 go_wp2
 go_loop [5,6,7] (fun p x i=>∃k:Nat,k≤8∧i = .int .i64 k∧x = .int .i64 (B8 (xts a k))∧p = .int .i64 (B8 (cY a b k))) (fun _ _ i=>8-(intOf i).toNat)
 case atStart=>exact⟨0,by omega,rfl,rfl,rfl⟩
 case round =>
  obtain⟨k,hk,rfl,rfl,rfl⟩:=hrel
  by_cases hlt:k<8
  ·have hb:=Nz b k
   have em:cY a b (k+1)=cY a b k ^^^ (if bit b k then xts a k else 0):=rfl;have ex:xts a (k+1)=xt (xts a k):=rfl;have HK:=O hlt;have EX:=O ex;clear ex
   cases hbit:bit b k
   ·rw[hbit] at hb em
    have em':cY a b (k+1)=cY a b k:=by rw[em];simp
    have EM:=O em';clear em em' hbit
    cases h7:bit (xts a k) 7
    ·obtain⟨x1,x2⟩:=MQ _ h7
     have X2:=O x2;clear x2 h7;go_wp2
     go_round
     case rel=>exact⟨k+1,HK.out,by go_num,by rw[X2.out,EP,EX.out],by rw[EM.out]⟩
     case measure=>have := HK.out;simp[intOf];omega
    ·obtain⟨x1,x2⟩:=MO _ h7
     clear h7;go_wp2
     go_round
     case rel=>exact⟨k+1,HK.out,by go_num,by rw[EX.out],by rw[EM.out]⟩
     case measure=>have := HK.out;simp[intOf];omega
   ·rw[hbit] at hb em
    have em':cY a b (k+1)=cY a b k ^^^ xts a k:=by rw[em];simp
    have EM:=O em';clear em em' hbit
    cases h7:bit (xts a k) 7
    ·obtain⟨x1,x2⟩:=MQ _ h7
     have X2:=O x2;clear x2 h7;go_wp2
     go_round
     case rel=>exact⟨k+1,HK.out,by go_num,by rw[X2.out,EP,EX.out],by rw[EM.out]⟩
     case measure=>have := HK.out;simp[intOf];omega
    ·obtain⟨x1,x2⟩:=MO _ h7
     clear h7;go_wp2
     go_round
     case rel=>exact⟨k+1,HK.out,by go_num,by rw[EX.out],by rw[EM.out]⟩
     case measure=>have := HK.out;simp[intOf];omega
  ·have he:k=8:=by omega
   have HE:=O he;clear he;go_wp2;go_ret;exact⟨by rw[HE.out];rfl,rfl⟩
end Fld
end
section
namespace Fld
open Go.RowKit F6
attribute [local irreducible] mul pow sq sqp
theorem rO (a:UInt8):pow a 0=1:=by unfold pow;rfl
theorem rN (a:UInt8) (n:Nat):pow a (n+1)=mul (pow a n) a:=by conv=>lhs;unfold pow
theorem VU (a:UInt8) (h:a≠0) (w:World) :
  Calls prog 198 #[.int .u8 (B8 a)] w fun e w'=>e = .returned (.tuple #[.int .u8 (B8 (ku a)),.int .i64 0])∧w'=w:=by
 have h0:(B8 a == 0)=false:=by rw[U_];intro e;exact h (pJ (by rw[e];rfl))
 rw[Bl]
 go_enter func198,ntmps198
 go_wp2
 go_loop [4,5] (fun p i=>∃k:Nat,k≤254∧i = .int .i64 k∧p = .int .u8 (B8 (pow a k))) (fun _ i=>254-(intOf i).toNat)
 case atStart=>exact⟨0,by omega,rfl,by rw[rO];rfl⟩
 case round =>
  obtain⟨k,hk,rfl,rfl⟩:=hrel
  by_cases hlt:k<254
  ·have hs:=rN a k
   have HS:=O hs;have HK:=O hlt;clear hs
   go_wp2_with (go_at_call 116;refine(xL _ _ _).mono ?_;rintro e _ ⟨rfl,rfl⟩)
   go_round
   case rel=>exact⟨k+1,HK.out,by go_num,by rw[HS.out]⟩
   case measure=>have := HK.out;simp[intOf];omega
  ·have he:k=254:=by omega
   have HE:=O he;clear he;go_wp2
   go_ret2
   exact⟨by rw[HE.out];rfl,rfl⟩
theorem VE (a b:UInt8) (h:b≠0) (w:World) :
  Calls prog 191 #[.int .u8 (B8 a),.int .u8 (B8 b)] w fun e w'=>e = .returned (.tuple #[.int .u8 (B8 (div a b)),.int .i64 0])∧w'=w:=by
 go_enter func191,ntmps191
 go_wp2_with (first
  |(go_at_call 198;refine(VU b h _).mono ?_;rintro e _ ⟨rfl,rfl⟩)
  |(go_at_call 116;refine(xL _ _ _).mono ?_;rintro e _ ⟨rfl,rfl⟩))
 go_ret2
 exact⟨rfl,rfl⟩
end Fld
end
section
namespace Fld
open Go.RowKit F6
theorem Kx (l:List UInt8) (k:Nat) (x:UInt8) (hk:k≤l.length) (h:∀j,j<k→byteAt l j≠x):x ∉ l.take k:=by
 intro hm;obtain⟨j,hj,e⟩:=List.getElem_of_mem hm
 have hj':j<k:=by rw[b_] at hj;omega
 refine h j hj' ?_;rw[List.getElem_take] at e;rw[byteAt,I_,K_ (by omega),←e];rfl
theorem Dm (l:List UInt8) (k:Nat) (h:k<l.length) (hn:(l.take k).Nodup) (hm:byteAt l k ∉ l.take k):(l.take (k+1)).Nodup:=by
 rw[iM l k h,List.nodup_append];refine⟨hn,by simp,?_⟩;intro x hx y hy e;rw[List.mem_singleton] at hy;rw[e,hy] at hx;exact hm hx
theorem G0 (l:List UInt8) (i k:Nat) (hi:i<l.length) (hk:k<i) (h:byteAt l i=byteAt l k):¬l.Nodup:=by
 intro hn;have := List.pairwise_iff_getElem.1 hn k i (by omega) hi hk
 apply this
 rw[byteAt,byteAt,I_,I_,K_ hi,K_ (by omega)] at h;exact h.symm
theorem uK (v:Value) (l:List UInt8) (w:World) (hv:RdB w v l) :
  Calls prog 190 #[v] w fun e w'=>e = .returned (.bool (okX l))∧∃n,w'=w.drewN n:=by
 obtain⟨a,cap,rfl,hl,hcap,hcells⟩:=hv;unfold maxLen at hcap
 by_cases h0:l.length=0
 ·have hno:okX l=false:=by simp[okX,h0]
  have HN:=O hno
  have hz:((l.length:Int) == 0)=true:=by rw[beq_iff_eq];omega
  clear hno
  go_enter func190,ntmps190
  go_wp2;go_ret;exact⟨by rw[HN.out];rfl,0,rfl⟩
 have hz:((l.length:Int) == 0)=false:=by rw[U_];omega
 by_cases h255:255<l.length
 ·have hno:okX l=false:=by simp[okX];omega
  have HN:=O hno
  have h2:(255:Int)<l.length:=by omega
  clear hno
  go_enter func190,ntmps190
  go_wp2;go_ret;exact⟨by rw[HN.out];rfl,0,rfl⟩
 have h2:¬(255:Int)<l.length:=by omega
 obtain⟨b,off,rfl,hbl,hc⟩:=hcells (by omega)
 have hok:okX l=decide l.Nodup:=by simp[okX];omega
 have HO:=O hok;clear hok hcells
 go_enter func190,ntmps190
 go_wp2
 go_loopw [3] (fun i wr=>∃k:Nat,k≤l.length∧i = .int .i64 k∧(l.take k).Nodup∧∃n,wr=w.drewN n) (fun i _=>l.length-(intOf i).toNat)
 case atStart=>exact⟨0,N_ _,rfl,List.nodup_nil,0,rfl⟩
 case round =>
  obtain⟨i,hi,rfl,hnd,n,rfl⟩:=hrel
  by_cases hlt:i<l.length
  ·have hii:(i:Int)<l.length:=by omega
   have HND:=O hnd;have HI:=O hlt;clear hnd;go_wp2
   go_loopw [4] (fun j wr=>∃k:Nat,k≤i∧j = .int .i64 k∧(∀m,m<k→byteAt l m≠byteAt l i)∧∃n,wr=w.drewN n) (fun j _=>i-(intOf j).toNat)
   case atStart=>exact⟨0,N_ _,rfl,fun m h=>absurd h (Nat.not_lt_zero m),n,rfl⟩
   case round =>
    obtain⟨k,hk,rfl,hne,n,rfl⟩:=hrel;have hi:=HI.out
    by_cases hki:k<i
    ·have c1:=hc i hi
     have c2:=hc k (by omega)
     have i1:(i:Int)<l.length:=by omega
     have i2:(k:Int)<l.length:=by omega
     have i3:(k:Int)<i:=by omega
     have HK:=O hki;have HNE:=O hne;clear hne
     by_cases he:byteAt l i=byteAt l k
     ·have hno:okX l=false:=by rw[HO.out];simpa using G0 l i k hi hki he
      have HN:=O hno;clear hno
      have heq:(B8 (byteAt l i) == B8 (byteAt l k))=true:=by rw[he];simp
      clear he;go_wp2
      first |refine fR (by kernel_rfl) (by kernel_rfl) ?_|refine fG (by kernel_rfl) (by kernel_rfl) ?_
      repeat (go_big_quiet_step (fail))
      refine h_ ?_;rintro _ ⟨nq,rfl⟩;go_wp2;go_ret;exact⟨by rw[HN.out];rfl,_,rfl⟩
     ·have heq:(B8 (byteAt l i) == B8 (byteAt l k))=false:=by rw[U_];intro h;exact he (pJ h)
      have HE:=O he;clear he;go_wp2
      first |refine fR (by kernel_rfl) (by kernel_rfl) ?_|refine fG (by kernel_rfl) (by kernel_rfl) ?_
      repeat (go_big_quiet_step (fail))
      refine h_ ?_;rintro _ ⟨nq,rfl⟩;go_wp2;go_roundw
      case rel =>
       refine⟨k+1,HK.out,by go_num,?_,_,rfl⟩;intro m hm
       by_cases hmk:m=k
       ·rw[hmk];exact fun h=>HE.out h.symm
       ·exact HNE.out m (by omega)
      case measure=>have := HK.out;simp[intOf];omega
    ·have he:k=i:=by omega
     have hn2:=Dm l i hi HND.out (Kx l i (byteAt l i) (by omega) (fun m hm=>hne m (by omega)));have HN2:=O hn2
     have i3:(i:Int)≤k:=by omega
     clear he hne hn2;go_wp2;go_roundw
     case rel=>exact⟨i+1,HI.out,by go_num,HN2.out,n,rfl⟩
     case measure=>have := HI.out;simp[intOf];omega
  ·have he:i=l.length:=by omega
   have hnd':l.Nodup:=by rw[he,List.take_length] at hnd;exact hnd
   have hyes:okX l=true:=by rw[HO.out];simpa using hnd'
   have HY:=O hyes;clear hyes hnd hnd';go_wp2;go_ret;exact⟨by rw[HY.out];rfl,n,rfl⟩
end Fld
end
end Go.Proofs.YtmfiaadjdbemnaaGreatDoor
