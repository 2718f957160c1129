/- Contracts and lemmas. No condition. -/
import Derived.Test.YtmfiaadjdbemnaaGreatDoorSB20
set_option maxRecDepth 100000
set_option maxHeartbeats 8000000
set_option linter.unusedSimpArgs false
set_option linter.unusedVariables false
namespace Go.Proofs.YtmfiaadjdbemnaaGreatDoor
open Tryz
section
namespace Fld
open Go.RowKit
def bv (l:List UInt8):List Value:=l.map fun b => .int .u8 (B8 b)
def cR (w:World) (ai:Nat) (v:Value) (l:List UInt8):Prop:=w.ownsRow ai 5 1 v l.length (bv l)
theorem sH:(prog.info? 5).map (fun i=>(i.zero,i.size,i.bytes))=some (some (.int .u8 0),1,1):=by kernel_rfl
theorem ny (l:List UInt8):strOfNums (l.map B8)=⟨l.toArray⟩:=by
 unfold strOfNums;rw[List.map_map]
 congr 2
 have : ((fun n:Int=>UInt8.ofNat n.toNat) ∘ B8)=id:=by
  funext x
  simp[B8]
 rw[this,List.map_id]
theorem qg {w:World} {ai:Nat} {v:Value} {l:List UInt8} (h:cR w ai v l):(convert 80 9 v).run prog w = .ok (.string ⟨l.toArray⟩) w:=by
 rcases h.2 with⟨rfl,hn⟩|⟨g,cap,cur,rfl,_,hgg,h1,_,h2,h3⟩
 ·have hl:l=[]:=List.length_eq_zero_iff.1 hn
  subst hl;exact run_convert_bytes_nil w _ _ underlying80 underlying5 _ _ _ underlying9
 ·rw[←ny l]
  refine run_convert_bytes_arg w _ _ underlying80 underlying5 g 0 _ _ _ (by simp) (fun i hi => ?_) _ underlying9;rw[a_,e_ _ _ _ _ _ _ hgg]
  have e:(cur.toList.take (l.length*1))[i]? = (bv l)[i]? := by rw[h3]
  rw[List.getElem?_take,G_ (by omega),Array.getElem?_toList] at e;rw[e]
  simp[bv,I_,K_ hi]
theorem cR.rd {w:World} {ai:Nat} {v:Value} {l:List UInt8} (h:cR w ai v l):RdB w v l:=by
 rcases h.2 with⟨rfl,hn⟩|⟨g,cap,cur,rfl,_,hgg,h1,h2,_,h3⟩
 ·exact⟨none,0,by rw[hn],by omega,by unfold maxLen;omega,fun h0=>by omega⟩
 ·refine⟨_,cap,rfl,h1,h2,fun h0=>⟨g,0,rfl,(Q_.1 hgg).1,fun i hi => ?_⟩⟩
  rw[a_,e_ _ _ _ _ _ _ hgg]
  have e:(cur.toList.take (l.length*1))[i]? = (bv l)[i]? := by rw[h3]
  rw[List.getElem?_take,G_ (by omega),Array.getElem?_toList] at e;rw[e]
  simp[bv,byteAt,I_,K_ hi]
theorem cR.opened {w:World} {ai:Nat} {v:Value} {l:List UInt8} {n:Nat} (h:cR w ai v l) (hn:l.length=n) :
  ∃a cap,v = .slice a n cap∧n≤cap∧cap≤maxLen∧(0<n→∃g,a=some ⟨g,0,none⟩∧ai≤g∧g<w.heap.size∧∀i,i<n→w.cell? ⟨g,i,none⟩=some (.int .u8 (B8 (byteAt l i)))):=by
 subst hn
 rcases h.2 with⟨rfl,hn⟩|⟨g,cap,cur,rfl,hb,hgg,h1,h2,_,h3⟩
 ·exact⟨none,0,by rw[hn],by omega,by unfold maxLen;omega,fun h0=>by omega⟩
 ·refine⟨_,cap,rfl,h1,h2,fun h0=>⟨g,rfl,hb,(Q_.1 hgg).1,fun i hi => ?_⟩⟩
  rw[e_ _ _ _ _ _ _ hgg]
  have e:(cur.toList.take (l.length*1))[i]? = (bv l)[i]? := by rw[h3]
  rw[List.getElem?_take,G_ (by omega),Array.getElem?_toList] at e;rw[e]
  simp[bv,byteAt,I_,K_ hi]
end Fld
end
section
namespace Fld
open Go.RowKit F6
def yZ (xs ys:List UInt8) (x:UInt8) (k:Nat):UInt8:=ms ((List.range k).map fun i=>mul (wt xs x i) (byteAt ys i))
theorem xE (xs ys:List UInt8) (x:UInt8):yZ xs ys x 0=0:=rfl
theorem xD (xs ys:List UInt8) (x:UInt8) (k:Nat):yZ xs ys x (k+1)=yZ xs ys x k ^^^ mul (wt xs x k) (byteAt ys k):=by
 simp only[yZ,List.range_succ,List.map_append,kM]
 simp[ms]
theorem Bm (xs ys:List UInt8) (x:UInt8):yZ xs ys x xs.length=interp xs ys x:=rfl
attribute [local irreducible] mul ev pp wt wts yZ interp
end Fld
end
section
namespace Fld
open Go.RowKit F6
attribute [local irreducible] mul ev pp wt wts
theorem Tk (g:Nat) (v:Value) (xs:List UInt8) (i:Nat) (x:UInt8) (w:World) (hg:w.cell? ⟨g,0,none⟩=some v) (hv:RdB w v xs) (hi:i<xs.length) :
  Calls prog 188 #[.int .i64 i,.int .u8 (B8 x),.pointer (some ⟨g,0,none⟩)] w fun e w'=>e = .returned (.int .u8 (B8 (pp xs i x xs.length)))∧w'=w:=by
 obtain⟨a,cap,rfl,hl,hcap,hcells⟩:=hv;unfold maxLen at hcap;obtain⟨b,off,rfl,hbl,hc⟩:=hcells (by omega)
 go_enter func188,ntmps188
 go_wp2
 go_loop [6,11] (fun p j=>∃k:Nat,k≤xs.length∧j = .int .i64 k∧p = .int .u8 (B8 (pp xs i x k))) (fun _ j=>xs.length-(intOf j).toNat)
 case atStart=>exact⟨0,N_ _,rfl,by rw[zo];rfl⟩
 case round =>
  obtain⟨k,hk,rfl,rfl⟩:=hrel
  by_cases hlt:k<xs.length
  ·have c1:=hc k hlt
   have i1:(k:Int)<xs.length:=by omega
   have HK:=O hlt
   by_cases hki:k=i
   ·have s1:=zm xs i x hi
    have S1:=O s1
    have hne:((k:Int) == i)=true:=by rw[beq_iff_eq];omega
    have HKI:=O hki;clear s1 hki;go_wp2
    go_round
    case rel=>exact⟨k+1,HK.out,by go_num,by rw[HKI.out,S1.out]⟩
    case measure=>have := HK.out;simp[intOf];omega
   ·have s1:=zn xs i x k hlt hki
    have S1:=O s1
    have hne:((k:Int) == i)=false:=by rw[U_];omega
    clear s1 hki
    go_wp2_with (go_at_call 156;refine(xK _ _ _).mono ?_;rintro e _ ⟨rfl,rfl⟩)
    go_round
    case rel=>exact⟨k+1,HK.out,by go_num,by rw[S1.out]⟩
    case measure=>have := HK.out;simp[intOf];omega
  ·have he:k=xs.length:=by omega
   have HE:=O he
   have i1:(xs.length:Int)≤k:=by omega
   clear he;go_wp2;go_ret;exact⟨by rw[HE.out];rfl,rfl⟩
end Fld
end
section
namespace Fld
open Go.RowKit
structure BAt (w:World) (g:Nat) (l:List UInt8):Prop where
 lt:g<w.heap.size
 cells:w.heap[g]?=some (.cells (brow l) 5 (0,0))
theorem BAt.keep {w w':World} {g:Nat} {l:List UInt8} (h:BAt w g l) {B:Nat} (hb:Below B w w') (hB:g<B):BAt w' g l :=
 ⟨P_ h.lt hb.size,by rw[hb.block _ hB];exact h.cells⟩
theorem BAt.drew {w:World} {g:Nat} {l:List UInt8} (n:Nat) (h:BAt w g l):BAt (w.drewN n) g l :=
 h.keep (B:=w.heap.size) (ak n (O_ _ _)) h.lt
theorem BAt.at {w:World} {g:Nat} {l:List UInt8} (h:BAt w g l) (i:Nat) (hi:i<l.length):w.cell? ⟨g,i,none⟩=some (.int .u8 (B8 (byteAt l i))):=by
 rw[e_ _ _ _ _ _ _ h.cells,As _ _ hi]
theorem BAt.own {w:World} {g ai:Nat} {l:List UInt8} (h:BAt w g l) (hb:ai≤g) (hl:l.length≤maxLen):cR w ai (.slice (some ⟨g,0,none⟩) l.length l.length) l :=
 ⟨by simp[bv],.inr ⟨g,l.length,brow l,rfl,hb,h.cells,A_ _,hl,by simp[brow],by simp only[brow,bv,Nat.mul_one];exact Y_ (by simp)⟩⟩
theorem setCell_row (w:World) (g i:Nat) (cs:Array Value) (T:TypeId) (fr:Nat × Nat) (v:Value) (h:w.heap[g]?=some (.cells cs T fr)):w.setCell ⟨g,i,none⟩ v=w.setRow g (cs.setIfInBounds i v):=by
 unfold World.setCell World.setRow;simp only[World.mk.injEq,and_true]
 apply Array.ext_getElem?
 intro j;simp only[Array.getElem?_modify]
 by_cases h':g=j
 ·subst h'
  simp[h]
 ·simp[h']
theorem BAt.free {w:World} {g:Nat} {l:List UInt8} (h:BAt w g l) (k:Nat):w.frozen? ⟨g,k,none⟩=false:=by
 simp[World.frozen?,h.cells]
theorem BAt.set {w:World} {g:Nat} {l:List UInt8} (h:BAt w g l) (k:Nat) (x:UInt8):BAt (w.setCell ⟨g,k,none⟩ (.int .u8 (B8 x))) g (l.set k x):=by
 refine⟨by rw[setCell_row _ _ _ _ _ _ _ h.cells];simpa [World.setRow] using h.lt,?_⟩;rw[setCell_row _ _ _ _ _ _ _ h.cells,setRow_heap _ _ _ _ _ _ h.cells,qd]
theorem mk_full {w:World} {ops:Array Oper} {rest:List Oper} {o:Oper} {a:Act} {Q:Exit→Act→World→Prop} (hgd:o.guard=none) (l c:Operand) (hop:o.op=Op.makeSlice 80 l c)
  (n:Nat) (hl:a.eval l = .int .i64 (n:Int)) (hc:a.eval c = .int .i64 (n:Int)) (hn:n≤1000000000)
  (h:∀w',BAt w' w.heap.size (List.replicate n 0)→Below w.heap.size w w'→wpList prog ops Q rest (a.put o.dst (.slice (some ⟨w.heap.size,0,none⟩) n n)) w'):wpList prog ops Q (o::rest) a w:=by
 obtain⟨i0,hi,hz0,hz1,hz2⟩:=info_parts sH;refine wpList_make_full w hgd l c 80 hop w.heap.size 5 i0 (.int .u8 0) 1 underlying80 hi hz0 hz1 .i64 .i64 n n n hl hc rfl rfl (by rw[hz2];omega) (by unfold maxLen;omega) (A_ _) ?_;intro w' h1 h2;refine h w' ?_ ((O_ _ w).grown h2 (A_ _) (fun k hk=>by cases hk))
 rcases h1.2 with⟨e,_⟩|⟨g,cap,cur,e,_,hg,h3,_,h5,h6⟩
 ·cases e
 ·simp only[Value.slice.injEq,Option.some.injEq,Addr.mk.injEq,and_true,true_and] at e
  obtain⟨e1,e2⟩:=e;subst e1 e2
  have hcur:cur=brow (List.replicate n 0):=by
   apply Array.ext'
   rw[Y_ (by rw[Array.length_toList,h5];exact A_ _)] at h6;rw[h6]
   apply List.ext_getElem (by simp[madeCells,brow])
   intro i h7 h8
   simp[madeCells,brow,Value.cells]
   rw[Nat.mod_one]
   rfl
  rw[hcur] at hg;exact⟨(Q_.1 hg).1,hg⟩
end Fld
end
section
namespace Fld
open Go.RowKit F6
def mD (xs:List UInt8) (x:UInt8) (k:Nat):List UInt8:=wts xs x k++List.replicate (xs.length-k) 0
theorem DV (xs:List UInt8) (x:UInt8):mD xs x 0=List.replicate xs.length 0:=by simp[mD,wts]
theorem Ie (xs:List UInt8) (x:UInt8):mD xs x xs.length=wts xs x xs.length:=by simp[mD]
theorem Ig (xs:List UInt8) (x:UInt8) (k:Nat) (h:k≤xs.length):(mD xs x k).length=xs.length:=by simp[mD,rm];omega
theorem Ih (xs:List UInt8) (x:UInt8) (k:Nat) (h:k<xs.length):(mD xs x k).set k (wt xs x k)=mD xs x (k+1):=by
 have e:xs.length-k=(xs.length-(k+1))+1:=by omega
 rw[mD,e,List.replicate_succ,List.set_append]
 simp[rm,mD,Cq]
theorem IU {w w1:World} {v:Value} {T:TypeId} (hb:Below (w.alloc (.cells #[v] T)).heap.size (w.alloc (.cells #[v] T)) w1):w1.cell? ⟨w.heap.size,0,none⟩=some v:=by
 rw[hb.cell (p:=⟨w.heap.size,0,none⟩) (by simp),e_ _ _ _ _ _ _ (heap_alloc_new _ _)]
 rfl
attribute [local irreducible] mul ev pp wt wts mD
theorem JV {w:World} {b off n cap:Nat} {l:List UInt8} (h:RdB w (.slice (some ⟨b,off,none⟩) n cap) l) (i:Nat) (hi:i<l.length):w.cell? ⟨b,off+i,none⟩=some (.int .u8 (B8 (byteAt l i))):=by
 obtain⟨a,c,e,_,_,hc⟩:=h;obtain⟨b2,off2,rfl,_,hc⟩:=hc (by omega);simp only[Value.slice.injEq,Option.some.injEq,Addr.mk.injEq,and_true] at e;obtain⟨⟨rfl,rfl⟩,_,_⟩:=e;exact hc i hi
theorem yr (v:Value) (xs:List UInt8) (x:UInt8) (w:World) (hv:RdB w v xs) (hok:okX xs=true) :
  Calls prog 173 #[v,.int .u8 (B8 x)] w fun e w'=>∃u,e = .returned (.tuple #[u,.int .i64 0])∧cR w' w.heap.size u (wts xs x xs.length)∧Below w.heap.size w w':=by
 obtain⟨hnd,hl1,hl2⟩:=nQ hok;have HND:=O hnd;have hmf:∀(fn:Fn) (first cap:Array Value) (w:World),(Instr.makeFunc fn first cap).run prog w = .ok (.func fn first cap) w:=fun _ _ _ _=>rfl;have hv2:RdB (w.alloc (.cells #[v] 80)) v xs:=hv.keep ((O_ _ _).alloc (A_ _) _) (A_ _);have HV:=O hv2;have hdist:=fun w' hv=>uJ v xs w' hv;rw[hok] at hdist;have HD:=O hdist;clear hok hnd hdist hv2;obtain⟨a,cap,rfl,hl,hcap,hcells⟩:=hv;unfold maxLen at hcap;obtain⟨b,off,rfl,hbl,hc⟩:=hcells (by omega);clear hcells
 go_enter func173,ntmps173
 go_wp2_with (first
  |(go_at_call 187;refine(HD.out _ HV.out).mono ?_;rintro e w1 ⟨rfl,hb1⟩;have hbox:=IU hb1)
  |(at_make;refine mk_full rfl _ _ rfl xs.length rfl rfl ?hm1 ?hm2))
 case hm1=>omega
 case hm2 =>
  intro w2 hat hb2
  have hbox2:w2.cell? ⟨w.heap.size,0,none⟩=some (.slice (some ⟨b,off,none⟩) xs.length cap):=by
   rw[hb2.cell (p:=⟨w.heap.size,0,none⟩) (World.block_lt_of_cell? _ _ hbox)];exact hbox
  go_wp2
  have hvr2:∀w3,Below w1.heap.size w2 w3→RdB w3 (.slice (some ⟨b,off,none⟩) xs.length cap) xs:=by
   intro w3 hb3;have h1:=(HV.out.keep hb1 (A_ _)).keep hb2 (A_ _);refine⟨_,cap,rfl,hl,by unfold maxLen;omega,fun _=>⟨b,off,rfl,?_,?_⟩⟩
   ·have h4:=hb1.size
    have h5:=hb2.size;have h6:=hb3.size;simp only[World.size_alloc] at h4
    show b<w3.heap.size
    omega
   ·intro i hi
    have hb1s:=hb1.size;simp only[World.size_alloc] at hb1s;rw[hb3.cell (p:=⟨b,off+i,none⟩) (by show b<_;omega),hb2.cell (p:=⟨b,off+i,none⟩) (by show b<_;omega),hb1.cell (p:=⟨b,off+i,none⟩) (by show b<_;simp;omega)];rw[((O_ w.heap.size w).alloc (A_ _) (.cells #[.slice (some ⟨b,off,none⟩) xs.length cap] 80)).cell (p:=⟨b,off+i,none⟩) hbl];exact hc i hi
  have hbw:Below w.heap.size w w2:=((O_ _ _).alloc (A_ _) _).trans ((hb1.mono (by simp)).trans (hb2.mono (by have := hb1.size;simp only[World.size_alloc] at this;omega)));have hs1:w.heap.size<w1.heap.size:=World.block_lt_of_cell? _ _ hbox;have HH:=O hvr2;clear hvr2
  go_loopw [19] (fun i wr=>∃k:Nat,k≤xs.length∧i = .int .i64 k∧BAt wr w1.heap.size (mD xs x k)∧Below w1.heap.size w2 wr) (fun i _=>xs.length-(intOf i).toNat)
  case atStart=>exact⟨0,N_ _,rfl,by rw[DV];exact hat,O_ _ _⟩
  case round =>
   clear hat
   obtain⟨k,hk,rfl,hat,hb⟩:=hrel;have hwl:=Ig xs x k hk
   by_cases hlt:k<xs.length
   ·have hvr:=HH.out wr hb
    have hboxr:wr.cell? ⟨w.heap.size,0,none⟩=some (.slice (some ⟨b,off,none⟩) xs.length cap):=by
     rw[hb.cell (p:=⟨w.heap.size,0,none⟩) hs1];exact hbox2
    have cx:=JV hvr k hlt;have hne:=Rc xs k HND.out hlt;have hpw:=Rd xs k x;have hst:=Ih xs x k hlt
    have i1:(k:Int)<xs.length:=by omega
    have HK:=O hlt;have HP:=O hpw;have HS:=O hst;have HVR:=O hvr;have hz:=hat.lt;clear hpw hst hvr
    go_wp2_with (first
     |(go_at_call 188;refine(Tk _ _ xs k _ _ hboxr HVR.out HK.out).mono ?_;rintro e _ ⟨rfl,rfl⟩)
     |(go_at_call 189;refine(VD _ _ hne _).mono ?_;rintro e w4 ⟨rfl,hb4⟩;rw[HP.out];have hat4:=hat.keep hb4 hz;have c4:=hat4.at k (by rw[hwl];exact HK.out);have f4:=hat4.free k))
    go_roundw
    case rel=>exact⟨k+1,HK.out,by go_num,by rw[←HS.out];exact hat4.set k _,(hb.trans (hb4.mono (by omega))).setCell (A_ _) _⟩
    case measure=>have := HK.out;simp[intOf];omega
   ·have he:k=xs.length:=by omega
    have HE:=O he
    have i1:(xs.length:Int)≤k:=by omega
    have ho:=hat.own (ai:=w.heap.size) (by omega) (by rw[hwl];unfold maxLen;omega);rw[hwl] at ho;clear he;go_wp2
    go_ret2
    refine⟨_,rfl,?_,hbw.trans (hb.mono (by omega))⟩;have ho2:=ho;rw[HE.out,Ie] at ho2;rw[HE.out];exact ho2
end Fld
end
section
namespace Fld
open Go.RowKit F6
attribute [local irreducible] mul ev pp wt wts yZ interp
theorem interp_c (v u:Value) (xs ys:List UInt8) (x:UInt8) (w:World) (hv:RdB w v xs) (hu:RdB w u ys) (hok:okX xs=true) (hl:xs.length=ys.length) :
  Calls prog 142 #[v,u,.int .u8 (B8 x)] w fun e w'=>e = .returned (.tuple #[.int .u8 (B8 (interp xs ys x)),.int .i64 0])∧Below w.heap.size w w':=by
 obtain⟨hnd,hl1,hl2⟩:=nQ hok;have hwt:=fun w' hv=>yr v xs x w' hv hok;have HWT:=O hwt;have HV:=O hv;have HU:=O hu;clear hok hnd hwt;obtain⟨a,cap,rfl,_,_,_⟩:=hv;obtain⟨a2,cap2,rfl,_,_,hcells2⟩:=hu;obtain⟨b2,off2,rfl,hb2,hc2⟩:=hcells2 (by omega);have hwl:=rm xs x xs.length
 have hne:((xs.length:Int) == ys.length)=true:=by rw[beq_iff_eq];omega
 have hne2:((xs.length:Int) != ys.length)=false:=by rw[bne,hne];rfl
 have HWL:=O hwl;have HL:=O hl;clear hcells2 hwl hl
 go_enter func142,ntmps142
 go_wp2_with (go_at_call 173;refine(HWT.out _ HV.out).mono ?_;rintro e w1 ⟨q,rfl,ho,hb⟩;obtain⟨qa,qcap,rfl,_,_,hq⟩:=ho.opened HWL.out)
 obtain⟨g,rfl,hg1,hg2,hqc⟩:=hq (by omega);have hbs:=hb.size;clear hq
 go_loopw [10,30] (fun o i wr=>∃k:Nat,k≤xs.length∧i = .int .i64 k∧o = .int .u8 (B8 (yZ xs ys x k))∧∃n,wr=w1.drewN n) (fun _ i _=>xs.length-(intOf i).toNat)
 case atStart=>exact⟨0,N_ _,rfl,by rw[xE];rfl,0,rfl⟩
 case round =>
  obtain⟨k,hk,rfl,rfl,n,rfl⟩:=hrel
  by_cases hlt:k<xs.length
  ·have c1:=hqc k hlt
   have c2:w1.cell? ⟨b2,off2+k,none⟩=some (.int .u8 (B8 (byteAt ys k))):=by rw[hb.cell (p:=⟨b2,off2+k,none⟩) hb2];exact hc2 k (by have := HL.out;omega)
   have i1:(k:Int)<xs.length:=by omega
   have i2:(k:Int)<ys.length:=by have := HL.out;omega
   have i3:k<ys.length:=by have := HL.out;omega
   have hs:=xD xs ys x k;have HS:=O hs;have HK:=O hlt;clear hs
   go_wp2_with (go_at_call 156;refine(xK _ _ _).mono ?_;rintro e _ ⟨rfl,rfl⟩)
   go_roundw
   case rel=>exact⟨k+1,HK.out,by go_num,by rw[HS.out];try rw[ME xs x xs.length k HK.out],_,rfl⟩
   case measure=>have := HK.out;simp[intOf];omega
  ·have he:k=xs.length:=by omega
   have HE:=O he
   have i1:(xs.length:Int)≤k:=by omega
   have i2:(ys.length:Int)≤k:=by have := HL.out;omega
   clear he;go_wp2
   go_ret2
   exact⟨by rw[HE.out,Bm];rfl,ak _ hb⟩
end Fld
end
end Go.Proofs.YtmfiaadjdbemnaaGreatDoor
