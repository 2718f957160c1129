/- Contracts and lemmas. No condition. -/
import Derived.Test.YtmfiaadjdbemnaaGreatDoorSB09
import Derived.Test.YtmfiaadjdbemnaaGreatDoorSB12
import Derived.Test.YtmfiaadjdbemnaaGreatDoorSB13
set_option maxRecDepth 100000
set_option maxHeartbeats 8000000
set_option linter.unusedSimpArgs false
set_option linter.unusedVariables false
namespace Go.Proofs.YtmfiaadjdbemnaaGreatDoor
open Tryz
section
open Go.RowKit Go.Shelf
def bh (b:BK):List UInt8:=b.dom++(cd [b.ep,b.num,b.fw,b.tm]++(b.pol++aV b.mo))
structure BK.wf (b:BK):Prop where
 dom:b.dom.length=16
 pol:b.pol.length=16
 nums:∀x∈[b.ep,b.num,b.fw,b.tm],okI x
 mo:b.mo.length≤800000
theorem pW (b:BK) (v:Value) (i:Nat) (hi:i<16):(bc b v)[i]?=some (aq b.dom i):=by
 rcases (by omega:i=0∨i=1∨i=2∨i=3∨i=4∨i=5∨i=6∨i=7∨i=8∨i=9∨i=10∨i=11∨i=12∨i=13∨i=14∨i=15) with rfl|rfl|rfl|rfl|rfl|rfl|rfl|rfl|rfl|rfl|rfl|rfl|rfl|rfl|rfl|rfl
 ·exact Yh b v
 ·exact Yi b v
 ·exact Yj b v
 ·exact Yl b v
 ·exact Ym b v
 ·exact Yn b v
 ·exact Yo b v
 ·exact Yp b v
 ·exact Yq b v
 ·exact Yr b v
 ·exact U6 b v
 ·exact U7 b v
 ·exact U8 b v
 ·exact U9 b v
 ·exact Va b v
 ·exact Vb b v
theorem mM (b:BK) (v:Value) (i:Nat) (hi:i<16):(bc b v)[20+i]?=some (aq b.pol i):=by
 rcases (by omega:i=0∨i=1∨i=2∨i=3∨i=4∨i=5∨i=6∨i=7∨i=8∨i=9∨i=10∨i=11∨i=12∨i=13∨i=14∨i=15) with rfl|rfl|rfl|rfl|rfl|rfl|rfl|rfl|rfl|rfl|rfl|rfl|rfl|rfl|rfl|rfl
 ·exact Vc b v
 ·exact Vd b v
 ·exact Ve b v
 ·exact Vf b v
 ·exact Vg b v
 ·exact Vh b v
 ·exact Vi b v
 ·exact Vj b v
 ·exact Vk b v
 ·exact Vl b v
 ·exact Vm b v
 ·exact Vn b v
 ·exact Vo b v
 ·exact Vp b v
 ·exact Vq b v
 ·exact Vr b v
theorem IC {w:World} {g off:Nat} {d:List UInt8} (hd:d.length=16) (hg:g<w.heap.size) (hc:∀i,i<16→w.cell? ⟨g,off+i,none⟩=some (aq d i)):RdE eB w (.slice (some ⟨g,off,none⟩) 16 16) d:=by
 refine⟨_,16,by rw[hd],by omega,by unfold maxLen;omega,fun _=>⟨g,off,rfl,hg,fun j u hu => ?_⟩⟩
 have hj:j<d.length:=by rw[mU] at hu;have := (d_.1 hu).1;rwa [iP] at this
 rw[yO d j hj] at hu
 cases hu
 exact hc j (by omega)
theorem lq {α:Type} {E:El α} {w:World} {g:Nat} {cs:Array Value} {T:TypeId} {fr:Nat × Nat} (hg:w.heap[g]?=some (.cells cs T fr)) (l:List α) (hcs:cs.toList=E.flat l) (hl:l.length≤1000000) :
  RdE E w (.slice (some ⟨g,0,none⟩) l.length l.length) l :=
 ⟨_,_,rfl,A_ _,by unfold maxLen;omega,fun _=>⟨g,0,rfl,(Q_.1 hg).1,fun j u hu=>by
  rw[e_ _ _ _ _ _ _ hg,a_,←hu,←hcs,Array.getElem?_toList]⟩⟩
def SP.ownB (B:Nat) (l:List UInt8):SP := .pred (fun v w=>ap eB w B v l) (fun _ _ _ hb h=>h.on hb)
theorem pm (b:BK):bh b=[b.dom,cd [b.ep,b.num,b.fw,b.tm],b.pol,aV b.mo].flatten:=by unfold bh;simp
theorem yR (a b c d:Int):(cd [a,b,c,d]).length≤45:=by
 unfold cd kX ea;have h0:=cg (([a,b,c,d]:List Int).length:Int);have h1:=cg a;have h2:=cg b;have h3:=cg c;have h4:=cg d;rw[E_];simp only[List.map_cons,List.map_nil,List.flatten_cons,List.flatten_nil,E_,List.length_nil]
 omega
theorem jC (b:BK) (h:b.wf):16<(bh b).length∧(bh b).length≤b.mo.length+100:=by
 unfold bh;have h1:=yR b.ep b.num b.fw b.tm;have h2:=cW b.mo;have h3:=xj [b.ep,b.num,b.fw,b.tm];rw[E_,E_,E_,h.dom,h.pol]
 omega
attribute [local irreducible] Calls bF aV cd bh
theorem JX (b:BK) (u:Value) (w:World) (hb:b.wf) :
  Calls prog 77 #[.agg (bc b u)] w fun e w'=>e = .returned (.string ⟨(bh b).toArray⟩)∧Below w.heap.size w w':=by
 have HWF:=O hb;have HHL:=O (jC b hb);obtain⟨W0,hW0⟩:∃W0,W0=w.alloc (.cells (bc b u) 47):=⟨_,rfl⟩
 have HBX:Hid (∀w1,Below W0.heap.size W0 w1→∀j,w1.cell? ⟨w.heap.size,j,none⟩=(bc b u)[j]?):=O (by
  intro w1 h j;rw[hW0] at h
  exact gi _ _ _ h j)
 have HBE:Hid (∀w1,Below W0.heap.size W0 w1→Below w.heap.size w w1):=O (by
  intro w1 h;rw[hW0] at h
  exact cJ _ _ h)
 have HSZ:Hid (w.heap.size<W0.heap.size):=O (by rw[hW0];simp);have HW:=O hW0;clear hb hW0
 go_enter func77,ntmps77
 go_upto_region 1 with fail
 rw[←HW.out]
 refine aY 17 [[],[0],[],[2],[],[4],[],[6],[],[8],[3,5,7,9],[10],[],[12],[],[14],[15]]
  (SP.of [.eq (.pointer (some ⟨w.heap.size,0,none⟩)),.eq (.slice (some ⟨w.heap.size,0,none⟩) 16 16),.eq (.pointer (some ⟨w.heap.size,16,none⟩)),.eq (.int .i64 b.ep),.eq (.pointer (some ⟨w.heap.size,17,none⟩)),.eq (.int .i64 b.num),
   .eq (.pointer (some ⟨w.heap.size,18,none⟩)),.eq (.int .i64 b.fw),.eq (.pointer (some ⟨w.heap.size,19,none⟩)),.eq (.int .i64 b.tm),.freshS W0.heap.size 4 #[.int .i64 b.ep,.int .i64 b.num,.int .i64 b.fw,.int .i64 b.tm] 3,.ownB W0.heap.size (cd [b.ep,b.num,b.fw,b.tm]),
   .eq (.pointer (some ⟨w.heap.size,20,none⟩)),.eq (.slice (some ⟨w.heap.size,20,none⟩) 16 16),.eq (.pointer (some ⟨w.heap.size,36,none⟩)),.eq (.string ⟨b.mo.toArray⟩),.ownB W0.heap.size (aV b.mo)]) (fun _=>undef) ?h1 ?h2 ?h3 ?h4 ?h5 ?h6
 case h1=>kernel_rfl
 case h2=>kernel_rfl
 case h3=>kernel_rfl
 case h4 =>
  simp only[F_,c_]
  repeat (first |exact trivial|refine⟨fun vals v=>by kernel_rfl,?_⟩)
 case h5 =>
  simp only[F_,c_];refine⟨?_,?_,?_,?_,?_,?_,?_,?_,?_,?_,?_,?_,?_,?_,?_,?_,?_,trivial⟩
  all_goals (intro wq hbq vals;simp only[given,SP.of,SP.freshS,SP.ownB,Nat.reduceAdd,a_,X_,W_];have HBQ:=O hbq;have HCQ:=O (HBX.out wq hbq);have hzq:w.heap.size<wq.heap.size:=P_ HSZ.out hbq.size;clear hbq)
  case refine_12 =>
   rintro _ ⟨g,rfl,hg1,hg2⟩ Q hQ;simp only[ay,upd,Act.put,B_,C_,D_,Nat.reduceAdd,a_,Nat.reduceEqDiff,if_true,if_false,reduceIte];have HG2:=O hg2;clear hg1 hg2
   go_wp2_with (go_at_call 119;refine(Kd _ [b.ep,b.num,b.fw,b.tm] wq (lq HG2.out [b.ep,b.num,b.fw,b.tm] rfl (by simp)) HWF.out.nums (by have := yR b.ep b.num b.fw b.tm;omega) (by simp)).mono ?_;rintro e x1 ⟨v1,rfl,ho1,hx1⟩;have HO1:=O ho1;have HX1:=O hx1;clear ho1 hx1)
   exact ab hQ _ (by kernel_rfl) HX1.out (HO1.out.mono HBQ.out.size)
  all_goals (intro Q hQ;simp only[ay,upd,Act.put,B_,C_,D_,Nat.reduceAdd,a_,Nat.reduceEqDiff,if_true,if_false,reduceIte])
  case refine_11 =>
   go_wp2;exact ab hQ _ (by kernel_rfl) ((O_ _ _).alloc (A_ _) _) ⟨wq.heap.size,rfl,HBQ.out.size,al _ _ _ rfl⟩
  case refine_17 =>
   go_wp2_with (go_at_call 68;refine(lG b.mo wq (by have := HWF.out.mo;omega)).mono ?_;rintro e x1 ⟨v1,rfl,ho1,hx1⟩;have HO1:=O ho1;have HX1:=O hx1;clear ho1 hx1)
   exact ab hQ _ (by kernel_rfl) HX1.out (HO1.out.mono HBQ.out.size)
  case refine_4 =>
   have c:=(HCQ.out 16).trans (uj b u);go_wp2;exact ab hQ _ (by kernel_rfl) (O_ _ _) rfl
  case refine_6 =>
   have c:=(HCQ.out 17).trans (sy b u);go_wp2;exact ab hQ _ (by kernel_rfl) (O_ _ _) rfl
  case refine_8 =>
   have c:=(HCQ.out 18).trans (ul b u);go_wp2;exact ab hQ _ (by kernel_rfl) (O_ _ _) rfl
  case refine_10 =>
   have c:=(HCQ.out 19).trans (um b u);go_wp2;exact ab hQ _ (by kernel_rfl) (O_ _ _) rfl
  case refine_16 =>
   have c:=(HCQ.out 36).trans (uo b u);go_wp2;exact ab hQ _ (by kernel_rfl) (O_ _ _) rfl
  all_goals go_wp2
  all_goals exact ab hQ _ (by kernel_rfl) (O_ _ _) rfl
 case h6 =>
  intro wq hbq vals
  show given _ _ _ [0,1,2,3,4,5,6,7,8,9,10,11,12,13,14,15,16] _
  simp only[given,SP.of,SP.freshS,SP.ownB,X_,W_];rintro _ ⟨g,rfl,hg1,hg2⟩ v1 ho1 v2 ho2;simp only[F_,c_,J_,L_];simp only[ay,upd,Act.put,B_,C_,D_,Nat.reduceAdd,a_,Nat.reduceEqDiff,if_true,if_false,reduceIte];have HBQ:=O hbq;have HCQ:=O (HBX.out wq hbq);have HZQ:Hid (w.heap.size<wq.heap.size):=O (P_ HSZ.out hbq.size);have HO1:=O ho1;have HO2:=O ho2;obtain⟨a1,c1,hf1,_,_,_⟩:=ho1.rd;obtain⟨a2,c2,hf2,_,_,_⟩:=ho2.rd;generalize (cd [b.ep,b.num,b.fw,b.tm]).length=n1 at hf1;generalize (aV b.mo).length=n2 at hf2;subst hf1 hf2;clear hbq hg1 hg2 ho1 ho2
  have HCC:Hid (∀j (h:j<[b.dom,cd [b.ep,b.num,b.fw,b.tm],b.pol,aV b.mo].length),∃v,(wq.alloc (.cells #[.slice (some ⟨w.heap.size,0,none⟩) 16 16,.slice a1 n1 c1,.slice (some ⟨w.heap.size,20,none⟩) 16 16,.slice a2 n2 c2] 80)).cell? ⟨wq.heap.size,j,none⟩=some v∧RdE eB (wq.alloc (.cells #[.slice (some ⟨w.heap.size,0,none⟩) 16 16,.slice a1 n1 c1,.slice (some ⟨w.heap.size,20,none⟩) 16 16,.slice a2 n2 c2] 80)) v ([b.dom,cd [b.ep,b.num,b.fw,b.tm],b.pol,aV b.mo][j])):=O (by
   intro j hj;have hbA:=((O_ wq.heap.size wq).alloc (A_ _) (.cells #[.slice (some ⟨w.heap.size,0,none⟩) 16 16,.slice a1 n1 c1,.slice (some ⟨w.heap.size,20,none⟩) 16 16,.slice a2 n2 c2] 80));have hj4:j<4:=hj
   rcases (by omega:j=0∨j=1∨j=2∨j=3) with rfl|rfl|rfl|rfl
   ·exact⟨_,by rw[e_ _ _ _ _ _ _ (al _ _ _ rfl)];rfl,(IC HWF.out.dom HZQ.out (fun i hi=>by rw[a_,HCQ.out i];exact pW b u i hi)).on hbA⟩
   ·exact⟨_,by rw[e_ _ _ _ _ _ _ (al _ _ _ rfl)];rfl,HO1.out.rd.on hbA⟩
   ·exact⟨_,by rw[e_ _ _ _ _ _ _ (al _ _ _ rfl)];rfl,(IC HWF.out.pol HZQ.out (fun i hi=>by rw[HCQ.out (20+i)];exact mM b u i hi)).on hbA⟩
   ·exact⟨_,by rw[e_ _ _ _ _ _ _ (al _ _ _ rfl)];rfl,HO2.out.rd.on hbA⟩)
  go_wp2_with (go_at_call 118;refine(Jh wq.heap.size 4 [b.dom,cd [b.ep,b.num,b.fw,b.tm],b.pol,aV b.mo] _ HCC.out (by simp) (by simp) (by rw[←pm];have := HHL.out.1;omega) (by rw[←pm];have := HHL.out.2;have := HWF.out.mo;omega)).mono ?_;rintro e w5 ⟨v5,rfl,ho5,hb5⟩;have HO5:=O ho5;have HB5:=O hb5;have hcv:=b6 ho5.rd;rw[←pm] at hcv;clear ho5 hb5)
  go_ret;exact⟨rfl,HBE.out _ (HBQ.out.trans ((((O_ _ _).alloc (A_ _) _).trans (HB5.out.mono (by simp))).mono HBQ.out.size))⟩
end
section
open Go.RowKit Go.Shelf
def oG (b:Bool):Int:=if b then 1 else 0
def bO (k:K):List Int:=[k.id,k.ty,k.uses,k.start,k.fin,k.ver,k.par,oG k.raw]
def bG (k:K):List UInt8:=eN [cd (bO k),k.val]
def b9 (l:List K):List UInt8:=eN (l.map bG)
structure K.ok (k:K):Prop where
 nums:∀x∈bO k,okI x
 val:k.val.length≤800000
def lu (l:List (List UInt8)):Array Value:=(l.map (fun x=>Value.string ⟨x.toArray⟩)).toArray
theorem Hu (l:List (List UInt8)):(lu l).toList=eS.flat l:=by rw[A5];simp[lu]
theorem P2 (l:List (List UInt8)) (j:Nat) (h:j<l.length):(lu l)[j]?=some (.string ⟨l[j].toArray⟩):=by simp[lu,h]
theorem L5 (l:List (List UInt8)) (j:Nat) (x:List UInt8):(lu l).setIfInBounds j (.string ⟨x.toArray⟩)=lu (l.set j x):=by
 unfold lu;rw[B_,List.map_set]
theorem Kc:(prog.info? 9).map (fun i=>(i.zero,i.size,i.bytes))=some (some (.string ⟨#[]⟩),1,16):=by kernel_rfl
theorem Pt (n:Nat) (hn:n≤1000000) (w:World) :
  (Instr.makeSlice 97 (.int .i64 (n:Int)) (.int .i64 (n:Int))).run prog w = .ok (.slice (some ⟨w.heap.size,0,none⟩) n n) (w.alloc (.cells (lu (List.replicate n [])) 9)):=by
 have hi1:=Kc
 cases hi:prog.info? 9 with
 | none=>rw[hi] at hi1;cases hi1
 | some i0 =>
   rw[hi] at hi1;simp only[Option.map_some,Option.some.injEq,Prod.mk.injEq] at hi1;obtain⟨hz0,hz1,hz2⟩:=hi1;rw[run_make w 97 9 i0 (.string ⟨#[]⟩) underlying97 hi hz0 .i64 .i64 n n (by omega) (by omega) (by rw[hz2];omega) (by omega)]
   have e:madeCells (Value.string ⟨#[]⟩).cells ((n:Int).toNat*i0.size)=lu (List.replicate n []):=by
    rw[hz1,Nat.mul_one,Int.toNat_natCast]
    apply Array.ext'
    apply List.ext_getElem (by simp[madeCells,lu])
    intro i h7 h8
    simp[madeCells,lu,Value.cells]
    rw[Nat.mod_one]
    rfl
   rw[e,Int.toNat_natCast]
theorem uO (k:K):(cd (bO k)).length≤81:=by
 unfold cd kX ea bO;have h0:=cg (([k.id,k.ty,k.uses,k.start,k.fin,k.ver,k.par,oG k.raw]:List Int).length:Int);have h1:=cg k.id;have h2:=cg k.ty;have h3:=cg k.uses;have h4:=cg k.start;have h5:=cg k.fin;have h6:=cg k.ver;have h7:=cg k.par;have h8:=cg (oG k.raw);rw[E_];simp only[List.map_cons,List.map_nil,List.flatten_cons,List.flatten_nil,E_,List.length_nil]
 omega
theorem lK (k:K):(bG k).length≤k.val.length+120:=by
 unfold bG eN kX ea;have h0:=cg (([cd (bO k),k.val]:List (List UInt8)).length:Int);have h1:=cW (cd (bO k));have h2:=cW k.val;have h3:=uO k;rw[E_];simp only[List.map_cons,List.map_nil,List.flatten_cons,List.flatten_nil,E_,List.length_nil]
 omega
def jN (l:List K) (j:Nat):List (List UInt8):=(l.take j).map bG++List.replicate (l.length-j) []
theorem Gw (l:List K) (j:Nat) (h:j≤l.length):(jN l j).length=l.length:=by unfold jN;simp;omega
theorem CS (l:List K):jN l 0=List.replicate l.length []:=by unfold jN;simp
theorem CR (l:List K):jN l l.length=l.map bG:=by unfold jN;simp
theorem Gx (l:List K) (j:Nat) (h:j<l.length):(jN l j).set j (bG (ae l j))=jN l (j+1):=by
 unfold jN
 have hl:((l.take j).map bG).length=j:=by rw[List.length_map,b_];omega
 rw[List.set_append_right _ _ (by omega),hl,Nat.sub_self];obtain⟨m,hm⟩:∃m,l.length-j=m+1:=⟨l.length-j-1,by omega⟩;rw[hm,show l.length-(j+1)=m by omega,List.replicate_succ,C_,List.take_add_one,K_ h,List.map_append,az l j h]
 simp
attribute [local irreducible] Calls bF aV cd eN bG lu
theorem Gk (v:Value) (l:List K) (w:World) (hv:RdK w v l) (hok:∀i,i<l.length→(ae l i).ok) (hn:l.length≤5000) (hl:(b9 l).length≤900000) :
  Calls prog 79 #[v] w fun e w'=>e = .returned (.string ⟨(b9 l).toArray⟩)∧Below w.heap.size w w':=by
 have HV:=O hv;have HOK:=O hok;have HL:=O hl
 have hni:(l.length:Int)≤5000:=by omega
 have HN:=O hn;have hmk:=Pt l.length (by omega);obtain⟨a,cap,rfl,_,_,_⟩:=hv;clear hok hl hn
 go_enter func79,ntmps79
 go_wp2
 go_loopw [13] (fun i wr=>∃j:Nat,j≤l.length∧i = .int .i64 j∧Hid (wr.heap[w.heap.size]?=some (.cells (lu (jN l j)) 9 (0,0)))∧Hid (Below w.heap.size w wr)) (fun i _=>l.length-(intOf i).toNat)
 case atStart=>exact⟨0,N_ _,rfl,O (by rw[CS];exact al _ _ _ rfl),O ((O_ _ _).alloc (A_ _) _)⟩
 case round =>
  clear hmk;obtain⟨j,hj,rfl,hg,hb⟩:=hrel
  by_cases hlt:j<l.length
  ·obtain⟨bb,off,rfl,hbl,aO⟩:=((HV.out.on hb.out).cells) (by omega)
   obtain⟨d0,d1,d2,d3,d4,d5,d6,d7,d8⟩:=aO j hlt
   have j1:(j:Int)<l.length:=by omega
   have HJ:=O hlt;have HKO:=O (HOK.out j hlt);have HSET:=O (Gx l j hlt);have HDL:=O (Gw l j hj);generalize ae l j=k at d0 d1 d2 d3 d4 d5 d6 d7 d8 HKO HSET;have hsz0:w.heap.size<wr.heap.size:=(Q_.1 hg.out).1;have HSZ0:=O hsz0;clear aO hlt hj hsz0
   go_upto_if 21 with fail
   go_cut [6,19,21] from 22 to 22 (fun r _ _ wc=>r = .int .i64 (oG k.raw)∧wc=wr.alloc (.cells (kc k) 86))
   case first =>
    cases hr:k.raw with
    | true =>
      have HR:=O hr;clear hr;go_wp2
      all_goals go_meet
      case rel=>exact⟨by rw[HR.out];rfl,by unfold kc;rw[HR.out]⟩
    | false =>
      have HR:=O hr;clear hr;go_wp2
      all_goals go_meet
      case rel=>exact⟨by rw[HR.out];rfl,by unfold kc;rw[HR.out]⟩
   case rest =>
    obtain⟨rfl,hwc⟩:=hcut;have HG1:Hid (wc.heap[w.heap.size]?=some (.cells (lu (jN l j)) 9 (0,0))):=O (by rw[hwc,bx _ _ _ HSZ0.out];exact hg.out);have HB1:Hid (Below w.heap.size w wc):=O (by rw[hwc];exact hb.out.alloc (hb.out.size) _);have HK1:Hid (wc.heap[wr.heap.size]?=some (.cells (kc k) 86 (0,0))):=O (by rw[hwc];exact al _ _ _ rfl)
    have e0:wc.cell? ⟨wr.heap.size,0,none⟩=some (.int .i64 k.id):=by rw[e_ _ _ _ _ _ _ HK1.out];rfl
    have e1:wc.cell? ⟨wr.heap.size,1,none⟩=some (.int .i64 k.ty):=by rw[e_ _ _ _ _ _ _ HK1.out];rfl
    have e3:wc.cell? ⟨wr.heap.size,3,none⟩=some (.int .i64 k.uses):=by rw[e_ _ _ _ _ _ _ HK1.out];rfl
    have e4:wc.cell? ⟨wr.heap.size,4,none⟩=some (.int .i64 k.start):=by rw[e_ _ _ _ _ _ _ HK1.out];rfl
    have e5:wc.cell? ⟨wr.heap.size,5,none⟩=some (.int .i64 k.fin):=by rw[e_ _ _ _ _ _ _ HK1.out];rfl
    have e6:wc.cell? ⟨wr.heap.size,6,none⟩=some (.int .i64 k.ver):=by rw[e_ _ _ _ _ _ _ HK1.out];rfl
    have e7:wc.cell? ⟨wr.heap.size,7,none⟩=some (.int .i64 k.par):=by rw[e_ _ _ _ _ _ _ HK1.out];rfl
    have HBI:Hid (Below wc.heap.size wc (wc.alloc (.cells #[.int .i64 k.id,.int .i64 k.ty,.int .i64 k.uses,.int .i64 k.start,.int .i64 k.fin,.int .i64 k.ver,.int .i64 k.par,.int .i64 (oG k.raw)] 3))):=O ((O_ _ _).alloc (A_ _) _);clear hwc d0 d1 d2 d3 d4 d5 d6 d7 d8
    go_upto_region 9 with (go_at_call 119;refine(Kd _ (bO k) _ (lq (al wc _ _ rfl) (bO k) rfl (by unfold bO;simp)) HKO.out.nums (by have := uO k;omega) (by unfold bO;simp)).mono ?_;rintro e w2 ⟨v2,rfl,ho2,hb2⟩;have HB2:Hid (Below wc.heap.size wc w2):=(O (HBI.out.trans (hb2.mono HBI.out.size)));have hcv:=b6 ho2.rd;clear ho2 hb2)
    have e2:w2.cell? ⟨wr.heap.size,2,none⟩=some (.string ⟨k.val.toArray⟩):=by
     rw[HB2.out.cell (p:=⟨wr.heap.size,2,none⟩) (Q_.1 HK1.out).1,e_ _ _ _ _ _ _ HK1.out]
     rfl
    have HG2:Hid (w2.heap[w.heap.size]?=some (.cells (lu (jN l j)) 9 (0,0))):=O (by rw[HB2.out.block _ (Q_.1 HG1.out).1];exact HG1.out);have HBS:Hid (Below w2.heap.size w2 (w2.alloc (.cells #[.string ⟨(cd (bO k)).toArray⟩,.string ⟨k.val.toArray⟩] 9))):=O ((O_ _ _).alloc (A_ _) _);clear e0 e1 e3 e4 e5 e6 e7;have HEK:Hid (eN [cd (bO k),k.val]=bG k):=O (by unfold bG;rfl);have HEL:=O (lK k)
    go_upto_region 10 with (first
     |(go_at_call 123;refine(yn _ [cd (bO k),k.val] _ (lq (al w2 _ _ rfl) [cd (bO k),k.val] rfl (by simp)) (by rw[HEK.out];have := HEL.out;have := HKO.out.val;omega) (by simp)).mono ?_;rintro e w3 ⟨v3,rfl,ho3,hb3⟩;have HB3:Hid (Below w2.heap.size w2 w3):=(O (HBS.out.trans (hb3.mono HBS.out.size)));have hcv3:=b6 ho3.rd;rw[HEK.out] at hcv3;have HG3:Hid (w3.heap[w.heap.size]?=some (.cells (lu (jN l j)) 9 (0,0))):=(O (by rw[HB3.out.block _ (Q_.1 HG2.out).1];exact HG2.out));have c9:w3.cell? ⟨w.heap.size,j,none⟩=some (.string ⟨((jN l j)[j]'(by rw[HDL.out];exact HJ.out)).toArray⟩):=(by rw[e_ _ _ _ _ _ _ HG3.out];exact P2 _ _ (by rw[HDL.out];exact HJ.out));have f9:=frozen_of_row _ _ j _ _ HG3.out;clear ho3 hb3))
    have HW4:Hid (w3.setCell ⟨w.heap.size,j,none⟩ (.string ⟨(bG k).toArray⟩)=w3.setRow w.heap.size (lu (jN l (j+1)))):=O (by rw[au _ _ _ _ _ _ _ HG3.out,L5,HSET.out]);go_wp2;go_roundw
    case rel=>exact⟨j+1,HJ.out,by go_num,O (by rw[HW4.out];exact setRow_heap _ _ _ _ _ _ HG3.out),O (by rw[HW4.out];exact((HB1.out.trans ((HB2.out.trans (HB3.out.mono HB2.out.size)).mono HB1.out.size))).trans (aK (A_ _)))⟩
    case measure=>have := HJ.out;simp[intOf];omega
  ·have he:j=l.length:=by omega
   have j1:(l.length:Int)≤j:=by omega
   have HG1:Hid (wr.heap[w.heap.size]?=some (.cells (lu (l.map bG)) 9 (0,0))):=O (by have := hg.out;rw[he,CR] at this;exact this)
   have HRD:Hid (RdE eS wr (.slice (some ⟨w.heap.size,0,none⟩) l.length l.length) (l.map bG)):=O (by
    have := lq (E:=eS) HG1.out (l.map bG) (Hu _) (by rw[List.length_map];have := HN.out;omega);rw[List.length_map] at this
    exact this)
   have HC:Hid (eN (l.map bG)=b9 l):=O (by unfold b9;rfl);clear he hlt hj
   go_wp2_with (go_at_call 123;refine(yn _ (l.map bG) _ HRD.out (by rw[HC.out];exact HL.out) (by rw[List.length_map];have := HN.out;omega)).mono ?_;rintro e w3 ⟨v3,rfl,ho3,hb3⟩;have HB3:=O (hb.out.trans (hb3.mono hb.out.size));have hcv3:=b6 ho3.rd;rw[HC.out] at hcv3;clear ho3 hb3)
   go_ret;exact⟨rfl,HB3.out⟩
end
section
open Go.RowKit
theorem mq (key n t:List UInt8):eX key n (eX key n t)=t:=C3.xorText_twice key 1 n t
theorem jF (key ad t:List UInt8):(bQ key ad t).length=t.length+28:=by
 unfold bQ;rw[E_,E_,gL,lz,jX]
 omega
theorem qJ (n x g:List UInt8) (hn:n.length=12) (hg:g.length=16):bN (n++(x++g))=n∧bC (n++(x++g))=x∧bT (n++(x++g))=g:=by
 have hl:(n++(x++g)).length=x.length+28:=by rw[E_,E_];omega
 refine⟨?_,?_,?_⟩
 ·unfold bN
  rw[←hn,List.take_left]
 ·unfold bC
  rw[hl,show x.length+28-16-12=x.length by omega]
  conv=>lhs;rw[←hn]
  rw[List.drop_left,List.take_left]
 ·unfold bT
  rw[hl,←R_,show x.length+28-16=(n++x).length by rw[E_];omega,List.drop_left]
theorem Dt (b:List UInt8) (h:28≤b.length):b=bN b++(bC b++bT b):=by
 unfold bN bC bT
 have e:b.drop (b.length-16)=(b.drop 12).drop (b.length-16-12):=by rw[List.drop_drop];congr 1;omega
 rw[e,List.take_append_drop,List.take_append_drop]
theorem G5 (key ad t:List UInt8):jn key ad (bQ key ad t)=some t:=by
 obtain⟨h1,h2,h3⟩:=qJ (bm (cO key) ad t) (eX (fH key) (bm (cO key) ad t) t) (jj (cO key) (bm (cO key) ad t) ad (eX (fH key) (bm (cO key) ad t) t)) (gL _ _ _) (jX _ _ _ _);unfold jn bQ;rw[h1,h2,h3,mq,G_ ⟨rfl,rfl⟩]
theorem yk (key ad b x:List UInt8) (hb:28≤b.length) (h:jn key ad b=some x):b=bQ key ad x:=by
 unfold jn at h
 split at h
 ·rename_i hc
  obtain⟨h1,h2⟩:=hc
  have hx:eX (fH key) (bN b) (bC b)=x:=by simpa using h
  rw[hx] at h2
  have hcx:eX (fH key) (bN b) x=bC b:=by rw[←hx,mq]
  have hp:=Dt b hb;unfold bQ;rw[h2,hcx,h1];exact hp
 ·cases h
theorem Dg (key ad t:List UInt8) (h:fF key ad t=0):gU key ad (eu key ad t)=t∧eG key ad (eu key ad t)=0∧(eu key ad t).length=t.length+28:=by
 unfold fF at h
 split at h
 ·rename_i hk
  split at h
  ·cases h
  ·rename_i hs
   have hx:eu key ad t=bQ key ad t:=by unfold eu;rw[G_ ⟨hk,hs⟩]
   have hl:=jF key ad t;rw[hx];unfold gU eG
   have h2:¬(1048576<ad.length∨1048604<(bQ key ad t).length):=by omega
   have h3:¬(bQ key ad t).length<28:=by omega
   rw[G_ ⟨hk,h2,h3⟩,G_ hk,H_ h2,H_ h3,G5];exact⟨rfl,rfl,hl⟩
 ·cases h
open Go.RowKit Go.Shelf
def bkL:List UInt8:=[98,97,99,107,117,112]
def aJ (key label:List UInt8):List UInt8:=mac key (aV label)
theorem cE (key label:List UInt8):(aJ key label).length=32:=ju _ _
attribute [local irreducible] Calls mac aV bF cd eN bG bh b9 bQ
theorem uH (key label:List UInt8) (w:World) (hk:KAt w) (hl:key.length≤1000000) (hm:label.length≤1000) :
  Calls prog 64 #[.string ⟨key.toArray⟩,.string ⟨label.toArray⟩,.slice none 0 0] w fun e w'=>e = .returned (.string ⟨(aJ key label).toArray⟩)∧Below w.heap.size w w':=by
 have HK:=O hk;have HL:=O hl;have HM:=O hm;have HD:Hid (mac key (aV label)=aJ key label):=O rfl;have HE:=O (cW label);clear hk hl hm
 go_enter func64,ntmps64
 go_wp2_with (go_at_call 68;refine(lG label _ (by have := HM.out;omega)).mono ?_;rintro e w1 ⟨v1,rfl,ho1,hb1⟩;have HO1:=O ho1;have HB1:=O hb1;clear ho1 hb1)
 go_loopw [14,7] (fun i o wr=>i = .int .i64 0∧o=v1∧wr=w1) (fun _ _ _=>0)
 case atStart=>exact⟨rfl,rfl,rfl⟩
 case round =>
  obtain⟨rfl,rfl,hwr⟩:=hrel;rw[hwr];clear hwr;have hcv:=b6 HO1.out.rd
  go_wp2_with (go_at_call 106;refine(E8 key (aV label) _ (HK.out.on HB1.out) (by have := HL.out;omega) (by have := HE.out;have := HM.out;omega)).mono ?_;rintro e w2 ⟨rfl,hb2⟩;have HB2:=O (HB1.out.trans (hb2.mono HB1.out.size));clear hb2;rw[HD.out])
  go_ret;exact⟨rfl,HB2.out⟩
structure BK.mach (b:BK):Prop where
 dom:b.dom.length=16
 pol:b.pol.length=16
 nums:∀x∈[b.ep,b.num,b.fw,b.tm],okI x
 mo:b.mo.length≤maxLen
def cQ (l:List K):Prop:=∀i,i<l.length→∀x∈bO (ae l i),okI x
theorem FJ {x:Int} (h:okI x):IntKind.i64.wrap x=x:=by unfold okI at h;rw[IntKind.wrap_i64];omega
theorem cQ.wf {l:List K} (h:cQ l):∀i,i<l.length→(ae l i).wf:=fun i hi =>
 ⟨FJ (h i hi _ (by unfold bO;simp)),FJ (h i hi _ (by unfold bO;simp))⟩
theorem iO {b:BK} {l:List K} (h:aI b l=true):1≤b.mo.length∧b.mo.length≤12∧l.length≤4096:=by
 unfold aI eY at h;simp only[T_,decide_eq_true_eq] at h;exact⟨h.1.1.1.2,h.1.1.2,h.1.2⟩
theorem pL {b:BK} {l:List K} (h:aI b l=true):∀i,i<l.length→bf (ae l i)=true:=by
 intro i hi;unfold aI at h;simp only[T_,List.all_eq_true,List.mem_range] at h;have h2:=h.2 i hi;unfold okB at h2;simp only[T_] at h2
 first |exact h2.1.1|exact h2.1
theorem pM {k:K} (h:bf k=true):k.val.length=32:=by
 unfold bf at h;simp only[T_,beq_iff_eq] at h
 omega
theorem BK.mach.wf {b:BK} (h:b.mach) (hm:b.mo.length≤800000):b.wf:=⟨h.dom,h.pol,h.nums,hm⟩
theorem Au {α:Type} (enc:α→List UInt8) (l:List α) (c:Nat) (h:∀x∈l,(enc x).length≤c):(ea enc l).length≤l.length*c:=by
 induction l with
 | nil=>simp[fj]
 | cons x l ih =>
   rw[eL,E_,Z_,Nat.add_mul];have h1:=h x (by simp);have h2:=ih (fun y hy=>h y (by simp[hy]))
   omega
theorem nI {b:BK} {l:List K} (h:aI b l=true):(b9 l).length≤l.length*161+9:=by
 unfold b9 eN kX;have h0:=cg ((l.map bG).length:Int)
 have h1:=Au aV (l.map bG) 161 (by
  intro x hx;obtain⟨k,hk,rfl⟩:=List.mem_map.1 hx;obtain⟨i,hi,rfl⟩:=List.mem_iff_getElem.1 hk;have h2:=pM (pL h i hi);rw[az l i hi] at h2;have h3:=lK l[i];have h4:=cW (bG l[i])
  omega)
 rw[E_];rw[List.length_map] at h0 h1;rw[List.length_map]
 omega
theorem EZ {b:BK} {l:List K} (hn:cQ l) (h:aI b l=true):∀i,i<l.length→(ae l i).ok:=fun i hi =>
 ⟨hn i hi,by rw[pM (pL h i hi)];decide⟩
def ch (dk:List UInt8) (b:BK) (l:List K):Bool:=decide (dk.length=32) && aI b l
def bX (dk:List UInt8) (b:BK) (l:List K):List UInt8:=aV (bh b)++bQ (aJ dk bkL) (bh b) (b9 l)
def lg (dk:List UInt8) (b:BK) (l:List K):List UInt8:=if ch dk b l=true then bX dk b l else []
def jm (dk:List UInt8) (b:BK) (l:List K):Int:=if ch dk b l=true then 0 else 1
theorem ar {R:Nat→SP} {w:World} {body:(Nat→Value)→Prop} {vals:Nat→Value} (h:body vals):given R w body [] vals:=h
theorem aw {R:Nat→SP} {w:World} {body:(Nat→Value)→Prop} {vals:Nat→Value} {j:Nat} {l:List Nat} {c:Value} (hr:R j = .eq c) (h:given R w body l (upd vals j c)):given R w body (j::l) vals:=by
 unfold given;rw[hr];exact h
theorem aG {R:Nat→SP} {w:World} {body:(Nat→Value)→Prop} {vals:Nat→Value} {j:Nat} {l:List Nat} {q:Value→World→Prop} {st:∀v w w',Below w.heap.size w w'→q v w→q v w'} (hr:R j = .pred q st) (h:∀x,q x w→given R w body l (upd vals j x)):given R w body (j::l) vals:=by
 unfold given;rw[hr];exact h
theorem kx (dk:List UInt8) (b:BK) (l:List K):(ch dk b l=true∧jm dk b l=0∧lg dk b l=bX dk b l)∨(ch dk b l=false∧jm dk b l=1∧lg dk b l=[]):=by
 unfold jm lg
 cases ch dk b l
 ·exact .inr ⟨rfl,rfl,rfl⟩
 ·exact .inl ⟨rfl,rfl,rfl⟩
attribute [local irreducible] aI
theorem OE (dk:List UInt8) (b:BK) (u:Value) (l:List K) (w:World) (hv:RdK w u l) (hb:b.mach) (hn:cQ l) (h:ch dk b l=false) :
  Calls prog 41 #[.string ⟨dk.toArray⟩,.agg (bc b u)] w fun e w'=>e = .returned (.tuple #[.string ⟨#[]⟩,.int .i64 1])∧Below w.heap.size w w':=by
 have HB0:Hid ((w.alloc (.cells (bc b u) 47)).heap[w.heap.size]?=some (.cells (bc b u) 47 (0,0))):=O (al _ _ _ rfl);have HBA:Hid (Below w.heap.size w (w.alloc (.cells (bc b u) 47))):=O ((O_ _ _).alloc (A_ _) _);have HVC:=O (rf b u l (w.alloc (.cells (bc b u) 47)) (hv.alloc _) hn.wf hb.mo);unfold ch at h;clear hv hb hn
 by_cases h32:dk.length=32
 ·rw[decide_eq_true h32,Bool.true_and] at h
  rw[h] at HVC
  have i1:((dk.length:Int) != 32)=false:=by rw[h32];rfl
  clear h h32
  go_enter func41,ntmps41
  go_wp2_with (first
   |(refine cH b u rfl (.tmp 3) rfl _ rfl _ HB0.out ?_)
   |(go_at_call 76;refine HVC.out.mono ?_;rintro e w1 ⟨rfl,hb1⟩;have HB1:=O (HBA.out.trans (hb1.mono HBA.out.size));clear hb1))
  go_ret2
  exact⟨rfl,HB1.out⟩
 ·have i1:((dk.length:Int) != 32)=true:=by simp;omega
  clear h h32
  go_enter func41,ntmps41
  go_wp2
  go_ret2
  exact⟨rfl,HBA.out⟩
theorem SJ (dk:List UInt8) (b:BK) (u:Value) (l:List K) (w:World) (hk:KAt w) (hv:RdK w u l) (hb:b.mach) (hn:cQ l) (h:ch dk b l=true) :
  Calls prog 41 #[.string ⟨dk.toArray⟩,.agg (bc b u)] w fun e w'=>e = .returned (.tuple #[.string ⟨(bX dk b l).toArray⟩,.int .i64 0])∧Below w.heap.size w w':=by
 have hb32:dk.length=32∧aI b l=true:=by unfold ch at h;simpa using h
 obtain⟨h32,hval⟩:=hb32;have hmo:=iO hval;have HWF:=O (hb.wf (by omega));have HHL:=O (jC b HWF.out);have HMO:=O hmo;have HCL:=O (nI hval);have HKO:=O (EZ hn hval);have H32:=O h32;have hv0:=hv;obtain⟨ua,uc,hu,_,_,_⟩:=hv0;have HUF:=O hu;obtain⟨W0,hW0⟩:∃W0,W0=w.alloc (.cells (bc b u) 47):=⟨_,rfl⟩;have HB0:Hid (W0.heap[w.heap.size]?=some (.cells (bc b u) 47 (0,0))):=O (by rw[hW0];exact al _ _ _ rfl);have HBA:Hid (Below w.heap.size w W0):=O (by rw[hW0];exact(O_ _ _).alloc (A_ _) _);have HRD:Hid (RdK W0 u l):=O (by rw[hW0];exact hv.alloc _);have HKA:Hid (KAt W0):=O (by rw[hW0];exact hk.alloc _);have HVC:=O (rf b u l W0 HRD.out hn.wf hb.mo);rw[hval] at HVC;have HMP:Hid (bX dk b l=aV (bh b)++bQ (aJ dk bkL) (bh b) (b9 l)):=O rfl
 have i1:((dk.length:Int) != 32)=false:=by rw[h32];rfl
 have HW:=O hW0;have HDL:=O (cE dk bkL);have HBK:Hid (bkL=[98,97,99,107,117,112]):=O rfl;clear h h32 hval hmo hv hb hn hk hW0 hu
 go_enter func41,ntmps41
 go_upto_region 1 with fail
 rw[←HW.out]
 go_upto_region 4 with (first
  |(refine cH b u rfl (.tmp 3) rfl _ rfl _ HB0.out ?_)
  |(go_at_call 76;refine HVC.out.mono ?_;rintro e w1 ⟨rfl,hb1⟩;have HB1:=O hb1;have HBB1:Hid (w1.heap[w.heap.size]?=some (.cells (bc b u) 47 (0,0))):=(O (by rw[hb1.block _ (Q_.1 HB0.out).1];exact HB0.out));clear hb1)
  |(refine cH b u rfl (.tmp 3) rfl _ rfl _ HBB1.out ?_)
  |(go_at_call 77;refine(JX b u _ HWF.out).mono ?_;rintro e w2 ⟨rfl,hb2⟩;have HB2:=O (HB1.out.trans (hb2.mono HB1.out.size));clear hb2))
 generalize hhp:bh b=hp at HHL HMP ⊢;have HHP:=O hhp;generalize hcp:b9 l=cp at HCL HMP;have HCP:=O hcp;generalize hdp:aJ dk bkL=dp at HDL HMP;have HDP:=O hdp;clear hhp hcp hdp
 try dsimp only[Act.put]
 refine aY 11 [[],[0],[],[],[3],[4],[1,2,5],[6],[7],[7],[8]] (SP.of [.eq (.string ⟨dk.toArray⟩),.eq (.string ⟨dp.toArray⟩),.eq (.string ⟨hp.toArray⟩),.eq (.pointer (some ⟨w.heap.size,37,none⟩)),.eq u,.eq (.string ⟨cp.toArray⟩),.eq (.tuple #[.string ⟨(bQ dp hp cp).toArray⟩,.int .i64 0]),.eq (.tuple #[.string ⟨(bQ dp hp cp).toArray⟩,.int .i64 0]),.eq (.string ⟨(bQ dp hp cp).toArray⟩),.eq (.int .i64 0),.eq (.string ⟨(bQ dp hp cp).toArray⟩)]) (fun _=>undef) ?h1 ?h2 ?h3 ?h4 ?h5 ?h6
 case h1=>kernel_rfl
 case h2=>kernel_rfl
 case h3=>kernel_rfl
 case h4 =>
  simp only[F_,c_]
  repeat (first |exact trivial|refine⟨fun vals v=>by kernel_rfl,?_⟩)
 case h5 =>
  simp only[F_,c_];refine⟨?_,?_,?_,?_,?_,?_,?_,?_,?_,?_,?_,trivial⟩
  all_goals (intro wq hbq vals;simp only[Nat.reduceAdd,a_,X_,W_];repeat (first |refine ar ?_|refine aw rfl ?_);have HBQ:Hid (Below W0.heap.size W0 wq):=O (HB2.out.trans (hbq.mono HB2.out.size));clear hbq;intro Q hQ;simp only[ay,upd,Act.put,B_,C_,D_,Nat.reduceAdd,a_,Nat.reduceEqDiff,if_true,if_false,reduceIte])
  case refine_2 =>
   go_wp2_with (go_at_call 64;refine(uH dk bkL _ (HKA.out.on HBQ.out) (by rw[H32.out];decide) (by decide)).mono ?_;rintro e x1 ⟨rfl,hx1⟩;rw[HDP.out])
   exact ab hQ _ (by kernel_rfl) hx1 rfl
  case refine_5 =>
   have c37:wq.cell? ⟨w.heap.size,37,none⟩=some u:=by
    rw[HBQ.out.cell (p:=⟨w.heap.size,37,none⟩) (Q_.1 HB0.out).1,e_ _ _ _ _ _ _ HB0.out];exact iU b u
   rw[HUF.out] at c37;go_wp2;exact ab hQ (.slice ua l.length uc) (by kernel_rfl) (O_ _ _) HUF.out.symm
  case refine_6 =>
   go_wp2_with (go_at_call 79;refine(Gk u l _ (HRD.out.on HBQ.out) HKO.out (by have := HMO.out;omega) (by rw[HCP.out];have := HCL.out;have := HMO.out;omega)).mono ?_;rintro e x1 ⟨rfl,hx1⟩;rw[HCP.out])
   exact ab hQ _ (by kernel_rfl) hx1 rfl
  case refine_7 =>
   go_wp2_with (go_at_call 78;refine(Ly dp hp cp _ (HKA.out.on HBQ.out) HDL.out (by have := HHL.out.2;have := HMO.out;omega) (by have := HCL.out;have := HMO.out;omega)).mono ?_;rintro e x1 ⟨rfl,hx1⟩)
   exact ab hQ _ (by kernel_rfl) hx1 rfl
  all_goals go_wp2
  all_goals exact ab hQ _ (by kernel_rfl) (O_ _ _) rfl
 case h6 =>
  intro wq hbq vals;rw[show List.range 11=[0,1,2,3,4,5,6,7,8,9,10] from by decide]
  repeat (first |refine ar ?_|refine aw rfl ?_)
  simp only[F_,c_,J_,L_];simp only[ay,upd,Act.put,B_,C_,D_,Nat.reduceAdd,a_,Nat.reduceEqDiff,if_true,if_false,reduceIte];have HBQ:Hid (Below W0.heap.size W0 wq):=O (HB2.out.trans (hbq.mono HB2.out.size));clear hbq;have HSL:Hid ((aV hp).length+(bQ dp hp cp).length≤2000000):=O (by have h1:=cW hp;have h2:=jF dp hp cp;have h3:=HHL.out.2;have h4:=HMO.out;have h5:=HCL.out;omega);generalize bQ dp hp cp=sp at HMP HSL ⊢
  have hcat:¬9223372036854775807<(aV hp).length+sp.length:=by have := HSL.out;omega
  go_wp2_with (go_at_call 68;refine(lG hp _ (by have := HHL.out.2;have := HMO.out;omega)).mono ?_;rintro e w5 ⟨v5,rfl,ho5,hb5⟩;have HB5:=O (HBQ.out.trans (hb5.mono HBQ.out.size));have hcv:=b6 ho5.rd;clear ho5 hb5)
  go_ret2
  exact⟨by rw[HMP.out];rfl,HBA.out.trans (HB5.out.mono HBA.out.size)⟩
theorem SM (dk:List UInt8) (b:BK) (u:Value) (l:List K) (w:World) (hk:KAt w) (hv:RdK w u l) (hb:b.mach) (hn:cQ l) :
  Calls prog 41 #[.string ⟨dk.toArray⟩,.agg (bc b u)] w fun e w'=>e = .returned (.tuple #[.string ⟨(lg dk b l).toArray⟩,.int .i64 (jm dk b l)])∧Below w.heap.size w w':=by
 rcases kx dk b l with⟨h1,h2,h3⟩|⟨h1,h2,h3⟩
 ·rw[h2,h3];exact SJ dk b u l w hk hv hb hn h1
 ·rw[h2,h3];exact OE dk b u l w hv hb hn h1
end
section
open Go.RowKit Go.Shelf
def tlc:Option (List UInt8)→List Value
 | none=>[]
 | some h=>[.string ⟨h.toArray⟩]
def rc (v:Value) (e:Int) (tl:Option (List UInt8)):Array Value:=(v :: .int .i64 e::tlc tl).toArray
theorem s9 (v:Value) (e:Int) (tl:Option (List UInt8)):(rc v e tl)[0]?=some v:=rfl
theorem gy (v:Value) (e:Int) (tl:Option (List UInt8)):(rc v e tl)[1]?=some (.int .i64 e):=rfl
theorem tJ (v v':Value) (e:Int) (tl:Option (List UInt8)):(rc v e tl).setIfInBounds 0 v'=rc v' e tl:=by unfold rc;simp
theorem jx (v:Value) (e e':Int) (tl:Option (List UInt8)):(rc v e tl).setIfInBounds 1 (.int .i64 e')=rc v e' tl:=by unfold rc;simp
def RS (w:World) (g:Nat) (T:TypeId) (tl:Option (List UInt8)) (rest:List UInt8) (e:Int):Prop :=
 ∃v,w.heap[g]?=some (.cells (rc v e tl) T (0,0))∧RdE eB w v rest
theorem Lf {a:Option Addr} {n c:Nat} {e:Int} {tl:Option (List UInt8)} (j:Nat) (x:UInt8):(rc (.slice a n c) e tl)[j]? ≠ some (.int .u8 (B8 x)):=by
 intro h;unfold rc at h;rw[List.getElem?_toArray] at h;have hm:=List.mem_of_getElem? h
 cases tl <;> simp[tlc] at hm
theorem RdE.grownK {α:Type} {E:El α} (hE:E.OK) {w w':World} {v:Value} {l:List α} {g:Nat} {cs:Array Value} {T:TypeId} {fr:Nat × Nat} (h:RdE E w v l) (hg:w.grownBy w' (some g)) (aO:w.heap[g]?=some (.cells cs T fr))
  (hno:∀x∈l,∀(j:Nat) (u:Value),(E.cf x)[0]?=some u→cs[j]? ≠ some u):RdE E w' v l:=by
 obtain⟨a,cap,rfl,h1,h2,h3⟩:=h;refine⟨a,cap,rfl,h1,h2,fun h0 => ?_⟩;obtain⟨b,off,rfl,hlt,hc⟩:=h3 h0
 have hne:b≠g:=by
  intro e;subst e;have h4:=El.flat_at hE l 0 0 h0 hE.pos
  have h5:0<(E.cf l[0]).length:=by rw[hE.len];exact hE.pos
  rw[K_ h5] at h4;have h6:=hc _ _ h4;rw[e_ _ _ _ _ _ _ aO] at h6;exact hno l[0] (List.getElem_mem h0) _ _ (K_ h5) h6
 exact⟨b,off,rfl,P_ hlt hg.size,fun j u hu=>by
  rw[World.cell?_of_block (a:=⟨b,off+j,none⟩) (hg.block b hlt (fun e=>hne (Option.some.inj e)))]
  exact hc j u hu⟩
theorem bg {w w1 w2:World} {g:Nat} (h1:w.grownBy w1 (some g)) (h2:w1.grownBy w2 (some g)):w.grownBy w2 (some g) :=
 ⟨h2.os.trans h1.os,h2.tape.trans h1.tape,h2.output.trans h1.output,M_ h1.size h2.size,fun k hk hne=>(h2.block k (P_ hk h1.size) hne).trans (h1.block k hk hne)⟩
theorem grownB {w w1:World} (g:Nat) (h:Below w.heap.size w w1):w.grownBy w1 (some g):=⟨h.os,h.tape,h.output,h.size,fun k hk _=>h.block k hk⟩
theorem iV {w w1:World} {g B:Nat} (h:w.grownBy w1 (some g)) (hB:B≤g) (hs:g<w.heap.size):Below B w w1:=⟨h.os,h.tape,h.output,h.size,fun k hk=>h.block k (by omega) (fun e=>by cases e;omega)⟩
theorem aD (w:World) (g:Nat) (cs:Array Value):w.grownBy (w.setRow g cs) (some g) :=
 ⟨rfl,rfl,rfl,(aK (B:=g) (A_ _)).size,fun k _ hne=>aj _ _ _ _ (fun e=>hne (by rw[e]))⟩
theorem kE (w:World) (g:Nat) (cs:Array Value):(w.setRow g cs).heap.size=w.heap.size:=by unfold World.setRow;simp
attribute [local irreducible] Calls rc
theorem dK (g:Nat) (T:TypeId) (tl:Option (List UInt8)) (v:Value) (e:Int) (ok:Bool) (e2:Int) (w:World) (h1:w.heap[g]?=some (.cells (rc v e tl) T (0,0))) :
  Calls prog 92 #[.pointer (some ⟨g,0,none⟩),.bool ok,.int .i64 e2] w fun en w'=>en = .returned (.bool (decide ((if e=0∧ok=false then e2 else e)=0)))∧w'=if e=0∧ok=false then w.setRow g (rc v e2 tl) else w:=by
 have c1:w.cell? ⟨g,1,none⟩=some (.int .i64 e):=by rw[e_ _ _ _ _ _ _ h1];exact gy v e tl
 have f1:=frozen_of_row _ _ 1 _ _ h1;have H1:=O h1
 by_cases he:e=0
 ·subst he
  cases ok with
  | true =>
    have hif:(if (0:Int)=0∧true=false then e2 else 0)=0:=by simp
    have hif2:(if (0:Int)=0∧true=false then w.setRow g (rc v e2 tl) else w)=w:=by simp
    rw[hif,hif2];clear h1 hif hif2
    go_enter func92,ntmps92
    go_wp2;go_ret;exact⟨rfl,rfl⟩
  | false =>
    have hif:(if (0:Int)=0∧false=false then e2 else 0)=e2:=by simp
    have hif2:(if (0:Int)=0∧false=false then w.setRow g (rc v e2 tl) else w)=w.setRow g (rc v e2 tl):=by simp
    rw[hif,hif2];have HR:Hid (w.setCell ⟨g,1,none⟩ (.int .i64 e2)=w.setRow g (rc v e2 tl)):=O (by rw[au _ _ _ _ _ _ _ h1,jx])
    have c2:(w.setRow g (rc v e2 tl)).cell? ⟨g,1,none⟩=some (.int .i64 e2):=by rw[e_ _ _ _ _ _ _ (setRow_heap _ _ _ _ _ _ h1)];exact gy v e2 tl
    rw[←HR.out] at c2;clear h1 hif hif2
    by_cases h20:e2=0
    ·subst h20
     go_enter func92,ntmps92
     go_wp2;go_ret;rw[HR.out];exact⟨rfl,rfl⟩
    ·have i1:(e2 == 0)=false:=by simpa using h20
     have HD:Hid (decide (e2=0)=false):=O (V_ h20)
     go_enter func92,ntmps92
     go_wp2;go_ret;rw[HR.out];exact⟨by rw[HD.out];rfl,rfl⟩
 ·have hif:(if e=0∧ok=false then e2 else e)=e:=by rw[H_ (fun h=>he h.1)]
  have hif2:(if e=0∧ok=false then w.setRow g (rc v e2 tl) else w)=w:=by rw[H_ (fun h=>he h.1)]
  rw[hif,hif2]
  have i1:(e == 0)=false:=by simpa using he
  have HD:Hid (decide (e=0)=false):=O (V_ he);clear h1 hif hif2
  go_enter func92,ntmps92
  go_wp2;go_ret;exact⟨by rw[HD.out];rfl,rfl⟩
end
section
open Go.RowKit Go.Shelf
def z16:List UInt8:=List.replicate 16 0
def bz (b:List UInt8):List UInt8 × Nat × Int:=if b.length<16 then (z16,0,5) else (b.take 16,16,0)
theorem cy {fn:Func} {p t u:Tmp} {ty:TypeId} (h:fn.results = #[.cell p ty,.tmp t,.tmp u]) (tmps:Array Value) (w:World) (g:Nat) (x:Value)
  (hp:tmps.getD p undef = .pointer (some ⟨g,0,none⟩)) (hld:(loadVar ty ⟨g,0,none⟩).run prog w = .ok x w) :
  (results fn tmps).run prog w = .ok (.tuple #[x,tmps.getD t undef,tmps.getD u undef]) w:=by
 have hp':tmps[p]?.getD undef = .pointer (some ⟨g,0,none⟩):=by simpa using hp
 simp[results,h,hp',asAddr,hld]
theorem aA {fn:Func} {p t:Tmp} {ty:TypeId} (h:fn.results = #[.cell p ty,.tmp t]) (tmps:Array Value) (w:World) (g:Nat) (x:Value)
  (hp:tmps.getD p undef = .pointer (some ⟨g,0,none⟩)) (hld:(loadVar ty ⟨g,0,none⟩).run prog w = .ok x w) :
  (results fn tmps).run prog w = .ok (.tuple #[x,tmps.getD t undef]) w:=by
 have hp':tmps[p]?.getD undef = .pointer (some ⟨g,0,none⟩):=by simpa using hp
 simp[results,h,hp',asAddr,hld]
theorem aF (d:List UInt8):(am d).size=16:=rfl
theorem iY (d:List UInt8):(am d).all (·.oneCell')=true:=by
 have h1:∀d i,(aq d i).oneCell'=true:=fun _ _=>rfl;unfold am
 simp[h1]
theorem nK (d:List UInt8) (j:Nat) (u:Value) (h:(am d).toList[j]?=some u):j<16∧u=aq d j:=by
 have e:am d=((List.range 16).map (aq d)).toArray:=rfl;rw[e] at h
 simp at h
 obtain⟨k,hk,rfl⟩:=h;rw[d_] at hk;obtain⟨h1,h2⟩:=hk
 simp at h1 h2
 exact⟨h1,by rw[h2]⟩
theorem Ik:(prog.info? 23).map (·.zero)=some (some (.agg (am z16))):=by kernel_rfl
theorem ja (w:World):(zeroValue 23).run prog w = .ok (.agg (am z16)) w:=by
 have h:=Ik;generalize am z16=L at h ⊢
 cases hq:prog.info? 23 with
 | none=>rw[hq] at h;cases h
 | some i =>
   rw[hq] at h
   simp at h
   simp[zeroValue,typeInfo,hq,h]
theorem qQ (w:World) (g:Nat) (d:List UInt8) (T:TypeId) (hg:w.heap[g]?=some (.cells (am d) T (0,0))):(loadVar 23 ⟨g,0,none⟩).run prog w = .ok (.agg (am d)) w :=
 run_loadVar_row w g T 23 (am d) (0,0) _ hg underlying23 rfl (by rw[aF];exact cC)
theorem vV {ops:Array Oper} {rest:List Oper} {o:Oper} {a:Act} {w:World} {Q:Exit→Act→World→Prop} (d:List UInt8) (hgd:o.guard=none) (x y:Operand) (ho:o.op = .store 23 x y)
  (g:Nat) (hx:a.eval x = .pointer (some ⟨g,0,none⟩)) (hy:a.eval y = .agg (am d)) (T:TypeId) (old:Array Value) (hg:w.heap[g]?=some (.cells old T (0,0))) (hold:old.size=16)
  (h:wpList prog ops Q rest (a.put o.dst undef) (w.setRow g (am d))):wpList prog ops Q (o::rest) a w :=
 wpList_store_row hgd _ x y ho g (am d) hx hy T old hg (by rw[aF];exact cC) (by rw[aF,hold]) (iY d) h
theorem Li {w:World} {bb off cap:Nat} {b:List UInt8} (hv:RdE eB w (.slice (some ⟨bb,off,none⟩) b.length cap) b) (hb:b.length=16):w.rangeAt bb off (am b).toList:=by
 obtain⟨b2,off2,e,_,hc⟩:=fp hv (by omega)
 cases e
 intro j u hu;obtain⟨h1,rfl⟩:=nK b j u hu;exact hc j (by omega)
theorem uE (b:List UInt8) (i:Nat) (h:i<16):aq (b.take 16) i=aq b i:=by
 unfold aq byteAt;rw[I_,I_,List.getElem?_take,G_ h]
theorem D9 (p:Addr) (c:Nat) (w:World):(Instr.arrayAt 23 (.slice (some p) 16 c)).run prog w = .ok (.pointer (some p)) w:=by
 kernel_rfl
attribute [local irreducible] Calls am
theorem Jt (v:Value) (b:List UInt8) (w:World) (hv:RdE eB w v b) :
  Calls prog 136 #[v] w fun e w'=>e = .returned (.tuple #[.agg (am (bz b).1),.int .i64 (bz b).2.1,.int .i64 (bz b).2.2])∧Below w.heap.size w w':=by
 have hz:=ja;have har:=D9;have HR0:Hid ((w.alloc (.cells (am z16) 23)).heap[w.heap.size]?=some (.cells (am z16) 23 (0,0))):=O (al _ _ _ rfl);have HB0:Hid (Below w.heap.size w (w.alloc (.cells (am z16) 23))):=O ((O_ _ _).alloc (A_ _) _);have HV:=O (hv.alloc (.cells (am z16) 23));have hlen:=V7 HV.out 3
 by_cases h:b.length<16
 ·have HD:Hid (bz b=(z16,0,5)):=O (G_ h)
  have i1:(b.length:Int)<16:=by omega
  obtain⟨a,cap,rfl,_,_,_⟩:=hv;clear h hlen
  go_enter func136,ntmps136
  go_wp2_with (first
   |(refine wpList_load_row rfl 23 (.tmp 2) rfl w.heap.size rfl _ (am z16) (0,0) _ HR0.out underlying23 rfl (by rw[aF];exact cC) ?_)
   |(refine vV z16 rfl (.tmp 2) (.tmp 8) rfl w.heap.size rfl rfl _ _ HR0.out (aF _) ?_))
  refine g_ (cy rfl _ _ w.heap.size _ rfl (qQ _ _ z16 _ (al _ _ _ rfl))) rfl ?_;exact⟨by rw[HD.out];rfl,(O_ _ _).alloc (A_ _) _⟩
 ·have HD:Hid (bz b=(b.take 16,16,0)):=O (H_ h)
  have i1:¬(b.length:Int)<16:=by omega
  have hl16:(b.take 16).length=16:=by rw[b_];omega
  obtain⟨vs,hs,hrs⟩:=PH HV.out 16 (by omega);have hrs2:=hrs;obtain⟨a2,cap2,rfl,hc2,_,hx2⟩:=hrs;obtain⟨bb,off,rfl,hbl,_⟩:=hx2 (by omega);have HRG:=O (Li hrs2 hl16);rw[hl16] at hs hc2;have hs':(Instr.slice 80 v none (some (.int .i64 16)) none).run prog (w.alloc (.cells (am z16) 23)) = .ok (.slice (some ⟨bb,off,none⟩) 16 cap2) (w.alloc (.cells (am z16) 23)):=hs;obtain⟨a,cap,hvf,_,_,_⟩:=hv;have HDD:Hid (am (b.take 16)=am (bz b).1):=O (by rw[HD.out]);rw[hvf] at hs' hlen ⊢;clear h hlen hs hrs2 hl16 hx2
  go_enter func136,ntmps136
  go_wp2_with (first
   |(refine Dh (b.take 16) bb off HRG.out rfl (.tmp 11) rfl rfl ?_)
   |(refine vV (b.take 16) rfl (.tmp 2) (.tmp 12) rfl w.heap.size rfl rfl _ _ HR0.out (aF _) ?_))
  refine g_ (cy rfl _ _ w.heap.size _ rfl (qQ _ _ (b.take 16) _ (al _ _ _ rfl))) rfl ?_;exact⟨by rw[HD.out];rfl,(O_ _ _).alloc (A_ _) _⟩
end
end Go.Proofs.YtmfiaadjdbemnaaGreatDoor
