/- Contracts and lemmas. No condition. -/
import Derived.Test.YtmfiaadjdbemnaaGreatDoorLSp03
import Derived.Test.YtmfiaadjdbemnaaGreatDoorLSp02
import Derived.Test.YtmfiaadjdbemnaaGreatDoorLFound11
set_option maxRecDepth 100000
set_option maxHeartbeats 8000000
set_option linter.unusedSimpArgs false
set_option linter.unusedVariables false
namespace Go.Proofs.YtmfiaadjdbemnaaGreatDoor
open Go.Proofs.Tryz
section
open Go.RowKit
theorem cR.nil (w:World) (ai:Nat):cR w ai (.slice none 0 0) []:=World.ownsRow_nil w ai _ 1
attribute [local irreducible] C3.rounds C3.state C3.blockTo C3.bytes
end
section
open Go.RowKit Go.Shelf
attribute [local irreducible] Calls am mS
theorem I1:prog.built 86 []=some (kc zK):=by kernel_rfl
theorem mO {ops:Array Oper} {rest:List Oper} {o:Oper} {a:Act} {w:World} {Q:Exit→Act→World→Prop} (hgd:Region.wanted o (yielded ops a.tmps)=true) (ho:o.op = .build 86 #[])
  (h:wpList prog ops Q rest (a.put o.dst (.agg (kc zK))) w):wpList prog ops Q (o::rest) a w :=
 wpList_step fun K hK=>by
  rw[G_ hgd];have hr:=run_build (P:=prog) w 86 #[] _ I1;unfold Oper.wp execOp;simp only[ho,List.map_toArray,List.map_nil,hr,Sem.run_bind,Sem.run_pure,Result.andThen_ok];exact hK _ _ h
attribute [local irreducible] kc
end
section
open Go.RowKit Go.Shelf
theorem Jm (d:List UInt8) (i:Nat):aq d i = .int .u8 (B8 (byteAt d i)):=rfl
theorem Jv (d:List UInt8) (j:Nat) (h:j<16):(am d)[j]?=some (.int .u8 (B8 (byteAt d j))):=by
 have e:am d=((List.range 16).map (aq d)).toArray:=rfl;rw[e,←Jm]
 simp[h]
theorem Mf (d:List UInt8) (i:Nat) (h:i<d.length):d.take i++[byteAt d i]=d.take (i+1):=by
 rw[List.take_add_one,K_ h];unfold byteAt;rw[I_,K_ h]
 rfl
attribute [local irreducible] Calls am mac aV
theorem Mh (d:List UInt8) (hd:d.length=16) (w:World) :
  Calls prog 129 #[.agg (am d)] w fun e w'=>e = .returned (.string ⟨d.toArray⟩)∧Below w.heap.size w w':=by
 obtain⟨W0,hW0⟩:∃W0,W0=w.alloc (.cells (am d) 23):=⟨_,rfl⟩;have HBE:Hid (Below w.heap.size w W0):=O (by rw[hW0];exact(O_ _ _).alloc (A_ _) _);have HROW:Hid (W0.heap[w.heap.size]?=some (.cells (am d) 23 (0,0))):=O (by rw[hW0];exact al _ _ _ rfl);have HW:=O hW0;have HD:=O hd;clear hW0 hd
 go_enter func129,ntmps129
 go_upto_region 1 with fail
 rw[←HW.out];go_wp2
 go_loopw [4,3] (fun i o wr=>∃j:Nat,j≤16∧i = .int .i64 j∧Hid (ap eB wr W0.heap.size o (d.take j))∧Hid (Below W0.heap.size W0 wr)) (fun i _ _=>16-(intOf i).toNat)
 case atStart=>exact⟨0,N_ _,rfl,O (ap.nil _ _),O (O_ _ _)⟩
 case round =>
  obtain⟨j,hj,rfl,hown,hb⟩:=hrel
  by_cases hlt:j<16
  ·have j1:(j:Int)<16:=by omega
   have hlt0:=(Q_.1 HROW.out).1
   have cj:wr.cell? ⟨w.heap.size,j,none⟩=some (.int .u8 (B8 (byteAt d j))):=by
    rw[hb.out.cell (p:=⟨w.heap.size,j,none⟩) hlt0,e_ _ _ _ _ _ _ HROW.out];exact Jv d j hlt
   have HT:=O (Mf d j (by rw[HD.out];exact hlt));generalize byteAt d j=c at cj HT;have HJ:=O hlt;have HL:Hid ((d.take j).length≤16):=O (by rw[b_];omega);clear hlt hlt0
   go_wp2_with (at_builtin;go_loud (refine br aN rfl (.tmp 9) (.tmp 13) rfl W0.heap.size _ _ rfl (hown.out.on ((O_ _ _).alloc (A_ _) _)) (.slice (some ⟨wr.heap.size,0,none⟩) 1 1) [c] rfl (bP wr c aN) (by have := HL.out;simp;omega) (by have := hb.out.size;simp;omega) ?_);intro v5 w4 ho4 hg4 hloc;have HB4:=O (hb.out.trans (((O_ wr.heap.size wr).alloc (A_ _) (.cells #[.int .u8 (B8 c)] 5)).mono hb.out.size |>.trans ((hown.out.on ((O_ _ _).alloc (A_ _) _)).below hg4 (by have := hb.out.size;simp;omega))));have HO4:=O ho4;clear ho4 hg4 hloc)
   go_roundw
   case rel=>exact⟨j+1,HJ.out,by go_num,O (by rw[←HT.out];exact HO4.out),HB4⟩
   case measure=>have := HJ.out;simp[intOf];omega
  ·have he:j=16:=by omega
   have j1:¬(j:Int)<16:=by omega
   have HF:Hid (d.take j=d):=O (by rw[he,←HD.out,List.take_length]);have hcv:=b6 hown.out.rd;rw[HF.out] at hcv;clear he hlt hj;go_wp2;go_ret;exact⟨rfl,HBE.out.trans (hb.out.mono HBE.out.size)⟩
end
section
open Go.RowKit Go.Shelf
theorem yA {w:World} {g:Nat} {b:BK} {u:Value} {T:TypeId} (h:w.heap[g]?=some (.cells (bc b u) T (0,0))):w.rangeAt g 0 (am b.dom).toList:=by
 intro j x hx;obtain⟨h1,rfl⟩:=nK _ _ _ hx;rw[e_ _ _ _ _ _ _ h,a_];exact pW b u j h1
theorem yB {w:World} {g:Nat} {b:BK} {u:Value} {T:TypeId} (h:w.heap[g]?=some (.cells (bc b u) T (0,0))):w.rangeAt g 20 (am b.pol).toList:=by
 intro j x hx;obtain⟨h1,rfl⟩:=nK _ _ _ hx;rw[e_ _ _ _ _ _ _ h];exact mM b u j h1
attribute [local irreducible] Calls am
end
section
open Go.ChangeShapes Go.WideShapes Go.ChangeAt Go.RowKit Go.Deep
set_option maxRecDepth 10000
def siC (nx:Int) (v vi:Value) (b:BK) (u:Value) (sd:List UInt8) (need n:Int):List Value:=[.int .i64 nx,v]++([vi]++((bc b u).toList++([.string ⟨sd.toArray⟩]++([.int .i64 need]++[.int .i64 n]))))
open Go.RowKit Go.Shelf
attribute [local irreducible] Calls bF aV cd bh am
theorem Bg (b:BK) (u:Value) (w:World) (hb:b.wf) (hmo:b.mo.length≤100000) :
  Calls prog 82 #[.agg (bc b u)] w fun e w'=>e = .returned (.string ⟨(bh b).toArray⟩)∧Below w.heap.size w w':=by
 have HWF:=O hb;have HMO:=O hmo;obtain⟨W0,hW0⟩:∃W0,W0=w.alloc (.cells (bc b u) 47):=⟨_,rfl⟩
 have HROW:Hid (∀w1,Below W0.heap.size W0 w1→w1.heap[w.heap.size]?=some (.cells (bc b u) 47 (0,0))):=O (by
  intro w1 h;rw[hW0] at h;rw[h.block _ (by simp)]
  exact al _ _ _ rfl)
 have HBE:Hid (∀w1,Below W0.heap.size W0 w1→Below w.heap.size w w1):=O (by
  intro w1 h;rw[hW0] at h
  exact cJ _ _ h)
 have HSZ:Hid (w.heap.size<W0.heap.size):=O (by rw[hW0];simp);have HW:=O hW0;have hd1:=hb.dom;have hd2:=hb.pol;have hns:=yR b.ep b.num b.fw b.tm;have hel:=cW b.mo;have HP:Hid (bh b=b.dom++(cd [b.ep,b.num,b.fw,b.tm]++(b.pol++aV b.mo))):=O (by unfold bh;rfl);have HNU:=O hb.nums;obtain⟨ns,hnse⟩:∃ns,ns=cd [b.ep,b.num,b.fw,b.tm]:=⟨_,rfl⟩;rw[←hnse] at hns HP;have HNS:=O hnse;obtain⟨es,hes⟩:∃es,es=aV b.mo:=⟨_,rfl⟩;rw[←hes] at hel HP;have HES:=O hes
 have q1:¬9223372036854775807<b.dom.length+ns.length:=by omega
 have q2:¬9223372036854775807<b.dom.length+ns.length+b.pol.length:=by omega
 have q3:¬9223372036854775807<b.dom.length+ns.length+b.pol.length+es.length:=by omega
 have HD1:=O hd1;have HD2:=O hd2;clear hb hW0 hmo hd1 hd2 hnse hes hns hel
 go_enter func82,ntmps82
 go_upto_region 1 with fail
 rw[←HW.out]
 try dsimp only[Act.put]
 refine aY 24 [[],[0],[1],[],[3],[],[5],[],[7],[],[9],[4,6,8,10],[11],[12],[2,13],[],[15],[16],[14,17],[],[19],[20],[21],[18,22]]
  (SP.of [.eq (.pointer (some ⟨w.heap.size,0,none⟩)),.eq (.agg (am b.dom)),.eq (.string ⟨b.dom.toArray⟩),.eq (.pointer (some ⟨w.heap.size,16,none⟩)),.eq (.int .i64 b.ep),.eq (.pointer (some ⟨w.heap.size,17,none⟩)),.eq (.int .i64 b.num),
   .eq (.pointer (some ⟨w.heap.size,18,none⟩)),.eq (.int .i64 b.fw),.eq (.pointer (some ⟨w.heap.size,19,none⟩)),.eq (.int .i64 b.tm),.freshS W0.heap.size 4 #[.int .i64 b.ep,.int .i64 b.num,.int .i64 b.fw,.int .i64 b.tm] 3,.ownR W0.heap.size ns,.eq (.string ⟨ns.toArray⟩),.eq (.string ⟨(b.dom++ns).toArray⟩),
   .eq (.pointer (some ⟨w.heap.size,20,none⟩)),.eq (.agg (am b.pol)),.eq (.string ⟨b.pol.toArray⟩),.eq (.string ⟨(b.dom++(ns++b.pol)).toArray⟩),.eq (.pointer (some ⟨w.heap.size,36,none⟩)),.eq (.string ⟨b.mo.toArray⟩),.ownR W0.heap.size es,.eq (.string ⟨es.toArray⟩),.eq (.string ⟨(b.dom++(ns++(b.pol++es))).toArray⟩)]) (fun _=>undef) ?h1 ?h2 ?h3 ?h4 ?h5 ?h6
 case h1=>kernel_rfl
 case h2=>kernel_rfl
 case h3=>kernel_rfl
 case h4 =>
  simp only[F_,c_]
  repeat (first |exact trivial|refine⟨fun vals v=>by kernel_rfl,?_⟩)
 case h5 =>
  simp only[F_,c_];refine⟨?_,?_,?_,?_,?_,?_,?_,?_,?_,?_,?_,?_,?_,?_,?_,?_,?_,?_,?_,?_,?_,?_,?_,?_,trivial⟩
  all_goals (intro wq hbq vals;simp only[Nat.reduceAdd,a_,X_,W_];have HBQ:=O hbq;have HR:=O (HROW.out wq hbq);clear hbq;repeat (first |refine ar ?_|refine aw rfl ?_))
  case refine_13 =>
   refine aG rfl ?_;rintro _ ⟨g,rfl,hg1,hg2⟩;refine ar ?_;intro Q hQ;simp only[ay,upd,Act.put,B_,C_,D_,Nat.reduceAdd,a_,Nat.reduceEqDiff,if_true,if_false,reduceIte];have HG2:=O hg2;clear hg1 hg2
   go_wp2_with (go_at_call 130;refine(EU _ [b.ep,b.num,b.fw,b.tm] wq (lq HG2.out [b.ep,b.num,b.fw,b.tm] rfl (by simp)) HNU.out (by have := yR b.ep b.num b.fw b.tm;omega) (by simp)).mono ?_;rintro e x1 ⟨v1,rfl,ho1,hx1⟩;rw[←HNS.out] at ho1;have HO1:=O ho1;have HX1:=O hx1;clear ho1 hx1)
   exact ab hQ _ (by kernel_rfl) HX1.out (HO1.out.mono HBQ.out.size)
  case refine_14 =>
   refine aG rfl ?_;intro v1 ho1;refine ar ?_;intro Q hQ;simp only[ay,upd,Act.put,B_,C_,D_,Nat.reduceAdd,a_,Nat.reduceEqDiff,if_true,if_false,reduceIte];have hcv:=b6 (show ap eB wq W0.heap.size v1 ns from ho1).rd;clear ho1;go_wp2;exact ab hQ _ (by kernel_rfl) (O_ _ _) rfl
  case refine_23 =>
   refine aG rfl ?_;intro v1 ho1;refine ar ?_;intro Q hQ;simp only[ay,upd,Act.put,B_,C_,D_,Nat.reduceAdd,a_,Nat.reduceEqDiff,if_true,if_false,reduceIte];have hcv:=b6 (show ap eB wq W0.heap.size v1 es from ho1).rd;clear ho1;go_wp2;exact ab hQ _ (by kernel_rfl) (O_ _ _) rfl
  all_goals (intro Q hQ;simp only[ay,upd,Act.put,B_,C_,D_,Nat.reduceAdd,a_,Nat.reduceEqDiff,if_true,if_false,reduceIte])
  case refine_2 =>
   go_wp2_with (refine db b.dom w.heap.size 0 (.tmp 3) ?_ (yA HR.out) ?_ ?_ ?_;exact rfl;exact rfl;exact rfl)
   exact ab hQ _ (by kernel_rfl) (O_ _ _) rfl
  case refine_17 =>
   go_wp2_with (refine db b.pol w.heap.size 20 (.tmp 18) ?_ (yB HR.out) ?_ ?_ ?_;exact rfl;exact rfl;exact rfl)
   exact ab hQ _ (by kernel_rfl) (O_ _ _) rfl
  case refine_3 =>
   go_wp2_with (go_at_call 129;refine(Mh b.dom HD1.out wq).mono ?_;rintro e x1 ⟨rfl,hx1⟩)
   exact ab hQ _ (by kernel_rfl) hx1 rfl
  case refine_18 =>
   go_wp2_with (go_at_call 129;refine(Mh b.pol HD2.out wq).mono ?_;rintro e x1 ⟨rfl,hx1⟩)
   exact ab hQ _ (by kernel_rfl) hx1 rfl
  case refine_12 =>
   go_wp2;exact ab hQ _ (by kernel_rfl) ((O_ _ _).alloc (A_ _) _) ⟨wq.heap.size,rfl,HBQ.out.size,al _ _ _ rfl⟩
  case refine_22 =>
   go_wp2_with (go_at_call 84;refine(lH b.mo wq (by have := HMO.out;omega)).mono ?_;rintro e x1 ⟨v1,rfl,ho1,hx1⟩;rw[←HES.out] at ho1;have HO1:=O ho1;have HX1:=O hx1;clear ho1 hx1)
   exact ab hQ _ (by kernel_rfl) HX1.out (HO1.out.mono HBQ.out.size)
  case refine_5 =>
   have c:wq.cell? ⟨w.heap.size,16,none⟩=some (.int .i64 b.ep):=(e_ _ _ _ _ _ _ HR.out).trans (uj b u);go_wp2;exact ab hQ _ (by kernel_rfl) (O_ _ _) rfl
  case refine_7 =>
   have c:wq.cell? ⟨w.heap.size,17,none⟩=some (.int .i64 b.num):=(e_ _ _ _ _ _ _ HR.out).trans (sy b u);go_wp2;exact ab hQ _ (by kernel_rfl) (O_ _ _) rfl
  case refine_9 =>
   have c:wq.cell? ⟨w.heap.size,18,none⟩=some (.int .i64 b.fw):=(e_ _ _ _ _ _ _ HR.out).trans (ul b u);go_wp2;exact ab hQ _ (by kernel_rfl) (O_ _ _) rfl
  case refine_11 =>
   have c:wq.cell? ⟨w.heap.size,19,none⟩=some (.int .i64 b.tm):=(e_ _ _ _ _ _ _ HR.out).trans (um b u);go_wp2;exact ab hQ _ (by kernel_rfl) (O_ _ _) rfl
  case refine_21 =>
   have c:wq.cell? ⟨w.heap.size,36,none⟩=some (.string ⟨b.mo.toArray⟩):=(e_ _ _ _ _ _ _ HR.out).trans (uo b u);go_wp2;exact ab hQ _ (by kernel_rfl) (O_ _ _) rfl
  all_goals go_wp2
  all_goals exact ab hQ _ (by kernel_rfl) (O_ _ _) rfl
 case h6 =>
  intro wq hbq vals;rw[show List.range 24=[0,1,2,3,4,5,6,7,8,9,10,11,12,13,14,15,16,17,18,19,20,21,22,23] from by decide]
  repeat (first |refine ar ?_|refine aw rfl ?_|(refine aG rfl ?_;intro _ _))
  simp only[F_,c_,J_,L_];simp only[ay,upd,Act.put,B_,C_,D_,Nat.reduceAdd,a_,Nat.reduceEqDiff,if_true,if_false,reduceIte];have HBQ:=O hbq;clear hbq;go_wp2;go_ret;exact⟨by rw[HP.out];rfl,HBE.out _ HBQ.out⟩
end
section
open Go.RowKit Go.Shelf
theorem wG (l:List K) (j:Nat) (h:j<l.length):(l.take j).map bG++[bG (ae l j)]=(l.take (j+1)).map bG:=by
 rw[mj l j h,List.map_append]
 rfl
attribute [local irreducible] Calls bF aV cd eN bG b9
theorem Gl (b:BK) (v:Value) (l:List K) (w:World) (hv:RdK w v l) (hok:∀i,i<l.length→(ae l i).ok) (hn:l.length≤5000) (hl:(b9 l).length≤900000) :
  Calls prog 83 #[.agg (bc b v)] w fun e w'=>e = .returned (.string ⟨(b9 l).toArray⟩)∧Below w.heap.size w w':=by
 obtain⟨W0,hW0⟩:∃W0,W0=w.alloc (.cells (bc b v) 47):=⟨_,rfl⟩;have HV:Hid (RdK W0 v l):=O (by rw[hW0];exact hv.alloc _)
 have HBX:Hid (∀w1,Below W0.heap.size W0 w1→w1.cell? ⟨w.heap.size,37,none⟩=some v):=O (by
  intro w1 h;rw[hW0] at h
  exact(gi _ _ _ h 37).trans (iU b v))
 have HBE:Hid (∀w1,Below W0.heap.size W0 w1→Below w.heap.size w w1):=O (by
  intro w1 h;rw[hW0] at h
  exact cJ _ _ h)
 have HW:=O hW0;have HOK:=O hok;have HL:=O hl
 have hni:(l.length:Int)≤5000:=by omega
 have HN:=O hn;obtain⟨a,cap,rfl,_,_,_⟩:=hv;clear hok hl hn hW0
 go_enter func83,ntmps83
 go_upto_region 1 with fail
 rw[←HW.out];go_wp2
 go_loopw [4,3] (fun i o wr=>∃j:Nat,j≤l.length∧i = .int .i64 j∧Hid (ap eS wr W0.heap.size o ((l.take j).map bG))∧Hid (Below W0.heap.size W0 wr)) (fun i _ _=>l.length-(intOf i).toNat)
 case atStart=>exact⟨0,N_ _,rfl,O (ap.nil _ _),O (O_ _ _)⟩
 case round =>
  obtain⟨j,hj,rfl,hown,hb⟩:=hrel;have t1:=HBX.out wr hb.out
  by_cases hlt:j<l.length
  ·obtain⟨bb,off,rfl,hbl,aO⟩:=((HV.out.on hb.out).cells) (by omega)
   obtain⟨d0,d1,d2,d3,d4,d5,d6,d7,d8⟩:=aO j hlt
   have j1:(j:Int)<l.length:=by omega
   have HJ:=O hlt;have HKO:=O (HOK.out j hlt);have HNX:=O (wG l j hlt);have HML:Hid (((l.take j).map bG).length≤5000):=O (by rw[List.length_map,b_];have := HN.out;omega);generalize ae l j=k at d0 d1 d2 d3 d4 d5 d6 d7 d8 HKO HNX;clear aO hlt hj
   go_upto_if 20 with fail
   go_cut [6,18,20] from 21 to 21 (fun r _ _ wc=>r = .int .i64 (oG k.raw)∧wc=wr.alloc (.cells (kc k) 86))
   case first =>
    cases hr:k.raw with
    | true =>
      have HR:=O hr;clear hr;go_wp2
      all_goals go_meet
      case rel=>exact⟨by rw[HR.out];rfl,by unfold kc;rw[HR.out]⟩
    | false =>
      have HR:=O hr;clear hr;go_wp2
      all_goals go_meet
      case rel=>exact⟨by rw[HR.out];rfl,by unfold kc;rw[HR.out]⟩
   case rest =>
    obtain⟨rfl,hwc⟩:=hcut;have HB1:Hid (Below W0.heap.size W0 wc):=O (by rw[hwc];exact hb.out.alloc (hb.out.size) _);have HK1:Hid (wc.heap[wr.heap.size]?=some (.cells (kc k) 86 (0,0))):=O (by rw[hwc];exact al _ _ _ rfl);have HO1:Hid (ap eS wc W0.heap.size u3 ((l.take j).map bG)):=O (by rw[hwc];exact hown.out.on ((O_ _ _).alloc (A_ _) _));have HRZ:Hid (wr.heap.size<wc.heap.size):=O (by rw[hwc];simp);clear hwc d0 d1 d2 d3 d4 d5 d6 d7 d8 hown t1;have hns:=uO k;have hek:=lK k;have HEK:Hid (eN [cd (bO k),k.val]=bG k):=O (by unfold bG;rfl);obtain⟨ns,hnse⟩:∃ns,ns=cd (bO k):=⟨_,rfl⟩;rw[←hnse] at hns HEK;have HNS:=O hnse;obtain⟨es,hes⟩:∃es,es=bG k:=⟨_,rfl⟩;rw[←hes] at hek HEK HNX;have HEL:=O hek;clear hnse hes hek hns
    go_upto_region 9 with fail
    try dsimp only[Act.put]
    refine aY 25 [[],[],[1],[],[3],[],[5],[],[7],[],[9],[],[11],[],[13],[],[2,4,6,8,10,12,14,15],[16],[17],[],[19],[18,20],[21],[22],[23]]
     (SP.of [.eq u3,.eq (.pointer (some ⟨wr.heap.size,0,none⟩)),.eq (.int .i64 k.id),.eq (.pointer (some ⟨wr.heap.size,1,none⟩)),.eq (.int .i64 k.ty),.eq (.pointer (some ⟨wr.heap.size,3,none⟩)),.eq (.int .i64 k.uses),.eq (.pointer (some ⟨wr.heap.size,4,none⟩)),.eq (.int .i64 k.start),
      .eq (.pointer (some ⟨wr.heap.size,5,none⟩)),.eq (.int .i64 k.fin),.eq (.pointer (some ⟨wr.heap.size,6,none⟩)),.eq (.int .i64 k.ver),.eq (.pointer (some ⟨wr.heap.size,7,none⟩)),.eq (.int .i64 k.par),.eq (.int .i64 (oG k.raw)),
      .freshS wc.heap.size 8 #[.int .i64 k.id,.int .i64 k.ty,.int .i64 k.uses,.int .i64 k.start,.int .i64 k.fin,.int .i64 k.ver,.int .i64 k.par,.int .i64 (oG k.raw)] 3,.ownR wc.heap.size ns,.eq (.string ⟨ns.toArray⟩),
      .eq (.pointer (some ⟨wr.heap.size,2,none⟩)),.eq (.string ⟨k.val.toArray⟩),.freshS wc.heap.size 2 #[.string ⟨ns.toArray⟩,.string ⟨k.val.toArray⟩] 9,.ownR wc.heap.size es,.eq (.string ⟨es.toArray⟩),.freshS wc.heap.size 1 #[.string ⟨es.toArray⟩] 9]) (fun i=>([u21,u22,u23,u24,u25,u26,u27,u28,u29,u30,u31,u32,u33,u34,u35,u36,u37,u38,u39,u40,u41,u42,u43,u44,u45]:List Value).getD i undef) ?h1 ?h2 ?h3 ?h4 ?h5 ?h6
    case h1=>kernel_rfl
    case h2=>kernel_rfl
    case h3=>kernel_rfl
    case h4 =>
     simp only[F_,c_]
     repeat (first |exact trivial|refine⟨fun vals v=>by kernel_rfl,?_⟩)
    case h5 =>
     simp only[F_,c_];refine⟨?_,?_,?_,?_,?_,?_,?_,?_,?_,?_,?_,?_,?_,?_,?_,?_,?_,?_,?_,?_,?_,?_,?_,?_,?_,trivial⟩
     all_goals (intro wq hbq vals;simp only[Nat.reduceAdd,a_,X_,W_];have HBQ:=O hbq;have HR:Hid (wq.heap[wr.heap.size]?=some (.cells (kc k) 86 (0,0))):=O (by rw[hbq.block _ HRZ.out];exact HK1.out);clear hbq;repeat (first |refine ar ?_|refine aw rfl ?_))
     case refine_18 =>
      refine aG rfl ?_;rintro _ ⟨g,rfl,hg1,hg2⟩;refine ar ?_;intro Q hQ;simp only[ay,upd,Act.put,B_,C_,D_,Nat.reduceAdd,a_,Nat.reduceEqDiff,if_true,if_false,reduceIte];have HG2:=O hg2;clear hg1 hg2
      go_wp2_with (go_at_call 130;refine(EU _ (bO k) wq (lq HG2.out (bO k) rfl (by unfold bO;simp)) HKO.out.nums (by have := uO k;omega) (by unfold bO;simp)).mono ?_;rintro e x1 ⟨v1,rfl,ho1,hx1⟩;rw[←HNS.out] at ho1;have HO1':=O ho1;have HX1:=O hx1;clear ho1 hx1)
      exact ab hQ _ (by kernel_rfl) HX1.out (HO1'.out.mono HBQ.out.size)
     case refine_19 =>
      refine aG rfl ?_;intro v1 ho1;refine ar ?_;intro Q hQ;simp only[ay,upd,Act.put,B_,C_,D_,Nat.reduceAdd,a_,Nat.reduceEqDiff,if_true,if_false,reduceIte];have hcv:=b6 (show ap eB wq wc.heap.size v1 ns from ho1).rd;clear ho1;go_wp2;exact ab hQ _ (by kernel_rfl) (O_ _ _) rfl
     case refine_23 =>
      refine aG rfl ?_;rintro _ ⟨g,rfl,hg1,hg2⟩;refine ar ?_;intro Q hQ;simp only[ay,upd,Act.put,B_,C_,D_,Nat.reduceAdd,a_,Nat.reduceEqDiff,if_true,if_false,reduceIte];have HG2:=O hg2;clear hg1 hg2
      go_wp2_with (go_at_call 131;refine(vX _ [ns,k.val] wq (lq HG2.out [ns,k.val] rfl (by simp)) (by rw[HEK.out];have := HEL.out;have := HKO.out.val;omega) (by simp)).mono ?_;rintro e x1 ⟨v1,rfl,ho1,hx1⟩;rw[HEK.out] at ho1;have HO1':=O ho1;have HX1:=O hx1;clear ho1 hx1)
      exact ab hQ _ (by kernel_rfl) HX1.out (HO1'.out.mono HBQ.out.size)
     case refine_24 =>
      refine aG rfl ?_;intro v1 ho1;refine ar ?_;intro Q hQ;simp only[ay,upd,Act.put,B_,C_,D_,Nat.reduceAdd,a_,Nat.reduceEqDiff,if_true,if_false,reduceIte];have hcv:=b6 (show ap eB wq wc.heap.size v1 es from ho1).rd;clear ho1;go_wp2;exact ab hQ _ (by kernel_rfl) (O_ _ _) rfl
     all_goals (intro Q hQ;simp only[ay,upd,Act.put,B_,C_,D_,Nat.reduceAdd,a_,Nat.reduceEqDiff,if_true,if_false,reduceIte])
     case refine_17 =>
      go_wp2;exact ab hQ _ (by kernel_rfl) ((O_ _ _).alloc (A_ _) _) ⟨wq.heap.size,rfl,HBQ.out.size,al _ _ _ rfl⟩
     case refine_22 =>
      go_wp2;exact ab hQ _ (by kernel_rfl) ((O_ _ _).alloc (A_ _) _) ⟨wq.heap.size,rfl,HBQ.out.size,al _ _ _ rfl⟩
     case refine_25 =>
      go_wp2;exact ab hQ _ (by kernel_rfl) ((O_ _ _).alloc (A_ _) _) ⟨wq.heap.size,rfl,HBQ.out.size,al _ _ _ rfl⟩
     case refine_3 =>
      have c:wq.cell? ⟨wr.heap.size,0,none⟩=some (.int .i64 k.id):=(e_ _ _ _ _ _ _ HR.out).trans rfl;go_wp2;exact ab hQ _ (by kernel_rfl) (O_ _ _) rfl
     case refine_5 =>
      have c:wq.cell? ⟨wr.heap.size,1,none⟩=some (.int .i64 k.ty):=(e_ _ _ _ _ _ _ HR.out).trans rfl;go_wp2;exact ab hQ _ (by kernel_rfl) (O_ _ _) rfl
     case refine_7 =>
      have c:wq.cell? ⟨wr.heap.size,3,none⟩=some (.int .i64 k.uses):=(e_ _ _ _ _ _ _ HR.out).trans rfl;go_wp2;exact ab hQ _ (by kernel_rfl) (O_ _ _) rfl
     case refine_9 =>
      have c:wq.cell? ⟨wr.heap.size,4,none⟩=some (.int .i64 k.start):=(e_ _ _ _ _ _ _ HR.out).trans rfl;go_wp2;exact ab hQ _ (by kernel_rfl) (O_ _ _) rfl
     case refine_11 =>
      have c:wq.cell? ⟨wr.heap.size,5,none⟩=some (.int .i64 k.fin):=(e_ _ _ _ _ _ _ HR.out).trans rfl;go_wp2;exact ab hQ _ (by kernel_rfl) (O_ _ _) rfl
     case refine_13 =>
      have c:wq.cell? ⟨wr.heap.size,6,none⟩=some (.int .i64 k.ver):=(e_ _ _ _ _ _ _ HR.out).trans rfl;go_wp2;exact ab hQ _ (by kernel_rfl) (O_ _ _) rfl
     case refine_15 =>
      have c:wq.cell? ⟨wr.heap.size,7,none⟩=some (.int .i64 k.par):=(e_ _ _ _ _ _ _ HR.out).trans rfl;go_wp2;exact ab hQ _ (by kernel_rfl) (O_ _ _) rfl
     case refine_21 =>
      have c:wq.cell? ⟨wr.heap.size,2,none⟩=some (.string ⟨k.val.toArray⟩):=(e_ _ _ _ _ _ _ HR.out).trans rfl;go_wp2;exact ab hQ _ (by kernel_rfl) (O_ _ _) rfl
     all_goals go_wp2
     all_goals exact ab hQ _ (by kernel_rfl) (O_ _ _) rfl
    case h6 =>
     intro wq hbq vals;rw[show List.range 25=[0,1,2,3,4,5,6,7,8,9,10,11,12,13,14,15,16,17,18,19,20,21,22,23,24] from by decide]
     iterate 24 (first |refine aw rfl ?_|(refine aG rfl ?_;intro _ _))
     refine aG rfl ?_;rintro _ ⟨g,rfl,hg1,hg2⟩;refine ar ?_;simp only[F_,c_,J_,L_];simp only[ay,upd,Act.put,B_,C_,D_,Nat.reduceAdd,a_,Nat.reduceEqDiff,if_true,if_false,reduceIte];have HBQ:=O hbq;have HG2:=O hg2;have HBW:Hid (Below W0.heap.size W0 wq):=O (HB1.out.trans (hbq.mono HB1.out.size));clear hbq hg1 hg2
     go_wp2_with (at_builtin;go_loud ((refine br AO rfl (.tmp 21) (.tmp 45) rfl W0.heap.size _ _ rfl (HO1.out.on HBQ.out) (.slice (some ⟨g,0,none⟩) 1 1) [es] rfl (lq HG2.out [es] rfl (by simp)) (by have := HML.out;simp only[Z_,List.length_nil];omega) HBW.out.size ?_;intro v3 w3 ho3 hg3 _;have HO3:=O ho3;have HB3:Hid (Below W0.heap.size W0 w3):=(O (HBW.out.grown hg3 HBW.out.size (fun k hk2=>(HO1.out.lt k hk2).1)));clear ho3 hg3)))
     go_roundw
     case rel=>exact⟨j+1,HJ.out,by go_num,O (by rw[←HNX.out];exact HO3.out),HB3⟩
     case measure=>have := HJ.out;simp[intOf];omega
  ·have he:j=l.length:=by omega
   have j1:¬(j:Int)<l.length:=by omega
   have HRD:Hid (ap eS wr W0.heap.size u3 (l.map bG)):=O (by have h:=hown.out;rw[he,List.take_length] at h;exact h);have HC:Hid (eN (l.map bG)=b9 l):=O (by unfold b9;rfl);clear he hlt hj hown
   go_wp2_with (go_at_call 131;refine(vX _ (l.map bG) _ HRD.out.rd (by rw[HC.out];exact HL.out) (by rw[List.length_map];have := HN.out;omega)).mono ?_;rintro e w3 ⟨v3,rfl,ho3,hb3⟩;have HB3:=O (hb.out.trans (hb3.mono hb.out.size));have hcv3:=b6 ho3.rd;rw[HC.out] at hcv3;clear ho3 hb3)
   go_ret;exact⟨rfl,HBE.out _ HB3.out⟩
end
section
open Go.RowKit
attribute [local irreducible] C3.rounds C3.state C3.blockTo
theorem Gg (x y:UInt32):C3.bytes (x+y)=[x.toUInt8+y.toUInt8,(shr (x+y) 8).toUInt8,(shr (x+y) 16).toUInt8,(shr (x+y) 24).toUInt8]:=by
 rw[←UInt32.toUInt8_add];rfl
theorem cR.drew {w:World} {ai:Nat} {v:Value} {l:List UInt8} (n:Nat) (h:cR w ai v l):cR (w.drewN n) ai v l:=h.below (ak n (O_ _ _))
theorem CE (key nonce:List UInt8) (ctr:UInt32) (hk:key.length=32) (hn:nonce.length=12) (w:World) :
  Calls prog 171 #[.string ⟨key.toArray⟩,.int .u32 (W32 ctr),.string ⟨nonce.toArray⟩] w fun e w'=>e = .returned (.tuple #[.string ⟨(C3.block key ctr nonce).toArray⟩,.int .i64 0])∧Below w.heap.size w w':=by
 have hs:=C3.length_state key ctr nonce
 have hr:(C3.rounds (C3.state key ctr nonce) 10).length=16:=by rw[C3.length_rounds,hs]
 rw[wS]
 go_enter func171,ntmps171
 go_wp2_with (first
  |(go_at_call 170;refine(ym key nonce ctr hk hn _).mono ?_;rintro e w1 ⟨rfl,hb1⟩)
  |(refine gN rfl (.tmp 8) (.tmp 19) rfl _ _ rfl rfl 226 _ (heap_alloc_new _ _) rfl hs ?_)
  |(refine ng rfl (.tmp 8) rfl _ rfl _ 226 (heap_alloc_new _ _) hs ?_)
  |(go_at_call 185;refine(DA _ hs _).mono ?_;rintro e w3 ⟨rfl,hb3⟩)
  |(refine gN rfl (.tmp 10) (.tmp 25) rfl _ _ rfl rfl 226 _ (heap_alloc_new _ _) rfl hr ?_))
 simp only[World.size_alloc] at hb3
 have hz3:w1.heap.size+1≤w3.heap.size:=by have := hb3.size;simpa using this
 have hS:w3.heap[w1.heap.size]?=some (.cells (row (C3.state key ctr nonce)) 226 (0,0)):=by rw[hb3.block _ (by omega)];exact heap_alloc_new _ _
 have hbw:Below w.heap.size w (w3.alloc (.cells (row (C3.rounds (C3.state key ctr nonce) 10)) 226)) :=
  ((hb1.alloc hb1.size _).trans (hb3.mono (by have := hb1.size;omega))).alloc (by have := hb1.size;omega) _
 have hsz1:w.heap.size≤w3.heap.size+1:=by have := hb1.size;omega
 have hlt13:w1.heap.size<w3.heap.size:=by omega
 clear hb3 hb1 hz3;generalize hRq:C3.rounds (C3.state key ctr nonce) 10=R at hr hbw ⊢;generalize hSq:C3.state key ctr nonce=S at hs hS hbw hRq ⊢;have HR:=O hRq;have HS:=O hSq;clear hRq hSq
 go_loopw [12,11] (fun i v wr=>∃k:Nat,k≤16∧i = .int .i64 k∧cR wr (w3.heap.size+1) v (C3.blockTo S R k)∧Below (w3.heap.size+1) (w3.alloc (.cells (row R) 226)) wr) (fun i _ _=>16-(intOf i).toNat)
 case atStart=>exact⟨0,by omega,rfl,by rw[qb];exact cR.nil _ _,O_ _ _⟩
 case round =>
  obtain⟨k,hk16,rfl,ho,hb⟩:=hrel
  by_cases hlt:k<16
  ·have hz:w3.heap.size+1≤wr.heap.size:=by have := hb.size;simpa using this
   have hcS:wr.cell? ⟨w1.heap.size,k,none⟩=some (.int .u32 (W32 (w16 S k))):=by
    rw[hb.cell (p:=⟨w1.heap.size,k,none⟩) (by show w1.heap.size<_;omega),e_ _ _ _ _ _ _ (by rw[bx _ _ _ hlt13];exact hS),l6 _ _ (by rw[hs];omega)]
   have hcR:wr.cell? ⟨w3.heap.size,k,none⟩=some (.int .u32 (W32 (w16 R k))):=by
    rw[hb.cell (p:=⟨w3.heap.size,k,none⟩) (by show w3.heap.size<_;omega),e_ _ _ _ _ _ _ (heap_alloc_new _ _),l6 _ _ (by rw[hr];omega)]
   have hl4:=C3.length_blockTo S R k
   have hki:(k:Int)<16:=by omega
   have HL:=O hl4;have HK:=O hlt;clear hl4;go_wp2
   first |refine fG (by kernel_rfl) (by kernel_rfl) ?_|refine fR (by kernel_rfl) (by kernel_rfl) ?_
   repeat (go_big_quiet_step (fail))
   refine h_ ?_;rintro _ ⟨nq,rfl⟩;have ho2:=ho.drew nq
   go_wp2_with (at_builtin;refine D7 rfl (.tmp 37) (.tmp 49) rfl (w3.heap.size+1) _ _ rfl (World.ownsRow.alloc ho2 _) ⟨wr.heap.size,0,none⟩ 4 4 (C3.bytes (w16 S k+w16 R k)) rfl rfl ?h1 ?h2 ?h3 ?h4)
   case h1 =>
    intro j u hj;rw[Gg] at hj;exact mR _ _ _ _ _ hj
   case h2=>rw[HL.out];have := HK.out;omega
   case h3=>simp;omega
   case h4 =>
    intro v' w' ho' hb';go_wp2;go_roundw
    case rel=>exact⟨k+1,HK.out,by go_num,by rw[p9,UInt32.add_comm];exact ho',(ak nq hb).alloc hz _ |>.trans hb'⟩
    case measure=>have := HK.out;simp[intOf];omega
  ·have he:k=16:=by omega
   have HE:=O he;clear he;have hcv:=qg ho;go_wp2
   go_ret2
   exact⟨by rw[HS.out,HR.out,HE.out];rfl,hbw.trans (hb.mono hsz1)⟩
end
section
open Go.RowKit
attribute [local irreducible] C3.rounds C3.state C3.block
theorem pI {ops:Array Oper} {o:Oper} {a:Act} {w:World} {K:Act→World→Prop} {Q:Exit→Act→World→Prop} {E:Prop} (hgd:o.guard=none) (s x:Operand)
  (ho:o.op = .call { callee := .builtin .append,args := #[s,x],argTypes := #[80,80] })
  (ai:Nat) (v:Value) (l:List UInt8) (hs:a.eval s=v) (hown:cR w ai v l) (ad:Addr) (m c:Nat) (news:List UInt8) (hx:a.eval x = .slice (some ad) m c) (hl:news.length=m) (hm:0<m)
  (hnews:∀j u,(bv news)[j]?=some u→w.cell? (ad.add j)=some u) (hsz:l.length+m≤1000000000) (hbase:ai≤w.heap.size)
  (h:∀v' w',cR w' ai v' (l++news)→Below ai w w'→K (a.put o.dst v') w') :
  if Region.wanted o (yielded ops a.tmps)=true then Oper.wp prog o a w K Q else E:=by
 obtain⟨i0,hi,hz0,hz1,hz2⟩:=info_parts sH
 refine step_append_lies w hgd s x 80 ho ai 5 i0 (.int .u8 0) 1 1 underlying80 hi hz0 hz1 hz2 rfl (by decide) v l.length (bv l) hs hown ad m c (bv news) hx (by simp[bv,hl]) hnews (uv news) hm
  (by unfold maxLen;omega) (by omega) hbase w.heap.size rfl ?_
 intro g cap w' h1 h2 _ _;refine h _ w' ?_ ((O_ ai w).grown h2 hbase (fun k hk=>(hown.lt k hk).1));unfold cR;rw[E_,hl]
 have : bv (l++news)=bv l++bv news:=by simp[bv]
 rw[this];exact h1
theorem BF {w:World} {ai:Nat} {v:Value} {l:List UInt8} (h:cR w ai v l) (X:Obj):cR (w.alloc X).drew ai v l :=
 cR.drew 1 (World.ownsRow.alloc h X)
theorem wP {w:World} {B:Nat} (h:B≤w.heap.size) (X:Obj):B≤(w.alloc X).drew.heap.size:=by
 show B≤(w.alloc X).heap.size
 simp;omega
theorem xO (w:World) (T:TypeId) {z x:UInt8} (h:z=x):∀j u,(bv [z])[j]?=some u→((w.alloc (.cells #[.int .u8 (B8 x)] T)).drew).cell? ((⟨w.heap.size,0,none⟩:Addr).add j)=some u:=by
 intro j u hj;subst h;exact mR _ _ _ _ _ hj
theorem BN (key:List UInt8) (ctr:UInt32) (nonce text:List UInt8) (k:Nat) (h:k≤100064):(C3.pre key ctr nonce text k).length+1≤1000000000:=by
 rw[C3.length_pre];omega
def WH:Value→Nat
 | .string s=>s.size
 | _=>0
theorem xh (l:List UInt8) (n:Nat):(l.drop n).take (l.length-n)=l.drop n:=Y_ (by rw[S_];exact A_ _)
theorem ML (key:List UInt8) (ctr:UInt32) (nonce text:List UInt8) (k j:Nat) (hm:k % 64=0) (hj:j<64) :
  C3.xorAt key ctr nonce text (k+j)=byteAt (text.drop k) j ^^^ byteAt (C3.block key (ctr+UInt32.ofNat (k / 64)) nonce) j:=by
 rw[C3.xorAt_def]
 have e1:(k+j) / 64=k / 64:=by omega
 have e2:(k+j) % 64=j:=by omega
 rw[e1,e2]
 have : C3.byteAt (text.drop k) j=C3.byteAt text (k+j):=by unfold C3.byteAt;simp[I_,List.getElem?_drop]
 show _=C3.byteAt (text.drop k) j ^^^ _
 rw[this]
 rfl
theorem MM (key nonce text:List UInt8) (ctr:UInt32) (hk:key.length=32) (hn:nonce.length=12) (htl:text.length≤100000) (w:World) :
  Calls prog 127 #[.string ⟨key.toArray⟩,.int .u32 (W32 ctr),.string ⟨nonce.toArray⟩,.string ⟨text.toArray⟩] w fun e w'=>e = .returned (.tuple #[.string ⟨(C3.xorText key ctr nonce text).toArray⟩,.int .i64 0])∧Below w.heap.size w w':=by
 have hs:=C3.length_state key ctr nonce
 go_enter func127,ntmps127
 go_wp2_with (first
  |(go_at_call 170;refine(ym key nonce ctr hk hn _).mono ?_;rintro e w1 ⟨rfl,hb1⟩)
  |(refine gN rfl (.tmp 10) (.tmp 22) rfl _ _ rfl rfl 226 _ (heap_alloc_new _ _) rfl hs ?_))
 have hbw:Below w.heap.size w (w1.alloc (.cells (row (C3.state key ctr nonce)) 226)):=hb1.alloc hb1.size _
 have hsz1:w.heap.size≤w1.heap.size+1:=by have := hb1.size;omega
 clear hb1;generalize hSq:C3.state key ctr nonce=S at hs hbw ⊢;clear hSq
 go_loopw [3,1,12] (fun t c v wr=>∃(k:Nat) (r:List UInt8),k≤text.length∧(k % 64=0∨k=text.length)∧r=text.drop k∧t = .string ⟨r.toArray⟩∧c = .int .u32 (W32 (ctr+UInt32.ofNat ((k+63) / 64)))∧cR wr (w1.heap.size+1) v (C3.pre key ctr nonce text k)∧Below (w1.heap.size+1) (w1.alloc (.cells (row S) 226)) wr) (fun t _ _ _=>WH t)
 case atStart=>exact⟨0,text,by omega,.inl rfl,rfl,rfl,by rw[show ctr+UInt32.ofNat ((0+63) / 64)=ctr by simp],cR.nil _ _,O_ _ _⟩
 case round =>
  obtain⟨k,r,hkl,hkm,hr,rfl,rfl,ho,hb⟩:=hrel
  have hrl:r.length=text.length-k:=by rw[hr,S_]
  by_cases hlt:k<text.length
  ·have hm:k % 64=0:=by omega
   have hz:w1.heap.size+1≤wr.heap.size:=by have := hb.size;simpa using this
   have e1:(k+63) / 64=k / 64:=by omega
   have hr0:(0:Int)<r.length:=by omega
   have hxh:=fun j hj=>ML key ctr nonce text k j hm hj;rw[←hr] at hxh;rw[e1];have hB:=C3.length_block key (ctr+UInt32.ofNat (k / 64)) nonce;have hcall:=CE key nonce (ctr+UInt32.ofNat (k / 64)) hk hn;generalize hBq:C3.block key (ctr+UInt32.ofNat (k / 64)) nonce=blk at hB hcall hxh;have HC:=O hcall;have HX:=O hxh;have HR:=O hr;have HM:=O hm;have HL:=O hlt;have HRL:=O hrl;clear hBq hcall hxh hr hm hlt e1 hkm hrl
   by_cases h64:64≤r.length
   ·have hd:min (64:Int) (r.length:Int)=64:=by omega
    have h64r:64≤r.length:=by omega
    have h64i:(64:Int)≤r.length:=by omega
    have hM64:64≤64:=by omega
    have hM0:1≤64:=by omega
    have HM64:=O hM64;have HMR:=O h64r;have HM0:=O hM0;clear h64r hM64 hM0
    go_wp2_with (go_at_call 171;refine(HC.out _).mono ?_;rintro e w4 ⟨rfl,hb4⟩)
    have hz4:w1.heap.size+1≤w4.heap.size:=by have := hb4.size;omega
    have ho4:=ho.below hb4;have hb5:=hb.trans (hb4.mono hz);clear ho hb hb4 hz hz4
    go_loopw [16,12] (fun j v w5=>∃q:Nat,q≤64∧j = .int .i64 q∧cR w5 (w1.heap.size+1) v (C3.pre key ctr nonce text (k+q))∧Below (w1.heap.size+1) (w1.alloc (.cells (row S) 226)) w5) (fun j _ _=>64-(intOf j).toNat)
    case atStart=>exact⟨0,by omega,rfl,ho4,hb5⟩
    case round =>
     clear ho4 hb5;obtain⟨q,hqM,rfl,ho,hb⟩:=hrel
     have hz:w1.heap.size+1≤wr.heap.size:=by have := hb.size;simpa using this
     by_cases hlt:q<64
     ·have hlti:(q:Int)<(64:Int):=by omega
      have h1:(q:Int)<r.length:=by have := HMR.out;omega
      have h2:(q:Int)<blk.length:=by have := HM64.out;omega
      have h3:(q:Int)<64:=by have := HM64.out;omega
      have h3':q<64:=by have := HM64.out;omega
      have h1':q<r.length:=by have := HMR.out;omega
      have h2':q<blk.length:=by have := HM64.out;omega
      have hl4:=C3.length_pre key ctr nonce text (k+q);have hx:=HX.out q (by omega);have HL4:=O hl4;have HQ:=O hlt;have HXX:=O hx;clear hl4 hx;go_wp2
      have hqq:k+q≤100064:=by have := HL.out;have := HM64.out;omega
      go_region_law ((refine pI rfl (.tmp 45) (.tmp 53) rfl (w1.heap.size+1) _ _ rfl (BF ho _) ⟨wr.heap.size,0,none⟩ 1 1 [C3.xorAt key ctr nonce text (k+q)] rfl rfl (by decide) (xO _ _ HXX.out) (BN _ _ _ _ _ hqq) (wP hz _) ?_;intro v' w' ho' hb'))
      all_goals
       go_wp2;go_roundw
       case rel=>exact⟨q+1,HQ.out,by go_num,by rw[←Nat.add_assoc,C3.pre_succ];exact ho',((ak 1 (hb.alloc hz _)).trans hb')⟩
       case measure=>have := HQ.out;simp[intOf];omega
     ·have he:q=64:=by omega
      have HE:=O he
      have hlti:(64:Int)≤(q:Int):=by omega
      have hMR:=HMR.out;clear he;go_wp2;go_roundw
      case rel =>
       have hl:=HRL.out;have hM0:=HM0.out;have hM64:=HM64.out;have hm:=HM.out;have hL:=HL.out;have hq:=HE.out
       have e2:(k+64+63) / 64=k / 64+1:=by omega
       have e3:(k+64) % 64=0∨k+64=text.length:=by omega
       refine⟨k+64,_,by omega,e3,?_,rfl,?_,?_,hb⟩
       ·rw[xh,HR.out,List.drop_drop]
       ·rw[e2,C3.ctr_succ]
       ·rw[←hq];exact ho
      case measure=>have hM0:=HM0.out;show ((r.drop 64).take (r.length-64)).length<r.length;rw[xh,S_];have := HMR.out;omega
   ·have hd:min (64:Int) (r.length:Int)=r.length:=by omega
    have h64r:r.length≤r.length:=by omega
    have h64i:((r.length:Nat):Int)≤r.length:=by omega
    have hM64:r.length≤64:=by omega
    have hM0:1≤r.length:=by omega
    have HM64:=O hM64;have HMR:=O h64r;have HM0:=O hM0;clear h64r hM64 hM0
    go_wp2_with (go_at_call 171;refine(HC.out _).mono ?_;rintro e w4 ⟨rfl,hb4⟩)
    have hz4:w1.heap.size+1≤w4.heap.size:=by have := hb4.size;omega
    have ho4:=ho.below hb4;have hb5:=hb.trans (hb4.mono hz);clear ho hb hb4 hz hz4
    go_loopw [16,12] (fun j v w5=>∃q:Nat,q≤r.length∧j = .int .i64 q∧cR w5 (w1.heap.size+1) v (C3.pre key ctr nonce text (k+q))∧Below (w1.heap.size+1) (w1.alloc (.cells (row S) 226)) w5) (fun j _ _=>r.length-(intOf j).toNat)
    case atStart=>exact⟨0,by omega,rfl,ho4,hb5⟩
    case round =>
     clear ho4 hb5;obtain⟨q,hqM,rfl,ho,hb⟩:=hrel
     have hz:w1.heap.size+1≤wr.heap.size:=by have := hb.size;simpa using this
     by_cases hlt:q<r.length
     ·have hlti:(q:Int)<((r.length:Nat):Int):=by omega
      have h1:(q:Int)<r.length:=by have := HMR.out;omega
      have h2:(q:Int)<blk.length:=by have := HM64.out;omega
      have h3:(q:Int)<64:=by have := HM64.out;omega
      have h3':q<64:=by have := HM64.out;omega
      have h1':q<r.length:=by have := HMR.out;omega
      have h2':q<blk.length:=by have := HM64.out;omega
      have hl4:=C3.length_pre key ctr nonce text (k+q);have hx:=HX.out q (by omega);have HL4:=O hl4;have HQ:=O hlt;have HXX:=O hx;clear hl4 hx;go_wp2
      have hqq:k+q≤100064:=by have := HL.out;have := HM64.out;omega
      go_region_law ((refine pI rfl (.tmp 45) (.tmp 53) rfl (w1.heap.size+1) _ _ rfl (BF ho _) ⟨wr.heap.size,0,none⟩ 1 1 [C3.xorAt key ctr nonce text (k+q)] rfl rfl (by decide) (xO _ _ HXX.out) (BN _ _ _ _ _ hqq) (wP hz _) ?_;intro v' w' ho' hb'))
      all_goals
       go_wp2;go_roundw
       case rel=>exact⟨q+1,HQ.out,by go_num,by rw[←Nat.add_assoc,C3.pre_succ];exact ho',((ak 1 (hb.alloc hz _)).trans hb')⟩
       case measure=>have := HQ.out;simp[intOf];omega
     ·have he:q=r.length:=by omega
      have HE:=O he
      have hlti:((r.length:Nat):Int)≤(q:Int):=by omega
      have hMR:=HMR.out;clear he;go_wp2;go_roundw
      case rel =>
       have hl:=HRL.out;have hM0:=HM0.out;have hM64:=HM64.out;have hm:=HM.out;have hL:=HL.out;have hq:=HE.out
       have e2:(k+r.length+63) / 64=k / 64+1:=by omega
       have e3:(k+r.length) % 64=0∨k+r.length=text.length:=by omega
       refine⟨k+r.length,_,by omega,e3,?_,rfl,?_,?_,hb⟩
       ·exact(List.drop_eq_nil_of_le (by omega)).symm
       ·rw[e2,C3.ctr_succ]
       ·rw[←hq];exact ho
      case measure=>have hM0:=HM0.out;show 0<r.length;omega
  ·have he:k=text.length:=by omega
   have HE:=O he
   have hr0:(r.length:Int)=0:=by omega
   clear he;have hcv:=qg ho;go_wp2
   go_ret2
   exact⟨by rw[HE.out];rfl,hbw.trans (hb.mono hsz1)⟩
end
section
open Go.RowKit
attribute [local irreducible] Calls mac aV
theorem MK (key nonce text:List UInt8) (hk:key.length=32) (hn:nonce.length=12) (ht:text.length≤100000) (w:World) :
  Calls prog 127 #[.string ⟨key.toArray⟩,.int .u32 1,.string ⟨nonce.toArray⟩,.string ⟨text.toArray⟩] w fun e w'=>e = .returned (.tuple #[.string ⟨(eX key nonce text).toArray⟩,.int .i64 0])∧Below w.heap.size w w':=by
 unfold eX;exact MM key nonce text 1 hk hn ht w
attribute [local irreducible] fH cO
theorem zg (m ad t:List UInt8) (w:World) (hk:cA w) (hm:m.length=32) (ha:ad.length≤100000) (ht:t.length≤100000) :
  Calls prog 126 #[.string ⟨m.toArray⟩,.string ⟨ad.toArray⟩,.string ⟨t.toArray⟩] w fun e w'=>e = .returned (.string ⟨(bm m ad t).toArray⟩)∧Below w.heap.size w w':=by
 have HK:=O hk;have HM:=O hm;have HA:=O ha;have HT:=O ht;have HEN:=O (cW ad)
 have q1:¬9223372036854775807<5+(aV ad).length:=by have := HEN.out;omega
 have q2:¬9223372036854775807<5+(aV ad).length+t.length:=by have := HEN.out;omega
 have HN:Hid (bm m ad t=(mac m ([110,111,110,99,101]++(aV ad++t))).take 12):=O rfl;have hml:=ju m ([110,111,110,99,101]++(aV ad++t));have HML:=O hml;clear hk hm ha ht hml
 go_enter func126,ntmps126
 go_wp2_with (first
  |(go_at_call 84;refine(lH ad _ (by have := HA.out;omega)).mono ?_;rintro e w2 ⟨v2,rfl,ho2,hb2⟩;have HB2:=O hb2;have hcv:=b6 ho2.rd;clear ho2 hb2)
  |(go_at_call 113;refine(Bs m ([110,111,110,99,101]++(aV ad++t)) _ (HK.out.on HB2.out) (by rw[HM.out];decide) (by have := HEN.out;have := HA.out;have := HT.out;simp;omega)).mono ?_;rintro e w3 ⟨rfl,hb3⟩;have HB3:=O (HB2.out.trans (hb3.mono HB2.out.size));clear hb3;generalize hmk:mac m ([110,111,110,99,101]++(aV ad++t))=mk at HML HN ⊢;have hl32:(ByteArray.mk mk.toArray).size=32:=HML.out;clear hmk))
 go_ret;exact⟨by rw[HN.out];rfl,HB3.out⟩
theorem Rk (m n ad t:List UInt8) (w:World) (hk:cA w) (hm:m.length=32) (hn:n.length=12) (ha:ad.length≤100000) (ht:t.length≤100000) :
  Calls prog 128 #[.string ⟨m.toArray⟩,.string ⟨n.toArray⟩,.string ⟨ad.toArray⟩,.string ⟨t.toArray⟩] w fun e w'=>e = .returned (.string ⟨(jj m n ad t).toArray⟩)∧Below w.heap.size w w':=by
 have HK:=O hk;have HM:=O hm;have HA:=O ha;have HT:=O ht;have HN0:=O hn;have HEN:=O (cW ad)
 have q0:¬9223372036854775807<3+n.length:=by omega
 have q1:¬9223372036854775807<3+n.length+(aV ad).length:=by have := HEN.out;omega
 have q2:¬9223372036854775807<3+n.length+(aV ad).length+t.length:=by have := HEN.out;omega
 have q3:¬9223372036854775807<3+(n.length+(aV ad).length)+t.length:=by have := HEN.out;omega
 have q4:¬9223372036854775807<3+(n.length+(aV ad).length):=by have := HEN.out;omega
 have HN:Hid (jj m n ad t=(mac m ([116,97,103]++(n++(aV ad++t)))).take 16):=O rfl;have hml:=ju m ([116,97,103]++(n++(aV ad++t)));have HML:=O hml;clear hk hm ha ht hml hn
 go_enter func128,ntmps128
 go_wp2_with (first
  |(go_at_call 84;refine(lH ad _ (by have := HA.out;omega)).mono ?_;rintro e w2 ⟨v2,rfl,ho2,hb2⟩;have HB2:=O hb2;have hcv:=b6 ho2.rd;clear ho2 hb2)
  |(go_at_call 113;refine(Bs m ([116,97,103]++(n++(aV ad++t))) _ (HK.out.on HB2.out) (by rw[HM.out];decide) (by have := HEN.out;have := HA.out;have := HT.out;have := HN0.out;simp;omega)).mono ?_;rintro e w3 ⟨rfl,hb3⟩;have HB3:=O (HB2.out.trans (hb3.mono HB2.out.size));clear hb3;generalize hmk:mac m ([116,97,103]++(n++(aV ad++t)))=mk at HML HN ⊢;have hl32:(ByteArray.mk mk.toArray).size=32:=HML.out;clear hmk))
 go_ret;exact⟨by rw[HN.out];rfl,HB3.out⟩
attribute [local irreducible] eX bm jj
theorem nf (key:List UInt8) (w:World) (hk:cA w) (hl:key.length=32) :
  Calls prog 125 #[.string ⟨key.toArray⟩] w fun e w'=>e = .returned (.tuple #[.string ⟨(fH key).toArray⟩,.string ⟨(cO key).toArray⟩,.int .i64 0])∧Below w.heap.size w w':=by
 have HL:=O hl;have HK:=O hk
 have i1:((key.length:Int) != 32)=false:=by rw[hl];rfl
 have HE:Hid (mac key [101,110,99]=fH key):=O (by unfold fH;rfl);have HM:Hid (mac key [109,97,99]=cO key):=O (by unfold cO;rfl);clear hk hl
 go_enter func125,ntmps125
 go_wp2_with (first
  |(go_at_call 113;refine(Bs key [101,110,99] _ HK.out (by rw[HL.out];decide) (by decide)).mono ?_;rintro e w1 ⟨rfl,hb1⟩;have HB1:=O hb1;clear hb1;rw[HE.out])
  |(go_at_call 113;refine(Bs key [109,97,99] _ (HK.out.on HB1.out) (by rw[HL.out];decide) (by decide)).mono ?_;rintro e w2 ⟨rfl,hb2⟩;have HB2:=O (HB1.out.trans (hb2.mono HB1.out.size));clear hb2;rw[HM.out]))
 go_ret3
 exact⟨rfl,HB2.out⟩
theorem ve (key:List UInt8) (w:World) (hl:¬key.length=32) :
  Calls prog 125 #[.string ⟨key.toArray⟩] w fun e w'=>e = .returned (.tuple #[.string ⟨#[]⟩,.string ⟨#[]⟩,.int .i64 1])∧Below w.heap.size w w':=by
 have i1:((key.length:Int) != 32)=true:=by simp;omega
 clear hl
 go_enter func125,ntmps125
 go_wp2
 go_ret3
 exact⟨rfl,O_ _ _⟩
theorem TE (key ad t:List UInt8) (w:World) (hk:cA w) (hl:key.length=32) (ha:ad.length≤100000) (ht:t.length≤100000) :
  Calls prog 81 #[.string ⟨key.toArray⟩,.string ⟨ad.toArray⟩,.string ⟨t.toArray⟩] w fun e w'=>e = .returned (.tuple #[.string ⟨(bQ key ad t).toArray⟩,.int .i64 0])∧Below w.heap.size w w':=by
 have HL:=O hl;have HK:=O hk;have HA:=O ha;have HT:=O ht
 have i1:¬(1048576:Int)<ad.length:=by omega
 have i2:¬(1048576:Int)<t.length:=by omega
 have hs:bQ key ad t=bm (cO key) ad t++(eX (fH key) (bm (cO key) ad t) t++jj (cO key) (bm (cO key) ad t) ad (eX (fH key) (bm (cO key) ad t) t)):=rfl;have HS:=O hs;have HEL:=O (qp key);have HML:=O (qF key);clear hl hk ha ht hs
 go_enter func81,ntmps81
 go_wp2_with (first
  |(go_at_call 125;refine(nf key _ HK.out HL.out).mono ?_;rintro e w2 ⟨rfl,hb1⟩;have HB2:=O hb1;clear hb1;generalize hek:fH key=ek;generalize hmk:cO key=mk;have HEK:=O hek;have HMK:=O hmk;clear hek hmk)
  |(go_at_call 126;refine(zg mk ad t w2 (HK.out.on HB2.out) (by rw[←HMK.out];exact HML.out) HA.out HT.out).mono ?_;rintro e w3 ⟨rfl,hb3⟩;have HB3:=O (HB2.out.trans (hb3.mono HB2.out.size));clear hb3;generalize hn:bm mk ad t=nc;have HN:=O hn;have HNL:Hid (nc.length=12):=(O (by rw[←hn];exact gL _ _ _));clear hn)
  |(go_at_call 127;refine(MK ek nc t (by rw[←HEK.out];exact HEL.out) HNL.out HT.out _).mono ?_;rintro e w4 ⟨rfl,hb4⟩;have HB4:=O (HB3.out.trans (hb4.mono HB3.out.size));clear hb4;generalize hx:eX ek nc t=xc;have HX:=O hx;have HXL:Hid (xc.length=t.length):=(O (by rw[←hx];exact lz _ _ _));clear hx;have q1:¬9223372036854775807<nc.length+xc.length:=(by rw[HNL.out,HXL.out];have := HT.out;omega))
  |(go_at_call 128;refine(Rk mk nc ad xc w4 (HK.out.on HB4.out) (by rw[←HMK.out];exact HML.out) HNL.out HA.out (by rw[HXL.out];exact HT.out)).mono ?_;rintro e w5 ⟨rfl,hb5⟩;have HB5:=O (HB4.out.trans (hb5.mono HB4.out.size));clear hb5;generalize htg:jj mk nc ad xc=tg;have HTG:=O htg;have q2:¬9223372036854775807<nc.length+xc.length+tg.length:=(by rw[←htg,jX,HNL.out,HXL.out];have := HT.out;omega);clear htg))
 go_ret2
 exact⟨by rw[HS.out,HEK.out,HMK.out,HN.out,HX.out,HTG.out];rfl,HB5.out⟩
theorem LA (key ad t:List UInt8) (w:World) (hl:¬key.length=32) :
  Calls prog 81 #[.string ⟨key.toArray⟩,.string ⟨ad.toArray⟩,.string ⟨t.toArray⟩] w fun e w'=>e = .returned (.tuple #[.string ⟨#[]⟩,.int .i64 1])∧Below w.heap.size w w':=by
 go_enter func81,ntmps81
 go_wp2_with (go_at_call 125;refine(ve key _ hl).mono ?_;rintro e w1 ⟨rfl,hb1⟩)
 go_ret2
 exact⟨rfl,hb1⟩
theorem Hp (key ad t:List UInt8) (w:World) (hk:cA w) (hl:key.length=32) (h:1048576<ad.length∨1048576<t.length) :
  Calls prog 81 #[.string ⟨key.toArray⟩,.string ⟨ad.toArray⟩,.string ⟨t.toArray⟩] w fun e w'=>e = .returned (.tuple #[.string ⟨#[]⟩,.int .i64 2])∧Below w.heap.size w w':=by
 by_cases h1:1048576<ad.length
 ·have i1:(1048576:Int)<ad.length:=by omega
  clear h h1
  go_enter func81,ntmps81
  go_wp2_with (go_at_call 125;refine(nf key _ hk hl).mono ?_;rintro e w1 ⟨rfl,hb1⟩)
  go_ret2
  exact⟨rfl,hb1⟩
 ·have i1:¬(1048576:Int)<ad.length:=by omega
  have i2:(1048576:Int)<t.length:=by omega
  clear h h1
  go_enter func81,ntmps81
  go_wp2_with (go_at_call 125;refine(nf key _ hk hl).mono ?_;rintro e w1 ⟨rfl,hb1⟩)
  go_ret2
  exact⟨rfl,hb1⟩
def Qs (key ad t:List UInt8):Prop:=key.length=32→(ad.length≤100000∧t.length≤100000)∨1048604<ad.length∨1048604<t.length
theorem Pz (key ad t:List UInt8) (w:World) (hk:cA w) (hr:Qs key ad t) :
  Calls prog 81 #[.string ⟨key.toArray⟩,.string ⟨ad.toArray⟩,.string ⟨t.toArray⟩] w fun e w'=>e = .returned (.tuple #[.string ⟨(eu key ad t).toArray⟩,.int .i64 (fF key ad t)])∧Below w.heap.size w w':=by
 unfold eu fF
 by_cases h:key.length=32
 ·have hr:=hr h
  by_cases h2:1048576<ad.length∨1048576<t.length
  ·rw[H_ (fun e=>e.2 h2),G_ h,G_ h2]
   exact Hp key ad t w hk h h2
  ·rw[G_ ⟨h,h2⟩,G_ h,H_ h2]
   exact TE key ad t w hk h (by omega) (by omega)
 ·rw[H_ (fun e=>h e.1),H_ h]
  exact LA key ad t w h
end
section
open Go.RowKit Go.Shelf
attribute [local irreducible] Calls mac aV bF cd eN bG bh b9 bQ aI
theorem Ku (dk:List UInt8) (b:BK) (u:Value) (l:List K) (w:World) (hv:RdK w u l) (h:ch dk b l=false) :
  Calls prog 42 #[.string ⟨dk.toArray⟩,.agg (bc b u)] w fun e w'=>e = .returned (.tuple #[.string ⟨#[]⟩,.int .i64 1])∧Below w.heap.size w w':=by
 have HB0:Hid ((w.alloc (.cells (bc b u) 47)).heap[w.heap.size]?=some (.cells (bc b u) 47 (0,0))):=O (al _ _ _ rfl);have HBA:Hid (Below w.heap.size w (w.alloc (.cells (bc b u) 47))):=O ((O_ _ _).alloc (A_ _) _);have HVC:=O (rg b u l (w.alloc (.cells (bc b u) 47)) (hv.alloc _));unfold ch at h;clear hv
 by_cases h32:dk.length=32
 ·rw[decide_eq_true h32,Bool.true_and] at h
  rw[h] at HVC
  have i1:((dk.length:Int) != 32)=false:=by rw[h32];rfl
  clear h h32
  go_enter func42,ntmps42
  go_wp2_with (first
   |(refine cH b u rfl (.tmp 3) rfl _ rfl _ HB0.out ?_)
   |(go_at_call 80;refine HVC.out.mono ?_;rintro e w1 ⟨rfl,hb1⟩;have HB1:=O (HBA.out.trans (hb1.mono HBA.out.size));clear hb1))
  go_ret2
  exact⟨rfl,HB1.out⟩
 ·have i1:((dk.length:Int) != 32)=true:=by simp;omega
  clear h h32;generalize aI b l=vb at HVC
  go_enter func42,ntmps42
  go_wp2_with (first
   |(refine cH b u rfl (.tmp 3) rfl _ rfl _ HB0.out ?_)
   |(go_at_call 80;refine HVC.out.mono ?_;rintro e w1 ⟨rfl,hb1⟩;have HB1:=O (HBA.out.trans (hb1.mono HBA.out.size));clear hb1))
  go_ret2
  exact⟨rfl,HB1.out⟩
theorem GY (dk:List UInt8) (b:BK) (u:Value) (l:List K) (w:World) (hk:cA w) (hv:RdK w u l) (hb:b.mach) (hn:cQ l) (hl:l.length≤100) (h:ch dk b l=true) :
  Calls prog 42 #[.string ⟨dk.toArray⟩,.agg (bc b u)] w fun e w'=>e = .returned (.tuple #[.string ⟨(bX dk b l).toArray⟩,.int .i64 0])∧Below w.heap.size w w':=by
 have hb32:dk.length=32∧aI b l=true:=by unfold ch at h;simpa using h
 obtain⟨h32,hval⟩:=hb32;have hmo:=iO hval;have HWF:=O (hb.wf (by omega));have HHL:=O (jC b HWF.out);have HMO:=O hmo;have HLL:=O hl;have HCL:=O (nI hval);have HKO:=O (EZ hn hval);have H32:=O h32;obtain⟨W0,hW0⟩:∃W0,W0=w.alloc (.cells (bc b u) 47):=⟨_,rfl⟩;have HB0:Hid (W0.heap[w.heap.size]?=some (.cells (bc b u) 47 (0,0))):=O (by rw[hW0];exact al _ _ _ rfl);have HBA:Hid (Below w.heap.size w W0):=O (by rw[hW0];exact(O_ _ _).alloc (A_ _) _);have HRD:Hid (RdK W0 u l):=O (by rw[hW0];exact hv.alloc _);have HKA:Hid (cA W0):=O (by rw[hW0];exact hk.on ((O_ _ _).alloc (A_ _) _));have HVC:=O (rg b u l W0 HRD.out);rw[hval] at HVC;have HMP:Hid (bX dk b l=aV (bh b)++bQ (aJ dk bkL) (bh b) (b9 l)):=O rfl
 have i1:((dk.length:Int) != 32)=false:=by rw[h32];rfl
 have HW:=O hW0;have HDL:=O (cE dk bkL);have HBK:Hid (bkL=[98,97,99,107,117,112]):=O rfl
 have HSE:Hid (fF (aJ dk bkL) (bh b) (b9 l)=0∧eu (aJ dk bkL) (bh b) (b9 l)=bQ (aJ dk bkL) (bh b) (b9 l)):=O (by
  have h1:=HHL.out.2;have h2:=HCL.out;unfold fF eu;rw[G_ (cE dk bkL),H_ (by omega),G_ ⟨cE dk bkL,by omega⟩]
  exact⟨rfl,rfl⟩)
 clear h h32 hval hmo hv hb hn hk hW0 hl
 go_enter func42,ntmps42
 go_upto_region 1 with fail
 rw[←HW.out]
 go_upto_region 4 with (first
  |(refine cH b u rfl (.tmp 3) rfl _ rfl _ HB0.out ?_)
  |(go_at_call 80;refine HVC.out.mono ?_;rintro e w1 ⟨rfl,hb1⟩;have HB1:=O hb1;have HBB1:Hid (∀wx,Below w1.heap.size w1 wx→wx.heap[w.heap.size]?=some (.cells (bc b u) 47 (0,0))):=(O (fun wx hx=>by rw[(hb1.trans (hx.mono hb1.size)).block _ (Q_.1 HB0.out).1];exact HB0.out));clear hb1))
 generalize hhp:bh b=hp at HHL HMP HSE;have HHP:=O hhp;generalize hcp:b9 l=cp at HCL HMP HSE;have HCP:=O hcp;generalize hdp:aJ dk bkL=dp at HDL HMP HSE;have HDP:=O hdp;clear hhp hcp hdp
 try dsimp only[Act.put]
 refine aY 11 [[],[0],[],[2],[],[4],[1,3,5],[6],[7],[7],[8]] (SP.of [.eq (.string ⟨dk.toArray⟩),.eq (.string ⟨dp.toArray⟩),.eq (.agg (bc b u)),.eq (.string ⟨hp.toArray⟩),.eq (.agg (bc b u)),.eq (.string ⟨cp.toArray⟩),.eq (.tuple #[.string ⟨(bQ dp hp cp).toArray⟩,.int .i64 0]),.eq (.tuple #[.string ⟨(bQ dp hp cp).toArray⟩,.int .i64 0]),.eq (.string ⟨(bQ dp hp cp).toArray⟩),.eq (.int .i64 0),.eq (.string ⟨(bQ dp hp cp).toArray⟩)]) (fun _=>undef) ?h1 ?h2 ?h3 ?h4 ?h5 ?h6
 case h1=>kernel_rfl
 case h2=>kernel_rfl
 case h3=>kernel_rfl
 case h4 =>
  simp only[F_,c_]
  repeat (first |exact trivial|refine⟨fun vals v=>by kernel_rfl,?_⟩)
 case h5 =>
  simp only[F_,c_];refine⟨?_,?_,?_,?_,?_,?_,?_,?_,?_,?_,?_,trivial⟩
  all_goals (intro wq hbq vals;simp only[Nat.reduceAdd,a_,X_,W_];repeat (first |refine ar ?_|refine aw rfl ?_);have HXR:=O (HBB1.out wq hbq);have HBQ:Hid (Below W0.heap.size W0 wq):=O (HB1.out.trans (hbq.mono HB1.out.size));clear hbq;intro Q hQ;simp only[ay,upd,Act.put,B_,C_,D_,Nat.reduceAdd,a_,Nat.reduceEqDiff,if_true,if_false,reduceIte])
  case refine_2 =>
   go_wp2_with (go_at_call 70;refine(uI dk bkL _ (HKA.out.on HBQ.out) (by rw[H32.out];decide) (by decide)).mono ?_;rintro e x1 ⟨rfl,hx1⟩;rw[HDP.out])
   exact ab hQ _ (by kernel_rfl) hx1 rfl
  case refine_3 =>
   go_wp2_with (refine cH b u rfl (.tmp 3) rfl _ rfl _ HXR.out ?_)
   exact ab hQ _ (by kernel_rfl) (O_ _ _) rfl
  case refine_5 =>
   go_wp2_with (refine cH b u rfl (.tmp 3) rfl _ rfl _ HXR.out ?_)
   exact ab hQ _ (by kernel_rfl) (O_ _ _) rfl
  case refine_4 =>
   go_wp2_with (go_at_call 82;refine(Bg b u _ HWF.out (by have := HMO.out;omega)).mono ?_;rintro e x1 ⟨rfl,hx1⟩;rw[HHP.out])
   exact ab hQ _ (by kernel_rfl) hx1 rfl
  case refine_6 =>
   go_wp2_with (go_at_call 83;refine(Gl b u l _ (HRD.out.on HBQ.out) HKO.out (by have := HLL.out;omega) (by rw[HCP.out];have := HCL.out;have := HLL.out;omega)).mono ?_;rintro e x1 ⟨rfl,hx1⟩;rw[HCP.out])
   exact ab hQ _ (by kernel_rfl) hx1 rfl
  case refine_7 =>
   go_wp2_with (go_at_call 81;refine(Pz dp hp cp _ (HKA.out.on HBQ.out) (fun _ => .inl ⟨by have := HHL.out.2;have := HMO.out;omega,by have := HCL.out;have := HLL.out;omega⟩)).mono ?_;rintro e x1 ⟨rfl,hx1⟩;rw[HSE.out.1,HSE.out.2])
   exact ab hQ _ (by kernel_rfl) hx1 rfl
  all_goals go_wp2
  all_goals exact ab hQ _ (by kernel_rfl) (O_ _ _) rfl
 case h6 =>
  intro wq hbq vals;rw[show List.range 11=[0,1,2,3,4,5,6,7,8,9,10] from by decide]
  repeat (first |refine ar ?_|refine aw rfl ?_)
  simp only[F_,c_,J_,L_];simp only[ay,upd,Act.put,B_,C_,D_,Nat.reduceAdd,a_,Nat.reduceEqDiff,if_true,if_false,reduceIte];have HBQ:Hid (Below W0.heap.size W0 wq):=O (HB1.out.trans (hbq.mono HB1.out.size));have HXR:=O (HBB1.out wq hbq);clear hbq;have HSL:Hid ((aV hp).length+(bQ dp hp cp).length≤2000000):=O (by have h1:=cW hp;have h2:=jF dp hp cp;have h3:=HHL.out.2;have h4:=HMO.out;have h5:=HCL.out;omega);generalize bQ dp hp cp=sp at HMP HSL HSE ⊢
  have hcat:¬9223372036854775807<(aV hp).length+sp.length:=by have := HSL.out;omega
  go_wp2_with (first
   |(refine cH b u rfl (.tmp 3) rfl _ rfl _ HXR.out ?_)
   |(go_at_call 82;refine(Bg b u _ HWF.out (by have := HMO.out;omega)).mono ?_;rintro e w4 ⟨rfl,hb4⟩;rw[HHP.out];have HB4:=O (HBQ.out.trans (hb4.mono HBQ.out.size));clear hb4)
   |(go_at_call 84;refine(lH hp _ (by have := HHL.out.2;have := HMO.out;omega)).mono ?_;rintro e w5 ⟨v5,rfl,ho5,hb5⟩;have HB5:=O (HB4.out.trans (hb5.mono HB4.out.size));have hcv:=b6 ho5.rd;clear ho5 hb5))
  go_ret2
  exact⟨by rw[HMP.out];rfl,HBA.out.trans (HB5.out.mono HBA.out.size)⟩
theorem SK (dk:List UInt8) (b:BK) (u:Value) (l:List K) (w:World) (hk:cA w) (hv:RdK w u l) (hb:b.mach) (hn:cQ l) (hl:l.length≤100) :
  Calls prog 42 #[.string ⟨dk.toArray⟩,.agg (bc b u)] w fun e w'=>e = .returned (.tuple #[.string ⟨(lg dk b l).toArray⟩,.int .i64 (jm dk b l)])∧Below w.heap.size w w':=by
 rcases kx dk b l with⟨h1,h2,h3⟩|⟨h1,h2,h3⟩
 ·rw[h2,h3];exact GY dk b u l w hk hv hb hn hl h1
 ·rw[h2,h3];exact Ku dk b u l w hv h1
end
section
open Go.RowKit
def eA (l:List K) (a:Int):Option K:=l.find? fun k=>decide (k.id=a)
def rmK (l:List K) (a:Int):List K:=l.eraseP fun k=>decide (k.id=a)
theorem tz:∀{l:List Int},gY l=true→l.Pairwise (· < ·)
 | [],_ => .nil
 | [a],_=>by simp
 | a :: b :: l, h => by
   rw[gY,T_,decide_eq_true_eq] at h;have ih:=tz h.2;refine List.pairwise_cons.2 ⟨fun x hx => ?_,ih⟩
   rcases List.mem_cons.1 hx with rfl|hx
   ·exact h.1
   ·exact Int.lt_trans h.1 ((List.pairwise_cons.1 ih).1 x hx)
theorem sI (ids:List Int) (k:K) (l:List K):bJ ids (k::l)=if k.id∈ids then k::bJ ids l else bJ ids l:=by
 unfold bJ eZ;rw[List.filter_cons]
 by_cases h:k.id∈ids <;> simp[h]
theorem sJ (a:Int) (s:List Int) (l:List K) (h:∀k∈l,k.id≠a):bJ (a::s) l=bJ s l:=by
 unfold bJ;refine List.filter_congr (fun k hk => ?_);have := h k hk;unfold eZ
 simp[this]
theorem nM (k:K) (l:List K) (a:Int):eA (k::l) a=if k.id=a then some k else eA l a:=by
 unfold eA;rw[List.find?_cons]
 by_cases h:k.id=a <;> simp[h]
theorem rE {l:List K} {a:Int} (h:∀k∈l,k.id≠a):eA l a=none:=by
 unfold eA;rw[List.find?_eq_none];intro k hk
 simpa using h k hk
theorem jr {α β:Type} {f g:α→Option β}:∀{l:List α},(∀x∈l,f x=g x)→l.filterMap f=l.filterMap g
 | [],_=>rfl
 | x :: l, h => by
   rw[List.filterMap_cons,List.filterMap_cons,h x (by simp),jr (fun y hy=>h y (by simp[hy]))]
theorem k9:∀(l:List K) (ids:List Int),l.Pairwise (fun a b=>a.id<b.id)→ids.Pairwise (· < ·) →
  bJ ids l=ids.filterMap (eA l)∧(bJ ids l).length≤ids.length∧((bJ ids l).length=ids.length↔∀a∈ids,eA l a≠none)
 | [], ids, _, _ => by
   refine⟨?_,by simp[bJ],?_⟩
   ·have h:ids.filterMap (eA [])=ids.filterMap (fun _=>(none:Option K)):=jr (fun x _=>rfl)
    rw[h]
    simp[bJ]
   ·constructor
    ·intro h
     have : ids=[]:=List.length_eq_zero_iff.1 (by simpa [bJ] using h.symm)
     simp[this]
    ·intro h
     cases ids with
     | nil=>rfl
     | cons a s=>exact absurd rfl (h a (by simp))
 | k::r,[],_,_=>by simp[bJ,eZ]
 | k :: r, a :: s, hp, hi => by
   have hp1:=(List.pairwise_cons.1 hp).1;have hp2:=(List.pairwise_cons.1 hp).2;have hi1:=(List.pairwise_cons.1 hi).1;have hi2:=(List.pairwise_cons.1 hi).2
   rcases Int.lt_trichotomy a k.id with h|h|h
   ·
    have hn:∀x∈k::r,x.id≠a:=fun x hx=>by
     rcases List.mem_cons.1 hx with rfl|hx
     ·omega
     ·have := hp1 x hx;omega
    obtain⟨e1,e2,e3⟩:=k9 (k::r) s hp hi2;rw[sJ a s _ hn,List.filterMap_cons,rE hn];refine⟨e1,by simp only[Z_];omega,?_⟩
    constructor
    ·intro hh;simp only[Z_] at hh;omega
    ·intro hh;exact absurd (rE hn) (hh a (by simp))
   ·
    have hn:∀x∈r,x.id≠a:=fun x hx=>by have := hp1 x hx;omega
    obtain⟨e1,e2,e3⟩:=k9 r s hp2 hi2
    have hg:∀b∈s,eA (k::r) b=eA r b:=fun b hb=>by
     have := hi1 b hb;rw[nM,H_ (by omega)]
    rw[sI,G_ (by simp[h]),sJ a s _ hn,List.filterMap_cons,nM,G_ h.symm,jr hg,e1];refine⟨rfl,by rw[←e1];simp only[Z_];omega,?_⟩;rw[←e1];simp only[Z_,Nat.add_right_cancel_iff,e3]
    constructor
    ·intro hh b hb
     rcases List.mem_cons.1 hb with rfl|hb
     ·rw[nM,G_ h.symm];simp
     ·rw[hg b hb];exact hh b hb
    ·intro hh b hb
     rw[←hg b hb];exact hh b (by simp[hb])
   ·
    have hn:k.id ∉ a::s:=fun hx=>by
     rcases List.mem_cons.1 hx with hx|hx
     ·omega
     ·have := hi1 _ hx;omega
    obtain⟨e1,e2,e3⟩:=k9 r (a::s) hp2 hi
    have hg:∀b∈a::s,eA (k::r) b=eA r b:=fun b hb=>by
     rw[nM,H_];intro e;rw[e] at hn;exact hn hb
    rw[sI,H_ hn,jr hg];refine⟨e1,e2,e3.trans ?_⟩
    constructor
    ·intro hh b hb;rw[hg b hb];exact hh b hb
    ·intro hh b hb;rw[←hg b hb];exact hh b hb
termination_by l ids=>l.length+ids.length
theorem vI:∀(l:List K) (a:Int),l.Pairwise (fun x y=>x.id<y.id)→rmK l a=l.filter fun k => !decide (k.id=a)
 | [],a,_=>rfl
 | k :: r, a, hp => by
   have hp1:=(List.pairwise_cons.1 hp).1;have hp2:=(List.pairwise_cons.1 hp).2;unfold rmK;rw[List.eraseP_cons,List.filter_cons]
   by_cases h:k.id=a
   ·simp only[h,decide_true,Bool.not_true,cond_true]
    rw[H_ (by simp),List.filter_eq_self.2];intro x hx;have := hp1 x hx;simp only[Bool.not_eq_true',decide_eq_false_iff_not]
    omega
   ·simp only[h,decide_false,Bool.not_false,cond_false,if_true]
    rw[←vI r a hp2]
    rfl
theorem zO:∀(ids:List Int) (l:List K),l.Pairwise (fun x y=>x.id<y.id)→ids.foldl rmK l=kF ids l
 | [],l,_=>by simp[kF,eZ,List.filter_eq_self.2]
 | a :: s, l, hp => by
   rw[List.foldl_cons,vI l a hp,zO s _ (hp.filter _)];unfold kF eZ;rw[List.filter_filter];refine List.filter_congr (fun k hk => ?_)
   simp[Bool.and_comm]
open Go.RowKit Go.Shelf
theorem VY (a b:K):(kc a).size=(kc b).size:=rfl
attribute [local irreducible] Calls kc
end
section
open Go.RowKit Go.Shelf
def atI (l:List K) (a:Int):Int:=match l.findIdx? fun k=>decide (k.id=a) with
 | some i=>(i:Int)
 | none => -1
theorem rx (l:List K) (a:Int):(atI l a = -1∧eA l a=none∧∀j,j<l.length→(ae l j).id≠a)∨(∃i:Nat,i<l.length∧atI l a=i∧eA l a=some (ae l i)∧rmK l a=l.take i++l.drop (i+1)∧(ae l i).id=a∧∀j,j<i→(ae l j).id≠a):=by
 unfold atI
 cases h:l.findIdx? (fun k=>decide (k.id=a)) with
 | none =>
   rw[List.findIdx?_eq_none_iff] at h;refine .inl ⟨rfl,?_,fun j hj => ?_⟩
   ·exact rE (fun k hk=>by simpa using h k hk)
   ·rw[az _ _ hj]
    simpa using h _ (List.getElem_mem hj)
 | some i =>
   have h2:=h;rw[List.findIdx?_eq_some_iff_getElem] at h;obtain⟨hi,hp,hn⟩:=h
   have hn2:∀j,j<i→(ae l j).id≠a:=fun j hj=>by rw[az _ _ (by omega)];simpa using hn j hj
   refine .inr ⟨i,hi,rfl,?_,?_,by rw[az _ _ hi];simpa using hp,hn2⟩
   ·unfold eA
    rw[az _ _ hi,List.find?_eq_some_iff_getElem];exact⟨hp,i,hi,rfl,fun j hj=>by simpa using hn j hj⟩
   ·unfold rmK
    rw[List.eraseP_eq_eraseIdx,h2];exact List.eraseIdx_eq_take_drop_succ ..
attribute [local irreducible] Calls
theorem U5 (nx:Int) (v:Value) (l:List K) (a:Int) (w:World) (hv:RdK w v l) :
  Calls prog 103 #[.agg (tbA nx v),.int .i64 a] w fun e w'=>e = .returned (.int .i64 (atI l a))∧Below w.heap.size w w':=by
 unfold tbA;have hlen:=hv.len;unfold maxLen at hlen;obtain⟨W0,hW0⟩:∃W0,W0=w.alloc (.cells #[.int .i64 nx,v] 45):=⟨_,rfl⟩;have HV:Hid (RdK W0 v l):=O (by rw[hW0];exact hv.alloc _);have HBE:Hid (Below w.heap.size w W0):=O (by rw[hW0];exact cJ _ _ (O_ _ _))
 have t1:W0.cell? ⟨w.heap.size,1,none⟩=some v:=by rw[hW0];exact gi _ _ _ (O_ _ _) 1
 have HW:=O hW0;have HP:=O (rx l a);obtain⟨va,vc,rfl,_,_,_⟩:=hv;clear hW0
 go_enter func103,ntmps103
 go_wp2
 go_loopw [5] (fun o wr=>∃i:Nat,i≤l.length∧o = .int .i64 i∧Hid (∀j,j<i→(ae l j).id≠a)∧Hid (wr=W0)) (fun o _=>l.length-(intOf o).toNat)
 case atStart=>exact⟨0,N_ _,rfl,O (fun j hj=>absurd hj (by omega)),O HW.out.symm⟩
 case round =>
  obtain⟨i,hi,rfl,hno,hwr⟩:=hrel;have hw2:=hwr.out;subst hw2
  by_cases hlt:i<l.length
  ·obtain⟨b,off,rfl,hbl,aO⟩:=(HV.out.cells) (by omega)
   obtain⟨d0,_,_,_,_,_,_,_,_⟩:=aO i hlt
   have i1:(i:Int)<l.length:=by omega
   have HK:=O hlt;clear aO hlt
   by_cases hq:(ae l i).id=a
   ·have e1:((ae l i).id == a)=true:=by rw[beq_iff_eq];exact hq
    have HR:Hid (atI l a=i):=O (by
     rcases HP.out with⟨_,_,h4⟩|⟨j,hj,h1,_,_,h5,h6⟩
     ·exact absurd hq (h4 i HK.out)
     ·have : j=i:=by
       rcases Nat.lt_trichotomy j i with h|h|h
       ·exact absurd h5 (hno.out j h)
       ·exact h
       ·exact absurd hq (h6 i h)
      rw[h1,this])
    clear hno hq;go_wp2;go_ret;exact⟨by rw[HR.out];rfl,HBE.out⟩
   ·have e1:((ae l i).id == a)=false:=by rw[U_];exact hq
    have HQ:=O hq;clear hq;go_wp2;go_roundw
    case rel=>exact⟨i+1,HK.out,by go_num,O (fun j hj=>by
     by_cases e:j=i
     ·subst e;exact HQ.out
     ·exact hno.out j (by omega)),O (by first |exact rfl|exact trivial)⟩
    case measure=>have := HK.out;simp[intOf];omega
  ·have he:i=l.length:=by omega
   have i1:(l.length:Int)≤i:=by omega
   have HR:Hid (atI l a = -1):=O (by
    rcases HP.out with⟨h1,_,_⟩|⟨j,hj,_,_,_,h5,_⟩
    ·exact h1
    ·exact absurd h5 (hno.out j (by omega)))
   clear hno he;go_wp2;go_ret;exact⟨by rw[HR.out];rfl,HBE.out⟩
attribute [local irreducible] kc atI tbA
def Bb (l:List K) (a:Int):K:=(eA l a).getD zK
def yV (l:List K) (a:Int):Int:=if eA l a=none then 11 else 0
theorem VP (nx:Int) (v:Value) (l:List K) (a:Int) (w:World) (hv:RdK w v l) :
  Calls prog 56 #[.agg (tbA nx v),.int .i64 a] w fun e w'=>e = .returned (.tuple #[.agg (kc (Bb l a)),.int .i64 (yV l a)])∧Below w.heap.size w w':=by
 have hz:=rp;obtain⟨W0,hW0⟩:∃W0,W0=(w.alloc (.cells (tbA nx v) 45)).alloc (.cells (kc zK) 86):=⟨_,rfl⟩;have HW:=O hW0
 have hb0:Below w.heap.size w W0:=by rw[hW0];exact dm w _ _ (O_ _ _)
 have HX:Hid (∀y,Below W0.heap.size W0 y→y.heap[w.heap.size]?=some (.cells (tbA nx v) 45 (0,0))∧y.heap[w.heap.size+1]?=some (.cells (kc zK) 86 (0,0))∧Below w.heap.size w y∧RdK y v l):=O (fun y hy=>⟨by rw[hW0] at hy;exact aa (eP _ _ _) hy,by rw[hW0] at hy;exact aa (eR _ _ _) hy,hb0.trans (hy.mono hb0.size),(hv.on hb0).on hy⟩);have HAT:=O (fun (y:World) (h:RdK y v l)=>U5 nx v l a y h);have HP:=O (rx l a);obtain⟨va,vc,rfl,_,_,_⟩:=id hv;have HX0:=O (HX.out W0 (O_ _ _));clear hW0 hb0 hv
 rcases HP.out with⟨h1,h2,_⟩|⟨i,hi,h1,h2,_,_,_⟩
 ·rw[h1] at HAT
  have HV:Hid (Bb l a=zK∧yV l a=11):=O ⟨by unfold Bb;rw[h2];rfl,by unfold yV;rw[G_ h2]⟩;rw[HV.out.1,HV.out.2];clear h1 h2 HP
  go_enter func56,ntmps56
  go_upto_region 1 with fail
  rw[←HW.out]
  try dsimp only[Act.put]
  go_wp2_with (first
   |(refine dw nx (.slice va l.length vc) rfl (.tmp 2) rfl w.heap.size rfl _ HX0.out.1 ?_)
   |(go_at_call 103;refine(HAT.out _ HX0.out.2.2.2).mono ?_;rintro e yy ⟨rfl,hb⟩;have HX1:=O (HX.out _ hb);clear hb)
   |(refine mO rfl rfl ?_)
   |(refine aM (T:=86) (kc zK) (nO _) rfl (.tmp 4) (.tmp 12) rfl (w.heap.size+1) (kc zK) rfl rfl (jR _) rfl HX1.out.2.1 ?_;intro w7 hge7 hoe7 hbe7;have HE7:Hid (w7.heap[w.heap.size+1]?=some (.cells (kc zK) 86 (0,0))∧Below w.heap.size w w7):=(O ⟨hge7,HX1.out.2.2.1.trans (hbe7 _ (by omega))⟩);clear hge7 hoe7 hbe7))
  refine g_ (aA rfl _ _ (w.heap.size+1) _ rfl (cM _ _ _ _ HE7.out.1)) rfl ?_;exact⟨rfl,HE7.out.2⟩
 ·rw[h1] at HAT
  have HV:Hid (Bb l a=ae l i∧yV l a=0):=O ⟨by unfold Bb;rw[h2];rfl,by unfold yV;rw[H_ (by rw[h2];simp)]⟩;rw[HV.out.1,HV.out.2];obtain⟨b,off,rfl,_⟩:=HX0.out.2.2.2.rng (by omega)
  have HRG:Hid (∀y,RdK y (.slice (some ⟨b,off,none⟩) l.length vc) l→y.rangeAt b (off+i*9) (kc (ae l i)).toList):=O (fun y h=>by
   obtain⟨b',off',e,hr⟩:=h.rng (by omega)
   cases e
   exact hr i hi)
  have i1:(i:Int)<l.length:=by omega
  have i2:¬(i:Int)<0:=by omega
  generalize ae l i=y at HRG ⊢;clear h1 h2 HP
  go_enter func56,ntmps56
  go_upto_region 1 with fail
  rw[←HW.out]
  try dsimp only[Act.put]
  go_upto_region 4 with (first
   |(refine dw nx (.slice (some ⟨b,off,none⟩) l.length vc) rfl (.tmp 2) rfl w.heap.size rfl _ HX0.out.1 ?_)
   |(go_at_call 103;refine(HAT.out _ HX0.out.2.2.2).mono ?_;rintro e yy ⟨rfl,hb⟩;have HX1:=O (HX.out _ hb);clear hb))
  have c1:yy.cell? ⟨w.heap.size,1,none⟩=some (.slice (some ⟨b,off,none⟩) l.length vc):=by rw[e_ _ _ _ _ _ _ HX1.out.1];unfold tbA;rfl
  go_wp2_with (first
   |(refine E4 y b (off+i*9) (.tmp 16) rfl (HRG.out _ HX1.out.2.2.2) rfl rfl ?_)
   |(refine aM (T:=86) (kc y) (nO _) rfl (.tmp 4) (.tmp 17) rfl (w.heap.size+1) (kc zK) rfl rfl (jR _) (VY _ _) HX1.out.2.1 ?_;intro w7 hge7 hoe7 hbe7;have HE7:Hid (w7.heap[w.heap.size+1]?=some (.cells (kc y) 86 (0,0))∧Below w.heap.size w w7):=(O ⟨hge7,HX1.out.2.2.1.trans (hbe7 _ (by omega))⟩);clear hge7 hoe7 hbe7))
  refine g_ (aA rfl _ _ (w.heap.size+1) _ rfl (cM _ _ _ _ HE7.out.1)) rfl ?_;exact⟨rfl,HE7.out.2⟩
end
section
open Go.RowKit Go.Shelf
theorem LK (w:World):(sizeOf (prog.elem 43)).run prog w = .ok 9 w:=by kernel_rfl
theorem zW:prog.underlying 43=some (.slice (prog.elem 43)):=by kernel_rfl
theorem Df (l:List K) (i j k:Nat) (hk:k<j-i) (hj:j≤l.length):ae ((l.drop i).take (j-i)) k=ae l (i+k):=by
 rw[az _ _ (by rw[b_,S_];omega),az _ _ (by omega)]
 simp
theorem Ce {w:World} {a:Option Addr} {cap:Nat} {l:List K} (hv:RdK w (.slice a l.length cap) l) (i j:Nat) (hij:i≤j) (hj:j≤l.length):RdK w (sliced a i j cap 9) ((l.drop i).take (j-i)):=by
 obtain⟨a',cap',e,h1,h2,h3⟩:=hv
 cases e
 have hl:((l.drop i).take (j-i)).length=j-i:=by rw[b_,S_];omega
 refine⟨_,cap-i,by rw[hl];rfl,by rw[hl];omega,by omega,fun h0 => ?_⟩;rw[hl] at h0;obtain⟨bb,off,rfl,hlt,hc⟩:=h3 (by omega)
 have hne:¬cap=i:=by omega
 rw[H_ hne]
 have gX:(⟨bb,off,none⟩:Addr).add (i*9)=⟨bb,off+i*9,none⟩:=by unfold Addr.add;simp
 refine⟨bb,off+i*9,by rw[Option.map_some,gX],hlt,fun k hk q hq => ?_⟩;rw[hl] at hk;rw[Df l i j k hk hj,←hc (i+k) (by omega) q hq,show off+(i+k)*9+q=off+i*9+k*9+q by omega]
theorem LN {w:World} {a:Option Addr} {cap:Nat} {l:List K} (hv:RdK w (.slice a l.length cap) l) (j:Nat) (hj:j≤l.length) :
  ∃v',(∀y:World,(Instr.slice 43 (.slice a l.length cap) none (some (.int .i64 j)) none).run prog y = .ok v' y)∧∀y,RdK y (.slice a l.length cap) l→RdK y v' (l.take j):=by
 obtain⟨a0,c0,e0,h1,h2,_⟩:=id hv
 cases e0
 refine⟨sliced a 0 j cap 9,fun y => ?_,fun y hy => ?_⟩
 case refine_2 =>
  have h:=Ce hy 0 j (N_ _) hj;rw[L_,Nat.sub_zero] at h;exact h
 rw[run_slice_h y _ a _ cap zW .i64 _ (by omega) (by omega),LK]
 simp[Result.andThen]
theorem LO {w:World} {a:Option Addr} {cap:Nat} {l:List K} (hv:RdK w (.slice a l.length cap) l) (i:Nat) (hi:i≤l.length) :
  ∃v',(∀y:World,(Instr.slice 43 (.slice a l.length cap) (some (.int .i64 i)) none none).run prog y = .ok v' y)∧∀y,RdK y (.slice a l.length cap) l→RdK y v' (l.drop i):=by
 obtain⟨a0,c0,e0,h1,h2,_⟩:=id hv
 cases e0
 refine⟨sliced a i l.length cap 9,fun y => ?_,fun y hy => ?_⟩
 case refine_2 =>
  have h:=Ce hy i l.length hi (A_ _);rw[Y_ (by rw[S_];exact A_ _)] at h;exact h
 rw[run_slice_l y _ a _ cap zW .i64 _ (by omega) (by omega),LK]
 simp[Result.andThen]
theorem b7.form2 {w:World} {b:Nat} {v:Value} {l:List K} (h:b7 w b v l):∃a c,v = .slice a l.length c:=by
 obtain⟨a,c,rfl,_⟩:=h.rd;exact⟨a,c,rfl⟩
theorem B7 (w:World):(underlying 43).run prog w = .ok (.slice (prog.elem 43)) w:=by
 simp[underlying,zW]
 kernel_rfl
theorem DX {o:Oper} {a:Act} {S:World→Prop} {ops:Array Oper} (va:Option Addr) (vn vc:Nat) (u v2:Value) (x y:Operand) (hw:Region.wanted o (yielded ops a.tmps)=true) (ho:o.op = .slice 43 x (some y) none none) (hx:a.eval x = .slice va vn vc) (hy:a.eval y=u)
  (hr:∀w,(Instr.slice 43 (.slice va vn vc) (some u) none none).run prog w = .ok v2 w):YieldsIf prog ops S o v2 a:=by
 refine .inl ⟨hw,fun w hS => ?_⟩;unfold execOp;simp only[ho,hx,hy,Option.map_some,Option.map_none,Instr.sliceAt,B7,Sem.run_bind,hr w,Sem.run_pure,Result.andThen_ok]
attribute [local irreducible] Calls tbA kc atI
theorem Lk (nx:Int) (v:Value) (l:List K) (a:Int) (w:World) (hv:RdK w v l) (hg:eA l a≠none) (hl:l.length≤5000) :
  Calls prog 57 #[.agg (tbA nx v),.int .i64 a] w fun e w'=>∃va vn vc,e = .returned (.tuple #[.agg (tbA nx (.slice va vn vc)),.int .i64 0])∧RdK w' (.slice va vn vc) (rmK l a)∧Below w.heap.size w w'∧(∀b,va=some b→w.heap.size≤b.block):=by
 have hz:=rq;obtain⟨W0,hW0⟩:∃W0,W0=(w.alloc (.cells (tbA nx v) 45)).alloc (.cells (tbA 0 ah) 45):=⟨_,rfl⟩;have HW:=O hW0
 have hb0:Below w.heap.size w W0:=by rw[hW0];exact dm w _ _ (O_ _ _)
 have HX:Hid (∀y,Below W0.heap.size W0 y→y.heap[w.heap.size]?=some (.cells (tbA nx v) 45 (0,0))∧y.heap[w.heap.size+1]?=some (.cells (tbA 0 ah) 45 (0,0))∧Below w.heap.size w y∧RdK y v l):=O (fun y hy=>⟨by rw[hW0] at hy;exact aa (eP _ _ _) hy,by rw[hW0] at hy;exact aa (eR _ _ _) hy,hb0.trans (hy.mono hb0.size),(hv.on hb0).on hy⟩);have HAT:=O (fun (y:World) (h:RdK y v l)=>U5 nx v l a y h);obtain⟨va,vc,rfl,_,_,_⟩:=id hv;have HX0:=O (HX.out W0 (O_ _ _));have HZ0:Hid (w.heap.size≤W0.heap.size):=O hb0.size
 rcases rx l a with⟨_,h2,_⟩|⟨i,hi,h1,_,h3,_,_⟩
 ·exact absurd h2 hg
 rw[h1] at HAT;rw[h3];obtain⟨s1,hs1,hr1⟩:=LN hv i (by omega);obtain⟨s2,hs2,hr2⟩:=LO hv (i+1) (by omega);rw[show ((i+1:Nat):Int)=(i:Int)+1 by omega] at hs2;have HR1:=O hr1;have HR2:=O hr2;have HLN:Hid ((l.take i).length≤5000∧(l.drop (i+1)).length≤5000):=O ⟨by rw[b_];omega,by rw[S_];omega⟩
 have i1:(i:Int)<l.length:=by omega
 have i2:¬(i:Int)<0:=by omega
 have hwr:IntKind.i64.wrap ((i:Int)+1)=(i:Int)+1:=by rw[IntKind.wrap_i64];omega
 generalize l.take i=l1 at HR1 HLN ⊢;generalize l.drop (i+1)=l2 at HR2 HLN ⊢;clear hW0 hb0 hv h1 h3 hg hr1 hr2
 go_enter func57,ntmps57
 go_upto_region 1 with fail
 rw[←HW.out]
 try dsimp only[Act.put]
 go_upto_region 5 with (first
  |(refine dw nx (.slice va l.length vc) rfl (.tmp 2) rfl w.heap.size rfl _ HX0.out.1 ?_)
  |(go_at_call 103;refine(HAT.out _ HX0.out.2.2.2).mono ?_;rintro e yy ⟨rfl,hb⟩;have HB:=O hb;have HX1:=O (HX.out _ hb);clear hb))
 have c1:yy.cell? ⟨w.heap.size,1,none⟩=some (.slice va l.length vc):=by rw[e_ _ _ _ _ _ _ HX1.out.1];unfold tbA;rfl
 go_upto_region 6 with (at_builtin;refine wO rfl (.tmp 14) (.tmp 18) rfl W0.heap.size _ [] rfl (b7.nil _ _) s1 l1 rfl (HR1.out _ HX1.out.2.2.2) (by have := HLN.out.1;simp;omega) HB.out.size ?_;intro v8 y8 ho8 hb8;have HO8:=O ho8;have HB8:=O (HB.out.trans hb8);have HX8:=O (HX.out _ HB8.out);clear ho8 hb8)
 clear c1 HX1;rw[List.nil_append] at HO8;obtain⟨pa,pc,rfl⟩:=HO8.out.form2;refine fe (fun y=>y.heap[w.heap.size]?=some (.cells (tbA nx (.slice va l.length vc)) 45 (0,0))) [0,1,2,3,4,5,6,7] [8,9,10,11] ?h1 ?h2 ?h3 ?h4 ?h5
 case h1=>intro c a d v w h;cases d <;> exact h
 case h2=>kernel_rfl
 case h3=>kernel_rfl
 case h4=>exact HX8.out.1
 case h5 =>
  simp only[cT,List.filterMap_cons,List.filterMap_nil,List.getElem?_toArray,List.getElem?_cons_succ,List.getElem?_cons_zero];refine⟨_,aR (.pointer (some ⟨w.heap.size,0,none⟩)) rfl (fun y hy=>by kernel_rfl),?_⟩;simp only[Act.put,B_,C_,D_];refine⟨_,gC (.int .i64 nx) ⟨w.heap.size,0,none⟩ 3 (.tmp 20) rfl rfl rfl (fun y hy=>ff y _ _ (by rw[e_ _ _ _ _ _ _ hy];unfold tbA;rfl)),?_⟩;simp only[Act.put,B_,C_,D_];refine⟨_,aR (.slice pa l1.length pc) rfl (fun y hy=>by kernel_rfl),?_⟩;simp only[Act.put,B_,C_,D_];refine⟨_,aR (.pointer (some ⟨w.heap.size,1,none⟩)) rfl (fun y hy=>by kernel_rfl),?_⟩;simp only[Act.put,B_,C_,D_];refine⟨_,gC (.slice va l.length vc) ⟨w.heap.size,1,none⟩ 43 (.tmp 23) rfl rfl rfl (fun y hy=>nW y _ _ _ _ (by rw[e_ _ _ _ _ _ _ hy];unfold tbA;rfl)),?_⟩;simp only[Act.put,B_,C_,D_];refine⟨_,aR (.int .i64 i) rfl (fun y hy=>by kernel_rfl),?_⟩;simp only[Act.put,B_,C_,D_];refine⟨_,aR (.int .i64 ((i:Int)+1)) rfl (fun y hy=>by simp[go_sem,hwr]),?_⟩;simp only[Act.put,B_,C_,D_];refine⟨_,DX va l.length vc (.int .i64 ((i:Int)+1)) s2 (.tmp 24) (.tmp 26) rfl rfl rfl rfl hs2,?_⟩;simp only[Act.put,B_,C_,D_];have HO9:=O (HO8.out.on (O_ _ _).drew);have HB9:Hid (Below W0.heap.size W0 y8.drew):=O HB8.out.drew;have HX9:=O (HX.out _ HB9.out);generalize y8.drew=y9 at HO9 HB9 HX9 ⊢;clear HO8 HB8 HX8;intro Q1 HQ1
  go_wp2_with (at_builtin;refine wO rfl (.tmp 22) (.tmp 27) rfl W0.heap.size _ l1 rfl HO9.out s2 l2 rfl (HR2.out _ HX9.out.2.2.2) (by have := HLN.out;omega) HB9.out.size ?_;intro v10 y10 ho10 hb10;have HO10:=O ho10;have HB10:=O (HB9.out.trans hb10);have HX10:=O (HX.out _ HB10.out);clear ho10 hb10)
  refine HQ1.out _ _ HX10.out.1 ?_;clear HQ1 HO9 HB9 HX9;obtain⟨qa,qc,rfl⟩:=HO10.out.form2
  try simp only[Act.put,B_,C_,D_]
  intro Q2 HQ2;refine CC nx qa (l1++l2).length qc rfl _ _ rfl rfl rfl ?_;refine HQ2.out _ _ HX10.out.1 ?_;clear HQ2
  try simp only[Act.put,B_,C_,D_]
  intro Q3 HQ3;refine aM (T:=45) (tbA nx (.slice qa (l1++l2).length qc)) (cZ _ _) rfl (.tmp 4) (.tmp 29) rfl (w.heap.size+1) (tbA 0 ah) rfl rfl (dP _ _ _ _) (fg _ _ _ _) HX10.out.2.1 ?_;intro w7 hge7 hoe7 hbe7;have HE7:Hid (w7.heap[w.heap.size+1]?=some (.cells (tbA nx (.slice qa (l1++l2).length qc)) 45 (0,0))∧Below w.heap.size w w7):=(O ⟨hge7,HX10.out.2.2.1.trans (hbe7 _ (by omega))⟩);have HR7:=O (HO10.out.rd.nb HX10.out.2.1 (pA _ _ _ _) hoe7 (hbe7 0 (N_ _)).size);have HS7:=O ((hoe7 w.heap.size (by omega)).trans HX10.out.1);refine HQ3.out _ _ HS7.out ?_;clear HQ3 hge7 hoe7 hbe7
  try simp only[Act.put,B_,C_,D_]
  intro Q4 HQ4;go_wp2;refine HQ4.out _ _ HS7.out ?_;clear HQ4
  try simp only[Act.put,B_,C_,D_]
  refine el ?_;go_wp2;refine g_ (aA rfl _ _ (w.heap.size+1) _ rfl (nt _ _ _ _ _ HE7.out.1)) rfl ?_;refine⟨_,_,_,rfl,HR7.out,HE7.out.2,fun b hb2 => ?_⟩;subst hb2
  rcases HO10.out.2 with⟨h1,_⟩|⟨g0,cap,cur,h1,h2,_⟩
  ·cases h1
  ·cases h1
   exact M_ HZ0.out h2
end
section
open Go.RowKit
structure bS (J:World→Prop):Prop where
 on:∀y y':World,J y→Below y.heap.size y y'→J y'
theorem bS.and {J L:World→Prop} (h:bS J) (k:bS L):bS fun y=>J y∧L y:=⟨fun y y' hj hb=>⟨h.on y y' hj.1 hb,k.on y y' hj.2 hb⟩⟩
theorem bS.row (g:Nat) (cs:Array Value) (T:TypeId):bS fun y=>y.heap[g]?=some (.cells cs T (0,0)):=⟨fun _ _ h hb=>aa h hb⟩
theorem bS.rdK (v:Value) (l:List K):bS fun y=>RdK y v l:=⟨fun _ _ h hb=>h.on hb⟩
theorem bS.rdE {α:Type} (E:El α) (v:Value) (l:List α):bS fun y=>RdE E y v l:=⟨fun _ _ h hb=>h.on hb⟩
theorem bS.b (w:World):bS fun y=>Below w.heap.size w y:=⟨fun _ _ h hb=>h.trans (hb.mono h.size)⟩
theorem bS.new {J:World→Prop} (hs:bS J) {y:World} (h:J y) (cs:Array Value) (T:TypeId):∃g,g=y.heap.size∧(J (y.alloc (.cells cs T))∧(y.alloc (.cells cs T)).heap[g]?=some (.cells cs T (0,0))) :=
 ⟨_,rfl,hs.on y _ h ((O_ y.heap.size y).alloc (A_ _) _),heap_alloc_new _ _⟩
open Go.RowKit
theorem Km {ops:Array Oper} {rest:List Oper} {o:Oper} {a:Act} {w:World} {Q:Exit→Act→World→Prop} (d:DO) (g off:Nat) (x:Operand) (ho:o.op = .load 25 x) (hc:w.rangeAt g off (doA d).toList)
  (hx:a.eval x = .pointer (some ⟨g,off,none⟩)) (hgd:Region.wanted o (yielded ops a.tmps)=true)
  (h:wpList prog ops Q rest (a.put o.dst (.agg (doA d))) w):wpList prog ops Q (o::rest) a w :=
 wpList_step fun K hK=>by
  rw[G_ hgd];exact wp_load_mid _ x ho g off hx (doA d).toList _ hc underlying25 rfl (by rw[Array.length_toList,kW];exact u9) (hK _ _ h)
end
end Go.Proofs.YtmfiaadjdbemnaaGreatDoor
