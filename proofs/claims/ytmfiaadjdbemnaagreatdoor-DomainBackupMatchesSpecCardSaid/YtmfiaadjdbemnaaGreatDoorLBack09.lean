/- Contracts and lemmas. No condition. -/
import Derived.Test.YtmfiaadjdbemnaaGreatDoorLBack07
import Derived.Deep.Cut
import Derived.Maps.OwnOps
import Derived.Maps.Views
import Derived.WalkArith
set_option maxRecDepth 100000
set_option maxHeartbeats 8000000
set_option linter.unusedSimpArgs false
set_option linter.unusedVariables false
namespace Go.Proofs.YtmfiaadjdbemnaaGreatDoor
open Go.Proofs.Tryz
section
open Go.RowKit Go.Shelf
attribute [local irreducible] Calls bF aV cd bh am
theorem Bg (b:BK) (u:Value) (w:World) (hb:b.wf) (hmo:b.mo.length≤100000) :
  Calls prog 82 #[.agg (bc b u)] w fun e w'=>e = .returned (.string ⟨(bh b).toArray⟩)∧Below w.heap.size w w':=by
 have HWF:=O hb;have HMO:=O hmo;obtain⟨W0,hW0⟩:∃W0,W0=w.alloc (.cells (bc b u) 47):=⟨_,rfl⟩
 have HROW:Hid (∀w1,Below W0.heap.size W0 w1→w1.heap[w.heap.size]?=some (.cells (bc b u) 47 (0,0))):=O (by
  intro w1 h;rw[hW0] at h;rw[h.block _ (by simp)]
  exact al _ _ _ rfl)
 have HBE:Hid (∀w1,Below W0.heap.size W0 w1→Below w.heap.size w w1):=O (by
  intro w1 h;rw[hW0] at h
  exact cJ _ _ h)
 have HSZ:Hid (w.heap.size<W0.heap.size):=O (by rw[hW0];simp);have HW:=O hW0;have hd1:=hb.dom;have hd2:=hb.pol;have hns:=yR b.ep b.num b.fw b.tm;have hel:=cW b.mo;have HP:Hid (bh b=b.dom++(cd [b.ep,b.num,b.fw,b.tm]++(b.pol++aV b.mo))):=O (by unfold bh;rfl);have HNU:=O hb.nums;obtain⟨ns,hnse⟩:∃ns,ns=cd [b.ep,b.num,b.fw,b.tm]:=⟨_,rfl⟩;rw[←hnse] at hns HP;have HNS:=O hnse;obtain⟨es,hes⟩:∃es,es=aV b.mo:=⟨_,rfl⟩;rw[←hes] at hel HP;have HES:=O hes
 have q1:¬9223372036854775807<b.dom.length+ns.length:=by omega
 have q2:¬9223372036854775807<b.dom.length+ns.length+b.pol.length:=by omega
 have q3:¬9223372036854775807<b.dom.length+ns.length+b.pol.length+es.length:=by omega
 have HD1:=O hd1;have HD2:=O hd2;clear hb hW0 hmo hd1 hd2 hnse hes hns hel
 go_enter func82,ntmps82
 go_upto_region 1 with fail
 rw[←HW.out]
 try dsimp only[Act.put]
 refine aY 24 [[],[0],[1],[],[3],[],[5],[],[7],[],[9],[4,6,8,10],[11],[12],[2,13],[],[15],[16],[14,17],[],[19],[20],[21],[18,22]]
  (SP.of [.eq (.pointer (some ⟨w.heap.size,0,none⟩)),.eq (.agg (am b.dom)),.eq (.string ⟨b.dom.toArray⟩),.eq (.pointer (some ⟨w.heap.size,16,none⟩)),.eq (.int .i64 b.ep),.eq (.pointer (some ⟨w.heap.size,17,none⟩)),.eq (.int .i64 b.num),
   .eq (.pointer (some ⟨w.heap.size,18,none⟩)),.eq (.int .i64 b.fw),.eq (.pointer (some ⟨w.heap.size,19,none⟩)),.eq (.int .i64 b.tm),.freshS W0.heap.size 4 #[.int .i64 b.ep,.int .i64 b.num,.int .i64 b.fw,.int .i64 b.tm] 3,.ownR W0.heap.size ns,.eq (.string ⟨ns.toArray⟩),.eq (.string ⟨(b.dom++ns).toArray⟩),
   .eq (.pointer (some ⟨w.heap.size,20,none⟩)),.eq (.agg (am b.pol)),.eq (.string ⟨b.pol.toArray⟩),.eq (.string ⟨(b.dom++(ns++b.pol)).toArray⟩),.eq (.pointer (some ⟨w.heap.size,36,none⟩)),.eq (.string ⟨b.mo.toArray⟩),.ownR W0.heap.size es,.eq (.string ⟨es.toArray⟩),.eq (.string ⟨(b.dom++(ns++(b.pol++es))).toArray⟩)]) (fun _=>undef) ?h1 ?h2 ?h3 ?h4 ?h5 ?h6
 case h1=>kernel_rfl
 case h2=>kernel_rfl
 case h3=>kernel_rfl
 case h4 =>
  simp only[F_,c_]
  repeat (first |exact trivial|refine⟨fun vals v=>by kernel_rfl,?_⟩)
 case h5 =>
  simp only[F_,c_];refine⟨?_,?_,?_,?_,?_,?_,?_,?_,?_,?_,?_,?_,?_,?_,?_,?_,?_,?_,?_,?_,?_,?_,?_,?_,trivial⟩
  all_goals (intro wq hbq vals;simp only[Nat.reduceAdd,a_,X_,W_];have HBQ:=O hbq;have HR:=O (HROW.out wq hbq);clear hbq;repeat (first |refine ar ?_|refine aw rfl ?_))
  case refine_13 =>
   refine aG rfl ?_;rintro _ ⟨g,rfl,hg1,hg2⟩;refine ar ?_;intro Q hQ;simp only[ay,upd,Act.put,B_,C_,D_,Nat.reduceAdd,a_,Nat.reduceEqDiff,if_true,if_false,reduceIte];have HG2:=O hg2;clear hg1 hg2
   go_wp2_with (go_at_call 130;refine(EU _ [b.ep,b.num,b.fw,b.tm] wq (lq HG2.out [b.ep,b.num,b.fw,b.tm] rfl (by simp)) HNU.out (by have := yR b.ep b.num b.fw b.tm;omega) (by simp)).mono ?_;rintro e x1 ⟨v1,rfl,ho1,hx1⟩;rw[←HNS.out] at ho1;have HO1:=O ho1;have HX1:=O hx1;clear ho1 hx1)
   exact ab hQ _ (by kernel_rfl) HX1.out (HO1.out.mono HBQ.out.size)
  case refine_14 =>
   refine aG rfl ?_;intro v1 ho1;refine ar ?_;intro Q hQ;simp only[ay,upd,Act.put,B_,C_,D_,Nat.reduceAdd,a_,Nat.reduceEqDiff,if_true,if_false,reduceIte];have hcv:=b6 (show ap eB wq W0.heap.size v1 ns from ho1).rd;clear ho1;go_wp2;exact ab hQ _ (by kernel_rfl) (O_ _ _) rfl
  case refine_23 =>
   refine aG rfl ?_;intro v1 ho1;refine ar ?_;intro Q hQ;simp only[ay,upd,Act.put,B_,C_,D_,Nat.reduceAdd,a_,Nat.reduceEqDiff,if_true,if_false,reduceIte];have hcv:=b6 (show ap eB wq W0.heap.size v1 es from ho1).rd;clear ho1;go_wp2;exact ab hQ _ (by kernel_rfl) (O_ _ _) rfl
  all_goals (intro Q hQ;simp only[ay,upd,Act.put,B_,C_,D_,Nat.reduceAdd,a_,Nat.reduceEqDiff,if_true,if_false,reduceIte])
  case refine_2 =>
   go_wp2_with (refine db b.dom w.heap.size 0 (.tmp 3) ?_ (yA HR.out) ?_ ?_ ?_;exact rfl;exact rfl;exact rfl)
   exact ab hQ _ (by kernel_rfl) (O_ _ _) rfl
  case refine_17 =>
   go_wp2_with (refine db b.pol w.heap.size 20 (.tmp 18) ?_ (yB HR.out) ?_ ?_ ?_;exact rfl;exact rfl;exact rfl)
   exact ab hQ _ (by kernel_rfl) (O_ _ _) rfl
  case refine_3 =>
   go_wp2_with (go_at_call 129;refine(Mh b.dom HD1.out wq).mono ?_;rintro e x1 ⟨rfl,hx1⟩)
   exact ab hQ _ (by kernel_rfl) hx1 rfl
  case refine_18 =>
   go_wp2_with (go_at_call 129;refine(Mh b.pol HD2.out wq).mono ?_;rintro e x1 ⟨rfl,hx1⟩)
   exact ab hQ _ (by kernel_rfl) hx1 rfl
  case refine_12 =>
   go_wp2;exact ab hQ _ (by kernel_rfl) ((O_ _ _).alloc (A_ _) _) ⟨wq.heap.size,rfl,HBQ.out.size,al _ _ _ rfl⟩
  case refine_22 =>
   go_wp2_with (go_at_call 84;refine(lH b.mo wq (by have := HMO.out;omega)).mono ?_;rintro e x1 ⟨v1,rfl,ho1,hx1⟩;rw[←HES.out] at ho1;have HO1:=O ho1;have HX1:=O hx1;clear ho1 hx1)
   exact ab hQ _ (by kernel_rfl) HX1.out (HO1.out.mono HBQ.out.size)
  case refine_5 =>
   have c:wq.cell? ⟨w.heap.size,16,none⟩=some (.int .i64 b.ep):=(e_ _ _ _ _ _ _ HR.out).trans (uj b u);go_wp2;exact ab hQ _ (by kernel_rfl) (O_ _ _) rfl
  case refine_7 =>
   have c:wq.cell? ⟨w.heap.size,17,none⟩=some (.int .i64 b.num):=(e_ _ _ _ _ _ _ HR.out).trans (sy b u);go_wp2;exact ab hQ _ (by kernel_rfl) (O_ _ _) rfl
  case refine_9 =>
   have c:wq.cell? ⟨w.heap.size,18,none⟩=some (.int .i64 b.fw):=(e_ _ _ _ _ _ _ HR.out).trans (ul b u);go_wp2;exact ab hQ _ (by kernel_rfl) (O_ _ _) rfl
  case refine_11 =>
   have c:wq.cell? ⟨w.heap.size,19,none⟩=some (.int .i64 b.tm):=(e_ _ _ _ _ _ _ HR.out).trans (um b u);go_wp2;exact ab hQ _ (by kernel_rfl) (O_ _ _) rfl
  case refine_21 =>
   have c:wq.cell? ⟨w.heap.size,36,none⟩=some (.string ⟨b.mo.toArray⟩):=(e_ _ _ _ _ _ _ HR.out).trans (uo b u);go_wp2;exact ab hQ _ (by kernel_rfl) (O_ _ _) rfl
  all_goals go_wp2
  all_goals exact ab hQ _ (by kernel_rfl) (O_ _ _) rfl
 case h6 =>
  intro wq hbq vals;rw[show List.range 24=[0,1,2,3,4,5,6,7,8,9,10,11,12,13,14,15,16,17,18,19,20,21,22,23] from by decide]
  repeat (first |refine ar ?_|refine aw rfl ?_|(refine aG rfl ?_;intro _ _))
  simp only[F_,c_,J_,L_];simp only[ay,upd,Act.put,B_,C_,D_,Nat.reduceAdd,a_,Nat.reduceEqDiff,if_true,if_false,reduceIte];have HBQ:=O hbq;clear hbq;go_wp2;go_ret;exact⟨by rw[HP.out];rfl,HBE.out _ HBQ.out⟩
end
section
open Go.RowKit Go.Shelf
theorem wG (l:List K) (j:Nat) (h:j<l.length):(l.take j).map bG++[bG (ae l j)]=(l.take (j+1)).map bG:=by
 rw[mj l j h,List.map_append]
 rfl
attribute [local irreducible] Calls bF aV cd eN bG b9
theorem Gl (b:BK) (v:Value) (l:List K) (w:World) (hv:RdK w v l) (hok:∀i,i<l.length→(ae l i).ok) (hn:l.length≤5000) (hl:(b9 l).length≤900000) :
  Calls prog 83 #[.agg (bc b v)] w fun e w'=>e = .returned (.string ⟨(b9 l).toArray⟩)∧Below w.heap.size w w':=by
 obtain⟨W0,hW0⟩:∃W0,W0=w.alloc (.cells (bc b v) 47):=⟨_,rfl⟩;have HV:Hid (RdK W0 v l):=O (by rw[hW0];exact hv.alloc _)
 have HBX:Hid (∀w1,Below W0.heap.size W0 w1→w1.cell? ⟨w.heap.size,37,none⟩=some v):=O (by
  intro w1 h;rw[hW0] at h
  exact(gi _ _ _ h 37).trans (iU b v))
 have HBE:Hid (∀w1,Below W0.heap.size W0 w1→Below w.heap.size w w1):=O (by
  intro w1 h;rw[hW0] at h
  exact cJ _ _ h)
 have HW:=O hW0;have HOK:=O hok;have HL:=O hl
 have hni:(l.length:Int)≤5000:=by omega
 have HN:=O hn;obtain⟨a,cap,rfl,_,_,_⟩:=hv;clear hok hl hn hW0
 go_enter func83,ntmps83
 go_upto_region 1 with fail
 rw[←HW.out];go_wp2
 go_loopw [4,3] (fun i o wr=>∃j:Nat,j≤l.length∧i = .int .i64 j∧Hid (ap eS wr W0.heap.size o ((l.take j).map bG))∧Hid (Below W0.heap.size W0 wr)) (fun i _ _=>l.length-(intOf i).toNat)
 case atStart=>exact⟨0,N_ _,rfl,O (ap.nil _ _),O (O_ _ _)⟩
 case round =>
  obtain⟨j,hj,rfl,hown,hb⟩:=hrel;have t1:=HBX.out wr hb.out
  by_cases hlt:j<l.length
  ·obtain⟨bb,off,rfl,hbl,aO⟩:=((HV.out.on hb.out).cells) (by omega)
   obtain⟨d0,d1,d2,d3,d4,d5,d6,d7,d8⟩:=aO j hlt
   have j1:(j:Int)<l.length:=by omega
   have HJ:=O hlt;have HKO:=O (HOK.out j hlt);have HNX:=O (wG l j hlt);have HML:Hid (((l.take j).map bG).length≤5000):=O (by rw[List.length_map,b_];have := HN.out;omega);generalize ae l j=k at d0 d1 d2 d3 d4 d5 d6 d7 d8 HKO HNX;clear aO hlt hj
   go_upto_if 20 with fail
   go_cut [6,18,20] from 21 to 21 (fun r _ _ wc=>r = .int .i64 (oG k.raw)∧wc=wr.alloc (.cells (kc k) 86))
   case first =>
    cases hr:k.raw with
    | true =>
      have HR:=O hr;clear hr;go_wp2
      all_goals go_meet
      case rel=>exact⟨by rw[HR.out];rfl,by unfold kc;rw[HR.out]⟩
    | false =>
      have HR:=O hr;clear hr;go_wp2
      all_goals go_meet
      case rel=>exact⟨by rw[HR.out];rfl,by unfold kc;rw[HR.out]⟩
   case rest =>
    obtain⟨rfl,hwc⟩:=hcut;have HB1:Hid (Below W0.heap.size W0 wc):=O (by rw[hwc];exact hb.out.alloc (hb.out.size) _);have HK1:Hid (wc.heap[wr.heap.size]?=some (.cells (kc k) 86 (0,0))):=O (by rw[hwc];exact al _ _ _ rfl);have HO1:Hid (ap eS wc W0.heap.size u3 ((l.take j).map bG)):=O (by rw[hwc];exact hown.out.on ((O_ _ _).alloc (A_ _) _));have HRZ:Hid (wr.heap.size<wc.heap.size):=O (by rw[hwc];simp);clear hwc d0 d1 d2 d3 d4 d5 d6 d7 d8 hown t1;have hns:=uO k;have hek:=lK k;have HEK:Hid (eN [cd (bO k),k.val]=bG k):=O (by unfold bG;rfl);obtain⟨ns,hnse⟩:∃ns,ns=cd (bO k):=⟨_,rfl⟩;rw[←hnse] at hns HEK;have HNS:=O hnse;obtain⟨es,hes⟩:∃es,es=bG k:=⟨_,rfl⟩;rw[←hes] at hek HEK HNX;have HEL:=O hek;clear hnse hes hek hns
    go_upto_region 9 with fail
    try dsimp only[Act.put]
    refine aY 25 [[],[],[1],[],[3],[],[5],[],[7],[],[9],[],[11],[],[13],[],[2,4,6,8,10,12,14,15],[16],[17],[],[19],[18,20],[21],[22],[23]]
     (SP.of [.eq u3,.eq (.pointer (some ⟨wr.heap.size,0,none⟩)),.eq (.int .i64 k.id),.eq (.pointer (some ⟨wr.heap.size,1,none⟩)),.eq (.int .i64 k.ty),.eq (.pointer (some ⟨wr.heap.size,3,none⟩)),.eq (.int .i64 k.uses),.eq (.pointer (some ⟨wr.heap.size,4,none⟩)),.eq (.int .i64 k.start),
      .eq (.pointer (some ⟨wr.heap.size,5,none⟩)),.eq (.int .i64 k.fin),.eq (.pointer (some ⟨wr.heap.size,6,none⟩)),.eq (.int .i64 k.ver),.eq (.pointer (some ⟨wr.heap.size,7,none⟩)),.eq (.int .i64 k.par),.eq (.int .i64 (oG k.raw)),
      .freshS wc.heap.size 8 #[.int .i64 k.id,.int .i64 k.ty,.int .i64 k.uses,.int .i64 k.start,.int .i64 k.fin,.int .i64 k.ver,.int .i64 k.par,.int .i64 (oG k.raw)] 3,.ownR wc.heap.size ns,.eq (.string ⟨ns.toArray⟩),
      .eq (.pointer (some ⟨wr.heap.size,2,none⟩)),.eq (.string ⟨k.val.toArray⟩),.freshS wc.heap.size 2 #[.string ⟨ns.toArray⟩,.string ⟨k.val.toArray⟩] 9,.ownR wc.heap.size es,.eq (.string ⟨es.toArray⟩),.freshS wc.heap.size 1 #[.string ⟨es.toArray⟩] 9]) (fun i=>([u21,u22,u23,u24,u25,u26,u27,u28,u29,u30,u31,u32,u33,u34,u35,u36,u37,u38,u39,u40,u41,u42,u43,u44,u45]:List Value).getD i undef) ?h1 ?h2 ?h3 ?h4 ?h5 ?h6
    case h1=>kernel_rfl
    case h2=>kernel_rfl
    case h3=>kernel_rfl
    case h4 =>
     simp only[F_,c_]
     repeat (first |exact trivial|refine⟨fun vals v=>by kernel_rfl,?_⟩)
    case h5 =>
     simp only[F_,c_];refine⟨?_,?_,?_,?_,?_,?_,?_,?_,?_,?_,?_,?_,?_,?_,?_,?_,?_,?_,?_,?_,?_,?_,?_,?_,?_,trivial⟩
     all_goals (intro wq hbq vals;simp only[Nat.reduceAdd,a_,X_,W_];have HBQ:=O hbq;have HR:Hid (wq.heap[wr.heap.size]?=some (.cells (kc k) 86 (0,0))):=O (by rw[hbq.block _ HRZ.out];exact HK1.out);clear hbq;repeat (first |refine ar ?_|refine aw rfl ?_))
     case refine_18 =>
      refine aG rfl ?_;rintro _ ⟨g,rfl,hg1,hg2⟩;refine ar ?_;intro Q hQ;simp only[ay,upd,Act.put,B_,C_,D_,Nat.reduceAdd,a_,Nat.reduceEqDiff,if_true,if_false,reduceIte];have HG2:=O hg2;clear hg1 hg2
      go_wp2_with (go_at_call 130;refine(EU _ (bO k) wq (lq HG2.out (bO k) rfl (by unfold bO;simp)) HKO.out.nums (by have := uO k;omega) (by unfold bO;simp)).mono ?_;rintro e x1 ⟨v1,rfl,ho1,hx1⟩;rw[←HNS.out] at ho1;have HO1':=O ho1;have HX1:=O hx1;clear ho1 hx1)
      exact ab hQ _ (by kernel_rfl) HX1.out (HO1'.out.mono HBQ.out.size)
     case refine_19 =>
      refine aG rfl ?_;intro v1 ho1;refine ar ?_;intro Q hQ;simp only[ay,upd,Act.put,B_,C_,D_,Nat.reduceAdd,a_,Nat.reduceEqDiff,if_true,if_false,reduceIte];have hcv:=b6 (show ap eB wq wc.heap.size v1 ns from ho1).rd;clear ho1;go_wp2;exact ab hQ _ (by kernel_rfl) (O_ _ _) rfl
     case refine_23 =>
      refine aG rfl ?_;rintro _ ⟨g,rfl,hg1,hg2⟩;refine ar ?_;intro Q hQ;simp only[ay,upd,Act.put,B_,C_,D_,Nat.reduceAdd,a_,Nat.reduceEqDiff,if_true,if_false,reduceIte];have HG2:=O hg2;clear hg1 hg2
      go_wp2_with (go_at_call 131;refine(vX _ [ns,k.val] wq (lq HG2.out [ns,k.val] rfl (by simp)) (by rw[HEK.out];have := HEL.out;have := HKO.out.val;omega) (by simp)).mono ?_;rintro e x1 ⟨v1,rfl,ho1,hx1⟩;rw[HEK.out] at ho1;have HO1':=O ho1;have HX1:=O hx1;clear ho1 hx1)
      exact ab hQ _ (by kernel_rfl) HX1.out (HO1'.out.mono HBQ.out.size)
     case refine_24 =>
      refine aG rfl ?_;intro v1 ho1;refine ar ?_;intro Q hQ;simp only[ay,upd,Act.put,B_,C_,D_,Nat.reduceAdd,a_,Nat.reduceEqDiff,if_true,if_false,reduceIte];have hcv:=b6 (show ap eB wq wc.heap.size v1 es from ho1).rd;clear ho1;go_wp2;exact ab hQ _ (by kernel_rfl) (O_ _ _) rfl
     all_goals (intro Q hQ;simp only[ay,upd,Act.put,B_,C_,D_,Nat.reduceAdd,a_,Nat.reduceEqDiff,if_true,if_false,reduceIte])
     case refine_17 =>
      go_wp2;exact ab hQ _ (by kernel_rfl) ((O_ _ _).alloc (A_ _) _) ⟨wq.heap.size,rfl,HBQ.out.size,al _ _ _ rfl⟩
     case refine_22 =>
      go_wp2;exact ab hQ _ (by kernel_rfl) ((O_ _ _).alloc (A_ _) _) ⟨wq.heap.size,rfl,HBQ.out.size,al _ _ _ rfl⟩
     case refine_25 =>
      go_wp2;exact ab hQ _ (by kernel_rfl) ((O_ _ _).alloc (A_ _) _) ⟨wq.heap.size,rfl,HBQ.out.size,al _ _ _ rfl⟩
     case refine_3 =>
      have c:wq.cell? ⟨wr.heap.size,0,none⟩=some (.int .i64 k.id):=(e_ _ _ _ _ _ _ HR.out).trans rfl;go_wp2;exact ab hQ _ (by kernel_rfl) (O_ _ _) rfl
     case refine_5 =>
      have c:wq.cell? ⟨wr.heap.size,1,none⟩=some (.int .i64 k.ty):=(e_ _ _ _ _ _ _ HR.out).trans rfl;go_wp2;exact ab hQ _ (by kernel_rfl) (O_ _ _) rfl
     case refine_7 =>
      have c:wq.cell? ⟨wr.heap.size,3,none⟩=some (.int .i64 k.uses):=(e_ _ _ _ _ _ _ HR.out).trans rfl;go_wp2;exact ab hQ _ (by kernel_rfl) (O_ _ _) rfl
     case refine_9 =>
      have c:wq.cell? ⟨wr.heap.size,4,none⟩=some (.int .i64 k.start):=(e_ _ _ _ _ _ _ HR.out).trans rfl;go_wp2;exact ab hQ _ (by kernel_rfl) (O_ _ _) rfl
     case refine_11 =>
      have c:wq.cell? ⟨wr.heap.size,5,none⟩=some (.int .i64 k.fin):=(e_ _ _ _ _ _ _ HR.out).trans rfl;go_wp2;exact ab hQ _ (by kernel_rfl) (O_ _ _) rfl
     case refine_13 =>
      have c:wq.cell? ⟨wr.heap.size,6,none⟩=some (.int .i64 k.ver):=(e_ _ _ _ _ _ _ HR.out).trans rfl;go_wp2;exact ab hQ _ (by kernel_rfl) (O_ _ _) rfl
     case refine_15 =>
      have c:wq.cell? ⟨wr.heap.size,7,none⟩=some (.int .i64 k.par):=(e_ _ _ _ _ _ _ HR.out).trans rfl;go_wp2;exact ab hQ _ (by kernel_rfl) (O_ _ _) rfl
     case refine_21 =>
      have c:wq.cell? ⟨wr.heap.size,2,none⟩=some (.string ⟨k.val.toArray⟩):=(e_ _ _ _ _ _ _ HR.out).trans rfl;go_wp2;exact ab hQ _ (by kernel_rfl) (O_ _ _) rfl
     all_goals go_wp2
     all_goals exact ab hQ _ (by kernel_rfl) (O_ _ _) rfl
    case h6 =>
     intro wq hbq vals;rw[show List.range 25=[0,1,2,3,4,5,6,7,8,9,10,11,12,13,14,15,16,17,18,19,20,21,22,23,24] from by decide]
     iterate 24 (first |refine aw rfl ?_|(refine aG rfl ?_;intro _ _))
     refine aG rfl ?_;rintro _ ⟨g,rfl,hg1,hg2⟩;refine ar ?_;simp only[F_,c_,J_,L_];simp only[ay,upd,Act.put,B_,C_,D_,Nat.reduceAdd,a_,Nat.reduceEqDiff,if_true,if_false,reduceIte];have HBQ:=O hbq;have HG2:=O hg2;have HBW:Hid (Below W0.heap.size W0 wq):=O (HB1.out.trans (hbq.mono HB1.out.size));clear hbq hg1 hg2
     go_wp2_with (at_builtin;go_loud ((refine br AO rfl (.tmp 21) (.tmp 45) rfl W0.heap.size _ _ rfl (HO1.out.on HBQ.out) (.slice (some ⟨g,0,none⟩) 1 1) [es] rfl (lq HG2.out [es] rfl (by simp)) (by have := HML.out;simp only[Z_,List.length_nil];omega) HBW.out.size ?_;intro v3 w3 ho3 hg3 _;have HO3:=O ho3;have HB3:Hid (Below W0.heap.size W0 w3):=(O (HBW.out.grown hg3 HBW.out.size (fun k hk2=>(HO1.out.lt k hk2).1)));clear ho3 hg3)))
     go_roundw
     case rel=>exact⟨j+1,HJ.out,by go_num,O (by rw[←HNX.out];exact HO3.out),HB3⟩
     case measure=>have := HJ.out;simp[intOf];omega
  ·have he:j=l.length:=by omega
   have j1:¬(j:Int)<l.length:=by omega
   have HRD:Hid (ap eS wr W0.heap.size u3 (l.map bG)):=O (by have h:=hown.out;rw[he,List.take_length] at h;exact h);have HC:Hid (eN (l.map bG)=b9 l):=O (by unfold b9;rfl);clear he hlt hj hown
   go_wp2_with (go_at_call 131;refine(vX _ (l.map bG) _ HRD.out.rd (by rw[HC.out];exact HL.out) (by rw[List.length_map];have := HN.out;omega)).mono ?_;rintro e w3 ⟨v3,rfl,ho3,hb3⟩;have HB3:=O (hb.out.trans (hb3.mono hb.out.size));have hcv3:=b6 ho3.rd;rw[HC.out] at hcv3;clear ho3 hb3)
   go_ret;exact⟨rfl,HBE.out _ HB3.out⟩
end
section
open Go.RowKit Go.Shelf
theorem jW (h:List UInt8) (i:Nat) (hi:i≤h.length) (w:World):(Instr.slice 9 (.string ⟨h.toArray⟩) (some (.int .i64 i)) none none).run prog w = .ok (.string ⟨(h.drop i).toArray⟩) w:=by
 rw[run_slice_string_l w _ _ underlying9 .i64 _ (by omega) (by show (i:Int)≤((h.toArray.size:Nat):Int);simp;omega)]
 have e:(ByteArray.mk h.toArray).extract ((i:Int).toNat) (ByteArray.mk h.toArray).size=⟨(h.drop i).toArray⟩:=by
  rw[CX,Int.toNat_natCast,Y_ (by rw[S_];exact A_ _)]
 rw[e]
theorem eE (h:List UInt8) (i:Nat):(h.drop i).take (h.length-i)=h.drop i:=Y_ (by rw[S_];exact A_ _)
theorem IX (b:BK):prog.built 47 [(0,.agg (am b.dom)),(1,.int .i64 b.ep),(2,.int .i64 b.num),(3,.int .i64 b.fw),(4,.int .i64 b.tm),(5,.agg (am b.pol)),(6,.string ⟨b.mo.toArray⟩)]=some (bc b ah):=by kernel_rfl
theorem RJ {ops:Array Oper} {rest:List Oper} {o:Oper} {a:Act} {w:World} {Q:Exit→Act→World→Prop} (b:BK) (hgd:Region.wanted o (yielded ops a.tmps)=true) (x0 x1 x2 x3 x4 x5 x6:Operand)
  (ho:o.op = .build 47 #[(0,x0),(1,x1),(2,x2),(3,x3),(4,x4),(5,x5),(6,x6)]) (h0:a.eval x0 = .agg (am b.dom)) (h1:a.eval x1 = .int .i64 b.ep) (h2:a.eval x2 = .int .i64 b.num) (h3:a.eval x3 = .int .i64 b.fw) (h4:a.eval x4 = .int .i64 b.tm) (h5:a.eval x5 = .agg (am b.pol)) (h6:a.eval x6 = .string ⟨b.mo.toArray⟩)
  (h:wpList prog ops Q rest (a.put o.dst (.agg (bc b ah))) w):wpList prog ops Q (o::rest) a w :=
 wpList_step fun K hK=>by
  rw[G_ hgd];have hb:=IX b;generalize am b.dom=D at hb h0;generalize am b.pol=P at hb h5;have hr:=run_build (P:=prog) w 47 #[(0,.agg D),(1,.int .i64 b.ep),(2,.int .i64 b.num),(3,.int .i64 b.fw),(4,.int .i64 b.tm),(5,.agg P),(6,.string ⟨b.mo.toArray⟩)] _ hb;unfold Oper.wp execOp;simp only[ho,List.map_toArray,List.map_cons,List.map_nil,h0,h1,h2,h3,h4,h5,h6,hr,Sem.run_bind,Sem.run_pure,Result.andThen_ok];exact hK _ _ h
theorem ey (b:BK):((bc b ah).all fun u=>u.oneCell')=true:=dl b none 0 0
theorem dM (b:BK):(prog.info? 47).map (·.size)=some (bc b ah).size:=by rw[aC];exact dU
attribute [local irreducible] Calls am aL aB blE blB pkB hdX hdE hdB aI
theorem K5 (blob:List UInt8) (w:World) (hl:blob.length≤800000) :
  Calls prog 46 #[.string ⟨blob.toArray⟩] w fun e w'=>e = .returned (.tuple #[.agg (bc (pkB blob) ah),.int .i64 (blE blob)])∧Below w.heap.size w w':=by
 have hz:=fh;have HL:=O hl;obtain⟨W0,hW0⟩:∃W0,W0=w.alloc (.cells (bc zB (.slice none 0 0)) 47):=⟨_,rfl⟩;have HW:=O hW0
 have HRES:Hid (∀u,Below W0.heap.size W0 u→u.heap[w.heap.size]?=some (.cells (bc zB ah) 47 (0,0))∧Below w.heap.size w u):=O (by
  intro u h;rw[hW0] at h;have h2:=cJ _ _ h
  exact⟨by rw[h.block _ (by simp)];exact al _ _ _ rfl,h2⟩)
 have hcv:=cw W0 blob;have HSB:=O (bU W0 blob);have HSR:=O (fo W0 blob (by unfold maxLen;omega));generalize Lib.bytesWorld W0 5 ⟨blob.toArray⟩=ws at hcv HSB HSR;have HG:=O (kr _ blob ws HSR.out);have HPZ:Hid (blE blob≠0→pkB blob=zB):=O (fun h=>by unfold pkB;rw[H_ h]);have HPY:Hid (blE blob=0→pkB blob=blB blob):=O (fun h=>by unfold pkB;rw[G_ h]);have HNO:=O (fun (h:(aL blob).2.2≠0)=>IM h);have HYES:=O (fun (h:(aL blob).2.2=0)=>Eg h);have HHL:Hid ((aL blob).2.2=0→(aL blob).1.length≤blob.length):=O (fun h0=>by have := jT blob 0;rw[kC h0] at this;exact this);generalize aL blob=d at HG HNO HYES HHL;obtain⟨h,n,er⟩:=d;simp only at HNO HYES HHL;generalize pkB blob=pb at HPZ HPY ⊢;clear hl hW0
 by_cases h1:er=0
 case neg =>
  have i1:(er != 0)=true:=by simpa using h1
  have HE:=O (HNO.out h1);have HZ:=O (HPZ.out (by rw[HE.out];exact h1));clear h1 HNO HYES HHL HPY HPZ;have tok1:True:=trivial
  go_enter func46,ntmps46
  go_upto_region 1 with fail
  rw[←HW.out]
  go_wp2_with (first
   |(clear tok1;go_at_call 93;refine HG.out.mono ?_;rintro e w1 ⟨rfl,hb1⟩;have HB1:=O (HSB.out.trans (hb1.mono HSB.out.size));simp only[mH];clear hb1)
   |(refine jJ rfl rfl ?_)
   |(refine aM (T:=47) (bc zB ah) (dM zB) rfl (.tmp 2) (.tmp 25) rfl w.heap.size (bc zB ah) rfl rfl (ey zB) rfl (HRES.out _ HB1.out).1 ?_;intro we hge hoe hbe))
  refine g_ (aA rfl _ _ w.heap.size _ rfl (aX _ _ zB ah _ hge)) rfl ?_;exact⟨by rw[HZ.out,HE.out];rfl,(HRES.out _ HB1.out).2.trans (hbe _ (A_ _))⟩
 subst h1;obtain⟨hE,hBB,_,_⟩:=HYES.out rfl;have HH:=O (M_ (HHL.out rfl) HL.out);have HEX:=O hE;have HBB:=O hBB;obtain⟨t,ht⟩:∃t,t=h.drop 16:=⟨_,rfl⟩;have HT:=O ht;have HTL:Hid (t.length=h.length-16):=O (by rw[ht,S_]);have HP1:=O (GH h);have HP2:=O (fun rest (hr:rest=(h.drop 16).drop (aB (h.drop 16)).2.1)=>GI h rest hr);have HQ1:Hid (hdE h 0≠0→hdX h 0=hdE h 0):=O (fun hq=>Sn h hq);rw[←ht] at HP1 HP2;clear ht;have HGI:=O (fun (v:Value) (y:World) (hv:RdE eB y v t)=>uY v t y hv (by have := HH.out;have := HTL.out;omega));have HUI:=O (fun (hq:(aB t).2.2=0)=>(ko.used _ hq).1);generalize aB t=d2 at HP1 HP2 HGI HUI;obtain⟨li,n2,e2⟩:=d2;simp only at HP1 HP2 HUI;clear hE hBB HNO HYES HHL
 have hhi:(h.length:Int)≤800000:=by have := HH.out;omega
 rcases HP1.out with⟨p1,p2⟩|⟨p1,p2,p3⟩|⟨p1,p2,p3,p4⟩|⟨p1,p2,p3,p4⟩
 ·have i2:(h.length:Int)<16:=by omega
  have HE:Hid (blE blob=_):=O (HEX.out.trans ((HQ1.out (by rw[p2];first |decide|assumption)).trans p2));have HZ:=O (HPZ.out (by rw[HE.out];first |decide|assumption));clear p1 p2 HP1 HP2 HPZ HPY HQ1 HUI;have tok1:True:=trivial
  go_enter func46,ntmps46
  go_upto_region 1 with fail
  rw[←HW.out]
  go_wp2_with (first
   |(clear tok1;go_at_call 93;refine HG.out.mono ?_;rintro e w1 ⟨rfl,hb1⟩;have HB1:=O (HSB.out.trans (hb1.mono HSB.out.size));simp only[mH];clear hb1)
   |(refine jJ rfl rfl ?_)
   |(refine aM (T:=47) (bc zB ah) (dM zB) rfl (.tmp 2) (.tmp 30) rfl w.heap.size (bc zB ah) rfl rfl (ey zB) rfl (HRES.out _ HB1.out).1 ?_;intro we hge hoe hbe))
  refine g_ (aA rfl _ _ w.heap.size _ rfl (aX _ _ zB ah _ hge)) rfl ?_;exact⟨by rw[HZ.out,HE.out];rfl,(HRES.out _ HB1.out).2.trans (hbe _ (A_ _))⟩
 ·have i5:(e2 != 0)=true:=by simpa using p2
  have i2:¬(h.length:Int)<16:=by omega
  have hs1:=jW h 16 (by omega);rw[←HT.out] at hs1
  have tk1:(h.drop 16).take (h.length-16)=t:=by rw[eE,HT.out]
  have i3:(16:Int)≤h.length:=by omega
  have i4:16≤h.length:=by omega
  have HE:Hid (blE blob=_):=O (HEX.out.trans ((HQ1.out (by rw[p3];first |decide|assumption)).trans p3));have HZ:=O (HPZ.out (by rw[HE.out];first |decide|assumption));clear p1 p2 p3 HP1 HP2 HPZ HPY HQ1 HUI;have tok1:True:=trivial
  go_enter func46,ntmps46
  go_upto_region 1 with fail
  rw[←HW.out]
  go_wp2_with (first
   |(clear tok1;go_at_call 93;refine HG.out.mono ?_;rintro e w1 ⟨rfl,hb1⟩;have HB1:=O (HSB.out.trans (hb1.mono HSB.out.size));simp only[mH];have hcv2:=cw w1 t;have HSB2:=O (bU w1 t);have HSR2:=O (fo w1 t (by unfold maxLen;have := HH.out;have := HTL.out;omega));generalize Lib.bytesWorld w1 5 ⟨t.toArray⟩=w1s at hcv2 HSB2 HSR2;clear hb1)
   |(go_at_call 94;refine(HGI.out _ _ HSR2.out).mono ?_;rintro e w2 ⟨v2,rfl,ho2,hb2⟩;obtain⟨a2,c2,rfl⟩:=ho2.rd.form;have HB2:=O (HB1.out.trans ((HSB2.out.trans (hb2.mono HSB2.out.size)).mono HB1.out.size));have HO2:=O ho2;clear ho2 hb2)
   |(refine jJ rfl rfl ?_)
   |(refine aM (T:=47) (bc zB ah) (dM zB) rfl (.tmp 2) (.tmp 41) rfl w.heap.size (bc zB ah) rfl rfl (ey zB) rfl (HRES.out _ HB2.out).1 ?_;intro we hge hoe hbe))
  refine g_ (aA rfl _ _ w.heap.size _ rfl (aX _ _ zB ah _ hge)) rfl ?_;exact⟨by rw[HZ.out,HE.out];rfl,(HRES.out _ HB2.out).2.trans (hbe _ (A_ _))⟩
 ·subst p2
  have i2:¬(h.length:Int)<16:=by omega
  have hs1:=jW h 16 (by omega);rw[←HT.out] at hs1
  have tk1:(h.drop 16).take (h.length-16)=t:=by rw[eE,HT.out]
  have i3:(16:Int)≤h.length:=by omega
  have i4:16≤h.length:=by omega
  have i5:((li.length:Int) != 4)=true:=by rw[bne_iff_ne];omega
  have HE:Hid (blE blob=_):=O (HEX.out.trans ((HQ1.out (by rw[p4];first |decide|assumption)).trans p4));have HZ:=O (HPZ.out (by rw[HE.out];first |decide|assumption));clear p1 p3 p4 HP1 HP2 HPZ HPY HQ1 HUI;have tok1:True:=trivial
  go_enter func46,ntmps46
  go_upto_region 1 with fail
  rw[←HW.out]
  go_wp2_with (first
   |(clear tok1;go_at_call 93;refine HG.out.mono ?_;rintro e w1 ⟨rfl,hb1⟩;have HB1:=O (HSB.out.trans (hb1.mono HSB.out.size));simp only[mH];have hcv2:=cw w1 t;have HSB2:=O (bU w1 t);have HSR2:=O (fo w1 t (by unfold maxLen;have := HH.out;have := HTL.out;omega));generalize Lib.bytesWorld w1 5 ⟨t.toArray⟩=w1s at hcv2 HSB2 HSR2;clear hb1)
   |(go_at_call 94;refine(HGI.out _ _ HSR2.out).mono ?_;rintro e w2 ⟨v2,rfl,ho2,hb2⟩;obtain⟨a2,c2,rfl⟩:=ho2.rd.form;have HB2:=O (HB1.out.trans ((HSB2.out.trans (hb2.mono HSB2.out.size)).mono HB1.out.size));have HO2:=O ho2;clear ho2 hb2)
   |(refine jJ rfl rfl ?_)
   |(refine aM (T:=47) (bc zB ah) (dM zB) rfl (.tmp 2) (.tmp 46) rfl w.heap.size (bc zB ah) rfl rfl (ey zB) rfl (HRES.out _ HB2.out).1 ?_;intro we hge hoe hbe))
  refine g_ (aA rfl _ _ w.heap.size _ rfl (aX _ _ zB ah _ hge)) rfl ?_;exact⟨by rw[HZ.out,HE.out];rfl,(HRES.out _ HB2.out).2.trans (hbe _ (A_ _))⟩
 ·subst p2
  have i2:¬(h.length:Int)<16:=by omega
  have hs1:=jW h 16 (by omega);rw[←HT.out] at hs1
  have tk1:(h.drop 16).take (h.length-16)=t:=by rw[eE,HT.out]
  have i3:(16:Int)≤h.length:=by omega
  have i4:16≤h.length:=by omega
  have i5:((li.length:Int) != 4)=false:=by rw[p3];rfl
  obtain⟨m0,m1,m2,m3,rfl⟩:=Oh p3;have hu:=HUI.out rfl;rw[HTL.out] at hu;obtain⟨rest,hrest⟩:∃rest,rest=t.drop n2:=⟨_,rfl⟩;have HP3:=O (HP2.out rest hrest p1 rfl p4)
  have hrd:rest=h.drop (16+n2):=by rw[hrest,HT.out,List.drop_drop]
  have hs2:=jW h (16+n2) (by omega);rw[←hrd] at hs2;rw[Int.natCast_add] at hs2
  have tk2:List.take (h.length-(16+n2)) (List.drop (16+n2) h)=rest:=by rw[eE,hrd]
  have i6:(16:Int)+n2≤h.length:=by omega
  have i7:16+n2≤h.length:=by omega
  have HRL:Hid (rest.length≤800000):=O (by rw[hrd,S_];have := HH.out;omega)
  have hri:(rest.length:Int)≤800000:=by have := HRL.out;omega
  obtain⟨t2,ht2⟩:∃t2,t2=rest.drop 16:=⟨_,rfl⟩;have HT2:=O ht2;have HTL2:Hid (t2.length=rest.length-16):=O (by rw[ht2,S_]);rw[←ht2] at HP3;clear ht2;have HGB:=O (fun (v:Value) (y:World) (hv:RdE eB y v t2)=>kr v t2 y hv);have HB4:Hid (Ap h rest [m0,m1,m2,m3]=Ap h rest [m0,m1,m2,m3]):=O rfl;generalize aL t2=d3 at HP3 HGB;obtain⟨mo,n3,e3⟩:=d3;simp only at HP3;clear p1 p3 p4 HP1 HP2 HQ1 HUI hu hrest hrd
  rcases HP3.out with⟨q1,q2⟩|⟨q1,q2,q3⟩|q
  ·have i8:(rest.length:Int)<16:=by omega
   have HE:Hid (blE blob=_):=O (HEX.out.trans q2);have HZ:=O (HPZ.out (by rw[HE.out];first |decide|assumption));clear q1 q2 HP3 HPZ HPY;have tok1:True:=trivial
   go_enter func46,ntmps46
   go_upto_region 1 with fail
   rw[←HW.out]
   go_wp2_with (first
    |(clear tok1;go_at_call 93;refine HG.out.mono ?_;rintro e w1 ⟨rfl,hb1⟩;have HB1:=O (HSB.out.trans (hb1.mono HSB.out.size));simp only[mH];have hcv2:=cw w1 t;have HSB2:=O (bU w1 t);have HSR2:=O (fo w1 t (by unfold maxLen;have := HH.out;have := HTL.out;omega));generalize Lib.bytesWorld w1 5 ⟨t.toArray⟩=w1s at hcv2 HSB2 HSR2;clear hb1)
    |(go_at_call 94;refine(HGI.out _ _ HSR2.out).mono ?_;rintro e w2 ⟨v2,rfl,ho2,hb2⟩;obtain⟨a2,c2,rfl⟩:=ho2.rd.form;have HB2:=O (HB1.out.trans ((HSB2.out.trans (hb2.mono HSB2.out.size)).mono HB1.out.size));have HO2:=O ho2;clear ho2 hb2)
    |(refine jJ rfl rfl ?_)
    |(refine aM (T:=47) (bc zB ah) (dM zB) rfl (.tmp 2) (.tmp 54) rfl w.heap.size (bc zB ah) rfl rfl (ey zB) rfl (HRES.out _ HB2.out).1 ?_;intro we hge hoe hbe))
   refine g_ (aA rfl _ _ w.heap.size _ rfl (aX _ _ zB ah _ hge)) rfl ?_;exact⟨by rw[HZ.out,HE.out];rfl,(HRES.out _ HB2.out).2.trans (hbe _ (A_ _))⟩
  ·have j1:(e3 != 0)=true:=by simpa using q2
   have i8:¬(rest.length:Int)<16:=by have := q1;omega
   have hs3:=jW rest 16 (by have := q1;omega);rw[←HT2.out] at hs3
   have tk3:(rest.drop 16).take (rest.length-16)=t2:=by rw[eE,HT2.out]
   have i9:(16:Int)≤rest.length:=by have := q1;omega
   have i10:16≤rest.length:=by have := q1;omega
   have HE:Hid (blE blob=_):=O (HEX.out.trans q3);have HZ:=O (HPZ.out (by rw[HE.out];first |decide|assumption));clear q1 q2 q3 HP3 HPZ HPY;have tok1:True:=trivial
   go_enter func46,ntmps46
   go_upto_region 1 with fail
   rw[←HW.out]
   go_wp2_with (first
    |(clear tok1;go_at_call 93;refine HG.out.mono ?_;rintro e w1 ⟨rfl,hb1⟩;have HB1:=O (HSB.out.trans (hb1.mono HSB.out.size));simp only[mH];have hcv2:=cw w1 t;have HSB2:=O (bU w1 t);have HSR2:=O (fo w1 t (by unfold maxLen;have := HH.out;have := HTL.out;omega));generalize Lib.bytesWorld w1 5 ⟨t.toArray⟩=w1s at hcv2 HSB2 HSR2;clear hb1)
    |(go_at_call 94;refine(HGI.out _ _ HSR2.out).mono ?_;rintro e w2 ⟨v2,rfl,ho2,hb2⟩;obtain⟨a2,c2,rfl⟩:=ho2.rd.form;have HB2:=O (HB1.out.trans ((HSB2.out.trans (hb2.mono HSB2.out.size)).mono HB1.out.size));have HO2:=O ho2;clear ho2 hb2;have hcv3:=cw w2 t2;have HSB3:=O (bU w2 t2);have HSR3:=O (fo w2 t2 (by unfold maxLen;have := HRL.out;have := HTL2.out;omega));generalize Lib.bytesWorld w2 5 ⟨t2.toArray⟩=w2s at hcv3 HSB3 HSR3)
    |(go_at_call 93;refine(HGB.out _ _ HSR3.out).mono ?_;rintro e w3 ⟨rfl,hb3⟩;have hb23:=HSB3.out.trans (hb3.mono HSB3.out.size);have HB3:=O (HB2.out.trans (hb23.mono HB2.out.size));have HO3:=O (HO2.out.on hb23);simp only[mH];clear hb3 hb23)
    |(refine jJ rfl rfl ?_)
    |(refine aM (T:=47) (bc zB ah) (dM zB) rfl (.tmp 2) (.tmp 65) rfl w.heap.size (bc zB ah) rfl rfl (ey zB) rfl (HRES.out _ HB3.out).1 ?_;intro we hge hoe hbe))
   refine g_ (aA rfl _ _ w.heap.size _ rfl (aX _ _ zB ah _ hge)) rfl ?_;exact⟨by rw[HZ.out,HE.out];rfl,(HRES.out _ HB3.out).2.trans (hbe _ (A_ _))⟩
  ·have hq1:¬rest.length<16:=by rcases q with q|q|q <;> exact q.1
   have hq2:e3=0:=by rcases q with q|q|q <;> exact q.2.1
   subst hq2
   have i8:¬(rest.length:Int)<16:=by have := hq1;omega
   have hs3:=jW rest 16 (by have := hq1;omega);rw[←HT2.out] at hs3
   have tk3:(rest.drop 16).take (rest.length-16)=t2:=by rw[eE,HT2.out]
   have i9:(16:Int)≤rest.length:=by have := hq1;omega
   have i10:16≤rest.length:=by have := hq1;omega
   obtain⟨bk,hbk⟩:∃bk,bk=Ap h rest [m0,m1,m2,m3] mo:=⟨_,rfl⟩;rw[←hbk] at q;have HBK:=O hbk;have HHL2:=O i2;have HRL2:=O hq1;have HQ:=O q;have HVR:=O (fun (y:World)=>rg bk ah [] y (gF y));clear q hbk hq1 HP3;have tok1:True:=trivial
   go_enter func46,ntmps46
   go_upto_region 1 with fail
   rw[←HW.out]
   go_upto_region 17 with (first
    |(clear tok1;go_at_call 93;refine HG.out.mono ?_;rintro e w1 ⟨rfl,hb1⟩;have HB1:=O (HSB.out.trans (hb1.mono HSB.out.size));simp only[mH];have hcv2:=cw w1 t;have HSB2:=O (bU w1 t);have HSR2:=O (fo w1 t (by unfold maxLen;have := HH.out;have := HTL.out;omega));generalize Lib.bytesWorld w1 5 ⟨t.toArray⟩=w1s at hcv2 HSB2 HSR2;clear hb1)
    |(go_at_call 94;refine(HGI.out _ _ HSR2.out).mono ?_;rintro e w2 ⟨v2,rfl,ho2,hb2⟩;obtain⟨a2,c2,rfl⟩:=ho2.rd.form;have HB2:=O (HB1.out.trans ((HSB2.out.trans (hb2.mono HSB2.out.size)).mono HB1.out.size));have HO2:=O ho2;clear ho2 hb2;have hcv3:=cw w2 t2;have HSB3:=O (bU w2 t2);have HSR3:=O (fo w2 t2 (by unfold maxLen;have := HRL.out;have := HTL2.out;omega));generalize Lib.bytesWorld w2 5 ⟨t2.toArray⟩=w2s at hcv3 HSB3 HSR3)
    |(go_at_call 93;refine(HGB.out _ _ HSR3.out).mono ?_;rintro e w3 ⟨rfl,hb3⟩;have hb23:=HSB3.out.trans (hb3.mono HSB3.out.size);have HB3:=O (HB2.out.trans (hb23.mono HB2.out.size));have HO3:=O (HO2.out.on hb23);simp only[mH];clear hb3 hb23))
   rw[tk2];obtain⟨b2,o2,hae,hbl2,hrow2⟩:=iE HO3.out.rd (by simp);subst hae;have HROW2:=O hrow2;clear hrow2
   try dsimp only[Act.put]
   refine aY 19 [[],[0],[],[2],[3],[],[5],[6],[],[8],[9],[],[11],[12],[],[14],[],[1,4,7,10,13,15,16],[]] (SP.of [.eq (.string ⟨h.toArray⟩),.eq (.agg (am bk.dom)),.eq (.slice (some ⟨b2,o2,none⟩) [m0,m1,m2,m3].length c2),.eq (.pointer (some ⟨b2,o2,none⟩)),.eq (.int .i64 m0),.eq (.slice (some ⟨b2,o2,none⟩) [m0,m1,m2,m3].length c2),.eq (.pointer (some ⟨b2,o2+1,none⟩)),.eq (.int .i64 m1),.eq (.slice (some ⟨b2,o2,none⟩) [m0,m1,m2,m3].length c2),.eq (.pointer (some ⟨b2,o2+2,none⟩)),.eq (.int .i64 m2),.eq (.slice (some ⟨b2,o2,none⟩) [m0,m1,m2,m3].length c2),.eq (.pointer (some ⟨b2,o2+3,none⟩)),.eq (.int .i64 m3),.eq (.string ⟨rest.toArray⟩),.eq (.agg (am bk.pol)),.eq (.string ⟨mo.toArray⟩),.eq (.agg (bc bk ah)),.fresh w3.heap.size (bc zB ah) 47]) (fun _=>undef) ?h1 ?h2 ?h3 ?h4 ?h5 ?h6
   case h1=>kernel_rfl
   case h2=>kernel_rfl
   case h3=>kernel_rfl
   case h4 =>
    simp only[F_,c_]
    repeat (first |exact trivial|refine⟨fun vals v=>by kernel_rfl,?_⟩)
   case h5 =>
    simp only[F_,c_];refine⟨?_,?_,?_,?_,?_,?_,?_,?_,?_,?_,?_,?_,?_,?_,?_,?_,?_,?_,?_,trivial⟩
    all_goals (intro wq hbq vals;simp only[Nat.reduceAdd,a_,X_,W_];have HBQ:=O hbq;clear hbq;repeat (first |refine ar ?_|refine aw rfl ?_);intro Q hQ;simp only[ay,upd,Act.put,B_,C_,D_,Nat.reduceAdd,a_,Nat.reduceEqDiff,if_true,if_false,reduceIte])
    case refine_2 =>
     have hd:h.take 16=bk.dom:=by rw[HBK.out];rfl
     go_wp2_with (go_at_call 95;refine(AH h (by have := HHL2.out;omega) wq).mono ?_;rintro e x1 ⟨rfl,hx1⟩;rw[hd])
     exact ab hQ _ (by kernel_rfl) hx1 rfl
    case refine_16 =>
     have hd:rest.take 16=bk.pol:=by rw[HBK.out];rfl
     go_wp2_with (go_at_call 95;refine(AH rest HRL2.out wq).mono ?_;rintro e x1 ⟨rfl,hx1⟩;rw[hd])
     exact ab hQ _ (by kernel_rfl) hx1 rfl
    case refine_5 =>
     have c:wq.cell? ⟨b2,o2,none⟩=some (.int .i64 m0):=by rw[HBQ.out.cell (p:=⟨b2,o2,none⟩) hbl2];exact HROW2.out 0 (by simp)
     go_wp2;exact ab hQ _ (by kernel_rfl) (O_ _ _) rfl
    case refine_8 =>
     have c:wq.cell? ⟨b2,o2+1,none⟩=some (.int .i64 m1):=by rw[HBQ.out.cell (p:=⟨b2,o2+1,none⟩) hbl2];exact HROW2.out 1 (by simp)
     go_wp2;exact ab hQ _ (by kernel_rfl) (O_ _ _) rfl
    case refine_11 =>
     have c:wq.cell? ⟨b2,o2+2,none⟩=some (.int .i64 m2):=by rw[HBQ.out.cell (p:=⟨b2,o2+2,none⟩) hbl2];exact HROW2.out 2 (by simp)
     go_wp2;exact ab hQ _ (by kernel_rfl) (O_ _ _) rfl
    case refine_14 =>
     have c:wq.cell? ⟨b2,o2+3,none⟩=some (.int .i64 m3):=by rw[HBQ.out.cell (p:=⟨b2,o2+3,none⟩) hbl2];exact HROW2.out 3 (by simp)
     go_wp2;exact ab hQ _ (by kernel_rfl) (O_ _ _) rfl
    case refine_18 =>
     have e0:Hid (m0=bk.ep):=O (by rw[HBK.out];rfl);have e1:Hid (m1=bk.num):=O (by rw[HBK.out];rfl);have e2:Hid (m2=bk.fw):=O (by rw[HBK.out];rfl);have e3:Hid (m3=bk.tm):=O (by rw[HBK.out];rfl);have e4:Hid (mo=bk.mo):=O (by rw[HBK.out];rfl)
     go_wp2_with (refine RJ bk rfl (.tmp 68) (.tmp 71) (.tmp 74) (.tmp 77) (.tmp 80) (.tmp 82) (.tmp 83) rfl rfl (by rw[←e0.out];rfl) (by rw[←e1.out];rfl) (by rw[←e2.out];rfl) (by rw[←e3.out];rfl) rfl (by rw[←e4.out];rfl) ?_)
     exact ab hQ _ (by kernel_rfl) (O_ _ _) rfl
    case refine_19 =>
     have hz2:=fh;go_wp2;exact ab hQ _ (by kernel_rfl) ((O_ _ _).alloc (A_ _) _) ⟨wq.heap.size,rfl,HBQ.out.size,al _ _ _ rfl⟩
    all_goals go_wp2
    all_goals exact ab hQ _ (by kernel_rfl) (O_ _ _) rfl
   case h6 =>
    intro wq hbq vals;rw[show List.range 19=[0,1,2,3,4,5,6,7,8,9,10,11,12,13,14,15,16,17,18] from by decide]
    repeat (first |refine aw rfl ?_)
    refine aG rfl ?_;rintro _ ⟨g,rfl,hg1,hg2⟩;refine ar ?_;simp only[F_,c_,J_,L_];simp only[ay,upd,Act.put,B_,C_,D_,Nat.reduceAdd,a_,Nat.reduceEqDiff,if_true,if_false,reduceIte];have HBQ:=O (HB3.out.trans (hbq.mono HB3.out.size));have HG2:=O hg2;have HGW:Hid (w.heap.size<g):=O (P_ (Q_.1 (HRES.out _ HB3.out).1).1 hg1);have HW0G:Hid (W0.heap.size≤g):=O (M_ HB3.out.size hg1);clear hbq hg1 hg2 HROW2 HO2 HO3 hbl2;have tok2:True:=trivial;have tok3:True:=trivial;have HVX:=HVR
    rcases HQ.out with⟨_,_,q3,q4⟩|⟨_,_,q3,q4,q5⟩|⟨_,_,q3,q4,q5,q6⟩
    ·have j2:((n3:Int) != (rest.length:Int)-16)=true:=by rw[bne_iff_ne];omega
     have HE:Hid (blE blob=_):=O (HEX.out.trans q4);have HZ:=O (HPZ.out (by rw[HE.out];first |decide|assumption));generalize aI bk []=vb at HVX;clear q3 q4 HQ HPZ HPY HVR
     go_wp2_with (first
      |(clear tok2;refine aM (T:=47) (bc bk ah) (dM bk) rfl (.tmp 14) (.tmp 84) rfl g (bc zB ah) rfl rfl (ey bk) (by rw[aC,aC]) HG2.out ?_;intro w5 hg5 ho5 hb5;have HG5:=O hg5;have HB5:=O (HBQ.out.trans (hb5 _ HW0G.out));clear hg5 ho5 hb5)
      |(clear tok3;refine cH bk ah rfl (.tmp 14) rfl g rfl _ HG5.out ?_)
      |(go_at_call 80;refine(HVX.out _).mono ?_;rintro e w6 ⟨rfl,hb6⟩;have HG6:Hid (w6.heap[g]?=some (.cells (bc bk ah) 47 (0,0))):=(O (by rw[hb6.block _ (Q_.1 HG5.out).1];exact HG5.out));have HB6:=O (HB5.out.trans (hb6.mono HB5.out.size));clear hb6)
      |(refine jJ rfl rfl ?_)
      |(refine aM (T:=47) (bc zB ah) (dM zB) rfl (.tmp 2) (.tmp 96) rfl w.heap.size (bc zB ah) rfl rfl (ey zB) rfl (HRES.out _ HB6.out).1 ?_;intro we hge hoe hbe))
     refine g_ (aA rfl _ _ w.heap.size _ rfl (aX _ _ zB ah _ hge)) rfl ?_;exact⟨by rw[HZ.out,HE.out];rfl,(HRES.out _ HB6.out).2.trans (hbe _ (A_ _))⟩
    ·have j2:((n3:Int) != (rest.length:Int)-16)=false:=by rw[bne_eq_false_iff_eq];omega
     have HE:Hid (blE blob=_):=O (HEX.out.trans q5);have HZ:=O (HPZ.out (by rw[HE.out];first |decide|assumption));rw[q4] at HVX;clear q3 q4 q5 HQ HPZ HPY HVR
     go_wp2_with (first
      |(clear tok2;refine aM (T:=47) (bc bk ah) (dM bk) rfl (.tmp 14) (.tmp 84) rfl g (bc zB ah) rfl rfl (ey bk) (by rw[aC,aC]) HG2.out ?_;intro w5 hg5 ho5 hb5;have HG5:=O hg5;have HB5:=O (HBQ.out.trans (hb5 _ HW0G.out));clear hg5 ho5 hb5)
      |(clear tok3;refine cH bk ah rfl (.tmp 14) rfl g rfl _ HG5.out ?_)
      |(go_at_call 80;refine(HVX.out _).mono ?_;rintro e w6 ⟨rfl,hb6⟩;have HG6:Hid (w6.heap[g]?=some (.cells (bc bk ah) 47 (0,0))):=(O (by rw[hb6.block _ (Q_.1 HG5.out).1];exact HG5.out));have HB6:=O (HB5.out.trans (hb6.mono HB5.out.size));clear hb6)
      |(refine jJ rfl rfl ?_)
      |(refine aM (T:=47) (bc zB ah) (dM zB) rfl (.tmp 2) (.tmp 96) rfl w.heap.size (bc zB ah) rfl rfl (ey zB) rfl (HRES.out _ HB6.out).1 ?_;intro we hge hoe hbe))
     refine g_ (aA rfl _ _ w.heap.size _ rfl (aX _ _ zB ah _ hge)) rfl ?_;exact⟨by rw[HZ.out,HE.out];rfl,(HRES.out _ HB6.out).2.trans (hbe _ (A_ _))⟩
    ·have j2:((n3:Int) != (rest.length:Int)-16)=false:=by rw[bne_eq_false_iff_eq];omega
     have HE:Hid (blE blob=0):=O (HEX.out.trans q5);have HZ:Hid (pb=bk):=O (by rw[HPY.out HE.out,HBB.out,q6]);rw[q4] at HVX;clear q3 q4 q5 q6 HQ HPZ HPY HVR
     go_wp2_with (first
      |(clear tok2;refine aM (T:=47) (bc bk ah) (dM bk) rfl (.tmp 14) (.tmp 84) rfl g (bc zB ah) rfl rfl (ey bk) (by rw[aC,aC]) HG2.out ?_;intro w5 hg5 ho5 hb5;have HG5:=O hg5;have HB5:=O (HBQ.out.trans (hb5 _ HW0G.out));clear hg5 ho5 hb5)
      |(clear tok3;refine cH bk ah rfl (.tmp 14) rfl g rfl _ HG5.out ?_)
      |(go_at_call 80;refine(HVX.out _).mono ?_;rintro e w6 ⟨rfl,hb6⟩;have HG6:Hid (w6.heap[g]?=some (.cells (bc bk ah) 47 (0,0))):=(O (by rw[hb6.block _ (Q_.1 HG5.out).1];exact HG5.out));have HB6:=O (HB5.out.trans (hb6.mono HB5.out.size));clear hb6)
      |(refine cH bk ah rfl (.tmp 14) rfl g rfl _ HG6.out ?_)
      |(refine aM (T:=47) (bc bk ah) (dM bk) rfl (.tmp 2) (.tmp 97) rfl w.heap.size (bc zB ah) rfl rfl (ey bk) (by rw[aC,aC]) (HRES.out _ HB6.out).1 ?_;intro we hge hoe hbe))
     refine g_ (aA rfl _ _ w.heap.size _ rfl (aX _ _ bk ah _ hge)) rfl ?_;exact⟨by rw[HZ.out,HE.out];rfl,(HRES.out _ HB6.out).2.trans (hbe _ (A_ _))⟩
end
end Go.Proofs.YtmfiaadjdbemnaaGreatDoor
