/- Contracts and lemmas. No condition. -/
import Derived.Test.YtmfiaadjdbemnaaGreatDoorSB22
import Derived.Test.YtmfiaadjdbemnaaGreatDoorSB23
import Derived.Test.YtmfiaadjdbemnaaGreatDoorSB24
set_option maxRecDepth 100000
set_option maxHeartbeats 8000000
set_option linter.unusedSimpArgs false
set_option linter.unusedVariables false
namespace Go.Proofs.YtmfiaadjdbemnaaGreatDoor
open Tryz
section
variable {ops:Array Oper} {rest:List Oper} {o:Oper} {a:Act} {w:World} {Q:Exit→Act→World→Prop}
section
open Go.RowKit Go.Shelf
def ofM (c:UInt8) (l:List (List UInt8)):List UInt8:=c::ea aV l
def ofP (c:UInt8) (l:List (List UInt8)):List UInt8:=(sha (ofM c l)).take 16
theorem tE (c:UInt8) (l:List (List UInt8)):(ofP c l).length=16:=by unfold ofP;rw[b_,ew];rfl
theorem Bz (c:UInt8) (l:List (List UInt8)) (j:Nat) (h:j<l.length):ofM c (l.take (j+1))=ofM c (l.take j)++aV l[j]:=by unfold ofM;rw[kU aV l j h];rfl
theorem qH (c:UInt8) (l:List (List UInt8)) (j:Nat):(ofM c (l.take j)).length≤(ofM c l).length:=by unfold ofM;have := hG aV l j;simp only[Z_];omega
def sg (M:List UInt8):Array Value:=stc (eJ M (M.length / 64)) (lx M) M.length
theorem DH (M:List UInt8):stv M = .agg (sg M):=rfl
theorem oh (M:List UInt8):(sg M).size=73:=gA _ _ _ (om M)
theorem og (M:List UInt8):(prog.info? 135).map (·.size)=some (sg M).size:=by rw[oh];exact J4
theorem Cg (M:List UInt8):((sg M).all fun u=>u.oneCell')=true:=tN _ _ _
def zst:Array Value:=stc z73 zb 0
theorem Nc:zst.size=73:=rfl
theorem Nf (w:World):(zeroValue 135).run prog w = .ok (.agg zst) w:=Aj w
theorem CF {w:World} {g:Nat} {d:List UInt8} {T:TypeId} (hd:d.length=32) (h:w.heap[g]?=some (.cells (brow d) T (0,0))):w.rangeAt g 0 (am (d.take 16)).toList:=by
 intro j x hx;obtain⟨h1,rfl⟩:=nK _ _ _ hx;rw[e_ _ _ _ _ _ _ h,a_,uE d j h1];exact nH d j (by omega)
theorem Xm (c:UInt8):IntKind.u8.wrap (B8 c)=B8 c:=by rw[IntKind.wrap_u8];exact cI c
attribute [local irreducible] Calls am brow stv sg zst sha aV
theorem Wl (c:UInt8) (t:Int) (ht:t=B8 c) (v:Value) (l:List (List UInt8)) (w:World) (hk:KAt w) (hv:RdE eS w v l) (hl:(ofM c l).length≤900000) (hn:l.length≤1000) :
  Calls prog 35 #[.int .i64 t,v] w fun e w'=>e = .returned (.agg (am (ofP c l)))∧Below w.heap.size w w':=by
 have hz:=ja;have hz2:=Nf;have hz3:=oy;have har:=D9;have HL:=O hl;obtain⟨a,cap,rfl,_,_,_⟩:=id hv
 have hni:(l.length:Int)≤1000:=by omega
 have HT:=O ht;obtain⟨W0,hW0⟩:∃W0,W0=w.alloc (.cells (am z16) 23):=⟨_,rfl⟩;have HW:=O hW0
 have HX:Hid (∀u,Below W0.heap.size W0 u→u.heap[w.heap.size]?=some (.cells (am z16) 23 (0,0))∧Below w.heap.size w u∧KAt u∧RdE eS u (.slice a l.length cap) l):=O (by
  intro u h;rw[hW0] at h;have h2:=cJ _ _ h
  exact⟨by rw[h.block _ (by simp)];exact al _ _ _ rfl,h2,hk.on h2,hv.on h2⟩)
 have HZL:Hid (w.heap.size<W0.heap.size):=O (by rw[hW0];simp)
 have hw8:IntKind.u8.wrap t=B8 c:=by rw[ht];exact Xm c
 have hm8:t % 256=B8 c:=by rw[←IntKind.wrap_u8];exact hw8
 clear hW0 hk hv hl hn ht
 go_enter func35,ntmps35
 go_upto_region 1 with fail
 rw[←HW.out]
 try dsimp only[Act.put]
 refine aY 7 [[],[],[1],[2],[3],[0,4],[]] (SP.of [.eq (stv []),.eq (.int .i64 t),.eq (.int .u8 (B8 c)),.freshS W0.heap.size 1 #[.int .u8 (B8 c)] 5,.eq (.string ⟨[c].toArray⟩),.eq (stv [c]),.fresh W0.heap.size zst 135]) (fun _=>undef) ?h1 ?h2 ?h3 ?h4 ?h5 ?h6
 case h1=>kernel_rfl
 case h2=>kernel_rfl
 case h3=>kernel_rfl
 case h4 =>
  simp only[F_,c_]
  repeat (first |exact trivial|refine⟨fun vals v=>by kernel_rfl,?_⟩)
 case h5 =>
  simp only[F_,c_];refine⟨?_,?_,?_,?_,?_,?_,?_,trivial⟩
  all_goals (intro wq hbq vals;simp only[Nat.reduceAdd,a_,X_,W_];have HQ:=O (HX.out wq hbq);have HBQ:=O hbq;clear hbq;repeat (first |refine ar ?_|refine aw rfl ?_))
  case refine_5 =>
   refine aG rfl ?_;rintro _ ⟨g,rfl,hg1,hg2⟩;refine ar ?_;intro Q hQ;simp only[ay,upd,Act.put,B_,C_,D_,Nat.reduceAdd,a_,Nat.reduceEqDiff,if_true,if_false,reduceIte];have hcv:(convert 80 9 (.slice (some ⟨g,0,none⟩) 1 1)).run prog wq = .ok (.string ⟨#[c]⟩) wq:=b6 (lq (E:=eB) hg2 [c] rfl (by simp));clear hg1 hg2;go_wp2;exact ab hQ _ (by kernel_rfl) (O_ _ _) rfl
  all_goals (intro Q hQ;simp only[ay,upd,Act.put,B_,C_,D_,Nat.reduceAdd,a_,Nat.reduceEqDiff,if_true,if_false,reduceIte])
  case refine_1 =>
   go_wp2_with (go_at_call 66;refine(te _).mono ?_;rintro e x1 ⟨rfl,hx1⟩)
   exact ab hQ _ (by kernel_rfl) hx1 rfl
  case refine_4 =>
   go_wp2;exact ab hQ _ (by kernel_rfl) ((O_ _ _).alloc (A_ _) _) ⟨wq.heap.size,rfl,HBQ.out.size,al _ _ _ rfl⟩
  case refine_6 =>
   go_wp2_with (go_at_call 67;refine(ue [] [c] _ HQ.out.2.2.1 (by simp)).mono ?_;rintro e x1 ⟨rfl,hx1⟩)
   exact ab hQ _ (by kernel_rfl) hx1 rfl
  case refine_7 =>
   go_wp2;exact ab hQ _ (by kernel_rfl) ((O_ _ _).alloc (A_ _) _) ⟨wq.heap.size,rfl,HBQ.out.size,al _ _ _ rfl⟩
  all_goals go_wp2
  all_goals exact ab hQ _ (by kernel_rfl) (O_ _ _) rfl
 case h6 =>
  intro wq hbq vals;rw[show List.range 7=[0,1,2,3,4,5,6] from by decide];refine aw rfl ?_;refine aw rfl ?_;refine aw rfl ?_;refine aG rfl ?_;intro _ _;refine aw rfl ?_;refine aw rfl ?_;refine aG rfl ?_;rintro _ ⟨gs,rfl,hg1,hg2⟩;refine ar ?_;simp only[F_,c_,J_,L_];simp only[ay,upd,Act.put,B_,C_,D_,Nat.reduceAdd,a_,Nat.reduceEqDiff,if_true,if_false,reduceIte];have HBQ:=O hbq;have HG1:=O hg1;have HG2:=O hg2;have HM0:Hid (ofM c (l.take 0)=[c]):=O rfl;clear hbq hg1 hg2
  go_wp2_with (refine aM (T:=135) (sg [c]) (og _) rfl (.tmp 5) (.tmp 14) rfl gs zst rfl (DH _) (Cg _) (by rw[Nc,oh]) HG2.out ?_;intro w3 hg3 ho3 hb3;have HG3:=O hg3;have HB3:=O (HBQ.out.trans (hb3 _ HG1.out));clear hg3 ho3 hb3)
  go_loopw [17] (fun i wr=>∃j:Nat,j≤l.length∧i = .int .i64 j∧Hid (wr.heap[gs]?=some (.cells (sg (ofM c (l.take j))) 135 (0,0)))∧Hid (Below W0.heap.size W0 wr)) (fun i _=>l.length-(intOf i).toNat)
  case atStart=>exact⟨0,N_ _,rfl,O (by rw[HM0.out];exact HG3.out),HB3⟩
  case round =>
   obtain⟨j,hj,rfl,hgs,hb⟩:=hrel;have HQ:=O (HX.out _ hb.out)
   by_cases hlt:j<l.length
   ·have j1:(j:Int)<l.length:=by omega
    obtain⟨bb,off,rfl,hbl,aO⟩:=dQ HQ.out.2.2.2 (by omega);have cj:=aO j hlt;have HN:=O (Bz c l j hlt);have hml:=qH c l (j+1);rw[HN.out,E_] at hml
    have hxl:l[j].length≤(aV l[j]).length:=by unfold aV;rw[E_];omega
    generalize l[j]=x at cj HN hml hxl;generalize ofM c (l.take j)=M at hgs HN hml;have HML:Hid (M.length≤900000∧(aV x).length≤900000∧x.length≤900000):=O (by have := HL.out;omega);obtain⟨es,hes⟩:∃es,es=aV x:=⟨_,rfl⟩;rw[←hes] at HN HML;have HES:=O hes;have HJ:=O hlt;clear aO hlt hml hxl hes
    go_upto_region 5 with fail
    try dsimp only[Act.put]
    refine aY 5 [[],[],[1],[2],[0,3]] (SP.of [.eq (stv M),.eq (.string ⟨x.toArray⟩),.ownR wr.heap.size es,.eq (.string ⟨es.toArray⟩),.eq (stv (M++es))]) (fun i=>([u21,u22,u23,u24,u25]:List Value).getD i undef) ?h1 ?h2 ?h3 ?h4 ?h5 ?h6
    case h1=>kernel_rfl
    case h2=>kernel_rfl
    case h3=>kernel_rfl
    case h4 =>
     simp only[F_,c_]
     repeat (first |exact trivial|refine⟨fun vals v=>by kernel_rfl,?_⟩)
    case h5 =>
     simp only[F_,c_];refine⟨?_,?_,?_,?_,?_,trivial⟩
     all_goals (intro wz hbz vals;simp only[Nat.reduceAdd,a_,X_,W_];have HBZ:=O hbz;have HGZ:=O (aa hgs.out hbz);have HKZ:=O (HQ.out.2.2.1.on hbz);clear hbz;repeat (first |refine ar ?_|refine aw rfl ?_))
     case refine_4 =>
      refine aG rfl ?_;intro v1 ho1;refine ar ?_;intro Q hQ;simp only[ay,upd,Act.put,B_,C_,D_,Nat.reduceAdd,a_,Nat.reduceEqDiff,if_true,if_false,reduceIte];have hcv:=b6 (show ap eB wz wr.heap.size v1 es from ho1).rd;clear ho1;go_wp2;exact ab hQ _ (by kernel_rfl) (O_ _ _) rfl
     all_goals (intro Q hQ;simp only[ay,upd,Act.put,B_,C_,D_,Nat.reduceAdd,a_,Nat.reduceEqDiff,if_true,if_false,reduceIte])
     case refine_1 =>
      go_wp2_with (refine wpList_load_row rfl 135 (.tmp 5) rfl gs rfl _ (sg M) (0,0) _ HGZ.out underlying135 rfl (og _) ?_)
      exact ab hQ (stv M) (by kernel_rfl) (O_ _ _) rfl
     case refine_3 =>
      go_wp2_with (go_at_call 68;refine(lG x _ (by have := HML.out.2.2;omega)).mono ?_;rintro e x1 ⟨v1,rfl,ho1,hx1⟩;rw[←HES.out] at ho1;have HO1:=O ho1;have HX1:=O hx1;clear ho1 hx1)
      exact ab hQ _ (by kernel_rfl) HX1.out (HO1.out.mono HBZ.out.size)
     case refine_5 =>
      go_wp2_with (go_at_call 67;refine(ue M es _ HKZ.out (by have := HML.out;omega)).mono ?_;rintro e x1 ⟨rfl,hx1⟩)
      exact ab hQ _ (by kernel_rfl) hx1 rfl
     all_goals go_wp2
     all_goals exact ab hQ _ (by kernel_rfl) (O_ _ _) rfl
    case h6 =>
     intro wz hbz vals;rw[show List.range 5=[0,1,2,3,4] from by decide];refine aw rfl ?_;refine aw rfl ?_;refine aG rfl ?_;intro _ _;refine aw rfl ?_;refine aw rfl ?_;refine ar ?_;simp only[F_,c_,J_,L_];simp only[ay,upd,Act.put,B_,C_,D_,Nat.reduceAdd,a_,Nat.reduceEqDiff,if_true,if_false,reduceIte];have HGZ:=O (aa hgs.out hbz);have HBZ:=O (hb.out.trans (hbz.mono hb.out.size));clear hbz
     go_wp2_with (refine aM (T:=135) (sg (M++es)) (og _) rfl (.tmp 5) (.tmp 25) rfl gs (sg M) rfl (DH _) (Cg _) (by rw[oh,oh]) HGZ.out ?_;intro w4 hg4 ho4 hb4;have HG4:=O hg4;have HB4:=O (HBZ.out.trans (hb4 _ HG1.out));clear hg4 ho4 hb4)
     go_roundw
     case rel=>exact⟨j+1,HJ.out,by go_num,O (by rw[HN.out];exact HG4.out),HB4⟩
     case measure=>have := HJ.out;simp[intOf];omega
   ·have he:j=l.length:=by omega
    have j1:¬(j:Int)<l.length:=by omega
    have HG5:Hid (wr.heap[gs]?=some (.cells (sg (ofM c l)) 135 (0,0))):=O (by have h:=hgs.out;rw[he,List.take_length] at h;exact h);have HP:Hid (ofP c l=(sha (ofM c l)).take 16):=O rfl;have HSL:=O (ew (ofM c l));have HS:Hid (∀(y:World),KAt y→Calls prog 69 #[.agg (sg (ofM c l))] y fun e y'=>e = .returned (.agg (brow (sha (ofM c l))))∧Below y.heap.size y y'):=O (fun (y:World) (a:KAt y)=>by rw[←DH];exact FE (ofM c l) y a (by have := HL.out;omega));generalize ofM c l=M at HG5 HP HS HSL;generalize sha M=sm at HS HP HSL;clear he hlt hj hgs
    go_upto_region 8 with (first
     |(refine wpList_load_row rfl 135 (.tmp 5) rfl gs rfl _ (sg M) (0,0) _ HG5.out underlying135 rfl (og _) ?_)
     |(go_at_call 69;refine(HS.out _ HQ.out.2.2.1).mono ?_;rintro e w6 ⟨rfl,hb6⟩;have HB6:=O (hb.out.trans (hb6.mono hb.out.size));clear hb6)
     |(refine aH (brow sm) 139 rfl (.tmp 8) (.tmp 28) rfl _ rfl rfl rfl (ir _ HSL.out) (by rw[bV,bV,HSL.out];rfl) (iW _) ?_))
    have HR8:Hid ((w6.alloc (.cells (brow sm) 139)).heap[w6.heap.size]?=some (.cells (brow sm) 139 (0,0))):=O (heap_alloc_new _ _);have HB8:Hid (Below W0.heap.size W0 (w6.alloc (.cells (brow sm) 139))):=O (HB6.out.alloc HB6.out.size _);generalize hw8:w6.alloc (.cells (brow sm) 139)=w8 at HR8 HB8 ⊢;generalize hg8:w6.heap.size=g8 at HR8 ⊢;have HQ8:=O (HX.out _ HB8.out);clear hw8 hg8
    go_wp2_with (first
     |(refine db (sm.take 16) g8 0 (.tmp 30) ?_ (CF HSL.out HR8.out) ?_ ?_ ?_;exact rfl;exact rfl;exact rfl)
     |(refine aM (T:=23) (am (sm.take 16)) (by rw[aF];exact cC) rfl (.tmp 4) (.tmp 31) rfl w.heap.size (am z16) rfl rfl (jO _) (by rw[aF,aF]) HQ8.out.1 ?_;intro we hge hoe hbe))
    refine g_ (results_cell_row rfl _ _ w.heap.size _ (am (sm.take 16)) (0,0) _ rfl hge underlying23 rfl (by rw[aF];exact cC)) rfl ?_;exact⟨by rw[HP.out],HQ8.out.2.1.trans (hbe _ (A_ _))⟩
theorem Gf:prog.built 23 []=some (am z16):=by kernel_rfl
theorem p8 (hgd:Region.wanted o (yielded ops a.tmps)=true) (ho:o.op = .build 23 #[])
  (h:wpList prog ops Q rest (a.put o.dst (.agg (am z16))) w):wpList prog ops Q (o::rest) a w :=
 wpList_step fun K hK=>by
  rw[G_ hgd];have hr:=run_build (P:=prog) w 23 #[] _ Gf;unfold Oper.wp execOp;simp only[ho,List.map_toArray,List.map_nil,hr,Sem.run_bind,Sem.run_pure,Result.andThen_ok];exact hK _ _ h
end
section
open Go.RowKit
structure SH where
 set:List UInt8
 need:Int
 idx:Int
 data:List UInt8
def fK (sec st:List UInt8) (m i:Nat):List UInt8:=byteAt sec i::(st.drop (i*m)).take m
def iJ (sec st:List UInt8) (m k j:Nat):List UInt8:=Fld.tab sec.length fun i=>if i<j then F6.ev (fK sec st m i) (UInt8.ofNat k) else 0
def fE (sec st:List UInt8) (m k:Nat):List UInt8:=Fld.tab sec.length fun i=>F6.ev (fK sec st m i) (UInt8.ofNat k)
theorem dR (sec st:List UInt8) (m k:Nat):(fE sec st m k).length=sec.length:=Fld.tab_len _ _
theorem fI (sec st:List UInt8) (m k j:Nat):(iJ sec st m k j).length=sec.length:=Fld.tab_len _ _
theorem AK (sec st:List UInt8) (m k:Nat):iJ sec st m k 0=List.replicate sec.length 0:=by
 refine Fld.ext_at (by rw[fI,List.length_replicate]) (fun j hj => ?_);rw[iJ,Fld.tab_at,Fld.at_rep]
 simp
theorem CT (sec st:List UInt8) (m k:Nat):iJ sec st m k sec.length=fE sec st m k:=by
 refine Fld.ext_at (by rw[fI,dR]) (fun j hj => ?_);rw[fI] at hj;rw[iJ,fE,Fld.tab_at,Fld.tab_at]
 simp[hj]
theorem CU (sec st:List UInt8) (m k j:Nat) (hj:j<sec.length):(iJ sec st m k j).set j (F6.ev (fK sec st m j) (UInt8.ofNat k))=iJ sec st m k (j+1):=by
 refine Fld.ext_at (by rw[List.length_set,fI,fI]) (fun i hi => ?_);rw[List.length_set,fI] at hi;rw[Fld.at_set,fI];simp only[iJ,Fld.tab_at]
 by_cases e:j=i
 ·subst e
  simp[hi]
 ·rw[H_ (by simp[e])]
  simp only[hi,if_true]
  by_cases h:i<j
  ·simp[h,show i<j+1 by omega]
  ·simp[h,show ¬i<j+1 by omega]
def shP (set sec st:List UInt8) (m k:Nat):SH:=⟨set,(m:Int)+1,k,fE sec st m k⟩
def dh (set sec st:List UInt8) (m n:Nat):List SH:=(List.range n).map fun k=>shP set sec st m (k+1)
theorem qS (set sec st:List UInt8) (m n:Nat):dh set sec st m (n+1)=dh set sec st m n++[shP set sec st m (n+1)]:=by simp[dh,List.range_succ]
theorem sZ (set sec st:List UInt8) (m n:Nat):(dh set sec st m n).length=n:=by simp[dh]
open Go.RowKit Go.Shelf
theorem aQ {w w':World} (hb:Below w.heap.size w w') {p:Addr} {v:Value} (h:w.cell? p=some v):w'.cell? p=some v:=by
 obtain⟨o,ho,_⟩:=cells_of_cell h;rw[World.cell?_of_block (a:=p) (hb.block _ (Q_.1 ho).1)];exact h
def shc (s:SH):List Value:=(am s.set).toList++[.int .i64 s.need,.int .i64 s.idx,.string ⟨s.data.toArray⟩]
def eH:El SH:=⟨103,28,19,shc⟩
theorem qT (s:SH):(shc s).length=19:=by
 unfold shc;rw[E_]
 show (am s.set).size+3=19
 rw[aF]
theorem Ft (s:SH):∀u∈shc s,u.oneCell'=true:=by
 intro u hu;unfold shc at hu
 rcases List.mem_append.1 hu with h|h
 ·exact Array.all_eq_true_iff_forall_mem.1 (iY s.set) u (Array.mem_toList_iff.1 h)
 ·simp at h
  rcases h with rfl|rfl|rfl <;> rfl
theorem oI:eH.OK:=⟨underlying28,by kernel_rfl,qT,Ft,by decide⟩
theorem lR (n:Int) (w:World):Calls prog 107 #[.int .i64 n] w fun e w'=>e = .returned (.bool (decide (1≤n) && decide (n≤64)))∧w'=w:=by
 go_enter func107,ntmps107
 by_cases h1:1≤n
 ·by_cases h2:n≤64
  ·go_wp2
   go_ret
   simp[h1,h2]
  ·go_wp2
   go_ret
   simp[h1,h2]
 ·go_wp2
  go_ret
  have h2:(decide (1≤n) && decide (n≤64))=false:=by simp;omega
  exact⟨by rw[h2];rfl,rfl⟩
theorem L1 (sec st:List UInt8) (m i p1 p2 p3:Nat) (u:World) (c1:u.cell? ⟨p1,0,none⟩=some (.string ⟨sec.toArray⟩)) (c2:u.cell? ⟨p2,0,none⟩=some (.string ⟨st.toArray⟩)) (c3:u.cell? ⟨p3,0,none⟩=some (.int .i64 ((m:Int)+1)))
  (hi:i<sec.length) (hst:st.length=sec.length*m) (hm:m≤16) (hs:sec.length≤64) :
  Calls prog 109 #[.int .i64 i,.pointer (some ⟨p1,0,none⟩),.pointer (some ⟨p2,0,none⟩),.pointer (some ⟨p3,0,none⟩)] u fun e u'=>∃v,e = .returned v∧ap eB u' u.heap.size v (fK sec st m i)∧Below u.heap.size u u':=by
 obtain⟨a,ha⟩:∃a:Nat,a=i*m:=⟨_,rfl⟩;obtain⟨b,hb⟩:∃b:Nat,b=(i+1)*m:=⟨_,rfl⟩
 have hab:b=a+m:=by rw[ha,hb,Nat.add_mul,Nat.one_mul]
 have hbl:b≤st.length:=by rw[hb,hst];exact Nat.mul_le_mul_right m hi
 have hsl:st.length≤1024:=by rw[hst];exact Nat.mul_le_mul hs hm
 have HPOLY:Hid (fK sec st m i=[byteAt sec i]++(st.drop a).take (b-a)):=O (by rw[ha,show b-i*m=m by omega];rfl);generalize fK sec st m i=po at HPOLY ⊢;have HA:Hid ((i:Int)*(m:Int)=(a:Int)∧((i:Int)+1)*(m:Int)=(b:Int)):=O ⟨by rw[ha];simp,by rw[hb];simp⟩;have HSL:=O hsl;have HBL:=O hbl
 have hi1:(i:Int)<sec.length:=by omega
 have hil:i<sec.length:=hi
 have hm1:(m:Int)≤16:=by omega
 have hi2:(i:Int)≤64:=by omega
 have hai:(a:Int)≤b:=by omega
 have hbi:(b:Int)≤st.length:=by omega
 have hb3:(b:Int)≤1024:=by omega
 have HC:Hid (∀y,Below u.heap.size u y→y.cell? ⟨p1,0,none⟩=some (.string ⟨sec.toArray⟩)∧y.cell? ⟨p2,0,none⟩=some (.string ⟨st.toArray⟩)∧y.cell? ⟨p3,0,none⟩=some (.int .i64 ((m:Int)+1))):=O (fun y hy=>⟨aQ hy c1,aQ hy c2,aQ hy c3⟩);clear c1 c2 c3 ha hb hab hst hm hs hsl hbl hi
 go_enter func109,ntmps109
 go_upto_region 1 with fail
 try dsimp only[Act.put]
 refine aY 15 [[],[],[0,1],[2],[],[],[],[6],[5,7],[],[9],[],[11],[10,12],[4,8,13]] (SP.of [.eq (.string ⟨sec.toArray⟩),.eq (.int .i64 i),.eq (.int .u8 (B8 (byteAt sec i))),SP.ownR u.heap.size [byteAt sec i],.eq (.string ⟨st.toArray⟩),.eq (.int .i64 i),.eq (.int .i64 ((m:Int)+1)),.eq (.int .i64 m),.eq (.int .i64 a),.eq (.int .i64 i),.eq (.int .i64 ((i:Int)+1)),.eq (.int .i64 ((m:Int)+1)),.eq (.int .i64 m),.eq (.int .i64 b),.eq (.string ⟨((st.drop a).take (b-a)).toArray⟩)]) (fun _=>undef) ?h1 ?h2 ?h3 ?h4 ?h5 ?h6
 case h1=>kernel_rfl
 case h2=>kernel_rfl
 case h3=>kernel_rfl
 case h4 =>
  simp only[F_,c_]
  repeat (first |exact trivial|refine⟨fun vals v=>by kernel_rfl,?_⟩)
 case h5 =>
  simp only[F_,c_];refine⟨?_,?_,?_,?_,?_,?_,?_,?_,?_,?_,?_,?_,?_,?_,?_,trivial⟩
  all_goals (intro wq hbq vals;simp only[Nat.reduceAdd,a_,X_,W_];have HQ:=O (HC.out wq hbq);have HBQ:=O hbq;clear hbq;repeat (first |refine ar ?_|refine aw rfl ?_);intro Q hQ;simp only[ay,upd,Act.put,B_,C_,D_,Nat.reduceAdd,a_,Nat.reduceEqDiff,if_true,if_false,reduceIte])
  case refine_1 =>
   have c:=HQ.out.1;go_wp2;exact ab hQ _ (by kernel_rfl) (O_ _ _) rfl
  case refine_4 =>
   go_wp2;exact ab hQ _ (by kernel_rfl) ((O_ _ _).alloc (A_ _) _) ⟨rfl,.inr ⟨wq.heap.size,1,_,rfl,HBQ.out.size,al _ _ _ rfl,A_ _,by unfold maxLen;omega,rfl,rfl⟩⟩
  case refine_5 =>
   have c:=HQ.out.2.1;go_wp2;exact ab hQ _ (by kernel_rfl) (O_ _ _) rfl
  case refine_7 =>
   have c:=HQ.out.2.2;go_wp2;exact ab hQ _ (by kernel_rfl) (O_ _ _) rfl
  case refine_12 =>
   have c:=HQ.out.2.2;go_wp2;exact ab hQ _ (by kernel_rfl) (O_ _ _) rfl
  case refine_9 =>
   have hp:=HA.out.1;go_wp2;exact ab hQ (.int .i64 a) (by kernel_rfl) (O_ _ _) rfl
  case refine_14 =>
   have hp:=HA.out.2;go_wp2;exact ab hQ (.int .i64 b) (by kernel_rfl) (O_ _ _) rfl
  all_goals go_wp2
  all_goals exact ab hQ _ (by kernel_rfl) (O_ _ _) rfl
 case h6 =>
  intro wq hbq vals;have HBQ:=O hbq;clear hbq;rw[show List.range 15=[0,1,2,3,4,5,6,7,8,9,10,11,12,13,14] from by decide];refine aw rfl (aw rfl (aw rfl (aG rfl ?_)));intro v1 ho1;have HO1:=O ho1;clear ho1
  repeat (first |refine ar ?_|refine aw rfl ?_)
  simp only[F_,c_,J_,L_];simp only[ay,upd,Act.put,B_,C_,D_,Nat.reduceAdd,a_,Nat.reduceEqDiff,if_true,if_false,reduceIte]
  go_wp2_with (at_builtin;refine D8 rfl (.tmp 9) (.tmp 20) rfl u.heap.size _ [byteAt sec i] rfl HO1.out ((st.drop a).take (b-a)) rfl (by have := HSL.out;have := HBL.out;simp;omega) HBQ.out.size ?_;intro v2 w2 ho2 hg2;have HB2:=O (HBQ.out.trans (HO1.out.below hg2 HBQ.out.size));have HO2:=O ho2;clear ho2 hg2)
  go_ret;exact⟨_,rfl,by rw[HPOLY.out];exact HO2.out,HB2.out⟩
def zSH:SH:=⟨z16,0,0,[]⟩
def shA (s:SH):Array Value:=(shc s).toArray
theorem cX (s:SH):(shA s).size=19:=by rw[shA,List.size_toArray,qT]
theorem nZ (s:SH):((shA s).all fun u=>u.oneCell')=true:=by
 rw[Array.all_eq_true_iff_forall_mem];intro u hu;exact Ft s u (by simpa [shA] using hu)
theorem Cs:(prog.info? 103).map (·.zero)=some (some (.agg (shA zSH))):=by kernel_rfl
theorem js:(prog.info? 103).map (·.size)=some 19:=by kernel_rfl
theorem I7 (d:List UInt8) (a b:Int) (t:List UInt8):prog.built 103 [(0,.agg (am d)),(1,.int .i64 a),(2,.int .i64 b),(3,.string ⟨t.toArray⟩)]=some (shA ⟨d,a,b,t⟩):=by kernel_rfl
theorem IQ (s:SH) (hgd:o.guard=none) (x y z u:Operand) (ho:o.op = .build 103 #[(0,x),(1,y),(2,z),(3,u)]) (hx:a.eval x = .agg (am s.set)) (hy:a.eval y = .int .i64 s.need) (hz:a.eval z = .int .i64 s.idx) (hu:a.eval u = .string ⟨s.data.toArray⟩)
  (h:wpList prog ops Q rest (a.put o.dst (.agg (shA s))) w):wpList prog ops Q (o::rest) a w :=
 wpList_plain hgd fun K hK=>by
  have hr:=run_build (P:=prog) w 103 #[(0,.agg (am s.set)),(1,.int .i64 s.need),(2,.int .i64 s.idx),(3,.string ⟨s.data.toArray⟩)] _ (I7 s.set s.need s.idx s.data);unfold Oper.wp execOp;simp only[ho,List.map_toArray,List.map_cons,List.map_nil,hx,hy,hz,hu,hr,Sem.run_bind,Sem.run_pure,Result.andThen_ok];exact hK _ _ h
theorem Oc (s:SH):Instr.fill (fun i=>some (i*19,19)) ((Array.range (1*19)).map ((Value.agg (shA zSH)).cells[· % (Value.agg (shA zSH)).cells.size]!)) [(0,Value.agg (shA s))]=some (shA s):=by kernel_rfl
theorem IV (s:SH) (hg:o.guard=none) (x:Operand) (ho:o.op = .buildSlice 28 1 #[(0,x)]) (hx:a.eval x = .agg (shA s))
  (h:wpList prog ops Q rest (a.put o.dst (.slice (some ⟨w.heap.size,0,none⟩) 1 1)) (w.alloc (.cells (shA s) 103))):wpList prog ops Q (o::rest) a w:=by
 have hz:=Cs;have hs:=js
 cases hi:prog.info? 103 with
 | none=>rw[hi] at hs;cases hs
 | some i =>
   rw[hi] at hs hz;simp only[Option.map_some,Option.some.injEq] at hs hz;refine wpList_buildSlice hg _ 103 1 _ ho (shA s) i (.agg (shA zSH)) underlying28 hi hz (by rw[hs];decide) (by rw[hs];decide) ?_ h
   have hp:((#[(0,x)]:Array (Nat × Operand)).map fun (i,x)=>(i,a.eval x)).toList=[(0,Value.agg (shA s))]:=by simp[hx]
   rw[hp,hs];exact Oc s
theorem Kv (m:List UInt8):m.map (fun x=>Value.int .u8 (B8 x))=eB.flat m:=by
 induction m with
 | nil=>rfl
 | cons y m ih=>rw[List.map_cons,ih];rfl
theorem ui {w:World} {g:Nat} {l:List UInt8} (h:Fld.BAt w g l) (hl:l.length≤1000000):RdE eB w (.slice (some ⟨g,0,none⟩) l.length l.length) l :=
 lq (E:=eB) h.cells l (by unfold Fld.brow;exact Kv l) hl
end
end
end Go.Proofs.YtmfiaadjdbemnaaGreatDoor
