/- Contracts and lemmas. No condition. -/
import Derived.Test.YtmfiaadjdbemnaaGreatDoorSB17
import Derived.Test.YtmfiaadjdbemnaaGreatDoorSB14
import Derived.BigFrameIn
import Derived.LoopIn
import Derived.LoopNIn
import Derived.OwnWalkIn
import Derived.RangeFuncBox
import Derived.TacticsInMore
set_option maxRecDepth 100000
set_option maxHeartbeats 8000000
set_option linter.unusedSimpArgs false
set_option linter.unusedVariables false
namespace Go.Proofs.YtmfiaadjdbemnaaGreatDoor
open Tryz
section
open Go.RowKit
def SP.ownR (B:Nat) (l:List UInt8):SP := .pred (fun v w=>ap eB w B v l) (fun _ _ _ hb h=>h.on hb)
@[go_sem] theorem Yd (x:UInt8):IntKind.i64.wrap (B8 x)=B8 x:=by rw[IntKind.wrap_i64];have := jZ x;have := kI x;omega
@[go_sem] theorem Yf (x:UInt8):wrap64 (B8 x)=B8 x:=by have := jZ x;have := kI x;unfold wrap64;omega
attribute [local irreducible] Calls vOf bF aZ
end
section
open Go.RowKit Go.Shelf
def vL:List UInt8:=[118,97,108,117,101]
def sL:List UInt8:=[115,101,101,100]
def nxV (s:List UInt8):List UInt8:=aJ s vL
def nxS (s:List UInt8):List UInt8:=aJ s sL
theorem cL (s:List UInt8):(nxV s).length=32:=cE _ _
theorem im (s:List UInt8):(nxS s).length=32:=cE _ _
def ag (s:List UInt8):Array Value := #[.string ⟨s.toArray⟩]
theorem aa {W W':World} {g:Nat} {X:Obj} (h:W.heap[g]?=some X) (hb:Below W.heap.size W W'):W'.heap[g]?=some X:=by
 rw[hb.block _ (Q_.1 h).1];exact h
theorem eP (w:World) (A B:Obj):((w.alloc A).alloc B).heap[w.heap.size]?=some A:=by
 rw[((O_ (w.alloc A).heap.size _).alloc (A_ _) B).block _ (by simp)];exact heap_alloc_new _ _
theorem eR (w:World) (A B:Obj):((w.alloc A).alloc B).heap[w.heap.size+1]?=some B:=by
 have h:=heap_alloc_new (w.alloc A) B
 simpa using h
theorem aS (s:List UInt8):((ag s).all fun u=>u.oneCell')=true:=by simp[ag,Value.oneCell']
theorem iS {fn:Func} {p t:Tmp} {ty:TypeId} (h:fn.results = #[.tmp t,.cell p ty]) (tmps:Array Value) (w:World) (g:Nat) (x:Value)
  (hp:tmps.getD p undef = .pointer (some ⟨g,0,none⟩)) (hld:(loadVar ty ⟨g,0,none⟩).run prog w = .ok x w) :
  (results fn tmps).run prog w = .ok (.tuple #[tmps.getD t undef,x]) w:=by
 have hp':tmps[p]?.getD undef = .pointer (some ⟨g,0,none⟩):=by simpa using hp
 simp[results,h,hp',asAddr,hld]
attribute [local irreducible] Calls aJ
theorem M8:(prog.info? 30).map (·.zero)=some (some (.agg (ag []))):=by kernel_rfl
theorem fi (w:World):(zeroValue 30).run prog w = .ok (.agg (ag [])) w:=by
 have h:=M8;generalize ag []=L at h ⊢
 cases hq:prog.info? 30 with
 | none=>rw[hq] at h;cases h
 | some i =>
   rw[hq] at h
   simp at h
   simp[zeroValue,typeInfo,hq,h]
theorem cS:(prog.info? 30).map (·.size)=some 1:=by kernel_rfl
theorem I4 (s:List UInt8):prog.built 30 [(0,.string ⟨s.toArray⟩)]=some (ag s):=by kernel_rfl
theorem fD (w:World) (g:Nat) (s:List UInt8) (T:TypeId) (hg:w.heap[g]?=some (.cells (ag s) T (0,0))):(loadVar 30 ⟨g,0,none⟩).run prog w = .ok (.agg (ag s)) w :=
 run_loadVar_row w g T 30 (ag s) (0,0) _ hg underlying30 rfl cS
theorem oS {ops:Array Oper} {rest:List Oper} {o:Oper} {a:Act} {w:World} {Q:Exit→Act→World→Prop} (s:List UInt8) (hgd:Region.wanted o (yielded ops a.tmps)=true) (x:Operand) (ho:o.op = .build 30 #[(0,x)]) (hx:a.eval x = .string ⟨s.toArray⟩)
  (h:wpList prog ops Q rest (a.put o.dst (.agg (ag s))) w):wpList prog ops Q (o::rest) a w :=
 wpList_step fun K hK=>by
  rw[G_ hgd];have hr:=run_build (P:=prog) w 30 #[(0,.string ⟨s.toArray⟩)] _ (I4 s);unfold Oper.wp execOp;simp only[ho,List.map_toArray,List.map_cons,List.map_nil,hx,hr,Sem.run_bind,Sem.run_pure,Result.andThen_ok];exact hK _ _ h
theorem tC (s:List UInt8) (w:World) (hk:KAt w) (hl:s.length≤1000000) :
  Calls prog 33 #[.agg (ag s)] w fun e w'=>e = .returned (.tuple #[.string ⟨(nxV s).toArray⟩,.agg (ag (nxS s))])∧Below w.heap.size w w':=by
 have hz:=fi;have HL:=O hl;obtain⟨W0,hW0⟩:∃W0,W0=(w.alloc (.cells (ag s) 30)).alloc (.cells (ag []) 30):=⟨_,rfl⟩;have HW:=O hW0
 have HX:Hid (∀u,Below W0.heap.size W0 u→u.heap[w.heap.size]?=some (.cells (ag s) 30 (0,0))∧u.heap[w.heap.size+1]?=some (.cells (ag []) 30 (0,0))∧Below w.heap.size w u∧KAt u):=O (by
  intro u h;rw[hW0] at h;have h2:=dm _ _ _ h
  exact⟨by rw[h.block _ (by simp;omega)];exact eP _ _ _,by rw[h.block _ (by simp)];exact eR _ _ _,h2,hk.on h2⟩)
 have HV:Hid (aJ s vL=nxV s):=O rfl;have HS:Hid (aJ s sL=nxS s):=O rfl;have HD:=O (fun (l:List UInt8) (hl2:l.length≤1000) (y:World) (a:KAt y)=>uH s l y a (by omega) hl2);clear hW0 hk hl
 go_enter func33,ntmps33
 go_upto_region 1 with fail
 rw[←HW.out]
 try dsimp only[Act.put]
 refine aY 8 [[],[0],[1],[],[3],[4],[5],[2]] (SP.of [.eq (.pointer (some ⟨w.heap.size,0,none⟩)),.eq (.string ⟨s.toArray⟩),.eq (.string ⟨(nxV s).toArray⟩),.eq (.pointer (some ⟨w.heap.size,0,none⟩)),.eq (.string ⟨s.toArray⟩),.eq (.string ⟨(nxS s).toArray⟩),.eq (.agg (ag (nxS s))),.eq (.string ⟨(nxV s).toArray⟩)]) (fun i=>([undef,undef,undef,undef,undef,undef,undef,.string ⟨#[]⟩]:List Value).getD i undef) ?h1 ?h2 ?h3 ?h4 ?h5 ?h6
 case h1=>kernel_rfl
 case h2=>kernel_rfl
 case h3=>kernel_rfl
 case h4 =>
  simp only[F_,c_]
  repeat (first |exact trivial|refine⟨fun vals v=>by kernel_rfl,?_⟩)
 case h5 =>
  simp only[F_,c_];refine⟨?_,?_,?_,?_,?_,?_,?_,?_,trivial⟩
  all_goals (intro wq hbq vals;simp only[Nat.reduceAdd,a_,X_,W_];have HQ:=O (HX.out wq hbq);clear hbq;repeat (first |refine ar ?_|refine aw rfl ?_);intro Q hQ;simp only[ay,upd,Act.put,B_,C_,D_,Nat.reduceAdd,a_,Nat.reduceEqDiff,if_true,if_false,reduceIte])
  case refine_3 =>
   go_wp2_with (go_at_call 64;refine(HD.out vL (by decide) _ HQ.out.2.2.2).mono ?_;rintro e x1 ⟨rfl,hx1⟩;rw[HV.out])
   exact ab hQ _ (by kernel_rfl) hx1 rfl
  case refine_6 =>
   go_wp2_with (go_at_call 64;refine(HD.out sL (by decide) _ HQ.out.2.2.2).mono ?_;rintro e x1 ⟨rfl,hx1⟩;rw[HS.out])
   exact ab hQ _ (by kernel_rfl) hx1 rfl
  case refine_7 =>
   go_wp2_with (refine oS (nxS s) rfl (.tmp 9) rfl rfl ?_)
   exact ab hQ _ (by kernel_rfl) (O_ _ _) rfl
  case refine_2 =>
   have c:wq.cell? ⟨w.heap.size,0,none⟩=some (.string ⟨s.toArray⟩):=e_ _ _ _ _ _ _ HQ.out.1;go_wp2;exact ab hQ _ (by kernel_rfl) (O_ _ _) rfl
  case refine_5 =>
   have c:wq.cell? ⟨w.heap.size,0,none⟩=some (.string ⟨s.toArray⟩):=e_ _ _ _ _ _ _ HQ.out.1;go_wp2;exact ab hQ _ (by kernel_rfl) (O_ _ _) rfl
  all_goals go_wp2
  all_goals exact ab hQ _ (by kernel_rfl) (O_ _ _) rfl
 case h6 =>
  intro wq hbq vals;rw[show List.range 8=[0,1,2,3,4,5,6,7] from by decide]
  repeat (first |refine ar ?_|refine aw rfl ?_)
  simp only[F_,c_,J_,L_];simp only[ay,upd,Act.put,B_,C_,D_,Nat.reduceAdd,a_,Nat.reduceEqDiff,if_true,if_false,reduceIte];have HQ:=O (HX.out wq hbq);clear hbq
  go_wp2_with (refine aM (T:=30) (ag (nxS s)) cS rfl (.tmp 3) (.tmp 10) rfl (w.heap.size+1) (ag []) rfl rfl (aS _) rfl HQ.out.2.1 ?_;intro we hge hoe hbe)
  refine g_ (iS rfl _ _ (w.heap.size+1) _ rfl (fD _ _ (nxS s) _ hge)) rfl ?_;exact⟨rfl,HQ.out.2.2.1.trans (hbe _ (by omega))⟩
end
section
open Go.RowKit Go.Shelf
def sdN (s:List UInt8):Nat→List UInt8
 | 0=>s
 | k+1=>nxS (sdN s k)
def stm (s:List UInt8):Nat→List UInt8
 | 0=>[]
 | k+1=>stm s k++nxV (sdN s k)
theorem kG (s:List UInt8) (k:Nat):(stm s k).length=32*k:=by
 induction k with
 | zero=>rfl
 | succ k ih=>simp only[stm,E_,cL,ih];omega
theorem Px (s:List UInt8) (k:Nat) (h:s.length≤1000000):(sdN s k).length≤1000000:=by
 cases k with
 | zero=>exact h
 | succ k=>simp only[sdN,im];omega
theorem Kp {α β:Type} (R:Nat→α→β→Prop):∃mu:α→β→Nat,∀a b d,R d a b→R (mu a b) a b∧mu a b≤d:=by
 classical
 have lst:∀(p:Nat→Prop) (n:Nat),p n→∃d,p d∧∀e,p e→d≤e:=by
  intro p n
  induction n using Nat.strongRecOn with
  | ind n ih =>
    intro h
    by_cases hx:∃m,m<n∧p m
    ·obtain⟨m,hm,hp⟩:=hx
     exact ih m hm hp
    ·exact⟨n,h,fun e he=>Nat.le_of_not_lt (fun hlt=>hx ⟨e,hlt,he⟩)⟩
 refine⟨fun a b=>if h:∃d,R d a b∧∀e,R e a b→d≤e then Classical.choose h else 0,fun a b d h => ?_⟩;have hx:∃d,R d a b∧∀e,R e a b→d≤e:=lst (fun d=>R d a b) d h;simp only[dif_pos hx];exact⟨(Classical.choose_spec hx).1,(Classical.choose_spec hx).2 d h⟩
attribute [local irreducible] Calls aJ
attribute [local go_sem] Oper.semAt_some
theorem Mw (s:List UInt8) (N n l:Nat) (J Jx:Nat→World→Prop) (W:World) (hn:5≤n) (hs:s.length≤1000000)
  (hJ1:∀k A B,J k A→Below A.heap.size A B→J k B) (hX1:∀k A B,Jx k A→Below A.heap.size A B→Jx k B)
  (hJ2:∀k A B,J k A→(∃c,A.heap[W.heap.size]?=some (.cells c 30 (0,0)))→(∀i,i≠W.heap.size→B.heap[i]? = A.heap[i]?)→Below W.heap.size A B→J k B)
  (hX2:∀k A B,Jx k A→(∃c,A.heap[W.heap.size]?=some (.cells c 30 (0,0)))→(∀i,i≠W.heap.size→B.heap[i]? = A.heap[i]?)→Below W.heap.size A B→Jx k B)
  (hK:∀k A,J k A→KAt A) (h0:J 0 W) (hN:0<N)
  (hY:∀k A,J k A→k<N→W.heap.size<A.heap.size→YieldAt Fence.wide (n-1) prog l #[.string ⟨(nxV (sdN s k)).toArray⟩,.agg (ag (sdN s (k+1)))] A fun e B =>
   (A.heap.size≤B.heap.size∧∀j c,W.heap.size≤j→A.heap[j]?=some (.cells c 30 (0,0))→B.heap[j]?=some (.cells c 30 (0,0))) ∧
   ((e = .returned (.bool true)∧J (k+1) B∧k+1<N)∨(e = .returned (.bool false)∧Jx (k+1) B))) :
  CallsIn Fence.wide n prog 152 #[.agg (ag s),.func (.yield l) #[] #[]] W fun e B=>(∃v,e = .returned v)∧∃k,Jx k B:=by
 refine callsIn_of_wp func152 rfl trivial ?_;simp only[ntmps152,List.size_toArray,Z_,List.length_nil,Nat.reduceAdd,Nat.reduceSub,Array.replicate_succ,Array.replicate_zero,List.push_toArray,List.append_toArray,List.nil_append,List.cons_append];have HJ1:=O hJ1;have HX1:=O hX1;have HJ2:=O hJ2;have HX2:=O hX2;have HK:=O hK;have HY:=O hY;have HN:=O hn;have HS:=O (fun k=>Px s k hs);have H0:Hid (J 0 (W.alloc (.cells (ag s) 30))):=O (hJ1 0 _ _ h0 ((O_ _ _).alloc (A_ _) _));have HB0:Hid ((W.alloc (.cells (ag s) 30)).heap[W.heap.size]?=some (.cells (ag (sdN s 0)) 30 (0,0))):=O (heap_alloc_new _ _);have HL:Hid (0<N):=O hN;have hz:=fi;clear hJ1 hX1 hJ2 hX2 hK hY hn hs h0 hN;refine wpIn_seq (wpIn_wide.2 ?_);go_wp2;refine wpIn_seq (wpIn_wide.2 ?_);go_wp2;obtain⟨mu,hmu⟩:=Kp (fun (d:Nat) (m:Value) (wr:World)=>(∃k:Nat,m = .bool true∧k<N∧d=N-k∧Hid (J k wr)∧Hid (wr.heap[W.heap.size]?=some (.cells (ag (sdN s k)) 30 (0,0))))∨(m = .bool false∧d=0∧∃k:Nat,Hid (Jx k wr)));have HM:=O hmu;clear hmu;refine wpIn_block ?_
 gi_loopw [4] (fun m wr=>∃d:Nat,(∃k:Nat,m = .bool true∧k<N∧d=N-k∧Hid (J k wr)∧Hid (wr.heap[W.heap.size]?=some (.cells (ag (sdN s k)) 30 (0,0))))∨(m = .bool false∧d=0∧∃k:Nat,Hid (Jx k wr))) (fun m wr=>mu m wr)
 case atStart=>exact⟨_,.inl ⟨0,rfl,HL.out,rfl,H0,HB0⟩⟩
 case round =>
  obtain⟨d0,hd0⟩:=hrel;obtain⟨hd,_⟩:=HM.out _ _ _ hd0;clear hd0
  rcases hd with⟨k,rfl,hk,hmk,hjk,hbk⟩|⟨rfl,hm0,k,hxk⟩
  ·have HK1:Hid (k<N∧mu (.bool true) wr=N-k):=O ⟨hk,hmk⟩
   clear hk hmk;refine wpIn_seq (wpIn_seq (wpIn_wide.2 ?_));go_wp2;refine wpIn_cond_true rfl (wpIn_skip ?_);refine wpIn_block (wpIn_seq (wpIn_wide.2 ?_))
   go_wp2_with (first
    |(refine wpList_load_row rfl 30 (.tmp 2) rfl W.heap.size rfl _ (ag (sdN s k)) (0,0) _ hbk.out underlying30 rfl cS ?_)
    |(go_at_call 33;refine(tC (sdN s k) _ (HK.out k _ hjk.out) (HS.out k)).mono ?_;rintro e w1 ⟨rfl,hb1⟩;have HB1:=O hb1;clear hb1)
    |(refine aH (ag (nxS (sdN s k))) 30 rfl (.tmp 6) (.tmp 12) rfl _ rfl rfl rfl cS rfl (aS _) ?_))
   have HXB:Hid ((w1.alloc (.cells (ag (sdN s (k+1))) 30)).heap[w1.heap.size]?=some (.cells (ag (sdN s (k+1))) 30 (0,0))):=O (heap_alloc_new _ _);have HA2:Hid (Below wr.heap.size wr (w1.alloc (.cells (ag (sdN s (k+1))) 30))):=O (HB1.out.alloc HB1.out.size _);have HXS:Hid (W.heap.size<w1.heap.size):=O (by have h1:=(Q_.1 hbk.out).1;have := HB1.out.size;omega)
   change Code.wpIn _ _ _ _ _ _ (w1.alloc (.cells (ag (sdN s (k+1))) 30))
   have HJ3:=O (HJ1.out k _ _ hjk.out HA2.out);have HR3:Hid ((w1.alloc (.cells (ag (sdN s (k+1))) 30)).heap[W.heap.size]?=some (.cells (ag (sdN s k)) 30 (0,0))):=O (by rw[HA2.out.block _ (Q_.1 hbk.out).1];exact hbk.out);have HZ3:Hid (W.heap.size<(w1.alloc (.cells (ag (sdN s (k+1))) 30)).heap.size):=O (Q_.1 HR3.out).1;generalize w1.alloc (.cells (ag (sdN s (k+1))) 30)=w3 at HXB HJ3 HR3 HZ3 ⊢;generalize w1.heap.size=x at HXB HXS ⊢;clear HA2 HB1 hjk hbk;refine kK ?_ ?_
   ·rintro⟨a,w,h⟩
    simp[Exit.then,Exit.inBlock,bodyPost] at h
   intro K Q' hQ' HKK;refine He 3 hQ' rfl ?_;simp only[F_,c_,J_,L_]
   go_wp2_with (first
    |(refine wpList_load_row rfl 30 (.tmp 6) rfl x rfl _ (ag (sdN s (k+1))) (0,0) _ HXB.out underlying30 rfl cS ?_))
   obtain⟨fn,tmps,assign,body,hy,hR⟩:=HY.out k w3 HJ3.out HK1.out.1 HZ3.out
   have HKP:Hid (∀(B:World),(w3.heap.size≤B.heap.size∧∀j c,W.heap.size≤j→w3.heap[j]?=some (.cells c 30 (0,0))→B.heap[j]?=some (.cells c 30 (0,0)))→B.heap[x]?=some (.cells (ag (sdN s (k+1))) 30 (0,0))∧B.heap[W.heap.size]?=some (.cells (ag (sdN s k)) 30 (0,0))) :=
    O (fun B h=>⟨h.2 _ _ (Nat.le_of_lt HXS.out) HXB.out,h.2 _ _ (A_ _) HR3.out⟩)
   gi_wp2
   refine⟨(fun hh=>by cases hh),hR.mono ?_⟩;rintro e B ⟨hkp,(⟨rfl,hJ4,hlt⟩|⟨rfl,hJ4⟩)⟩
   ·have HXB4:=O (HKP.out B hkp).1
    have HR4:=O (HKP.out B hkp).2;have HJ4:=O hJ4;have HLT:=O hlt;clear hkp hJ4 hlt hy hR
    gi_wp2
    refine HKK.out _ _ (wpIn_wide.2 ?_)
    go_wp2_with (first
     |(refine wpList_load_row rfl 30 (.tmp 6) rfl x rfl _ (ag (sdN s (k+1))) (0,0) _ HXB4.out underlying30 rfl cS ?_)
     |(refine aM (T:=30) (ag (sdN s (k+1))) cS rfl (.tmp 2) (.tmp 17) rfl W.heap.size (ag (sdN s k)) rfl rfl (aS _) rfl HR4.out ?_;intro we hge hoe hbe;have HGE:=O hge;have HJE:=O (HJ2.out _ _ _ HJ4.out ⟨_,HR4.out⟩ hoe (hbe _ (A_ _)));clear hge hoe hbe))
    simp only[Act.put,B_,D_,C_];go_roundw
    case rel=>exact⟨_,.inl ⟨k+1,rfl,HLT.out,rfl,HJE,HGE⟩⟩
    case measure =>
     have h1:=(HM.out (.bool true) we (N-(k+1)) (.inl ⟨k+1,rfl,HLT.out,rfl,HJE,HGE⟩)).2;have h2:=HK1.out
     simp
     omega
   ·have HXB4:=O (HKP.out B hkp).1
    have HR4:=O (HKP.out B hkp).2;have HJ4:=O hJ4;clear hkp hJ4 hy hR
    gi_wp2
    refine HKK.out _ _ (wpIn_wide.2 ?_)
    go_wp2_with (first
     |(refine wpList_load_row rfl 30 (.tmp 6) rfl x rfl _ (ag (sdN s (k+1))) (0,0) _ HXB4.out underlying30 rfl cS ?_)
     |(refine aM (T:=30) (ag (sdN s (k+1))) cS rfl (.tmp 2) (.tmp 17) rfl W.heap.size (ag (sdN s k)) rfl rfl (aS _) rfl HR4.out ?_;intro we hge hoe hbe;have HGE:=O hge;have HJE:=O (HX2.out _ _ _ HJ4.out ⟨_,HR4.out⟩ hoe (hbe _ (A_ _)));clear hge hoe hbe))
    simp only[Act.put,B_,D_,C_];go_roundw
    case rel=>exact⟨_,.inr ⟨rfl,rfl,k+1,HJE⟩⟩
    case measure =>
     have h1:=(HM.out (.bool false) we 0 (.inr ⟨rfl,rfl,k+1,HJE⟩)).2;have h2:=HK1.out
     simp
     omega
  ·refine wpIn_seq (wpIn_seq (wpIn_wide.2 ?_))
   go_wp2;refine wpIn_cond_false rfl (wpIn_exit ?_);simp only[Exit.then,Exit.inBlock,if_true,reduceIte]
   go_end0
   exact⟨⟨_,rfl⟩,k,hxk.out⟩
end
end Go.Proofs.YtmfiaadjdbemnaaGreatDoor
