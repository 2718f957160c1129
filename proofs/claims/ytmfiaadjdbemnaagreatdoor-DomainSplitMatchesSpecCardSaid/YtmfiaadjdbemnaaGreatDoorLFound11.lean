/- Contracts and lemmas. No condition. -/
import Derived.Test.YtmfiaadjdbemnaaGreatDoorLFound09
import Derived.Test.YtmfiaadjdbemnaaGreatDoorLFound10
import Derived.Test.YtmfiaadjdbemnaaGreatDoorSB34
set_option maxRecDepth 100000
set_option maxHeartbeats 8000000
set_option linter.unusedSimpArgs false
set_option linter.unusedVariables false
namespace Go.Proofs.YtmfiaadjdbemnaaGreatDoor
open Go.Proofs.Tryz
section
variable {ops:Array Oper} {rest:List Oper} {o:Oper} {a:Act} {w:World} {Q:Exit→Act→World→Prop}
section
open Go.RowKit Go.Shelf
theorem FZ (x:List UInt8):prog.built 25 [(1,.string ⟨x.toArray⟩),(2,.int .i64 0)]=some (doA ⟨z16,x,0,0⟩):=by kernel_rfl
theorem Eh (k:List UInt8) (hgd:Region.wanted o (yielded ops a.tmps)=true) (x y:Operand) (ho:o.op = .build 25 #[(1,x),(2,y)]) (hx:a.eval x = .string ⟨k.toArray⟩) (hy:a.eval y = .int .i64 0)
  (h:wpList prog ops Q rest (a.put o.dst (.agg (doA ⟨z16,k,0,0⟩))) w):wpList prog ops Q (o::rest) a w :=
 wpList_step fun K hK=>by
  rw[G_ hgd];have hr:=run_build (P:=prog) w 25 #[(1,.string ⟨k.toArray⟩),(2,.int .i64 0)] _ (FZ k);unfold Oper.wp execOp;simp only[ho,List.map_toArray,List.map_cons,List.map_nil,hx,hy,hr,Sem.run_bind,Sem.run_pure,Result.andThen_ok];exact hK _ _ h
theorem F0 (d k:List UInt8):prog.built 25 [(0,.agg (am d)),(1,.string ⟨k.toArray⟩)]=some (doA ⟨d,k,0,0⟩):=by kernel_rfl
theorem NB (d k:List UInt8) (hgd:Region.wanted o (yielded ops a.tmps)=true) (x y:Operand) (ho:o.op = .build 25 #[(0,x),(1,y)]) (hx:a.eval x = .agg (am d)) (hy:a.eval y = .string ⟨k.toArray⟩)
  (h:wpList prog ops Q rest (a.put o.dst (.agg (doA ⟨d,k,0,0⟩))) w):wpList prog ops Q (o::rest) a w :=
 wpList_step fun K hK=>by
  rw[G_ hgd];have hr:=run_build (P:=prog) w 25 #[(0,.agg (am d)),(1,.string ⟨k.toArray⟩)] _ (F0 d k);unfold Oper.wp execOp;simp only[ho,List.map_toArray,List.map_cons,List.map_nil,hx,hy,hr,Sem.run_bind,Sem.run_pure,Result.andThen_ok];exact hK _ _ h
theorem QL (d:DO) (v:Value) (r:List UInt8) (e:Int)
  (hgd:Region.wanted o (yielded ops a.tmps)=true) (x:Operand) (ho:o.op = .load 36 x)
  (g:Nat) (hx:a.eval x = .pointer (some ⟨g,0,none⟩)) (T':TypeId) (hg:w.heap[g]?=some (.cells (foA d v r e) T' (0,0)))
  (h:wpList prog ops Q rest (a.put o.dst (.agg (foA d v r e))) w):wpList prog ops Q (o::rest) a w :=
 wpList_step fun K hK=>by
  rw[G_ hgd];exact wp_load_row _ x ho g hx _ (foA d v r e) (0,0) _ hg underlying36 rfl (fU _ _ _ _) (hK _ _ h)
theorem VO (d:DO) (v:Value) (r:List UInt8) (e:Int):(foA d v r e)[16]?=some (.string ⟨d.key.toArray⟩):=by kernel_rfl
theorem JR (d:DO) (v:Value) (r:List UInt8) (e:Int):(foA d v r e)[19]?=some v:=by kernel_rfl
theorem A7 (d:DO) (v:Value) (r:List UInt8) (e:Int):(foA d v r e)[20]?=some (.string ⟨r.toArray⟩):=by kernel_rfl
theorem uW (d:DO) (v:Value) (r:List UInt8) (e:Int):(foA d v r e)[21]?=some (.int .i64 e):=by kernel_rfl
theorem Si (d d':DO) (v:Value) (r:List UInt8) (e:Int):((foA d v r e).toList.take (0+0)++(doA d').toList++(foA d v r e).toList.drop (0+0+(doA d').toList.length)).toArray=foA d' v r e:=by
 unfold foA doA
 simp[nJ]
theorem Hm (w:World) (g:Nat) (d d':DO) (v:Value) (r:List UInt8) (e:Int) (hg:w.heap[g]?=some (.cells (foA d v r e) 36 (0,0))):(storeVar 25 ⟨g,0,none⟩ (.agg (doA d'))).run prog w = .ok () (w.setRow g (foA d' v r e)):=by
 have hr:=l9 w g 0 36 25 (foA d v r e) (doA d') hg (b8 d') (cr d') (by rw[kW,ed];decide)
 rwa [Si] at hr
theorem KI (nm:List UInt8) (h:nm.length=32):(ofM 12 [iz,nm]).length≤400000:=by
 have h7:=cg (iz.length:Int);have h8:=cg (nm.length:Int);have h9:iz.length=6:=rfl;unfold ofM;simp only[eL,fj,aV,Z_,E_,List.length_nil]
 omega
theorem Pk (s:List UInt8) (need n:Int):mG ⟨z16,nxV s,0,0⟩ (nxS s) need n=if kO need n then ⟨⟨z16,nxV (nxS s),1,0⟩,fdL (nxS s) (need-1).toNat n.toNat,nxS (nxS (nxS s)),0⟩ else zF 1:=by
 have hv:bD ⟨z16,nxV s,0,0⟩=true:=by unfold bD;simp[cL]
 unfold mG;rw[G_ hv,H_ (by show ¬(0:Int)=2147483647;decide)]
 rfl
theorem SY (s:List UInt8) (need n:Int):cP s need n=if kO need n then ⟨⟨ofP 12 [iz,nxV s],nxV (nxS s),0,0⟩,fdL (nxS s) (need-1).toNat n.toNat,nxS (nxS (nxS s)),0⟩ else zF 1:=rfl
attribute [local irreducible] Calls doA ag zFO foA
theorem QU (s:List UInt8) (need n:Int) (w:World) (hk:cA w) (hs:s.length≤400000) :
  Calls prog 11 #[.agg (ag s),.int .i64 need,.int .i64 n] w fun e w'=>∃va vn vc,e = .returned (.agg (foA (cP s need n).d (.slice va vn vc) (cP s need n).r (cP s need n).e))∧ap eH w' w.heap.size (.slice va vn vc) (cP s need n).l∧Below w.heap.size w w':=by
 have hzf:=tU;have hzr:=tW;obtain⟨W0,hW0⟩:∃W0,W0=(w.alloc (.cells (ag s) 34)).alloc (.cells zFO 36):=⟨_,rfl⟩;have HW:=O hW0;have HR0:Hid (W0.heap[w.heap.size]?=some (.cells (ag s) 34 (0,0))):=O (by rw[hW0];exact eP _ _ _);have HR1:Hid (W0.heap[w.heap.size+1]?=some (.cells zFO 36 (0,0))):=O (by rw[hW0];exact eR _ _ _);have HB:Hid (Below w.heap.size w W0):=O (by rw[hW0];exact dm _ _ _ (O_ _ _));have HN:=O (fun (u:World) (h:Below w.heap.size w u)=>tD s u (hk.on h) hs);have HRN:=O (fun (u:World) (h:Below w.heap.size w u)=>Fo ⟨z16,nxV s,0,0⟩ (nxS s) need n u (hk.on h) (by rw[im];decide));have HOF:=O (fun (u:World) (v:Value) (h:Below w.heap.size w u) (hv:RdE eS u v [iz,nxV s])=>Wm 12 12 rfl v [iz,nxV s] u (hk.on h) hv (KI _ (cL s)) (by simp));have HNP:=O (SY s need n);rw[Pk] at HRN;generalize fdL (nxS s) (need-1).toNat n.toNat=sl at HRN HNP;generalize nxS (nxS (nxS s))=s3 at HRN HNP;generalize nxV (nxS s)=ke at HRN HNP;generalize O:ofP 12 [iz,nxV s]=idd at HOF HNP;clear O;generalize nxS s=s1 at HN HRN;generalize nxV s=nm at HN HRN HOF;generalize cP s need n=N at HNP ⊢;clear hk hs hW0
 cases hfd:kO need n with
 | false =>
   rw[hfd] at HRN HNP;simp only[Bool.false_eq_true,if_false] at HRN HNP;rw[HNP.out];clear hfd HNP
   go_enter func11,ntmps11
   go_upto_region 1 with fail
   rw[←HW.out]
   try dsimp only[Act.put]
   go_upto_region 2 with (first
    |(refine mA s rfl (.tmp 3) rfl w.heap.size rfl _ HR0.out ?_)
    |(go_at_call 36;refine(HN.out _ HB.out).mono ?_;rintro e y1 ⟨rfl,hy1⟩;have HB1:=O (HB.out.trans (hy1.mono HB.out.size));have HR2:=O (aa HR1.out hy1);clear hy1)
    |(refine aH (ag s1) 34 rfl (.tmp 8) (.tmp 14) rfl _ rfl rfl rfl (ii _) (qP _ _) (aS _) ?_))
   try simp only[Act.put]
   have hb:=(O_ y1.heap.size y1).alloc (A_ _) (.cells (ag s1) 34);have HG3:=O (heap_alloc_new y1 (.cells (ag s1) 34));have HB3:=O (HB1.out.trans (hb.mono HB1.out.size));have HR3:=O (aa HR2.out hb);clear hb HB1 HR2;generalize y1.alloc (.cells (ag s1) 34)=Y3 at HG3 HB3 HR3 ⊢;generalize y1.heap.size=g3 at HG3 ⊢
   go_upto_region 3 with (first
    |(refine Eh nm rfl (.tmp 15) _ rfl rfl rfl ?_)
    |(refine mA s1 rfl (.tmp 8) rfl g3 rfl _ HG3.out ?_)
    |(go_at_call 13;refine(HRN.out _ HB3.out).mono ?_;rintro e y4 ⟨va,vn,vc,rfl,ho4,hy4⟩;have HO4:=O ho4;have HB4:=O (HB3.out.trans (hy4.mono HB3.out.size));have HR4:=O (aa HR3.out hy4);have HS4:Hid (w.heap.size+1<Y3.heap.size):=(O (Q_.1 HR3.out).1);clear hy4 ho4)
    |(refine aH (foA zD (.slice va vn vc) [] 1) 36 rfl (.tmp 9) (.tmp 20) rfl _ rfl rfl rfl (fU _ _ _ _) (by rw[fQ,ed]) (ie _ _ _ _ _ _) ?_))
   try simp only[Act.put]
   have hb:=(O_ y4.heap.size y4).alloc (A_ _) (.cells (foA zD (.slice va vn vc) [] 1) 36);have HG5:=O (heap_alloc_new y4 (.cells (foA zD (.slice va vn vc) [] 1) 36));have HB5:=O (HB4.out.trans (hb.mono HB4.out.size));have HR5:=O (aa HR4.out hb);have HO5:=O (HO4.out.on hb);have HNE:Hid (Value.ownBlock (.slice va vn vc)≠some y4.heap.size):=O (HO4.out.neNew (A_ _));have HG4:Hid (w.heap.size+1<y4.heap.size):=O (Q_.1 HR4.out).1;clear hb HB4 HR4 HB3 HR3 HG3 HO4;generalize y4.alloc (.cells (foA zD (.slice va vn vc) [] 1) 36)=Y5 at HG5 HB5 HR5 HO5 ⊢;generalize y4.heap.size=g5 at HG5 HNE HG4 ⊢;have c21:=(e_ _ _ 21 _ _ _ HG5.out).trans (uW _ _ _ _)
   go_wp2_with (first
    |(refine QL zD (.slice va vn vc) [] 1 rfl (.tmp 9) rfl g5 rfl _ HG5.out ?_)
    |(refine aM (T:=36) (foA zD (.slice va vn vc) [] 1) (fU _ _ _ _) rfl (.tmp 6) (.tmp 24) rfl (w.heap.size+1) zFO rfl rfl (ie _ _ _ _ _ _) (by rw[fQ,ed]) HR5.out ?_;intro w7 hge7 hoe7 hbe7;have HE7:Hid (w7.heap[w.heap.size+1]?=some (.cells (foA zD (.slice va vn vc) [] 1) 36 (0,0))∧Below w.heap.size w w7∧ap eH w7 w.heap.size (.slice va vn vc) []):=(O ⟨hge7,HB5.out.trans (hbe7 _ (by omega)),(HO5.out.but (HO5.out.neOld (by have := HS4.out;omega)) hoe7).mono (by have := HS4.out;omega)⟩);clear hge7 hoe7 hbe7))
   refine g_ (bB rfl _ _ (w.heap.size+1) _ rfl (rT _ _ _ _ _ _ _ HE7.out.1)) rfl ?_;exact⟨_,_,_,rfl,HE7.out.2.2,HE7.out.2.1⟩
 | true =>
   rw[hfd] at HRN HNP;simp only[if_true] at HRN HNP;rw[HNP.out];clear hfd HNP
   go_enter func11,ntmps11
   go_upto_region 1 with fail
   rw[←HW.out]
   try dsimp only[Act.put]
   go_upto_region 2 with (first
    |(refine mA s rfl (.tmp 3) rfl w.heap.size rfl _ HR0.out ?_)
    |(go_at_call 36;refine(HN.out _ HB.out).mono ?_;rintro e y1 ⟨rfl,hy1⟩;have HB1:=O (HB.out.trans (hy1.mono HB.out.size));have HR2:=O (aa HR1.out hy1);clear hy1)
    |(refine aH (ag s1) 34 rfl (.tmp 8) (.tmp 14) rfl _ rfl rfl rfl (ii _) (qP _ _) (aS _) ?_))
   try simp only[Act.put]
   have hb:=(O_ y1.heap.size y1).alloc (A_ _) (.cells (ag s1) 34);have HG3:=O (heap_alloc_new y1 (.cells (ag s1) 34));have HB3:=O (HB1.out.trans (hb.mono HB1.out.size));have HR3:=O (aa HR2.out hb);clear hb HB1 HR2;generalize y1.alloc (.cells (ag s1) 34)=Y3 at HG3 HB3 HR3 ⊢;generalize y1.heap.size=g3 at HG3 ⊢
   go_upto_region 3 with (first
    |(refine Eh nm rfl (.tmp 15) _ rfl rfl rfl ?_)
    |(refine mA s1 rfl (.tmp 8) rfl g3 rfl _ HG3.out ?_)
    |(go_at_call 13;refine(HRN.out _ HB3.out).mono ?_;rintro e y4 ⟨va,vn,vc,rfl,ho4,hy4⟩;have HO4:=O ho4;have HB4:=O (HB3.out.trans (hy4.mono HB3.out.size));have HR4:=O (aa HR3.out hy4);have HS4:Hid (w.heap.size+1<Y3.heap.size):=(O (Q_.1 HR3.out).1);clear hy4 ho4)
    |(refine aH (foA ⟨z16,ke,1,0⟩ (.slice va vn vc) s3 0) 36 rfl (.tmp 9) (.tmp 20) rfl _ rfl rfl rfl (fU _ _ _ _) (by rw[fQ,ed]) (ie _ _ _ _ _ _) ?_))
   try simp only[Act.put]
   have hb:=(O_ y4.heap.size y4).alloc (A_ _) (.cells (foA ⟨z16,ke,1,0⟩ (.slice va vn vc) s3 0) 36);have HG5:=O (heap_alloc_new y4 (.cells (foA ⟨z16,ke,1,0⟩ (.slice va vn vc) s3 0) 36));have HB5:=O (HB4.out.trans (hb.mono HB4.out.size));have HR5:=O (aa HR4.out hb);have HO5:=O (HO4.out.on hb);have HNE:Hid (Value.ownBlock (.slice va vn vc)≠some y4.heap.size):=O (HO4.out.neNew (A_ _));have HG4:Hid (w.heap.size+1<y4.heap.size):=O (Q_.1 HR4.out).1;clear hb HB4 HR4 HB3 HR3 HG3 HO4;generalize y4.alloc (.cells (foA ⟨z16,ke,1,0⟩ (.slice va vn vc) s3 0) 36)=Y5 at HG5 HB5 HR5 HO5 ⊢;generalize y4.heap.size=g5 at HG5 HNE HG4 ⊢;have c21:=(e_ _ _ 21 _ _ _ HG5.out).trans (uW _ _ _ _)
   go_upto_region 5 with fail
   have HX:Hid (∀y,Below Y5.heap.size Y5 y→y.heap[g5]?=some (.cells (foA ⟨z16,ke,1,0⟩ (.slice va vn vc) s3 0) 36 (0,0))∧Below w.heap.size w y∧y.heap[w.heap.size+1]?=some (.cells zFO 36 (0,0))∧ap eH y Y3.heap.size (.slice va vn vc) sl):=O (fun y hy=>⟨aa HG5.out hy,HB5.out.trans (hy.mono HB5.out.size),aa HR5.out hy,HO5.out.on hy⟩);clear HG5 HB5 HR5 HO5 c21;refine aY 7 [[],[0],[1],[],[3],[4],[2,5]] (SP.of [.eq (.string ⟨nm.toArray⟩),SP.rd eS [iz,nm],.eq (.agg (am idd)),.eq (.pointer (some ⟨g5,0,none⟩)),.eq (.pointer (some ⟨g5,16,none⟩)),.eq (.string ⟨ke.toArray⟩),.eq (.agg (doA ⟨idd,ke,0,0⟩))]) (fun _=>undef) ?h1 ?h2 ?h3 ?h4 ?h5 ?h6
   case h1=>kernel_rfl
   case h2=>kernel_rfl
   case h3=>kernel_rfl
   case h4 =>
    simp only[F_,c_]
    repeat (first |exact trivial|refine⟨fun vals v=>by kernel_rfl,?_⟩)
   case h5 =>
    simp only[F_,c_];refine⟨?_,?_,?_,?_,?_,?_,?_,trivial⟩
    all_goals (intro wq hbq vals;simp only[Nat.reduceAdd,a_,X_,W_];have HQ:=O (HX.out wq hbq);have HBQ:=O hbq;clear hbq;repeat (first |refine ar ?_|refine aw rfl ?_))
    case refine_3 =>
     refine aG rfl (fun v1 hv1 => ?_);refine ar ?_;intro Q hQ;simp only[ay,upd,Act.put,B_,C_,D_,Nat.reduceAdd,a_,Nat.reduceEqDiff,if_true,if_false,reduceIte];have HV1:=O hv1;clear hv1
     go_wp2_with (go_at_call 37;refine(HOF.out _ _ HQ.out.2.1 HV1.out).mono ?_;rintro e x1 ⟨rfl,hx1⟩)
     exact ab hQ _ (by kernel_rfl) hx1 rfl
    all_goals intro Q hQ
    all_goals simp only[ay,upd,Act.put,B_,C_,D_,Nat.reduceAdd,a_,Nat.reduceEqDiff,if_true,if_false,reduceIte]
    case refine_2 =>
     go_wp2;exact ab hQ _ (by kernel_rfl) ((O_ _ _).alloc (A_ _) _) (Ex _ _)
    case refine_6 =>
     have c:=(e_ _ _ 16 _ _ _ HQ.out.1).trans (VO _ _ _ _);go_wp2;exact ab hQ _ (by kernel_rfl) (O_ _ _) rfl
    case refine_7 =>
     go_wp2_with (refine NB idd ke rfl (.tmp 27) (.tmp 30) rfl rfl rfl ?_)
     exact ab hQ _ (by kernel_rfl) (O_ _ _) rfl
    all_goals go_wp2
    all_goals exact ab hQ _ (by kernel_rfl) (O_ _ _) rfl
   case h6 =>
    intro wq hbq vals;have HQ:=O (HX.out wq hbq);clear hbq;rw[show List.range 7=[0,1,2,3,4,5,6] from by decide];refine aw rfl (aG rfl ?_);intro v1 _
    repeat (first |refine ar ?_|refine aw rfl ?_)
    simp only[F_,c_,J_,L_];simp only[ay,upd,Act.put,B_,C_,D_,Nat.reduceAdd,a_,Nat.reduceEqDiff,if_true,if_false,reduceIte]
    go_upto_region 6 with (refine bW rfl 25 (.tmp 32) (.tmp 31) rfl ⟨g5,0,none⟩ (.agg (doA ⟨idd,ke,0,0⟩)) rfl rfl (Hm _ _ _ _ _ _ _ HQ.out.1) ?_)
    have HG8:Hid ((wq.setRow g5 (foA ⟨idd,ke,0,0⟩ (.slice va vn vc) s3 0)).heap[g5]?=some (.cells (foA ⟨idd,ke,0,0⟩ (.slice va vn vc) s3 0) 36 (0,0))):=O (setRow_heap _ _ _ _ _ _ HQ.out.1);have HB8:Hid (Below w.heap.size w (wq.setRow g5 (foA ⟨idd,ke,0,0⟩ (.slice va vn vc) s3 0))):=O (HQ.out.2.1.trans (aK (by have := HG4.out;omega)));have HR8:Hid ((wq.setRow g5 (foA ⟨idd,ke,0,0⟩ (.slice va vn vc) s3 0)).heap[w.heap.size+1]?=some (.cells zFO 36 (0,0))):=O ((aj _ _ _ _ (by have := HG4.out;omega)).trans HQ.out.2.2.1);have HO8:=O (HQ.out.2.2.2.but HNE.out (fun q hq=>aj wq g5 (foA ⟨idd,ke,0,0⟩ (.slice va vn vc) s3 0) q hq))
    try simp only[Act.put]
    generalize wq.setRow g5 (foA ⟨idd,ke,0,0⟩ (.slice va vn vc) s3 0)=Y8 at HG8 HB8 HR8 HO8 ⊢;clear HQ HX
    go_wp2_with (first
     |(refine QL ⟨idd,ke,0,0⟩ (.slice va vn vc) s3 0 rfl (.tmp 9) rfl g5 rfl _ HG8.out ?_)
     |(refine aM (T:=36) (foA ⟨idd,ke,0,0⟩ (.slice va vn vc) s3 0) (fU _ _ _ _) rfl (.tmp 6) (.tmp 33) rfl (w.heap.size+1) zFO rfl rfl (ie _ _ _ _ _ _) (by rw[fQ,ed]) HR8.out ?_;intro w7 hge7 hoe7 hbe7;have HE7:Hid (w7.heap[w.heap.size+1]?=some (.cells (foA ⟨idd,ke,0,0⟩ (.slice va vn vc) s3 0) 36 (0,0))∧Below w.heap.size w w7∧ap eH w7 w.heap.size (.slice va vn vc) sl):=(O ⟨hge7,HB8.out.trans (hbe7 _ (by omega)),(HO8.out.but (HO8.out.neOld (by have := HS4.out;omega)) hoe7).mono (by have := HS4.out;omega)⟩);clear hge7 hoe7 hbe7))
    refine g_ (bB rfl _ _ (w.heap.size+1) _ rfl (rT _ _ _ _ _ _ _ HE7.out.1)) rfl ?_;exact⟨_,_,_,rfl,HE7.out.2.2,HE7.out.2.1⟩
end
section
open Go.RowKit
theorem JG (d:DO):(doA d).extract 0 (0+16)=am d.id:=by
 rw[doA,dmc,List.extract_toArray,List.extract_eq_take_drop,L_];rw[show (0+16-0)=(am d.id).toList.length by rw[show (am d.id).toList.length=16 by rfl],List.take_left]
theorem Gz:(prog.fieldsOf 25).toList.map (fun f=>(f.name == "_",f.type,f.offset))=[(false,23,0),(false,9,16),(false,3,17),(false,3,18)]:=by kernel_rfl
theorem uQ (d:DO) (w:World):(binOp .eql 25 (.agg (doA d)) (.agg (doA d))).run prog w = .ok (.bool true) w:=by
 have key:(Op.equalIn 10000 25 (.agg (doA d)) (.agg (doA d))).run prog w = .ok true w:=by
  have ht:prog.underlying 25=some (.struct (prog.fieldsOf 25)):=by kernel_rfl
  have hp:prog.stoodInHeld 25=false:=by kernel_rfl
  rw[show (10000:Nat)=9999+1 from rfl,run_equalIn_struct w 9999 _ _ _ ht hp];have hf:=Gz;generalize (prog.fieldsOf 25).toList=fs at hf
  rcases fs with _|⟨f1,_|⟨f2,_|⟨f3,_|⟨f4,_|⟨f5,fs⟩⟩⟩⟩⟩
  ·simp at hf
  ·simp at hf
  ·simp at hf
  ·simp at hf
  ·simp only[List.map_cons,List.map_nil,List.cons.injEq,Prod.mk.injEq,and_true] at hf
   obtain⟨⟨a1,a2,a3⟩,⟨b1,b2,b3⟩,⟨c1,c2,c3⟩,⟨d1,d2,d3⟩⟩:=hf
   have na:f1.name ≠ "_" := by simpa using a1
   have nb:f2.name ≠ "_" := by simpa using b1
   have nc:f3.name ≠ "_" := by simpa using c1
   have nd:f4.name ≠ "_" := by simpa using d1
   have e1:=nL 9997 d.id d.id w
   have e2:(Op.equalIn 9999 9 (.string ⟨d.key.toArray⟩) (.string ⟨d.key.toArray⟩)).run prog w = .ok (d.key == d.key) w:=by rw[run_equalIn_string w 9998 _ _ _ underlying9,qY]
   have e3:(Op.equalIn 9999 3 (.int .i64 d.ep) (.int .i64 d.ep)).run prog w = .ok (d.ep == d.ep) w:=run_equalIn_int w 9998 _ _ _ _ _ underlying3;have e4:(Op.equalIn 9999 3 (.int .i64 d.bk) (.int .i64 d.bk)).run prog w = .ok (d.bk == d.bk) w:=run_equalIn_int w 9998 _ _ _ _ _ underlying3
   rw[du 9999 _ _ f1 _ na w (.agg (am d.id)) (.agg (am d.id)) (dEq d.id d.id) (by rw[a2,a3,tF,JG]) (by rw[a2,a3,tF,JG]) (by rw[a2];exact e1),
    du 9999 _ _ f2 _ nb w (.string ⟨d.key.toArray⟩) (.string ⟨d.key.toArray⟩) (d.key == d.key) (by rw[b2,b3];exact tG _ _ _ (cK d) w) (by rw[b2,b3];exact tG _ _ _ (cK d) w) (by rw[b2];exact e2),
    du 9999 _ _ f3 _ nc w (.int .i64 d.ep) (.int .i64 d.ep) (d.ep == d.ep) (by rw[c2,c3];exact kA _ _ _ (gI d) w) (by rw[c2,c3];exact kA _ _ _ (gI d) w) (by rw[c2];exact e3),
    du 9999 _ _ f4 _ nd w (.int .i64 d.bk) (.int .i64 d.bk) (d.bk == d.bk) (by rw[d2,d3];exact kA _ _ _ (jL d) w) (by rw[d2,d3];exact kA _ _ _ (jL d) w) (by rw[d2];exact e4)]
   rw[AD,beq_self_eq_true,beq_self_eq_true,beq_self_eq_true]
   rfl
  ·simp at hf
 have h:(Op.equalIn Op.maxDepth 25 (.agg (doA d)) (.agg (doA d))).run prog w = .ok true w:=key;simp only[binOp,Op.equal,Sem.run_bind,Sem.run_pure,Result.andThen_ok,h]
theorem qL {w:World} {g:Nat} {d:DO} {v:Value} {r:List UInt8} {e:Int} {T:TypeId} (h:w.heap[g]?=some (.cells (foA d v r e) T (0,0))):w.rangeAt g 0 (doA d).toList:=fun i x hx=>by
 rw[e_ _ _ _ _ _ _ h,a_]
 have hi:i<(dmc d).length:=by
  have := (d_.1 hx).1
  simpa [doA] using this
 unfold foA;rw[List.getElem?_toArray,List.getElem?_append_left hi]
 simpa [doA] using hx
theorem y_b {o:Oper} {a:Act} {S:World→Prop} {ops:Array Oper} (b:BinOp) (T T':TypeId) (x y:Operand) (v1 v2 v:Value) (hw:Region.wanted o (yielded ops a.tmps)=true) (ho:o.op = .binOp b T x y T') (hx:a.eval x=v1) (hy:a.eval y=v2) (hg:∀w,(eqGuard b T x y v1 v2).run prog w = .ok () w) (hr:∀w,(binOp b T v1 v2).run prog w = .ok v w):YieldsIf prog ops S o v a:=by
 refine .inl ⟨hw,fun w _ => ?_⟩;unfold execOp;simp only[ho,hx,hy,Sem.run_bind,Sem.run_pure,Result.andThen_ok,hg w,hr w]
theorem Rr {o:Oper} {a:Act} {S:World→Prop} {ops:Array Oper} (d:DO) (g off:Nat) (x:Operand) (hw:Region.wanted o (yielded ops a.tmps)=true) (ho:o.op = .load 25 x) (hx:a.eval x = .pointer (some ⟨g,off,none⟩)) (hr:∀w,S w→w.rangeAt g off (doA d).toList):YieldsIf prog ops S o (.agg (doA d)) a:=by
 refine .inl ⟨hw,fun w hS => ?_⟩;have hl:(loadVar 25 ⟨g,off,none⟩).run prog w = .ok (.agg (doA d)) w:=run_loadVar_mid w g off _ (doA d).toList _ (hr w hS) underlying25 rfl (by rw[Array.length_toList,kW];exact u9);unfold execOp;simp only[ho,hx,Instr.loadAt,Instr.sureAddr,Sem.run_bind,Sem.run_pure,Result.andThen_ok,hl]
theorem JD (x:List UInt8) (w:World):(binOp .eql 9 (.string ⟨x.toArray⟩) (.string ⟨x.toArray⟩)).run prog w = .ok (.bool true) w:=by
 simp[binOp,Op.stringOp]
theorem JC (x:Int) (w:World):(binOp .eql 31 (.int .i64 x) (.int .i64 x)).run prog w = .ok (.bool true) w:=by
 simp[binOp,Op.intCmp]
theorem Jy (m n:Tmp) (x y:Array Value) (w:World):(eqGuard .eql 25 (.tmp m) (.tmp n) (.agg x) (.agg y)).run prog w = .ok () w:=by kernel_rfl
theorem QE (m n:Tmp) (x y:ByteArray) (w:World):(eqGuard .eql 9 (.tmp m) (.tmp n) (.string x) (.string y)).run prog w = .ok () w:=by kernel_rfl
theorem QD (m n:Tmp) (x y:Int) (w:World):(eqGuard .eql 31 (.tmp m) (.tmp n) (.int .i64 x) (.int .i64 y)).run prog w = .ok () w:=by kernel_rfl
theorem nX (y:World) (p:Addr) (x:List UInt8) (h:y.cell? p=some (.string ⟨x.toArray⟩)):(loadVar 9 p).run prog y = .ok (.string ⟨x.toArray⟩) y:=by
 simp[go_sem,h]
theorem yh (y:World) (p:Addr) (x:Int) (h:y.cell? p=some (.int .i64 x)):(loadVar 31 p).run prog y = .ok (.int .i64 x) y:=by
 simp[go_sem,h]
theorem Fq (s:List UInt8):(ag s)[0]?=some (.string ⟨s.toArray⟩):=rfl
end
end
end Go.Proofs.YtmfiaadjdbemnaaGreatDoor
