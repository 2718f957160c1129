/- Contracts and lemmas. No condition. -/
import Derived.Test.YtmfiaadjdbemnaaGreatDoorLBack09
import Derived.Test.YtmfiaadjdbemnaaGreatDoorLBack10
set_option maxRecDepth 100000
set_option maxHeartbeats 8000000
set_option linter.unusedSimpArgs false
set_option linter.unusedVariables false
namespace Go.Proofs.YtmfiaadjdbemnaaGreatDoor
open Go.Proofs.Tryz
section
open Go.RowKit Go.Shelf
attribute [local irreducible] Calls mac aV bF cd eN bG bh b9 bQ aI
theorem Ku (dk:List UInt8) (b:BK) (u:Value) (l:List K) (w:World) (hv:RdK w u l) (h:ch dk b l=false) :
  Calls prog 42 #[.string ⟨dk.toArray⟩,.agg (bc b u)] w fun e w'=>e = .returned (.tuple #[.string ⟨#[]⟩,.int .i64 1])∧Below w.heap.size w w':=by
 have HB0:Hid ((w.alloc (.cells (bc b u) 47)).heap[w.heap.size]?=some (.cells (bc b u) 47 (0,0))):=O (al _ _ _ rfl);have HBA:Hid (Below w.heap.size w (w.alloc (.cells (bc b u) 47))):=O ((O_ _ _).alloc (A_ _) _);have HVC:=O (rg b u l (w.alloc (.cells (bc b u) 47)) (hv.alloc _));unfold ch at h;clear hv
 by_cases h32:dk.length=32
 ·rw[decide_eq_true h32,Bool.true_and] at h
  rw[h] at HVC
  have i1:((dk.length:Int) != 32)=false:=by rw[h32];rfl
  clear h h32
  go_enter func42,ntmps42
  go_wp2_with (first
   |(refine cH b u rfl (.tmp 3) rfl _ rfl _ HB0.out ?_)
   |(go_at_call 80;refine HVC.out.mono ?_;rintro e w1 ⟨rfl,hb1⟩;have HB1:=O (HBA.out.trans (hb1.mono HBA.out.size));clear hb1))
  go_ret2
  exact⟨rfl,HB1.out⟩
 ·have i1:((dk.length:Int) != 32)=true:=by simp;omega
  clear h h32;generalize aI b l=vb at HVC
  go_enter func42,ntmps42
  go_wp2_with (first
   |(refine cH b u rfl (.tmp 3) rfl _ rfl _ HB0.out ?_)
   |(go_at_call 80;refine HVC.out.mono ?_;rintro e w1 ⟨rfl,hb1⟩;have HB1:=O (HBA.out.trans (hb1.mono HBA.out.size));clear hb1))
  go_ret2
  exact⟨rfl,HB1.out⟩
theorem GY (dk:List UInt8) (b:BK) (u:Value) (l:List K) (w:World) (hk:cA w) (hv:RdK w u l) (hb:b.mach) (hn:cQ l) (hl:l.length≤100) (h:ch dk b l=true) :
  Calls prog 42 #[.string ⟨dk.toArray⟩,.agg (bc b u)] w fun e w'=>e = .returned (.tuple #[.string ⟨(bX dk b l).toArray⟩,.int .i64 0])∧Below w.heap.size w w':=by
 have hb32:dk.length=32∧aI b l=true:=by unfold ch at h;simpa using h
 obtain⟨h32,hval⟩:=hb32;have hmo:=iO hval;have HWF:=O (hb.wf (by omega));have HHL:=O (jC b HWF.out);have HMO:=O hmo;have HLL:=O hl;have HCL:=O (nI hval);have HKO:=O (EZ hn hval);have H32:=O h32;obtain⟨W0,hW0⟩:∃W0,W0=w.alloc (.cells (bc b u) 47):=⟨_,rfl⟩;have HB0:Hid (W0.heap[w.heap.size]?=some (.cells (bc b u) 47 (0,0))):=O (by rw[hW0];exact al _ _ _ rfl);have HBA:Hid (Below w.heap.size w W0):=O (by rw[hW0];exact(O_ _ _).alloc (A_ _) _);have HRD:Hid (RdK W0 u l):=O (by rw[hW0];exact hv.alloc _);have HKA:Hid (cA W0):=O (by rw[hW0];exact hk.on ((O_ _ _).alloc (A_ _) _));have HVC:=O (rg b u l W0 HRD.out);rw[hval] at HVC;have HMP:Hid (bX dk b l=aV (bh b)++bQ (aJ dk bkL) (bh b) (b9 l)):=O rfl
 have i1:((dk.length:Int) != 32)=false:=by rw[h32];rfl
 have HW:=O hW0;have HDL:=O (cE dk bkL);have HBK:Hid (bkL=[98,97,99,107,117,112]):=O rfl
 have HSE:Hid (fF (aJ dk bkL) (bh b) (b9 l)=0∧eu (aJ dk bkL) (bh b) (b9 l)=bQ (aJ dk bkL) (bh b) (b9 l)):=O (by
  have h1:=HHL.out.2;have h2:=HCL.out;unfold fF eu;rw[G_ (cE dk bkL),H_ (by omega),G_ ⟨cE dk bkL,by omega⟩]
  exact⟨rfl,rfl⟩)
 clear h h32 hval hmo hv hb hn hk hW0 hl
 go_enter func42,ntmps42
 go_upto_region 1 with fail
 rw[←HW.out]
 go_upto_region 4 with (first
  |(refine cH b u rfl (.tmp 3) rfl _ rfl _ HB0.out ?_)
  |(go_at_call 80;refine HVC.out.mono ?_;rintro e w1 ⟨rfl,hb1⟩;have HB1:=O hb1;have HBB1:Hid (∀wx,Below w1.heap.size w1 wx→wx.heap[w.heap.size]?=some (.cells (bc b u) 47 (0,0))):=(O (fun wx hx=>by rw[(hb1.trans (hx.mono hb1.size)).block _ (Q_.1 HB0.out).1];exact HB0.out));clear hb1))
 generalize hhp:bh b=hp at HHL HMP HSE;have HHP:=O hhp;generalize hcp:b9 l=cp at HCL HMP HSE;have HCP:=O hcp;generalize hdp:aJ dk bkL=dp at HDL HMP HSE;have HDP:=O hdp;clear hhp hcp hdp
 try dsimp only[Act.put]
 refine aY 11 [[],[0],[],[2],[],[4],[1,3,5],[6],[7],[7],[8]] (SP.of [.eq (.string ⟨dk.toArray⟩),.eq (.string ⟨dp.toArray⟩),.eq (.agg (bc b u)),.eq (.string ⟨hp.toArray⟩),.eq (.agg (bc b u)),.eq (.string ⟨cp.toArray⟩),.eq (.tuple #[.string ⟨(bQ dp hp cp).toArray⟩,.int .i64 0]),.eq (.tuple #[.string ⟨(bQ dp hp cp).toArray⟩,.int .i64 0]),.eq (.string ⟨(bQ dp hp cp).toArray⟩),.eq (.int .i64 0),.eq (.string ⟨(bQ dp hp cp).toArray⟩)]) (fun _=>undef) ?h1 ?h2 ?h3 ?h4 ?h5 ?h6
 case h1=>kernel_rfl
 case h2=>kernel_rfl
 case h3=>kernel_rfl
 case h4 =>
  simp only[F_,c_]
  repeat (first |exact trivial|refine⟨fun vals v=>by kernel_rfl,?_⟩)
 case h5 =>
  simp only[F_,c_];refine⟨?_,?_,?_,?_,?_,?_,?_,?_,?_,?_,?_,trivial⟩
  all_goals (intro wq hbq vals;simp only[Nat.reduceAdd,a_,X_,W_];repeat (first |refine ar ?_|refine aw rfl ?_);have HXR:=O (HBB1.out wq hbq);have HBQ:Hid (Below W0.heap.size W0 wq):=O (HB1.out.trans (hbq.mono HB1.out.size));clear hbq;intro Q hQ;simp only[ay,upd,Act.put,B_,C_,D_,Nat.reduceAdd,a_,Nat.reduceEqDiff,if_true,if_false,reduceIte])
  case refine_2 =>
   go_wp2_with (go_at_call 70;refine(uI dk bkL _ (HKA.out.on HBQ.out) (by rw[H32.out];decide) (by decide)).mono ?_;rintro e x1 ⟨rfl,hx1⟩;rw[HDP.out])
   exact ab hQ _ (by kernel_rfl) hx1 rfl
  case refine_3 =>
   go_wp2_with (refine cH b u rfl (.tmp 3) rfl _ rfl _ HXR.out ?_)
   exact ab hQ _ (by kernel_rfl) (O_ _ _) rfl
  case refine_5 =>
   go_wp2_with (refine cH b u rfl (.tmp 3) rfl _ rfl _ HXR.out ?_)
   exact ab hQ _ (by kernel_rfl) (O_ _ _) rfl
  case refine_4 =>
   go_wp2_with (go_at_call 82;refine(Bg b u _ HWF.out (by have := HMO.out;omega)).mono ?_;rintro e x1 ⟨rfl,hx1⟩;rw[HHP.out])
   exact ab hQ _ (by kernel_rfl) hx1 rfl
  case refine_6 =>
   go_wp2_with (go_at_call 83;refine(Gl b u l _ (HRD.out.on HBQ.out) HKO.out (by have := HLL.out;omega) (by rw[HCP.out];have := HCL.out;have := HLL.out;omega)).mono ?_;rintro e x1 ⟨rfl,hx1⟩;rw[HCP.out])
   exact ab hQ _ (by kernel_rfl) hx1 rfl
  case refine_7 =>
   go_wp2_with (go_at_call 81;refine(Pz dp hp cp _ (HKA.out.on HBQ.out) (fun _ => .inl ⟨by have := HHL.out.2;have := HMO.out;omega,by have := HCL.out;have := HLL.out;omega⟩)).mono ?_;rintro e x1 ⟨rfl,hx1⟩;rw[HSE.out.1,HSE.out.2])
   exact ab hQ _ (by kernel_rfl) hx1 rfl
  all_goals go_wp2
  all_goals exact ab hQ _ (by kernel_rfl) (O_ _ _) rfl
 case h6 =>
  intro wq hbq vals;rw[show List.range 11=[0,1,2,3,4,5,6,7,8,9,10] from by decide]
  repeat (first |refine ar ?_|refine aw rfl ?_)
  simp only[F_,c_,J_,L_];simp only[ay,upd,Act.put,B_,C_,D_,Nat.reduceAdd,a_,Nat.reduceEqDiff,if_true,if_false,reduceIte];have HBQ:Hid (Below W0.heap.size W0 wq):=O (HB1.out.trans (hbq.mono HB1.out.size));have HXR:=O (HBB1.out wq hbq);clear hbq;have HSL:Hid ((aV hp).length+(bQ dp hp cp).length≤2000000):=O (by have h1:=cW hp;have h2:=jF dp hp cp;have h3:=HHL.out.2;have h4:=HMO.out;have h5:=HCL.out;omega);generalize bQ dp hp cp=sp at HMP HSL HSE ⊢
  have hcat:¬9223372036854775807<(aV hp).length+sp.length:=by have := HSL.out;omega
  go_wp2_with (first
   |(refine cH b u rfl (.tmp 3) rfl _ rfl _ HXR.out ?_)
   |(go_at_call 82;refine(Bg b u _ HWF.out (by have := HMO.out;omega)).mono ?_;rintro e w4 ⟨rfl,hb4⟩;rw[HHP.out];have HB4:=O (HBQ.out.trans (hb4.mono HBQ.out.size));clear hb4)
   |(go_at_call 84;refine(lH hp _ (by have := HHL.out.2;have := HMO.out;omega)).mono ?_;rintro e w5 ⟨v5,rfl,ho5,hb5⟩;have HB5:=O (HB4.out.trans (hb5.mono HB4.out.size));have hcv:=b6 ho5.rd;clear ho5 hb5))
  go_ret2
  exact⟨by rw[HMP.out];rfl,HBA.out.trans (HB5.out.mono HBA.out.size)⟩
theorem SK (dk:List UInt8) (b:BK) (u:Value) (l:List K) (w:World) (hk:cA w) (hv:RdK w u l) (hb:b.mach) (hn:cQ l) (hl:l.length≤100) :
  Calls prog 42 #[.string ⟨dk.toArray⟩,.agg (bc b u)] w fun e w'=>e = .returned (.tuple #[.string ⟨(lg dk b l).toArray⟩,.int .i64 (jm dk b l)])∧Below w.heap.size w w':=by
 rcases kx dk b l with⟨h1,h2,h3⟩|⟨h1,h2,h3⟩
 ·rw[h2,h3];exact GY dk b u l w hk hv hb hn hl h1
 ·rw[h2,h3];exact Ku dk b u l w hv h1
end
section
open Go.RowKit Go.Shelf
theorem RH (dk blob:List UInt8):blT dk blob=gU (aJ dk bkL) (blH blob) (rdR aL blob 0):=rfl
theorem RG (dk blob:List UInt8):blO dk blob=eG (aJ dk bkL) (blH blob) (rdR aL blob 0):=rfl
theorem Zb {dk blob:List UInt8} (h32:dk.length=32) (h:blE blob≠0):opE dk blob=blE blob:=by unfold opE;rw[G_ h32,H_ h]
theorem Zc {dk blob:List UInt8} (h32:dk.length=32) (h:blE blob=0) (h2:blO dk blob≠0):opE dk blob=blO dk blob:=by unfold opE;rw[G_ h32,G_ h,H_ h2]
theorem Zd {dk blob:List UInt8} (h32:dk.length=32) (h:blE blob=0) (h2:blO dk blob=0) (h3:ctE (blT dk blob)≠0):opE dk blob=ctE (blT dk blob):=by unfold opE;rw[G_ h32,G_ h,G_ h2,H_ (fun hq=>h3 hq.1)]
theorem Ze {dk blob:List UInt8} (h32:dk.length=32) (h:blE blob=0) (h2:blO dk blob=0) (h3:ctE (blT dk blob)=0) (h4:aI (blB blob) (ctK (blT dk blob))=false):opE dk blob=6:=by unfold opE;rw[G_ h32,G_ h,G_ h2,G_ ⟨h3,h4⟩]
theorem Zf {dk blob:List UInt8} (h32:dk.length=32) (h:blE blob=0) (h2:blO dk blob=0) (h3:ctE (blT dk blob)=0) (h4:aI (blB blob) (ctK (blT dk blob))=true):opE dk blob=0∧opB dk blob=blB blob∧opK dk blob=ctK (blT dk blob):=by
 have e:opE dk blob=0:=by unfold opE;rw[G_ h32,G_ h,G_ h2,H_ (fun hq=>by rw[h4] at hq;cases hq.2),h3]
 refine⟨e,?_,?_⟩
 ·unfold opB;rw[G_ e]
 ·unfold opK;rw[G_ e]
theorem RdK.formK {w:World} {v:Value} {l:List K} (h:RdK w v l):∃a c,v = .slice a l.length c:=by
 obtain⟨a,c,rfl,_⟩:=h;exact⟨a,c,rfl⟩
theorem Ot:(prog.info? 86).map (·.size)=some 9:=by kernel_rfl
theorem Oa (km:K):Instr.fill (fun i=>some (i*9,9)) ((Array.range (1*9)).map ((Value.agg (kc zK)).cells[· % (Value.agg (kc zK)).cells.size]!)) [(0,Value.agg (kc km))]=some (kc km):=by kernel_rfl
theorem CG {ops:Array Oper} {rest:List Oper} {o:Oper} {a:Act} {w:World} {Q:Exit→Act→World→Prop} (km:K) (hg:o.guard=none) (x:Operand) (ho:o.op = .buildSlice 43 1 #[(0,x)]) (hx:a.eval x = .agg (kc km))
  (h:wpList prog ops Q rest (a.put o.dst (.slice (some ⟨w.heap.size,0,none⟩) 1 1)) (w.alloc (.cells (kc km) 86))):wpList prog ops Q (o::rest) a w:=by
 have hz:=yu;have hs:=Ot
 cases hi:prog.info? 86 with
 | none=>rw[hi] at hs;cases hs
 | some i =>
   rw[hi] at hs hz;simp only[Option.map_some,Option.some.injEq] at hs hz;refine wpList_buildSlice hg _ 86 1 _ ho (kc km) i (.agg (kc zK)) underlying43 hi hz (by rw[hs];decide) (by rw[hs];decide) ?_ h
   have hp:((#[(0,x)]:Array (Nat × Operand)).map fun (i,x)=>(i,a.eval x)).toList=[(0,Value.agg (kc km))]:=by simp[hx]
   rw[hp,hs];exact Oa km
structure tY (WL:World) (g6:Nat) (b:BK) (vk:Value) (ks:List K) (x:World):Prop where
 row:x.heap[g6]?=some (.cells (bc b vk) 47 (0,0))
 own:b7 x WL.heap.size vk ks
 grown:WL.grownBy x (some g6)
 lt:g6<WL.heap.size
theorem tY.on {WL:World} {g6:Nat} {b:BK} {vk:Value} {ks:List K} {x y:World} (h:tY WL g6 b vk ks x) (hb:Below x.heap.size x y):tY WL g6 b vk ks y :=
 ⟨by rw[hb.block _ (Q_.1 h.row).1];exact h.row,h.own.keep hb (A_ _),dT h.grown hb,h.lt⟩
theorem tY.app {WL:World} {g6:Nat} {b:BK} {vk vk':Value} {ks ks':List K} {x y:World} (h:tY WL g6 b vk ks x) (hb:Below WL.heap.size x y) (ho:b7 y WL.heap.size vk' ks'):tY WL g6 b vk' ks' (y.setRow g6 (bc b vk')):=by
 have aO:y.heap[g6]?=some (.cells (bc b vk) 47 (0,0)):=by rw[hb.block _ h.lt];exact h.row
 have hg:WL.grownBy y (some g6):=⟨hb.os.trans h.grown.os,hb.tape.trans h.grown.tape,hb.output.trans h.grown.output,M_ h.grown.size hb.size,fun k hk hne=>(hb.block k hk).trans (h.grown.block k hk hne)⟩;refine⟨setRow_heap _ _ _ _ _ _ aO,?_,bg hg (aD _ _ _),h.lt⟩;exact ho.grown (aD _ _ _) (fun g2 hg2=>by cases hg2;exact ho.neOld h.lt)
theorem tY.bel {w WL:World} {g6:Nat} {b:BK} {vk:Value} {ks:List K} {x:World} (h:tY WL g6 b vk ks x) (hw:Below w.heap.size w WL) (hg:w.heap.size≤g6):Below w.heap.size w x :=
 hw.trans (iV h.grown hg h.lt)
theorem tY.keep {WL:World} {g6:Nat} {b:BK} {vk:Value} {ks:List K} {x:World} (h:tY WL g6 b vk ks x) {g:Nat} {o:Obj} (hg:WL.heap[g]?=some o) (hne:g≠g6):x.heap[g]?=some o:=by
 rw[h.grown.block g (Q_.1 hg).1 (fun e=>hne (Option.some.inj e))];exact hg
attribute [local irreducible] Calls am aL aE blE blB pkB opE opB opK ctE ctK blT blO aI mac aV aJ gU eG kc
theorem KO (dk blob:List UInt8) (w:World) (hk:cA w) (hl:blob.length≤100000) :
  Calls prog 48 #[.string ⟨dk.toArray⟩,.string ⟨blob.toArray⟩] w fun e w'=>∃a c,e = .returned (.tuple #[.agg (bc (opB dk blob) (.slice a (opK dk blob).length c)),.int .i64 (opE dk blob)])∧RdK w' (.slice a (opK dk blob).length c) (opK dk blob)∧Below w.heap.size w w':=by
 have hz:=fh;have hzk:=rp;have HL:=O hl;obtain⟨W0,hW0⟩:∃W0,W0=w.alloc (.cells (bc zB (.slice none 0 0)) 47):=⟨_,rfl⟩;have HW:=O hW0
 have HRES:Hid (∀u,Below W0.heap.size W0 u→u.heap[w.heap.size]?=some (.cells (bc zB ah) 47 (0,0))∧Below w.heap.size w u∧cA u):=O (by
  intro u h;rw[hW0] at h;have h2:=cJ _ _ h
  exact⟨by rw[h.block _ (by simp)];exact al _ _ _ rfl,h2,hk.on h2⟩)
 have HSZ:Hid (w.heap.size<W0.heap.size):=O (by rw[hW0];simp);have HNO:=O (fun (h:opE dk blob≠0)=>KN dk blob h);have HB00:=O (O_ W0.heap.size W0);clear hW0 hk
 by_cases h32:dk.length=32
 case neg =>
  have HE:Hid (opE dk blob=1):=O (by unfold opE;rw[H_ h32])
  have i1:((dk.length:Int) != 32)=true:=by rw[bne_iff_ne];omega
  clear h32 hl
  go_enter func48,ntmps48
  go_upto_region 1 with fail
  rw[←HW.out]
  go_wp2_with (first
   |(refine jJ rfl rfl ?_)
   |(refine aM (T:=47) (bc zB ah) (dM zB) rfl (.tmp 4) (.tmp 23) rfl w.heap.size (bc zB ah) rfl rfl (ey zB) rfl (HRES.out _ HB00.out).1 ?_;intro we hge hoe hbe))
  refine g_ (aA rfl _ _ w.heap.size _ rfl (aX _ _ zB ah _ hge)) rfl ?_;obtain⟨z1,z2⟩:=HNO.out (by rw[HE.out];first |decide|assumption);exact⟨none,0,by rw[z1,z2,HE.out];rfl,by rw[z2];exact gF _,(HRES.out _ HB00.out).2.1.trans (hbe _ (A_ _))⟩
 have i1:((dk.length:Int) != 32)=false:=by rw[h32];rfl
 have HPK:=O (fun (y:World)=>K5 blob y (by omega))
 by_cases hbl:blE blob=0
 case neg =>
  have HE:=O (Zb h32 hbl)
  have i2:(blE blob != 0)=true:=by rw[bne_iff_ne];exact hbl
  have HBL:=O hbl;generalize pkB blob=pk at HPK;clear h32 hl hbl
  go_enter func48,ntmps48
  go_upto_region 1 with fail
  rw[←HW.out]
  go_upto_region 4 with (first
   |(go_at_call 46;refine(HPK.out _).mono ?_;rintro e w1 ⟨rfl,hb1⟩;have HB1:=O hb1;clear hb1)
   |(refine aH (bc pk ah) 47 rfl (.tmp 6) (.tmp 27) rfl _ rfl rfl rfl (by rw[aC];exact dU) (by rw[aC,aC]) (ey _) ?_))
  have HX6:Hid ((w1.alloc (.cells (bc pk ah) 47)).heap[w1.heap.size]?=some (.cells (bc pk ah) 47 (0,0))):=O (heap_alloc_new _ _);have HB2:Hid (Below W0.heap.size W0 (w1.alloc (.cells (bc pk ah) 47))):=O (HB1.out.alloc HB1.out.size _);have HL6:Hid (W0.heap.size≤w1.heap.size):=O HB1.out.size;generalize hw2:w1.alloc (.cells (bc pk ah) 47)=W2 at HX6 HB2 ⊢;generalize hg6:w1.heap.size=g6 at HX6 HL6 ⊢;clear hw2 hg6
  go_wp2_with (first
   |(refine jJ rfl rfl ?_)
   |(refine aM (T:=47) (bc zB ah) (dM zB) rfl (.tmp 4) (.tmp 31) rfl w.heap.size (bc zB ah) rfl rfl (ey zB) rfl (HRES.out _ HB2.out).1 ?_;intro we hge hoe hbe))
  refine g_ (aA rfl _ _ w.heap.size _ rfl (aX _ _ zB ah _ hge)) rfl ?_;obtain⟨z1,z2⟩:=HNO.out (by rw[HE.out];exact HBL.out);exact⟨none,0,by rw[z1,z2,HE.out];rfl,by rw[z2];exact gF _,(HRES.out _ HB2.out).2.1.trans (hbe _ (A_ _))⟩
 have hd0:(aL blob).2.2=0:=by
  refine Decidable.of_not_not (fun hq => ?_);have := IM hq;rw[hbl] at this;exact hq this.symm
 obtain⟨_,_,hH,hR⟩:=Eg hd0;have hu:=(hI.used blob hd0).1
 have hhl:(aL blob).1.length≤blob.length:=by have := jT blob 0;rw[kC hd0] at this;exact this
 have HGB:=O (fun (v:Value) (y:World) (hv:RdE eB y v blob)=>kr v blob y hv);have hT:=RH dk blob;have hO:=RG dk blob;rw[hH,hR] at hT hO
 have hdd:aL blob=((aL blob).1,(aL blob).2.1,(0:Int)):=by rw[←hd0]
 rw[hdd] at HGB;clear hdd hH hR;generalize (aL blob).1=h at HGB hT hO hhl;generalize (aL blob).2.1=n at HGB hT hO hu;obtain⟨rr,hrr⟩:∃rr,rr=blob.drop n:=⟨_,rfl⟩;rw[←hrr] at hT hO;have HRR:=O hrr;have HHL:=O hhl;have HU:=O hu;have HRL:Hid (rr.length≤blob.length):=O (by rw[hrr,S_];omega);have HTL:Hid ((gU (aJ dk bkL) h rr).length≤rr.length):=O (xT _ _ _);have HDL:=O (cE dk bkL);have HDR:=O (fun (y:World) (a:cA y)=>uI dk bkL y a (by omega) (by decide));have HOP:=O (fun (y:World) (a:cA y)=>O2 (aJ dk bkL) h rr y a (fun _ => .inl ⟨by omega,by have := HRL.out;omega⟩));generalize aJ dk bkL=dp at HDR HOP HTL hT hO HDL;rw[←hT] at HTL HOP;rw[←hO] at HOP;have HOB:=O (fun (h2:blO dk blob≠0)=>Zc h32 hbl h2);have HOC:=O (fun (h2:blO dk blob=0) (h3:ctE (blT dk blob)≠0)=>Zd h32 hbl h2 h3);have HOD:=O (fun (h2:blO dk blob=0) (h3:ctE (blT dk blob)=0) (h4:aI (blB blob) (ctK (blT dk blob))=false)=>Ze h32 hbl h2 h3 h4);have HOE:=O (fun (h2:blO dk blob=0) (h3:ctE (blT dk blob)=0) (h4:aI (blB blob) (ctK (blT dk blob))=true)=>Zf h32 hbl h2 h3 h4)
 have hpk:pkB blob=blB blob:=by unfold pkB;rw[G_ hbl]
 rw[hbl,hpk] at HPK;generalize blB blob=pk at HPK HOD HOE;generalize blT dk blob=T at HOP HTL HOC HOD HOE;generalize blO dk blob=f at HOP HOB HOC HOD HOE;have HBK:Hid (bkL=[98,97,99,107,117,112]):=O rfl
 have hbi:(blob.length:Int)≤100000:=by omega
 clear hl h32 hbl hd0 hpk hT hO hrr hhl hu
 go_enter func48,ntmps48
 go_upto_region 1 with fail
 rw[←HW.out]
 go_upto_region 4 with (first
  |(go_at_call 46;refine(HPK.out _).mono ?_;rintro e w1 ⟨rfl,hb1⟩;have HB1:=O hb1;clear hb1)
  |(refine aH (bc pk ah) 47 rfl (.tmp 6) (.tmp 27) rfl _ rfl rfl rfl (by rw[aC];exact dU) (by rw[aC,aC]) (ey _) ?_))
 have HX6:Hid ((w1.alloc (.cells (bc pk ah) 47)).heap[w1.heap.size]?=some (.cells (bc pk ah) 47 (0,0))):=O (heap_alloc_new _ _);have HB2:Hid (Below W0.heap.size W0 (w1.alloc (.cells (bc pk ah) 47))):=O (HB1.out.alloc HB1.out.size _);have HL6:Hid (W0.heap.size≤w1.heap.size):=O HB1.out.size;generalize hw2:w1.alloc (.cells (bc pk ah) 47)=W2 at HX6 HB2 ⊢;generalize hg6:w1.heap.size=g6 at HX6 HL6 ⊢;clear hw2 hg6;have HX:Hid (∀u,Below W2.heap.size W2 u→u.heap[g6]?=some (.cells (bc pk ah) 47 (0,0))∧Below W0.heap.size W0 u):=O (fun u hu=>⟨by rw[hu.block _ (Q_.1 HX6.out).1];exact HX6.out,HB2.out.trans (hu.mono HB2.out.size)⟩);have HG6:=O (Q_.1 HX6.out).1;have hcv:=cw W2 blob;have HSB:=O (bU W2 blob);have HSR:=O (fo W2 blob (by unfold maxLen;have := HL.out;omega));generalize Lib.bytesWorld W2 5 ⟨blob.toArray⟩=ws at hcv HSB HSR
 go_upto_region 7 with (first
  |(go_at_call 93;refine(HGB.out _ _ HSR.out).mono ?_;rintro e w3 ⟨rfl,hb3⟩;have HB3:=O (HSB.out.trans (hb3.mono HSB.out.size));simp only[mH];clear hb3))
 try dsimp only[Act.put]
 refine aY 11 [[],[0],[],[],[],[3,4],[1,2,5],[6],[7],[7],[8]] (SP.of [.eq (.string ⟨dk.toArray⟩),.eq (.string ⟨dp.toArray⟩),.eq (.string ⟨h.toArray⟩),.eq (.string ⟨blob.toArray⟩),.eq (.int .i64 n),.eq (.string ⟨rr.toArray⟩),.eq (.tuple #[.string ⟨T.toArray⟩,.int .i64 f]),.eq (.tuple #[.string ⟨T.toArray⟩,.int .i64 f]),.eq (.string ⟨T.toArray⟩),.eq (.int .i64 f),.eq (.string ⟨T.toArray⟩)]) (fun _=>undef) ?h1 ?h2 ?h3 ?h4 ?h5 ?h6
 case h1=>kernel_rfl
 case h2=>kernel_rfl
 case h3=>kernel_rfl
 case h4 =>
  simp only[F_,c_]
  repeat (first |exact trivial|refine⟨fun vals v=>by kernel_rfl,?_⟩)
 case h5 =>
  simp only[F_,c_];refine⟨?_,?_,?_,?_,?_,?_,?_,?_,?_,?_,?_,trivial⟩
  all_goals (intro wq hbq vals;simp only[Nat.reduceAdd,a_,X_,W_];have HQ:=O (HX.out _ (HB3.out.trans (hbq.mono HB3.out.size)));clear hbq;repeat (first |refine ar ?_|refine aw rfl ?_);intro Q hQ;simp only[ay,upd,Act.put,B_,C_,D_,Nat.reduceAdd,a_,Nat.reduceEqDiff,if_true,if_false,reduceIte])
  case refine_2 =>
   go_wp2_with (go_at_call 70;refine(HDR.out _ (HRES.out _ HQ.out.2).2.2).mono ?_;rintro e x1 ⟨rfl,hx1⟩)
   exact ab hQ _ (by kernel_rfl) hx1 rfl
  case refine_6 =>
   have hs:=jW blob n HU.out;rw[←HRR.out] at hs
   have tk:(blob.drop n).take (blob.length-n)=rr:=by rw[eE,HRR.out]
   have i5:(n:Int)≤blob.length:=by have := HU.out;omega
   have i6:=HU.out;go_wp2;exact ab hQ _ (by kernel_rfl) (O_ _ _) rfl
  case refine_7 =>
   go_wp2_with (go_at_call 98;refine(HOP.out _ (HRES.out _ HQ.out.2).2.2).mono ?_;rintro e x1 ⟨rfl,hx1⟩)
   exact ab hQ _ (by kernel_rfl) hx1 rfl
  all_goals go_wp2
  all_goals exact ab hQ _ (by kernel_rfl) (O_ _ _) rfl
 case h6 =>
  intro wq hbq vals;rw[show List.range 11=[0,1,2,3,4,5,6,7,8,9,10] from by decide]
  repeat (first |refine ar ?_|refine aw rfl ?_)
  simp only[F_,c_,J_,L_];simp only[ay,upd,Act.put,B_,C_,D_,Nat.reduceAdd,a_,Nat.reduceEqDiff,if_true,if_false,reduceIte];have HBQ:=O (HB3.out.trans (hbq.mono HB3.out.size));clear hbq
  by_cases hf:f=0
  case neg =>
   have j1:(f != 0)=true:=by rw[bne_iff_ne];exact hf
   have HE:=O (HOB.out hf);clear HOB HOC HOD HOE;have HF:=O hf;clear hf
   go_wp2_with (first
    |(refine jJ rfl rfl ?_)
    |(refine aM (T:=47) (bc zB ah) (dM zB) rfl (.tmp 4) (.tmp 52) rfl w.heap.size (bc zB ah) rfl rfl (ey zB) rfl (HRES.out _ (HX.out _ HBQ.out).2).1 ?_;intro we hge hoe hbe))
   refine g_ (aA rfl _ _ w.heap.size _ rfl (aX _ _ zB ah _ hge)) rfl ?_;obtain⟨z1,z2⟩:=HNO.out (by rw[HE.out];exact HF.out);exact⟨none,0,by rw[z1,z2,HE.out];rfl,by rw[z2];exact gF _,(HRES.out _ (HX.out _ HBQ.out).2).2.1.trans (hbe _ (A_ _))⟩
  subst hf;have hcv3:=cw wq T;have HSB3:=O (bU wq T);have HSR3:=O (fo wq T (by unfold maxLen;have := HTL.out;have := HRL.out;have := HL.out;omega));generalize Lib.bytesWorld wq 5 ⟨T.toArray⟩=wqs at hcv3 HSB3 HSR3;have HTL2:Hid (T.length≤100000):=O (by have := HTL.out;have := HRL.out;have := HL.out;omega)
  have hti:(T.length:Int)≤100000:=by have := HTL2.out;omega
  have HGS:=O (oK _ T wqs HSR3.out (by have := HTL2.out;omega));have HCE:=O (fun (h:(aE T).2.2≠0)=>Sc h);have HCL:=O (fun (h:(aE T).2.2=0) (h2:¬(aE T).2.1=T.length)=>NY h h2);have HCA:=O (fun (h:(aE T).2.2=0) (h2:(aE T).2.1=T.length)=>Sa h h2);have HSL:Hid ((aE T).2.2=0→(aE T).1.length≤T.length∧∀x∈(aE T).1,x.length≤T.length):=O (fun h0=>⟨by have := BU T 0;rw[kC h0] at this;exact this,fun x hx=>qM T 0 x (by rw[kC h0];exact hx)⟩);generalize aE T=d at HGS HCE HCL HCA HSL;obtain⟨ss,m,er⟩:=d;simp only at HCE HCL HCA HSL;have tok1:True:=trivial
  by_cases he:er=0
  case neg =>
   have j2:(er != 0)=true:=by rw[bne_iff_ne];exact he
   have HE:Hid (opE dk blob=er):=O (by have hc:=HCE.out he;rw[HOC.out rfl (by rw[hc];exact he),hc]);have HF:=O he;clear he HOB HOC HOD HOE HCE HCL HCA HSL
   go_wp2_with (first
    |(clear tok1;go_at_call 99;refine HGS.out.mono ?_;rintro e w5 ⟨v5,rfl,ho5,hb5⟩;obtain⟨a5,c5,rfl⟩:=ho5.rd.form;have HO5:=O ho5;have HB5:=O (HBQ.out.trans ((HSB3.out.trans (hb5.mono HSB3.out.size)).mono HBQ.out.size));clear ho5 hb5)
    |(refine jJ rfl rfl ?_)
    |(refine aM (T:=47) (bc zB ah) (dM zB) rfl (.tmp 4) (.tmp 63) rfl w.heap.size (bc zB ah) rfl rfl (ey zB) rfl (HRES.out _ (HX.out _ HB5.out).2).1 ?_;intro we hge hoe hbe))
   refine g_ (aA rfl _ _ w.heap.size _ rfl (aX _ _ zB ah _ hge)) rfl ?_;obtain⟨z1,z2⟩:=HNO.out (by rw[HE.out];exact HF.out);exact⟨none,0,by rw[z1,z2,HE.out];rfl,by rw[z2];exact gF _,(HRES.out _ (HX.out _ HB5.out).2).2.1.trans (hbe _ (A_ _))⟩
  subst he
  by_cases hm:m=T.length
  case neg =>
   have j2:((m:Int) != (T.length:Int))=true:=by rw[bne_iff_ne];omega
   have HE:Hid (opE dk blob=6):=O (by have hc:=HCL.out rfl hm;rw[HOC.out rfl (by rw[hc];decide),hc]);clear hm HOB HOC HOD HOE HCE HCL HCA HSL
   go_wp2_with (first
    |(clear tok1;go_at_call 99;refine HGS.out.mono ?_;rintro e w5 ⟨v5,rfl,ho5,hb5⟩;obtain⟨a5,c5,rfl⟩:=ho5.rd.form;have HO5:=O ho5;have HB5:=O (HBQ.out.trans ((HSB3.out.trans (hb5.mono HSB3.out.size)).mono HBQ.out.size));clear ho5 hb5)
    |(refine jJ rfl rfl ?_)
    |(refine aM (T:=47) (bc zB ah) (dM zB) rfl (.tmp 4) (.tmp 69) rfl w.heap.size (bc zB ah) rfl rfl (ey zB) rfl (HRES.out _ (HX.out _ HB5.out).2).1 ?_;intro we hge hoe hbe))
   refine g_ (aA rfl _ _ w.heap.size _ rfl (aX _ _ zB ah _ hge)) rfl ?_;obtain⟨z1,z2⟩:=HNO.out (by rw[HE.out];first |decide|assumption);exact⟨none,0,by rw[z1,z2,HE.out];rfl,by rw[z2];exact gF _,(HRES.out _ (HX.out _ HB5.out).2).2.1.trans (hbe _ (A_ _))⟩
  have j2:((m:Int) != (T.length:Int))=false:=by rw[hm];simp
  obtain⟨hc1,hc2⟩:=HCA.out rfl hm;rw[hc1] at HOC;rw[hc1,hc2] at HOD HOE;have HS1:=O (HSL.out rfl)
  have hssi:(ss.length:Int)≤100000:=by have := HS1.out.1;have := HTL2.out;omega
  clear hm hc1 hc2 HCE HCL HCA HSL HOB
  go_wp2_with (first
   |(clear tok1;go_at_call 99;refine HGS.out.mono ?_;rintro e w5 ⟨v5,rfl,ho5,hb5⟩;obtain⟨a5,c5,rfl⟩:=ho5.rd.form;have HO5:=O ho5;have HB5:=O (HBQ.out.trans ((HSB3.out.trans (hb5.mono HSB3.out.size)).mono HBQ.out.size));clear ho5 hb5))
  have HX5:=O (HX.out _ HB5.out);have HR5:Hid (RdE eS w5 (.slice a5 ss.length c5) ss):=O HO5.out.rd;have HNE:Hid ((Value.slice a5 ss.length c5).ownBlock≠some g6):=O (HO5.out.neOld (P_ HG6.out (M_ HBQ.out.size HSB3.out.size)));have HL56:Hid (g6<w5.heap.size):=O (Q_.1 HX5.out.1).1;have HGW:Hid (w.heap.size≤g6):=O (Nat.le_of_lt (P_ HSZ.out HL6.out));have HNW:Hid (w.heap.size≠g6):=O (by have := P_ HSZ.out HL6.out;omega)
  go_loopw [16] (fun o wr=>∃(j:Nat) (vk:Value),j≤ss.length∧o = .int .i64 j∧Hid ((b5 (ss.take j) 0).2=0)∧Hid (tY w5 g6 pk vk (b5 (ss.take j) 0).1 wr)) (fun o _=>ss.length-(intOf o).toNat)
  case atStart=>exact⟨0,ah,N_ _,rfl,O rfl,O ⟨HX5.out.1,b7.nil _ _,iK _ _,HL56.out⟩⟩
  case round =>
   obtain⟨j,vk,hj,rfl,hz0,hor⟩:=hrel;have HRD:=O (HR5.out.other hor.out.grown HNE.out)
   by_cases hlt:j<ss.length
   case pos =>
    have k1:(j:Int)<ss.length:=by omega
    obtain⟨bb,off,hae,hbl,aO⟩:=dQ HRD.out (by omega);subst hae;have cj:=aO j hlt;have hsl:=HS1.out.2 ss[j] (List.getElem_mem hlt);have HFT:=O (oY ss j hlt 0);have HFF:=O (fun h1=>A8 ss j hlt hz0.out h1);rw[hz0.out] at HFT;have HON:=O (Wn ss[j] wr (by have := HTL2.out;omega));have HKL:Hid ((b5 (ss.take j) 0).1.length≤100000):=O (by rw[xr,b_];have := HS1.out.1;have := HTL2.out;omega);generalize ss[j]=s at cj HFT HFF HON hsl;generalize (b5 (ss.take j) 0).1=ks at HFT HKL hor;have HJ:=O hlt;clear aO hlt hz0 hsl
    by_cases hke:dZ s 0=0
    case neg =>
     have k2:(dZ s 0 != 0)=true:=by rw[bne_iff_ne];exact hke
     have HE:Hid (opE dk blob=dZ s 0):=O (by have h1:=HFF.out hke;rw[HOC.out (by first |exact rfl|exact trivial) (by rw[h1];exact hke),h1]);have HF:=O hke;clear hke HOC HOD HOE HFT HFF;have HRW:Hid (∀u,Below wr.heap.size wr u→u.heap[w.heap.size]?=some (.cells (bc zB ah) 47 (0,0))∧Below w.heap.size w u):=O (fun u hu=>by have h1:=hor.out.on hu;exact⟨h1.keep (HRES.out _ HX5.out.2).1 HNW.out,h1.bel (HRES.out _ HX5.out.2).2.1 HGW.out⟩)
     go_wp2_with (first
      |(go_at_call 100;refine HON.out.mono ?_;rintro e w6 ⟨rfl,hb6⟩;have HB6:=O hb6;clear hb6)
      |(refine aH (kc (fV s 0)) 86 rfl (.tmp 17) (.tmp 82) rfl _ rfl rfl rfl (by kernel_rfl) (by kernel_rfl) (jR _) ?_;have HB7:=O (HRW.out _ (HB6.out.alloc HB6.out.size (.cells (kc (fV s 0)) 86))))
      |(refine jJ rfl rfl ?_)
      |(refine aM (T:=47) (bc zB ah) (dM zB) rfl (.tmp 4) (.tmp 86) rfl w.heap.size (bc zB ah) rfl rfl (ey zB) rfl HB7.out.1 ?_;intro we hge hoe hbe))
     refine g_ (aA rfl _ _ w.heap.size _ rfl (aX _ _ zB ah _ hge)) rfl ?_;obtain⟨z1,z2⟩:=HNO.out (by rw[HE.out];exact HF.out);exact⟨none,0,by rw[z1,z2,HE.out];rfl,by rw[z2];exact gF _,HB7.out.2.trans (hbe _ (A_ _))⟩
    rw[hke] at HON HFT;clear hke HFF;obtain⟨ka,kcap,hvk⟩:∃ka kcap,vk = .slice ka ks.length kcap:=hor.out.own.rd.formK;subst hvk;generalize fV s 0=km at HON HFT
    go_upto_region 21 with (first
     |(go_at_call 100;refine HON.out.mono ?_;rintro e w6 ⟨rfl,hb6⟩;have HB6:=O hb6;clear hb6)
     |(refine aH (kc km) 86 rfl (.tmp 17) (.tmp 82) rfl _ rfl rfl rfl (by kernel_rfl) (by kernel_rfl) (jR _) ?_))
    have HA7:=O (HB6.out.alloc HB6.out.size (.cells (kc km) 86));have HK7:Hid ((w6.alloc (.cells (kc km) 86)).heap[w6.heap.size]?=some (.cells (kc km) 86 (0,0))):=O (heap_alloc_new _ _);generalize hw7:w6.alloc (.cells (kc km) 86)=w7 at HA7 HK7 ⊢;generalize hg7:w6.heap.size=g7 at HK7 ⊢;clear hw7 hg7;have HO7:=O (hor.out.on HA7.out)
    have c37:w7.cell? ⟨g6,37,none⟩=some (.slice ka ks.length kcap):=by rw[e_ _ _ _ _ _ _ HO7.out.row];exact iU _ _
    have hsz7:w5.heap.size≤w7.heap.size:=HO7.out.grown.size
    go_wp2_with (first
     |(refine dY km g7 _ HK7.out rfl (.tmp 17) rfl rfl ?_)
     |(refine CG km rfl (.tmp 90) rfl rfl ?_)
     |(at_builtin;refine wO rfl (.tmp 89) (.tmp 91) rfl w5.heap.size _ ks rfl (HO7.out.own.keep ((O_ _ _).alloc (A_ _) _) (A_ _)) _ [km] rfl (Q9 w7 km) (by have := HKL.out;simp only[Z_,List.length_nil];omega) (by rw[World.size_alloc];omega) ?_;intro v8 w8 ho8 hb8;have HB78:Hid (Below w5.heap.size w7 w8):=(O ((((O_ w7.heap.size w7).alloc (A_ _) (.cells (kc km) 86)).mono hsz7).trans hb8));obtain⟨na,nc,hnv⟩:∃na nc,v8 = .slice na (ks.length+1) nc:=(by obtain⟨a,c,e⟩:=ho8.rd.formK;exact⟨a,c,by rw[e,E_];rfl⟩);subst hnv;have HO8:=O ho8;clear ho8;have HR8:Hid (w8.heap[g6]?=some (.cells (bc pk (.slice ka ks.length kcap)) 47 (0,0))):=(O (by rw[HB78.out.block _ HL56.out];exact HO7.out.row));have c37b:w8.cell? ⟨g6,37,none⟩=some (.slice ka ks.length kcap):=(by rw[e_ _ _ _ _ _ _ HR8.out];exact iU _ _);have f37:=frozen_of_row _ _ 37 _ _ HR8.out;clear hb8 c37))
    go_roundw
    case rel=>exact⟨j+1,.slice na (ks.length+1) nc,HJ.out,by go_num,O (by rw[HFT.out]),O (by rw[HFT.out,au _ _ _ _ _ _ _ HR8.out,us];exact HO7.out.app HB78.out HO8.out)⟩
    case measure=>have := HJ.out;simp[intOf];omega
   have he:j=ss.length:=by omega
   have k1:¬(j:Int)<ss.length:=by omega
   subst he;rw[List.take_length] at hz0 hor;rw[hz0.out] at HOD HOE;generalize (b5 ss 0).1=ks at HOD HOE hor;clear hlt hj HOC;obtain⟨ka,kcap,hvk⟩:∃ka kcap,vk = .slice ka ks.length kcap:=hor.out.own.rd.formK;subst hvk;have HVR:=O (rg pk (.slice ka ks.length kcap) ks wr hor.out.own.rd);have HRW:Hid (∀u,Below wr.heap.size wr u→u.heap[w.heap.size]?=some (.cells (bc zB ah) 47 (0,0))∧Below w.heap.size w u∧u.heap[g6]?=some (.cells (bc pk (.slice ka ks.length kcap)) 47 (0,0))∧b7 u w5.heap.size (.slice ka ks.length kcap) ks):=O (fun u hu=>by have h1:=hor.out.on hu;exact⟨h1.keep (HRES.out _ HX5.out.2).1 HNW.out,h1.bel (HRES.out _ HX5.out.2).2.1 HGW.out,h1.row,h1.own⟩);have tok2:True:=trivial
   cases hvv:aI pk ks with
   | false =>
     have HE:=O (HOD.out (by first |exact rfl|exact trivial) (by first |exact rfl|exact trivial) hvv);rw[hvv] at HVR;clear hvv HOD HOE
     go_wp2_with (first
      |(clear tok2;refine cH pk _ rfl (.tmp 6) rfl g6 rfl _ hor.out.row ?_)
      |(go_at_call 80;refine HVR.out.mono ?_;rintro e w6 ⟨rfl,hb6⟩;have HB6:=O (HRW.out _ hb6);clear hb6)
      |(refine jJ rfl rfl ?_)
      |(refine aM (T:=47) (bc zB ah) (dM zB) rfl (.tmp 4) (.tmp 98) rfl w.heap.size (bc zB ah) rfl rfl (ey zB) rfl HB6.out.1 ?_;intro we hge hoe hbe))
     refine g_ (aA rfl _ _ w.heap.size _ rfl (aX _ _ zB ah _ hge)) rfl ?_;obtain⟨z1,z2⟩:=HNO.out (by rw[HE.out];first |decide|assumption);exact⟨none,0,by rw[z1,z2,HE.out];rfl,by rw[z2];exact gF _,HB6.out.2.1.trans (hbe _ (A_ _))⟩
   | true =>
     obtain⟨e1,e2,e3⟩:=HOE.out (by first |exact rfl|exact trivial) (by first |exact rfl|exact trivial) hvv;have HE:=O e1;have HE2:=O e2;have HE3:=O e3;rw[hvv] at HVR;clear hvv HOD HOE e1 e2 e3
     go_wp2_with (first
      |(clear tok2;refine cH pk _ rfl (.tmp 6) rfl g6 rfl _ hor.out.row ?_)
      |(go_at_call 80;refine HVR.out.mono ?_;rintro e w6 ⟨rfl,hb6⟩;have HB6:=O (HRW.out _ hb6);clear hb6)
      |(refine cH pk _ rfl (.tmp 6) rfl g6 rfl _ HB6.out.2.2.1 ?_)
      |(refine aM (T:=47) (bc pk (.slice ka ks.length kcap)) (by rw[aC];exact dU) rfl (.tmp 4) (.tmp 99) rfl w.heap.size (bc zB ah) rfl rfl (dl _ _ _ _) (by rw[aC,aC]) HB6.out.1 ?_;intro we hge hoe hbe))
     refine g_ (aA rfl _ _ w.heap.size _ rfl (aX _ _ pk _ _ hge)) rfl ?_;have hgr:w6.grownBy we (some w.heap.size):=⟨(hbe 0 (N_ _)).os,(hbe 0 (N_ _)).tape,(hbe 0 (N_ _)).output,(hbe 0 (N_ _)).size,fun k _ hne=>hoe k (fun e=>hne (by rw[e]))⟩;exact⟨ka,kcap,by rw[HE.out,HE2.out,HE3.out];rfl,by rw[HE3.out];exact(HB6.out.2.2.2.grown hgr (fun g hg=>by cases hg;exact HB6.out.2.2.2.neOld (by have := HL56.out;have := HGW.out;omega))).rd,HB6.out.2.1.trans (hbe _ (A_ _))⟩
end
end Go.Proofs.YtmfiaadjdbemnaaGreatDoor
