/- Contracts and lemmas. No condition. -/
import Derived.Test.YtmfiaadjdbemnaaGreatDoorLFound05
set_option maxRecDepth 100000
set_option maxHeartbeats 8000000
set_option linter.unusedSimpArgs false
set_option linter.unusedVariables false
namespace Go.Proofs.YtmfiaadjdbemnaaGreatDoor
open Go.Proofs.Tryz
section
open Go.RowKit Go.Shelf
attribute [local irreducible] Calls am mac aV
theorem Ov (s:List UInt8) (w:World) (hl:s.length≤100000) :
  Calls prog 114 #[.string ⟨s.toArray⟩,.slice none 0 0] w fun e w'=>e = .returned (.string ⟨(aV s).toArray⟩)∧Below w.heap.size w w':=by
 have HE:=O (yQ (E:=eB) w rfl);have HL:=O hl;have HEL:=O (cW s);have HBA:Hid (Below w.heap.size w (w.alloc (.cells #[] 5))):=O ((O_ _ _).alloc (A_ _) _);clear hl
 go_enter func114,ntmps114
 go_wp2_with (first
  |(go_at_call 84;refine(lH s _ (by have := HL.out;omega)).mono ?_;rintro e w1 ⟨v1,rfl,ho1,hb1⟩;have HO1:=O ho1;have HB1:=O hb1;clear ho1 hb1)
  |(at_builtin;go_loud (refine br aN rfl (.tmp 7) (.tmp 9) rfl w.heap.size _ [] rfl (HE.out.on HB1.out) v1 (aV s) rfl HO1.out.rd (by have := HEL.out;have := HL.out;simp;omega) (M_ HBA.out.size HB1.out.size) ?_);intro v2 w2 ho2 hg2 hloc;have HB2:=O ((HBA.out.trans (HB1.out.mono HBA.out.size)).trans ((HE.out.on HB1.out).below hg2 (M_ HBA.out.size HB1.out.size)));have HO2:Hid (ap eB w2 w.heap.size v2 (aV s)):=(O ho2);clear ho2 hg2 hloc))
 go_loopw [6,5] (fun i o wr=>i = .int .i64 0∧o=v2∧wr=w2) (fun _ _ _=>0)
 case atStart=>exact⟨rfl,rfl,rfl⟩
 case round =>
  obtain⟨rfl,rfl,hwr⟩:=hrel;rw[hwr];clear hwr;have hcv:=b6 HO2.out.rd;go_wp2;go_ret;exact⟨rfl,HB2.out⟩
theorem uI (key label:List UInt8) (w:World) (hk:cA w) (hl:key.length≤400000) (hm:label.length≤1000) :
  Calls prog 70 #[.string ⟨key.toArray⟩,.string ⟨label.toArray⟩,.slice none 0 0] w fun e w'=>e = .returned (.string ⟨(aJ key label).toArray⟩)∧Below w.heap.size w w':=by
 have HK:=O hk;have HL:=O hl;have HM:=O hm;have HD:Hid (mac key (aV label)=aJ key label):=O rfl;have HE:=O (cW label);clear hk hl hm
 go_enter func70,ntmps70
 go_wp2_with (first
  |(go_at_call 114;refine(Ov label _ (by have := HM.out;omega)).mono ?_;rintro e w1 ⟨rfl,hb1⟩;have HB1:=O hb1;clear hb1)
  |(go_at_call 113;refine(Bs key (aV label) _ (HK.out.on HB1.out) HL.out (by have := HE.out;have := HM.out;omega)).mono ?_;rintro e w2 ⟨rfl,hb2⟩;have HB2:=O (HB1.out.trans (hb2.mono HB1.out.size));clear hb2;rw[HD.out]))
 go_ret;exact⟨rfl,HB2.out⟩
end
section
open Go.RowKit Go.Shelf
attribute [local irreducible] Calls aJ
theorem M9:(prog.info? 34).map (·.zero)=some (some (.agg (ag []))):=by kernel_rfl
theorem tW (w:World):(zeroValue 34).run prog w = .ok (.agg (ag [])) w:=by
 have h:=M9;generalize ag []=L at h ⊢
 cases hq:prog.info? 34 with
 | none=>rw[hq] at h;cases h
 | some i =>
   rw[hq] at h
   simp at h
   simp[zeroValue,typeInfo,hq,h]
theorem qA:(prog.info? 34).map (·.size)=some 1:=by kernel_rfl
theorem I5 (s:List UInt8):prog.built 34 [(0,.string ⟨s.toArray⟩)]=some (ag s):=by kernel_rfl
theorem Tz (w:World) (g:Nat) (s:List UInt8) (T:TypeId) (hg:w.heap[g]?=some (.cells (ag s) T (0,0))):(loadVar 34 ⟨g,0,none⟩).run prog w = .ok (.agg (ag s)) w :=
 run_loadVar_row w g T 34 (ag s) (0,0) _ hg underlying34 rfl qA
theorem yH {ops:Array Oper} {rest:List Oper} {o:Oper} {a:Act} {w:World} {Q:Exit→Act→World→Prop} (s:List UInt8) (hgd:Region.wanted o (yielded ops a.tmps)=true) (x:Operand) (ho:o.op = .build 34 #[(0,x)]) (hx:a.eval x = .string ⟨s.toArray⟩)
  (h:wpList prog ops Q rest (a.put o.dst (.agg (ag s))) w):wpList prog ops Q (o::rest) a w :=
 wpList_step fun K hK=>by
  rw[G_ hgd];have hr:=run_build (P:=prog) w 34 #[(0,.string ⟨s.toArray⟩)] _ (I5 s);unfold Oper.wp execOp;simp only[ho,List.map_toArray,List.map_cons,List.map_nil,hx,hr,Sem.run_bind,Sem.run_pure,Result.andThen_ok];exact hK _ _ h
theorem tD (s:List UInt8) (w:World) (hk:cA w) (hl:s.length≤400000) :
  Calls prog 36 #[.agg (ag s)] w fun e w'=>e = .returned (.tuple #[.string ⟨(nxV s).toArray⟩,.agg (ag (nxS s))])∧Below w.heap.size w w':=by
 have hz:=tW;have HL:=O hl;obtain⟨W0,hW0⟩:∃W0,W0=(w.alloc (.cells (ag s) 34)).alloc (.cells (ag []) 34):=⟨_,rfl⟩;have HW:=O hW0
 have HX:Hid (∀u,Below W0.heap.size W0 u→u.heap[w.heap.size]?=some (.cells (ag s) 34 (0,0))∧u.heap[w.heap.size+1]?=some (.cells (ag []) 34 (0,0))∧Below w.heap.size w u∧cA u):=O (by
  intro u h;rw[hW0] at h;have h2:=dm _ _ _ h
  exact⟨by rw[h.block _ (by simp;omega)];exact eP _ _ _,by rw[h.block _ (by simp)];exact eR _ _ _,h2,hk.on h2⟩)
 have HV:Hid (aJ s vL=nxV s):=O rfl;have HS:Hid (aJ s sL=nxS s):=O rfl;have HD:=O (fun (l:List UInt8) (hl2:l.length≤1000) (y:World) (a:cA y)=>uI s l y a (by omega) hl2);clear hW0 hk hl
 go_enter func36,ntmps36
 go_upto_region 1 with fail
 rw[←HW.out]
 try dsimp only[Act.put]
 refine aY 8 [[],[0],[1],[],[3],[4],[5],[2]] (SP.of [.eq (.pointer (some ⟨w.heap.size,0,none⟩)),.eq (.string ⟨s.toArray⟩),.eq (.string ⟨(nxV s).toArray⟩),.eq (.pointer (some ⟨w.heap.size,0,none⟩)),.eq (.string ⟨s.toArray⟩),.eq (.string ⟨(nxS s).toArray⟩),.eq (.agg (ag (nxS s))),.eq (.string ⟨(nxV s).toArray⟩)]) (fun i=>([undef,undef,undef,undef,undef,undef,undef,.string ⟨#[]⟩]:List Value).getD i undef) ?h1 ?h2 ?h3 ?h4 ?h5 ?h6
 case h1=>kernel_rfl
 case h2=>kernel_rfl
 case h3=>kernel_rfl
 case h4 =>
  simp only[F_,c_]
  repeat (first |exact trivial|refine⟨fun vals v=>by kernel_rfl,?_⟩)
 case h5 =>
  simp only[F_,c_];refine⟨?_,?_,?_,?_,?_,?_,?_,?_,trivial⟩
  all_goals (intro wq hbq vals;simp only[Nat.reduceAdd,a_,X_,W_];have HQ:=O (HX.out wq hbq);clear hbq;repeat (first |refine ar ?_|refine aw rfl ?_);intro Q hQ;simp only[ay,upd,Act.put,B_,C_,D_,Nat.reduceAdd,a_,Nat.reduceEqDiff,if_true,if_false,reduceIte])
  case refine_3 =>
   go_wp2_with (go_at_call 70;refine(HD.out vL (by decide) _ HQ.out.2.2.2).mono ?_;rintro e x1 ⟨rfl,hx1⟩;rw[HV.out])
   exact ab hQ _ (by kernel_rfl) hx1 rfl
  case refine_6 =>
   go_wp2_with (go_at_call 70;refine(HD.out sL (by decide) _ HQ.out.2.2.2).mono ?_;rintro e x1 ⟨rfl,hx1⟩;rw[HS.out])
   exact ab hQ _ (by kernel_rfl) hx1 rfl
  case refine_7 =>
   go_wp2_with (refine yH (nxS s) rfl (.tmp 9) rfl rfl ?_)
   exact ab hQ _ (by kernel_rfl) (O_ _ _) rfl
  case refine_2 =>
   have c:wq.cell? ⟨w.heap.size,0,none⟩=some (.string ⟨s.toArray⟩):=e_ _ _ _ _ _ _ HQ.out.1;go_wp2;exact ab hQ _ (by kernel_rfl) (O_ _ _) rfl
  case refine_5 =>
   have c:wq.cell? ⟨w.heap.size,0,none⟩=some (.string ⟨s.toArray⟩):=e_ _ _ _ _ _ _ HQ.out.1;go_wp2;exact ab hQ _ (by kernel_rfl) (O_ _ _) rfl
  all_goals go_wp2
  all_goals exact ab hQ _ (by kernel_rfl) (O_ _ _) rfl
 case h6 =>
  intro wq hbq vals;rw[show List.range 8=[0,1,2,3,4,5,6,7] from by decide]
  repeat (first |refine ar ?_|refine aw rfl ?_)
  simp only[F_,c_,J_,L_];simp only[ay,upd,Act.put,B_,C_,D_,Nat.reduceAdd,a_,Nat.reduceEqDiff,if_true,if_false,reduceIte];have HQ:=O (HX.out wq hbq);clear hbq
  go_wp2_with (refine aM (T:=34) (ag (nxS s)) qA rfl (.tmp 3) (.tmp 10) rfl (w.heap.size+1) (ag []) rfl rfl (aS _) rfl HQ.out.2.1 ?_;intro we hge hoe hbe)
  refine g_ (iS rfl _ _ (w.heap.size+1) _ rfl (Tz _ _ (nxS s) _ hge)) rfl ?_;exact⟨rfl,HQ.out.2.2.1.trans (hbe _ (by omega))⟩
end
section
open Go.ChangeShapes Go.WideShapes Go.ChangeAt Go.RowKit Go.Deep
set_option maxRecDepth 10000
theorem SB {H:Type}:(Rows.laid_custody_custodyref02_constants:DataW H) = .agg (KK.map fun k => .lit (.int .u32 (W32 k))):=by kernel_rfl
theorem SC {H:Type}:(Rows.laid_custody_hash_constants:DataW H) = .agg (KK.map fun k => .lit (.int .u32 (W32 k))):=by kernel_rfl
abbrev lU:List (String × DataW Unit):=[("custody/custodyref02.constants",Rows.laid_custody_custodyref02_constants),("custody/hash.constants",Rows.laid_custody_hash_constants)]
theorem g0:prog.globalNamed "custody/custodyref02.constants" = some 1:=by kernel_rfl
theorem g1:prog.globalNamed "custody/hash.constants" = some 0:=by kernel_rfl
theorem t0:(prog.globals[1]?).map (·.type)=some 213:=by kernel_rfl
theorem t1:(prog.globals[0]?).map (·.type)=some 213:=by kernel_rfl
theorem Cj {W:World} (h:laidMetH prog lU W):cA W∧KAt W:=by
 have h':laidMet prog lU W:=h;obtain⟨ps,⟨g,t,cs,fuel,p,q,hg,ht,hvar,hd,⟨g',t',cs',fuel',p',q',hg',ht',hvar',hd',_,hps'⟩,hps⟩,_,hr⟩:=h';obtain rfl:=Option.some.inj (g0.symm.trans hg);obtain rfl:=Option.some.inj (t0.symm.trans ht);obtain rfl:=Option.some.inj (g1.symm.trans hg');obtain rfl:=Option.some.inj (t1.symm.trans ht');have e0:=zx cs (DI hd SB);have e1:=zx cs' (DI hd' SC)
 have hz0:cs.size=63+1:=by rw[e0,co,lB]
 have hz1:cs'.size=63+1:=by rw[e1,co,lB]
 have hm0:MemPlace.cell 1 0∈ps:=by
  rw[hps,hz0]
  simp[MemPlace.row]
 have hm1:MemPlace.cell 0 0∈ps:=by
  rw[hps,hps',hz1]
  simp[MemPlace.row]
 obtain⟨⟨c,t,hb⟩,_⟩:=hr 1 0 hm0;obtain⟨⟨c',t',hb'⟩,_⟩:=hr 0 0 hm1;simp only[World.var?,hg,Option.bind_some,hb,Option.some.injEq] at hvar;simp only[World.var?,hg',Option.bind_some,hb',Option.some.injEq] at hvar';refine⟨⟨t,?_⟩,⟨t',?_⟩⟩
 ·rw[←e0,←hvar];exact hb
 ·rw[←e1,←hvar'];exact hb'
theorem xe (os:Os) (args:Array Value):laidMetH prog lU ((World.doorLaid prog 222 os).forCall (fun _ _=>0) ⟨#[],args,[]⟩).memory :=
 laidMet_of_run' 8 (by kernel_rfl) (by kernel_rfl)
end
end Go.Proofs.YtmfiaadjdbemnaaGreatDoor
