/- Contracts and lemmas. No condition. -/
import Derived.Test.YtmfiaadjdbemnaaGreatDoorLFound08
set_option maxRecDepth 100000
set_option maxHeartbeats 8000000
set_option linter.unusedSimpArgs false
set_option linter.unusedVariables false
namespace Go.Proofs.YtmfiaadjdbemnaaGreatDoor
open Go.Proofs.Tryz
section
open Go.RowKit Go.Shelf
theorem DR (d:DO):(d.key.length≠32∧bD d=false)∨(d.key.length=32∧¬0≤d.ep∧bD d=false)∨(d.key.length=32∧0≤d.ep∧¬d.ep≤2147483647∧bD d=false)∨(d.key.length=32∧0≤d.ep∧d.ep≤2147483647∧¬0≤d.bk∧bD d=false) ∨
  (d.key.length=32∧0≤d.ep∧d.ep≤2147483647∧0≤d.bk∧bD d=decide (d.bk≤2147483647)):=by
 unfold bD
 by_cases h:d.key.length=32
 ·rw[decide_eq_true h,Bool.true_and]
  by_cases h1:0≤d.ep
  ·by_cases h2:d.ep≤2147483647
   ·by_cases h3:0≤d.bk
    ·exact .inr (.inr (.inr (.inr ⟨h,h1,h2,h3,by rw[decide_eq_true h1,decide_eq_true h2,decide_eq_true h3];simp⟩)))
    ·exact .inr (.inr (.inr (.inl ⟨h,h1,h2,h3,by rw[V_ h3];simp⟩)))
   ·exact .inr (.inr (.inl ⟨h,h1,h2,by rw[V_ h2];simp⟩))
  ·exact .inr (.inl ⟨h,h1,by rw[V_ h1];simp⟩)
 ·exact .inl ⟨h,by rw[V_ h];rfl⟩
def foA (d:DO) (v:Value) (r:List UInt8) (e:Int):Array Value:=(dmc d++[v,.string ⟨r.toArray⟩,.int .i64 e]).toArray
theorem ed (d:DO) (v:Value) (r:List UInt8) (e:Int):(foA d v r e).size=22:=by
 rw[foA,List.size_toArray,E_,nJ]
 rfl
theorem ie (d:DO) (a:Option Addr) (n c:Nat) (r:List UInt8) (e:Int):((foA d (.slice a n c) r e).all fun u=>u.oneCell')=true:=by
 rw[Array.all_eq_true_iff_forall_mem];intro u hu;unfold foA at hu;rw[List.mem_toArray,List.mem_append] at hu
 rcases hu with h|h
 ·exact tp d u h
 ·simp at h
  rcases h with rfl|rfl|rfl <;> rfl
def zFO:Array Value:=foA zD ah [] 0
theorem M4:(prog.info? 36).map (·.zero)=some (some (.agg zFO)):=by kernel_rfl
theorem J9:(prog.info? 36).map (·.size)=some 22:=by kernel_rfl
theorem fU (d:DO) (v:Value) (r:List UInt8) (e:Int):(prog.info? 36).map (·.size)=some (foA d v r e).size:=by rw[ed];exact J9
theorem fQ:zFO.size=22:=ed _ _ _ _
theorem tU (w:World):(zeroValue 36).run prog w = .ok (.agg zFO) w:=by
 have h:=M4;generalize zFO=L at h ⊢
 cases hq:prog.info? 36 with
 | none=>rw[hq] at h;cases h
 | some i =>
   rw[hq] at h
   simp at h
   simp[zeroValue,typeInfo,hq,h]
theorem F3 (e:Int):prog.built 36 [(3,.int .i64 e)]=some (foA zD ah [] e):=by kernel_rfl
theorem IY (d:DO) (a:Option Addr) (n c:Nat) (r:List UInt8):prog.built 36 [(0,.agg (doA d)),(1,.slice a n c),(2,.agg (ag r))]=some (foA d (.slice a n c) r 0):=by kernel_rfl
theorem rT (w:World) (g:Nat) (d:DO) (v:Value) (r:List UInt8) (e:Int) (T:TypeId) (hg:w.heap[g]?=some (.cells (foA d v r e) T (0,0))):(loadVar 36 ⟨g,0,none⟩).run prog w = .ok (.agg (foA d v r e)) w :=
 run_loadVar_row w g T 36 _ (0,0) _ hg underlying36 rfl (fU _ _ _ _)
theorem yG {ops:Array Oper} {rest:List Oper} {o:Oper} {a:Act} {w:World} {Q:Exit→Act→World→Prop} (e:Int) (hgd:Region.wanted o (yielded ops a.tmps)=true) (x:Operand) (ho:o.op = .build 36 #[(3,x)]) (hx:a.eval x = .int .i64 e)
  (h:wpList prog ops Q rest (a.put o.dst (.agg (foA zD ah [] e))) w):wpList prog ops Q (o::rest) a w :=
 wpList_step fun K hK=>by
  rw[G_ hgd];have hr:=run_build (P:=prog) w 36 #[(3,.int .i64 e)] _ (F3 e);unfold Oper.wp execOp;simp only[ho,List.map_toArray,List.map_cons,List.map_nil,hx,hr,Sem.run_bind,Sem.run_pure,Result.andThen_ok];exact hK _ _ h
theorem RK {ops:Array Oper} {rest:List Oper} {o:Oper} {a:Act} {w:World} {Q:Exit→Act→World→Prop} (d:DO) (va:Option Addr) (n c:Nat) (r:List UInt8) (hgd:Region.wanted o (yielded ops a.tmps)=true) (x y z:Operand) (ho:o.op = .build 36 #[(0,x),(1,y),(2,z)]) (hx:a.eval x = .agg (doA d)) (hy:a.eval y = .slice va n c) (hz:a.eval z = .agg (ag r))
  (h:wpList prog ops Q rest (a.put o.dst (.agg (foA d (.slice va n c) r 0))) w):wpList prog ops Q (o::rest) a w :=
 wpList_step fun K hK=>by
  rw[G_ hgd];have hr:=run_build (P:=prog) w 36 #[(0,.agg (doA d)),(1,.slice va n c),(2,.agg (ag r))] _ (IY d va n c r);unfold Oper.wp execOp;simp only[ho,List.map_toArray,List.map_cons,List.map_nil,hx,hy,hz,hr,Sem.run_bind,Sem.run_pure,Result.andThen_ok];exact hK _ _ h
theorem bB {fn:Func} {p:Tmp} {ty:TypeId} (h:fn.results = #[.cell p ty]) (tmps:Array Value) (w:World) (g:Nat) (x:Value)
  (hp:tmps.getD p undef = .pointer (some ⟨g,0,none⟩)) (hld:(loadVar ty ⟨g,0,none⟩).run prog w = .ok x w) :
  (results fn tmps).run prog w = .ok x w:=by
 have hp':tmps[p]?.getD undef = .pointer (some ⟨g,0,none⟩):=by simpa using hp
 simp[results,h,hp',asAddr,hld]
attribute [local irreducible] Calls doA ag zFO foA
theorem rh (d:DO) (w:World):Calls prog 16 #[.agg (doA d)] w fun e w'=>e = .returned (.bool (bD d))∧Below w.heap.size w w':=by
 obtain⟨W0,hW0⟩:∃W0,W0=w.alloc (.cells (doA d) 25):=⟨_,rfl⟩;have HW:=O hW0
 have hr:W0.heap[w.heap.size]?=some (.cells (doA d) 25 (0,0)):=by rw[hW0];exact heap_alloc_new _ _
 have c16:W0.cell? ⟨w.heap.size,16,none⟩=some (.string ⟨d.key.toArray⟩):=by rw[e_ _ _ _ _ _ _ hr];exact cK d
 have c17:W0.cell? ⟨w.heap.size,17,none⟩=some (.int .i64 d.ep):=by rw[e_ _ _ _ _ _ _ hr];exact gI d
 have c18:W0.cell? ⟨w.heap.size,18,none⟩=some (.int .i64 d.bk):=by rw[e_ _ _ _ _ _ _ hr];exact jL d
 have HB:Hid (Below w.heap.size w W0):=O (by rw[hW0];exact(O_ _ _).alloc (A_ _) _);have HP:=O (DR d);clear hr hW0
 rcases HP.out with⟨h0,hv⟩|⟨h0,h1,hv⟩|⟨h0,h1,h2,hv⟩|⟨h0,h1,h2,h3,hv⟩|⟨h0,h1,h2,h3,hv⟩
 all_goals
  rw[hv];clear HP hv
  first |(have k0:((d.key.length:Int) == 32)=true:=by rw[beq_iff_eq];omega)|(have k0:((d.key.length:Int) == 32)=false:=by rw[U_];omega)
  clear h0
  go_enter func16,ntmps16
  go_upto_region 1 with fail
  rw[←HW.out]
  try dsimp only[Act.put]
  go_wp2;go_ret;exact⟨rfl,HB.out⟩
structure NwS (w:World) (d:DO) (s:List UInt8) (y:World):Prop where
 r0:y.heap[w.heap.size]?=some (.cells (doA d) 25 (0,0))
 r1:y.heap[w.heap.size+1]?=some (.cells (ag s) 34 (0,0))
 r2:y.heap[w.heap.size+2]?=some (.cells zFO 36 (0,0))
 b:Below w.heap.size w y
theorem NwS.on {w y y':World} {d:DO} {s:List UInt8} (h:NwS w d s y) (hb:Below y.heap.size y y'):NwS w d s y' :=
 ⟨aa h.r0 hb,aa h.r1 hb,aa h.r2 hb,h.b.trans (hb.mono h.b.size)⟩
theorem NwS.set0 {w y:World} {d d':DO} {s:List UInt8} (h:NwS w d s y):NwS w d' s (y.setRow w.heap.size (doA d')) :=
 ⟨setRow_heap _ _ _ _ _ _ h.r0,(aj _ _ _ _ (by omega)).trans h.r1,(aj _ _ _ _ (by omega)).trans h.r2,h.b.trans (aK (A_ _))⟩
theorem Tx (w:World) (d:DO) (s:List UInt8):NwS w d s (((w.alloc (.cells (doA d) 25)).alloc (.cells (ag s) 34)).alloc (.cells zFO 36)) :=
 ⟨oo _ _ _ _,oq _ _ _ _,ot _ _ _ _,((O_ _ _).alloc (A_ _) _ |>.alloc (by simp) _).alloc (by simp;omega) _⟩
theorem Fo (d:DO) (s:List UInt8) (need n:Int) (w:World) (hk:cA w) (hs:s.length≤400000) :
  Calls prog 13 #[.agg (doA d),.agg (ag s),.int .i64 need,.int .i64 n] w fun e w'=>∃va vn vc,e = .returned (.agg (foA (mG d s need n).d (.slice va vn vc) (mG d s need n).r (mG d s need n).e))∧ap eH w' w.heap.size (.slice va vn vc) (mG d s need n).l∧Below w.heap.size w w':=by
 have hzf:=tU;have hzr:=tW;obtain⟨W0,hW0⟩:∃W0,W0=((w.alloc (.cells (doA d) 25)).alloc (.cells (ag s) 34)).alloc (.cells zFO 36):=⟨_,rfl⟩;have HW:=O hW0;have HF0:Hid (NwS w d s W0):=O (by rw[hW0];exact Tx w d s);have HV:=O (fun (u:World)=>rh d u);have HN1:=O (fun (u:World) (h:Below w.heap.size w u)=>tD s u (hk.on h) hs);have HN2:=O (fun (u:World) (h:Below w.heap.size w u)=>tD (nxS s) u (hk.on h) (by rw[im];decide));have HSP:=O (fun (u:World) (h:Below w.heap.size w u)=>Ty (nxV s) (nxV (nxS s)) need n u (hk.on h) (cL _) (cL _));have HRP:=O (vH d s need n);clear hk hs hW0
 rcases HRP.out with⟨hva,hr⟩|⟨hva,he,hr⟩|⟨hva,he,hr⟩
 ·rw[hr]
  rw[hva] at HV;clear hva hr HRP
  go_enter func13,ntmps13
  go_upto_region 1 with fail
  rw[←HW.out]
  try dsimp only[Act.put]
  go_wp2_with (first
   |(refine cz d rfl (.tmp 4) rfl w.heap.size rfl _ HF0.out.r0 ?_)
   |(go_at_call 16;refine(HV.out _).mono ?_;rintro e x1 ⟨rfl,hx1⟩;have HF3:=O (HF0.out.on hx1);have c17:x1.cell? ⟨w.heap.size,17,none⟩=some (.int .i64 d.ep):=(by rw[e_ _ _ _ _ _ _ HF3.out.r0];exact gI d);clear hx1)
   |(refine yG 1 rfl _ rfl rfl ?_)
   |(refine aM (T:=36) (foA zD ah [] 1) (fU _ _ _ _) rfl (.tmp 8) (.tmp 20) rfl (w.heap.size+2) zFO rfl rfl (ie _ _ _ _ _ _) (by rw[ed,fQ]) HF3.out.r2 ?_;intro w7 hge7 hoe7 hbe7;have HE7:Hid (w7.heap[w.heap.size+2]?=some (.cells (foA zD ah [] 1) 36 (0,0))∧Below w.heap.size w w7):=(O ⟨hge7,HF3.out.b.trans (hbe7 _ (by omega))⟩);clear hge7 hoe7 hbe7))
  refine g_ (bB rfl _ _ (w.heap.size+2) _ rfl (rT _ _ _ _ _ _ _ HE7.out.1)) rfl ?_;exact⟨_,_,_,rfl,ap.nil _ _,HE7.out.2⟩
 ·rw[hr]
  rw[hva] at HV
  have e1:(d.ep == 2147483647)=true:=by rw[beq_iff_eq];exact he
  clear hva hr HRP he
  go_enter func13,ntmps13
  go_upto_region 1 with fail
  rw[←HW.out]
  try dsimp only[Act.put]
  go_wp2_with (first
   |(refine cz d rfl (.tmp 4) rfl w.heap.size rfl _ HF0.out.r0 ?_)
   |(go_at_call 16;refine(HV.out _).mono ?_;rintro e x1 ⟨rfl,hx1⟩;have HF3:=O (HF0.out.on hx1);have c17:x1.cell? ⟨w.heap.size,17,none⟩=some (.int .i64 d.ep):=(by rw[e_ _ _ _ _ _ _ HF3.out.r0];exact gI d);clear hx1)
   |(refine yG 2 rfl _ rfl rfl ?_)
   |(refine aM (T:=36) (foA zD ah [] 2) (fU _ _ _ _) rfl (.tmp 8) (.tmp 24) rfl (w.heap.size+2) zFO rfl rfl (ie _ _ _ _ _ _) (by rw[ed,fQ]) HF3.out.r2 ?_;intro w7 hge7 hoe7 hbe7;have HE7:Hid (w7.heap[w.heap.size+2]?=some (.cells (foA zD ah [] 2) 36 (0,0))∧Below w.heap.size w w7):=(O ⟨hge7,HF3.out.b.trans (hbe7 _ (by omega))⟩);clear hge7 hoe7 hbe7))
  refine g_ (bB rfl _ _ (w.heap.size+2) _ rfl (rT _ _ _ _ _ _ _ HE7.out.1)) rfl ?_;exact⟨_,_,_,rfl,ap.nil _ _,HE7.out.2⟩
 ·rw[hr]
  rw[hva] at HV
  have e1:(d.ep == 2147483647)=false:=by rw[U_];exact he
  have hwr:IntKind.i64.wrap (d.ep+1)=d.ep+1:=by have := jG hva;rw[IntKind.wrap_i64];omega
  have HKEY:Hid ((nxV s).length=32):=O (cL s);obtain⟨s1,hs1⟩:∃s1,nxS s=s1:=⟨_,rfl⟩;obtain⟨s2,hs2⟩:∃s2,nxS s1=s2:=⟨_,rfl⟩;obtain⟨ke,hke⟩:∃ke,nxV s=ke:=⟨_,rfl⟩;obtain⟨sv,hsv⟩:∃sv,nxV s1=sv:=⟨_,rfl⟩;have HFP:Hid (fB d s need n 1=if kO need n then ⟨⟨d.id,ke,d.ep+1,d.bk⟩,dh (ofP 3 [ke,sv]) ke (ez sv (32*(need-1).toNat)) (need-1).toNat n.toNat,s2,0⟩ else zF 1):=O (by rw[←hke,←hsv,←hs2,←hs1];rfl);rw[hs1,hke] at HN1;rw[hs1,hs2,hsv] at HN2;rw[hke,hs1,hsv] at HSP;generalize dh (ofP 3 [ke,sv]) ke (ez sv (32*(need-1).toNat)) (need-1).toNat n.toNat=sl at HSP HFP;clear hva hr HRP he hs1 hs2 hke hsv HKEY;have tok1:True:=trivial
  cases hfd:kO need n with
  | false =>
    rw[hfd] at HSP HFP;simp only[Bool.false_eq_true,if_false] at HSP HFP;rw[HFP.out];clear hfd HFP
    go_enter func13,ntmps13
    go_upto_region 1 with fail
    rw[←HW.out]
    try dsimp only[Act.put]
    go_upto_region 7 with (first
     |(refine cz d rfl (.tmp 4) rfl w.heap.size rfl _ HF0.out.r0 ?_)
     |(go_at_call 16;refine(HV.out _).mono ?_;rintro e x1 ⟨rfl,hx1⟩;have HF3:=O (HF0.out.on hx1);have c17:x1.cell? ⟨w.heap.size,17,none⟩=some (.int .i64 d.ep):=(by rw[e_ _ _ _ _ _ _ HF3.out.r0];exact gI d);clear hx1)
     |(refine mA s rfl (.tmp 5) rfl (w.heap.size+1) rfl _ HF3.out.r1 ?_)
     |(go_at_call 36;refine(HN1.out _ HF3.out.b).mono ?_;rintro e y1 ⟨rfl,hy1⟩;have HF4:=O (HF3.out.on hy1);clear hy1)
     |(refine aH (ag s1) 34 rfl (.tmp 11) (.tmp 29) rfl _ rfl rfl rfl (ii _) (qP _ _) (aS _) ?_))
    try simp only[Act.put]
    have HA5:Hid (Below y1.heap.size y1 (y1.alloc (.cells (ag s1) 34))∧(y1.alloc (.cells (ag s1) 34)).heap[y1.heap.size]?=some (.cells (ag s1) 34 (0,0))):=O ⟨(O_ _ _).alloc (A_ _) _,heap_alloc_new _ _⟩;generalize y1.alloc (.cells (ag s1) 34)=W5 at HA5 ⊢;have HF5:=O (HF4.out.on HA5.out.1);have HG5:=O HA5.out.2;generalize y1.heap.size=g5 at HG5 ⊢;clear HA5 HF3 HF4 HF0 c17
    go_upto_region 8 with (first
     |(refine mA s1 rfl (.tmp 11) rfl g5 rfl _ HG5.out ?_)
     |(go_at_call 36;refine(HN2.out _ HF5.out.b).mono ?_;rintro e y2 ⟨rfl,hy2⟩;have HF6:=O (HF5.out.on hy2);clear hy2)
     |(refine aH (ag s2) 34 rfl (.tmp 13) (.tmp 34) rfl _ rfl rfl rfl (ii _) (qP _ _) (aS _) ?_))
    try simp only[Act.put]
    have HA7:Hid (Below y2.heap.size y2 (y2.alloc (.cells (ag s2) 34))∧(y2.alloc (.cells (ag s2) 34)).heap[y2.heap.size]?=some (.cells (ag s2) 34 (0,0))):=O ⟨(O_ _ _).alloc (A_ _) _,heap_alloc_new _ _⟩;generalize y2.alloc (.cells (ag s2) 34)=W7 at HA7 ⊢;have HF7:=O (HF6.out.on HA7.out.1);have HG7:=O HA7.out.2;have HGN:Hid (w.heap.size+2<y2.heap.size∧w.heap.size+2<W7.heap.size):=O ⟨(Q_.1 HF6.out.r2).1,(Q_.1 HF7.out.r2).1⟩;generalize y2.heap.size=g7 at HG7 HGN ⊢;clear HA7 HF5 HF6 HG5
    go_wp2_with (first
     |(go_at_call 39;refine(HSP.out _ HF7.out.b).mono ?_;rintro e y3 ⟨v3,rfl,ho3,hy3⟩;have HF8:=O (HF7.out.on hy3);clear hy3)
     |(refine yG 1 rfl (.tmp 45) rfl rfl ?_)
     |(refine aM (T:=36) (foA zD ah [] 1) (fU _ _ _ _) rfl (.tmp 8) (.tmp 46) rfl (w.heap.size+2) zFO rfl rfl (ie _ _ _ _ _ _) (by rw[ed,fQ]) HF8.out.r2 ?_;intro w7 hge7 hoe7 hbe7;have HE7:Hid (w7.heap[w.heap.size+2]?=some (.cells (foA zD ah [] 1) 36 (0,0))∧Below w.heap.size w w7):=(O ⟨hge7,HF8.out.b.trans (hbe7 _ (by omega))⟩);clear hge7 hoe7 hbe7))
    refine g_ (bB rfl _ _ (w.heap.size+2) _ rfl (rT _ _ _ _ _ _ _ HE7.out.1)) rfl ?_;exact⟨_,_,_,rfl,ap.nil _ _,HE7.out.2⟩
  | true =>
    rw[hfd] at HSP HFP;simp only[if_true] at HSP HFP;rw[HFP.out];clear hfd HFP
    go_enter func13,ntmps13
    go_upto_region 1 with fail
    rw[←HW.out]
    try dsimp only[Act.put]
    go_upto_region 7 with (first
     |(refine cz d rfl (.tmp 4) rfl w.heap.size rfl _ HF0.out.r0 ?_)
     |(go_at_call 16;refine(HV.out _).mono ?_;rintro e x1 ⟨rfl,hx1⟩;have HF3:=O (HF0.out.on hx1);have c17:x1.cell? ⟨w.heap.size,17,none⟩=some (.int .i64 d.ep):=(by rw[e_ _ _ _ _ _ _ HF3.out.r0];exact gI d);clear hx1)
     |(refine mA s rfl (.tmp 5) rfl (w.heap.size+1) rfl _ HF3.out.r1 ?_)
     |(go_at_call 36;refine(HN1.out _ HF3.out.b).mono ?_;rintro e y1 ⟨rfl,hy1⟩;have HF4:=O (HF3.out.on hy1);clear hy1)
     |(refine aH (ag s1) 34 rfl (.tmp 11) (.tmp 29) rfl _ rfl rfl rfl (ii _) (qP _ _) (aS _) ?_))
    try simp only[Act.put]
    have HA5:Hid (Below y1.heap.size y1 (y1.alloc (.cells (ag s1) 34))∧(y1.alloc (.cells (ag s1) 34)).heap[y1.heap.size]?=some (.cells (ag s1) 34 (0,0))):=O ⟨(O_ _ _).alloc (A_ _) _,heap_alloc_new _ _⟩;generalize y1.alloc (.cells (ag s1) 34)=W5 at HA5 ⊢;have HF5:=O (HF4.out.on HA5.out.1);have HG5:=O HA5.out.2;generalize y1.heap.size=g5 at HG5 ⊢;clear HA5 HF3 HF4 HF0 c17
    go_upto_region 8 with (first
     |(refine mA s1 rfl (.tmp 11) rfl g5 rfl _ HG5.out ?_)
     |(go_at_call 36;refine(HN2.out _ HF5.out.b).mono ?_;rintro e y2 ⟨rfl,hy2⟩;have HF6:=O (HF5.out.on hy2);clear hy2)
     |(refine aH (ag s2) 34 rfl (.tmp 13) (.tmp 34) rfl _ rfl rfl rfl (ii _) (qP _ _) (aS _) ?_))
    try simp only[Act.put]
    have HA7:Hid (Below y2.heap.size y2 (y2.alloc (.cells (ag s2) 34))∧(y2.alloc (.cells (ag s2) 34)).heap[y2.heap.size]?=some (.cells (ag s2) 34 (0,0))):=O ⟨(O_ _ _).alloc (A_ _) _,heap_alloc_new _ _⟩;generalize y2.alloc (.cells (ag s2) 34)=W7 at HA7 ⊢;have HF7:=O (HF6.out.on HA7.out.1);have HG7:=O HA7.out.2;have HGN:Hid (w.heap.size+2<y2.heap.size∧w.heap.size+2<W7.heap.size):=O ⟨(Q_.1 HF6.out.r2).1,(Q_.1 HF7.out.r2).1⟩;generalize y2.heap.size=g7 at HG7 HGN ⊢;clear HA7 HF5 HF6 HG5
    go_upto_region 11 with (first
     |(go_at_call 39;refine(HSP.out _ HF7.out.b).mono ?_;rintro e y3 ⟨v3,rfl,ho3,hy3⟩;have HF8:=O (HF7.out.on hy3);have HG8:=O (aa HG7.out hy3);obtain⟨va,vc,rfl,_,_,_⟩:=id ho3.rd;have HO8:=O ho3;clear hy3 ho3))
    have c16:y3.cell? ⟨w.heap.size,16,none⟩=some (.string ⟨d.key.toArray⟩):=by rw[e_ _ _ _ _ _ _ HF8.out.r0];exact cK d
    have f16:=frozen_of_row _ _ 16 _ _ HF8.out.r0;have HST:Hid (y3.setCell ⟨w.heap.size,16,none⟩ (.string ⟨ke.toArray⟩)=y3.setRow w.heap.size (doA { d with key:=ke })):=O (by rw[au _ _ _ _ _ _ _ HF8.out.r0,wY]);have HF9:Hid (NwS w { d with key:=ke } s (y3.setRow w.heap.size (doA { d with key:=ke }))):=O HF8.out.set0;have HG9:Hid ((y3.setRow w.heap.size (doA { d with key:=ke })).heap[g7]?=some (.cells (ag s2) 34 (0,0))):=O ((aj _ _ _ _ (by have := HGN.out;omega)).trans HG8.out);have HO9:=O (HO8.out.same (w':=y3.setRow w.heap.size (doA { d with key:=ke })) (fun k hk=>aj _ _ _ _ (by have := HGN.out;omega)))
    go_upto_region 12 with fail
    simp only[HST.out];generalize y3.setRow w.heap.size (doA { d with key:=ke })=W9 at HF9 HG9 HO9 ⊢;clear HST HF8 HG8 HO8 f16 c16 HG7 HF7
    have c17:W9.cell? ⟨w.heap.size,17,none⟩=some (.int .i64 d.ep):=by rw[e_ _ _ _ _ _ _ HF9.out.r0];exact gI _
    have f17:=frozen_of_row _ _ 17 _ _ HF9.out.r0;have HST:Hid (W9.setCell ⟨w.heap.size,17,none⟩ (.int .i64 (d.ep+1))=W9.setRow w.heap.size (doA ⟨d.id,ke,d.ep+1,d.bk⟩)):=O (by rw[au _ _ _ _ _ _ _ HF9.out.r0,wZ]);have HFA:Hid (NwS w ⟨d.id,ke,d.ep+1,d.bk⟩ s (W9.setRow w.heap.size (doA ⟨d.id,ke,d.ep+1,d.bk⟩))):=O HF9.out.set0;have HGA:Hid ((W9.setRow w.heap.size (doA ⟨d.id,ke,d.ep+1,d.bk⟩)).heap[g7]?=some (.cells (ag s2) 34 (0,0))):=O ((aj _ _ _ _ (by have := HGN.out;omega)).trans HG9.out);have HOA:=O (HO9.out.same (w':=W9.setRow w.heap.size (doA ⟨d.id,ke,d.ep+1,d.bk⟩)) (fun k hk=>aj _ _ _ _ (by have := HGN.out;omega)))
    go_upto_region 13 with fail
    simp only[HST.out];generalize W9.setRow w.heap.size (doA ⟨d.id,ke,d.ep+1,d.bk⟩)=WA at HFA HGA HOA ⊢;clear HST HF9 HG9 HO9 f17 c17
    go_wp2_with (first
     |(refine cz ⟨d.id,ke,d.ep+1,d.bk⟩ rfl (.tmp 4) rfl w.heap.size rfl _ HFA.out.r0 ?_)
     |(refine mA s2 rfl (.tmp 13) rfl g7 rfl _ HGA.out ?_)
     |(refine RK ⟨d.id,ke,d.ep+1,d.bk⟩ va sl.length vc s2 rfl (.tmp 53) (.tmp 54) (.tmp 55) rfl rfl rfl rfl ?_)
     |(refine aM (T:=36) (foA ⟨d.id,ke,d.ep+1,d.bk⟩ (.slice va sl.length vc) s2 0) (fU _ _ _ _) rfl (.tmp 8) (.tmp 56) rfl (w.heap.size+2) zFO rfl rfl (ie _ _ _ _ _ _) (by rw[ed,fQ]) HFA.out.r2 ?_;intro w7 hge7 hoe7 hbe7;have HE7:Hid (w7.heap[w.heap.size+2]?=some (.cells (foA ⟨d.id,ke,d.ep+1,d.bk⟩ (.slice va sl.length vc) s2 0) 36 (0,0))∧Below w.heap.size w w7∧ap eH w7 w.heap.size (.slice va sl.length vc) sl):=(O ⟨hge7,HFA.out.b.trans (hbe7 _ (by omega)),(HOA.out.same (fun k hk=>hoe7 k (by have := HGN.out;omega))).mono (by have := HGN.out;omega)⟩);clear hge7 hoe7 hbe7))
    refine g_ (bB rfl _ _ (w.heap.size+2) _ rfl (rT _ _ _ _ _ _ _ HE7.out.1)) rfl ?_;exact⟨_,_,_,rfl,HE7.out.2.2,HE7.out.2.1⟩
end
end Go.Proofs.YtmfiaadjdbemnaaGreatDoor
