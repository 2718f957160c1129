/- Contracts and lemmas. No condition. -/
import Derived.Test.YtmfiaadjdbemnaaGreatDoorLSp04
set_option maxRecDepth 100000
set_option maxHeartbeats 60000000
set_option linter.unusedSimpArgs false
set_option linter.unusedVariables false
namespace Go.Proofs.YtmfiaadjdbemnaaGreatDoor
open Go.Proofs.Tryz
section
variable {ops:Array Oper} {rest:List Oper} {o:Oper} {a:Act} {w:World} {Q:Exit→Act→World→Prop}
section
open Go.RowKit Go.Shelf
theorem Ot:(prog.info? 86).map (·.size)=some 9:=by kernel_rfl
theorem Oa (km:K):Instr.fill (fun i=>some (i*9,9)) ((Array.range (1*9)).map ((Value.agg (kc zK)).cells[· % (Value.agg (kc zK)).cells.size]!)) [(0,Value.agg (kc km))]=some (kc km):=by kernel_rfl
theorem CG (km:K) (hg:o.guard=none) (x:Operand) (ho:o.op = .buildSlice 43 1 #[(0,x)]) (hx:a.eval x = .agg (kc km))
  (h:wpList prog ops Q rest (a.put o.dst (.slice (some ⟨w.heap.size,0,none⟩) 1 1)) (w.alloc (.cells (kc km) 86))):wpList prog ops Q (o::rest) a w:=by
 have hz:=yu;have hs:=Ot
 cases hi:prog.info? 86 with
 | none=>rw[hi] at hs;cases hs
 | some i =>
   rw[hi] at hs hz;simp only[Option.map_some,Option.some.injEq] at hs hz;refine wpList_buildSlice hg _ 86 1 _ ho (kc km) i (.agg (kc zK)) underlying43 hi hz (by rw[hs];decide) (by rw[hs];decide) ?_ h
   have hp:((#[(0,x)]:Array (Nat × Operand)).map fun (i,x)=>(i,a.eval x)).toList=[(0,Value.agg (kc km))]:=by simp[hx]
   rw[hp,hs];exact Oa km
attribute [local irreducible] Calls am aI mac aV aJ kc
end
section
open Go.RowKit Go.Shelf
def bkA (d:DO) (x:List UInt8) (e:Int):Array Value:=(dmc d++[Value.string ⟨x.toArray⟩,Value.int .i64 e]).toArray
theorem ut (d:DO) (x:List UInt8) (e:Int):(bkA d x e).size=21:=by
 rw[bkA,List.size_toArray,E_,nJ]
 rfl
theorem nF (d:DO) (x:List UInt8) (e:Int):((bkA d x e).all fun u=>u.oneCell')=true:=by
 rw[Array.all_eq_true_iff_forall_mem];intro u hu;unfold bkA at hu;rw[List.mem_toArray,List.mem_append] at hu
 rcases hu with h|h
 ·exact tp d u h
 ·simp at h
  rcases h with rfl|rfl <;> rfl
def zBA:Array Value:=bkA zD [] 0
theorem M0:(prog.info? 53).map (·.zero)=some (some (.agg zBA)):=by kernel_rfl
theorem J8:(prog.info? 53).map (·.size)=some 21:=by kernel_rfl
theorem lP (d:DO) (x:List UInt8) (e:Int):(prog.info? 53).map (·.size)=some (bkA d x e).size:=by rw[ut];exact J8
theorem RF (d d':DO) (x x':List UInt8) (e e':Int):(bkA d x e).size=(bkA d' x' e').size:=by rw[ut,ut]
theorem sw (d:DO) (x:List UInt8) (e:Int):zBA.size=(bkA d x e).size:=RF _ _ _ _ _ _
theorem Ai (w:World):(zeroValue 53).run prog w = .ok (.agg zBA) w:=by
 have h:=M0;generalize zBA=L at h ⊢
 cases hq:prog.info? 53 with
 | none=>rw[hq] at h;cases h
 | some i =>
   rw[hq] at h
   simp at h
   simp[zeroValue,typeInfo,hq,h]
theorem FV (e:Int):prog.built 53 [(2,.int .i64 e)]=some (bkA zD [] e):=by kernel_rfl
theorem IW (d:DO) (x:List UInt8):prog.built 53 [(0,.agg (doA d)),(1,.string ⟨x.toArray⟩)]=some (bkA d x 0):=by kernel_rfl
theorem zA (w:World) (g:Nat) (d:DO) (x:List UInt8) (e:Int) (T:TypeId) (hg:w.heap[g]?=some (.cells (bkA d x e) T (0,0))):(loadVar 53 ⟨g,0,none⟩).run prog w = .ok (.agg (bkA d x e)) w :=
 run_loadVar_row w g T 53 _ (0,0) _ hg underlying53 rfl (lP _ _ _)
theorem yE (e:Int) (hgd:Region.wanted o (yielded ops a.tmps)=true) (x:Operand) (ho:o.op = .build 53 #[(2,x)]) (hx:a.eval x = .int .i64 e)
  (h:wpList prog ops Q rest (a.put o.dst (.agg (bkA zD [] e))) w):wpList prog ops Q (o::rest) a w :=
 wpList_step fun K hK=>by
  rw[G_ hgd];have hr:=run_build (P:=prog) w 53 #[(2,.int .i64 e)] _ (FV e);unfold Oper.wp execOp;simp only[ho,List.map_toArray,List.map_cons,List.map_nil,hx,hr,Sem.run_bind,Sem.run_pure,Result.andThen_ok];exact hK _ _ h
theorem RI (d:DO) (s:List UInt8) (hgd:Region.wanted o (yielded ops a.tmps)=true) (x y:Operand) (ho:o.op = .build 53 #[(0,x),(1,y)]) (hx:a.eval x = .agg (doA d)) (hy:a.eval y = .string ⟨s.toArray⟩)
  (h:wpList prog ops Q rest (a.put o.dst (.agg (bkA d s 0))) w):wpList prog ops Q (o::rest) a w :=
 wpList_step fun K hK=>by
  rw[G_ hgd];have hr:=run_build (P:=prog) w 53 #[(0,.agg (doA d)),(1,.string ⟨s.toArray⟩)] _ (IW d s);unfold Oper.wp execOp;simp only[ho,List.map_toArray,List.map_cons,List.map_nil,hx,hy,hr,Sem.run_bind,Sem.run_pure,Result.andThen_ok];exact hK _ _ h
structure BR (w:World) (d:DO) (nx:Int) (v:Value) (b:BK) (u:Value) (y:World):Prop where
 r0:y.heap[w.heap.size]?=some (.cells (doA d) 25 (0,0))
 r1:y.heap[w.heap.size+1]?=some (.cells #[.int .i64 nx,v] 45 (0,0))
 r2:y.heap[w.heap.size+2]?=some (.cells (bc b u) 47 (0,0))
 r3:y.heap[w.heap.size+3]?=some (.cells zBA 53 (0,0))
 b:Below w.heap.size w y
theorem BR.on {w y y':World} {d:DO} {nx:Int} {v u:Value} {b:BK} (h:BR w d nx v b u y) (hb:Below y.heap.size y y'):BR w d nx v b u y' :=
 ⟨aa h.r0 hb,aa h.r1 hb,aa h.r2 hb,aa h.r3 hb,h.b.trans (hb.mono h.b.size)⟩
theorem BR.set0 {w y:World} {d d':DO} {nx:Int} {v u:Value} {b:BK} (h:BR w d nx v b u y):BR w d' nx v b u (y.setRow w.heap.size (doA d')) :=
 ⟨setRow_heap _ _ _ _ _ _ h.r0,(aj _ _ _ _ (by omega)).trans h.r1,(aj _ _ _ _ (by omega)).trans h.r2,(aj _ _ _ _ (by omega)).trans h.r3,h.b.trans (aK (A_ _))⟩
theorem BR.set2 {w y:World} {d:DO} {nx:Int} {v u u':Value} {b b':BK} (h:BR w d nx v b u y):BR w d nx v b' u' (y.setRow (w.heap.size+2) (bc b' u')) :=
 ⟨(aj _ _ _ _ (by omega)).trans h.r0,(aj _ _ _ _ (by omega)).trans h.r1,setRow_heap _ _ _ _ _ _ h.r2,(aj _ _ _ _ (by omega)).trans h.r3,h.b.trans (aK (by omega))⟩
theorem RM (w:World) (d:DO) (nx:Int) (v:Value) (b:BK) (u:Value):BR w d nx v b u ((((w.alloc (.cells (doA d) 25)).alloc (.cells #[.int .i64 nx,v] 45)).alloc (.cells (bc b u) 47)).alloc (.cells zBA 53)) :=
 ⟨oZ _ _ _ _ _,o9 _ _ _ _ _,pf _ _ _ _ _,pg _ _ _ _ _,ph _ _ _ _ _⟩
theorem BR.id {w y:World} {d:DO} {nx:Int} {v u:Value} {b:BK} (h:BR w d nx v b u y):y.rangeAt w.heap.size 0 (am d.id).toList:=fun i x hx=>by
 rw[e_ _ _ _ _ _ _ h.r0,a_];exact uL d i x hx
attribute [local irreducible] Calls doA lg jm bkA zBA
theorem Cx (d:DO) (b:BK) (nx:Int) (v:Value) (ua:Option Addr) (un uc:Nat) (l:List K) (w:World) (hk:cA w) (hv:RdK w v l) (hd:d.mach) (hb:b.mach) (hn:cQ l) (hl:l.length≤100) :
  Calls prog 20 #[.agg (doA d),.agg #[.int .i64 nx,v],.agg (bc b (.slice ua un uc))] w fun e w'=>e = .returned (.agg (bkA (dbD d b l) (dbX d b l) (dbE d b l)))∧Below w.heap.size w w':=by
 have hzd:=Ai;obtain⟨W0,hW0⟩:∃W0,W0=(((w.alloc (.cells (doA d) 25)).alloc (.cells #[.int .i64 nx,v] 45)).alloc (.cells (bc b (.slice ua un uc)) 47)).alloc (.cells zBA 53):=⟨_,rfl⟩;have HW:=O hW0;have HF0:Hid (BR w d nx v b (.slice ua un uc) W0):=O (by rw[hW0];exact RM w d nx v b _);have HV:=O (fun (u:World)=>rh d u);clear hW0
 rcases wV d b l with⟨hva,hr⟩|⟨hva,he,hr⟩|⟨hva,he,hr⟩
 ·have hD:dbD d b l=zD:=by unfold dbD;rw[hr];rfl
  have hX:dbX d b l=[]:=by unfold dbX;rw[hr];rfl
  rw[hr,hD,hX];rw[hva] at HV;clear hk hd hb hn hva hr hD hX;obtain⟨va,vc,rfl,_,_,_⟩:=hv
  go_enter func20,ntmps20
  go_upto_region 1 with fail
  rw[←HW.out]
  try dsimp only[Act.put]
  go_wp2_with (first
   |(refine cz d rfl (.tmp 3) rfl w.heap.size rfl _ HF0.out.r0 ?_)
   |(go_at_call 16;refine(HV.out _).mono ?_;rintro e x1 ⟨rfl,hx1⟩;have HF3:=O (HF0.out.on hx1);clear hx1)
   |(refine yE 1 rfl _ rfl rfl ?_)
   |(refine aM (T:=53) (bkA zD [] 1) (lP _ _ _) rfl (.tmp 6) (.tmp 14) rfl (w.heap.size+3) zBA rfl rfl (nF _ _ _) (sw _ _ _) HF3.out.r3 ?_;intro w7 hge7 hoe7 hbe7;have HE7:Hid (w7.heap[w.heap.size+3]?=some (.cells (bkA zD [] 1) 53 (0,0))∧Below w.heap.size w w7):=(O ⟨hge7,HF3.out.b.trans (hbe7 _ (by omega))⟩);clear hge7 hoe7 hbe7))
  refine g_ (bB rfl _ _ (w.heap.size+3) _ rfl (zA _ _ _ _ _ _ HE7.out.1)) rfl ?_;exact⟨rfl,HE7.out.2⟩
 ·have hD:dbD d b l=zD:=by unfold dbD;rw[hr];rfl
  have hX:dbX d b l=[]:=by unfold dbX;rw[hr];rfl
  rw[hr,hD,hX];rw[hva] at HV
  have e1:(d.bk == 2147483647)=true:=by rw[beq_iff_eq];exact he
  clear hk hd hb hn hva hr hD hX he;obtain⟨va,vc,rfl,_,_,_⟩:=hv
  go_enter func20,ntmps20
  go_upto_region 1 with fail
  rw[←HW.out]
  try dsimp only[Act.put]
  go_wp2_with (first
   |(refine cz d rfl (.tmp 3) rfl w.heap.size rfl _ HF0.out.r0 ?_)
   |(go_at_call 16;refine(HV.out _).mono ?_;rintro e x1 ⟨rfl,hx1⟩;have HF3:=O (HF0.out.on hx1);have c18:x1.cell? ⟨w.heap.size,18,none⟩=some (.int .i64 d.bk):=(by rw[e_ _ _ _ _ _ _ HF3.out.r0];exact jL d);clear hx1)
   |(refine yE 2 rfl _ rfl rfl ?_)
   |(refine aM (T:=53) (bkA zD [] 2) (lP _ _ _) rfl (.tmp 6) (.tmp 18) rfl (w.heap.size+3) zBA rfl rfl (nF _ _ _) (sw _ _ _) HF3.out.r3 ?_;intro w7 hge7 hoe7 hbe7;have HE7:Hid (w7.heap[w.heap.size+3]?=some (.cells (bkA zD [] 2) 53 (0,0))∧Below w.heap.size w w7):=(O ⟨hge7,HF3.out.b.trans (hbe7 _ (by omega))⟩);clear hge7 hoe7 hbe7))
  refine g_ (bB rfl _ _ (w.heap.size+3) _ rfl (zA _ _ _ _ _ _ HE7.out.1)) rfl ?_;exact⟨rfl,HE7.out.2⟩
 ·rw[hva] at HV
  have e1:(d.bk == 2147483647)=false:=by rw[U_];exact he
  have hwr:IntKind.i64.wrap (d.bk+1)=d.bk+1:=by have := jG hva;rw[IntKind.wrap_i64];omega
  have HMK:Hid (∀(y:World),Below w.heap.size w y→Calls prog 42 #[.string ⟨d.key.toArray⟩,.agg (bc (cG d b) v)] y fun e w'=>e = .returned (.tuple #[.string ⟨(lg d.key (cG d b) l).toArray⟩,.int .i64 (jm d.key (cG d b) l)])∧Below y.heap.size y w'):=O (fun y hy=>SK d.key (cG d b) v l y (hk.on hy) (hv.on hy) (nG hd hb hva he) hn hl);have HB3:Hid ({ b with dom:=d.id,ep:=d.ep,num:=d.bk+1 }=cG d b):=O rfl;have HDB:Hid (dbD d b l=if jm d.key (cG d b) l=0 then { d with bk:=d.bk+1 } else zD):=O (by unfold dbD;rw[hr])
  have HDX:Hid (dbX d b l=lg d.key (cG d b) l):=O (by
   unfold dbX;rw[hr]
   rcases kx d.key (cG d b) l with⟨_,h2,h3⟩|⟨_,h2,h3⟩
   ·rw[G_ h2,h3]
   ·rw[H_ (by rw[h2];decide),h3])
  have HDE:=O hr;have HDN:Hid (dbE d b l≠0→dbX d b l=[]):=O (fun h=>by unfold dbX;rw[H_ h]);obtain⟨va,vc,rfl,_,_,_⟩:=hv;clear hk hd hb hn hva hr he
  go_enter func20,ntmps20
  go_upto_region 1 with fail
  rw[←HW.out]
  try dsimp only[Act.put]
  go_upto_region 6 with (first
   |(refine cz d rfl (.tmp 3) rfl w.heap.size rfl _ HF0.out.r0 ?_)
   |(go_at_call 16;refine(HV.out _).mono ?_;rintro e x1 ⟨rfl,hx1⟩;have HF3:=O (HF0.out.on hx1);have c18:x1.cell? ⟨w.heap.size,18,none⟩=some (.int .i64 d.bk):=(by rw[e_ _ _ _ _ _ _ HF3.out.r0];exact jL d);clear hx1 HF0))
  have f18:=frozen_of_row _ _ 18 _ _ HF3.out.r0;have HST:Hid (x1.setCell ⟨w.heap.size,18,none⟩ (.int .i64 (d.bk+1))=x1.setRow w.heap.size (doA { d with bk:=d.bk+1 })):=O (by rw[au _ _ _ _ _ _ _ HF3.out.r0,xd]);have HF4:Hid (BR w { d with bk:=d.bk+1 } nx (.slice va l.length vc) b (.slice ua un uc) (x1.setRow w.heap.size (doA { d with bk:=d.bk+1 }))):=O HF3.out.set0
  go_upto_region 7 with fail
  simp only[HST.out];generalize x1.setRow w.heap.size (doA { d with bk:=d.bk+1 })=W4 at HF4 ⊢;clear HF3 HST c18 f18
  go_upto_region 8 with (first
   |(refine jt d.id w.heap.size 0 (.tmp 23) rfl HF4.out.id rfl rfl ?_)
   |(refine DF b (.slice ua un uc) d.id (w.heap.size+2) HF4.out.r2 rfl (.tmp 25) (.tmp 24) rfl rfl rfl ?_))
  try simp only[Act.put]
  have HS1:Hid (BR w { d with bk:=d.bk+1 } nx (.slice va l.length vc) { b with dom:=d.id } (.slice ua un uc) (W4.setRow (w.heap.size+2) (bc { b with dom:=d.id } (.slice ua un uc)))):=O HF4.out.set2;generalize W4.setRow (w.heap.size+2) (bc { b with dom:=d.id } (.slice ua un uc))=w1 at HS1 ⊢;clear HF4
  have c17:w1.cell? ⟨w.heap.size,17,none⟩=some (.int .i64 d.ep):=by rw[e_ _ _ _ _ _ _ HS1.out.r0];exact gI _
  go_upto_region 9 with (refine bW rfl 3 (.tmp 28) (.tmp 27) rfl ⟨w.heap.size+2,16,none⟩ (.int .i64 d.ep) rfl rfl (l8 _ _ 16 { b with dom:=d.id } { b with dom:=d.id,ep:=d.ep } (.slice ua un uc) d.ep _ HS1.out.r2 (by decide) (uq _ _ _)) ?_)
  try simp only[Act.put]
  have HS2:Hid (BR w { d with bk:=d.bk+1 } nx (.slice va l.length vc) { b with dom:=d.id,ep:=d.ep } (.slice ua un uc) (w1.setRow (w.heap.size+2) (bc { b with dom:=d.id,ep:=d.ep } (.slice ua un uc)))):=O HS1.out.set2;clear c17;generalize w1.setRow (w.heap.size+2) (bc { b with dom:=d.id,ep:=d.ep } (.slice ua un uc))=w2 at HS2 ⊢;clear HS1
  have c18:w2.cell? ⟨w.heap.size,18,none⟩=some (.int .i64 (d.bk+1)):=by rw[e_ _ _ _ _ _ _ HS2.out.r0];exact jL _
  go_upto_region 10 with (refine bW rfl 3 (.tmp 31) (.tmp 30) rfl ⟨w.heap.size+2,17,none⟩ (.int .i64 (d.bk+1)) rfl rfl (l8 _ _ 17 { b with dom:=d.id,ep:=d.ep } { b with dom:=d.id,ep:=d.ep,num:=d.bk+1 } (.slice ua un uc) (d.bk+1) _ HS2.out.r2 (by decide) (ur _ _ _)) ?_)
  try simp only[Act.put]
  have HS3:Hid (BR w { d with bk:=d.bk+1 } nx (.slice va l.length vc) { b with dom:=d.id,ep:=d.ep,num:=d.bk+1 } (.slice ua un uc) (w2.setRow (w.heap.size+2) (bc { b with dom:=d.id,ep:=d.ep,num:=d.bk+1 } (.slice ua un uc)))):=O HS2.out.set2;clear c18;generalize w2.setRow (w.heap.size+2) (bc { b with dom:=d.id,ep:=d.ep,num:=d.bk+1 } (.slice ua un uc))=w3 at HS3 ⊢;clear HS2
  have c1:w3.cell? ⟨w.heap.size+1,1,none⟩=some (.slice va l.length vc):=by rw[e_ _ _ _ _ _ _ HS3.out.r1];rfl
  go_upto_region 11 with (refine bW rfl 43 (.tmp 34) (.tmp 33) rfl ⟨w.heap.size+2,37,none⟩ (.slice va l.length vc) rfl rfl (sV _ _ _ _ va l.length vc _ HS3.out.r2) ?_)
  try simp only[Act.put]
  have HS4:Hid (BR w { d with bk:=d.bk+1 } nx (.slice va l.length vc) (cG d b) (.slice va l.length vc) (w3.setRow (w.heap.size+2) (bc { b with dom:=d.id,ep:=d.ep,num:=d.bk+1 } (.slice va l.length vc)))):=O (by rw[HB3.out];exact HS3.out.set2);clear c1;generalize w3.setRow (w.heap.size+2) (bc { b with dom:=d.id,ep:=d.ep,num:=d.bk+1 } (.slice va l.length vc))=w4 at HS4 ⊢;clear HS3;generalize cG d b=b4 at HS4 HMK HDB HDX HDE ⊢;generalize lg d.key b4 l=mx at HMK HDX ⊢;generalize jm d.key b4 l=me at HMK HDB HDE ⊢
  have c16:w4.cell? ⟨w.heap.size,16,none⟩=some (.string ⟨d.key.toArray⟩):=by rw[e_ _ _ _ _ _ _ HS4.out.r0];exact cK _
  by_cases h0:me=0
  ·have HD:Hid (dbD d b l={ d with bk:=d.bk+1 }):=O (by rw[HDB.out,G_ h0])
   subst h0
   go_wp2_with (first
    |(refine cH b4 (.slice va l.length vc) rfl (.tmp 5) rfl (w.heap.size+2) rfl _ HS4.out.r2 ?_)
    |(go_at_call 42;refine(HMK.out _ HS4.out.b).mono ?_;rintro e x5 ⟨rfl,hx5⟩;have HS5:=O (HS4.out.on hx5);clear hx5 c16)
    |(refine cz { d with bk:=d.bk+1 } rfl (.tmp 3) rfl w.heap.size rfl _ HS5.out.r0 ?_)
    |(refine RI { d with bk:=d.bk+1 } mx rfl _ _ rfl rfl rfl ?_)
    |(refine aM (T:=53) (bkA { d with bk:=d.bk+1 } mx 0) (lP _ _ _) rfl (.tmp 6) (.tmp 48) rfl (w.heap.size+3) zBA rfl rfl (nF _ _ _) (sw _ _ _) HS5.out.r3 ?_;intro w7 hge7 hoe7 hbe7;have HE7:Hid (w7.heap[w.heap.size+3]?=some (.cells (bkA { d with bk:=d.bk+1 } mx 0) 53 (0,0))∧Below w.heap.size w w7):=(O ⟨hge7,HS5.out.b.trans (hbe7 _ (by omega))⟩);clear hge7 hoe7 hbe7))
   refine g_ (bB rfl _ _ (w.heap.size+3) _ rfl (zA _ _ _ _ _ _ HE7.out.1)) rfl ?_;exact⟨by rw[HD.out,HDX.out,HDE.out],HE7.out.2⟩
  ·have h1:(me == 0)=false:=by rw[U_];exact h0
   have HD:Hid (dbD d b l=zD):=O (by rw[HDB.out,H_ h0]);have HX2:Hid (dbX d b l=[]):=O (HDN.out (by rw[HDE.out];exact h0));clear h0
   go_wp2_with (first
    |(refine cH b4 (.slice va l.length vc) rfl (.tmp 5) rfl (w.heap.size+2) rfl _ HS4.out.r2 ?_)
    |(go_at_call 42;refine(HMK.out _ HS4.out.b).mono ?_;rintro e x5 ⟨rfl,hx5⟩;have HS5:=O (HS4.out.on hx5);clear hx5 c16)
    |(refine yE me rfl _ rfl rfl ?_)
    |(refine aM (T:=53) (bkA zD [] me) (lP _ _ _) rfl (.tmp 6) (.tmp 45) rfl (w.heap.size+3) zBA rfl rfl (nF _ _ _) (sw _ _ _) HS5.out.r3 ?_;intro w7 hge7 hoe7 hbe7;have HE7:Hid (w7.heap[w.heap.size+3]?=some (.cells (bkA zD [] me) 53 (0,0))∧Below w.heap.size w w7):=(O ⟨hge7,HS5.out.b.trans (hbe7 _ (by omega))⟩);clear hge7 hoe7 hbe7))
   refine g_ (bB rfl _ _ (w.heap.size+3) _ rfl (zA _ _ _ _ _ _ HE7.out.1)) rfl ?_;exact⟨by rw[HD.out,HX2.out,HDE.out],HE7.out.2⟩
end
section
open Go.RowKit Go.Shelf
theorem ou {w:World} {g:Nat} {cs:Array Value} {T:TypeId} {n:Int} {v:Value} (h:w.heap[g]?=some (.cells cs T (0,0))) (h0:cs[0]?=some (.int .i64 n)) (h1:cs[1]?=some v):w.rangeAt g 0 (tbA n v).toList:=fun i u hu=>by
 rw[e_ _ _ _ _ _ _ h,a_];have hi:i<2:=(d_.1 hu).1
 rcases (by omega:i=0∨i=1) with rfl|rfl
 ·rw[h0];exact hu
 ·rw[h1];exact hu
open Go.RowKit
theorem Qy (d:DO) (x:List UInt8) (e:Int):(bkA d x e)[19]?=some (.string ⟨x.toArray⟩):=by kernel_rfl
theorem Qz (d:DO) (x:List UInt8) (e:Int):(bkA d x e)[20]?=some (.int .i64 e):=by kernel_rfl
theorem BQ {w:World} {g:Nat} {d:DO} {x:List UInt8} {e:Int} {T:TypeId} (h:w.heap[g]?=some (.cells (bkA d x e) T (0,0))):w.rangeAt g 0 (doA d).toList:=fun i u hu=>by
 rw[e_ _ _ _ _ _ _ h,a_]
 have hi:i<(dmc d).length:=by
  have := (d_.1 hu).1
  simpa [doA] using this
 unfold bkA;rw[List.getElem?_toArray,List.getElem?_append_left hi]
 simpa [doA] using hu
theorem Ec (d:DO) (b:BK) (nx:Int) (v:Value) (ua:Option Addr) (un uc:Nat) (l:List K) (w:World) (hk:cA w) (hv:RdK w v l) (hd:d.mach) (hb:b.mach) (hn:cQ l) (hl:l.length≤100) :
  Calls prog 20 #[.agg (doA d),.agg (tbA nx v),.agg (bc b (.slice ua un uc))] w fun e w'=>e = .returned (.agg (bkA (dbD d b l) (dbX d b l) (dbE d b l)))∧Below w.heap.size w w':=Cx d b nx v ua un uc l w hk hv hd hb hn hl
open Go.RowKit
theorem vB {w:World} {g:Nat} {C:Array Value} {T:TypeId} {off:Nat} {l:List Value} (h:w.heap[g]?=some (.cells C T (0,0))) (hp:∀(i:Nat) (x:Value),l[i]?=some x→C[off+i]?=some x):w.rangeAt g off l:=fun i x hx=>by
 rw[e_ _ _ _ _ _ _ h];exact hp i x hx
open Go.RowKit
def eK:El K:=⟨86,43,9,fun k=>(kc k).toList⟩
theorem AN:eK.OK:=⟨underlying43,by kernel_rfl,fun x=>rfl,fun x u hu=>by
 have h:=jR x;rw[Array.all_eq_true_iff_forall_mem] at h;have hu2:u∈(kc x).toList:=hu
 exact h u (by simpa using hu2),by decide⟩
theorem Lg {w:World} {v:Value} {l:List K} (h:RdE eK w v l):RdK w v l:=by
 obtain⟨a,cap,rfl,h1,h2,h3⟩:=h;refine⟨a,cap,rfl,h1,h2,fun h0 => ?_⟩;obtain⟨b,off,rfl,hb,hc⟩:=h3 h0;refine⟨b,off,rfl,hb,fun j hj i hi => ?_⟩;have hl:(eK.cf (ae l j)).length=9:=rfl;have e:=El.flat_at AN l j i hj hi
 have e2:(eK.cf l[j])[i]? = (kc (ae l j))[i]? := by rw[az l j hj];show (kc l[j]).toList[i]? = _;simp
 have h9:i<(kc (ae l j)).size:=hi;rw[e2,Array.getElem?_eq_getElem h9] at e;have := hc (j*9+i) _ e;rw[Array.getElem?_eq_getElem h9,←this]
 congr 2
 omega
theorem Fi {w:World} {k:K} {T:TypeId} {g:Nat} (h:w.heap[g]?=some (.cells (kc k) T (0,0))):RdE eK w (.slice (some ⟨g,0,none⟩) 1 1) [k]:=by
 refine⟨_,1,rfl,A_ _,by unfold maxLen;decide,fun _=>⟨g,0,rfl,(Q_.1 h).1,fun j u hj => ?_⟩⟩;rw[e_ _ _ _ _ _ _ h,a_]
 have : (eK.flat [k])=(kc k).toList:=by simp[El.flat,eK]
 rw[this] at hj
 simpa using hj
theorem Tn (nx:Int) (vt:Value) (d:DO) (vs:Value) (x:List UInt8) (vg:Value):(ptA nx vt d vs x vg)[0]?=some (.int .i64 nx):=rfl
open Go.RowKit Go.Shelf
def prA (nx:Int) (vt:Value) (d:DO) (vs:Value) (x:List UInt8) (vg:Value) (r:List UInt8) (e:Int):Array Value:=((ptA nx vt d vs x vg).toList++[Value.string ⟨r.toArray⟩,Value.int .i64 e]).toArray
theorem vA (nx:Int) (vt:Value) (d:DO) (vs:Value) (x:List UInt8) (vg:Value) (r:List UInt8) (e:Int):(prA nx vt d vs x vg r e).size=26:=by
 rw[prA,List.size_toArray,E_,Array.length_toList,fL]
 rfl
theorem nR (nx:Int) (d:DO) (x r:List UInt8) (e:Int) (a1 a2 a3:Option Addr) (n1 n2 n3 c1 c2 c3:Nat):((prA nx (.slice a1 n1 c1) d (.slice a2 n2 c2) x (.slice a3 n3 c3) r e).all fun u=>u.oneCell')=true:=by
 have h:=nS nx d x a1 a2 a3 n1 n2 n3 c1 c2 c3;rw[Array.all_eq_true_iff_forall_mem] at h ⊢;intro u hu;unfold prA at hu;rw[List.mem_toArray,List.mem_append] at hu
 rcases hu with hu|hu
 ·exact h u (Array.mem_toList_iff.1 hu)
 ·simp at hu
  rcases hu with rfl|rfl <;> rfl
def zPR:Array Value:=prA 0 ah zD ah [] ah [] 0
theorem rP (nx:Int) (vt:Value) (d:DO) (vs:Value) (x:List UInt8) (vg:Value) (r:List UInt8) (e:Int):zPR.size=(prA nx vt d vs x vg r e).size:=by rw[vA];exact vA _ _ _ _ _ _ _ _
theorem M6:(prog.info? 67).map (·.zero)=some (some (.agg zPR)):=by kernel_rfl
theorem Kb:(prog.info? 67).map (·.size)=some 26:=by kernel_rfl
theorem lQ (nx:Int) (vt:Value) (d:DO) (vs:Value) (x:List UInt8) (vg:Value) (r:List UInt8) (e:Int):(prog.info? 67).map (·.size)=some (prA nx vt d vs x vg r e).size:=by rw[vA];exact Kb
theorem Qr (w:World):(zeroValue 67).run prog w = .ok (.agg zPR) w:=by
 have h:=M6;generalize zPR=L at h ⊢
 cases hq:prog.info? 67 with
 | none=>rw[hq] at h;cases h
 | some i =>
   rw[hq] at h
   simp at h
   simp[zeroValue,typeInfo,hq,h]
theorem rV (w:World) (g:Nat) (nx:Int) (vt:Value) (d:DO) (vs:Value) (x:List UInt8) (vg:Value) (r:List UInt8) (e:Int) (T:TypeId) (hg:w.heap[g]?=some (.cells (prA nx vt d vs x vg r e) T (0,0))):(loadVar 67 ⟨g,0,none⟩).run prog w = .ok (.agg (prA nx vt d vs x vg r e)) w :=
 run_loadVar_row w g T 67 _ (0,0) _ hg underlying67 rfl (lQ _ _ _ _ _ _ _ _)
theorem F8 (e:Int):prog.built 67 [(2,.int .i64 e)]=some (prA 0 ah zD ah [] ah [] e):=by kernel_rfl
theorem I2 (nx:Int) (d:DO) (x r:List UInt8) (a1 a2 a3:Option Addr) (n1 n2 n3 c1 c2 c3:Nat):prog.built 67 [(0,.agg (ptA nx (.slice a1 n1 c1) d (.slice a2 n2 c2) x (.slice a3 n3 c3))),(1,.agg (ag r))]=some (prA nx (.slice a1 n1 c1) d (.slice a2 n2 c2) x (.slice a3 n3 c3) r 0):=by kernel_rfl
section
theorem pY (e:Int) (hgd:Region.wanted o (yielded ops a.tmps)=true) (x:Operand) (ho:o.op = .build 67 #[(2,x)]) (hx:a.eval x = .int .i64 e)
  (h:wpList prog ops Q rest (a.put o.dst (.agg (prA 0 ah zD ah [] ah [] e))) w):wpList prog ops Q (o::rest) a w :=
 wpList_step fun K hK=>by
  rw[G_ hgd];have hr:=run_build (P:=prog) w 67 #[(2,.int .i64 e)] _ (F8 e);unfold Oper.wp execOp;simp only[ho,List.map_toArray,List.map_cons,List.map_nil,hx,hr,Sem.run_bind,Sem.run_pure,Result.andThen_ok];exact hK _ _ h
theorem RL (nx:Int) (d:DO) (s r:List UInt8) (a1 a2 a3:Option Addr) (n1 n2 n3 c1 c2 c3:Nat) (hgd:Region.wanted o (yielded ops a.tmps)=true) (x y:Operand) (ho:o.op = .build 67 #[(0,x),(1,y)]) (hx:a.eval x = .agg (ptA nx (.slice a1 n1 c1) d (.slice a2 n2 c2) s (.slice a3 n3 c3))) (hy:a.eval y = .agg (ag r))
  (h:wpList prog ops Q rest (a.put o.dst (.agg (prA nx (.slice a1 n1 c1) d (.slice a2 n2 c2) s (.slice a3 n3 c3) r 0))) w):wpList prog ops Q (o::rest) a w :=
 wpList_step fun K hK=>by
  rw[G_ hgd];have hr:=run_build (P:=prog) w 67 #[(0,.agg (ptA nx (.slice a1 n1 c1) d (.slice a2 n2 c2) s (.slice a3 n3 c3))),(1,.agg (ag r))] _ (I2 nx d s r a1 a2 a3 n1 n2 n3 c1 c2 c3);unfold Oper.wp execOp;simp only[ho,List.map_toArray,List.map_cons,List.map_nil,hx,hy,hr,Sem.run_bind,Sem.run_pure,Result.andThen_ok];exact hK _ _ h
end
theorem Dj (tl:List K) (ids:List Int) (i:Nat) (hi:i<ids.length) (k:K) (h:eA tl (ids[i]'hi)=some k):(ids.take (i+1)).filterMap (eA tl)=(ids.take i).filterMap (eA tl)++[k]:=by
 rw[List.take_succ_eq_append_getElem hi,List.filterMap_append]
 simp[h]
theorem Hv (tl:List K) (ids:List Int) (i:Nat) (hi:i<ids.length):(ids.take (i+1)).foldl rmK tl=rmK ((ids.take i).foldl rmK tl) (ids[i]'hi):=by
 rw[List.take_succ_eq_append_getElem hi,List.foldl_append]
 rfl
theorem GG (tl:List K) (ids:List Int) (h:tl.Pairwise (fun a b=>a.id<b.id)) (a:Int) (ha:a ∉ ids):eA (ids.foldl rmK tl) a=eA tl a:=by
 rw[zO ids tl h];unfold eA kF;rw[List.find?_filter]
 congr 1
 funext k
 by_cases hk:k.id=a
 ·simp[eZ,hk,ha]
 ·simp[hk]
end
section
open Go.RowKit Go.Shelf
theorem L0 {nx:Int} {tl:List K} {ids:List Int} {b:BK} {s:List UInt8} {need n:Int} (hp:tl.Pairwise (fun a b=>a.id<b.id)) (hi:gY ids=true) {a:Int} (ha:a∈ids) (hg:eA tl a=none):dN nx tl ids b s need n=zP 11:=by
 obtain⟨_,e2,e3⟩:=k9 tl ids hp (tz hi)
 have h:(bJ ids tl).length<ids.length:=by
  rcases Nat.lt_or_ge (bJ ids tl).length ids.length with h|h
  ·exact h
  ·exact absurd hg (e3.1 (by omega) a ha)
 have h0:ids≠[]:=fun e=>by rw[e] at ha;cases ha
 unfold dN;rw[G_ ⟨hi,h0⟩,G_ h]
theorem PU {tl:List K} {ids:List Int} (hp:tl.Pairwise (fun a b=>a.id<b.id)) (hi:gY ids=true) (h:∀a∈ids,eA tl a≠none):ids.filterMap (eA tl)=bJ ids tl∧ids.foldl rmK tl=kF ids tl∧¬(bJ ids tl).length<ids.length:=by
 obtain⟨e1,_,e3⟩:=k9 tl ids hp (tz hi);exact⟨e1.symm,zO ids tl hp,by rw[e3.2 h];omega⟩
theorem spl_step {tl:List K} {ids:List Int} {sl lv:List K} {i:Nat} (hi:i<ids.length) (hall:∀a∈ids.take i,eA tl a≠none) (h1:(ids.take i).foldl rmK tl=sl) (h2:(ids.take i).filterMap (eA tl)=lv) {x:Int} (hx:ids[i]=x) (k:K) (hk:eA tl x=some k) :
  (∀a∈ids.take (i+1),eA tl a≠none)∧(ids.take (i+1)).foldl rmK tl=rmK sl x∧(ids.take (i+1)).filterMap (eA tl)=lv++[k]:=by
 subst hx;refine⟨fun a ha => ?_,by rw[Hv tl ids i hi,h1],by rw[Dj tl ids i hi k hk,h2]⟩;rw[List.take_succ_eq_append_getElem hi] at ha
 rcases List.mem_append.1 ha with h|h
 ·exact hall a h
 ·rw[List.mem_singleton] at h
  rw[h,hk]
  simp
theorem J3 {ids:List Int} (hi:gY ids=true) (i:Nat) (h:i<ids.length):ids[i] ∉ ids.take i:=by
 intro hm;obtain⟨j,hj,e⟩:=List.mem_iff_getElem.1 hm
 have hj2:j<i:=by rw[b_] at hj;omega
 have := List.pairwise_iff_getElem.1 (tz hi) j i (by omega) h hj2;rw[List.getElem_take] at e
 omega
theorem sE:∀(s:List Int) (l:List K),(s.foldl rmK l).length≤l.length
 | [],l=>A_ _
 | a::s,l=>M_ (sE s (rmK l a)) (by unfold rmK;exact List.length_eraseP_le)
theorem Kr (a b:Int) (w:World):(binOp .leq 3 (.int .i64 a) (.int .i64 b)).run prog w = .ok (.bool (decide (a≤b))) w:=by
 simp[binOp,Op.intCmp]
theorem ON:nbC zPR=true:=by kernel_rfl
theorem bS.ownE {α:Type} (E:El α) (B:Nat) (v:Value) (l:List α):bS fun y=>ap E y B v l:=⟨fun _ _ h hb=>h.on hb⟩
theorem SZ (s:List UInt8) (need n:Int) (w:World) (hk:cA w) (hs:s.length≤400000) (B:Nat) (hB:B≤w.heap.size) :
  Calls prog 11 #[.agg (ag s),.int .i64 need,.int .i64 n] w fun e w'=>∃va vn vc,e = .returned (.agg (foA (cP s need n).d (.slice va vn vc) (cP s need n).r (cP s need n).e))∧ap eH w' B (.slice va vn vc) (cP s need n).l∧Below w.heap.size w w' :=
 (QU s need n w hk hs).mono fun e w' ⟨va,vn,vc,e1,e2,e3⟩=>⟨va,vn,vc,e1,e2.mono hB,e3⟩
theorem B6 (y:World) (g:Nat) (n:Int) (u:Value) (a:Option Addr) (k c:Nat) (T:TypeId) (hg:y.heap[g]?=some (.cells (tbA n u) T (0,0))):(storeVar 43 ⟨g,1,none⟩ (.slice a k c)).run prog y = .ok () (y.setRow g (tbA n (.slice a k c))):=by
 rw[yi y ⟨g,1,none⟩ a k c u (by rw[e_ _ _ _ _ _ _ hg];rfl) (frozen_of_row _ _ 1 _ _ hg),au _ _ _ _ _ _ _ hg]
 rfl
theorem Lb {w:World} {g:Nat} {d:DO} {v:Value} {r:List UInt8} {e:Int} {T:TypeId} (h:w.heap[g]?=some (.cells (foA d v r e) T (0,0))):w.rangeAt g 20 (ag r).toList:=fun i u hu=>by
 rw[e_ _ _ _ _ _ _ h];have hi:i<1:=(d_.1 hu).1
 obtain rfl:i=0:=by omega
 rw[←hu];exact A7 d v r e
section
theorem SD (s:List UInt8) (g off:Nat) (x:Operand) (ho:o.op = .load 34 x) (hc:w.rangeAt g off (ag s).toList) (hx:a.eval x = .pointer (some ⟨g,off,none⟩)) (hgd:Region.wanted o (yielded ops a.tmps)=true)
  (h:wpList prog ops Q rest (a.put o.dst (.agg (ag s))) w):wpList prog ops Q (o::rest) a w :=
 wpList_step fun K hK=>by
  rw[G_ hgd];exact wp_load_mid _ x ho g off hx (ag s).toList _ hc underlying34 rfl qA (hK _ _ h)
theorem Gd:prog.built 45 []=some (tbA 0 ah):=by kernel_rfl
theorem NH (hgd:Region.wanted o (yielded ops a.tmps)=true) (ho:o.op = .build 45 #[])
  (h:wpList prog ops Q rest (a.put o.dst (.agg (tbA 0 ah))) w):wpList prog ops Q (o::rest) a w :=
 wpList_step fun K hK=>by
  rw[G_ hgd];have hr:=run_build (P:=prog) w 45 #[] _ Gd;unfold Oper.wp execOp;simp only[ho,List.map_toArray,List.map_nil,hr,Sem.run_bind,Sem.run_pure,Result.andThen_ok];exact hK _ _ h
theorem NG (nx:Int) (d:DO) (blob:List UInt8) (a1 a2 a3:Option Addr) (n1 n2 n3 c1 c2 c3:Nat) (hgd:Region.wanted o (yielded ops a.tmps)=true) (x1 x2 x3 x4 x5:Operand)
  (ho:o.op = .build 63 #[(0,x1),(1,x2),(2,x3),(3,x4),(4,x5)]) (h1:a.eval x1 = .agg (tbA nx (.slice a1 n1 c1))) (h2:a.eval x2 = .agg (doA d)) (h3:a.eval x3 = .slice a2 n2 c2) (h4:a.eval x4 = .string ⟨blob.toArray⟩) (h5:a.eval x5 = .slice a3 n3 c3)
  (h:wpList prog ops Q rest (a.put o.dst (.agg (ptA nx (.slice a1 n1 c1) d (.slice a2 n2 c2) blob (.slice a3 n3 c3)))) w):wpList prog ops Q (o::rest) a w:=IP nx d blob a1 a2 a3 n1 n2 n3 c1 c2 c3 hgd x1 x2 x3 x4 x5 ho h1 h2 h3 h4 h5 h
theorem Ah {S:World→Prop} (b off n c i:Nat) (x y:Operand) (h:(i:Int)<n) (hw:Region.wanted o (yielded ops a.tmps)=true) (ho:o.op = .indexAddr 59 x y) (hx:a.eval x = .slice (some ⟨b,off,none⟩) n c) (hy:a.eval y = .int .i64 i):YieldsIf prog ops S o (.pointer (some ⟨b,off+i,none⟩)) a:=by
 refine .inl ⟨hw,fun w hS => ?_⟩
 have hr:(Instr.indexAt 59 (.slice (some ⟨b,off,none⟩) n c) (.int .i64 i)).run prog w = .ok (.pointer (some ⟨b,off+i,none⟩)) w:=by simp[go_sem,h]
 unfold execOp;simp only[ho,hx,hy,Sem.run_bind,Sem.run_pure,Result.andThen_ok,hr]
end
def SP.rmv (B:Nat) (nx:Int) (l:List K):SP := .pred (fun v y=>∃a c,v = .tuple #[.agg (tbA nx (.slice a l.length c)),.int .i64 0]∧RdK y (.slice a l.length c) l∧∀b,a=some b→B≤b.block) (fun _ _ _ hb ⟨a,c,e,h,h2⟩=>⟨a,c,e,h.on hb,h2⟩)
def SP.rmt (B:Nat) (nx:Int) (l:List K):SP := .pred (fun v y=>∃a c,v = .agg (tbA nx (.slice a l.length c))∧RdK y (.slice a l.length c) l∧∀b,a=some b→B≤b.block) (fun _ _ _ hb ⟨a,c,e,h,h2⟩=>⟨a,c,e,h.on hb,h2⟩)
def SP.rmg (B:Nat) (nx:Int) (l:List K):SP := .pred (fun v y=>∃g a c,v = .pointer (some ⟨g,0,none⟩)∧B≤g∧y.heap[g]?=some (.cells (tbA nx (.slice a l.length c)) 45 (0,0))∧RdK y (.slice a l.length c) l∧∀b,a=some b→B≤b.block) (fun _ _ _ hb ⟨g,a,c,e,h,h2,h3,h4⟩=>⟨g,a,c,e,h,aa h2 hb,h3.on hb,h4⟩)
structure LS (W3:World) (nx:Int) (sl lv:List K) (sa:Option Addr) (sc:Nat) (la:Option Addr) (lc:Nat) (y:World):Prop where
 b0:Below W3.heap.size W3 y
 r14:y.heap[W3.heap.size]?=some (.cells (tbA nx (.slice sa sl.length sc)) 45 (0,0))
 r15:y.heap[W3.heap.size+1]?=some (.cells (tbA 0 (.slice la lv.length lc)) 45 (0,0))
 sk:RdK y (.slice sa sl.length sc) sl
 lo:ap eK y (W3.heap.size+2) (.slice la lv.length lc) lv
 ne:∀b,sa=some b→∀q,(Value.slice la lv.length lc).ownBlock=some q→q≠b.block
 sz:W3.heap.size+2≤y.heap.size
theorem LS.on {W3:World} {nx:Int} {sl lv:List K} {sa:Option Addr} {sc:Nat} {la:Option Addr} {lc:Nat} {y y':World} (h:LS W3 nx sl lv sa sc la lc y) (hb:Below y.heap.size y y'):LS W3 nx sl lv sa sc la lc y' :=
 ⟨h.b0.trans (hb.mono h.b0.size),aa h.r14 hb,aa h.r15 hb,h.sk.on hb,h.lo.on hb,h.ne,M_ h.sz hb.size⟩
theorem LS.app {W3:World} {nx:Int} {sl lv:List K} {sa:Option Addr} {sc:Nat} {la:Option Addr} {lc:Nat} {y y8:World} {v8:Value} {lv':List K} (h:LS W3 nx sl lv sa sc la lc y) (ho:ap eK y8 (W3.heap.size+2) v8 lv') (hg:y.grownBy y8 (Value.slice la lv.length lc).ownBlock):∃a8 c8,v8 = .slice a8 lv'.length c8 ∧
  Below W3.heap.size W3 (y8.setRow (W3.heap.size+1) (tbA 0 v8))∧(y8.setRow (W3.heap.size+1) (tbA 0 v8)).heap[W3.heap.size]?=some (.cells (tbA nx (.slice sa sl.length sc)) 45 (0,0))∧(y8.setRow (W3.heap.size+1) (tbA 0 v8)).heap[W3.heap.size+1]?=some (.cells (tbA 0 v8) 45 (0,0)) ∧
  RdK (y8.setRow (W3.heap.size+1) (tbA 0 v8)) (.slice sa sl.length sc) sl∧ap eK (y8.setRow (W3.heap.size+1) (tbA 0 v8)) (W3.heap.size+2) v8 lv'∧W3.heap.size+2≤(y8.setRow (W3.heap.size+1) (tbA 0 v8)).heap.size∧y8.heap[W3.heap.size+1]?=some (.cells (tbA 0 (.slice la lv.length lc)) 45 (0,0)):=by
 obtain⟨a8,c8,rfl,_⟩:=id ho.rd;have hb:Below (W3.heap.size+2) y y8:=h.lo.below hg h.sz;have h14:=(hb.block W3.heap.size (by omega)).trans h.r14;have h15:=(hb.block (W3.heap.size+1) (by omega)).trans h.r15;have hk:=h.sk.grownB hg h.ne
 have hs:(y8.setRow (W3.heap.size+1) (tbA 0 (.slice a8 lv'.length c8))).heap.size=y8.heap.size:=by simp[World.setRow]
 refine⟨a8,c8,rfl,(h.b0.trans (hb.mono (by omega))).trans (aK (by omega)),(aj _ _ _ _ (by omega)).trans h14,setRow_heap _ _ _ _ _ _ h15,hk.nb h15 (pA _ _ _ _) (fun k hk=>aj _ _ _ _ hk) (by rw[hs];exact A_ _),ho.but (ho.neOld (by omega)) (fun k hk=>aj _ _ _ _ hk),by rw[hs];exact M_ h.sz hb.size,h15⟩
attribute [local irreducible] Calls doA kc tbA prA zPR ptA foA bkA cP dbE dbX dbD dN Bb yV rmK eA ag
theorem UJ (nx : Int) (vt : Value) (tl : List K) (vi : Value) (ids : List Int) (b : BK) (ua : Option Addr) (un uc : Nat) (s : List UInt8) (need n : Int) (w : World) (hk : cA w) (ht : RdK w vt tl) (hi : RdE eI w vi ids) (hb : b.mach) (hn : cQ tl) (hp : tl.Pairwise (fun a b => a.id < b.id)) (hs : s.length ≤ 400000) (h1 : tl.length ≤ 100) (h2 : ids.length ≤ 100) :
  Calls prog 25 #[.agg (tbA nx vt),vi,.agg (bc b (.slice ua un uc)),.agg (ag s),.int .i64 need,.int .i64 n] w fun e w'=>∃a1 n1 c1 a2 n2 c2 a3 n3 c3,e = .returned (.agg (prA (dN nx tl ids b s need n).nx (.slice a1 n1 c1) (dN nx tl ids b s need n).d (.slice a2 n2 c2) (dN nx tl ids b s need n).blob (.slice a3 n3 c3) (dN nx tl ids b s need n).r (dN nx tl ids b s need n).e)) ∧
   RdK w' (.slice a1 n1 c1) (dN nx tl ids b s need n).tl∧RdE eH w' (.slice a2 n2 c2) (dN nx tl ids b s need n).sh∧RdE eI w' (.slice a3 n3 c3) (dN nx tl ids b s need n).gone∧Below w.heap.size w w':=by
 have hzero_pr:=Qr;have hzero_kk:=oz;have hzero_tb:=rq;have hzero_fo:=tU;have hzero_ba:=Ai;obtain⟨ta,tc,rfl,_,_,_⟩:=id ht;obtain⟨ia,ic,rfl,_,_,_⟩:=id hi;obtain⟨W0,hW0⟩:∃W0,W0=(((w.alloc (.cells (tbA nx (.slice ta tl.length tc)) 45)).alloc (.cells (bc b (.slice ua un uc)) 47)).alloc (.cells (ag s) 34)).alloc (.cells zPR 67):=⟨_,rfl⟩;have HW:=O hW0
 have hb0:Below w.heap.size w W0:=by rw[hW0];exact ph _ _ _ _ _
 have ST:Hid (bS fun y=>(Below w.heap.size w y)∧(y.heap[w.heap.size]?=some (.cells (tbA nx (.slice ta tl.length tc)) 45 (0,0)))∧(y.heap[w.heap.size+1]?=some (.cells (bc b (.slice ua un uc)) 47 (0,0)))∧(y.heap[w.heap.size+2]?=some (.cells (ag s) 34 (0,0)))∧(y.heap[w.heap.size+3]?=some (.cells zPR 67 (0,0)))∧(RdK y (.slice ta tl.length tc) tl)∧(RdE eI y (.slice ia ids.length ic) ids)):=O ((bS.b w).and ((bS.row _ _ _).and ((bS.row _ _ _).and ((bS.row _ _ _).and ((bS.row _ _ _).and ((bS.rdK _ _).and (bS.rdE _ _ _)))))));have HJ:Hid ((Below w.heap.size w W0)∧(W0.heap[w.heap.size]?=some (.cells (tbA nx (.slice ta tl.length tc)) 45 (0,0)))∧(W0.heap[w.heap.size+1]?=some (.cells (bc b (.slice ua un uc)) 47 (0,0)))∧(W0.heap[w.heap.size+2]?=some (.cells (ag s) 34 (0,0)))∧(W0.heap[w.heap.size+3]?=some (.cells zPR 67 (0,0)))∧(RdK W0 (.slice ta tl.length tc) tl)∧(RdE eI W0 (.slice ia ids.length ic) ids)):=O ⟨hb0,by rw[hW0];exact oZ _ _ _ _ _,by rw[hW0];exact o9 _ _ _ _ _,by rw[hW0];exact pf _ _ _ _ _,by rw[hW0];exact pg _ _ _ _ _,ht.on hb0,hi.on hb0⟩;have HK:Hid (∀y,Below w.heap.size w y→cA y):=O (fun y h=>hk.on h);have HEM:Hid (ids.length=0→dN nx tl ids b s need n=zP 1):=O se;have HUN:Hid (gY ids=false→dN nx tl ids b s need n=zP 1):=O qW;have HNO:Hid (gY ids=true→∀a∈ids,eA tl a=none→dN nx tl ids b s need n=zP 11):=O (fun hi a ha hg=>L0 hp hi ha hg);have HAL:Hid (gY ids=true→(∀a∈ids,eA tl a≠none)→ids.filterMap (eA tl)=bJ ids tl∧ids.foldl rmK tl=kF ids tl∧¬(bJ ids tl).length<ids.length):=O (fun hi h=>PU hp hi h);have HPA:=O (fun (h:gY ids=true) (h2:ids.length≠0) => @yl nx tl ids b s need n h h2);have HLT:=O (fun (i:Nat) (hi:i<ids.length) (hs:gY ids=true)=>GG tl (ids.take i) hp ids[i] (J3 hs i hi));have HGT:=O (fun (a:Int) (y:World) (h:RdK y (.slice ta tl.length tc) tl)=>VP nx (.slice ta tl.length tc) tl a y h);have HRM:=O (fun (v:Value) (l:List K) (a:Int) (y:World) (h:RdK y v l) (hg:eA l a≠none) (hl:l.length≤5000)=>Lk nx v l a y h hg hl);have HNW:=O (fun (y:World) (a:cA y) (z:w.heap.size+4≤y.heap.size)=>SZ s need n y a hs (w.heap.size+4) z);have HBK:=O (fun (d:DO) (hd:d.mach) (v:Value) (l:List K) (hl:cQ l) (h1:l.length≤100) (y:World) (a:cA y) (hv:RdK y v l)=>Ec d b 0 v ua un uc l y a hv hd hb hl h1);have HNK:=O (fun (ids:List Int)=>vw hn ids);have HLEN:Hid (tl.length≤100∧ids.length≤100):=O ⟨h1,h2⟩;have HDM:=O (xM s need n)
 have h3:(ids.length:Int)≤100:=by omega
 clear hW0 hk ht hi hb hn hp hs h1 h2 hb0
 rcases Nat.eq_zero_or_pos ids.length with h0|h0
 ·have e1:((ids.length:Int) == 0)=true:=by rw[beq_iff_eq];omega
  have HSP:=O (HEM.out h0);clear h0
  go_enter func25,ntmps25
  go_upto_region 1 with fail
  rw[←HW.out]
  try dsimp only[Act.put]
  go_wp2_with (first
   |(refine pY 1 ?r1 (.const (.int .i64 1)) ?r2 ?r3 ?_;(case r2=>exact rfl);(case r1=>exact rfl);(case r3=>exact rfl))
   |(refine aM (T:=67) (prA 0 ah zD ah [] ah [] 1) (lQ _ _ _ _ _ _ _ _) ?r1 (.tmp 12) (.tmp 27) ?r2 (w.heap.size+3) zPR ?r3 ?r4 (nR _ _ _ _ _ _ _ _ _ _ _ _ _ _) (rP _ _ _ _ _ _ _ _) (HJ.out.2.2.2.2.1) ?_;(case r2=>exact rfl);(case r1=>exact rfl);(case r3=>exact rfl);(case r4=>exact rfl);intro w7 hge7 hoe7 hbe7;have HE7:Hid (w7.heap[w.heap.size+3]?=some (.cells (prA 0 ah zD ah [] ah [] 1) 67 (0,0))∧Below w.heap.size w w7):=(O ⟨hge7,(HJ.out.1).trans (hbe7 _ (by omega))⟩);clear hge7 hoe7 hbe7))
  refine g_ (bB rfl _ _ (w.heap.size+3) _ rfl (rV _ _ _ _ _ _ _ _ _ _ _ HE7.out.1)) rfl ?_;rw[HSP.out];exact⟨none,0,0,none,0,0,none,0,0,rfl,RdK.nil _,(ap.nil _ 0).rd,(ap.nil _ 0).rd,HE7.out.2⟩
 have e1:((ids.length:Int) == 0)=false:=by rw[U_];omega
 have HPOS:=O h0;clear h0 HEM
 go_enter func25,ntmps25
 go_upto_region 1 with fail
 rw[←HW.out]
 try dsimp only[Act.put]
 go_wp2
 go_loopw [13] (fun o13 wr=>∃i:Nat,1≤i∧i≤ids.length∧o13 = .int .i64 i∧Hid (∀j (hj:j+1<ids.length),j+1<i→ids[j]<ids[j+1])∧Hid (Below W0.heap.size W0 wr)) (fun o13 _=>ids.length-(intOf o13).toNat)
 case atStart=>exact⟨1,A_ _,HPOS.out,rfl,O (fun j _ h=>absurd h (by omega)),O (O_ _ _)⟩
 case round =>
  obtain⟨i,hi1,hi,rfl,hno,hb⟩:=hrel;have HR:=O (ST.out.on _ _ HJ.out hb.out)
  by_cases hlt:i<ids.length
  ·have k1:(i:Int)<ids.length:=by omega
   have HLI:=O hlt;obtain⟨j,hj⟩:∃j,j+1=i:=⟨i-1,by omega⟩;obtain⟨b3,f3,rfl,_,_⟩:=fW (HR.out.2.2.2.2.2.2) (by omega)
   have hj1:j+1<ids.length:=by omega
   have HCX:Hid (∀y,RdE eI y (.slice (some ⟨b3,f3,none⟩) ids.length ic) ids→y.cell? ⟨b3,f3+i,none⟩=some (.int .i64 ids[j+1])∧y.cell? ⟨b3,f3+j,none⟩=some (.int .i64 ids[j])):=O (fun y hy=>by obtain⟨b',o',e,_,hc⟩:=fW hy (by omega);cases e;have h1:=hc (j+1) hj1;have h2:=hc j (by omega);exact⟨by rw[←hj];exact h1,h2⟩)
   have HN2:Hid (ids[j]<ids[j+1]→∀p (hp:p+1<ids.length),p+1<i+1→ids[p]<ids[p+1]):=O (fun h p hp h2=>by
    by_cases e:p=j
    ·subst e;exact h
    ·exact hno.out p hp (by omega))
   have HBD:Hid (¬ids[j]<ids[j+1]→dN nx tl ids b s need n=zP 1):=O (fun h=>HUN.out (by
    cases hq:gY ids with
    | false=>rfl
    | true=>exact absurd ((mX ids).1 hq j hj1) h))
   generalize ids[j+1]=x1 at HCX HN2 HBD;generalize ids[j]=x0 at HCX HN2 HBD
   have k2:(j:Int)<ids.length:=by omega
   have hsub:IntKind.i64.wrap ((i:Int)-1)=(j:Int):=by rw[IntKind.wrap_i64];omega
   clear hi1 hi hlt hno hj hj1
   go_upto_region 6 with fail
   have HRD:=O (ST.out.on _ _ HR.out (O_ _ _).drew);have HBD2:Hid (Below W0.heap.size W0 wr.drew):=O hb.out.drew;have HSD:Hid ((fun y=>y.cell? ⟨b3,f3+i,none⟩=some (.int .i64 x1)∧y.cell? ⟨b3,f3+j,none⟩=some (.int .i64 x0)) wr.drew):=O (HCX.out _ (HRD.out.2.2.2.2.2.2));clear HCX HR hb
   by_cases hq:x0<x1
   case pos =>
    have HQ:=O hq
    have hle:decide (x1≤x0)=false:=by rw[decide_eq_false_iff_not];omega
    have HLE:=O hle;clear hq hle;refine fe (fun y=>y.cell? ⟨b3,f3+i,none⟩=some (.int .i64 x1)∧y.cell? ⟨b3,f3+j,none⟩=some (.int .i64 x0)) [0,1,2,3,4,5,6,7,8,9] [] ?h1 ?h2 ?h3 ?h4 ?h5
    case h1=>intro c a d v w h;cases d <;> exact h
    case h2=>kernel_rfl
    case h3=>kernel_rfl
    case h4=>exact HSD.out
    case h5 =>
     simp only[cT,List.filterMap_cons,List.filterMap_nil,List.getElem?_toArray,List.getElem?_cons_succ,List.getElem?_cons_zero];refine⟨_,aR (.slice (some ⟨b3,f3,none⟩) ids.length ic) rfl (fun y hy=>by kernel_rfl),?_⟩;simp only[Act.put,B_,C_,D_];refine⟨_,aR (.int .i64 i) rfl (fun y hy=>by kernel_rfl),?_⟩;simp only[Act.put,B_,C_,D_];refine⟨_,Ah b3 f3 ids.length ic i (.tmp 34) (.tmp 35) k1 rfl rfl rfl rfl,?_⟩;simp only[Act.put,B_,C_,D_];refine⟨_,gC (.int .i64 x1) ⟨b3,f3+i,none⟩ 3 (.tmp 36) rfl rfl rfl (fun y hy=>ff y _ _ hy.1),?_⟩;simp only[Act.put,B_,C_,D_];refine⟨_,aR (.slice (some ⟨b3,f3,none⟩) ids.length ic) rfl (fun y hy=>by kernel_rfl),?_⟩;simp only[Act.put,B_,C_,D_];refine⟨_,aR (.int .i64 i) rfl (fun y hy=>by kernel_rfl),?_⟩;simp only[Act.put,B_,C_,D_];refine⟨_,aR (.int .i64 j) rfl (fun y hy=>by simp[go_sem,hsub]),?_⟩;simp only[Act.put,B_,C_,D_];refine⟨_,Ah b3 f3 ids.length ic j (.tmp 38) (.tmp 40) k2 rfl rfl rfl rfl,?_⟩;simp only[Act.put,B_,C_,D_];refine⟨_,gC (.int .i64 x0) ⟨b3,f3+j,none⟩ 3 (.tmp 41) rfl rfl rfl (fun y hy=>ff y _ _ hy.2),?_⟩;simp only[Act.put,B_,C_,D_];refine⟨_,y_b .leq 3 3 (.tmp 37) (.tmp 42) (.int .i64 x1) (.int .i64 x0) (.bool false) rfl rfl rfl rfl (fun y=>by kernel_rfl) (fun y=>by rw[Kr,HLE.out]),?_⟩;simp only[Act.put,B_,C_,D_]
     try dsimp only[gu,ei]
     have HN3:=O (HN2.out HQ.out);clear HSD HRD;go_wp2;go_roundw
     case rel=>exact⟨i+1,by omega,HLI.out,by go_num,HN3,HBD2⟩
     case measure=>have := HLI.out;simp[intOf];omega
   case neg =>
    have HQ:=O hq
    have hle:decide (x1≤x0)=true:=by rw[decide_eq_true_iff];omega
    have HLE:=O hle;clear hq hle;refine fe (fun y=>y.cell? ⟨b3,f3+i,none⟩=some (.int .i64 x1)∧y.cell? ⟨b3,f3+j,none⟩=some (.int .i64 x0)) [0,1,2,3,4,5,6,7,8,9] [] ?h1 ?h2 ?h3 ?h4 ?h5
    case h1=>intro c a d v w h;cases d <;> exact h
    case h2=>kernel_rfl
    case h3=>kernel_rfl
    case h4=>exact HSD.out
    case h5 =>
     simp only[cT,List.filterMap_cons,List.filterMap_nil,List.getElem?_toArray,List.getElem?_cons_succ,List.getElem?_cons_zero];refine⟨_,aR (.slice (some ⟨b3,f3,none⟩) ids.length ic) rfl (fun y hy=>by kernel_rfl),?_⟩;simp only[Act.put,B_,C_,D_];refine⟨_,aR (.int .i64 i) rfl (fun y hy=>by kernel_rfl),?_⟩;simp only[Act.put,B_,C_,D_];refine⟨_,Ah b3 f3 ids.length ic i (.tmp 34) (.tmp 35) k1 rfl rfl rfl rfl,?_⟩;simp only[Act.put,B_,C_,D_];refine⟨_,gC (.int .i64 x1) ⟨b3,f3+i,none⟩ 3 (.tmp 36) rfl rfl rfl (fun y hy=>ff y _ _ hy.1),?_⟩;simp only[Act.put,B_,C_,D_];refine⟨_,aR (.slice (some ⟨b3,f3,none⟩) ids.length ic) rfl (fun y hy=>by kernel_rfl),?_⟩;simp only[Act.put,B_,C_,D_];refine⟨_,aR (.int .i64 i) rfl (fun y hy=>by kernel_rfl),?_⟩;simp only[Act.put,B_,C_,D_];refine⟨_,aR (.int .i64 j) rfl (fun y hy=>by simp[go_sem,hsub]),?_⟩;simp only[Act.put,B_,C_,D_];refine⟨_,Ah b3 f3 ids.length ic j (.tmp 38) (.tmp 40) k2 rfl rfl rfl rfl,?_⟩;simp only[Act.put,B_,C_,D_];refine⟨_,gC (.int .i64 x0) ⟨b3,f3+j,none⟩ 3 (.tmp 41) rfl rfl rfl (fun y hy=>ff y _ _ hy.2),?_⟩;simp only[Act.put,B_,C_,D_];refine⟨_,y_b .leq 3 3 (.tmp 37) (.tmp 42) (.int .i64 x1) (.int .i64 x0) (.bool true) rfl rfl rfl rfl (fun y=>by kernel_rfl) (fun y=>by rw[Kr,HLE.out]),?_⟩;simp only[Act.put,B_,C_,D_]
     try dsimp only[gu,ei]
     have HSP:=O (HBD.out HQ.out)
     go_wp2_with (first
      |(refine pY 1 ?r1 (.const (.int .i64 1)) ?r2 ?r3 ?_;(case r2=>exact rfl);(case r1=>exact rfl);(case r3=>exact rfl))
      |(refine aM (T:=67) (prA 0 ah zD ah [] ah [] 1) (lQ _ _ _ _ _ _ _ _) ?r1 (.tmp 12) (.tmp 44) ?r2 (w.heap.size+3) zPR ?r3 ?r4 (nR _ _ _ _ _ _ _ _ _ _ _ _ _ _) (rP _ _ _ _ _ _ _ _) (HRD.out.2.2.2.2.1) ?_;(case r2=>exact rfl);(case r1=>exact rfl);(case r3=>exact rfl);(case r4=>exact rfl);intro w7 hge7 hoe7 hbe7;have HE7:Hid (w7.heap[w.heap.size+3]?=some (.cells (prA 0 ah zD ah [] ah [] 1) 67 (0,0))∧Below w.heap.size w w7):=(O ⟨hge7,(HRD.out.1).trans (hbe7 _ (by omega))⟩);clear hge7 hoe7 hbe7))
     refine g_ (bB rfl _ _ (w.heap.size+3) _ rfl (rV _ _ _ _ _ _ _ _ _ _ _ HE7.out.1)) rfl ?_;rw[HSP.out];exact⟨none,0,0,none,0,0,none,0,0,rfl,RdK.nil _,(ap.nil _ 0).rd,(ap.nil _ 0).rd,HE7.out.2⟩
  ·have k1 : (ids.length : Int) ≤ i := by omega
   have HINC:Hid (gY ids=true):=O ((mX ids).2 (fun j hj=>hno.out j hj (by omega)))
   go_upto_region 8 with fail
   replace HJ:=HR;clear HR hb hno hlt hi hi1 k1 HUN
   rename World=>W3
   have HPT:=O (HPA.out HINC.out (by have := HPOS.out;omega));clear HPA
   go_upto_region 9 with (first
    |(refine dw nx (.slice ta tl.length tc) ?r1 (.tmp 6) ?r2 w.heap.size ?r3 _ (HJ.out.2.1) ?_;(case r2=>exact rfl);(case r1=>exact rfl);(case r3=>exact rfl))
    |(refine aH (tbA nx (.slice ta tl.length tc)) 45 ?r1 (.tmp 14) (.tmp 45) ?r2 W3.heap.size ?r3 ?r4 ?r5 (cZ _ _) (fg _ _ _ _) (dP _ _ _ _) ?_;(case r2=>exact rfl);(case r1=>exact rfl);(case r3=>exact rfl);(case r4=>exact rfl);(case r5=>exact rfl)))
   try simp only[Act.put]
   have hsz1:(W3.alloc (.cells (tbA nx (.slice ta tl.length tc)) 45)).heap.size=W3.heap.size+1:=by simp
   go_upto_region 10 with (first
    |(refine NH ?r1 ?r2 ?_;(case r2=>exact rfl);(case r1=>exact rfl))
    |(refine aH (tbA 0 ah) 45 ?r1 (.tmp 15) (.tmp 46) ?r2 (W3.heap.size+1) ?r3 hsz1 ?r4 (cZ _ _) (fg _ _ _ _) (dP _ _ _ _) ?_;(case r2=>exact rfl);(case r1=>exact rfl);(case r3=>exact rfl);(case r4=>exact rfl)))
   try simp only[Act.put]
   have HLS0:Hid (LS W3 nx tl [] ta tc none 0 ((W3.alloc (.cells (tbA nx (.slice ta tl.length tc)) 45)).alloc (.cells (tbA 0 ah) 45))):=O ⟨dm _ _ _ (O_ _ _),eP _ _ _,eR _ _ _,((HJ.out.2.2.2.2.2.1).alloc _).alloc _,ap.nil _ _,(fun b _ q hq=>by cases hq),by simp⟩;generalize (W3.alloc (.cells (tbA nx (.slice ta tl.length tc)) 45)).alloc (.cells (tbA 0 ah) 45)=W5 at HLS0 ⊢;clear hsz1;go_wp2
   go_loopw [16] (fun o16 wr=>∃(i:Nat) (sl lv:List K) (sa:Option Addr) (sc:Nat) (la:Option Addr) (lc:Nat),i≤ids.length∧o16 = .int .i64 i∧Hid (∀a∈ids.take i,eA tl a≠none)∧Hid ((ids.take i).foldl rmK tl=sl∧(ids.take i).filterMap (eA tl)=lv)∧Hid (LS W3 nx sl lv sa sc la lc wr)) (fun o16 _=>ids.length-(intOf o16).toNat)
   case atStart=>exact⟨0,tl,[],ta,tc,none,0,N_ _,rfl,O (fun a h=>by cases h),O ⟨rfl,rfl⟩,HLS0⟩
   case round =>
    obtain⟨i,sl,lv,sa,sc,la,lc,hi,rfl,hall,hlist,hls⟩:=hrel;have HR:=O (ST.out.on _ _ HJ.out hls.out.b0)
    by_cases hlt:i<ids.length
    ·have k1 : (i : Int) < ids.length := by omega
     have HLI:=O hlt;obtain⟨b3,f3,rfl,_,_⟩:=fW (HR.out.2.2.2.2.2.2) (by omega);obtain⟨x,hx⟩:∃x,ids[i]'hlt=x:=⟨_,rfl⟩;have HCX:Hid (∀y,RdE eI y (.slice (some ⟨b3,f3,none⟩) ids.length ic) ids→y.cell? ⟨b3,f3+i,none⟩=some (.int .i64 x)):=O (fun y hy=>by obtain⟨b',o',e,_,hc⟩:=fW hy (by omega);cases e;rw[←hx];exact hc i hlt);have HMEM:Hid (x∈ids):=O (by rw[←hx];exact List.getElem_mem hlt);have HLAT:Hid (eA sl x=eA tl x):=O (by rw[←hx,←hlist.out.1];exact HLT.out i hlt HINC.out);have HSTEP:=O (fun (k:K) (hk:eA tl x=some k)=>spl_step hlt hall.out hlist.out.1 hlist.out.2 hx k hk);have HLL:Hid (sl.length≤100∧lv.length≤i):=O ⟨by rw[←hlist.out.1];exact M_ (sE _ _) HLEN.out.1,by rw[←hlist.out.2];exact M_ (List.length_filterMap_le _ _) (by rw[b_];omega)⟩;clear hi hlt hall hlist hx
     cases hgx:eA tl x with
     | none =>
       have HGX:=O (HGT.out x)
       have hge:yV tl x=11:=by unfold yV;rw[G_ hgx]
       rw[hge] at HGX;generalize Bb tl x=kv at HGX;have HSP:=O (HNO.out HINC.out x HMEM.out hgx);clear hgx hge HSTEP HLAT HMEM
       go_upto_region 13 with fail
       have HX:Hid (∀y,Below wr.heap.size wr y→y.heap[w.heap.size]?=some (.cells (tbA nx (.slice ta tl.length tc)) 45 (0,0))∧RdK y (.slice ta tl.length tc) tl∧y.cell? ⟨b3,f3+i,none⟩=some (.int .i64 x)):=O (fun y hy=>⟨aa (HR.out.2.1) hy,(HR.out.2.2.2.2.2.1).on hy,HCX.out y ((HR.out.2.2.2.2.2.2).on hy)⟩);refine region_relS 10 11 (by decide) [[],[],[],[1,2],[3],[0,4],[5],[6],[6],[],[7,9]] (fun d=>SP.of [.eq (.agg (tbA nx (.slice ta tl.length tc))),.eq (.slice (some ⟨b3,f3,none⟩) ids.length ic),.eq (.int .i64 i),.eq (.pointer (some ⟨b3,f3+i,none⟩)),.eq (.int .i64 x),.eq (.tuple #[(.agg (kc kv)),.int .i64 11]),.eq (.tuple #[(.agg (kc kv)),.int .i64 11]),.eq (.agg (kc kv)),.eq (.int .i64 11),cond d (.fresh wr.heap.size (kc kv) 86) (.fresh wr.heap.size (kc zK) 86),.eq undef]) (fun i=>([u54,u55,u56,u57,u58,u59,u53,u60,u61,u17]:List Value).getD i undef) ?h1 ?h2 ?h3 ?h4 ?h5 ?h6
       case h1=>kernel_rfl
       case h2=>kernel_rfl
       case h3=>kernel_rfl
       case h4 =>
        simp only[F_,c_]
        repeat (first |exact trivial|refine⟨fun vals v=>by kernel_rfl,?_⟩)
       case h5 =>
        simp only[F_,c_];refine⟨?_,?_,?_,?_,?_,?_,?_,?_,?_,?_,?_,trivial⟩
        case refine_11 =>
         rw[G_ rfl];intro wq hbq vals;have HBQ:=O hbq;clear hbq;simp only[Nat.reduceAdd,a_,X_,W_];refine aw rfl ?_;refine aG rfl ?_;rintro v9 ⟨g17,rfl,hg1,hg2⟩;refine ar ?_;have HG:=O (And.intro hg1 hg2);clear hg1 hg2;intro Q hQ;simp only[ay,upd,Act.put,B_,C_,D_,Nat.reduceAdd,a_,Nat.reduceEqDiff,if_true,if_false,reduceIte]
         go_wp2_with (first
          |(refine aM (T:=86) (kc kv) (nO _) ?r1 (.tmp 17) (.tmp 60) ?r2 g17 (kc zK) ?r3 ?r4 (jR _) (VY _ _) HG.out.2 ?_;(case r2=>exact rfl);(case r1=>exact rfl);(case r3=>exact rfl);(case r4=>exact rfl);intro w7 hge7 hoe7 hbe7;have HS7:=O (And.intro hge7 (And.intro hoe7 hbe7));clear hge7 hoe7 hbe7))
         refine relEnd_finC hQ undef (by kernel_rfl) (HS7.out.2.2 _ HG.out.1) ?_ rfl;intro j hj hne hp
         rcases (by omega:j=0∨j=1∨j=2∨j=3∨j=4∨j=5∨j=6∨j=7∨j=8∨j=9) with rfl|rfl|rfl|rfl|rfl|rfl|rfl|rfl|rfl|rfl
         ·exact hp
         ·exact hp
         ·exact hp
         ·exact hp
         ·exact hp
         ·exact hp
         ·exact hp
         ·exact hp
         ·exact hp
         ·exact⟨g17,rfl,HG.out.1,HS7.out.1⟩
        all_goals (rw[H_ (by decide)];intro d wq hd hbq vals;simp only[Nat.reduceAdd,a_,X_,W_];have HBQ:=O hbq;clear hbq;repeat (first |refine ar ?_|refine aw rfl ?_))
        case refine_1 =>
         have HQ:=O (HX.out wq HBQ.out);intro Q hQ;simp only[ay,upd,Act.put,B_,C_,D_,Nat.reduceAdd,a_,Nat.reduceEqDiff,if_true,if_false,reduceIte]
         go_wp2_with (first
          |(refine dw nx (.slice ta tl.length tc) ?r1 (.tmp 6) ?r2 w.heap.size ?r3 _ HQ.out.1 ?_;(case r2=>exact rfl);(case r1=>exact rfl);(case r3=>exact rfl)))
         exact ab hQ _ (by kernel_rfl) (O_ _ _) rfl
        case refine_5 =>
         have c:=(HX.out wq HBQ.out).2.2;intro Q hQ;simp only[ay,upd,Act.put,B_,C_,D_,Nat.reduceAdd,a_,Nat.reduceEqDiff,if_true,if_false,reduceIte];go_wp2;exact ab hQ _ (by kernel_rfl) (O_ _ _) rfl
        case refine_6 =>
         have HQ:=O (HX.out wq HBQ.out);intro Q hQ;simp only[ay,upd,Act.put,B_,C_,D_,Nat.reduceAdd,a_,Nat.reduceEqDiff,if_true,if_false,reduceIte]
         go_wp2_with (first
          |(go_at_call 56;refine(HGX.out _ HQ.out.2.1).mono ?_;rintro e x1 ⟨rfl,hx1⟩;have HX1:=O hx1;clear hx1))
         exact ab hQ _ (by kernel_rfl) HX1.out rfl
        case refine_10 =>
         obtain rfl:=hd (by decide);intro Q hQ;simp only[ay,upd,Act.put,B_,C_,D_,Nat.reduceAdd,a_,Nat.reduceEqDiff,if_true,if_false,reduceIte];go_wp2;exact ab hQ _ (by kernel_rfl) ((O_ _ _).alloc (A_ _) _) ⟨wq.heap.size,rfl,HBQ.out.size,heap_alloc_new _ _⟩
        all_goals (intro Q hQ;simp only[ay,upd,Act.put,B_,C_,D_,Nat.reduceAdd,a_,Nat.reduceEqDiff,if_true,if_false,reduceIte];go_wp2;exact ab hQ _ (by kernel_rfl) (O_ _ _) rfl)
       case h6 =>
        intro wq hbq vals;have HBQ:=O hbq;clear hbq;rw[show List.range 11=[0,1,2,3,4,5,6,7,8,9,10] from by decide]
        repeat (first |refine ar ?_|refine aw rfl ?_)
        refine aG rfl ?_;rintro v9 ⟨g17,rfl,hg1,hg2⟩;refine aw rfl ?_;refine ar ?_;have HGK:=O hg2;clear hg1 hg2;simp only[F_,c_,J_,L_];simp only[ay,upd,Act.put,B_,C_,D_,Nat.reduceAdd,a_,Nat.reduceEqDiff,if_true,if_false,reduceIte]
        go_upto_region 14 with fail
        have HLS7:=O (hls.out.on HBQ.out);have HR7:=O (ST.out.on _ _ HR.out HBQ.out);clear HBQ HX HGX hls HR;generalize wq=w7 at HGK HLS7 HR7 ⊢
        go_wp2_with (first
         |(refine pY 11 ?r1 (.const (.int .i64 11)) ?r2 ?r3 ?_;(case r2=>exact rfl);(case r1=>exact rfl);(case r3=>exact rfl))
         |(refine aM (T:=67) (prA 0 ah zD ah [] ah [] 11) (lQ _ _ _ _ _ _ _ _) ?r1 (.tmp 12) (.tmp 64) ?r2 (w.heap.size+3) zPR ?r3 ?r4 (nR _ _ _ _ _ _ _ _ _ _ _ _ _ _) (rP _ _ _ _ _ _ _ _) (HR7.out.2.2.2.2.1) ?_;(case r2=>exact rfl);(case r1=>exact rfl);(case r3=>exact rfl);(case r4=>exact rfl);intro w7 hge7 hoe7 hbe7;have HE7:Hid (w7.heap[w.heap.size+3]?=some (.cells (prA 0 ah zD ah [] ah [] 11) 67 (0,0))∧Below w.heap.size w w7):=(O ⟨hge7,(HR7.out.1).trans (hbe7 _ (by omega))⟩);clear hge7 hoe7 hbe7))
        refine g_ (bB rfl _ _ (w.heap.size+3) _ rfl (rV _ _ _ _ _ _ _ _ _ _ _ HE7.out.1)) rfl ?_;rw[HSP.out];exact⟨none,0,0,none,0,0,none,0,0,rfl,RdK.nil _,(ap.nil _ 0).rd,(ap.nil _ 0).rd,HE7.out.2⟩
     | some k =>
       have HGX:=O (HGT.out x)
       have hge:yV tl x=0:=by unfold yV;rw[H_ (by rw[hgx];simp)]
       have hgv:Bb tl x=k:=by unfold Bb;rw[hgx];rfl
       rw[hge,hgv] at HGX;have HST:=O (HSTEP.out k hgx);have HGN:Hid (eA sl x≠none):=O (by rw[HLAT.out,hgx];simp);clear hgx hge hgv HSTEP HLAT HMEM
       go_upto_region 13 with fail
       have HX:Hid (∀y,Below wr.heap.size wr y→y.heap[w.heap.size]?=some (.cells (tbA nx (.slice ta tl.length tc)) 45 (0,0))∧RdK y (.slice ta tl.length tc) tl∧y.cell? ⟨b3,f3+i,none⟩=some (.int .i64 x)):=O (fun y hy=>⟨aa (HR.out.2.1) hy,(HR.out.2.2.2.2.2.1).on hy,HCX.out y ((HR.out.2.2.2.2.2.2).on hy)⟩);refine region_relS 10 11 (by decide) [[],[],[],[1,2],[3],[0,4],[5],[6],[6],[],[7,9]] (fun d=>SP.of [.eq (.agg (tbA nx (.slice ta tl.length tc))),.eq (.slice (some ⟨b3,f3,none⟩) ids.length ic),.eq (.int .i64 i),.eq (.pointer (some ⟨b3,f3+i,none⟩)),.eq (.int .i64 x),.eq (.tuple #[(.agg (kc k)),.int .i64 0]),.eq (.tuple #[(.agg (kc k)),.int .i64 0]),.eq (.agg (kc k)),.eq (.int .i64 0),cond d (.fresh wr.heap.size (kc k) 86) (.fresh wr.heap.size (kc zK) 86),.eq undef]) (fun i=>([u54,u55,u56,u57,u58,u59,u53,u60,u61,u17]:List Value).getD i undef) ?h1 ?h2 ?h3 ?h4 ?h5 ?h6
       case h1=>kernel_rfl
       case h2=>kernel_rfl
       case h3=>kernel_rfl
       case h4 =>
        simp only[F_,c_]
        repeat (first |exact trivial|refine⟨fun vals v=>by kernel_rfl,?_⟩)
       case h5 =>
        simp only[F_,c_];refine⟨?_,?_,?_,?_,?_,?_,?_,?_,?_,?_,?_,trivial⟩
        case refine_11 =>
         rw[G_ rfl];intro wq hbq vals;have HBQ:=O hbq;clear hbq;simp only[Nat.reduceAdd,a_,X_,W_];refine aw rfl ?_;refine aG rfl ?_;rintro v9 ⟨g17,rfl,hg1,hg2⟩;refine ar ?_;have HG:=O (And.intro hg1 hg2);clear hg1 hg2;intro Q hQ;simp only[ay,upd,Act.put,B_,C_,D_,Nat.reduceAdd,a_,Nat.reduceEqDiff,if_true,if_false,reduceIte]
         go_wp2_with (first
          |(refine aM (T:=86) (kc k) (nO _) ?r1 (.tmp 17) (.tmp 60) ?r2 g17 (kc zK) ?r3 ?r4 (jR _) (VY _ _) HG.out.2 ?_;(case r2=>exact rfl);(case r1=>exact rfl);(case r3=>exact rfl);(case r4=>exact rfl);intro w7 hge7 hoe7 hbe7;have HS7:=O (And.intro hge7 (And.intro hoe7 hbe7));clear hge7 hoe7 hbe7))
         refine relEnd_finC hQ undef (by kernel_rfl) (HS7.out.2.2 _ HG.out.1) ?_ rfl;intro j hj hne hp
         rcases (by omega:j=0∨j=1∨j=2∨j=3∨j=4∨j=5∨j=6∨j=7∨j=8∨j=9) with rfl|rfl|rfl|rfl|rfl|rfl|rfl|rfl|rfl|rfl
         ·exact hp
         ·exact hp
         ·exact hp
         ·exact hp
         ·exact hp
         ·exact hp
         ·exact hp
         ·exact hp
         ·exact hp
         ·exact⟨g17,rfl,HG.out.1,HS7.out.1⟩
        all_goals (rw[H_ (by decide)];intro d wq hd hbq vals;simp only[Nat.reduceAdd,a_,X_,W_];have HBQ:=O hbq;clear hbq;repeat (first |refine ar ?_|refine aw rfl ?_))
        case refine_1 =>
         have HQ:=O (HX.out wq HBQ.out);intro Q hQ;simp only[ay,upd,Act.put,B_,C_,D_,Nat.reduceAdd,a_,Nat.reduceEqDiff,if_true,if_false,reduceIte]
         go_wp2_with (first
          |(refine dw nx (.slice ta tl.length tc) ?r1 (.tmp 6) ?r2 w.heap.size ?r3 _ HQ.out.1 ?_;(case r2=>exact rfl);(case r1=>exact rfl);(case r3=>exact rfl)))
         exact ab hQ _ (by kernel_rfl) (O_ _ _) rfl
        case refine_5 =>
         have c:=(HX.out wq HBQ.out).2.2;intro Q hQ;simp only[ay,upd,Act.put,B_,C_,D_,Nat.reduceAdd,a_,Nat.reduceEqDiff,if_true,if_false,reduceIte];go_wp2;exact ab hQ _ (by kernel_rfl) (O_ _ _) rfl
        case refine_6 =>
         have HQ:=O (HX.out wq HBQ.out);intro Q hQ;simp only[ay,upd,Act.put,B_,C_,D_,Nat.reduceAdd,a_,Nat.reduceEqDiff,if_true,if_false,reduceIte]
         go_wp2_with (first
          |(go_at_call 56;refine(HGX.out _ HQ.out.2.1).mono ?_;rintro e x1 ⟨rfl,hx1⟩;have HX1:=O hx1;clear hx1))
         exact ab hQ _ (by kernel_rfl) HX1.out rfl
        case refine_10 =>
         obtain rfl:=hd (by decide);intro Q hQ;simp only[ay,upd,Act.put,B_,C_,D_,Nat.reduceAdd,a_,Nat.reduceEqDiff,if_true,if_false,reduceIte];go_wp2;exact ab hQ _ (by kernel_rfl) ((O_ _ _).alloc (A_ _) _) ⟨wq.heap.size,rfl,HBQ.out.size,heap_alloc_new _ _⟩
        all_goals (intro Q hQ;simp only[ay,upd,Act.put,B_,C_,D_,Nat.reduceAdd,a_,Nat.reduceEqDiff,if_true,if_false,reduceIte];go_wp2;exact ab hQ _ (by kernel_rfl) (O_ _ _) rfl)
       case h6 =>
        intro wq hbq vals;have HBQ:=O hbq;clear hbq;rw[show List.range 11=[0,1,2,3,4,5,6,7,8,9,10] from by decide]
        repeat (first |refine ar ?_|refine aw rfl ?_)
        refine aG rfl ?_;rintro v9 ⟨g17,rfl,hg1,hg2⟩;refine aw rfl ?_;refine ar ?_;have HGK:=O hg2;clear hg1 hg2;simp only[F_,c_,J_,L_];simp only[ay,upd,Act.put,B_,C_,D_,Nat.reduceAdd,a_,Nat.reduceEqDiff,if_true,if_false,reduceIte]
        go_upto_region 14 with fail
        have HLS7:=O (hls.out.on HBQ.out);have HR7:=O (ST.out.on _ _ HR.out HBQ.out);clear HBQ HX HGX hls HR;generalize wq=w7 at HGK HLS7 HR7 ⊢;have c15:=(e_ _ _ 1 _ _ _ HLS7.out.r15).trans (zS _ _)
        go_upto_region 16 with fail
        have HA:Hid (Below w7.heap.size w7 (w7.alloc (.cells (kc k) 86))):=O ((O_ w7.heap.size w7).alloc (A_ _) _);have HAR:Hid (RdE eK (w7.alloc (.cells (kc k) 86)) (.slice (some ⟨w7.heap.size,0,none⟩) 1 1) [k]):=O (Fi (heap_alloc_new _ _));have HLSA:=O (HLS7.out.on HA.out)
        go_upto_region 17 with (first
         |(refine dY k g17 _ HGK.out ?r1 (.tmp 17) ?r2 ?r3 ?_;(case r2=>exact rfl);(case r1=>exact rfl);(case r3=>exact rfl))
         |(refine CG k ?r1 (.tmp 67) ?r2 ?r3 ?_;(case r2=>exact rfl);(case r1=>exact rfl);(case r3=>exact rfl))
         |(at_builtin;refine br AN rfl (.tmp 66) (.tmp 68) rfl (W3.heap.size+2) _ _ rfl HLSA.out.lo (.slice (some ⟨w7.heap.size,0,none⟩) 1 1) [k] rfl HAR.out (by have := HLL.out;have := HLEN.out;have := HLI.out;simp;omega) HLSA.out.sz ?_;intro v8 y8 ho8 hg8 hq8;obtain⟨l8,hl8⟩:∃l8,l8=lv++[k]:=⟨_,rfl⟩;rw[←hl8] at ho8;have HL8:=O hl8;obtain⟨a8,c8,e8,hB,h14,h15,hsk,hlo,hsz,hr15⟩:=HLSA.out.app ho8 hg8;subst e8;have HN:=O (And.intro hB (And.intro h14 (And.intro h15 (And.intro hsk (And.intro hlo hsz)))));have HS15:=O (B6 y8 _ 0 _ a8 l8.length c8 _ hr15);clear ho8 hg8 hq8 hl8 hB h14 h15 hsk hlo hsz hr15)
         |(refine bW ?r1 43 (.tmp 70) (.tmp 69) ?r2 ⟨W3.heap.size+1,1,none⟩ (.slice a8 l8.length c8) ?r3 ?r4 HS15.out ?_;(case r2=>exact rfl);(case r1=>exact rfl);(case r3=>exact rfl);(case r4=>exact rfl)))
        try simp only[Act.put]
        generalize y8.setRow (W3.heap.size+1) (tbA 0 (.slice a8 l8.length c8))=y9 at HN ⊢;clear HLSA HLS7 HA HAR HS15 HGK c15 HR7;have HR9:=O (ST.out.on _ _ HJ.out HN.out.1);have HX:Hid (∀y,Below y9.heap.size y9 y→y.heap[W3.heap.size]?=some (.cells (tbA nx (.slice sa sl.length sc)) 45 (0,0))∧RdK y (.slice sa sl.length sc) sl∧y.cell? ⟨b3,f3+i,none⟩=some (.int .i64 x)):=O (fun y hy=>⟨aa HN.out.2.1 hy,HN.out.2.2.2.1.on hy,HCX.out y ((HR9.out.2.2.2.2.2.2).on hy)⟩);have HRX:=O (fun (y:World) (h:RdK y (.slice sa sl.length sc) sl)=>HRM.out (.slice sa sl.length sc) sl x y h HGN.out (by have := HLL.out.1;omega));clear HGN HCX;generalize rmK sl x=l2 at HRX HST;refine region_relS 10 11 (by decide) [[],[],[],[1,2],[3],[0,4],[5],[6],[6],[],[7,9]] (fun d=>SP.of [.eq (.agg (tbA nx (.slice sa sl.length sc))),.eq (.slice (some ⟨b3,f3,none⟩) ids.length ic),.eq (.int .i64 i),.eq (.pointer (some ⟨b3,f3+i,none⟩)),.eq (.int .i64 x),SP.rmv y9.heap.size nx l2,SP.rmv y9.heap.size nx l2,SP.rmt y9.heap.size nx l2,.eq (.int .i64 0),cond d (SP.rmg y9.heap.size nx l2) (.fresh y9.heap.size (tbA 0 ah) 45),.eq undef]) (fun i=>([u72,u73,u74,u75,u76,u77,u71,u78,u79,u19]:List Value).getD i undef) ?h1 ?h2 ?h3 ?h4 ?h5 ?h6
        case h1=>kernel_rfl
        case h2=>kernel_rfl
        case h3=>kernel_rfl
        case h4 =>
         simp only[F_,c_]
         repeat (first |exact trivial|refine⟨fun vals v=>by kernel_rfl,?_⟩)
        case h5 =>
         simp only[F_,c_];refine⟨?_,?_,?_,?_,?_,?_,?_,?_,?_,?_,?_,trivial⟩
         case refine_11 =>
          rw[G_ rfl];intro wq hbq vals;have HBQ:=O hbq;clear hbq;simp only[Nat.reduceAdd,a_,X_,W_];refine aG rfl ?_;rintro v7 ⟨ra,rc,rfl,hr1,hr2⟩;refine aG rfl ?_;rintro v9 ⟨g19,rfl,hg1,hg2⟩;refine ar ?_;have HG:=O (And.intro hg1 hg2);have HR1:=O (And.intro hr1 hr2);clear hg1 hg2 hr1 hr2;intro Q hQ;simp only[ay,upd,Act.put,B_,C_,D_,Nat.reduceAdd,a_,Nat.reduceEqDiff,if_true,if_false,reduceIte]
          go_wp2_with (first
           |(refine aM (T:=45) (tbA nx (.slice ra l2.length rc)) (cZ _ _) ?r1 (.tmp 19) (.tmp 78) ?r2 g19 (tbA 0 ah) ?r3 ?r4 (dP _ _ _ _) (fg _ _ _ _) HG.out.2 ?_;(case r2=>exact rfl);(case r1=>exact rfl);(case r3=>exact rfl);(case r4=>exact rfl);intro w7 hge7 hoe7 hbe7;have HS7:=O (And.intro hge7 (And.intro hoe7 hbe7));clear hge7 hoe7 hbe7))
          refine relEnd_finC hQ undef (by kernel_rfl) (HS7.out.2.2 _ HG.out.1) ?_ rfl;intro j hj hne hp
          rcases (by omega:j=0∨j=1∨j=2∨j=3∨j=4∨j=5∨j=6∨j=7∨j=8∨j=9) with rfl|rfl|rfl|rfl|rfl|rfl|rfl|rfl|rfl|rfl
          ·exact hp
          ·exact hp
          ·exact hp
          ·exact hp
          ·exact hp
          ·obtain⟨pa,pc,pe,pr,ph⟩:=hp;exact⟨pa,pc,pe,pr.nb HG.out.2 (pA _ _ _ _) HS7.out.2.1 (HS7.out.2.2 0 (N_ _)).size,ph⟩
          ·obtain⟨pa,pc,pe,pr,ph⟩:=hp;exact⟨pa,pc,pe,pr.nb HG.out.2 (pA _ _ _ _) HS7.out.2.1 (HS7.out.2.2 0 (N_ _)).size,ph⟩
          ·obtain⟨pa,pc,pe,pr,ph⟩:=hp;exact⟨pa,pc,pe,pr.nb HG.out.2 (pA _ _ _ _) HS7.out.2.1 (HS7.out.2.2 0 (N_ _)).size,ph⟩
          ·exact hp
          ·exact⟨g19,ra,rc,rfl,HG.out.1,HS7.out.1,HR1.out.1.nb HG.out.2 (pA _ _ _ _) HS7.out.2.1 (HS7.out.2.2 0 (N_ _)).size,HR1.out.2⟩
         all_goals (rw[H_ (by decide)];intro d wq hd hbq vals;simp only[Nat.reduceAdd,a_,X_,W_];have HBQ:=O hbq;clear hbq;repeat (first |refine ar ?_|refine aw rfl ?_))
         case refine_1 =>
          have HQ:=O (HX.out wq HBQ.out);intro Q hQ;simp only[ay,upd,Act.put,B_,C_,D_,Nat.reduceAdd,a_,Nat.reduceEqDiff,if_true,if_false,reduceIte]
          go_wp2_with (first
           |(refine dw nx (.slice sa sl.length sc) ?r1 (.tmp 14) ?r2 W3.heap.size ?r3 _ HQ.out.1 ?_;(case r2=>exact rfl);(case r1=>exact rfl);(case r3=>exact rfl)))
          exact ab hQ _ (by kernel_rfl) (O_ _ _) rfl
         case refine_5 =>
          have c:=(HX.out wq HBQ.out).2.2;intro Q hQ;simp only[ay,upd,Act.put,B_,C_,D_,Nat.reduceAdd,a_,Nat.reduceEqDiff,if_true,if_false,reduceIte];go_wp2;exact ab hQ _ (by kernel_rfl) (O_ _ _) rfl
         case refine_6 =>
          have HQ:=O (HX.out wq HBQ.out);intro Q hQ;simp only[ay,upd,Act.put,B_,C_,D_,Nat.reduceAdd,a_,Nat.reduceEqDiff,if_true,if_false,reduceIte]
          go_wp2_with (first
           |(go_at_call 57;refine(HRX.out _ HQ.out.2.1).mono ?_;rintro e x1 ⟨ra,rn,rc,rfl,hr1,hx1,hr2⟩;obtain⟨ra',rc',er,_,_,_⟩:=id hr1;cases er;have HX1:=O (And.intro hx1 (And.intro hr1 (fun b hb=>M_ HBQ.out.size (hr2 b hb))));clear hx1 hr1 hr2))
          exact ab hQ _ (by kernel_rfl) HX1.out.1 ⟨_,_,rfl,HX1.out.2.1,HX1.out.2.2⟩
         case refine_7 =>
          refine aG rfl ?_;rintro v5 ⟨ra,rc,rfl,hr1,hr2⟩;refine ar ?_;intro Q hQ;simp only[ay,upd,Act.put,B_,C_,D_,Nat.reduceAdd,a_,Nat.reduceEqDiff,if_true,if_false,reduceIte];go_wp2;exact ab hQ _ (by kernel_rfl) (O_ _ _) ⟨_,_,rfl,hr1,hr2⟩
         case refine_8 =>
          refine aG rfl ?_;rintro v5 ⟨ra,rc,rfl,hr1,hr2⟩;refine ar ?_;intro Q hQ;simp only[ay,upd,Act.put,B_,C_,D_,Nat.reduceAdd,a_,Nat.reduceEqDiff,if_true,if_false,reduceIte];go_wp2;exact ab hQ _ (by kernel_rfl) (O_ _ _) ⟨_,_,rfl,hr1,hr2⟩
         case refine_9 =>
          refine aG rfl ?_;rintro v5 ⟨ra,rc,rfl,hr1,hr2⟩;refine ar ?_;intro Q hQ;simp only[ay,upd,Act.put,B_,C_,D_,Nat.reduceAdd,a_,Nat.reduceEqDiff,if_true,if_false,reduceIte];go_wp2;exact ab hQ _ (by kernel_rfl) (O_ _ _) rfl
         case refine_10 =>
          obtain rfl:=hd (by decide);intro Q hQ;simp only[ay,upd,Act.put,B_,C_,D_,Nat.reduceAdd,a_,Nat.reduceEqDiff,if_true,if_false,reduceIte];go_wp2;exact ab hQ _ (by kernel_rfl) ((O_ _ _).alloc (A_ _) _) ⟨wq.heap.size,rfl,HBQ.out.size,heap_alloc_new _ _⟩
         all_goals (intro Q hQ;simp only[ay,upd,Act.put,B_,C_,D_,Nat.reduceAdd,a_,Nat.reduceEqDiff,if_true,if_false,reduceIte];go_wp2;exact ab hQ _ (by kernel_rfl) (O_ _ _) rfl)
        case h6 =>
         intro wq hbq vals;have HBQ:=O hbq;clear hbq;rw[show List.range 11=[0,1,2,3,4,5,6,7,8,9,10] from by decide]
         repeat (first |refine ar ?_|refine aw rfl ?_)
         refine aG rfl ?_;rintro v5 ⟨_,_,rfl,_,_⟩;refine aG rfl ?_;rintro v6 ⟨_,_,rfl,_,_⟩;refine aG rfl ?_;rintro v7 ⟨_,_,rfl,_,_⟩;refine aw rfl ?_;refine aG rfl ?_;rintro v9 ⟨g19,ra,rc,rfl,hg1,hg2,hr1,hr2⟩;refine aw rfl ?_;refine ar ?_;have HRK:=O (And.intro hr1 hr2);have HG19:=O (And.intro hg1 hg2);clear hg1 hg2 hr1 hr2;simp only[F_,c_,J_,L_];simp only[ay,upd,Act.put,B_,C_,D_,Nat.reduceAdd,a_,Nat.reduceEqDiff,if_true,if_false,reduceIte]
         go_upto_region 18 with fail
         have HBA:=HBQ;clear HBQ;generalize wq=wa at HBA HRK HG19 ⊢;have H14:=O (aa HN.out.2.1 HBA.out);have H15:=O (aa HN.out.2.2.1 HBA.out);have HLA:=O (HN.out.2.2.2.2.1.on HBA.out);have HKA:=O HRK.out.1;have HZA:Hid (W3.heap.size+2≤y9.heap.size):=O HN.out.2.2.2.2.2;have HNE:Hid (∀b,ra=some b→∀q,(Value.slice a8 l8.length c8).ownBlock=some q→q≠b.block):=O (fun b hb q hq=>by have h1:=HRK.out.2 b hb;have h2:=(HN.out.2.2.2.2.1.lt q hq).2;omega);have HB0:Hid (Below W3.heap.size W3 wa):=O (HN.out.1.trans (HBA.out.mono (by have := HZA.out;omega)));have HSZ:Hid (W3.heap.size+2≤wa.heap.size):=O (M_ HZA.out HBA.out.size);have HWA:=O HG19.out.2;clear HG19 HRK HN HX HRX HR9 HBA HZA
         go_wp2_with (first
          |(refine dw nx (.slice ra l2.length rc) ?r1 (.tmp 19) ?r2 g19 ?r3 _ HWA.out ?_;(case r2=>exact rfl);(case r1=>exact rfl);(case r3=>exact rfl))
          |(refine aM (T:=45) (tbA nx (.slice ra l2.length rc)) (cZ _ _) ?r1 (.tmp 14) (.tmp 80) ?r2 W3.heap.size (tbA nx (.slice sa sl.length sc)) ?r3 ?r4 (dP _ _ _ _) (fg _ _ _ _) H14.out ?_;(case r2=>exact rfl);(case r1=>exact rfl);(case r3=>exact rfl);(case r4=>exact rfl);intro wb hgb hob hbb;have HLSN:Hid (LS W3 nx l2 l8 ra rc a8 c8 wb):=O ⟨HB0.out.trans (hbb _ (A_ _)),hgb,(hob _ (by omega)).trans H15.out,HKA.out.nb H14.out (pA _ _ _ _) hob (hbb 0 (N_ _)).size,HLA.out.but (HLA.out.neOld (by omega)) hob,HNE.out,M_ HSZ.out (hbb 0 (N_ _)).size⟩;clear hgb hob hbb))
         go_roundw
         case rel=>exact⟨i+1,l2,l8,ra,rc,a8,c8,HLI.out,by go_num,O HST.out.1,O ⟨HST.out.2.1,HST.out.2.2.trans HL8.out.symm⟩,HLSN⟩
         case measure=>have := HLI.out;simp[intOf];omega
    ·have k1:(ids.length:Int)≤i:=by omega
     have hti:ids.take i=ids:=Y_ (by omega);rw[hti] at hall hlist;obtain⟨hA1,hA2,hA3⟩:=HAL.out HINC.out hall.out;have hl1:lv=bJ ids tl:=hlist.out.2.symm.trans hA1;have hl2:sl=kF ids tl:=hlist.out.1.symm.trans hA2;have HPT2:=HPT.out;rw[←hl1,←hl2] at HPT2;rw[←hl1] at hA3;have HNL:Hid (cQ lv):=O (by rw[hl1];exact HNK.out ids);have HLV:Hid (lv.length≤100):=O (by rw[hl1];exact M_ (List.length_filter_le _ _) HLEN.out.1)
     rcases HPT2 with⟨hlt2,_⟩|HPT3
     ·exact absurd hlt2 hA3
     have HP3:=O HPT3;clear HPT3 HPT hl1 hl2 hA1 hA2 hA3 hti hall hlist hlt hi HAL HNO HLT HGT HRM HLS0 HNK
     rename World=>W4
     go_upto_region 19 with fail
     clear k1;generalize cP s need n=fd at HNW HDM HP3;have HJ0:=HJ;clear HJ0;replace HJ:=HR;clear HR;replace HJ:=O (And.intro HJ.out hls.out.r14);replace ST:=O (ST.out.and (bS.row W3.heap.size (tbA nx (.slice sa sl.length sc)) 45));replace HJ:=O (And.intro HJ.out hls.out.r15);replace ST:=O (ST.out.and (bS.row (W3.heap.size+1) (tbA 0 (.slice la lv.length lc)) 45));replace HJ:=O (And.intro HJ.out hls.out.sk);replace ST:=O (ST.out.and (bS.rdK (.slice sa sl.length sc) sl));replace HJ:=O (And.intro HJ.out (Lg hls.out.lo.rd));replace ST:=O (ST.out.and (bS.rdK (.slice la lv.length lc) lv));clear hls
     go_upto_region 20 with (first
      |(refine mA s ?r1 (.tmp 9) ?r2 (w.heap.size+2) ?r3 _ (HJ.out.1.1.1.1.2.2.2.1) ?_;(case r2=>exact rfl);(case r1=>exact rfl);(case r3=>exact rfl))
      |(go_at_call 11;refine(HNW.out _ (HK.out _ (HJ.out.1.1.1.1.1)) (by have := (Q_.1 (HJ.out.1.1.1.1.2.2.2.2.1)).1;omega)).mono ?_;rintro e yy ⟨ha,hn,hc,rfl,hso,hb⟩;replace HJ:=O (ST.out.on _ _ HJ.out hb);have HSO:=O hso;clear hso;clear hb)
      |(refine aH (foA fd.d (.slice ha hn hc) fd.r fd.e) 36 ?r1 (.tmp 21) (.tmp 84) ?r2 yy.heap.size ?r3 ?r4 ?r5 (fU _ _ _ _) (by rw[fQ,ed]) (ie _ _ _ _ _ _) ?_;(case r2=>exact rfl);(case r1=>exact rfl);(case r3=>exact rfl);(case r4=>exact rfl);(case r5=>exact rfl)))
     replace HJ:=O (And.intro HJ.out HSO.out);replace ST:=O (ST.out.and (bS.ownE eH (w.heap.size+4) (.slice ha hn hc) fd.l));clear HSO
     try simp only[Act.put]
     obtain⟨gR21,hg,hj⟩:=ST.out.new HJ.out (foA fd.d (.slice ha hn hc) fd.r fd.e) 36;rw[←hg];generalize yy.alloc (.cells (foA fd.d (.slice ha hn hc) fd.r fd.e) 36)=Y1 at hj ⊢;replace HJ:=O hj;replace ST:=O (ST.out.and (bS.row gR21 (foA fd.d (.slice ha hn hc) fd.r fd.e) 36));clear hj hg;have c21:=(e_ _ _ 21 _ _ _ (HJ.out.2)).trans (uW _ _ _ _);obtain⟨fdd,fdl,fdr,fde⟩:=fd;dsimp only at HP3 HDM HJ ST c21 ⊢
     rcases HP3.out with⟨_,hne,hsp⟩|HP4
     ·have HSP:=O hsp
      have b1:(fde != 0)=true:=by rw[bne_iff_ne];exact hne
      clear hne hsp HP3
      go_wp2_with (first
       |(refine pY fde ?r1 (.tmp 89) ?r2 ?r3 ?_;(case r2=>exact rfl);(case r1=>exact rfl);(case r3=>exact rfl))
       |(refine aM (T:=67) (prA 0 ah zD ah [] ah [] fde) (lQ _ _ _ _ _ _ _ _) ?r1 (.tmp 12) (.tmp 90) ?r2 (w.heap.size+3) zPR ?r3 ?r4 (nR _ _ _ _ _ _ _ _ _ _ _ _ _ _) (rP _ _ _ _ _ _ _ _) (HJ.out.1.1.1.1.1.1.2.2.2.2.1) ?_;(case r2=>exact rfl);(case r1=>exact rfl);(case r3=>exact rfl);(case r4=>exact rfl);intro w7 hge7 hoe7 hbe7;have HE7:Hid (w7.heap[w.heap.size+3]?=some (.cells (prA 0 ah zD ah [] ah [] fde) 67 (0,0))∧Below w.heap.size w w7):=(O ⟨hge7,(HJ.out.1.1.1.1.1.1.1).trans (hbe7 _ (by omega))⟩);clear hge7 hoe7 hbe7))
      refine g_ (bB rfl _ _ (w.heap.size+3) _ rfl (rV _ _ _ _ _ _ _ _ _ _ _ HE7.out.1)) rfl ?_;rw[HSP.out];exact⟨none,0,0,none,0,0,none,0,0,rfl,RdK.nil _,(ap.nil _ 0).rd,(ap.nil _ 0).rd,HE7.out.2⟩
     have HP5:=O HP4;clear HP4 HP3
     obtain rfl:fde=0:=by rcases HP5.out with⟨_,h,_⟩|⟨_,h,_⟩;exact h;exact h
     have HBX:=O (fun (y:World) (a:cA y) (hv:RdK y (.slice la lv.length lc) lv)=>HBK.out fdd HDM.out (.slice la lv.length lc) lv HNL.out HLV.out y a hv);generalize dbE fdd b lv=E2 at HBX HP5;generalize dbX fdd b lv=X2 at HBX HP5;generalize dbD fdd b lv=D2 at HBX HP5
     go_upto_region 22 with fail
     clear c21
     go_upto_region 23 with (first
      |(refine Km fdd gR21 0 (.tmp 91) ?r1 (qL (HJ.out.2)) ?r2 ?r3 ?_;(case r1=>exact rfl);(case r2=>exact rfl);(case r3=>exact rfl))
      |(refine dw 0 (.slice la lv.length lc) ?r1 (.tmp 15) ?r2 (W3.heap.size+1) ?r3 _ (HJ.out.1.1.1.1.2) ?_;(case r2=>exact rfl);(case r1=>exact rfl);(case r3=>exact rfl))
      |(refine cH b (.slice ua un uc) ?r1 (.tmp 8) ?r2 (w.heap.size+1) ?r3 _ (HJ.out.1.1.1.1.1.1.2.2.1) ?_;(case r2=>exact rfl);(case r1=>exact rfl);(case r3=>exact rfl))
      |(go_at_call 20;refine(HBX.out _ (HK.out _ (HJ.out.1.1.1.1.1.1.1)) (HJ.out.1.1.2)).mono ?_;rintro e yy ⟨rfl,hb⟩;replace HJ:=O (ST.out.on _ _ HJ.out hb);clear hb)
      |(refine aH (bkA D2 X2 E2) 53 ?r1 (.tmp 22) (.tmp 95) ?r2 yy.heap.size ?r3 ?r4 ?r5 (lP _ _ _) (sw _ _ _) (nF _ _ _) ?_;(case r2=>exact rfl);(case r1=>exact rfl);(case r3=>exact rfl);(case r4=>exact rfl);(case r5=>exact rfl)))
     try simp only[Act.put]
     obtain⟨gR22,hg,hj⟩:=ST.out.new HJ.out (bkA D2 X2 E2) 53;rw[←hg];generalize yy.alloc (.cells (bkA D2 X2 E2) 53)=Y2 at hj ⊢;replace HJ:=O hj;replace ST:=O (ST.out.and (bS.row gR22 (bkA D2 X2 E2) 53));clear hj hg;have c20:=(e_ _ _ 20 _ _ _ (HJ.out.2)).trans (Qz _ _ _)
     rcases HP5.out with⟨_,_,hne,hsp⟩|⟨_,_,he2,hsp⟩
     ·have HSP:=O hsp
      have b1:(E2 != 0)=true:=by rw[bne_iff_ne];exact hne
      clear hne hsp HP5
      go_wp2_with (first
       |(refine pY E2 ?r1 (.tmp 100) ?r2 ?r3 ?_;(case r2=>exact rfl);(case r1=>exact rfl);(case r3=>exact rfl))
       |(refine aM (T:=67) (prA 0 ah zD ah [] ah [] E2) (lQ _ _ _ _ _ _ _ _) ?r1 (.tmp 12) (.tmp 101) ?r2 (w.heap.size+3) zPR ?r3 ?r4 (nR _ _ _ _ _ _ _ _ _ _ _ _ _ _) (rP _ _ _ _ _ _ _ _) (HJ.out.1.1.1.1.1.1.1.2.2.2.2.1) ?_;(case r2=>exact rfl);(case r1=>exact rfl);(case r3=>exact rfl);(case r4=>exact rfl);intro w7 hge7 hoe7 hbe7;have HE7:Hid (w7.heap[w.heap.size+3]?=some (.cells (prA 0 ah zD ah [] ah [] E2) 67 (0,0))∧Below w.heap.size w w7):=(O ⟨hge7,(HJ.out.1.1.1.1.1.1.1.1).trans (hbe7 _ (by omega))⟩);clear hge7 hoe7 hbe7))
      refine g_ (bB rfl _ _ (w.heap.size+3) _ rfl (rV _ _ _ _ _ _ _ _ _ _ _ HE7.out.1)) rfl ?_;rw[HSP.out];exact⟨none,0,0,none,0,0,none,0,0,rfl,RdK.nil _,(ap.nil _ 0).rd,(ap.nil _ 0).rd,HE7.out.2⟩
     subst he2;have HSP:=O hsp;clear hsp HP5
     go_upto_region 25 with fail
     clear c20;have HZ3:Hid (w.heap.size+3<Y2.heap.size):=O (Q_.1 (HJ.out.1.1.1.1.1.1.1.2.2.2.2.1)).1;have HA:Hid (Below Y2.heap.size Y2 (Y2.alloc (.cells #[] 3))):=O ((O_ _ _).alloc (A_ _) _);have HE0:Hid (ap eI (Y2.alloc (.cells #[] 3)) Y2.heap.size (.slice (some ⟨Y2.heap.size,0,none⟩) 0 0) []):=O (yQ Y2 rfl);have HIA:=O ((HJ.out.1.1.1.1.1.1.1.2.2.2.2.2.2).on HA.out)
     go_upto_region 26 with (first
      |(at_builtin;refine br iB rfl (.tmp 102) (.tmp 103) rfl Y2.heap.size _ [] rfl HE0.out _ ids rfl HIA.out (by have := HLEN.out.2;simp;omega) HA.out.size ?_;intro v8 y8 ho8 hg8 hl8;rw[List.nil_append] at ho8;have HO8:=O ho8;have HB8:Hid (Below Y2.heap.size Y2 y8):=O (HA.out.trans (HE0.out.below hg8 HA.out.size));clear ho8 hg8 hl8))
     obtain⟨ga,gc,rfl,_⟩:=id HO8.out.rd;replace HJ:=O (ST.out.on _ _ HJ.out HB8.out);clear HA HE0 HIA HB8;have d19:=(e_ _ _ 19 _ _ _ (HJ.out.1.2)).trans (JR _ _ _ _);have e19:=(e_ _ _ 19 _ _ _ (HJ.out.2)).trans (Qy _ _ _)
     go_wp2_with (first
      |(refine dw nx (.slice sa sl.length sc) ?r1 (.tmp 14) ?r2 W3.heap.size ?r3 _ (HJ.out.1.1.1.1.1.1.2) ?_;(case r2=>exact rfl);(case r1=>exact rfl);(case r3=>exact rfl))
      |(refine Km D2 gR22 0 (.tmp 106) ?r1 (BQ (HJ.out.2)) ?r2 ?r3 ?_;(case r1=>exact rfl);(case r2=>exact rfl);(case r3=>exact rfl))
      |(refine NG nx D2 X2 sa ha ga sl.length hn ids.length sc hc gc ?r1 (.tmp 105) (.tmp 107) (.tmp 109) (.tmp 111) (.tmp 112) ?r2 ?r3 ?r4 ?r5 ?r6 ?r7 ?_;(case r2=>exact rfl);(case r1=>exact rfl);(case r3=>exact rfl);(case r4=>exact rfl);(case r5=>exact rfl);(case r6=>exact rfl);(case r7=>exact rfl))
      |(refine SD fdr gR21 20 (.tmp 114) ?r1 (Lb (HJ.out.1.2)) ?r2 ?r3 ?_;(case r2=>exact rfl);(case r1=>exact rfl);(case r3=>exact rfl))
      |(refine RL nx D2 X2 fdr sa ha ga sl.length hn ids.length sc hc gc ?r1 (.tmp 113) (.tmp 115) ?r2 ?r3 ?r4 ?_;(case r2=>exact rfl);(case r1=>exact rfl);(case r3=>exact rfl);(case r4=>exact rfl))
      |(refine aM (T:=67) (prA nx (.slice sa sl.length sc) D2 (.slice ha hn hc) X2 (.slice ga ids.length gc) fdr 0) (lQ _ _ _ _ _ _ _ _) ?r1 (.tmp 12) (.tmp 116) ?r2 (w.heap.size+3) zPR ?r3 ?r4 (nR _ _ _ _ _ _ _ _ _ _ _ _ _ _) (rP _ _ _ _ _ _ _ _) (HJ.out.1.1.1.1.1.1.1.2.2.2.2.1) ?_;(case r2=>exact rfl);(case r1=>exact rfl);(case r3=>exact rfl);(case r4=>exact rfl);intro w7 hge7 hoe7 hbe7;have HE7:Hid (w7.heap[w.heap.size+3]?=some (.cells (prA nx (.slice sa sl.length sc) D2 (.slice ha hn hc) X2 (.slice ga ids.length gc) fdr 0) 67 (0,0))∧Below w.heap.size w w7):=(O ⟨hge7,(HJ.out.1.1.1.1.1.1.1.1).trans (hbe7 _ (by omega))⟩);have HSK7:=O ((HJ.out.1.1.1.1.2).nb (HJ.out.1.1.1.1.1.1.1.2.2.2.2.1) ON hoe7 (hbe7 0 (N_ _)).size);have HSH7:=O (((HJ.out.1.1.2).but ((HJ.out.1.1.2).neOld (by omega)) hoe7).rd);have HGO7:=O ((HO8.out.but (HO8.out.neOld (by have := HZ3.out;omega)) hoe7).rd);clear hge7 hoe7 hbe7))
     refine g_ (bB rfl _ _ (w.heap.size+3) _ rfl (rV _ _ _ _ _ _ _ _ _ _ _ HE7.out.1)) rfl ?_;rw[HSP.out];exact⟨sa,sl.length,sc,ha,hn,hc,ga,ids.length,gc,rfl,HSK7.out,HSH7.out,HGO7.out,HE7.out.2⟩
end
section
open Go.RowKit Go.Shelf
theorem aad {w:World} {v:Value} {l:List K} (h:RdK w v l):RdE eK w v l:=by
 obtain⟨a,cap,rfl,h1,h2,h3⟩:=h;refine⟨a,cap,rfl,h1,h2,fun h0 => ?_⟩;obtain⟨b,off,rfl,hb,hc⟩:=h3 h0;refine⟨b,off,rfl,hb,fun j u hu => ?_⟩;have hj:j<(eK.flat l).length:=(d_.1 hu).1;rw[El.flat_len AN l] at hj;have hj2:j<l.length*9:=hj
 have hq:j / 9<l.length:=by omega
 have hr:j % 9<9:=by omega
 have ej:j / 9*9+j % 9=j:=by omega
 have e:=El.flat_at AN l (j / 9) (j % 9) hq hr;rw[show j / 9*eK.c+j % 9=j from ej,hu] at e;have h9:=hc (j / 9) hq (j % 9) hr;rw[show off+j / 9*9+j % 9=off+j by omega,az l _ hq,←Array.getElem?_toList] at h9;rw[h9];exact e.symm
theorem Yc {α:Type} {E:El α} {w:World} {ops:Array Oper} {rest:List Oper} {o:Oper} {a:Act} {Q:Exit→Act→World→Prop} (hE:E.OK) (hgd:o.guard=none) (s x:Operand)
  (ho:o.op = .call { callee := .builtin .append,args := #[s,x],argTypes := #[E.S,E.S] }) (p:Addr) (hs:a.eval s = .slice (some p) 0 0) (xv:Value) (news:List α) (hx:a.eval x=xv) (hr:RdE E w xv news) (hsz:news.length≤1000000)
  (h:∀v' w',RdE E w' v' news→Below w.heap.size w w'→wpList prog ops Q rest (a.put o.dst v') w'):wpList prog ops Q (o::rest) a w:=by
 obtain⟨i0,z0,hi,hz,hs9,hz9,hb0,hb1⟩:=hE.info';have hfl:=hr;obtain⟨ad,cap,rfl,hcap,_,hc⟩:=hr;have hflat:=hfl.flatc hE
 cases news with
 | nil =>
   have hsrc:Src prog i0.size E.S (.slice ad 0 cap) 0 [] w:=by
    cases ad with
    | none=>exact Src.ofNil w hE.und cap
    | some p=>exact Src.ofSlice w hE.und p 0 cap [] (by simp) (fun j u hj=>by simp at hj) (fun u hu=>by simp at hu)
   have hrun:=run_append_nothing (P:=prog) w E.S E.S o.type E.T i0 hE.und hi (some p) 0 0 (A_ _) (.slice ad 0 cap) hsrc;refine wpList_plain hgd fun K hK => ?_;unfold Oper.wp execOp;have hx':a.eval x = .slice ad 0 cap:=hx;simp only[ho,resolve,invoke,builtin,Sem.run_bind,Sem.run_pure,Result.andThen_ok,List.map_toArray,List.map_cons,List.map_nil,hs,hx',hrun];exact hK _ _ (h _ _ ⟨_,_,rfl,A_ _,by unfold maxLen;omega,fun h0=>absurd h0 (by simp)⟩ (O_ _ _))
 | cons c l =>
   obtain⟨b,off,e,_⟩:=hc (by simp);subst e;refine wpList_append_grows w hgd s x E.S ho E.T i0 z0 E.c i0.bytes hE.und hi hz hs9 rfl hz9 hE.pos (some p) 0 0 [] hs (fun e=>by cases e) (by simp) (fun _ _ j u hj=>by simp at hj) _ (c::l).length cap (E.flat (c::l)) hx (El.flat_len hE _) (hflat _ rfl) (El.flat_one hE _) (by simp) (by unfold maxLen;omega) (M_ (Nat.mul_le_mul (show 0+(c::l).length≤1000000 by rw[a_];exact hsz) hb1) (by decide)) ?_;intro v' w' h1 h2;rw[a_,List.nil_append] at h1;exact h v' w' (ap.rd (E:=E) (ai:=w.heap.size) h1) ((O_ _ _).grown h2 (A_ _) (fun _ hk=>by cases hk))
theorem YS (b:BK) (u:Value) (g off:Nat) (x:Operand) (ho:o.op = .load 47 x) (hc:w.rangeAt g off (bc b u).toList) (hx:a.eval x = .pointer (some ⟨g,off,none⟩)) (hgd:Region.wanted o (yielded ops a.tmps)=true)
  (h:wpList prog ops Q rest (a.put o.dst (.agg (bc b u))) w):wpList prog ops Q (o::rest) a w :=
 wpList_step fun K hK=>by
  rw[G_ hgd];exact wp_load_mid _ x ho g off hx (bc b u).toList _ hc underlying47 rfl (by rw[Array.length_toList,aC];exact dU) (hK _ _ h)
theorem Zq (nx:Int) (v vi:Value) (b:BK) (u:Value) (sd:List UInt8) (need n:Int):∃C,C=(siC nx v vi b u sd need n).toArray:=⟨_,rfl⟩
def SP.e0:SP := .pred (fun v _=>∃g,v = .slice (some ⟨g,0,none⟩) 0 0) (fun _ _ _ _ h=>h)
def SP.cpk (l:List K):SP := .pred (fun v y=>∃a c,v = .slice a l.length c∧RdK y (.slice a l.length c) l) (fun _ _ _ hb ⟨a,c,e,h⟩=>⟨a,c,e,h.on hb⟩)
def SP.cpt (n:Int) (l:List K):SP := .pred (fun v y=>∃a c,v = .agg (tbA n (.slice a l.length c))∧RdK y (.slice a l.length c) l) (fun _ _ _ hb ⟨a,c,e,h⟩=>⟨a,c,e,h.on hb⟩)
theorem Zt (nx:Int) (vt:Value) (tl:List K) (vi:Value) (ids:List Int) (b:BK) (ua:Option Addr) (un uc:Nat) (s:List UInt8) (need n:Int) (w:World) (hk:KAt w) (ht:RdK w vt tl) (hi:RdE eI w vi ids) (hb:b.mach) (hn:cQ tl) (hs:s.length≤900000) (h1:tl.length≤5000) (h2:ids.length≤100000) :
  Calls prog 24 #[.agg (tbA nx vt),vi,.agg (bc b (.slice ua un uc)),.agg (ag s),.int .i64 need,.int .i64 n] w fun e w'=>∃a1 n1 c1 a2 n2 c2 a3 n3 c3,e = .returned (.tuple #[.agg (ptA (dN nx tl ids b s need n).nx (.slice a1 n1 c1) (dN nx tl ids b s need n).d (.slice a2 n2 c2) (dN nx tl ids b s need n).blob (.slice a3 n3 c3)),.agg (ag (dN nx tl ids b s need n).r),.int .i64 (dN nx tl ids b s need n).e]) ∧
   (RdK w' (.slice a1 n1 c1) (dN nx tl ids b s need n).tl∧RdE eH w' (.slice a2 n2 c2) (dN nx tl ids b s need n).sh∧RdE eI w' (.slice a3 n3 c3) (dN nx tl ids b s need n).gone)∧Below w.heap.size w w':=by
 refine(n9 nx vt tl vi ids b ua un uc s need n w hk ht hi hb hn hs h1 h2).mono ?_;rintro e w' ⟨v1,v2,v3,rfl,h1,h2,h3,hb⟩;obtain⟨a1,c1,rfl,_⟩:=id h1;obtain⟨a2,c2,rfl,_⟩:=id h2;obtain⟨a3,c3,rfl,_⟩:=id h3;exact⟨a1,_,c1,a2,_,c2,a3,_,c3,rfl,⟨h1,h2,h3⟩,hb⟩
theorem K7 {nx:Int} {vt:Value} {d:DO} {vs:Value} {x:List UInt8} {vg:Value} {r:List UInt8} {e:Int} {i:Nat} {u:Value} (h:(ptA nx vt d vs x vg)[i]?=some u):(prA nx vt d vs x vg r e)[i]?=some u:=by
 have hi:i<(ptA nx vt d vs x vg).toList.length:=by rw[Array.length_toList];exact(Q_.1 h).1
 unfold prA;rw[List.getElem?_toArray,List.getElem?_append_left hi,Array.getElem?_toList];exact h
theorem aab (nx:Int) (vt:Value) (d:DO) (vs:Value) (x:List UInt8) (vg:Value) (r:List UInt8) (e:Int):(prA nx vt d vs x vg r e)[24]?=some (.string ⟨r.toArray⟩):=by
 unfold prA;rw[List.getElem?_toArray,List.getElem?_append_right (by rw[Array.length_toList,fL];exact A_ _),Array.length_toList,fL]
 rfl
theorem aac (nx:Int) (vt:Value) (d:DO) (vs:Value) (x:List UInt8) (vg:Value) (r:List UInt8) (e:Int):(prA nx vt d vs x vg r e)[25]?=some (.int .i64 e):=by
 unfold prA;rw[List.getElem?_toArray,List.getElem?_append_right (by rw[Array.length_toList,fL];decide),Array.length_toList,fL]
 rfl
theorem Re (nx:Int) (vt:Value) (d:DO) (vs:Value) (x:List UInt8) (vg:Value):∀(i:Nat) (u:Value),(doA d).toList[i]?=some u→(ptA nx vt d vs x vg)[2+i]?=some u:=fun i u hu=>by
 have hd:(doA d).toList=dmc d:=rfl;rw[hd] at hu;have hi:i<(dmc d).length:=(d_.1 hu).1;unfold ptA;rw[List.getElem?_toArray,show 2+i=i+1+1 by omega,List.getElem?_cons_succ,List.getElem?_cons_succ,List.getElem?_append_left hi];exact hu
theorem UE {w:World} {g:Nat} {nx:Int} {vt vs vg:Value} {d:DO} {x:List UInt8} {T:TypeId} (h:w.heap[g]?=some (.cells (ptA nx vt d vs x vg) T (0,0))):w.rangeAt g 2 (doA d).toList:=vB h (Re _ _ _ _ _ _)
theorem UC {w:World} {g:Nat} {nx:Int} {vt vs vg:Value} {d:DO} {x r:List UInt8} {e:Int} {T:TypeId} (h:w.heap[g]?=some (.cells (prA nx vt d vs x vg r e) T (0,0))):w.rangeAt g 2 (doA d).toList:=vB h (fun i u hu=>K7 (Re _ _ _ _ _ _ i u hu))
theorem UF {w:World} {g:Nat} {nx:Int} {vs vg:Value} {d:DO} {x:List UInt8} {T:TypeId} {a1:Option Addr} {n1 c1:Nat} (h:w.heap[g]?=some (.cells (ptA nx (.slice a1 n1 c1) d vs x vg) T (0,0))):w.rangeAt g 0 (tbA nx (.slice a1 n1 c1)).toList:=ou h (Tn _ _ _ _ _ _) rfl
theorem UD {w:World} {g:Nat} {nx:Int} {vs vg:Value} {d:DO} {x r:List UInt8} {e:Int} {T:TypeId} {a1:Option Addr} {n1 c1:Nat} (h:w.heap[g]?=some (.cells (prA nx (.slice a1 n1 c1) d vs x vg r e) T (0,0))):w.rangeAt g 0 (tbA nx (.slice a1 n1 c1)).toList:=ou h (K7 (Tn _ _ _ _ _ _)) (K7 rfl)
end
end
end Go.Proofs.YtmfiaadjdbemnaaGreatDoor
