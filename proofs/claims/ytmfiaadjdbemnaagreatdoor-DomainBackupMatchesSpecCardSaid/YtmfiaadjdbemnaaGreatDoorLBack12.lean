/- Contracts and lemmas. No condition. -/
import Derived.Test.YtmfiaadjdbemnaaGreatDoorLBack08
import Derived.Test.YtmfiaadjdbemnaaGreatDoorLBack11
set_option maxRecDepth 100000
set_option maxHeartbeats 8000000
set_option linter.unusedSimpArgs false
set_option linter.unusedVariables false
namespace Go.Proofs.YtmfiaadjdbemnaaGreatDoor
open Go.Proofs.Tryz
section
variable {ops:Array Oper} {rest:List Oper} {o:Oper} {a:Act} {w:World} {Q:Exit→Act→World→Prop}
section
open Go.RowKit Go.Shelf
theorem DR (d:DO):(d.key.length≠32∧bD d=false)∨(d.key.length=32∧¬0≤d.ep∧bD d=false)∨(d.key.length=32∧0≤d.ep∧¬d.ep≤2147483647∧bD d=false)∨(d.key.length=32∧0≤d.ep∧d.ep≤2147483647∧¬0≤d.bk∧bD d=false) ∨
  (d.key.length=32∧0≤d.ep∧d.ep≤2147483647∧0≤d.bk∧bD d=decide (d.bk≤2147483647)):=by
 unfold bD
 by_cases h:d.key.length=32
 ·rw[decide_eq_true h,Bool.true_and]
  by_cases h1:0≤d.ep
  ·by_cases h2:d.ep≤2147483647
   ·by_cases h3:0≤d.bk
    ·exact .inr (.inr (.inr (.inr ⟨h,h1,h2,h3,by rw[decide_eq_true h1,decide_eq_true h2,decide_eq_true h3];simp⟩)))
    ·exact .inr (.inr (.inr (.inl ⟨h,h1,h2,h3,by rw[V_ h3];simp⟩)))
   ·exact .inr (.inr (.inl ⟨h,h1,h2,by rw[V_ h2];simp⟩))
  ·exact .inr (.inl ⟨h,h1,by rw[V_ h1];simp⟩)
 ·exact .inl ⟨h,by rw[V_ h];rfl⟩
theorem bB {fn:Func} {p:Tmp} {ty:TypeId} (h:fn.results = #[.cell p ty]) (tmps:Array Value) (w:World) (g:Nat) (x:Value)
  (hp:tmps.getD p undef = .pointer (some ⟨g,0,none⟩)) (hld:(loadVar ty ⟨g,0,none⟩).run prog w = .ok x w) :
  (results fn tmps).run prog w = .ok x w:=by
 have hp':tmps[p]?.getD undef = .pointer (some ⟨g,0,none⟩):=by simpa using hp
 simp[results,h,hp',asAddr,hld]
attribute [local irreducible] Calls doA ag
theorem rh (d:DO) (w:World):Calls prog 16 #[.agg (doA d)] w fun e w'=>e = .returned (.bool (bD d))∧Below w.heap.size w w':=by
 obtain⟨W0,hW0⟩:∃W0,W0=w.alloc (.cells (doA d) 25):=⟨_,rfl⟩;have HW:=O hW0
 have hr:W0.heap[w.heap.size]?=some (.cells (doA d) 25 (0,0)):=by rw[hW0];exact heap_alloc_new _ _
 have c16:W0.cell? ⟨w.heap.size,16,none⟩=some (.string ⟨d.key.toArray⟩):=by rw[e_ _ _ _ _ _ _ hr];exact cK d
 have c17:W0.cell? ⟨w.heap.size,17,none⟩=some (.int .i64 d.ep):=by rw[e_ _ _ _ _ _ _ hr];exact gI d
 have c18:W0.cell? ⟨w.heap.size,18,none⟩=some (.int .i64 d.bk):=by rw[e_ _ _ _ _ _ _ hr];exact jL d
 have HB:Hid (Below w.heap.size w W0):=O (by rw[hW0];exact(O_ _ _).alloc (A_ _) _);have HP:=O (DR d);clear hr hW0
 rcases HP.out with⟨h0,hv⟩|⟨h0,h1,hv⟩|⟨h0,h1,h2,hv⟩|⟨h0,h1,h2,h3,hv⟩|⟨h0,h1,h2,h3,hv⟩
 all_goals
  rw[hv];clear HP hv
  first |(have k0:((d.key.length:Int) == 32)=true:=by rw[beq_iff_eq];omega)|(have k0:((d.key.length:Int) == 32)=false:=by rw[U_];omega)
  clear h0
  go_enter func16,ntmps16
  go_upto_region 1 with fail
  rw[←HW.out]
  try dsimp only[Act.put]
  go_wp2;go_ret;exact⟨rfl,HB.out⟩
end
section
open Go.RowKit Go.Shelf
def bkA (d:DO) (x:List UInt8) (e:Int):Array Value:=(dmc d++[Value.string ⟨x.toArray⟩,Value.int .i64 e]).toArray
theorem ut (d:DO) (x:List UInt8) (e:Int):(bkA d x e).size=21:=by
 rw[bkA,List.size_toArray,E_,nJ]
 rfl
theorem nF (d:DO) (x:List UInt8) (e:Int):((bkA d x e).all fun u=>u.oneCell')=true:=by
 rw[Array.all_eq_true_iff_forall_mem];intro u hu;unfold bkA at hu;rw[List.mem_toArray,List.mem_append] at hu
 rcases hu with h|h
 ·exact tp d u h
 ·simp at h
  rcases h with rfl|rfl <;> rfl
def zBA:Array Value:=bkA zD [] 0
theorem M0:(prog.info? 53).map (·.zero)=some (some (.agg zBA)):=by kernel_rfl
theorem J8:(prog.info? 53).map (·.size)=some 21:=by kernel_rfl
theorem lP (d:DO) (x:List UInt8) (e:Int):(prog.info? 53).map (·.size)=some (bkA d x e).size:=by rw[ut];exact J8
theorem RF (d d':DO) (x x':List UInt8) (e e':Int):(bkA d x e).size=(bkA d' x' e').size:=by rw[ut,ut]
theorem sw (d:DO) (x:List UInt8) (e:Int):zBA.size=(bkA d x e).size:=RF _ _ _ _ _ _
theorem Ai (w:World):(zeroValue 53).run prog w = .ok (.agg zBA) w:=by
 have h:=M0;generalize zBA=L at h ⊢
 cases hq:prog.info? 53 with
 | none=>rw[hq] at h;cases h
 | some i =>
   rw[hq] at h
   simp at h
   simp[zeroValue,typeInfo,hq,h]
theorem FV (e:Int):prog.built 53 [(2,.int .i64 e)]=some (bkA zD [] e):=by kernel_rfl
theorem IW (d:DO) (x:List UInt8):prog.built 53 [(0,.agg (doA d)),(1,.string ⟨x.toArray⟩)]=some (bkA d x 0):=by kernel_rfl
theorem zA (w:World) (g:Nat) (d:DO) (x:List UInt8) (e:Int) (T:TypeId) (hg:w.heap[g]?=some (.cells (bkA d x e) T (0,0))):(loadVar 53 ⟨g,0,none⟩).run prog w = .ok (.agg (bkA d x e)) w :=
 run_loadVar_row w g T 53 _ (0,0) _ hg underlying53 rfl (lP _ _ _)
theorem yE (e:Int) (hgd:Region.wanted o (yielded ops a.tmps)=true) (x:Operand) (ho:o.op = .build 53 #[(2,x)]) (hx:a.eval x = .int .i64 e)
  (h:wpList prog ops Q rest (a.put o.dst (.agg (bkA zD [] e))) w):wpList prog ops Q (o::rest) a w :=
 wpList_step fun K hK=>by
  rw[G_ hgd];have hr:=run_build (P:=prog) w 53 #[(2,.int .i64 e)] _ (FV e);unfold Oper.wp execOp;simp only[ho,List.map_toArray,List.map_cons,List.map_nil,hx,hr,Sem.run_bind,Sem.run_pure,Result.andThen_ok];exact hK _ _ h
theorem RI (d:DO) (s:List UInt8) (hgd:Region.wanted o (yielded ops a.tmps)=true) (x y:Operand) (ho:o.op = .build 53 #[(0,x),(1,y)]) (hx:a.eval x = .agg (doA d)) (hy:a.eval y = .string ⟨s.toArray⟩)
  (h:wpList prog ops Q rest (a.put o.dst (.agg (bkA d s 0))) w):wpList prog ops Q (o::rest) a w :=
 wpList_step fun K hK=>by
  rw[G_ hgd];have hr:=run_build (P:=prog) w 53 #[(0,.agg (doA d)),(1,.string ⟨s.toArray⟩)] _ (IW d s);unfold Oper.wp execOp;simp only[ho,List.map_toArray,List.map_cons,List.map_nil,hx,hy,hr,Sem.run_bind,Sem.run_pure,Result.andThen_ok];exact hK _ _ h
structure BR (w:World) (d:DO) (nx:Int) (v:Value) (b:BK) (u:Value) (y:World):Prop where
 r0:y.heap[w.heap.size]?=some (.cells (doA d) 25 (0,0))
 r1:y.heap[w.heap.size+1]?=some (.cells #[.int .i64 nx,v] 45 (0,0))
 r2:y.heap[w.heap.size+2]?=some (.cells (bc b u) 47 (0,0))
 r3:y.heap[w.heap.size+3]?=some (.cells zBA 53 (0,0))
 b:Below w.heap.size w y
theorem BR.on {w y y':World} {d:DO} {nx:Int} {v u:Value} {b:BK} (h:BR w d nx v b u y) (hb:Below y.heap.size y y'):BR w d nx v b u y' :=
 ⟨aa h.r0 hb,aa h.r1 hb,aa h.r2 hb,aa h.r3 hb,h.b.trans (hb.mono h.b.size)⟩
theorem BR.set0 {w y:World} {d d':DO} {nx:Int} {v u:Value} {b:BK} (h:BR w d nx v b u y):BR w d' nx v b u (y.setRow w.heap.size (doA d')) :=
 ⟨setRow_heap _ _ _ _ _ _ h.r0,(aj _ _ _ _ (by omega)).trans h.r1,(aj _ _ _ _ (by omega)).trans h.r2,(aj _ _ _ _ (by omega)).trans h.r3,h.b.trans (aK (A_ _))⟩
theorem BR.set2 {w y:World} {d:DO} {nx:Int} {v u u':Value} {b b':BK} (h:BR w d nx v b u y):BR w d nx v b' u' (y.setRow (w.heap.size+2) (bc b' u')) :=
 ⟨(aj _ _ _ _ (by omega)).trans h.r0,(aj _ _ _ _ (by omega)).trans h.r1,setRow_heap _ _ _ _ _ _ h.r2,(aj _ _ _ _ (by omega)).trans h.r3,h.b.trans (aK (by omega))⟩
theorem RM (w:World) (d:DO) (nx:Int) (v:Value) (b:BK) (u:Value):BR w d nx v b u ((((w.alloc (.cells (doA d) 25)).alloc (.cells #[.int .i64 nx,v] 45)).alloc (.cells (bc b u) 47)).alloc (.cells zBA 53)) :=
 ⟨oZ _ _ _ _ _,o9 _ _ _ _ _,pf _ _ _ _ _,pg _ _ _ _ _,ph _ _ _ _ _⟩
theorem BR.id {w y:World} {d:DO} {nx:Int} {v u:Value} {b:BK} (h:BR w d nx v b u y):y.rangeAt w.heap.size 0 (am d.id).toList:=fun i x hx=>by
 rw[e_ _ _ _ _ _ _ h.r0,a_];exact uL d i x hx
attribute [local irreducible] Calls doA lg jm bkA zBA
theorem Cx (d:DO) (b:BK) (nx:Int) (v:Value) (ua:Option Addr) (un uc:Nat) (l:List K) (w:World) (hk:cA w) (hv:RdK w v l) (hd:d.mach) (hb:b.mach) (hn:cQ l) (hl:l.length≤100) :
  Calls prog 20 #[.agg (doA d),.agg #[.int .i64 nx,v],.agg (bc b (.slice ua un uc))] w fun e w'=>e = .returned (.agg (bkA (dbD d b l) (dbX d b l) (dbE d b l)))∧Below w.heap.size w w':=by
 have hzd:=Ai;obtain⟨W0,hW0⟩:∃W0,W0=(((w.alloc (.cells (doA d) 25)).alloc (.cells #[.int .i64 nx,v] 45)).alloc (.cells (bc b (.slice ua un uc)) 47)).alloc (.cells zBA 53):=⟨_,rfl⟩;have HW:=O hW0;have HF0:Hid (BR w d nx v b (.slice ua un uc) W0):=O (by rw[hW0];exact RM w d nx v b _);have HV:=O (fun (u:World)=>rh d u);clear hW0
 rcases wV d b l with⟨hva,hr⟩|⟨hva,he,hr⟩|⟨hva,he,hr⟩
 ·have hD:dbD d b l=zD:=by unfold dbD;rw[hr];rfl
  have hX:dbX d b l=[]:=by unfold dbX;rw[hr];rfl
  rw[hr,hD,hX];rw[hva] at HV;clear hk hd hb hn hva hr hD hX;obtain⟨va,vc,rfl,_,_,_⟩:=hv
  go_enter func20,ntmps20
  go_upto_region 1 with fail
  rw[←HW.out]
  try dsimp only[Act.put]
  go_wp2_with (first
   |(refine cz d rfl (.tmp 3) rfl w.heap.size rfl _ HF0.out.r0 ?_)
   |(go_at_call 16;refine(HV.out _).mono ?_;rintro e x1 ⟨rfl,hx1⟩;have HF3:=O (HF0.out.on hx1);clear hx1)
   |(refine yE 1 rfl _ rfl rfl ?_)
   |(refine aM (T:=53) (bkA zD [] 1) (lP _ _ _) rfl (.tmp 6) (.tmp 14) rfl (w.heap.size+3) zBA rfl rfl (nF _ _ _) (sw _ _ _) HF3.out.r3 ?_;intro w7 hge7 hoe7 hbe7;have HE7:Hid (w7.heap[w.heap.size+3]?=some (.cells (bkA zD [] 1) 53 (0,0))∧Below w.heap.size w w7):=(O ⟨hge7,HF3.out.b.trans (hbe7 _ (by omega))⟩);clear hge7 hoe7 hbe7))
  refine g_ (bB rfl _ _ (w.heap.size+3) _ rfl (zA _ _ _ _ _ _ HE7.out.1)) rfl ?_;exact⟨rfl,HE7.out.2⟩
 ·have hD:dbD d b l=zD:=by unfold dbD;rw[hr];rfl
  have hX:dbX d b l=[]:=by unfold dbX;rw[hr];rfl
  rw[hr,hD,hX];rw[hva] at HV
  have e1:(d.bk == 2147483647)=true:=by rw[beq_iff_eq];exact he
  clear hk hd hb hn hva hr hD hX he;obtain⟨va,vc,rfl,_,_,_⟩:=hv
  go_enter func20,ntmps20
  go_upto_region 1 with fail
  rw[←HW.out]
  try dsimp only[Act.put]
  go_wp2_with (first
   |(refine cz d rfl (.tmp 3) rfl w.heap.size rfl _ HF0.out.r0 ?_)
   |(go_at_call 16;refine(HV.out _).mono ?_;rintro e x1 ⟨rfl,hx1⟩;have HF3:=O (HF0.out.on hx1);have c18:x1.cell? ⟨w.heap.size,18,none⟩=some (.int .i64 d.bk):=(by rw[e_ _ _ _ _ _ _ HF3.out.r0];exact jL d);clear hx1)
   |(refine yE 2 rfl _ rfl rfl ?_)
   |(refine aM (T:=53) (bkA zD [] 2) (lP _ _ _) rfl (.tmp 6) (.tmp 18) rfl (w.heap.size+3) zBA rfl rfl (nF _ _ _) (sw _ _ _) HF3.out.r3 ?_;intro w7 hge7 hoe7 hbe7;have HE7:Hid (w7.heap[w.heap.size+3]?=some (.cells (bkA zD [] 2) 53 (0,0))∧Below w.heap.size w w7):=(O ⟨hge7,HF3.out.b.trans (hbe7 _ (by omega))⟩);clear hge7 hoe7 hbe7))
  refine g_ (bB rfl _ _ (w.heap.size+3) _ rfl (zA _ _ _ _ _ _ HE7.out.1)) rfl ?_;exact⟨rfl,HE7.out.2⟩
 ·rw[hva] at HV
  have e1:(d.bk == 2147483647)=false:=by rw[U_];exact he
  have hwr:IntKind.i64.wrap (d.bk+1)=d.bk+1:=by have := jG hva;rw[IntKind.wrap_i64];omega
  have HMK:Hid (∀(y:World),Below w.heap.size w y→Calls prog 42 #[.string ⟨d.key.toArray⟩,.agg (bc (cG d b) v)] y fun e w'=>e = .returned (.tuple #[.string ⟨(lg d.key (cG d b) l).toArray⟩,.int .i64 (jm d.key (cG d b) l)])∧Below y.heap.size y w'):=O (fun y hy=>SK d.key (cG d b) v l y (hk.on hy) (hv.on hy) (nG hd hb hva he) hn hl);have HB3:Hid ({ b with dom:=d.id,ep:=d.ep,num:=d.bk+1 }=cG d b):=O rfl;have HDB:Hid (dbD d b l=if jm d.key (cG d b) l=0 then { d with bk:=d.bk+1 } else zD):=O (by unfold dbD;rw[hr])
  have HDX:Hid (dbX d b l=lg d.key (cG d b) l):=O (by
   unfold dbX;rw[hr]
   rcases kx d.key (cG d b) l with⟨_,h2,h3⟩|⟨_,h2,h3⟩
   ·rw[G_ h2,h3]
   ·rw[H_ (by rw[h2];decide),h3])
  have HDE:=O hr;have HDN:Hid (dbE d b l≠0→dbX d b l=[]):=O (fun h=>by unfold dbX;rw[H_ h]);obtain⟨va,vc,rfl,_,_,_⟩:=hv;clear hk hd hb hn hva hr he
  go_enter func20,ntmps20
  go_upto_region 1 with fail
  rw[←HW.out]
  try dsimp only[Act.put]
  go_upto_region 6 with (first
   |(refine cz d rfl (.tmp 3) rfl w.heap.size rfl _ HF0.out.r0 ?_)
   |(go_at_call 16;refine(HV.out _).mono ?_;rintro e x1 ⟨rfl,hx1⟩;have HF3:=O (HF0.out.on hx1);have c18:x1.cell? ⟨w.heap.size,18,none⟩=some (.int .i64 d.bk):=(by rw[e_ _ _ _ _ _ _ HF3.out.r0];exact jL d);clear hx1 HF0))
  have f18:=frozen_of_row _ _ 18 _ _ HF3.out.r0;have HST:Hid (x1.setCell ⟨w.heap.size,18,none⟩ (.int .i64 (d.bk+1))=x1.setRow w.heap.size (doA { d with bk:=d.bk+1 })):=O (by rw[au _ _ _ _ _ _ _ HF3.out.r0,xd]);have HF4:Hid (BR w { d with bk:=d.bk+1 } nx (.slice va l.length vc) b (.slice ua un uc) (x1.setRow w.heap.size (doA { d with bk:=d.bk+1 }))):=O HF3.out.set0
  go_upto_region 7 with fail
  simp only[HST.out];generalize x1.setRow w.heap.size (doA { d with bk:=d.bk+1 })=W4 at HF4 ⊢;clear HF3 HST c18 f18
  go_upto_region 8 with (first
   |(refine jt d.id w.heap.size 0 (.tmp 23) rfl HF4.out.id rfl rfl ?_)
   |(refine DF b (.slice ua un uc) d.id (w.heap.size+2) HF4.out.r2 rfl (.tmp 25) (.tmp 24) rfl rfl rfl ?_))
  try simp only[Act.put]
  have HS1:Hid (BR w { d with bk:=d.bk+1 } nx (.slice va l.length vc) { b with dom:=d.id } (.slice ua un uc) (W4.setRow (w.heap.size+2) (bc { b with dom:=d.id } (.slice ua un uc)))):=O HF4.out.set2;generalize W4.setRow (w.heap.size+2) (bc { b with dom:=d.id } (.slice ua un uc))=w1 at HS1 ⊢;clear HF4
  have c17:w1.cell? ⟨w.heap.size,17,none⟩=some (.int .i64 d.ep):=by rw[e_ _ _ _ _ _ _ HS1.out.r0];exact gI _
  go_upto_region 9 with (refine bW rfl 3 (.tmp 28) (.tmp 27) rfl ⟨w.heap.size+2,16,none⟩ (.int .i64 d.ep) rfl rfl (l8 _ _ 16 { b with dom:=d.id } { b with dom:=d.id,ep:=d.ep } (.slice ua un uc) d.ep _ HS1.out.r2 (by decide) (uq _ _ _)) ?_)
  try simp only[Act.put]
  have HS2:Hid (BR w { d with bk:=d.bk+1 } nx (.slice va l.length vc) { b with dom:=d.id,ep:=d.ep } (.slice ua un uc) (w1.setRow (w.heap.size+2) (bc { b with dom:=d.id,ep:=d.ep } (.slice ua un uc)))):=O HS1.out.set2;clear c17;generalize w1.setRow (w.heap.size+2) (bc { b with dom:=d.id,ep:=d.ep } (.slice ua un uc))=w2 at HS2 ⊢;clear HS1
  have c18:w2.cell? ⟨w.heap.size,18,none⟩=some (.int .i64 (d.bk+1)):=by rw[e_ _ _ _ _ _ _ HS2.out.r0];exact jL _
  go_upto_region 10 with (refine bW rfl 3 (.tmp 31) (.tmp 30) rfl ⟨w.heap.size+2,17,none⟩ (.int .i64 (d.bk+1)) rfl rfl (l8 _ _ 17 { b with dom:=d.id,ep:=d.ep } { b with dom:=d.id,ep:=d.ep,num:=d.bk+1 } (.slice ua un uc) (d.bk+1) _ HS2.out.r2 (by decide) (ur _ _ _)) ?_)
  try simp only[Act.put]
  have HS3:Hid (BR w { d with bk:=d.bk+1 } nx (.slice va l.length vc) { b with dom:=d.id,ep:=d.ep,num:=d.bk+1 } (.slice ua un uc) (w2.setRow (w.heap.size+2) (bc { b with dom:=d.id,ep:=d.ep,num:=d.bk+1 } (.slice ua un uc)))):=O HS2.out.set2;clear c18;generalize w2.setRow (w.heap.size+2) (bc { b with dom:=d.id,ep:=d.ep,num:=d.bk+1 } (.slice ua un uc))=w3 at HS3 ⊢;clear HS2
  have c1:w3.cell? ⟨w.heap.size+1,1,none⟩=some (.slice va l.length vc):=by rw[e_ _ _ _ _ _ _ HS3.out.r1];rfl
  go_upto_region 11 with (refine bW rfl 43 (.tmp 34) (.tmp 33) rfl ⟨w.heap.size+2,37,none⟩ (.slice va l.length vc) rfl rfl (sV _ _ _ _ va l.length vc _ HS3.out.r2) ?_)
  try simp only[Act.put]
  have HS4:Hid (BR w { d with bk:=d.bk+1 } nx (.slice va l.length vc) (cG d b) (.slice va l.length vc) (w3.setRow (w.heap.size+2) (bc { b with dom:=d.id,ep:=d.ep,num:=d.bk+1 } (.slice va l.length vc)))):=O (by rw[HB3.out];exact HS3.out.set2);clear c1;generalize w3.setRow (w.heap.size+2) (bc { b with dom:=d.id,ep:=d.ep,num:=d.bk+1 } (.slice va l.length vc))=w4 at HS4 ⊢;clear HS3;generalize cG d b=b4 at HS4 HMK HDB HDX HDE ⊢;generalize lg d.key b4 l=mx at HMK HDX ⊢;generalize jm d.key b4 l=me at HMK HDB HDE ⊢
  have c16:w4.cell? ⟨w.heap.size,16,none⟩=some (.string ⟨d.key.toArray⟩):=by rw[e_ _ _ _ _ _ _ HS4.out.r0];exact cK _
  by_cases h0:me=0
  ·have HD:Hid (dbD d b l={ d with bk:=d.bk+1 }):=O (by rw[HDB.out,G_ h0])
   subst h0
   go_wp2_with (first
    |(refine cH b4 (.slice va l.length vc) rfl (.tmp 5) rfl (w.heap.size+2) rfl _ HS4.out.r2 ?_)
    |(go_at_call 42;refine(HMK.out _ HS4.out.b).mono ?_;rintro e x5 ⟨rfl,hx5⟩;have HS5:=O (HS4.out.on hx5);clear hx5 c16)
    |(refine cz { d with bk:=d.bk+1 } rfl (.tmp 3) rfl w.heap.size rfl _ HS5.out.r0 ?_)
    |(refine RI { d with bk:=d.bk+1 } mx rfl _ _ rfl rfl rfl ?_)
    |(refine aM (T:=53) (bkA { d with bk:=d.bk+1 } mx 0) (lP _ _ _) rfl (.tmp 6) (.tmp 48) rfl (w.heap.size+3) zBA rfl rfl (nF _ _ _) (sw _ _ _) HS5.out.r3 ?_;intro w7 hge7 hoe7 hbe7;have HE7:Hid (w7.heap[w.heap.size+3]?=some (.cells (bkA { d with bk:=d.bk+1 } mx 0) 53 (0,0))∧Below w.heap.size w w7):=(O ⟨hge7,HS5.out.b.trans (hbe7 _ (by omega))⟩);clear hge7 hoe7 hbe7))
   refine g_ (bB rfl _ _ (w.heap.size+3) _ rfl (zA _ _ _ _ _ _ HE7.out.1)) rfl ?_;exact⟨by rw[HD.out,HDX.out,HDE.out],HE7.out.2⟩
  ·have h1:(me == 0)=false:=by rw[U_];exact h0
   have HD:Hid (dbD d b l=zD):=O (by rw[HDB.out,H_ h0]);have HX2:Hid (dbX d b l=[]):=O (HDN.out (by rw[HDE.out];exact h0));clear h0
   go_wp2_with (first
    |(refine cH b4 (.slice va l.length vc) rfl (.tmp 5) rfl (w.heap.size+2) rfl _ HS4.out.r2 ?_)
    |(go_at_call 42;refine(HMK.out _ HS4.out.b).mono ?_;rintro e x5 ⟨rfl,hx5⟩;have HS5:=O (HS4.out.on hx5);clear hx5 c16)
    |(refine yE me rfl _ rfl rfl ?_)
    |(refine aM (T:=53) (bkA zD [] me) (lP _ _ _) rfl (.tmp 6) (.tmp 45) rfl (w.heap.size+3) zBA rfl rfl (nF _ _ _) (sw _ _ _) HS5.out.r3 ?_;intro w7 hge7 hoe7 hbe7;have HE7:Hid (w7.heap[w.heap.size+3]?=some (.cells (bkA zD [] me) 53 (0,0))∧Below w.heap.size w w7):=(O ⟨hge7,HS5.out.b.trans (hbe7 _ (by omega))⟩);clear hge7 hoe7 hbe7))
   refine g_ (bB rfl _ _ (w.heap.size+3) _ rfl (zA _ _ _ _ _ _ HE7.out.1)) rfl ?_;exact⟨by rw[HD.out,HX2.out,HDE.out],HE7.out.2⟩
end
section
open Go.RowKit Go.Shelf
attribute [local irreducible] Calls ci eU blE opE opB opK pkB
theorem Cm (blob:List UInt8) (l:List SH) (v:Value) (w:World) (hk:cA w) (hv:RdE eH w v l) (hl:blob.length≤100000) :
  Calls prog 22 #[.string ⟨blob.toArray⟩,v] w fun e w'=>∃va vn vc,e = .returned (.tuple #[.agg (bc (ulB blob l) (.slice va vn vc)),.int .i64 (ulE blob l)])∧RdK w' (.slice va vn vc) (ulK blob l)∧Below w.heap.size w w':=by
 have hz:=fh;obtain⟨W0,hW0⟩:∃W0,W0=w.alloc (.cells (bc zB (.slice none 0 0)) 47):=⟨_,rfl⟩;have HW:=O hW0
 have HX:Hid (∀y,Below W0.heap.size W0 y→y.heap[w.heap.size]?=some (.cells (bc zB ah) 47 (0,0))∧Below w.heap.size w y):=O (fun y hy=>by
  rw[hW0] at hy
  exact⟨aa (heap_alloc_new _ _) hy,cJ _ _ hy⟩)
 have HPK:=O (fun (u:World)=>K5 blob u (M_ hl (by decide)));have HCB:=O (fun (u:World) (h:Below w.heap.size w u)=>R9 l v u (hv.on h));have HOP:=O (fun (u:World) (h:Below w.heap.size w u)=>KO (eU l) blob u (hk.on h) hl);have HB0:=O (HX.out W0 (O_ _ _)).2;obtain⟨va,vc,rfl,_,_,_⟩:=hv;clear hk hl hW0
 rcases yp blob l with⟨h1,e1,e2,e3⟩|⟨h1,h2,e1,e2,e3⟩|⟨h1,h2,e1,e2,e3⟩
 ·rw[e1,e2,e3]
  have i1:(blE blob == 0)=false:=by rw[U_];exact h1
  generalize blE blob=be at HPK i1 ⊢;generalize pkB blob=pb at HPK;clear h1 e1 e2 e3 HCB HOP
  go_enter func22,ntmps22
  go_upto_region 1 with fail
  rw[←HW.out]
  try dsimp only[Act.put]
  go_wp2_with (first
   |(go_at_call 46;refine(HPK.out _).mono ?_;rintro e x1 ⟨rfl,hx1⟩;have HX1:=O hx1;clear hx1)
   |(refine aH (bc pb ah) 47 rfl (.tmp 6) (.tmp 13) rfl _ rfl rfl rfl (dX _ _) (iA _ _ _ _) (dl _ _ _ _) ?_)
   |(refine yF rfl rfl ?_)
   |(have hxy:=HX.out _ (HX1.out.trans (((O_ x1.heap.size x1).alloc (A_ _) (.cells (bc pb ah) 47)).mono HX1.out.size));refine aM (T:=47) (bc zB ah) (dX _ _) rfl (.tmp 4) (.tmp 17) rfl w.heap.size (bc zB ah) rfl rfl (dl _ _ _ _) (iA _ _ _ _) hxy.1 ?_;intro w7 hge7 hoe7 hbe7;have HE7:Hid (w7.heap[w.heap.size]?=some (.cells (bc zB ah) 47 (0,0))∧Below w.heap.size w w7):=(O ⟨hge7,hxy.2.trans (hbe7 _ (A_ _))⟩);clear hge7 hoe7 hbe7 hxy))
  refine g_ (aA rfl _ _ w.heap.size _ rfl (aX _ _ _ _ _ HE7.out.1)) rfl ?_;exact⟨_,_,_,rfl,RdK.nil _,HE7.out.2⟩
 ·rw[e1,e2,e3]
  have i1:(blE blob == 0)=true:=by rw[beq_iff_eq];exact h1
  have i2:(ci l == 0)=false:=by rw[U_];exact h2
  rw[h1] at HPK;generalize pkB blob=pb at HPK;generalize ci l=ce at HCB i2 ⊢;generalize eU l=cm at HCB;clear i1 h1 h2 e1 e2 e3 HOP
  go_enter func22,ntmps22
  go_upto_region 1 with fail
  rw[←HW.out]
  try dsimp only[Act.put]
  go_wp2_with (first
   |(go_at_call 46;refine(HPK.out _).mono ?_;rintro e x1 ⟨rfl,hx1⟩;have HX1:Hid (Below W0.heap.size W0 (x1.alloc (.cells (bc pb ah) 47))):=(O (hx1.trans (((O_ x1.heap.size x1).alloc (A_ _) (.cells (bc pb ah) 47)).mono hx1.size)));clear hx1)
   |(refine aH (bc pb ah) 47 rfl (.tmp 6) (.tmp 13) rfl _ rfl rfl rfl (dX _ _) (iA _ _ _ _) (dl _ _ _ _) ?_)
   |(go_at_call 47;refine(HCB.out _ (HX.out _ HX1.out).2).mono ?_;rintro e x2 ⟨rfl,hx2⟩;have HX2:=O (HX.out _ (HX1.out.trans (hx2.mono HX1.out.size)));clear hx2)
   |(refine yF rfl rfl ?_)
   |(refine aM (T:=47) (bc zB ah) (dX _ _) rfl (.tmp 4) (.tmp 26) rfl w.heap.size (bc zB ah) rfl rfl (dl _ _ _ _) (iA _ _ _ _) HX2.out.1 ?_;intro w7 hge7 hoe7 hbe7;have HE7:Hid (w7.heap[w.heap.size]?=some (.cells (bc zB ah) 47 (0,0))∧Below w.heap.size w w7):=(O ⟨hge7,HX2.out.2.trans (hbe7 _ (A_ _))⟩);clear hge7 hoe7 hbe7))
  refine g_ (aA rfl _ _ w.heap.size _ rfl (aX _ _ _ _ _ HE7.out.1)) rfl ?_;exact⟨_,_,_,rfl,RdK.nil _,HE7.out.2⟩
 ·rw[e1,e2,e3]
  rw[h1] at HPK;rw[h2] at HCB;generalize pkB blob=pb at HPK;generalize eU l=cm at HCB HOP ⊢;generalize opE cm blob=oe at HOP ⊢;generalize opB cm blob=ob at HOP ⊢;generalize opK cm blob=ok at HOP ⊢;clear h1 h2 e1 e2 e3
  go_enter func22,ntmps22
  go_upto_region 1 with fail
  rw[←HW.out]
  try dsimp only[Act.put]
  go_wp2_with (first
   |(go_at_call 46;refine(HPK.out _).mono ?_;rintro e x1 ⟨rfl,hx1⟩;have HX1:Hid (Below W0.heap.size W0 (x1.alloc (.cells (bc pb ah) 47))):=(O (hx1.trans (((O_ x1.heap.size x1).alloc (A_ _) (.cells (bc pb ah) 47)).mono hx1.size)));clear hx1)
   |(refine aH (bc pb ah) 47 rfl (.tmp 6) (.tmp 13) rfl _ rfl rfl rfl (dX _ _) (iA _ _ _ _) (dl _ _ _ _) ?_)
   |(go_at_call 47;refine(HCB.out _ (HX.out _ HX1.out).2).mono ?_;rintro e x2 ⟨rfl,hx2⟩;have HX2:=O (HX1.out.trans (hx2.mono HX1.out.size));clear hx2)
   |(go_at_call 48;refine(HOP.out _ (HX.out _ HX2.out).2).mono ?_;rintro e x3 ⟨ka,kc,rfl,hrk,hx3⟩;have HX3:=O (HX.out _ (HX2.out.trans (hx3.mono HX2.out.size)));have HRK:=O hrk;clear hx3 hrk)
   |(refine aM (T:=47) (bc ob (.slice ka ok.length kc)) (dX _ _) rfl (.tmp 4) (.tmp 31) rfl w.heap.size (bc zB ah) rfl rfl (dl _ _ _ _) (iA _ _ _ _) HX3.out.1 ?_;intro w7 hge7 hoe7 hbe7;have HE7:Hid (w7.heap[w.heap.size]?=some (.cells (bc ob (.slice ka ok.length kc)) 47 (0,0))∧Below w.heap.size w w7):=(O ⟨hge7,HX3.out.2.trans (hbe7 _ (A_ _))⟩);have HO7:=O (HRK.out.offBk HX3.out.1 hoe7 (hbe7 0 (N_ _)).size);clear hge7 hoe7 hbe7))
  refine g_ (aA rfl _ _ w.heap.size _ rfl (aX _ _ _ _ _ HE7.out.1)) rfl ?_;exact⟨_,_,_,rfl,HO7.out,HE7.out.2⟩
end
section
open Go.RowKit
theorem JG (d:DO):(doA d).extract 0 (0+16)=am d.id:=by
 rw[doA,dmc,List.extract_toArray,List.extract_eq_take_drop,L_];rw[show (0+16-0)=(am d.id).toList.length by rw[show (am d.id).toList.length=16 by rfl],List.take_left]
theorem Gz:(prog.fieldsOf 25).toList.map (fun f=>(f.name == "_",f.type,f.offset))=[(false,23,0),(false,9,16),(false,3,17),(false,3,18)]:=by kernel_rfl
theorem uQ (d:DO) (w:World):(binOp .eql 25 (.agg (doA d)) (.agg (doA d))).run prog w = .ok (.bool true) w:=by
 have key:(Op.equalIn 10000 25 (.agg (doA d)) (.agg (doA d))).run prog w = .ok true w:=by
  have ht:prog.underlying 25=some (.struct (prog.fieldsOf 25)):=by kernel_rfl
  have hp:prog.stoodInHeld 25=false:=by kernel_rfl
  rw[show (10000:Nat)=9999+1 from rfl,run_equalIn_struct w 9999 _ _ _ ht hp];have hf:=Gz;generalize (prog.fieldsOf 25).toList=fs at hf
  rcases fs with _|⟨f1,_|⟨f2,_|⟨f3,_|⟨f4,_|⟨f5,fs⟩⟩⟩⟩⟩
  ·simp at hf
  ·simp at hf
  ·simp at hf
  ·simp at hf
  ·simp only[List.map_cons,List.map_nil,List.cons.injEq,Prod.mk.injEq,and_true] at hf
   obtain⟨⟨a1,a2,a3⟩,⟨b1,b2,b3⟩,⟨c1,c2,c3⟩,⟨d1,d2,d3⟩⟩:=hf
   have na:f1.name ≠ "_" := by simpa using a1
   have nb:f2.name ≠ "_" := by simpa using b1
   have nc:f3.name ≠ "_" := by simpa using c1
   have nd:f4.name ≠ "_" := by simpa using d1
   have e1:=nL 9997 d.id d.id w
   have e2:(Op.equalIn 9999 9 (.string ⟨d.key.toArray⟩) (.string ⟨d.key.toArray⟩)).run prog w = .ok (d.key == d.key) w:=by rw[run_equalIn_string w 9998 _ _ _ underlying9,qY]
   have e3:(Op.equalIn 9999 3 (.int .i64 d.ep) (.int .i64 d.ep)).run prog w = .ok (d.ep == d.ep) w:=run_equalIn_int w 9998 _ _ _ _ _ underlying3;have e4:(Op.equalIn 9999 3 (.int .i64 d.bk) (.int .i64 d.bk)).run prog w = .ok (d.bk == d.bk) w:=run_equalIn_int w 9998 _ _ _ _ _ underlying3
   rw[du 9999 _ _ f1 _ na w (.agg (am d.id)) (.agg (am d.id)) (dEq d.id d.id) (by rw[a2,a3,tF,JG]) (by rw[a2,a3,tF,JG]) (by rw[a2];exact e1),
    du 9999 _ _ f2 _ nb w (.string ⟨d.key.toArray⟩) (.string ⟨d.key.toArray⟩) (d.key == d.key) (by rw[b2,b3];exact tG _ _ _ (cK d) w) (by rw[b2,b3];exact tG _ _ _ (cK d) w) (by rw[b2];exact e2),
    du 9999 _ _ f3 _ nc w (.int .i64 d.ep) (.int .i64 d.ep) (d.ep == d.ep) (by rw[c2,c3];exact kA _ _ _ (gI d) w) (by rw[c2,c3];exact kA _ _ _ (gI d) w) (by rw[c2];exact e3),
    du 9999 _ _ f4 _ nd w (.int .i64 d.bk) (.int .i64 d.bk) (d.bk == d.bk) (by rw[d2,d3];exact kA _ _ _ (jL d) w) (by rw[d2,d3];exact kA _ _ _ (jL d) w) (by rw[d2];exact e4)]
   rw[AD,beq_self_eq_true,beq_self_eq_true,beq_self_eq_true]
   rfl
  ·simp at hf
 have h:(Op.equalIn Op.maxDepth 25 (.agg (doA d)) (.agg (doA d))).run prog w = .ok true w:=key;simp only[binOp,Op.equal,Sem.run_bind,Sem.run_pure,Result.andThen_ok,h]
theorem Km (d:DO) (g off:Nat) (x:Operand) (ho:o.op = .load 25 x) (hc:w.rangeAt g off (doA d).toList)
  (hx:a.eval x = .pointer (some ⟨g,off,none⟩)) (hgd:Region.wanted o (yielded ops a.tmps)=true)
  (h:wpList prog ops Q rest (a.put o.dst (.agg (doA d))) w):wpList prog ops Q (o::rest) a w :=
 wpList_step fun K hK=>by
  rw[G_ hgd];exact wp_load_mid _ x ho g off hx (doA d).toList _ hc underlying25 rfl (by rw[Array.length_toList,kW];exact u9) (hK _ _ h)
theorem Jy (m n:Tmp) (x y:Array Value) (w:World):(eqGuard .eql 25 (.tmp m) (.tmp n) (.agg x) (.agg y)).run prog w = .ok () w:=by kernel_rfl
open Go.RowKit
theorem Qy (d:DO) (x:List UInt8) (e:Int):(bkA d x e)[19]?=some (.string ⟨x.toArray⟩):=by kernel_rfl
theorem Qz (d:DO) (x:List UInt8) (e:Int):(bkA d x e)[20]?=some (.int .i64 e):=by kernel_rfl
theorem BQ {w:World} {g:Nat} {d:DO} {x:List UInt8} {e:Int} {T:TypeId} (h:w.heap[g]?=some (.cells (bkA d x e) T (0,0))):w.rangeAt g 0 (doA d).toList:=fun i u hu=>by
 rw[e_ _ _ _ _ _ _ h,a_]
 have hi:i<(dmc d).length:=by
  have := (d_.1 hu).1
  simpa [doA] using this
 unfold bkA;rw[List.getElem?_toArray,List.getElem?_append_left hi]
 simpa [doA] using hu
theorem AX {nx:Int} {l:List K} {b:BK} {m:List K} (h:oC nx l b m=true):l.length≤12:=by
 unfold oC at h;simp only[T_,decide_eq_true_eq] at h;exact h.1
theorem Nv (d:DO) (b:BK) (nx:Int) (v:Value) (ua:Option Addr) (un uc:Nat) (l:List K) (w:World) (hk:KAt w) (hv:RdK w v l) (hd:d.mach) (hb:b.mach) (hn:cQ l) :
  Calls prog 19 #[.agg (doA d),.agg (tbA nx v),.agg (bc b (.slice ua un uc))] w fun e w'=>e = .returned (.tuple #[.agg (doA (dbD d b l)),.string ⟨(dbX d b l).toArray⟩,.int .i64 (dbE d b l)])∧Below w.heap.size w w':=pV d b nx v ua un uc l w hk hv hd hb hn
theorem Ec (d:DO) (b:BK) (nx:Int) (v:Value) (ua:Option Addr) (un uc:Nat) (l:List K) (w:World) (hk:cA w) (hv:RdK w v l) (hd:d.mach) (hb:b.mach) (hn:cQ l) (hl:l.length≤100) :
  Calls prog 20 #[.agg (doA d),.agg (tbA nx v),.agg (bc b (.slice ua un uc))] w fun e w'=>e = .returned (.agg (bkA (dbD d b l) (dbX d b l) (dbE d b l)))∧Below w.heap.size w w':=Cx d b nx v ua un uc l w hk hv hd hb hn hl
open Go.ChangeShapes Go.WideShapes Go.ChangeAt Go.RowKit Go.Deep
set_option maxRecDepth 10000
theorem SB {H:Type}:(Rows.laid_custody_custodyref02_constants:DataW H) = .agg (KK.map fun k => .lit (.int .u32 (W32 k))):=by kernel_rfl
theorem SC {H:Type}:(Rows.laid_custody_hash_constants:DataW H) = .agg (KK.map fun k => .lit (.int .u32 (W32 k))):=by kernel_rfl
abbrev lU:List (String × DataW Unit):=[("custody/custodyref02.constants",Rows.laid_custody_custodyref02_constants),("custody/hash.constants",Rows.laid_custody_hash_constants)]
theorem g0:prog.globalNamed "custody/custodyref02.constants" = some 1:=by kernel_rfl
theorem g1:prog.globalNamed "custody/hash.constants" = some 0:=by kernel_rfl
theorem t0:(prog.globals[1]?).map (·.type)=some 213:=by kernel_rfl
theorem t1:(prog.globals[0]?).map (·.type)=some 213:=by kernel_rfl
theorem Cj {W:World} (h:laidMetH prog lU W):cA W∧KAt W:=by
 have h':laidMet prog lU W:=h;obtain⟨ps,⟨g,t,cs,fuel,p,q,hg,ht,hvar,hd,⟨g',t',cs',fuel',p',q',hg',ht',hvar',hd',_,hps'⟩,hps⟩,_,hr⟩:=h';obtain rfl:=Option.some.inj (g0.symm.trans hg);obtain rfl:=Option.some.inj (t0.symm.trans ht);obtain rfl:=Option.some.inj (g1.symm.trans hg');obtain rfl:=Option.some.inj (t1.symm.trans ht');have e0:=zx cs (DI hd SB);have e1:=zx cs' (DI hd' SC)
 have hz0:cs.size=63+1:=by rw[e0,co,lB]
 have hz1:cs'.size=63+1:=by rw[e1,co,lB]
 have hm0:MemPlace.cell 1 0∈ps:=by
  rw[hps,hz0]
  simp[MemPlace.row]
 have hm1:MemPlace.cell 0 0∈ps:=by
  rw[hps,hps',hz1]
  simp[MemPlace.row]
 obtain⟨⟨c,t,hb⟩,_⟩:=hr 1 0 hm0;obtain⟨⟨c',t',hb'⟩,_⟩:=hr 0 0 hm1;simp only[World.var?,hg,Option.bind_some,hb,Option.some.injEq] at hvar;simp only[World.var?,hg',Option.bind_some,hb',Option.some.injEq] at hvar';refine⟨⟨t,?_⟩,⟨t',?_⟩⟩
 ·rw[←e0,←hvar];exact hb
 ·rw[←e1,←hvar'];exact hb'
theorem xe (os:Os) (args:Array Value):laidMetH prog lU ((World.doorLaid prog 222 os).forCall (fun _ _=>0) ⟨#[],args,[]⟩).memory :=
 laidMet_of_run' 8 (by kernel_rfl) (by kernel_rfl)
open Go.ChangeShapes Go.WideShapes Go.ChangeAt Go.RowKit Go.Deep
set_option maxRecDepth 10000
section
variable {H:Type} {enc:TypeId × Value→H} {w:World} {ai:Nat} {sp:Nat→Bool} {held:Bool}
theorem sn:prog.underlying 25=some (.struct (prog.fieldsOf 25)):=by kernel_rfl
theorem EJ:((prog.fieldsOf 25).toList.map fun f=>(f.type,f.offset))=[(23,0),(9,16),(3,17),(3,18)]:=by kernel_rfl
theorem Ks (l:List Value) (h:l.length=19):∃c0 c1 c2 c3 c4 c5 c6 c7 c8 c9 c10 c11 c12 c13 c14 c15 c16 c17 c18,l=[c0,c1,c2,c3,c4,c5,c6,c7,c8,c9,c10,c11,c12,c13,c14,c15,c16,c17,c18]:=by
 match l,h with
 | c0::c1::c2::c3::c4::c5::c6::c7::c8::c9::c10::c11::c12::c13::c14::c15::c16::c17::c18::[],_=>exact⟨c0,c1,c2,c3,c4,c5,c6,c7,c8,c9,c10,c11,c12,c13,c14,c15,c16,c17,c18,rfl⟩
theorem Ey {fuel:Nat} {cs:List Value} {x:DataW H × List MemPlace} (h:DataW.trod enc prog w ai sp held fuel 25 cs=some x):∃(d:DO),cs=(doA d).toList∧d.mach:=by
 have hl:=iR sn (c:=19) (by kernel_rfl) h;obtain⟨n0,y0,h0⟩:=fld sn h 0 0 16 (by rw[EJ];rfl) (by kernel_rfl);obtain⟨d0,f0,g0⟩:=qm h0;obtain⟨z1,e1,w1⟩:=kq sn h 1 16 (by rw[EJ];rfl);obtain⟨z2,e2,w2⟩:=bR sn h 2 17 (by rw[EJ];rfl);obtain⟨z3,e3,w3⟩:=bR sn h 3 18 (by rw[EJ];rfl);clear h h0;obtain⟨c0,c1,c2,c3,c4,c5,c6,c7,c8,c9,c10,c11,c12,c13,c14,c15,c16,c17,c18,rfl⟩:=Ks cs hl;refine⟨⟨d0,z1,z2,z3⟩,?_,⟨g0,okN w2,okN w3⟩⟩;unfold am at f0
 simp at f0 e1 e2 e3
 obtain⟨rfl,rfl,rfl,rfl,rfl,rfl,rfl,rfl,rfl,rfl,rfl,rfl,rfl,rfl,rfl,rfl⟩:=f0;subst e1 e2 e3;unfold doA dmc
 rfl
theorem Fc {r:Reach} {b0:Nat} {v:Value} {d:DataW H} {ps:List MemPlace} (hval:Value.okWide prog w r b0 25 v) (hd:DataW.Trod enc prog w ai sp held 25 v d ps):∃(a:DO),v = .agg (doA a)∧a.mach:=by
 obtain⟨cs,rfl,fuel,hf⟩:=mK sn hval hd;obtain⟨a,hcs,h1⟩:=Ey hf;exact⟨a,by rw[oN hcs],h1⟩
end
end
section
open Go.ChangeShapes Go.WideShapes Go.ChangeAt Go.RowKit Go.Deep
set_option maxRecDepth 10000
section
variable {H:Type} {enc:TypeId × Value→H} {w:World} {ai:Nat} {sp:Nat→Bool} {held:Bool}
theorem Jd {α:Type} {Q:Nat→α→Prop} (n:Nat) (h:∀i,i<n→∃c,Q i c):∃d:List α,d.length=n∧∀i (hi:i<d.length),Q i d[i]:=by
 induction n with
 | zero=>exact⟨[],rfl,fun i hi=>absurd hi (by simp)⟩
 | succ n ih =>
   obtain⟨d,hd,hq⟩:=ih (fun i hi=>h i (by omega));obtain⟨c,hc⟩:=h n (by omega);refine⟨d++[c],by simp[hd],fun i hi => ?_⟩
   by_cases e:i<d.length
   ·rw[List.getElem_append_left e];exact hq i e
   ·obtain rfl:i=n:=by simp at hi;omega
    rw[List.getElem_append_right (by omega)]
    simpa using hc
theorem DE {α:Type} {E:El α} (hE:E.OK) (P:α→Prop) (hcells:prog.cellsOf E.T=E.c)
  (hel:∀fuel cs x,DataW.trod enc prog w ai sp held fuel E.T cs=some x→∃a,cs=E.cf a∧P a)
  {fuel:Nat} {v:Value} {x:DataW H × List MemPlace} (h:DataW.trod enc prog w ai sp held fuel E.S [v]=some x):∃l:List α,RdE E w v l∧∀a∈l,P a:=by
 rcases open_slice hE.und h with⟨hcs,_⟩|⟨a,len,cap,m,n,D,Pl,hcs,_,hl,hm,hmm,_,hi⟩
 ·simp only[List.cons.injEq,and_true] at hcs
  subst hcs;exact⟨[],RdE.nil w,fun i hi=>absurd hi (by simp)⟩
 ·simp only[List.cons.injEq,and_true] at hcs
  subst hcs
  have hle:len≤m:=by rw[hmm];split <;> omega
  rw[hcells] at hi
  obtain⟨l,hlen,hq⟩:=Jd (Q:=fun i k=>(∀j,j<E.c→w.cell? (a.add (i*E.c+j))=(E.cf k)[j]?)∧P k) len (fun i hil=>by
   obtain⟨cs',h1,h2⟩:=hi i (by omega);obtain⟨k,rfl,hp⟩:=hel _ _ _ h2;obtain⟨_,_,h3⟩:=World.cells?_some h1;refine⟨k,fun j hj => ?_,hp⟩;have := h3 j hj
   rw[←Go.Deep.add_add,this])
  refine⟨l,⟨some a,cap,by rw[hlen],by omega,hm,fun h0 => ?_⟩,fun y hy => ?_⟩
  ·obtain⟨b,off,spot⟩:=a
   have h1:=(hq 0 h0).1 0 hE.pos
   have hc0:0<(E.cf l[0]).length:=by rw[hE.len];exact hE.pos
   rw[K_ hc0] at h1
   have hspot:spot=none:=by simpa [Addr.add] using World.cell?_spot h1
   subst hspot
   have gX:∀i,(⟨b,off,none⟩:Addr).add i=⟨b,off+i,none⟩:=by intro i;unfold Addr.add;split <;> simp_all
   refine⟨b,off,rfl,?_,fun j u hu => ?_⟩
   ·have := World.block_lt_of_cell? _ _ h1
    simpa [Addr.add] using this
   ·have hj:j<l.length*E.c:=by
     have := (d_.1 hu).1
     rwa [El.flat_len hE] at this
    have hq1:j / E.c<l.length:=Nat.div_lt_of_lt_mul (by rw[Nat.mul_comm];exact hj);have hm1:j % E.c<E.c:=Nat.mod_lt _ hE.pos
    have hj2:j / E.c*E.c+j % E.c=j:=by rw[Nat.mul_comm];exact Nat.div_add_mod _ _
    have h5:=El.flat_at hE l (j / E.c) (j % E.c) hq1 hm1;rw[hj2,hu] at h5;have h6:=(hq (j / E.c) hq1).1 (j % E.c) hm1;rw[hj2,gX,←h5] at h6;exact h6
  ·obtain⟨i,hi2,rfl⟩:=List.mem_iff_getElem.1 hy
   exact(hq i hi2).2
theorem Dp {α:Type} {E:El α} (hE:E.OK) (P:α→Prop) (hcells:prog.cellsOf E.T=E.c)
  (hel:∀fuel cs x,DataW.trod enc prog w ai sp held fuel E.T cs=some x→∃a,cs=E.cf a∧P a)
  {r:Reach} {b0:Nat} {v:Value} {d:DataW H} {ps:List MemPlace} (hval:Value.okWide prog w r b0 E.S v) (hd:DataW.Trod enc prog w ai sp held E.S v d ps):∃l:List α,RdE E w v l∧∀a∈l,P a:=by
 obtain⟨a,len,cap,rfl⟩:=okWide_slice hE.und hval;obtain⟨fuel,hf⟩:=hd;exact DE hE P hcells hel hf
structure SH.mach (s:SH):Prop where
 set:s.set.length=16
 need:okI s.need
 idx:okI s.idx
theorem wj:prog.underlying 103=some (.struct (prog.fieldsOf 103)):=by kernel_rfl
theorem EN:((prog.fieldsOf 103).toList.map fun f=>(f.type,f.offset))=[(23,0),(3,16),(3,17),(9,18)]:=by kernel_rfl
theorem LH {fuel:Nat} {cs:List Value} {x:DataW H × List MemPlace} (h:DataW.trod enc prog w ai sp held fuel 103 cs=some x):∃(s:SH),cs=eH.cf s∧s.mach:=by
 have hl:=iR wj (c:=19) (by kernel_rfl) h;obtain⟨n0,y0,h0⟩:=fld wj h 0 0 16 (by rw[EN];rfl) (by kernel_rfl);obtain⟨d0,f0,g0⟩:=qm h0;obtain⟨z1,e1,w1⟩:=bR wj h 1 16 (by rw[EN];rfl);obtain⟨z2,e2,w2⟩:=bR wj h 2 17 (by rw[EN];rfl);obtain⟨z3,e3,w3⟩:=kq wj h 3 18 (by rw[EN];rfl);clear h h0;obtain⟨c0,c1,c2,c3,c4,c5,c6,c7,c8,c9,c10,c11,c12,c13,c14,c15,c16,c17,c18,rfl⟩:=Ks cs hl;refine⟨⟨d0,z1,z2,z3⟩,?_,⟨g0,okN w1,okN w2⟩⟩;unfold am at f0
 simp at f0 e1 e2 e3
 obtain⟨rfl,rfl,rfl,rfl,rfl,rfl,rfl,rfl,rfl,rfl,rfl,rfl,rfl,rfl,rfl,rfl⟩:=f0;subst e1 e2 e3
 show _=shc _
 unfold shc am
 rfl
theorem Av:prog.cellsOf 103=19:=by kernel_rfl
theorem KR {r:Reach} {b0:Nat} {v:Value} {d:DataW H} {ps:List MemPlace} (hval:Value.okWide prog w r b0 28 v) (hd:DataW.Trod enc prog w ai sp held 28 v d ps):∃l:List SH,RdE eH w v l∧∀s∈l,s.mach :=
 Dp oI SH.mach Av (fun _ _ _ h=>LH h) hval hd
end
end
end
end Go.Proofs.YtmfiaadjdbemnaaGreatDoor
