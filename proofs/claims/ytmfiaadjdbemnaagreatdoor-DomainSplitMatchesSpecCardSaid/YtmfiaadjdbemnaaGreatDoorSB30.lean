/- Contracts and lemmas. No condition. -/
import Derived.Test.YtmfiaadjdbemnaaGreatDoorSB29
import Derived.Test.YtmfiaadjdbemnaaGreatDoorSB28
set_option maxRecDepth 100000
set_option maxHeartbeats 8000000
set_option linter.unusedSimpArgs false
set_option linter.unusedVariables false
namespace Go.Proofs.YtmfiaadjdbemnaaGreatDoor
open Tryz
section
variable {ops:Array Oper} {rest:List Oper} {o:Oper} {a:Act} {w:World} {Q:Exit→Act→World→Prop}
section
open Go.RowKit Go.Shelf
theorem Vy (l:List SH) (v:Value) (w:World) (hv:RdE eH w v l) :
  Calls prog 86 #[v] w fun e w'=>e = .returned (.int .i64 (ci l))∧Below w.heap.size w w':=by
 cases h:eO l with
 | false=>rw[th h];exact RR l v w hv h
 | true =>
   obtain⟨m,d,hF⟩:=oW h
   by_cases hm:m≤l.length
   ·exact RU l m d v w hv h hF hm
   ·rw[ux h hF (by omega)];exact RT l m d v w hv h hF (by omega)
theorem uz {l:List SH} (h:ci l=0):eO l=true∧∃m d,oO l m d∧m≤l.length∧eU l=eW (l.take m) d 0:=by
 cases hf:eO l with
 | false=>rw[th hf] at h;cases h
 | true =>
   obtain⟨m,d,hF⟩:=oW hf
   by_cases hm:m≤l.length
   ·refine⟨rfl,m,d,hF,hm,?_⟩
    unfold eU Ia;rw[G_ h,hF.hn,hF.hd,Int.toNat_natCast]
   ·rw[ux hf hF (by omega)] at h;cases h
attribute [local irreducible] Calls shc shA
theorem R3 (l:List SH) (v:Value) (w:World) (hv:RdE eH w v l) :
  Calls prog 44 #[v] w fun e w'=>e = .returned (.tuple #[.string ⟨(eU l).toArray⟩,.int .i64 (ci l)])∧Below w.heap.size w w':=by
 have HCK:=O (Vy l v w hv)
 by_cases h0:ci l=0
 ·obtain⟨hf,m,d,hF,hm,he⟩:=uz h0
  have HCV:Hid (∀y,Below w.heap.size w y→Calls prog 87 #[v] y fun e w'=>∃f,e = .returned f∧oH w' f (l.take m)∧Below y.heap.size y w'):=O (fun y hy=>Es l m _ y (hv.on hy) hF.hn hF.h1 hm hF.len hF.h2 hF.idx);have HCC:Hid (∀(f:Value) (u:World),oH u f (l.take m)→Ip (l.take m) d f u):=O (fun f u hc=>AC hF hm hc);rw[h0] at HCK;rw[he,h0];obtain⟨va,vc,rfl,_,_,_⟩:=hv;clear hf hF hm he h0
  go_enter func44,ntmps44
  go_wp2_with (first
   |(go_at_call 86;refine HCK.out.mono ?_;rintro e w1 ⟨rfl,hb1⟩;have HB1:=O hb1;clear hb1)
   |(go_at_call 87;refine(HCV.out _ HB1.out).mono ?_;rintro e w2 ⟨f,rfl,hcur,hb2⟩;have HB2:=O (HB1.out.trans (hb2.mono HB1.out.size));obtain⟨p1,p2,rfl,hcc⟩:=HCC.out _ _ hcur;have hcc2:=hcc 0 w2 (O_ _ _);rw[show B8 0=0 from rfl] at hcc2;have HCU:=O hcc2;clear hcc hcc2 hcur hb2)
   |(go_at_call 141;refine HCU.out.mono ?_;rintro e w3 ⟨rfl,hb3⟩;have HB3:=O (HB2.out.trans (hb3.mono HB2.out.size));clear hb3))
  go_ret2
  exact⟨rfl,HB3.out⟩
 ·have hc:eU l=[]:=by unfold eU;rw[H_ h0]
  rw[hc]
  have h1:(ci l == 0)=false:=by rw[U_];exact h0
  obtain⟨va,vc,rfl,_,_,_⟩:=hv;generalize ci l=res at HCK h1 h0 ⊢;clear hc h0
  go_enter func44,ntmps44
  go_wp2_with (go_at_call 86;refine HCK.out.mono ?_;rintro e w1 ⟨rfl,hb1⟩;have HB1:=O hb1;clear hb1)
  go_ret2
  exact⟨rfl,HB1.out⟩
end
section
open Go.RowKit Go.Shelf
theorem IG (b:BK) (a:Option Addr) (n c:Nat) (j:Nat) (s:ByteArray) (h:(bc b (.slice a n c))[j]?=some (.string s)):j=36:=by
 have hj:j<38:=by have := (Q_.1 h).1;rwa [aC] at this
 by_cases h1:j<16
 ·rw[pW _ _ j h1] at h;unfold aq at h;cases h
 by_cases h2:j<20
 ·have : j=16∨j=17∨j=18∨j=19:=by omega
  rcases this with rfl|rfl|rfl|rfl
  ·rw[uj] at h;cases h
  ·rw[sy] at h;cases h
  ·rw[ul] at h;cases h
  ·rw[um] at h;cases h
 by_cases h3:j<36
 ·obtain⟨k,rfl⟩:∃k,j=20+k:=⟨j-20,by omega⟩
  rw[mM _ _ k (by omega)] at h;unfold aq at h;cases h
 have : j=36∨j=37:=by omega
 rcases this with rfl|rfl
 ·rfl
 ·rw[iU] at h;cases h
theorem RdK.offBk {w w':World} {v:Value} {l:List K} {g:Nat} {b:BK} {a':Option Addr} {n' c':Nat} {T:TypeId} {fr:Nat × Nat} (h:RdK w v l) (hg:w.heap[g]?=some (.cells (bc b (.slice a' n' c')) T fr)) (ho:∀k,k≠g→w'.heap[k]? = w.heap[k]?) (hs:w.heap.size≤w'.heap.size):RdK w' v l:=by
 obtain⟨a,cap,rfl,h1,h2,h3⟩:=h;refine⟨a,cap,rfl,h1,h2,fun h0 => ?_⟩;obtain⟨b0,off,rfl,hlt,hc⟩:=h3 h0;refine⟨b0,off,rfl,P_ hlt hs,fun j hj k hk => ?_⟩
 have hne:b0≠g:=by
  intro e;subst e;have h8:=hc 0 h0 2 (by omega);rw[e_ _ _ _ _ _ _ hg] at h8;have h9:=IG _ _ _ _ _ _ (h8.trans (rfl:(kc (ae l 0))[2]?=some (.string ⟨(ae l 0).val.toArray⟩)));have h7:=hc 0 h0 1 (by omega);rw[e_ _ _ _ _ _ _ hg] at h7
  have e1:off+0*9+1=20+15:=by omega
  rw[e1,mM _ _ 15 (by decide)] at h7;unfold aq at h7;have h6:=h7.trans (rfl:(kc (ae l 0))[1]?=some (.int .i64 (ae l 0).ty))
  cases h6
 rw[World.cell?_of_block (a:=⟨b0,off+j*9+k,none⟩) (ho b0 hne)];exact hc j hj k hk
theorem yF (hgd:Region.wanted o (yielded ops a.tmps)=true) (ho:o.op = .build 47 #[])
  (h:wpList prog ops Q rest (a.put o.dst (.agg (bc zB ah))) w):wpList prog ops Q (o::rest) a w :=
 wpList_step fun K hK=>by
  rw[G_ hgd];have hr:=run_build (P:=prog) w 47 #[] _ yJ;unfold Oper.wp execOp;simp only[ho,List.map_toArray,List.map_nil,hr,Sem.run_bind,Sem.run_pure,Result.andThen_ok];exact hK _ _ h
theorem iA (b b':BK) (u u':Value):(bc b u).size=(bc b' u').size:=by rw[aC,aC]
theorem dX (b:BK) (u:Value):(prog.info? 47).map (·.size)=some (bc b u).size:=by rw[aC];exact dU
theorem NK (dk blob:List UInt8) (w:World) (hk:KAt w) (hl:blob.length≤800000) :
  Calls prog 45 #[.string ⟨dk.toArray⟩,.string ⟨blob.toArray⟩] w fun en w'=>∃va vn vc,en = .returned (.tuple #[.agg (bc (opB dk blob) (.slice va vn vc)),.int .i64 (opE dk blob)])∧RdK w' (.slice va vn vc) (opK dk blob)∧Below w.heap.size w w':=by
 by_cases h:dk.length=32
 ·refine(Ej dk blob w hk h hl).mono ?_
  rintro e w' ⟨vk,rfl,h1,h2⟩;obtain⟨a,c,rfl,_,_,_⟩:=id h1;exact⟨_,_,_,rfl,h1,h2⟩
 ·have e1:opE dk blob=1:=by unfold opE;rw[H_ h]
  have e2:opB dk blob=zB:=by unfold opB;rw[e1];rfl
  have e3:opK dk blob=[]:=by unfold opK;rw[e1];rfl
  rw[e1,e2,e3];refine(xU dk blob w h).mono ?_;rintro e w' ⟨rfl,h2⟩;exact⟨_,_,_,rfl,RdK.nil _,h2⟩
theorem yp (blob:List UInt8) (l:List SH):(blE blob≠0∧ulE blob l=blE blob∧ulB blob l=zB∧ulK blob l=[])∨(blE blob=0∧ci l≠0∧ulE blob l=ci l∧ulB blob l=zB∧ulK blob l=[]) ∨
  (blE blob=0∧ci l=0∧ulE blob l=opE (eU l) blob∧ulB blob l=opB (eU l) blob∧ulK blob l=opK (eU l) blob):=by
 by_cases h1:blE blob=0
 ·by_cases h2:ci l=0
  ·have e:ulE blob l=opE (eU l) blob:=by unfold ulE;rw[G_ h1,G_ h2]
   refine .inr (.inr ⟨h1,h2,e,?_,?_⟩)
   ·unfold ulB;rw[e];split
    ·rfl
    ·rename_i h;unfold opB;rw[H_ h]
   ·unfold ulK;rw[e];split
    ·rfl
    ·rename_i h;unfold opK;rw[H_ h]
  ·have e:ulE blob l=ci l:=by unfold ulE;rw[G_ h1,H_ h2]
   refine .inr (.inl ⟨h1,h2,e,?_,?_⟩)
   ·unfold ulB;rw[e,H_ h2]
   ·unfold ulK;rw[e,H_ h2]
 ·have e:ulE blob l=blE blob:=by unfold ulE;rw[H_ h1]
  refine .inl ⟨h1,e,?_,?_⟩
  ·unfold ulB;rw[e,H_ h1]
  ·unfold ulK;rw[e,H_ h1]
attribute [local irreducible] Calls ci eU blE opE opB opK pkB
theorem j6 (blob:List UInt8) (l:List SH) (v:Value) (w:World) (hk:KAt w) (hv:RdE eH w v l) (hl:blob.length≤800000) :
  Calls prog 21 #[.string ⟨blob.toArray⟩,v] w fun e w'=>∃va vn vc,e = .returned (.tuple #[.agg (bc (ulB blob l) (.slice va vn vc)),.int .i64 (ulE blob l)])∧RdK w' (.slice va vn vc) (ulK blob l)∧Below w.heap.size w w':=by
 have hz:=fh;obtain⟨W0,hW0⟩:∃W0,W0=w.alloc (.cells (bc zB (.slice none 0 0)) 47):=⟨_,rfl⟩;have HW:=O hW0
 have HX:Hid (∀y,Below W0.heap.size W0 y→y.heap[w.heap.size]?=some (.cells (bc zB ah) 47 (0,0))∧Below w.heap.size w y):=O (fun y hy=>by
  rw[hW0] at hy
  exact⟨aa (heap_alloc_new _ _) hy,cJ _ _ hy⟩)
 have HPK:=O (fun (u:World)=>O9 blob u hl);have HCB:=O (fun (u:World) (h:Below w.heap.size w u)=>R3 l v u (hv.on h));have HOP:=O (fun (u:World) (h:Below w.heap.size w u)=>NK (eU l) blob u (hk.on h) hl);have HB0:=O (HX.out W0 (O_ _ _)).2;obtain⟨va,vc,rfl,_,_,_⟩:=hv;clear hk hl hW0
 rcases yp blob l with⟨h1,e1,e2,e3⟩|⟨h1,h2,e1,e2,e3⟩|⟨h1,h2,e1,e2,e3⟩
 ·rw[e1,e2,e3]
  have i1:(blE blob == 0)=false:=by rw[U_];exact h1
  generalize blE blob=be at HPK i1 ⊢;generalize pkB blob=pb at HPK;clear h1 e1 e2 e3 HCB HOP
  go_enter func21,ntmps21
  go_upto_region 1 with fail
  rw[←HW.out]
  try dsimp only[Act.put]
  go_wp2_with (first
   |(go_at_call 43;refine(HPK.out _).mono ?_;rintro e x1 ⟨rfl,hx1⟩;have HX1:=O hx1;clear hx1)
   |(refine aH (bc pb ah) 47 rfl (.tmp 6) (.tmp 13) rfl _ rfl rfl rfl (dX _ _) (iA _ _ _ _) (dl _ _ _ _) ?_)
   |(refine yF rfl rfl ?_)
   |(have hxy:=HX.out _ (HX1.out.trans (((O_ x1.heap.size x1).alloc (A_ _) (.cells (bc pb ah) 47)).mono HX1.out.size));refine aM (T:=47) (bc zB ah) (dX _ _) rfl (.tmp 4) (.tmp 17) rfl w.heap.size (bc zB ah) rfl rfl (dl _ _ _ _) (iA _ _ _ _) hxy.1 ?_;intro w7 hge7 hoe7 hbe7;have HE7:Hid (w7.heap[w.heap.size]?=some (.cells (bc zB ah) 47 (0,0))∧Below w.heap.size w w7):=(O ⟨hge7,hxy.2.trans (hbe7 _ (A_ _))⟩);clear hge7 hoe7 hbe7 hxy))
  refine g_ (aA rfl _ _ w.heap.size _ rfl (aX _ _ _ _ _ HE7.out.1)) rfl ?_;exact⟨_,_,_,rfl,RdK.nil _,HE7.out.2⟩
 ·rw[e1,e2,e3]
  have i1:(blE blob == 0)=true:=by rw[beq_iff_eq];exact h1
  have i2:(ci l == 0)=false:=by rw[U_];exact h2
  rw[h1] at HPK;generalize pkB blob=pb at HPK;generalize ci l=ce at HCB i2 ⊢;generalize eU l=cm at HCB;clear i1 h1 h2 e1 e2 e3 HOP
  go_enter func21,ntmps21
  go_upto_region 1 with fail
  rw[←HW.out]
  try dsimp only[Act.put]
  go_wp2_with (first
   |(go_at_call 43;refine(HPK.out _).mono ?_;rintro e x1 ⟨rfl,hx1⟩;have HX1:Hid (Below W0.heap.size W0 (x1.alloc (.cells (bc pb ah) 47))):=(O (hx1.trans (((O_ x1.heap.size x1).alloc (A_ _) (.cells (bc pb ah) 47)).mono hx1.size)));clear hx1)
   |(refine aH (bc pb ah) 47 rfl (.tmp 6) (.tmp 13) rfl _ rfl rfl rfl (dX _ _) (iA _ _ _ _) (dl _ _ _ _) ?_)
   |(go_at_call 44;refine(HCB.out _ (HX.out _ HX1.out).2).mono ?_;rintro e x2 ⟨rfl,hx2⟩;have HX2:=O (HX.out _ (HX1.out.trans (hx2.mono HX1.out.size)));clear hx2)
   |(refine yF rfl rfl ?_)
   |(refine aM (T:=47) (bc zB ah) (dX _ _) rfl (.tmp 4) (.tmp 26) rfl w.heap.size (bc zB ah) rfl rfl (dl _ _ _ _) (iA _ _ _ _) HX2.out.1 ?_;intro w7 hge7 hoe7 hbe7;have HE7:Hid (w7.heap[w.heap.size]?=some (.cells (bc zB ah) 47 (0,0))∧Below w.heap.size w w7):=(O ⟨hge7,HX2.out.2.trans (hbe7 _ (A_ _))⟩);clear hge7 hoe7 hbe7))
  refine g_ (aA rfl _ _ w.heap.size _ rfl (aX _ _ _ _ _ HE7.out.1)) rfl ?_;exact⟨_,_,_,rfl,RdK.nil _,HE7.out.2⟩
 ·rw[e1,e2,e3]
  rw[h1] at HPK;rw[h2] at HCB;generalize pkB blob=pb at HPK;generalize eU l=cm at HCB HOP ⊢;generalize opE cm blob=oe at HOP ⊢;generalize opB cm blob=ob at HOP ⊢;generalize opK cm blob=ok at HOP ⊢;clear h1 h2 e1 e2 e3
  go_enter func21,ntmps21
  go_upto_region 1 with fail
  rw[←HW.out]
  try dsimp only[Act.put]
  go_wp2_with (first
   |(go_at_call 43;refine(HPK.out _).mono ?_;rintro e x1 ⟨rfl,hx1⟩;have HX1:Hid (Below W0.heap.size W0 (x1.alloc (.cells (bc pb ah) 47))):=(O (hx1.trans (((O_ x1.heap.size x1).alloc (A_ _) (.cells (bc pb ah) 47)).mono hx1.size)));clear hx1)
   |(refine aH (bc pb ah) 47 rfl (.tmp 6) (.tmp 13) rfl _ rfl rfl rfl (dX _ _) (iA _ _ _ _) (dl _ _ _ _) ?_)
   |(go_at_call 44;refine(HCB.out _ (HX.out _ HX1.out).2).mono ?_;rintro e x2 ⟨rfl,hx2⟩;have HX2:=O (HX1.out.trans (hx2.mono HX1.out.size));clear hx2)
   |(go_at_call 45;refine(HOP.out _ (HX.out _ HX2.out).2).mono ?_;rintro e x3 ⟨ka,kn,kc,rfl,hrk,hx3⟩;have HX3:=O (HX.out _ (HX2.out.trans (hx3.mono HX2.out.size)));have HRK:=O hrk;clear hx3 hrk)
   |(refine aM (T:=47) (bc ob (.slice ka kn kc)) (dX _ _) rfl (.tmp 4) (.tmp 31) rfl w.heap.size (bc zB ah) rfl rfl (dl _ _ _ _) (iA _ _ _ _) HX3.out.1 ?_;intro w7 hge7 hoe7 hbe7;have HE7:Hid (w7.heap[w.heap.size]?=some (.cells (bc ob (.slice ka kn kc)) 47 (0,0))∧Below w.heap.size w w7):=(O ⟨hge7,HX3.out.2.trans (hbe7 _ (A_ _))⟩);have HO7:=O (HRK.out.offBk HX3.out.1 hoe7 (hbe7 0 (N_ _)).size);clear hge7 hoe7 hbe7))
  refine g_ (aA rfl _ _ w.heap.size _ rfl (aX _ _ _ _ _ HE7.out.1)) rfl ?_;exact⟨_,_,_,rfl,HO7.out,HE7.out.2⟩
end
section
open Go.RowKit Go.Shelf
structure oB (w:World) (g cap:Nat) (cur:Array Value) (l:List K):Prop where
 hg:w.heap[g]?=some (.cells cur 86 (0,0))
 h1:l.length≤cap
 h2:cap≤maxLen
 h3:cur.size=cap*9
 h4:cur.toList.take (l.length*9)=dV l
theorem oB.on {w w':World} {g cap:Nat} {cur:Array Value} {l:List K} (h:oB w g cap cur l) (hb:Below w.heap.size w w'):oB w' g cap cur l :=
 ⟨aa h.hg hb,h.h1,h.h2,h.h3,h.h4⟩
theorem oB.cell {w:World} {g cap:Nat} {cur:Array Value} {l:List K} (h:oB w g cap cur l) (j i:Nat) (hj:j<l.length) (hi:i<9):w.cell? ⟨g,j*9+i,none⟩=(kc (ae l j))[i]? := by
 rw[e_ _ _ _ _ _ _ h.hg,←vf l j i hj hi,←h.h4,List.getElem?_take,G_ (by omega),Array.getElem?_toList]
theorem oB.range {w:World} {g cap:Nat} {cur:Array Value} {l:List K} (h:oB w g cap cur l) (j:Nat) (hj:j<l.length):w.rangeAt g (j*9) (kc (ae l j)).toList:=by
 intro i x hx
 have hi:i<9:=by
  have := (d_.1 hx).1;exact this
 rw[h.cell j i hj hi,←hx,Array.getElem?_toList]
theorem GQ (l:List K) (i:Nat) (y:K) (hi:i<l.length):dV (l.set i y)=(dV l).take (i*9)++(kc y).toList++(dV l).drop (i*9+9):=by
 induction l generalizing i with
 | nil=>simp at hi
 | cons k l ih =>
   cases i with
   | zero =>
     rw[C_,dV,dV,Nat.zero_mul,c_,List.nil_append,a_,List.drop_append_of_le_length (by rw[mZ];exact A_ _)];rw[show List.drop 9 (kc k).toList=[] from rfl]
     rfl
   | succ i =>
     have hi':i<l.length:=by simpa using hi
     rw[D_,dV,dV,ih i hi',List.take_append,List.drop_append,mZ,show (i+1)*9-9=i*9 by omega,show (i+1)*9+9-9=i*9+9 by omega,show List.take ((i+1)*9) (kc k).toList=(kc k).toList from Y_ (by rw[mZ];omega),show List.drop ((i+1)*9+9) (kc k).toList=[] from List.drop_of_length_le (by rw[mZ];omega)];simp only[R_,List.nil_append]
theorem kZ:(prog.info? 86).map (·.size)=some 9:=by kernel_rfl
theorem oB.put {w:World} {g cap:Nat} {cur:Array Value} {l:List K} (h:oB w g cap cur l) (i:Nat) (y:K) (hi:i<l.length) :
  ∃cur',(storeVar 86 ⟨g,i*9,none⟩ (.agg (kc y))).run prog w = .ok () (w.setRow g cur')∧oB (w.setRow g cur') g cap cur' (l.set i y):=by
 have hr:=l9 w g (i*9) 86 86 cur (kc y) h.hg kZ (jR y) (by have := h.h1;have := h.h3;show i*9+9≤cur.size;omega);have hk:(kc y).toList.length=9:=rfl
 have hcl:cur.toList.length=cap*9:=by rw[Array.length_toList];exact h.h3
 have h1:=h.h1;have h4:=h.h4;refine⟨_,hr,⟨setRow_heap _ _ _ _ _ _ h.hg,by rw[List.length_set];exact h.h1,h.h2,?_,?_⟩⟩
 ·rw[List.size_toArray,E_,E_,b_,S_,hk,hcl]
  omega
 ·rw[List.length_set,GQ l i y hi,←h4]
  simp only[Nat.add_zero,hk]
  have e1:(List.take (i*9) cur.toList).length=i*9:=by rw[b_,hcl];omega
  rw[List.take_append,List.take_append,List.take_take,List.take_take,List.drop_take,E_,e1,hk,Nat.min_eq_left (show i*9≤l.length*9 by omega),Nat.min_eq_right (show i*9≤l.length*9 by omega),
   show List.take (l.length*9-i*9) (kc y).toList=(kc y).toList from Y_ (by rw[hk];omega),show l.length*9-(i*9+9)=l.length*9-(i*9+9) from rfl]
theorem LM (g n cap i:Nat) (hi:i<n) (hn:n≤cap) (y:World):(Instr.slice 43 (.slice (some ⟨g,0,none⟩) n cap) (some (.int .i64 i)) none none).run prog y = .ok (.slice (some ⟨g,i*9,none⟩) (n-i) (cap-i)) y:=by
 have hu:prog.underlying 43=some (.slice (prog.elem 43)):=by kernel_rfl
 have hs:(sizeOf (prog.elem 43)).run prog y = .ok 9 y:=by kernel_rfl
 rw[run_slice_l y _ _ n cap hu .i64 _ (by omega) (by omega),hs]
 have hne:¬cap=i:=by omega
 have gX:(⟨g,0,none⟩:Addr).add (i*9)=⟨g,i*9,none⟩:=by unfold Addr.add;simp;exact fun h=>h.symm
 simp[Result.andThen,sliced,hne,gX]
 try exact fun h=>h.symm
theorem LL (g n cap i:Nat) (hi:i≤n) (hn:n≤cap) (y:World):(Instr.slice 43 (.slice (some ⟨g,0,none⟩) n cap) none (some (.int .i64 i)) none).run prog y = .ok (.slice (some ⟨g,0,none⟩) i cap) y:=by
 have hu:prog.underlying 43=some (.slice (prog.elem 43)):=by kernel_rfl
 have hs:(sizeOf (prog.elem 43)).run prog y = .ok 9 y:=by kernel_rfl
 rw[run_slice_h y _ _ n cap hu .i64 _ (by omega) (by omega),hs]
 have gX:(⟨g,0,none⟩:Addr).add 0=⟨g,0,none⟩:=by unfold Addr.add;simp
 simp[Result.andThen,sliced,gX]
theorem Qo:(prog.info? 86).map (·.zero)=some (some (.agg (kc zK))):=by kernel_rfl
theorem oz (w:World):(zeroValue 86).run prog w = .ok (.agg (kc zK)) w:=by
 have h:=Qo;generalize kc zK=L at h ⊢
 cases hq:prog.info? 86 with
 | none=>rw[hq] at h;cases h
 | some i =>
   rw[hq] at h
   simp at h
   simp[zeroValue,typeInfo,hq,h]
theorem Il (n:Nat):(Builtin.zeroCells (kc zK) n).toList.length=n*9:=by
 have : (kc zK).size=9:=rfl
 simp[Builtin.zeroCells,this]
theorem Im (n:Nat):∀v∈(Builtin.zeroCells (kc zK) n).toList,v.oneCell'=true:=by
 intro v hv;simp only[Builtin.zeroCells] at hv
 simp at hv
 obtain⟨a,ha,rfl⟩:=hv;have h9:a % 9<9:=Nat.mod_lt _ (by decide)
 have : ∀m,m<9→((kc zK)[m]!).oneCell'=true:=by decide
 exact this _ h9
theorem oB.clear {w:World} {g cap:Nat} {cur:Array Value} {l:List K} (h:oB w g cap cur l) (i:Nat) (hi:i<l.length) :
  ∃cur',(∀ty,(Builtin.clear_ #[43] ty #[.slice (some ⟨g,i*9,none⟩) (l.length-i) (cap-i)]).run prog w = .ok (.tuple #[]) (w.setRow g cur'))∧RdK (w.setRow g cur') (.slice (some ⟨g,0,none⟩) i cap) (l.take i):=by
 obtain⟨m,hm⟩:∃m,l.length-i=m+1:=⟨l.length-i-1,by omega⟩;have hu:=underlying43;have h1:=h.h1
 have hcl:cur.toList.length=cap*9:=by rw[Array.length_toList];exact h.h3
 have hst:=run_storeCells_at (P:=prog) g (i*9) 86 (Builtin.zeroCells (kc zK) (m+1)).toList 0 cur w h.hg (by rw[Il];have := h.h3;omega) (Im _);simp only[Nat.add_zero] at hst;have hz:=oz;generalize kc zK=Z at hz hst;refine⟨_,fun ty=>by rw[hm];simp[Builtin.clear_,run_underlying hu,hz,Value.cells,hst];rfl,?_⟩
 have hlt:(l.take i).length=i:=by rw[b_];omega
 refine⟨_,cap,by rw[hlt],by rw[hlt];omega,h.h2,fun h0=>⟨g,0,rfl,by rw[kE];exact(Q_.1 h.hg).1,fun j hj k hk => ?_⟩⟩;rw[hlt] at hj;rw[a_,e_ _ _ _ _ _ _ (setRow_heap _ _ _ _ _ _ h.hg)]
 have e1:(List.take (i*9) cur.toList).length=i*9:=by rw[b_,hcl];omega
 rw[List.getElem?_toArray]
 try rw[R_]
 rw[List.getElem?_append_left (by rw[e1];omega),List.getElem?_take,G_ (by omega)];have := h.cell j k (by omega) hk;rw[e_ _ _ _ _ _ _ h.hg] at this;rw[Array.getElem?_toList,this,az _ _ (by omega),az _ _ (by rw[hlt];exact hj),List.getElem_take]
open Go.RowKit Go.Shelf
def mI (g:Nat) (lb:Array Value) (p:K→Bool) (ai:Nat) (w:World):Prop :=
 ∀(W:World) (x:K),Below ai w W→Calls prog g (#[kv x]++lb) W fun e w'=>e = .returned (.bool (p x))∧Below W.heap.size W w'
theorem mI.toB {g:Nat} {lb:Array Value} {p:K→Bool} {ai:Nat} {w w1:World} (h:mI g lb p ai w) (hb:Below ai w w1) (hs:ai≤w1.heap.size):D3 g lb p w1:=fun W x hW =>
 (h W x (hb.trans (hW.mono hs))).mono (fun e w' ⟨h1,h2⟩=>⟨h1,hW.trans (h2.mono hW.size)⟩)
def rL (p:K→Bool) (l:List K):List K:=l.filter fun k => !p k
structure pO (p:K→Bool) (l l':List K) (ki kj:Nat):Prop where
 lt:ki<kj
 le:kj≤l.length
 len:l'.length=l.length
 tk:l'.take ki=rL p (l.take kj)
 dr:l'.drop kj=l.drop kj
theorem pO.at {p:K→Bool} {l l':List K} {ki kj:Nat} (h:pO p l l' ki kj) (hj:kj<l.length):ae l' kj=ae l kj:=by
 have h1:=h.len;rw[az _ _ (by omega),az _ _ hj];have h2:=h.dr;rw[List.drop_eq_getElem_cons (by omega),List.drop_eq_getElem_cons hj,List.cons.injEq] at h2;exact h2.1
theorem rM (p:K→Bool) (l:List K) (k:Nat) (hk:k<l.length):rL p (l.take (k+1))=rL p (l.take k)++(if p (ae l k) then [] else [ae l k]):=by
 unfold rL;rw[List.take_succ_eq_append_getElem hk,List.filter_append,az l k hk]
 cases h:p l[k] <;> simp[h]
theorem pO.start (p:K→Bool) (l:List K) (i:Nat) (hi:i<l.length) (h:∀j,j<i→p (ae l j)=false) (hp:p (ae l i)=true):pO p l l i (i+1):=by
 refine⟨by omega,by omega,rfl,?_,rfl⟩;rw[rM p l i hi,hp,G_ rfl,List.append_nil];unfold rL;rw[List.filter_eq_self.2];intro a ha;obtain⟨j,hj,rfl⟩:=List.mem_iff_getElem.1 ha
 have hj2:j<i:=by rw[b_] at hj;omega
 have := h j hj2;rw[az _ _ (by omega)] at this;rw[List.getElem_take,this]
 rfl
theorem pO.skip {p:K→Bool} {l l':List K} {ki kj:Nat} (h:pO p l l' ki kj) (hj:kj<l.length) (hp:p (ae l kj)=true):pO p l l' ki (kj+1):=by
 have := h.lt;refine⟨by omega,by omega,h.len,?_,?_⟩
 ·rw[rM p l kj hj,hp,G_ rfl,List.append_nil,h.tk]
 ·rw[←List.drop_drop,h.dr,List.drop_drop]
theorem pO.keep {p:K→Bool} {l l':List K} {ki kj:Nat} (h:pO p l l' ki kj) (hj:kj<l.length) (hp:p (ae l kj)=false):pO p l (l'.set ki (ae l kj)) (ki+1) (kj+1):=by
 have h1:=h.lt;have h2:=h.len
 have h3:ki<(l'.set ki (ae l kj)).length:=by rw[List.length_set];omega
 refine⟨by omega,by omega,by rw[List.length_set];exact h.len,?_,?_⟩
 ·rw[rM p l kj hj,hp,H_ (by simp),List.take_succ_eq_append_getElem h3,List.getElem_set_self,List.take_set_of_le (A_ _),h.tk]
 ·rw[List.drop_set_of_lt (by omega),←List.drop_drop,h.dr,List.drop_drop]
theorem pO.done {p:K→Bool} {l l':List K} {ki kj:Nat} (h:pO p l l' ki kj) (hj:kj=l.length):l'.take ki=rL p l:=by
 rw[h.tk,hj,List.take_length]
theorem E4 (k:K) (g off:Nat) (x:Operand) (ho:o.op = .load 86 x) (hc:w.rangeAt g off (kc k).toList)
  (hx:a.eval x = .pointer (some ⟨g,off,none⟩)) (hgd:o.guard=none)
  (h:wpList prog ops Q rest (a.put o.dst (.agg (kc k))) w):wpList prog ops Q (o::rest) a w :=
 wpList_plain hgd fun _ hK=>wp_load_mid _ x ho g off hx (kc k).toList _ hc underlying86 rfl kZ (hK _ _ h)
theorem nO (a:K):(prog.info? 86).map (·.size)=some (kc a).size:=kZ
theorem Wk (p:K→Bool) (l:List K):(∀j,j<l.length→p (ae l j)=false)∨∃i,i<l.length∧(∀j,j<i→p (ae l j)=false)∧p (ae l i)=true:=by
 cases h:l.findIdx? p with
 | none =>
   rw[List.findIdx?_eq_none_iff] at h;exact .inl (fun j hj=>by rw[az _ _ hj];exact h _ (List.getElem_mem hj))
 | some i =>
   rw[List.findIdx?_eq_some_iff_getElem] at h;obtain⟨hi,hp,hn⟩:=h;exact .inr ⟨i,hi,fun j hj=>by rw[az _ _ (by omega)];simpa using hn j hj,by rw[az _ _ hi];exact hp⟩
theorem KW (p:K→Bool) (l:List K) (h:∀j,j<l.length→p (ae l j)=false):rL p l=l:=by
 unfold rL;rw[List.filter_eq_self];intro a ha;obtain⟨j,hj,rfl⟩:=List.mem_iff_getElem.1 ha;have := h j hj;rw[az _ _ hj] at this;rw[this]
 rfl
attribute [local irreducible] Calls kc
theorem wX (v:Value) (l:List K) (g:Nat) (lb:Array Value) (p:K→Bool) (ai:Nat) (w0 w:World) (eg:∀args w,(callFunc g args).run prog w = .ok (.enter g args) w) (hown:b7 w ai v l) (hb0:Below ai w0 w) (hs0:ai≤w.heap.size) (hp:mI g lb p ai w0) (hl:l.length≤100000) :
  Calls prog 52 #[v,.func (.func g) #[] lb] w fun e w'=>∃v',e = .returned v'∧RdK w' v' (rL p l)∧Below ai w w':=by
 have hrd:=hown.rd;have hif:=sG v l g lb p w eg hrd (hp.toB hb0 hs0)
 rcases Wk p l with hno|⟨i0,hi0,hno,hhit⟩
 ·rw[qt p l hno] at hif
  have HIF:=O hif;have HRD:=O hrd;rw[KW p l hno];obtain⟨va,vc,rfl,_,_,_⟩:=hrd;clear hown hb0 hp hif hno
  go_enter func52,ntmps52
  go_wp2_with (go_at_call 102;refine HIF.out.mono ?_;rintro e w1 ⟨rfl,hb1⟩;have HB1:=O hb1;clear hb1)
  go_ret;exact⟨_,rfl,HRD.out.on HB1.out,HB1.out.mono hs0⟩
 ·rw[sD p l i0 hi0 hno hhit] at hif
  have HIF:=O hif
  rcases hown.2 with⟨rfl,h0⟩|⟨g0,cap,cur,rfl,hg,hgg,h1,h2,h3,h4⟩
  ·omega
  have HDR:Hid (oB w g0 cap cur l):=O ⟨hgg,h1,h2,h3,h4⟩;have HIN:=O (pO.start p l i0 hi0 hno hhit);have HP:=O hp;have HB0:=O hb0;have HG:=O hg
  have i1:(l.length:Int)≤100000:=by omega
  have i2:(i0:Int)<l.length:=by omega
  have i3:((i0:Int) == -1)=false:=by rw[U_];omega
  have HI0:=O hi0;have hzk:=oz;clear hown hb0 hp hif hno hhit hrd hg hgg h1 h2 h3 h4 hl hi0
  go_enter func52,ntmps52
  go_wp2_with (go_at_call 102;refine HIF.out.mono ?_;rintro e w1 ⟨rfl,hb1⟩;have HB1:=O hb1;clear hb1)
  go_loopw [5,6] (fun i j wr=>∃(ki kj:Nat) (l':List K) (cur':Array Value),i = .int .i64 ki∧j = .int .i64 kj∧Hid (pO p l l' ki kj)∧Hid (oB wr g0 cap cur' l')∧Hid (Below ai w wr)) (fun _ j _=>l.length-(intOf j).toNat)
  case atStart=>exact⟨i0,i0+1,l,cur,rfl,by go_num,HIN,O (HDR.out.on HB1.out),O (HB1.out.mono hs0)⟩
  case round =>
   obtain⟨ki,kj,l',cur',rfl,rfl,hin,hdr,hb⟩:=hrel;have hkk:=hin.out.lt;have hkl:=hin.out.le;have hll:=hin.out.len
   have j0:(ki:Int)<kj:=by omega
   have j1:(ki:Int)<l.length:=by omega
   have j2:(kj:Int)≤l.length:=by omega
   have HKI:Hid (ki<l.length∧kj≤l.length∧l'.length=l.length):=O ⟨by omega,hkl,hll⟩
   by_cases hlt:kj<l.length
   ·have k1:(kj:Int)<l.length:=by omega
    have HKL:=O hlt;have hrng:=hdr.out.range kj (by omega);rw[hin.out.at hlt] at hrng;have HR:=O hrng;have HSK:=O (fun h=>hin.out.skip hlt h);have HKP:=O (fun h=>hin.out.keep hlt h);generalize ae l kj=y at HR HSK HKP;clear hrng hlt hkk hkl hll hin
    go_upto_region 8 with (first
     |(refine E4 y g0 (kj*9) (.tmp 24) rfl HR.out rfl rfl ?_)
     |(refine aH (kc y) 86 rfl (.tmp 7) (.tmp 25) rfl _ rfl rfl rfl (nO _) (by rw[show (kc zK).size=9 by unfold kc;rfl,show (kc y).size=9 by unfold kc;rfl]) (jR _) ?_))
    have HA9:Hid (Below wr.heap.size wr (wr.alloc (.cells (kc y) 86))∧(wr.alloc (.cells (kc y) 86)).heap[wr.heap.size]?=some (.cells (kc y) 86 (0,0))):=O ⟨(O_ _ _).alloc (A_ _) _,heap_alloc_new _ _⟩;simp only[Act.put];have HGL:Hid (g0<wr.heap.size):=O (Q_.1 hdr.out.hg).1;have HW9:Hid (ai≤wr.heap.size):=O (M_ hs0 hb.out.size);generalize wr.alloc (.cells (kc y) 86)=w9 at HA9 ⊢;have HG9:=O HA9.out.2;have HB9:Hid (Below ai w w9):=O (hb.out.trans (HA9.out.1.mono HW9.out));have HD9:=O (hdr.out.on HA9.out.1);generalize wr.heap.size=g9 at HG9 HGL ⊢;have hcall:=HP.out w9 y (HB0.out.trans HB9.out);unfold kv at hcall;clear HA9 hdr hb HR HW9;have h9l:ai≤w9.heap.size:=M_ hs0 HB9.out.size
    cases hq:p y with
    | true =>
      rw[hq] at hcall;have HC:=O hcall;have HIN2:=O (HSK.out hq);clear hcall hq HSK HKP
      go_wp2_with (first
       |(refine dY y g9 _ HG9.out rfl (.tmp 7) rfl rfl ?_)
       |(go_at_fn g;refine HC.out.mono ?_;rintro e w10 ⟨rfl,hb10⟩;have HB10:=O (HB9.out.trans (hb10.mono h9l));have HD10:=O (HD9.out.on hb10);clear hb10))
      go_roundw
      case rel=>exact⟨ki,kj+1,l',cur',rfl,by go_num,HIN2,HD10,HB10⟩
      case measure=>have := HKL.out;simp[intOf];omega
    | false =>
      rw[hq] at hcall;have HC:=O hcall;have HIN2:=O (HKP.out hq);clear hcall hq HSK HKP
      go_wp2_with (first
       |(refine dY y g9 _ HG9.out rfl (.tmp 7) rfl rfl ?_)
       |(go_at_fn g;refine HC.out.mono ?_;rintro e w10 ⟨rfl,hb10⟩;have HB10:=O (HB9.out.trans (hb10.mono h9l));have HD10:=O (HD9.out.on hb10);have HG10:=O (aa HG9.out hb10);obtain⟨cur2,hst,hd2⟩:=HD10.out.put ki y (by have := HKI.out;omega);have HST:=O hst;have HD2:=O hd2;clear hb10 hst hd2)
       |(refine dY y g9 _ HG10.out rfl (.tmp 7) rfl rfl ?_)
       |(refine bW rfl 86 (.tmp 33) (.tmp 32) rfl ⟨g0,ki*9,none⟩ (.agg (kc y)) rfl rfl HST.out ?_))
      go_roundw
      case rel=>exact⟨ki+1,kj+1,l'.set ki y,cur2,by go_num,by go_num,HIN2,HD2,O (HB10.out.trans (aK HG.out))⟩
      case measure=>have := HKL.out;simp[intOf];omega
   ·have he:kj=l.length:=by omega
    have k1:¬(kj:Int)<l.length:=by omega
    have hcp:=hdr.out.h1;have HD:=O (hin.out.done he);have hsl:=fun y:World=>LM g0 l.length cap ki (by omega) (by omega) y;have hsh:=fun y:World=>LL g0 l.length cap ki (by omega) (by omega) y;obtain⟨cur2,hcl,hrd2⟩:=hdr.out.clear ki (by omega);rw[hll] at hcl;have HRD2:Hid (RdK (wr.setRow g0 cur2) (.slice (some ⟨g0,0,none⟩) ki cap) (rL p l)):=O (by rw[←HD.out];exact hrd2);clear he hlt hkk hkl hll hin hdr hcp hrd2 HD;go_wp2;go_ret;exact⟨_,rfl,HRD2.out,hb.out.trans (aK HG.out)⟩
end
section
open Go.RowKit Go.Shelf
theorem fW {w:World} {a:Option Addr} {n cap:Nat} {l:List Int} (h:RdE eI w (.slice a n cap) l) (h0:0<l.length):∃b off,a=some ⟨b,off,none⟩∧b<w.heap.size∧∀j (hj:j<l.length),w.cell? ⟨b,off+j,none⟩=some (.int .i64 l[j]):=by
 obtain⟨b,off,e,hb,hc⟩:=h.cell iB h0;refine⟨b,off,e,hb,fun j hj => ?_⟩;have := hc j hj 0 (by decide)
 simpa [eI] using this
theorem CL (v:Value) (l:List Int) (x:Int) (w:World) (hv:RdE eI w v l) :
  Calls prog 51 #[v,.int .i64 x] w fun e w'=>e = .returned (.bool (decide (x∈l)))∧w'=w:=by
 obtain⟨a,cap,rfl,h1,h2,h3⟩:=id hv
 by_cases h0:0<l.length
 ·obtain⟨b,off,rfl,hb,hc⟩:=fW hv h0
  refine(slices_Contains_int b off l.length cap l x w (A_ _) (by unfold maxLen at h2;omega) (fun j hj=>by rw[hc j hj];simp[hj])).mono ?_;rintro e w' ⟨rfl,rfl⟩;refine⟨?_,rfl⟩;rw[List.take_length]
  congr 2
  rw[Bool.eq_iff_iff]
  simp
 ·have e0:l=[]:=List.length_eq_zero_iff.1 (by omega)
  subst e0;refine(slices_Contains_int_empty a cap x w).mono ?_;rintro e w' ⟨rfl,rfl⟩;exact⟨by simp,rfl⟩
theorem Sh (l:List Int):eI.flat l=l.map (Value.int .i64):=by
 induction l with
 | nil=>rfl
 | cons x l ih=>rw[El.flat,ih];rfl
theorem NT (v:Value) (l:List Int) (w:World) (hv:RdE eI w v l) (hl:l.length≤100000) :
  Calls prog 55 #[v] w fun e w'=>∃v',e = .returned v'∧ap eI w' w.heap.size v' l∧Below w.heap.size w w':=by
 obtain⟨a,cap,rfl,h1,h2,h3⟩:=id hv
 by_cases h0:0<l.length
 ·obtain⟨b,off,rfl,hb,hc⟩:=fW hv h0
  refine(slices_Clone_int b off l.length cap l w (A_ _) (by omega) (fun j hj=>by rw[hc j hj];simp[hj])).mono ?_;rintro e w' ⟨v',rfl,ho,_,hb2⟩;rw[List.take_length,←Sh] at ho;exact⟨v',rfl,ho,hb2⟩
 ·have e0:l=[]:=List.length_eq_zero_iff.1 (by omega)
  subst e0
  cases a with
  | none =>
    refine(slices_Clone_int_nil 0 cap w).mono ?_;rintro e w' ⟨rfl,rfl⟩;exact⟨_,rfl,ap.nil _ _,O_ _ _⟩
  | some a =>
    refine(slices_Clone_int_zero a cap w).mono ?_;rintro e w' ⟨v',rfl,ho,_,hb2⟩;exact⟨v',rfl,ho,hb2⟩
def ptA (nx:Int) (vt:Value) (d:DO) (vs:Value) (blob:List UInt8) (vg:Value):Array Value:=(.int .i64 nx::vt::(dmc d++[vs,.string ⟨blob.toArray⟩,vg])).toArray
def zPA:Array Value:=ptA 0 ah zD ah [] ah
theorem fL (nx:Int) (vt:Value) (d:DO) (vs:Value) (blob:List UInt8) (vg:Value):(ptA nx vt d vs blob vg).size=24:=by
 rw[ptA,List.size_toArray,Z_,Z_,E_,nJ]
 rfl
theorem nS (nx:Int) (d:DO) (blob:List UInt8) (a1 a2 a3:Option Addr) (n1 n2 n3 c1 c2 c3:Nat):((ptA nx (.slice a1 n1 c1) d (.slice a2 n2 c2) blob (.slice a3 n3 c3)).all fun u=>u.oneCell')=true:=by
 rw[Array.all_eq_true_iff_forall_mem];intro u hu;unfold ptA at hu;rw[List.mem_toArray,List.mem_cons,List.mem_cons,List.mem_append] at hu
 rcases hu with rfl|rfl|h|h
 ·rfl
 ·rfl
 ·exact tp d u h
 ·simp at h
  rcases h with rfl|rfl|rfl <;> rfl
theorem M7:(prog.info? 63).map (·.zero)=some (some (.agg zPA)):=by kernel_rfl
theorem Bi:(prog.info? 63).map (·.size)=some 24:=by kernel_rfl
theorem qz (nx:Int) (vt:Value) (d:DO) (vs:Value) (blob:List UInt8) (vg:Value):(prog.info? 63).map (·.size)=some (ptA nx vt d vs blob vg).size:=by rw[fL];exact Bi
theorem nD:zPA.size=24:=fL _ _ _ _ _ _
theorem k6:(prog.info? 63).map (·.size)=some zPA.size:=by rw[nD];exact Bi
theorem ox:(zPA.all fun u=>u.oneCell')=true:=nS _ _ _ _ _ _ _ _ _ _ _ _
theorem tV (w:World):(zeroValue 63).run prog w = .ok (.agg zPA) w:=by
 have h:=M7;generalize zPA=L at h ⊢
 cases hq:prog.info? 63 with
 | none=>rw[hq] at h;cases h
 | some i =>
   rw[hq] at h
   simp at h
   simp[zeroValue,typeInfo,hq,h]
theorem F9:prog.built 63 []=some zPA:=by kernel_rfl
theorem I3 (nx:Int) (d:DO) (blob:List UInt8) (a1 a2 a3:Option Addr) (n1 n2 n3 c1 c2 c3:Nat):prog.built 63 [(0,.agg #[.int .i64 nx,.slice a1 n1 c1]),(1,.agg (doA d)),(2,.slice a2 n2 c2),(3,.string ⟨blob.toArray⟩),(4,.slice a3 n3 c3)]=some (ptA nx (.slice a1 n1 c1) d (.slice a2 n2 c2) blob (.slice a3 n3 c3)):=by kernel_rfl
theorem Lq (w:World) (g:Nat) (nx:Int) (vt:Value) (d:DO) (vs:Value) (blob:List UInt8) (vg:Value) (T:TypeId) (hg:w.heap[g]?=some (.cells (ptA nx vt d vs blob vg) T (0,0))):(loadVar 63 ⟨g,0,none⟩).run prog w = .ok (.agg (ptA nx vt d vs blob vg)) w :=
 run_loadVar_row w g T 63 _ (0,0) _ hg underlying63 rfl (qz _ _ _ _ _ _)
theorem nY (w:World) (g:Nat) (T:TypeId) (hg:w.heap[g]?=some (.cells zPA T (0,0))):(loadVar 63 ⟨g,0,none⟩).run prog w = .ok (.agg zPA) w:=Lq w g _ _ _ _ _ _ T hg
theorem NF (hgd:Region.wanted o (yielded ops a.tmps)=true) (ho:o.op = .build 63 #[])
  (h:wpList prog ops Q rest (a.put o.dst (.agg zPA)) w):wpList prog ops Q (o::rest) a w :=
 wpList_step fun K hK=>by
  rw[G_ hgd];have hr:=run_build (P:=prog) w 63 #[] _ F9;unfold Oper.wp execOp;simp only[ho,List.map_toArray,List.map_nil,hr,Sem.run_bind,Sem.run_pure,Result.andThen_ok];exact hK _ _ h
theorem fO {fn:Func} {p q r:Tmp} {ty ty2:TypeId} (h:fn.results = #[.cell p ty,.cell q ty2,.tmp r]) (tmps:Array Value) (w:World) (g g2:Nat) (x y:Value)
  (hp:tmps.getD p undef = .pointer (some ⟨g,0,none⟩)) (hq:tmps.getD q undef = .pointer (some ⟨g2,0,none⟩)) (hld:(loadVar ty ⟨g,0,none⟩).run prog w = .ok x w) (hld2:(loadVar ty2 ⟨g2,0,none⟩).run prog w = .ok y w) :
  (results fn tmps).run prog w = .ok (.tuple #[x,y,tmps.getD r undef]) w:=by
 have hp':tmps[p]?.getD undef = .pointer (some ⟨g,0,none⟩):=by simpa using hp
 have hq':tmps[q]?.getD undef = .pointer (some ⟨g2,0,none⟩):=by simpa using hq
 simp[results,h,hp',hq',asAddr,hld,hld2]
attribute [local irreducible] Calls doA zPA ptA
theorem Sg (e:Int) (w:World):Calls prog 49 #[.int .i64 e] w fun en w'=>en = .returned (.tuple #[.agg zPA,.agg (ag []),.int .i64 e])∧Below w.heap.size w w':=by
 have hzp:=tV;have hzr:=fi;obtain⟨W0,hW0⟩:∃W0,W0=(w.alloc (.cells zPA 63)).alloc (.cells (ag []) 30):=⟨_,rfl⟩;have HW:=O hW0;have HX:Hid (W0.heap[w.heap.size]?=some (.cells zPA 63 (0,0))∧W0.heap[w.heap.size+1]?=some (.cells (ag []) 30 (0,0))∧Below w.heap.size w W0):=O (by rw[hW0];exact⟨eP _ _ _,eR _ _ _,dm _ _ _ (O_ _ _)⟩);clear hW0
 go_enter func49,ntmps49
 go_upto_region 1 with fail
 rw[←HW.out]
 try dsimp only[Act.put]
 go_wp2_with (first
  |(refine NF rfl rfl ?_)
  |(refine tf rfl rfl ?_)
  |(refine aM (T:=63) zPA k6 rfl (.tmp 2) (.tmp 5) rfl w.heap.size zPA rfl rfl ox rfl HX.out.1 ?_;intro w7 hge7 hoe7 hbe7;have HE7:Hid (w7.heap[w.heap.size]?=some (.cells zPA 63 (0,0))∧w7.heap[w.heap.size+1]?=some (.cells (ag []) 30 (0,0))∧Below w.heap.size w w7):=(O ⟨hge7,(hoe7 _ (by omega)).trans HX.out.2.1,HX.out.2.2.trans (hbe7 _ (A_ _))⟩);clear hge7 hoe7 hbe7)
  |(refine aM (T:=30) (ag []) (bu _) rfl (.tmp 3) (.tmp 6) rfl (w.heap.size+1) (ag []) rfl rfl (aS _) (bM _ _) HE7.out.2.1 ?_;intro w8 hge8 hoe8 hbe8;have HE8:Hid (w8.heap[w.heap.size]?=some (.cells zPA 63 (0,0))∧w8.heap[w.heap.size+1]?=some (.cells (ag []) 30 (0,0))∧Below w.heap.size w w8):=(O ⟨(hoe8 _ (by omega)).trans HE7.out.1,hge8,HE7.out.2.2.trans (hbe8 _ (by omega))⟩);clear hge8 hoe8 hbe8))
 refine g_ (fO rfl _ _ w.heap.size (w.heap.size+1) _ _ rfl rfl (nY _ _ _ HE8.out.1) (fD _ _ _ _ HE8.out.2.1)) rfl ?_;exact⟨rfl,HE8.out.2.2⟩
theorem Bp (ids:List Int) (vi:Value) (P:Nat) (w:World) (hi:RdE eI w vi ids) (hP:w.heap[P]?=some (.cells #[vi] 59 (0,0))) :
  mI 50 #[.pointer (some ⟨P,0,none⟩)] (eZ ids) w.heap.size w:=fun W x hb=>by
 obtain⟨W0,hW0⟩:∃W0,W0=W.alloc (.cells (kc x) 86):=⟨_,rfl⟩;have HW:=O hW0
 have hb0:Below W.heap.size W W0:=by rw[hW0];exact(O_ _ _).alloc (A_ _) _
 have hk0:W0.heap[W.heap.size]?=some (.cells (kc x) 86 (0,0)):=by rw[hW0];exact heap_alloc_new _ _
 have c1:W0.cell? ⟨P,0,none⟩=some vi:=aQ hb0 (e_ _ _ 0 _ _ _ (aa hP hb))
 have c2:W0.cell? ⟨W.heap.size,0,none⟩=some (.int .i64 x.id):=by rw[e_ _ _ _ _ _ _ hk0];rfl
 have HB0:=O hb0;have HCN:=O (CL vi ids x.id W0 ((hi.on hb).on hb0));obtain⟨va,vc,rfl,_,_,_⟩:=hi;clear hb hP hW0 hb0 hk0
 show Calls prog 50 #[.agg (kc x),.pointer (some ⟨P,0,none⟩)] W _
 unfold eZ
 go_enter func50,ntmps50
 go_upto_region 1 with fail
 rw[←HW.out]
 try dsimp only[Act.put]
 go_wp2_with (go_at_call 51;refine HCN.out.mono ?_;rintro e x1 ⟨rfl,hx1⟩;rw[hx1];clear hx1)
 go_ret;exact⟨rfl,HB0.out⟩
theorem P4 (ids:List Int) (vi:Value) (P Q:Nat) (w:World) (hi:RdE eI w vi ids) (hP:w.heap[P]?=some (.cells #[vi] 59 (0,0))) (T:TypeId) (hQ:w.heap[Q]?=some (.cells #[.func (.func 50) #[] #[.pointer (some ⟨P,0,none⟩)]] T (0,0))) :
  mI 54 #[.pointer (some ⟨Q,0,none⟩)] (fun k => !eZ ids k) w.heap.size w:=fun W x hb=>by
 have hlp:=Bp ids vi P w hi hP;obtain⟨W0,hW0⟩:∃W0,W0=W.alloc (.cells (kc x) 86):=⟨_,rfl⟩;have HW:=O hW0
 have hb0:Below W.heap.size W W0:=by rw[hW0];exact(O_ _ _).alloc (A_ _) _
 have hk0:W0.heap[W.heap.size]?=some (.cells (kc x) 86 (0,0)):=by rw[hW0];exact heap_alloc_new _ _
 have c1:W0.cell? ⟨Q,0,none⟩=some (.func (.func 50) #[] #[.pointer (some ⟨P,0,none⟩)]):=aQ hb0 (e_ _ _ 0 _ _ _ (aa hQ hb));have HB0:=O hb0;have HK0:=O hk0;have hcall:=hlp W0 x (hb.trans (hb0.mono hb.size));unfold kv at hcall;have HCN:=O hcall;clear hb hP hQ hW0 hb0 hk0 hi hlp hcall
 show Calls prog 54 #[.agg (kc x),.pointer (some ⟨Q,0,none⟩)] W (fun e w'=>e = .returned (.bool (!eZ ids x))∧Below W.heap.size W w')
 generalize eZ ids x=r at HCN ⊢
 go_enter func54,ntmps54
 go_upto_region 1 with fail
 rw[←HW.out]
 try dsimp only[Act.put]
 go_wp2_with (first
  |(refine dY x W.heap.size _ HK0.out rfl (.tmp 2) rfl rfl ?_)
  |(go_at_call 50;refine HCN.out.mono ?_;rintro e x1 ⟨rfl,hx1⟩;have HX1:=O (HB0.out.trans (hx1.mono HB0.out.size));clear hx1))
 go_ret;exact⟨rfl,HX1.out⟩
end
end
end Go.Proofs.YtmfiaadjdbemnaaGreatDoor
