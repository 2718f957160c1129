/- Contracts and lemmas. No condition. -/
import Derived.Test.YtmfiaadjdbemnaaGreatDoorSB15
import Derived.Test.YtmfiaadjdbemnaaGreatDoorSB16
import Derived.BigRegion
set_option maxRecDepth 100000
set_option maxHeartbeats 8000000
namespace Go.Proofs.YtmfiaadjdbemnaaGreatDoor
section
variable {ops:Array Oper} {rest:List Oper} {o:Oper} {a:Act} {w:World} {Q:Exit→Act→World→Prop}
section
open Go.RowKit Go.Shelf
theorem fv {w w1:World} {r:Option Nat} {g2:Nat} (cs:Array Value) (h:w.grownBy w1 r) (hg:w.heap.size≤g2):w.grownBy (w1.setRow g2 cs) r :=
 ⟨h.os,h.tape,h.output,by rw[kE];exact h.size,fun k hk hne=>by rw[aj _ _ _ _ (by omega)];exact h.block k hk hne⟩
theorem sF {w w1:World} {r:Option Nat} (X:Obj) (h:w.grownBy w1 r):w.grownBy (w1.alloc X) r :=
 ⟨h.os,h.tape,h.output,by rw[World.size_alloc];have := h.size;omega,fun k hk hne=>by rw[bx _ _ _ (Nat.lt_of_lt_of_le hk h.size)];exact h.block k hk hne⟩
theorem dT {w w1 w2:World} {r:Option Nat} (h:w.grownBy w1 r) (h2:Below w1.heap.size w1 w2):w.grownBy w2 r :=
 ⟨h2.os.trans h.os,h2.tape.trans h.tape,h2.output.trans h.output,Nat.le_trans h.size h2.size,fun k hk hne=>(h2.block k (Nat.lt_of_lt_of_le hk h.size)).trans (h.block k hk hne)⟩
theorem eo {fn:Func} {p:Tmp} {ty:TypeId} (h:fn.results = #[.cell p ty]) (tmps:Array Value) (w:World) (g:Nat) (x:Value)
  (hp:tmps.getD p undef = .pointer (some ⟨g,0,none⟩)) (hld:(loadVar ty ⟨g,0,none⟩).run Tryz.prog w = .ok x w) :
  (results fn tmps).run Tryz.prog w = .ok x w:=by
 have hp':tmps[p]?.getD undef = .pointer (some ⟨g,0,none⟩):=by simpa using hp
 simp[results,h,hp',asAddr,hld]
theorem zd (d:List UInt8) (g:Nat) (T:TypeId) (hg:w.heap[g]?=some (.cells (am d) T (0,0)))
  (hgd:o.guard=none) (x:Operand) (ho:o.op = .load 23 x) (hx:a.eval x = .pointer (some ⟨g,0,none⟩))
  (h:wpList Tryz.prog ops Q rest (a.put o.dst (.agg (am d))) w):wpList Tryz.prog ops Q (o::rest) a w :=
 wpList_load_row hgd _ x ho g hx _ (am d) (0,0) _ hg Tryz.underlying23 rfl (by rw[aF];exact cC) h
theorem Gu (b:List UInt8) (h:(bz b).2.2=0):(bz b).2.1≤b.length:=by
 unfold bz at h ⊢
 split
 ·rename_i hl
  rw[if_pos hl] at h
  cases h
 ·show 16≤b.length
  omega
attribute [local irreducible] Calls rc am bz
theorem Fj (g:Nat) (T:TypeId) (tl:Option (List UInt8)) (v:Value) (rest:List UInt8) (e:Int) (w:World) (h1:RV w g T tl v e) (h2:RdE eB w v rest) :
  Calls Tryz.prog 135 #[.pointer (some ⟨g,0,none⟩),.func (.func 136) #[] #[]] w fun en w'=>∃v',en = .returned (.agg (am (rdV z16 bz rest e)))∧RV w' g T tl v' (rdX bz rest e)∧wC v rest v' (rdR bz rest e)∧w.grownBy w' (some g):=by
 have HLT:=O h1.lt;have hz:=ja;obtain⟨W0,hW0⟩:∃W0,W0=w.alloc (.cells (am z16) 23):=⟨_,rfl⟩;have HW:=O hW0;have HR0:Hid (W0.heap[w.heap.size]?=some (.cells (am z16) 23 (0,0))):=O (by rw[hW0];exact al _ _ _ rfl);have HB0:Hid (Below w.heap.size w W0):=O (by rw[hW0];exact(Oo _ _).alloc (Nat.le_refl _) _);have H1:=O h1;have H2:=O h2;have HG0:Hid (W0.heap[g]?=some (.cells (rc v e tl) T (0,0))):=O (by rw[HB0.out.block _ HLT.out];exact h1)
 have c0:W0.cell? ⟨g,0,none⟩=some v:=by rw[cell_of_row _ _ _ _ _ _ HG0.out];exact s9 v e tl
 have c1:W0.cell? ⟨g,1,none⟩=some (.int .i64 e):=by rw[cell_of_row _ _ _ _ _ _ HG0.out];exact gy v e tl
 have HGET:=O (Jt v rest W0 (h2.on HB0.out));obtain⟨ad,cap,hvf,_,_,_⟩:=h2
 rcases fM z16 bz rest e with⟨p1,p2,p3,p4⟩|⟨p1,p2,p3,p4,p5⟩|⟨p1,p2,p3,p4,p5⟩
 ·have HP2:=O p2
  have HP3:=O p3;have HP4:=O p4
  have i1:(e != 0)=true:=by simpa using p1
  clear p1 p2 p3 p4 h1 hW0 hvf
  go_enter Tryz.func135,Tryz.ntmps135
  go_upto_region 1 with fail
  rw[←HW.out]
  go_wp2_with (first
   |(refine zd z16 w.heap.size _ HR0.out rfl (.tmp 4) rfl rfl ?_)
   |(refine vV z16 rfl (.tmp 4) (.tmp 13) rfl w.heap.size rfl rfl _ _ HR0.out (aF _) ?_))
  have HG:=O (fv (am z16) (grownB g HB0.out) (Nat.le_refl w.heap.size));refine bodyPost_ret (eo rfl _ _ w.heap.size _ rfl (qQ _ _ z16 _ (setRow_heap _ _ _ _ _ _ HR0.out))) rfl ?_;refine⟨v,by rw[HP2.out],?_,by rw[HP3.out];exact fun _ h=>h,HG.out⟩;rw[HP4.out];unfold RV;rw[aj _ _ _ _ (by have := HLT.out;omega)];exact HG0.out
 ·subst p1
  have HP3:=O p3;have HP4:=O p4;have HP5:=O p5;generalize bz rest=d at HGET p2 HP5;obtain⟨xs,u,er⟩:=d;simp only at p2 HGET HP5
  have i1:(er == 0)=false:=by simpa using p2
  have HP2:=O p2;clear p2 p3 p4 p5 h1 hW0 hvf
  go_enter Tryz.func135,Tryz.ntmps135
  go_upto_region 1 with fail
  rw[←HW.out]
  go_upto_region 4 with (first
   |(go_at_call 136;refine HGET.out.mono ?_;rintro e1 w1 ⟨rfl,hb1⟩;have HB1:=O hb1;clear hb1)
   |(refine aH (am xs) 23 rfl (.tmp 5) (.tmp 21) rfl _ rfl rfl rfl (by rw[aF];exact cC) ((aF _).trans (aF _).symm) (iY xs) ?_))
  have HGX:Hid ((w1.alloc (.cells (am xs) 23)).heap[g]?=some (.cells (rc v 0 tl) T (0,0))):=O (by rw[bx _ _ _ (Nat.lt_of_lt_of_le (Nat.lt_of_lt_of_le HLT.out HB0.out.size) HB1.out.size),HB1.out.block _ (Nat.lt_of_lt_of_le HLT.out HB0.out.size)];exact HG0.out)
  have HZ1:Hid (((w1.alloc (.cells (am xs) 23)).setRow g (rc v er tl)).heap[w.heap.size]?=some (.cells (am z16) 23 (0,0))):=O (by
   have hsz:w.heap.size<W0.heap.size:=(Array.getElem?_eq_some_iff.1 HR0.out).1;rw[aj _ _ _ _ (by have := HLT.out;omega),bx _ _ _ (Nat.lt_of_lt_of_le hsz HB1.out.size),HB1.out.block _ hsz]
   exact HR0.out)
  go_wp2_with (first
   |(go_at_call 92;refine(dK g T tl v 0 false er _ HGX.out).mono ?_;rw[if_pos ⟨rfl,rfl⟩,if_pos ⟨rfl,rfl⟩,decide_eq_false HP2.out];rintro e2 w2 ⟨rfl,hw2⟩;rw[hw2];clear hw2)
   |(refine zd z16 w.heap.size _ HZ1.out rfl (.tmp 4) rfl rfl ?_)
   |(refine vV z16 rfl (.tmp 4) (.tmp 30) rfl w.heap.size rfl rfl _ _ HZ1.out (aF _) ?_))
  have HG:=O (fv (am z16) (bg (sF (.cells (am xs) 23) (dT (grownB g HB0.out) HB1.out)) (aD _ g (rc v er tl))) (Nat.le_refl w.heap.size));refine bodyPost_ret (eo rfl _ _ w.heap.size _ rfl (qQ _ _ z16 _ (setRow_heap _ _ _ _ _ _ HZ1.out))) rfl ?_;refine⟨v,by rw[HP3.out],?_,by rw[HP4.out];exact fun _ h=>h,HG.out⟩;rw[HP5.out];unfold RV;rw[aj _ _ _ _ (by have := HLT.out;omega)];exact setRow_heap _ _ _ _ _ _ HGX.out
 ·subst p1
  have HP3:=O p3;have HP4:=O p4;have HP5:=O p5;obtain⟨vs,hs,hrs,a3,nr,c3,rfl⟩:=qV H2.out (bz rest).2.1 (Gu rest p2);generalize bz rest=d at HGET p2 HP3 HP4 hs hrs;obtain⟨xs,u,er⟩:=d;simp only at p2 HGET HP3 HP4 hs hrs;subst p2;have HRS3:=O hrs;clear hrs;rw[hvf] at hs;clear p3 p4 p5 h1 hW0;have HVF:=O hvf;clear hvf
  go_enter Tryz.func135,Tryz.ntmps135
  go_upto_region 1 with fail
  rw[←HW.out]
  go_upto_region 4 with (first
   |(go_at_call 136;refine HGET.out.mono ?_;rintro e1 w1 ⟨rfl,hb1⟩;have HB1:=O hb1;clear hb1)
   |(refine aH (am xs) 23 rfl (.tmp 5) (.tmp 21) rfl _ rfl rfl rfl (by rw[aF];exact cC) ((aF _).trans (aF _).symm) (iY xs) ?_))
  have HGX:Hid ((w1.alloc (.cells (am xs) 23)).heap[g]?=some (.cells (rc v 0 tl) T (0,0))):=O (by rw[bx _ _ _ (Nat.lt_of_lt_of_le (Nat.lt_of_lt_of_le HLT.out HB0.out.size) HB1.out.size),HB1.out.block _ (Nat.lt_of_lt_of_le HLT.out HB0.out.size)];exact HG0.out);have HX5:Hid ((w1.alloc (.cells (am xs) 23)).heap[w1.heap.size]?=some (.cells (am xs) 23 (0,0))):=O (al _ _ _ rfl);have hszW:w.heap.size<W0.heap.size:=(Array.getElem?_eq_some_iff.1 HR0.out).1;have HSZW:=O hszW
  have HZX:Hid ((w1.alloc (.cells (am xs) 23)).heap[w.heap.size]?=some (.cells (am z16) 23 (0,0))):=O (by
   rw[bx _ _ _ (Nat.lt_of_lt_of_le hszW HB1.out.size),HB1.out.block _ hszW]
   exact HR0.out)
  have HLT1:Hid (g<w1.heap.size):=O (Nat.lt_of_lt_of_le (Nat.lt_of_lt_of_le HLT.out HB0.out.size) HB1.out.size);have HWX:=O (sF (.cells (am xs) 23) (dT (grownB g HB0.out) HB1.out));clear hszW
  go_upto_region 6 with (go_at_call 92;refine(dK g T tl v 0 true 0 _ HGX.out).mono ?_;rw[if_neg (fun h=>by cases h.2),if_neg (fun h=>by cases h.2),decide_eq_true rfl];rintro e2 w2 ⟨rfl,hw2⟩;rw[hw2];clear hw2)
  generalize w1.alloc (.cells (am xs) 23)=wx at HGX HX5 HZX HWX ⊢
  have d0:wx.cell? ⟨g,0,none⟩=some v:=by rw[cell_of_row _ _ _ _ _ _ HGX.out];exact s9 v 0 tl
  rw[HVF.out] at d0;have f0:=frozen_of_row _ _ 0 _ _ HGX.out;have HW3:Hid (wx.setCell ⟨g,0,none⟩ (.slice a3 nr c3)=wx.setRow g (rc (.slice a3 nr c3) 0 tl)):=O (by rw[au _ _ _ _ _ _ _ HGX.out,tJ])
  go_upto_region 7 with fail
  rw[HW3.out];have HX6:Hid ((wx.setRow g (rc (.slice a3 nr c3) 0 tl)).heap[w1.heap.size]?=some (.cells (am xs) 23 (0,0))):=O (by rw[aj _ _ _ _ (by have := HLT1.out;omega)];exact HX5.out);have HZ6:Hid ((wx.setRow g (rc (.slice a3 nr c3) 0 tl)).heap[w.heap.size]?=some (.cells (am z16) 23 (0,0))):=O (by rw[aj _ _ _ _ (by have := HLT.out;omega)];exact HZX.out)
  go_wp2_with (first
   |(refine zd xs w1.heap.size _ HX6.out rfl (.tmp 5) rfl rfl ?_)
   |(refine vV xs rfl (.tmp 4) (.tmp 40) rfl w.heap.size rfl rfl _ _ HZ6.out (aF _) ?_))
  have HG:=O (fv (am xs) (bg HWX.out (aD _ g (rc (.slice a3 nr c3) 0 tl))) (Nat.le_refl w.heap.size));refine bodyPost_ret (eo rfl _ _ w.heap.size _ rfl (qQ _ _ xs _ (setRow_heap _ _ _ _ _ _ HZ6.out))) rfl ?_;refine⟨.slice a3 nr c3,by rw[HP3.out],?_,by rw[HP4.out];exact HRS3.out,HG.out⟩;rw[HP5.out];unfold RV;rw[aj _ _ _ _ (by have := HLT.out;omega)];exact setRow_heap _ _ _ _ _ _ HGX.out
end
section
open Go.RowKit Go.Shelf
def zB:BK:=⟨z16,0,0,0,0,z16,[]⟩
attribute [local semireducible] bc
theorem uq (b:BK) (u:Value) (x:Int):(bc b u).setIfInBounds 16 (.int .i64 x)=bc { b with ep:=x } u:=rfl
theorem ur (b:BK) (u:Value) (x:Int):(bc b u).setIfInBounds 17 (.int .i64 x)=bc { b with num:=x } u:=rfl
theorem IH (b:BK) (u:Value) (x:Int):(bc b u).setIfInBounds 18 (.int .i64 x)=bc { b with fw:=x } u:=rfl
theorem II (b:BK) (u:Value) (x:Int):(bc b u).setIfInBounds 19 (.int .i64 x)=bc { b with tm:=x } u:=rfl
theorem IJ (b:BK) (u:Value) (x:List UInt8):(bc b u).setIfInBounds 36 (.string ⟨x.toArray⟩)=bc { b with mo:=x } u:=rfl
theorem us (b:BK) (u x:Value):(bc b u).setIfInBounds 37 x=bc b x:=rfl
theorem FQ (b:BK) (u:Value) (d:List UInt8):((bc b u).toList.take (0+0)++(am d).toList++(bc b u).toList.drop (0+0+(am d).toList.length)).toArray=bc { b with dom:=d } u:=rfl
theorem FR (b:BK) (u:Value) (d:List UInt8):((bc b u).toList.take (20+0)++(am d).toList++(bc b u).toList.drop (20+0+(am d).toList.length)).toArray=bc { b with pol:=d } u:=rfl
theorem M1:(Tryz.prog.info? 47).map (·.zero)=some (some (.agg (bc zB (.slice none 0 0)))):=by kernel_rfl
theorem dl (b:BK) (a:Option Addr) (n c:Nat):(bc b (.slice a n c)).all (·.oneCell')=true:=by
 have h1:∀d i,(aq d i).oneCell'=true:=fun _ _=>rfl;have h2:∀k,(Value.int .i64 k).oneCell'=true:=fun _=>rfl;have h3:∀s,(Value.string s).oneCell'=true:=fun _=>rfl;have h4:(Value.slice a n c).oneCell'=true:=rfl;unfold bc
 simp[h1,h2,h3,h4]
attribute [local irreducible] bc
theorem fh (w:World):(zeroValue 47).run Tryz.prog w = .ok (.agg (bc zB (.slice none 0 0))) w:=by
 have h:=M1;generalize bc zB (.slice none 0 0)=L at h ⊢
 cases hq:Tryz.prog.info? 47 with
 | none=>rw[hq] at h;cases h
 | some i =>
   rw[hq] at h
   simp at h
   simp[zeroValue,typeInfo,hq,h]
theorem l9 (w:World) (g o:Nat) (T:TypeId) (ty:TypeId) (cs cells:Array Value) (hg:w.heap[g]?=some (.cells cs T (0,0))) (hi:(Tryz.prog.info? ty).map (·.size)=some cells.size) (h1:cells.all (·.oneCell')=true) (hs:o+cells.size≤cs.size) :
  (storeVar ty ⟨g,o,none⟩ (.agg cells)).run Tryz.prog w = .ok () (w.setRow g (cs.toList.take (o+0)++cells.toList++cs.toList.drop (o+0+cells.toList.length)).toArray):=by
 have := run_storeCells_at (P:=Tryz.prog) g o T cells.toList 0 cs w hg (by simpa using hs) (fun v hv=>(Array.all_eq_true_iff_forall_mem.1 h1) v (by simpa using hv))
 cases hq:Tryz.prog.info? ty with
 | none=>simp[hq] at hi
 | some i =>
   have hs:cells.size=i.size:=by simp[hq] at hi;omega
   simp only[Nat.add_zero] at this
   simp[storeVar,sizeOf,typeInfo,hq,Value.cells,hs,this]
theorem bW {ops:Array Oper} {rest:List Oper} {o:Oper} {a:Act} {w w':World} {Q:Exit→Act→World→Prop} (hgd:o.guard=none) (ty:TypeId) (x y:Operand) (ho:o.op = .store ty x y)
  (p:Addr) (v:Value) (hx:a.eval x = .pointer (some p)) (hy:a.eval y=v) (hr:(storeVar ty p v).run Tryz.prog w = .ok () w')
  (h:wpList Tryz.prog ops Q rest (a.put o.dst undef) w'):wpList Tryz.prog ops Q (o::rest) a w :=
 wpList_plain hgd fun _ hK=>by
  unfold Oper.wp execOp;simp only[ho,hx,hy,Instr.storeAt,Instr.sureAddr,Sem.run_bind,Sem.run_pure,Result.andThen_ok,hr];exact hK _ _ h
theorem DF (b:BK) (u:Value) (d:List UInt8) (g:Nat) (hg:w.heap[g]?=some (.cells (bc b u) 47 (0,0))) (hgd:o.guard=none) (x y:Operand) (ho:o.op = .store 23 x y)
  (hx:a.eval x = .pointer (some ⟨g,0,none⟩)) (hy:a.eval y = .agg (am d))
  (h:wpList Tryz.prog ops Q rest (a.put o.dst undef) (w.setRow g (bc { b with dom:=d } u))):wpList Tryz.prog ops Q (o::rest) a w:=by
 have hr:=l9 w g 0 47 23 (bc b u) (am d) hg (by rw[aF];exact cC) (iY d) (by rw[aF,aC];decide);rw[FQ] at hr;exact bW hgd _ x y ho _ _ hx hy hr h
theorem TS (b:BK) (u:Value) (d:List UInt8) (g:Nat) (hg:w.heap[g]?=some (.cells (bc b u) 47 (0,0))) (hgd:o.guard=none) (x y:Operand) (ho:o.op = .store 23 x y)
  (hx:a.eval x = .pointer (some ⟨g,20,none⟩)) (hy:a.eval y = .agg (am d))
  (h:wpList Tryz.prog ops Q rest (a.put o.dst undef) (w.setRow g (bc { b with pol:=d } u))):wpList Tryz.prog ops Q (o::rest) a w:=by
 have hr:=l9 w g 20 47 23 (bc b u) (am d) hg (by rw[aF];exact cC) (iY d) (by rw[aF,aC];decide);rw[FR] at hr;exact bW hgd _ x y ho _ _ hx hy hr h
theorem aX (w:World) (g:Nat) (b:BK) (u:Value) (T:TypeId) (hg:w.heap[g]?=some (.cells (bc b u) T (0,0))):(loadVar 47 ⟨g,0,none⟩).run Tryz.prog w = .ok (.agg (bc b u)) w :=
 run_loadVar_row w g T 47 (bc b u) (0,0) _ hg Tryz.underlying47 rfl (by rw[aC];exact dU)
theorem Ph (v:Value) (e:Int) (h0 h1:List UInt8):(rc v e (some h0)).setIfInBounds 2 (.string ⟨h1.toArray⟩)=rc v e (some h1):=by unfold rc tlc;simp
theorem Tr (v:Value) (e:Int) (h:List UInt8):(rc v e (some h))[2]?=some (.string ⟨h.toArray⟩):=rfl
end
section
open Go.RowKit Go.Shelf
def ah:Value := .slice none 0 0
def setN (b:BK) (l:List Int):BK:={ b with ep:=l.getD 0 0,num:=l.getD 1 0,fw:=l.getD 2 0,tm:=l.getD 3 0 }
def hdE (hdr:List UInt8) (e:Int):Int :=
 let r1:=rdR bz hdr e;let e1:=rdX bz hdr e
 let e2:=rdX aB r1 e1
 if e2=0∧decide ((rdV [] aB r1 e1).length=4)=false then 6 else e2
def hdB (hdr:List UInt8) (e:Int):BK :=
 let r1:=rdR bz hdr e;let e1:=rdX bz hdr e
 let b0:BK:={ zB with dom:=rdV z16 bz hdr e }
 let r2:=rdR aB r1 e1
 let e3:=hdE hdr e
 let b1:=if e3=0 then setN b0 (rdV [] aB r1 e1) else b0
 let r3:=rdR bz r2 e3;let e4:=rdX bz r2 e3
 { b1 with pol:=rdV z16 bz r2 e3,mo:=rdV [] aL r3 e4 }
def hdX (hdr:List UInt8) (e:Int):Int :=
 let r1:=rdR bz hdr e;let e1:=rdX bz hdr e
 let r2:=rdR aB r1 e1
 let e3:=hdE hdr e
 let r3:=rdR bz r2 e3;let e4:=rdX bz r2 e3
 let e5:=whX aL r3 e4
 if e5=0∧aI (hdB hdr e) []=false then 6 else e5
theorem RdE.other {α:Type} {E:El α} {w w':World} {v:Value} {l:List α} {g:Nat} (h:RdE E w v l) (hg:w.grownBy w' (some g)) (hne:v.ownBlock≠some g):RdE E w' v l:=by
 obtain⟨a,cap,rfl,h1,h2,h3⟩:=h;refine⟨a,cap,rfl,h1,h2,fun h0 => ?_⟩;obtain⟨b,off,rfl,hlt,hc⟩:=h3 h0;have hbg:b≠g:=fun e=>hne (by rw[e];rfl)
 exact⟨b,off,rfl,Nat.lt_of_lt_of_le hlt hg.size,fun j u hu=>by
  rw[World.cell?_of_block (a:=⟨b,off+j,none⟩) (hg.block b hlt (fun e=>hbg (Option.some.inj e)))]
  exact hc j u hu⟩
theorem jT (rest:List UInt8) (e:Int):(rdV [] aL rest e).length≤rest.length:=by
 rcases fM [] aL rest e with⟨_,p3,_⟩|⟨_,_,p3,_⟩|⟨_,p2,p3,_⟩
 ·rw[p3];exact Nat.zero_le _
 ·rw[p3];exact Nat.zero_le _
 ·rw[p3]
  have h3:=congrArg List.length (Ew rest _ _ (by rw[←p2])).1;unfold aV at h3;rw[List.length_append,List.length_append] at h3
  omega
structure PkS (w:World) (g:Nat) (hdr:List UInt8) (v1:Value) (e1:Int) (gh:Nat) (v0:Value) (x:World) (b:BK) (vh:Value) (hr:List UInt8) (eh:Int):Prop where
 bk:x.heap[w.heap.size]?=some (.cells (bc b ah) 47 (0,0))
 rv:RV x g 154 (some hdr) v1 e1
 hv:RV x gh 152 none vh eh
 rd:RdE eB x v0 hdr
 part:wC v0 hdr vh hr
 gr:w.grownBy x (some g)
 gb:w.heap.size<gh
 gg:g<w.heap.size
 nb:v0.ownBlock≠some w.heap.size
 le:hr.length≤hdr.length
theorem PkS.rdh {w:World} {g:Nat} {hdr:List UInt8} {v1:Value} {e1:Int} {gh:Nat} {v0:Value} {x:World} {b:BK} {vh:Value} {hr:List UInt8} {eh:Int} (h:PkS w g hdr v1 e1 gh v0 x b vh hr eh):RdE eB x vh hr:=h.part x h.rd
theorem PkS.step {w:World} {g:Nat} {hdr:List UInt8} {v1:Value} {e1:Int} {gh:Nat} {v0:Value} {x:World} {b:BK} {vh:Value} {hr:List UInt8} {eh:Int} (h:PkS w g hdr v1 e1 gh v0 x b vh hr eh) {y:World} {vh':Value} {hr':List UInt8} {eh':Int}
  (hy:x.grownBy y (some gh)) (hv':RV y gh 152 none vh' eh') (hp:wC vh hr vh' hr') (hle:hr'.length≤hr.length):PkS w g hdr v1 e1 gh v0 y b vh' hr' eh':=by
 have h1:=h.gb;have h2:=h.gg;have hbs:w.heap.size<x.heap.size:=(Array.getElem?_eq_some_iff.1 h.bk).1;refine⟨?_,?_,hv',?_,fun u hu=>hp u (h.part u hu),?_,h1,h2,h.nb,Nat.le_trans hle h.le⟩
 ·rw[hy.block _ hbs (fun e=>by cases e;omega)];exact h.bk
 ·unfold RV
  rw[hy.block _ (by omega) (fun e=>by cases e;omega)];exact h.rv
 ·exact h.hv.noB h.rdh hy h.rd
 ·exact⟨hy.os.trans h.gr.os,hy.tape.trans h.gr.tape,hy.output.trans h.gr.output,Nat.le_trans h.gr.size hy.size,fun k hk hne=>(hy.block k (by omega) (fun e=>by cases e;omega)).trans (h.gr.block k hk hne)⟩
theorem PkS.setB {w:World} {g:Nat} {hdr:List UInt8} {v1:Value} {e1:Int} {gh:Nat} {v0:Value} {x:World} {b:BK} {vh:Value} {hr:List UInt8} {eh:Int} (h:PkS w g hdr v1 e1 gh v0 x b vh hr eh) (b':BK) :
  PkS w g hdr v1 e1 gh v0 (x.setRow w.heap.size (bc b' ah)) b' vh hr eh:=by
 have h1:=h.gb;have h2:=h.gg;refine⟨setRow_heap _ _ _ _ _ _ h.bk,?_,?_,h.rd.other (aD _ _ _) h.nb,h.part,fv _ h.gr (Nat.le_refl _),h1,h2,h.nb,h.le⟩
 ·unfold RV;rw[aj _ _ _ _ (by omega)];exact h.rv
 ·unfold RV;rw[aj _ _ _ _ (by omega)];exact h.hv
theorem PkS.on {w:World} {g:Nat} {hdr:List UInt8} {v1:Value} {e1:Int} {gh:Nat} {v0:Value} {x:World} {b:BK} {vh:Value} {hr:List UInt8} {eh:Int} (h:PkS w g hdr v1 e1 gh v0 x b vh hr eh) {y:World} (hb:Below x.heap.size x y) :
  PkS w g hdr v1 e1 gh v0 y b vh hr eh :=
 ⟨by rw[hb.block _ (Array.getElem?_eq_some_iff.1 h.bk).1];exact h.bk,h.rv.on hb,h.hv.on hb,h.rd.on hb,h.part,dT h.gr hb,h.gb,h.gg,h.nb,h.le⟩
theorem tI (v:Value) (e:Int):rc v e none = #[v,.int .i64 e]:=rfl
def SP.byt (B:Nat) (l:List UInt8):SP := .pred (fun v w=>RdE eB w v l∧∃a n c,v = .slice (some a) n c∧B≤a.block) (fun _ _ _ hb h=>⟨h.1.on hb,h.2⟩)
def SP.rdv (B:Nat) (l:List UInt8) (e:Int):SP := .pred (fun x w=>∃a n c,x = .agg #[.slice (some a) n c,.int .i64 e]∧RdE eB w (.slice (some a) n c) l∧B≤a.block) (fun _ _ _ hb ⟨a,n,c,h1,h2,h3⟩=>⟨a,n,c,h1,h2.on hb,h3⟩)
def SP.rbx (B:Nat) (l:List UInt8) (e:Int):SP := .pred (fun x w=>∃gh a n c,x = .pointer (some ⟨gh,0,none⟩)∧B≤gh∧RV w gh 152 none (.slice (some a) n c) e∧RdE eB w (.slice (some a) n c) l∧B≤a.block)
 (fun _ _ _ hb ⟨gh,a,n,c,h1,h2,h3,h4,h5⟩=>⟨gh,a,n,c,h1,h2,h3.on hb,h4.on hb,h5⟩)
attribute [local irreducible] Calls rc am bz aI
theorem K4 (g:Nat) (h0 rest:List UInt8) (v:Value) (w:World) (h1:RV w g 154 (some h0) v 0) (h2:RdE eB w v rest) (hl:rest.length≤900000) :
  Calls Tryz.prog 85 #[.pointer (some ⟨g,0,none⟩)] w fun en w'=>∃v',en = .returned (.agg (bc (hdB (rdV [] aL rest 0) (rdX aL rest 0)) ah))∧RV w' g 154 (some (rdV [] aL rest 0)) v' (hdX (rdV [] aL rest 0) (rdX aL rest 0)) ∧
   wC v rest v' (rdR aL rest 0)∧w.grownBy w' (some g):=by
 have hz:=fh;have H1:=O h1;have H2:=O h2;have HGG:=O h1.lt;obtain⟨W0,hW0⟩:∃W0,W0=w.alloc (.cells (bc zB (.slice none 0 0)) 47):=⟨_,rfl⟩;have HW:=O hW0;have HB0:Hid (Below w.heap.size w W0):=O (by rw[hW0];exact(Oo _ _).alloc (Nat.le_refl _) _);have HK0:Hid (W0.heap[w.heap.size]?=some (.cells (bc zB ah) 47 (0,0))):=O (by rw[hW0];exact al _ _ _ rfl);have HRD:=O (Fl g 154 (some h0) v rest 0 W0 (h1.on HB0.out) (h2.on HB0.out) hl);have HHL:Hid ((rdV [] aL rest 0).length≤900000):=O (Nat.le_trans (jT rest 0) hl);generalize rdV [] aL rest 0=hdr at HRD HHL ⊢;generalize rdX aL rest 0=e1 at HRD ⊢;generalize rdR aL rest 0=rr at HRD ⊢;clear h1 h2 hl hW0
 go_enter Tryz.func85,Tryz.ntmps85
 go_upto_region 1 with fail
 rw[←HW.out]
 go_upto_region 2 with (go_at_call 133;refine HRD.out.mono ?_;rintro e2 w1 ⟨_,v1,rfl,rfl,hr1,hp1,hg1⟩;have HR1:=O hr1;have HP1:=O hp1;have HG1:=O hg1;have c2:w1.cell? ⟨g,2,none⟩=some (.string ⟨h0.toArray⟩):=(by rw[cell_of_row _ _ _ _ _ _ hr1];exact Tr v1 e1 h0);have f2:=frozen_of_row _ _ 2 _ _ hr1;clear hr1 hp1 hg1)
 have HW2:Hid (w1.setCell ⟨g,2,none⟩ (.string ⟨hdr.toArray⟩)=w1.setRow g (rc v1 e1 (some hdr))):=O (by rw[au _ _ _ _ _ _ _ HR1.out,Ph]);rw[HW2.out];have HR2:Hid (RV (w1.setRow g (rc v1 e1 (some hdr))) g 154 (some hdr) v1 e1):=O (setRow_heap _ _ _ _ _ _ HR1.out);have hszW:w.heap.size<W0.heap.size:=(Array.getElem?_eq_some_iff.1 HK0.out).1
 have HK2:Hid ((w1.setRow g (rc v1 e1 (some hdr))).heap[w.heap.size]?=some (.cells (bc zB ah) 47 (0,0))):=O (by
  rw[aj _ _ _ _ (by have := HGG.out;omega),HG1.out.block _ hszW (fun e=>by cases e;have := HGG.out;omega)]
  exact HK0.out)
 have HG2:Hid (w.grownBy (w1.setRow g (rc v1 e1 (some hdr))) (some g)):=O (bg (bg (grownB g HB0.out) HG1.out) (aD _ _ _));clear c2 f2 hszW;generalize w1.setRow g (rc v1 e1 (some hdr))=w2 at HR2 HK2 HG2 ⊢;have hcv:=cw
 refine aY 12 [[],[0],[1],[2],[3],[],[5],[6],[7],[8],[4,9],[10]]
  (SP.of [.eq (.pointer (some ⟨g,0,none⟩)),.eq (.pointer (some ⟨g,0,none⟩)),.eq (.pointer (some ⟨g,2,none⟩)),.eq (.string ⟨hdr.toArray⟩),.byt w2.heap.size hdr,.eq (.pointer (some ⟨g,0,none⟩)),.eq (.pointer (some ⟨g,0,none⟩)),.eq (.pointer (some ⟨g,0,none⟩)),.eq (.pointer (some ⟨g,1,none⟩)),.eq (.int .i64 e1),.rdv w2.heap.size hdr e1,.rbx w2.heap.size hdr e1]) (fun _=>undef) ?q1 ?q2 ?q3 ?q4 ?q5 ?q6
 case q1=>kernel_rfl
 case q2=>kernel_rfl
 case q3=>kernel_rfl
 case q4 =>
  simp only[List.take_succ_cons,List.take_zero]
  repeat (first |exact trivial|refine⟨fun vals v=>by kernel_rfl,?_⟩)
 case q5 =>
  simp only[List.take_succ_cons,List.take_zero];refine⟨?_,?_,?_,?_,?_,?_,?_,?_,?_,?_,?_,?_,trivial⟩
  all_goals (intro wq hbq vals;simp only[Nat.reduceAdd,Nat.zero_add,List.getD_cons_succ,List.getD_cons_zero];have HBQ:=O hbq;have HRQ:Hid (RV wq g 154 (some hdr) v1 e1):=O (HR2.out.on hbq);clear hbq)
  case refine_5 =>
   refine aw rfl (ar ?_);intro Q hQ;simp only[ay,upd,Act.put,List.setIfInBounds_toArray,List.set_cons_zero,List.set_cons_succ,Nat.reduceAdd,Nat.zero_add,Nat.reduceEqDiff,if_true,if_false,reduceIte];have hc1:=hcv wq hdr;have HSB:=O (bU wq hdr);have HSR:=O (fo wq hdr (by have := HHL.out;unfold maxLen;omega));generalize Lib.bytesWorld wq 5 ⟨hdr.toArray⟩=ws at hc1 HSB HSR;clear hcv;go_wp2;exact ab hQ _ (by kernel_rfl) HSB.out ⟨HSR.out,_,_,_,rfl,HBQ.out.size⟩
  case refine_11 =>
   refine aG rfl ?_;rintro _ ⟨hrd,a,n,c,rfl,hba⟩;refine aw rfl (ar ?_);intro Q hQ;simp only[ay,upd,Act.put,List.setIfInBounds_toArray,List.set_cons_zero,List.set_cons_succ,Nat.reduceAdd,Nat.zero_add,Nat.reduceEqDiff,if_true,if_false,reduceIte];have HRDX:=O hrd;have HBA:=O hba;clear hrd hba hcv;go_wp2;exact ab hQ _ (by kernel_rfl) (Oo _ _) ⟨a,n,c,rfl,HRDX.out,HBA.out⟩
  case refine_12 =>
   refine aG rfl ?_;rintro _ ⟨a,n,c,rfl,hrd,hba⟩;refine ar ?_;intro Q hQ;simp only[ay,upd,Act.put,List.setIfInBounds_toArray,List.set_cons_zero,List.set_cons_succ,Nat.reduceAdd,Nat.zero_add,Nat.reduceEqDiff,if_true,if_false,reduceIte];have HRDX:=O hrd;have HBA:=O hba;clear hrd hba hcv;go_wp2;exact ab hQ _ (by kernel_rfl) ((Oo _ _).alloc (Nat.le_refl _) _) ⟨wq.heap.size,a,n,c,rfl,HBQ.out.size,by unfold RV;rw[tI];exact al _ _ _ rfl,HRDX.out.alloc _,HBA.out⟩
  all_goals (repeat (first |refine ar ?_|refine aw rfl ?_))
  all_goals (intro Q hQ;simp only[ay,upd,Act.put,List.setIfInBounds_toArray,List.set_cons_zero,List.set_cons_succ,Nat.reduceAdd,Nat.zero_add,Nat.reduceEqDiff,if_true,if_false,reduceIte];clear hcv)
  case refine_4 =>
   have c2:wq.cell? ⟨g,2,none⟩=some (.string ⟨hdr.toArray⟩):=by rw[cell_of_row _ _ _ _ _ _ HRQ.out];exact Tr v1 e1 hdr
   go_wp2;exact ab hQ _ (by kernel_rfl) (Oo _ _) rfl
  case refine_10 =>
   have c1:wq.cell? ⟨g,1,none⟩=some (.int .i64 e1):=by rw[cell_of_row _ _ _ _ _ _ HRQ.out];exact gy v1 e1 (some hdr)
   go_wp2;exact ab hQ _ (by kernel_rfl) (Oo _ _) rfl
  all_goals go_wp2
  all_goals exact ab hQ _ (by kernel_rfl) (Oo _ _) rfl
 case q6 =>
  intro w3 hb3 vals;rw[show List.range 12=[0,1,2,3,4,5,6,7,8,9,10,11] from by decide];refine aw rfl (aw rfl (aw rfl (aw rfl (aG rfl ?_))));intro x4 hx4;refine aw rfl (aw rfl (aw rfl (aw rfl (aw rfl (aG rfl ?_)))));intro x10 hx10;refine aG rfl ?_;intro x11 hx11;refine ar ?_;obtain⟨gh,a0,n0,c0,rfl,hgh,hrv,hrd,hba⟩:=hx11;clear hx4 hx10;simp only[List.take_succ_cons,List.take_zero,List.drop_succ_cons,List.drop_zero];simp only[ay,upd,Act.put,List.setIfInBounds_toArray,List.set_cons_zero,List.set_cons_succ,Nat.reduceAdd,Nat.zero_add,Nat.reduceEqDiff,if_true,if_false,reduceIte]
  have HS3:Hid (PkS w g hdr v1 e1 gh (.slice (some a0) n0 c0) w3 zB (.slice (some a0) n0 c0) hdr e1):=O
   ⟨by rw[hb3.block _ (Array.getElem?_eq_some_iff.1 HK2.out).1];exact HK2.out,HR2.out.on hb3,hrv,hrd,fun _ h=>h,dT HG2.out hb3,by have := (Array.getElem?_eq_some_iff.1 HK2.out).1;omega,HGG.out,fun e=>by have e2:a0.block=w.heap.size:=Option.some.inj e;have := (Array.getElem?_eq_some_iff.1 HK2.out).1;omega,Nat.le_refl _⟩
  clear hb3 hrv hrd hba hgh hcv;have C4:=O (Fj gh 152 none _ hdr e1 w3 HS3.out.hv HS3.out.rdh);have HL1:=O (kB bz hdr e1);generalize hdom:rdV z16 bz hdr e1=dom at C4;generalize hr1:rdR bz hdr e1=r1 at C4 HL1;generalize hx1:rdX bz hdr e1=x1 at C4;have EDOM:=O hdom;have ER1:=O hr1;have EX1:=O hx1;clear hdom hr1 hx1
  go_upto_region 4 with (first
   |(go_at_call 135;refine C4.out.mono ?_;rintro en w4 ⟨v4,rfl,hr4,hp4,hg4⟩;have HS4:=O (HS3.out.step hg4 hr4 hp4 HL1.out);clear hr4 hp4 hg4)
   |(refine DF zB ah dom w.heap.size HS4.out.bk rfl (.tmp 26) (.tmp 25) rfl rfl rfl ?_))
  have HS5:=O (HS4.out.setB { zB with dom:=dom });generalize w4.setRow w.heap.size (bc { zB with dom:=dom } ah)=w5 at HS5 ⊢;generalize hb0:{ zB with dom:=dom }=b0 at HS5;have EB0:=O hb0;have C5:=O (Fk gh 152 none _ r1 x1 w5 HS5.out.hv HS5.out.rdh (by have := HS5.out.le;have := HHL.out;omega));have HL2:=O (kB aB r1 x1);generalize hl:rdV [] aB r1 x1=l at C5;generalize hr2:rdR aB r1 x1=r2 at C5 HL2;generalize hx2:rdX aB r1 x1=x2 at C5;have EL:=O hl;have ER2:=O hr2;have EX2:=O hx2;have HN:Hid ((((l.length:Int) == 4)=decide (l.length=4))):=O (by by_cases h0:l.length=4 <;> simp[h0];omega);clear hb0 hl hr2 hx2;generalize he3:(if x2=0∧decide (l.length=4)=false then 6 else x2)=e3;have E3:=O he3;clear he3
  go_upto_if 33 with (first
   |(go_at_call 137;refine C5.out.mono ?_;rintro en w6 ⟨x6,v6,rfl,ho6,hr6,hp6,hg6⟩;have HO6:=O ho6;have HS6:=O (HS5.out.step hg6 hr6 hp6 HL2.out);obtain⟨la,lc,rfl,_,_,_⟩:=ho6.rd;clear hr6 hp6 hg6 ho6)
   |(go_at_call 92;rw[HN.out];refine(dK gh _ none _ x2 (decide (l.length=4)) 6 _ HS6.out.hv).mono ?_;rintro en w7 ⟨rfl,hw7⟩;have HG7:=O (gm hw7);have HR7:=O (gp HS6.out.hv hw7);rw[E3.out] at HR7;clear hw7;rw[E3.out]))
  have HS7:=O (HS6.out.step HG7.out HR7.out (fun _ h=>h) (Nat.le_refl _));have hgh5:gh<w5.heap.size:=HS5.out.hv.lt;have HO7:=O (HO6.out.grown HG7.out (fun g2 hg2=>by cases hg2;exact HO6.out.neOld hgh5));generalize hb1:(if e3=0 then setN b0 l else b0)=b1;have EB1:=O hb1;clear hb1 hgh5
  go_cut [33] from 34 to 49 (fun _ wc=>Hid (PkS w g hdr v1 e1 gh (.slice (some a0) n0 c0) wc b1 v6 r2 e3))
  case first =>
   by_cases h30:e3=0
   ·have hd:decide (e3=0)=true:=decide_eq_true h30
    have hl4:l.length=4:=by
     have h:=E3.out;rw[h30] at h
     split at h
     ·cases h
     ·rename_i hn
      exact Decidable.of_not_not (fun h4=>hn ⟨h,decide_eq_false h4⟩)
    obtain⟨m0,m1,m2,m3,rfl⟩:∃m0 m1 m2 m3,l=[m0,m1,m2,m3]:=by
     match l,hl4 with
     | [m0,m1,m2,m3],_=>exact⟨m0,m1,m2,m3,rfl⟩
    obtain⟨bl,off,rfl,hbl,aO⟩:=iE HO7.out.rd (by simp);have y0:=aO 0 (by simp);have y1:=aO 1 (by simp);have y2:=aO 2 (by simp);have y3:=aO 3 (by simp);rw[Nat.add_zero] at y0;simp only[List.getElem_cons_zero,List.getElem_cons_succ] at y0 y1 y2 y3;have hge:w5.heap.size≤bl:=(HO7.out.lt bl rfl).1;have hgb5:w.heap.size<w5.heap.size:=(Array.getElem?_eq_some_iff.1 HS5.out.bk).1
    have z1:w.heap.size≠bl:=by omega
    have z2:bl≠w.heap.size:=by omega
    have k16:w7.cell? ⟨w.heap.size,16,none⟩=some (.int .i64 b0.ep):=by rw[cell_of_row _ _ _ _ _ _ HS7.out.bk];exact uj b0 ah
    have k17:w7.cell? ⟨w.heap.size,17,none⟩=some (.int .i64 b0.num):=by rw[cell_of_row _ _ _ _ _ _ HS7.out.bk];exact sy b0 ah
    have k18:w7.cell? ⟨w.heap.size,18,none⟩=some (.int .i64 b0.fw):=by rw[cell_of_row _ _ _ _ _ _ HS7.out.bk];exact ul b0 ah
    have k19:w7.cell? ⟨w.heap.size,19,none⟩=some (.int .i64 b0.tm):=by rw[cell_of_row _ _ _ _ _ _ HS7.out.bk];exact um b0 ah
    have f16:=frozen_of_row _ _ 16 _ _ HS7.out.bk;have f17:=frozen_of_row _ _ 17 _ _ HS7.out.bk;have f18:=frozen_of_row _ _ 18 _ _ HS7.out.bk;have f19:=frozen_of_row _ _ 19 _ _ HS7.out.bk;have HEB:Hid (setN b0 [m0,m1,m2,m3]=b1):=O (by rw[←EB1.out,if_pos h30])
    have HW8:Hid ((((w7.setCell ⟨w.heap.size,16,none⟩ (.int .i64 m0)).setCell ⟨w.heap.size,17,none⟩ (.int .i64 m1)).setCell ⟨w.heap.size,18,none⟩ (.int .i64 m2)).setCell ⟨w.heap.size,19,none⟩ (.int .i64 m3)=w7.setRow w.heap.size (bc (setN b0 [m0,m1,m2,m3]) ah)):=O (by
     have q1:=HS7.out.bk;rw[au _ _ _ _ _ _ _ q1,uq];rw[au _ _ _ _ _ _ _ (setRow_heap _ _ _ _ _ _ q1),ur,eD];rw[au _ _ _ _ _ _ _ (setRow_heap _ _ _ _ _ _ q1),IH,eD];rw[au _ _ _ _ _ _ _ (setRow_heap _ _ _ _ _ _ q1),II,eD]
     rfl)
    clear aO hge hgb5 hl4 hd;go_wp2
    go_region
    all_goals go_wp2
    all_goals go_meet
    case rel =>
     have hs:=HS7.out.setB (setN b0 [m0,m1,m2,m3]);rw[←HW8.out] at hs;rw[←HEB.out];exact O (hs.on (ak 1 (Oo _ _)))
   ·have hd:decide (e3=0)=false:=decide_eq_false h30
    have HEB:Hid (b0=b1):=O (by rw[←EB1.out,if_neg h30]);clear hd;go_wp2
    all_goals go_meet
    case rel=>rw[←HEB.out];exact HS7
  case rest =>
   have HST:=O hcut.out;have C8:=O (Fj gh 152 none v6 r2 e3 wc HST.out.hv HST.out.rdh);have HL3:=O (kB bz r2 e3);generalize hpol:rdV z16 bz r2 e3=pol at C8;generalize hr3:rdR bz r2 e3=r3 at C8 HL3;generalize hx4:rdX bz r2 e3=x4' at C8;have EPOL:=O hpol;have ER3:=O hr3;have EX4:=O hx4;clear hpol hr3 hx4 hcut
   go_upto_region 8 with (first
    |(go_at_call 135;refine C8.out.mono ?_;rintro en w8 ⟨v8,rfl,hr8,hp8,hg8⟩;have HS8:=O (HST.out.step hg8 hr8 hp8 HL3.out);clear hr8 hp8 hg8)
    |(refine TS b1 ah pol w.heap.size HS8.out.bk rfl (.tmp 52) (.tmp 51) rfl rfl rfl ?_))
   have HS9:=O (HS8.out.setB { b1 with pol:=pol });generalize w8.setRow w.heap.size (bc { b1 with pol:=pol } ah)=w9 at HS9 ⊢;generalize hb2:{ b1 with pol:=pol }=b2 at HS9;have EB2:=O hb2;have C9:=O (MA gh 152 none _ r3 x4' w9 HS9.out.hv HS9.out.rdh (by have := HS9.out.le;have := HHL.out;omega));have HL4:=O (kB aL r3 x4');have HML:=O (Nat.le_trans (jT r3 x4') HS9.out.le);generalize hmo:rdV [] aL r3 x4'=mo at C9 HML;generalize rdR aL r3 x4'=r4 at C9 HL4;generalize hx5:whX aL r3 x4'=x5 at C9;have EMO:=O hmo;have EX5:=O hx5;clear hb2 hmo hx5
   go_upto_region 9 with (go_at_call 139;refine C9.out.mono ?_;rintro en w10 ⟨_,v10,rfl,rfl,hr10,hp10,hg10⟩;have HS10:=O (HS9.out.step hg10 hr10 hp10 HL4.out);have k36:w10.cell? ⟨w.heap.size,36,none⟩=some (.string ⟨b2.mo.toArray⟩):=(by rw[cell_of_row _ _ _ _ _ _ HS10.out.bk];exact uo b2 ah);have f36:=frozen_of_row _ _ 36 _ _ HS10.out.bk;clear hr10 hp10 hg10)
   have HW11:Hid (w10.setCell ⟨w.heap.size,36,none⟩ (.string ⟨mo.toArray⟩)=w10.setRow w.heap.size (bc { b2 with mo:=mo } ah)):=O (by rw[au _ _ _ _ _ _ _ HS10.out.bk,IJ]);rw[HW11.out];have HS11:=O (HS10.out.setB { b2 with mo:=mo });clear k36 f36;generalize w10.setRow w.heap.size (bc { b2 with mo:=mo } ah)=w11 at HS11 ⊢;have HMO3:Hid (({ b2 with mo:=mo }:BK).mo.length≤maxLen):=O (by have := HML.out;have := HHL.out;show mo.length≤maxLen;unfold maxLen;omega);generalize hb3:{ b2 with mo:=mo }=b3 at HS11 HMO3;have EB3:=O hb3;have C11:=O (rf b3 ah [] w11 ⟨none,0,rfl,Nat.le_refl _,by unfold maxLen;omega,fun h=>absurd h (by simp)⟩ (fun i hi=>absurd hi (by simp)) HMO3.out);clear hb3;generalize hva:aI b3 []=va at C11;have EVA:=O hva;clear hva;generalize he6:(if x5=0∧va=false then 6 else x5)=x6;have E6:=O he6;clear he6
   go_upto_region 10 with (first
    |(refine cH b3 ah rfl (.tmp 2) rfl w.heap.size rfl _ HS11.out.bk ?_)
    |(go_at_call 76;refine C11.out.mono ?_;rintro en w12 ⟨rfl,hb12⟩;have HS12:=O (HS11.out.on hb12);clear hb12)
    |(go_at_call 92;refine(dK gh _ none _ x5 va 6 _ HS12.out.hv).mono ?_;rintro en w13 ⟨rfl,hw13⟩;have HG13:=O (gm hw13);have HR13:=O (gp HS12.out.hv hw13);rw[E6.out] at HR13;clear hw13;rw[E6.out]))
   have HS13:=O (HS12.out.step HG13.out HR13.out (fun _ h=>h) (Nat.le_refl _))
   have m1:w13.cell? ⟨gh,1,none⟩=some (.int .i64 x6):=by rw[cell_of_row _ _ _ _ _ _ HS13.out.hv];exact gy _ x6 none
   have m2:w13.cell? ⟨g,1,none⟩=some (.int .i64 e1):=by rw[cell_of_row _ _ _ _ _ _ HS13.out.rv];exact gy _ e1 (some hdr)
   have m3:=frozen_of_row _ _ 1 _ _ HS13.out.rv;have HW14:Hid (w13.setCell ⟨g,1,none⟩ (.int .i64 x6)=w13.setRow g (rc v1 x6 (some hdr))):=O (by rw[au _ _ _ _ _ _ _ HS13.out.rv,jx])
   go_upto_region 11 with fail
   rw[HW14.out];have HR14:Hid (RV (w13.setRow g (rc v1 x6 (some hdr))) g 154 (some hdr) v1 x6):=O (setRow_heap _ _ _ _ _ _ HS13.out.rv);have HK14:Hid ((w13.setRow g (rc v1 x6 (some hdr))).heap[w.heap.size]?=some (.cells (bc b3 ah) 47 (0,0))):=O (by rw[aj _ _ _ _ (by have := HGG.out;omega)];exact HS13.out.bk);have HG14:Hid (w.grownBy (w13.setRow g (rc v1 x6 (some hdr))) (some g)):=O (bg HS13.out.gr (aD _ _ _));clear m1 m2 m3;generalize w13.setRow g (rc v1 x6 (some hdr))=w14 at HR14 HK14 HG14 ⊢
   go_wp2_with (first
    |(refine cH b3 ah rfl (.tmp 2) rfl w.heap.size rfl _ HK14.out ?_)
    |(refine wpList_store_row rfl 47 (.tmp 2) (.tmp 68) rfl w.heap.size (bc b3 ah) rfl rfl _ _ HK14.out (by rw[aC];exact dU) rfl (dl _ _ _ _) ?_))
   refine bodyPost_ret (eo rfl _ _ w.heap.size _ rfl (aX _ _ b3 ah _ (setRow_heap _ _ _ _ _ _ HK14.out))) rfl ?_
   have HDE:hdE hdr e1=e3:=by
    unfold hdE;simp only[ER1.out,EX1.out,EX2.out,EL.out];exact E3.out
   have HDB:hdB hdr e1=b3:=by
    unfold hdB;simp only[EDOM.out,ER1.out,EX1.out,EL.out,ER2.out,HDE,EPOL.out,ER3.out,EX4.out,EMO.out];rw[←EB3.out,←EB2.out,←EB1.out,←EB0.out]
   have HDX:hdX hdr e1=x6:=by
    unfold hdX;simp only[HDB,ER1.out,EX1.out,ER2.out,HDE,ER3.out,EX4.out,EX5.out,EVA.out];exact E6.out
   refine⟨v1,by rw[HDB],?_,HP1.out,fv _ HG14.out (Nat.le_refl _)⟩;rw[HDX];unfold RV;rw[aj _ _ _ _ (by have := HGG.out;omega)];exact HR14.out
end
end
end Go.Proofs.YtmfiaadjdbemnaaGreatDoor
