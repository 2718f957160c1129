/- Contracts and lemmas. No condition. -/
import Derived.Test.YtmfiaadjdbemnaaGreatDoorLMg11
set_option maxRecDepth 100000
set_option maxHeartbeats 8000000
set_option linter.unusedSimpArgs false
set_option linter.unusedVariables false
namespace Go.Proofs.YtmfiaadjdbemnaaGreatDoor
open Go.Proofs.Tryz
section
variable {ops:Array Oper} {rest:List Oper} {o:Oper} {a:Act} {w:World} {Q:Exit→Act→World→Prop}
section
open Go.RowKit Go.Shelf
def mgC (n:Int) (v vi:Value) (e:Int):Array Value := #[.int .i64 n,v,vi,.int .i64 e]
def zMG:Array Value:=mgC 0 ah ah 0
theorem jv (n:Int) (a b:Option Addr) (k c k2 c2:Nat) (e:Int):((mgC n (.slice a k c) (.slice b k2 c2) e).all fun u=>u.oneCell')=true:=by simp[mgC,Value.oneCell']
theorem Kz (n n':Int) (v v' u u':Value) (e e':Int):(mgC n v u e).size=(mgC n' v' u' e').size:=rfl
theorem pN (n:Int) (v u:Value) (e:Int):zMG.size=(mgC n v u e).size:=rfl
theorem OM:nbC zMG=true:=by kernel_rfl
theorem Ka:(prog.info? 77).map (·.size)=some 4:=by kernel_rfl
theorem ig (n:Int) (v u:Value) (e:Int):(prog.info? 77).map (·.size)=some (mgC n v u e).size:=Ka
theorem ze (n:Int) (a b:Option Addr) (k c k2 c2:Nat) (e:Int):nbC (mgC n (.slice a k c) (.slice b k2 c2) e)=true:=by kernel_rfl
theorem M5:(prog.info? 77).map (·.zero)=some (some (.agg zMG)):=by kernel_rfl
theorem Qq (w:World):(zeroValue 77).run prog w = .ok (.agg zMG) w:=by
 have h:=M5;generalize zMG=L at h ⊢
 cases hq:prog.info? 77 with
 | none=>rw[hq] at h;cases h
 | some i =>
   rw[hq] at h
   simp at h
   simp[zeroValue,typeInfo,hq,h]
theorem rU (w:World) (g:Nat) (n:Int) (v u:Value) (e:Int) (T:TypeId) (hg:w.heap[g]?=some (.cells (mgC n v u e) T (0,0))):(loadVar 77 ⟨g,0,none⟩).run prog w = .ok (.agg (mgC n v u e)) w :=
 run_loadVar_row w g T 77 _ (0,0) _ hg underlying77 rfl (ig _ _ _ _)
theorem V5 (n:Int) (v u:Value) (e:Int) (hgd:Region.wanted o (yielded ops a.tmps)=true) (x:Operand) (ho:o.op = .load 77 x)
  (g:Nat) (hx:a.eval x = .pointer (some ⟨g,0,none⟩)) (T':TypeId) (hg:w.heap[g]?=some (.cells (mgC n v u e) T' (0,0)))
  (h:wpList prog ops Q rest (a.put o.dst (.agg (mgC n v u e))) w):wpList prog ops Q (o::rest) a w :=
 wpList_step fun K hK=>by
  rw[G_ hgd];exact wp_load_row _ x ho g hx _ (mgC n v u e) (0,0) _ hg underlying77 rfl (ig _ _ _ _) (hK _ _ h)
theorem F7 (e:Int):prog.built 77 [(2,.int .i64 e)]=some (mgC 0 ah ah e):=by kernel_rfl
theorem F4 (n:Int) (a:Option Addr) (k c:Nat):prog.built 77 [(0,.agg (tbA n (.slice a k c)))]=some (mgC n (.slice a k c) ah 0):=by kernel_rfl
theorem F5 (n:Int) (a b:Option Addr) (k c k2 c2:Nat):prog.built 77 [(0,.agg (tbA n (.slice a k c))),(1,.slice b k2 c2)]=some (mgC n (.slice a k c) (.slice b k2 c2) 0):=by kernel_rfl
section
theorem pX (e:Int) (hgd:Region.wanted o (yielded ops a.tmps)=true) (x:Operand) (ho:o.op = .build 77 #[(2,x)]) (hx:a.eval x = .int .i64 e)
  (h:wpList prog ops Q rest (a.put o.dst (.agg (mgC 0 ah ah e))) w):wpList prog ops Q (o::rest) a w :=
 wpList_step fun K hK=>by
  rw[G_ hgd];have hr:=run_build (P:=prog) w 77 #[(2,.int .i64 e)] _ (F7 e);unfold Oper.wp execOp;simp only[ho,List.map_toArray,List.map_cons,List.map_nil,hx,hr,Sem.run_bind,Sem.run_pure,Result.andThen_ok];exact hK _ _ h
theorem NC (n:Int) (ad:Option Addr) (k c:Nat) (hgd:Region.wanted o (yielded ops a.tmps)=true) (x:Operand) (ho:o.op = .build 77 #[(0,x)]) (hx:a.eval x = .agg (tbA n (.slice ad k c)))
  (h:wpList prog ops Q rest (a.put o.dst (.agg (mgC n (.slice ad k c) ah 0))) w):wpList prog ops Q (o::rest) a w :=
 wpList_step fun K hK=>by
  rw[G_ hgd];have hr:=run_build (P:=prog) w 77 #[(0,.agg (tbA n (.slice ad k c)))] _ (F4 n ad k c);unfold Oper.wp execOp;simp only[ho,List.map_toArray,List.map_cons,List.map_nil,hx,hr,Sem.run_bind,Sem.run_pure,Result.andThen_ok];exact hK _ _ h
theorem Ei (n:Int) (ad b:Option Addr) (k c k2 c2:Nat) (hgd:Region.wanted o (yielded ops a.tmps)=true) (x y:Operand) (ho:o.op = .build 77 #[(0,x),(1,y)]) (hx:a.eval x = .agg (tbA n (.slice ad k c))) (hy:a.eval y = .slice b k2 c2)
  (h:wpList prog ops Q rest (a.put o.dst (.agg (mgC n (.slice ad k c) (.slice b k2 c2) 0))) w):wpList prog ops Q (o::rest) a w :=
 wpList_step fun K hK=>by
  rw[G_ hgd];have hr:=run_build (P:=prog) w 77 #[(0,.agg (tbA n (.slice ad k c))),(1,.slice b k2 c2)] _ (F5 n ad b k c k2 c2);unfold Oper.wp execOp;simp only[ho,List.map_toArray,List.map_cons,List.map_nil,hx,hy,hr,Sem.run_bind,Sem.run_pure,Result.andThen_ok];exact hK _ _ h
theorem Di (n:Int) (v:Value) (g:Nat) (x:Operand) (ho:o.op = .load 45 x) (hc:w.rangeAt g 0 (tbA n v).toList) (hx:a.eval x = .pointer (some ⟨g,0,none⟩)) (hgd:Region.wanted o (yielded ops a.tmps)=true)
  (h:wpList prog ops Q rest (a.put o.dst (.agg (tbA n v))) w):wpList prog ops Q (o::rest) a w :=
 wpList_step fun K hK=>by
  rw[G_ hgd];exact wp_load_mid _ x ho g 0 hx (tbA n v).toList _ hc underlying45 rfl qB (hK _ _ h)
end
theorem Ub {o:Oper} {a:Act} {S:World→Prop} {ops:Array Oper} (n:Int) (v:Value) (g:Nat) (x:Operand) (hw:Region.wanted o (yielded ops a.tmps)=true) (ho:o.op = .load 45 x) (hx:a.eval x = .pointer (some ⟨g,0,none⟩)) (hr:∀w,S w→w.rangeAt g 0 (tbA n v).toList):YieldsIf prog ops S o (.agg (tbA n v)) a:=by
 refine .inl ⟨hw,fun w hS => ?_⟩;unfold execOp;simp only[ho,hx,Instr.loadAt,Instr.sureAddr,Sem.run_bind,Sem.run_pure,Result.andThen_ok,run_loadVar_mid w g 0 _ (tbA n v).toList _ (hr w hS) underlying45 rfl qB]
theorem ou {w:World} {g:Nat} {cs:Array Value} {T:TypeId} {n:Int} {v:Value} (h:w.heap[g]?=some (.cells cs T (0,0))) (h0:cs[0]?=some (.int .i64 n)) (h1:cs[1]?=some v):w.rangeAt g 0 (tbA n v).toList:=fun i u hu=>by
 rw[e_ _ _ _ _ _ _ h,a_];have hi:i<2:=(d_.1 hu).1
 rcases (by omega:i=0∨i=1) with rfl|rfl
 ·rw[h0];exact hu
 ·rw[h1];exact hu
theorem Dz {w:World} {g:Nat} {n:Int} {v u:Value} {e:Int} {T:TypeId} (h:w.heap[g]?=some (.cells (mgC n v u e) T (0,0))):w.rangeAt g 0 (tbA n v).toList:=ou h rfl rfl
theorem Ts {w:World} {g:Nat} {n i e:Int} {v:Value} {T:TypeId} (h:w.heap[g]?=some (.cells (ac n v i e) T (0,0))):w.rangeAt g 0 (tbA n v).toList:=ou h rfl rfl
theorem Ya (n i e:Int) (v:Value):(ac n v i e)[2]?=some (.int .i64 i):=rfl
theorem UY (n i e:Int) (v:Value):(ac n v i e)[3]?=some (.int .i64 e):=rfl
theorem V8 (n e:Int) (v u:Value):(mgC n v u e)[2]?=some u:=rfl
theorem J7:(prog.info? 125).map (·.size)=some 4:=by kernel_rfl
theorem ER (n i e:Int) (v:Value):(prog.info? 125).map (·.size)=some (ac n v i e).size:=J7
theorem Is (n i e:Int) (b:Option Addr) (k c:Nat):((ac n (.slice b k c) i e).all fun u=>u.oneCell')=true:=by simp[ac,Value.oneCell']
theorem Qu (n i e n' i' e':Int) (v v':Value):(ac n v i e).size=(ac n' v' i' e').size:=rfl
theorem MY:(prog.info? 125).map (·.zero)=some (some (.agg (ac 0 ah 0 0))):=by kernel_rfl
theorem Qn (w:World):(zeroValue 125).run prog w = .ok (.agg (ac 0 ah 0 0)) w:=by
 have h:=MY;generalize ac 0 ah 0 0=L at h ⊢
 cases hq:prog.info? 125 with
 | none=>rw[hq] at h;cases h
 | some i =>
   rw[hq] at h
   simp at h
   simp[zeroValue,typeInfo,hq,h]
theorem Rv (nx:Int) (v:Value) (l:List K) (k:K) (w:World) (hv:RdK w v l) (he:bL nx l k≠0) :
  Calls prog 63 #[.agg (tbA nx v),.agg (kc k)] w fun e w'=>e = .returned (.agg (ac 0 ah 0 (bL nx l k)))∧Below w.heap.size w w':=RA nx v l k w hv he
theorem Ry (nx:Int) (v:Value) (l:List K) (k:K) (w:World) (hv:RdK w v l) (he:bL nx l k=0) (hp:k.par=0) (hl:l.length≤5000) :
  Calls prog 63 #[.agg (tbA nx v),.agg (kc k)] w fun e w'=>∃a c,e = .returned (.agg (ac (nx+1) (.slice a (l++[aW k nx]).length c) nx 0))∧RdK w' (.slice a (l++[aW k nx]).length c) (l++[aW k nx])∧Below w.heap.size w w'∧(∀b,a=some b→w.heap.size≤b.block):=by
 have hnx:IntKind.i64.wrap (nx+1)=nx+1:=by
  rw[IntKind.wrap_i64]
  rcases fb nx l k with⟨_,h⟩|⟨_,_,h⟩|⟨_,_,_,h⟩|⟨_,_,_,_,h⟩|⟨_,h1,_,h2,_⟩
  ·rw[h] at he;cases he
  ·rw[h] at he;cases he
  ·rw[h] at he;cases he
  ·rw[h] at he;cases he
  ·rw[hp] at h1;omega
 refine(pS nx v l k w hv he hl hnx).mono ?_;rintro e w' ⟨v',rfl,ho,hb⟩;obtain⟨a,c,rfl,_,_,_⟩:=id ho.rd;refine⟨a,c,rfl,ho.rd,hb,fun b hb2 => ?_⟩;subst hb2
 rcases ho.2 with⟨h1,_⟩|⟨g0,cap,cur,h1,h2,_⟩
 ·cases h1
 ·cases h1
  exact h2
structure MR (w:World) (d:DO) (g14:Nat) (b:BK) (bv:Value) (L:List K) (y:World):Prop where
 bw:Below w.heap.size w y
 r3:y.heap[w.heap.size+3]?=some (.cells zMG 77 (0,0))
 r14:y.heap[g14]?=some (.cells (bc b bv) 47 (0,0))
 lk:RdK y bv L
theorem MR.on {w y y':World} {d:DO} {g14:Nat} {b:BK} {bv:Value} {L:List K} (h:MR w d g14 b bv L y) (hb:Below y.heap.size y y'):MR w d g14 b bv L y' :=
 ⟨h.bw.trans (hb.mono h.bw.size),aa h.r3 hb,aa h.r14 hb,h.lk.on hb⟩
theorem MR.grown {w y y':World} {d:DO} {g14 B:Nat} {b:BK} {ba:Option Addr} {bn bd:Nat} {L:List K} {row:Option Nat} (h:MR w d g14 b (.slice ba bn bd) L y) (hg:y.grownBy y' row) (hB:∀q,row=some q→B≤q) (h0:w.heap.size≤B) (h3:w.heap.size+3<B) (h14:g14<B) (hlk:∀p,ba=some p→p.block<B) (hsz:B≤y.heap.size):MR w d g14 b (.slice ba bn bd) L y':=by
 have hb:Below B y y':=(O_ B y).grown hg hsz hB;refine⟨h.bw.trans (hb.mono h0),?_,?_,h.lk.grownB hg (fun p hp q hq => ?_)⟩
 ·rw[hb.block _ h3];exact h.r3
 ·rw[hb.block _ h14];exact h.r14
 ·have := hB q hq
  have := hlk p hp
  omega
theorem MR.set {w y:World} {d:DO} {g14 g:Nat} {b:BK} {bv:Value} {L:List K} {cs:Array Value} {T:TypeId} (h:MR w d g14 b bv L y) (hg:y.heap[g]?=some (.cells cs T (0,0))) (hn:nbC cs=true) (h3:w.heap.size+3<g) (h14:g14<g) {y':World} (ho:∀k,k≠g→y'.heap[k]? = y.heap[k]?) (hb:∀B,B≤g→Below B y y'):MR w d g14 b bv L y' :=
 ⟨h.bw.trans (hb _ (by omega)),(ho _ (by omega)).trans h.r3,(ho _ (by omega)).trans h.r14,h.lk.nb hg hn ho (hb 0 (N_ _)).size⟩
structure LR (w:World) (d:DO) (g14 g16 BW:Nat) (b:BK) (bv:Value) (L:List K) (m:MG) (ua:Option Addr) (uc:Nat) (ia:Option Addr) (ic:Nat) (y:World):Prop where
 mr:MR w d g14 b bv L y
 r16:y.heap[g16]?=some (.cells (mgC m.nx (.slice ua m.tl.length uc) (.slice ia m.ids.length ic) 0) 77 (0,0))
 tk:RdK y (.slice ua m.tl.length uc) m.tl
 ow:ap eI y BW (.slice ia m.ids.length ic) m.ids
 sz:BW≤y.heap.size
theorem LR.on {w y y':World} {d:DO} {g14 g16 BW:Nat} {b:BK} {bv:Value} {L:List K} {m:MG} {ua:Option Addr} {uc:Nat} {ia:Option Addr} {ic:Nat} (h:LR w d g14 g16 BW b bv L m ua uc ia ic y) (hb:Below y.heap.size y y'):LR w d g14 g16 BW b bv L m ua uc ia ic y' :=
 ⟨h.mr.on hb,aa h.r16 hb,h.tk.on hb,h.ow.on hb,M_ h.sz hb.size⟩
end
section
open Go.RowKit
theorem Km (d:DO) (g off:Nat) (x:Operand) (ho:o.op = .load 25 x) (hc:w.rangeAt g off (doA d).toList)
  (hx:a.eval x = .pointer (some ⟨g,off,none⟩)) (hgd:Region.wanted o (yielded ops a.tmps)=true)
  (h:wpList prog ops Q rest (a.put o.dst (.agg (doA d))) w):wpList prog ops Q (o::rest) a w :=
 wpList_step fun K hK=>by
  rw[G_ hgd];exact wp_load_mid _ x ho g off hx (doA d).toList _ hc underlying25 rfl (by rw[Array.length_toList,kW];exact u9) (hK _ _ h)
open Go.RowKit
theorem AX {nx:Int} {l:List K} {b:BK} {m:List K} (h:oC nx l b m=true):l.length≤12:=by
 unfold oC at h;simp only[T_,decide_eq_true_eq] at h;exact h.1
open Go.RowKit
theorem vB {w:World} {g:Nat} {C:Array Value} {T:TypeId} {off:Nat} {l:List Value} (h:w.heap[g]?=some (.cells C T (0,0))) (hp:∀(i:Nat) (x:Value),l[i]?=some x→C[off+i]?=some x):w.rangeAt g off l:=fun i x hx=>by
 rw[e_ _ _ _ _ _ _ h];exact hp i x hx
theorem mid_at (a b c:List Value) {n:Nat} (hn:a.length=n) (i:Nat) (x:Value) (h:b[i]?=some x):(a++(b++c))[n+i]?=some x:=by
 subst hn;rw[List.getElem?_append_right (by omega),Nat.add_sub_cancel_left,List.getElem?_append_left (d_.1 h).1,h]
theorem YT (n:Int) (v:Value) (g off:Nat) (x:Operand) (ho:o.op = .load 45 x) (hc:w.rangeAt g off (tbA n v).toList) (hx:a.eval x = .pointer (some ⟨g,off,none⟩)) (hgd:Region.wanted o (yielded ops a.tmps)=true)
  (h:wpList prog ops Q rest (a.put o.dst (.agg (tbA n v))) w):wpList prog ops Q (o::rest) a w :=
 wpList_step fun K hK=>by
  rw[G_ hgd];exact wp_load_mid _ x ho g off hx (tbA n v).toList _ hc underlying45 rfl qB (hK _ _ h)
theorem aan (n e:Int) (v u:Value):(mgC n v u e)[3]?=some (.int .i64 e):=rfl
theorem YV (d:DO) (nx:Int) (v:Value) (pol:List UInt8) (now:Int) (blob:List UInt8) (vl:Value):∃C,C=(miC d nx v pol now blob vl).toArray:=⟨_,rfl⟩
theorem Jw (d:List UInt8):(am d).toList.length=16:=rfl
theorem Wa (d:DO) (nx:Int) (v:Value) (pol:List UInt8) (now:Int) (blob:List UInt8) (vl:Value) :
  (∀i x,(doA d).toList[i]?=some x→(miC d nx v pol now blob vl).toArray[0+i]?=some x)∧(∀i x,(tbA nx v).toList[i]?=some x→(miC d nx v pol now blob vl).toArray[19+i]?=some x)∧(∀i x,(am pol).toList[i]?=some x→(miC d nx v pol now blob vl).toArray[21+i]?=some x) ∧
  (miC d nx v pol now blob vl).toArray[16]?=some (.string ⟨d.key.toArray⟩)∧(miC d nx v pol now blob vl).toArray[37]?=some (.int .i64 now)∧(miC d nx v pol now blob vl).toArray[38]?=some (.string ⟨blob.toArray⟩)∧(miC d nx v pol now blob vl).toArray[39]?=some vl:=by
 have h0:(dmc d).length=19:=nJ d;have h2:(am pol).toList.length=16:=Jw pol
 have hd:(doA d).toList=dmc d:=by simp[doA]
 have a0:∀i x,(dmc d)[i]?=some x→(miC d nx v pol now blob vl)[0+i]?=some x:=fun i x h=>mid_at [] (dmc d) _ rfl i x h;have a1:∀i x,[Value.int .i64 nx,v][i]?=some x→(miC d nx v pol now blob vl)[19+i]?=some x:=fun i x h=>mid_at (dmc d) _ _ h0 i x h
 have e2:miC d nx v pol now blob vl=(dmc d++[.int .i64 nx,v])++((am pol).toList++([.int .i64 now]++([.string ⟨blob.toArray⟩]++[vl]))):=by unfold miC;simp
 have a2:∀i x,(am pol).toList[i]?=some x→(miC d nx v pol now blob vl)[21+i]?=some x:=fun i x h=>by
  rw[e2];exact mid_at _ _ _ (by rw[E_,h0];rfl) i x h
 have e3:miC d nx v pol now blob vl=(dmc d++[.int .i64 nx,v]++(am pol).toList)++([.int .i64 now,.string ⟨blob.toArray⟩,vl]++[]):=by unfold miC;simp
 have a3:∀i x,[Value.int .i64 now,.string ⟨blob.toArray⟩,vl][i]?=some x→(miC d nx v pol now blob vl)[37+i]?=some x:=fun i x h=>by
  rw[e3];exact mid_at _ _ _ (by rw[E_,E_,h0,h2];rfl) i x h
 simp only[List.getElem?_toArray];rw[hd];refine⟨a0,a1,a2,?_,a3 0 _ rfl,a3 1 _ rfl,a3 2 _ rfl⟩;exact a0 16 _ (by have := cK d;rw[←Array.getElem?_toList,hd] at this;exact this)
open Go.RowKit Go.Shelf
attribute [local irreducible] Calls doA kc tbA mgC zMG ac
theorem Uw (d : DO) (nx : Int) (vt : Value) (tl : List K) (pol : List UInt8) (now : Int) (blob : List UInt8) (l : List SH) (vl : Value) (w : World) (hk : cA w) (ht : RdK w vt tl) (hl : RdE eH w vl l) (h1 : tl.length ≤ 4096) (hb : blob.length ≤ 100000) :
  Calls prog 29 #[.agg (doA d),.agg (tbA nx vt),.agg (am pol),.int .i64 now,.string ⟨blob.toArray⟩,vl] w fun e w'=>∃a n c a2 n2 c2,e = .returned (.agg (mgC (jw d nx tl pol now blob l).nx (.slice a n c) (.slice a2 n2 c2) (jw d nx tl pol now blob l).e)) ∧
   RdK w' (.slice a n c) (jw d nx tl pol now blob l).tl∧RdE eI w' (.slice a2 n2 c2) (jw d nx tl pol now blob l).ids∧Below w.heap.size w w':=by
 have hzero_mg:=Qq;have hzero_bk:=fh;have hzero_kk:=oz;have hzero_ac:=Qn;obtain⟨ta,tc,rfl,_,_,_⟩:=id ht;obtain⟨sa,sc,rfl,_,_,_⟩:=id hl;obtain⟨W0,hW0⟩:∃W0,W0=(((w.alloc (.cells (doA d) 25)).alloc (.cells (tbA nx (.slice ta tl.length tc)) 45)).alloc (.cells (am pol) 23)).alloc (.cells zMG 77):=⟨_,rfl⟩;have HW:=O hW0
 have hb0:Below w.heap.size w W0:=by rw[hW0];exact ph _ _ _ _ _
 have ST:Hid (bS fun y=>(Below w.heap.size w y)∧(y.heap[w.heap.size]?=some (.cells (doA d) 25 (0,0)))∧(y.heap[w.heap.size+1]?=some (.cells (tbA nx (.slice ta tl.length tc)) 45 (0,0)))∧(y.heap[w.heap.size+2]?=some (.cells (am pol) 23 (0,0)))∧(y.heap[w.heap.size+3]?=some (.cells zMG 77 (0,0)))∧(RdK y (.slice ta tl.length tc) tl)∧(RdE eH y (.slice sa l.length sc) l)):=O ((bS.b w).and ((bS.row _ _ _).and ((bS.row _ _ _).and ((bS.row _ _ _).and ((bS.row _ _ _).and ((bS.rdK _ _).and (bS.rdE _ _ _)))))));have HJ:Hid ((Below w.heap.size w W0)∧(W0.heap[w.heap.size]?=some (.cells (doA d) 25 (0,0)))∧(W0.heap[w.heap.size+1]?=some (.cells (tbA nx (.slice ta tl.length tc)) 45 (0,0)))∧(W0.heap[w.heap.size+2]?=some (.cells (am pol) 23 (0,0)))∧(W0.heap[w.heap.size+3]?=some (.cells zMG 77 (0,0)))∧(RdK W0 (.slice ta tl.length tc) tl)∧(RdE eH W0 (.slice sa l.length sc) l)):=O ⟨hb0,by rw[hW0];exact oZ _ _ _ _ _,by rw[hW0];exact o9 _ _ _ _ _,by rw[hW0];exact pf _ _ _ _ _,by rw[hW0];exact pg _ _ _ _ _,ht.on hb0,hl.on hb0⟩;have HV:=O (fun (u:World)=>rh d u);have HUL:=O (fun (u:World) (a:Below w.heap.size w u) (h:RdE eH u (.slice sa l.length sc) l)=>Cm blob l (.slice sa l.length sc) u (hk.on a) h hb);have HTL:=O h1;clear hW0 hk ht hl hb hb0 h1;have HKL:=O (FG blob l)
 rcases xJ d nx tl pol now blob l with⟨hva,hr⟩|⟨hva,hE,hr⟩|⟨hva,hE,hd,hr⟩|⟨hva,hE,hd,hp,hr⟩|⟨hva,hE,hd,hp,hr⟩
 ·rw[hr]
  rw[hva] at HV;clear hva hr HUL HTL HKL
  go_enter func29,ntmps29
  go_upto_region 1 with fail
  rw[←HW.out]
  try dsimp only[Act.put]
  go_wp2_with (first
   |(refine cz d ?r1 (.tmp 6) ?r2 w.heap.size ?r3 _ (HJ.out.2.1) ?_;(case r2=>exact rfl);(case r1=>exact rfl);(case r3=>exact rfl))
   |(go_at_call 16;refine(HV.out _).mono ?_;rintro e yy ⟨rfl,hb⟩;replace HJ:=O (ST.out.on _ _ HJ.out hb);clear hb)
   |(refine pX 1 ?r1 (.const (.int .i64 1)) ?r2 ?r3 ?_;(case r2=>exact rfl);(case r1=>exact rfl);(case r3=>exact rfl))
   |(refine aM (T:=77) (mgC 0 ah ah 1) (ig _ _ _ _) ?r1 (.tmp 12) (.tmp 26) ?r2 (w.heap.size+3) zMG ?r3 ?r4 (jv _ _ _ _ _ _ _ _) (pN _ _ _ _) (HJ.out.2.2.2.2.1) ?_;(case r2=>exact rfl);(case r1=>exact rfl);(case r3=>exact rfl);(case r4=>exact rfl);intro w7 hge7 hoe7 hbe7;have HE7:Hid (w7.heap[w.heap.size+3]?=some (.cells (mgC 0 ah ah 1) 77 (0,0))∧Below w.heap.size w w7):=(O ⟨hge7,(HJ.out.1).trans (hbe7 _ (by omega))⟩);clear hge7 hoe7 hbe7))
  refine g_ (bB rfl _ _ (w.heap.size+3) _ rfl (rU _ _ _ _ _ _ _ HE7.out.1)) rfl ?_;exact⟨none,0,0,none,0,0,rfl,RdK.nil _,(ap.nil _ 0).rd,HE7.out.2⟩
 ·rw[hr]
  rw[hva] at HV
  have e1:(ulE blob l == 0)=false:=by rw[U_];exact hE
  generalize ulE blob l=E at HUL e1 ⊢;generalize ulB blob l=B at HUL;generalize ulK blob l=L at HUL HKL;clear hva hr hE HTL HKL
  go_enter func29,ntmps29
  go_upto_region 1 with fail
  rw[←HW.out]
  try dsimp only[Act.put]
  go_upto_region 5 with (first
   |(refine cz d ?r1 (.tmp 6) ?r2 w.heap.size ?r3 _ (HJ.out.2.1) ?_;(case r2=>exact rfl);(case r1=>exact rfl);(case r3=>exact rfl))
   |(go_at_call 16;refine(HV.out _).mono ?_;rintro e yy ⟨rfl,hb⟩;replace HJ:=O (ST.out.on _ _ HJ.out hb);clear hb)
   |(go_at_call 22;refine(HUL.out _ (HJ.out.1) (HJ.out.2.2.2.2.2.2)).mono ?_;rintro e yy ⟨la,ln,lc,rfl,hrl,hb⟩;replace HJ:=O (ST.out.on _ _ HJ.out hb);have HRL:=O hrl;clear hrl;clear hb)
   |(refine aH (bc B (.slice la ln lc)) 47 ?r1 (.tmp 14) (.tmp 31) ?r2 yy.heap.size ?r3 ?r4 ?r5 (dX _ _) (iA _ _ _ _) (dl _ _ _ _) ?_;(case r2=>exact rfl);(case r1=>exact rfl);(case r3=>exact rfl);(case r4=>exact rfl);(case r5=>exact rfl)))
  obtain⟨la',lc',he',_,_,_⟩:=id HRL.out
  cases he'
  replace HJ:=O (And.intro HJ.out HRL.out);replace ST:=O (ST.out.and (bS.rdK (.slice la L.length lc) L));clear HRL
  try simp only[Act.put]
  obtain⟨gR14,hg,hj⟩:=ST.out.new HJ.out (bc B (.slice la L.length lc)) 47;rw[←hg];generalize yy.alloc (.cells (bc B (.slice la L.length lc)) 47)=Y1 at hj ⊢;replace HJ:=O hj;replace ST:=O (ST.out.and (bS.row gR14 (bc B (.slice la L.length lc)) 47));clear hj hg
  go_wp2_with (first
   |(refine pX E ?r1 (.tmp 35) ?r2 ?r3 ?_;(case r2=>exact rfl);(case r1=>exact rfl);(case r3=>exact rfl))
   |(refine aM (T:=77) (mgC 0 ah ah E) (ig _ _ _ _) ?r1 (.tmp 12) (.tmp 36) ?r2 (w.heap.size+3) zMG ?r3 ?r4 (jv _ _ _ _ _ _ _ _) (pN _ _ _ _) (HJ.out.1.1.2.2.2.2.1) ?_;(case r2=>exact rfl);(case r1=>exact rfl);(case r3=>exact rfl);(case r4=>exact rfl);intro w7 hge7 hoe7 hbe7;have HE7:Hid (w7.heap[w.heap.size+3]?=some (.cells (mgC 0 ah ah E) 77 (0,0))∧Below w.heap.size w w7):=(O ⟨hge7,(HJ.out.1.1.1).trans (hbe7 _ (by omega))⟩);clear hge7 hoe7 hbe7))
  refine g_ (bB rfl _ _ (w.heap.size+3) _ rfl (rU _ _ _ _ _ _ _ HE7.out.1)) rfl ?_;exact⟨none,0,0,none,0,0,rfl,RdK.nil _,(ap.nil _ 0).rd,HE7.out.2⟩
 ·rw[hr]
  rw[hva] at HV;rw[hE] at HUL;have heq:=fun y=>oJ (ulB blob l).dom d.id y;rw[hd] at heq;generalize ulB blob l=B at HUL heq;generalize ulK blob l=L at HUL HKL;clear hva hr hE hd HTL HKL
  go_enter func29,ntmps29
  go_upto_region 1 with fail
  rw[←HW.out]
  try dsimp only[Act.put]
  go_upto_region 5 with (first
   |(refine cz d ?r1 (.tmp 6) ?r2 w.heap.size ?r3 _ (HJ.out.2.1) ?_;(case r2=>exact rfl);(case r1=>exact rfl);(case r3=>exact rfl))
   |(go_at_call 16;refine(HV.out _).mono ?_;rintro e yy ⟨rfl,hb⟩;replace HJ:=O (ST.out.on _ _ HJ.out hb);clear hb)
   |(go_at_call 22;refine(HUL.out _ (HJ.out.1) (HJ.out.2.2.2.2.2.2)).mono ?_;rintro e yy ⟨la,ln,lc,rfl,hrl,hb⟩;replace HJ:=O (ST.out.on _ _ HJ.out hb);have HRL:=O hrl;clear hrl;clear hb)
   |(refine aH (bc B (.slice la ln lc)) 47 ?r1 (.tmp 14) (.tmp 31) ?r2 yy.heap.size ?r3 ?r4 ?r5 (dX _ _) (iA _ _ _ _) (dl _ _ _ _) ?_;(case r2=>exact rfl);(case r1=>exact rfl);(case r3=>exact rfl);(case r4=>exact rfl);(case r5=>exact rfl)))
  obtain⟨la',lc',he',_,_,_⟩:=id HRL.out
  cases he'
  replace HJ:=O (And.intro HJ.out HRL.out);replace ST:=O (ST.out.and (bS.rdK (.slice la L.length lc) L));clear HRL
  try simp only[Act.put]
  obtain⟨gR14,hg,hj⟩:=ST.out.new HJ.out (bc B (.slice la L.length lc)) 47;rw[←hg];generalize yy.alloc (.cells (bc B (.slice la L.length lc)) 47)=Y2 at hj ⊢;replace HJ:=O hj;replace ST:=O (ST.out.and (bS.row gR14 (bc B (.slice la L.length lc)) 47));clear hj hg
  go_wp2_with (first
   |(refine gS B.dom gR14 0 (.tmp 37) ?r1 (gM (HJ.out.2)) ?r2 ?r3 ?_;(case r1=>exact rfl);(case r2=>exact rfl);(case r3=>exact rfl))
   |(refine gS d.id w.heap.size 0 (.tmp 39) ?r1 (eT (HJ.out.1.1.2.1)) ?r2 ?r3 ?_;(case r1=>exact rfl);(case r2=>exact rfl);(case r3=>exact rfl))
   |(refine mh .eql 23 23 (.tmp 38) (.tmp 40) (.agg (am B.dom)) (.agg (am d.id)) (.bool true) ?r1 ?r2 ?r3 ?r4 (fun y=>xi _ _ _ _ y) heq ?_;(case r1=>exact rfl);(case r2=>exact rfl);(case r3=>exact rfl);(case r4=>exact rfl))
   |(refine pX 12 ?r1 (.const (.int .i64 12)) ?r2 ?r3 ?_;(case r2=>exact rfl);(case r1=>exact rfl);(case r3=>exact rfl))
   |(refine aM (T:=77) (mgC 0 ah ah 12) (ig _ _ _ _) ?r1 (.tmp 12) (.tmp 42) ?r2 (w.heap.size+3) zMG ?r3 ?r4 (jv _ _ _ _ _ _ _ _) (pN _ _ _ _) (HJ.out.1.1.2.2.2.2.1) ?_;(case r2=>exact rfl);(case r1=>exact rfl);(case r3=>exact rfl);(case r4=>exact rfl);intro w7 hge7 hoe7 hbe7;have HE7:Hid (w7.heap[w.heap.size+3]?=some (.cells (mgC 0 ah ah 12) 77 (0,0))∧Below w.heap.size w w7):=(O ⟨hge7,(HJ.out.1.1.1).trans (hbe7 _ (by omega))⟩);clear hge7 hoe7 hbe7))
  refine g_ (bB rfl _ _ (w.heap.size+3) _ rfl (rU _ _ _ _ _ _ _ HE7.out.1)) rfl ?_;exact⟨none,0,0,none,0,0,rfl,RdK.nil _,(ap.nil _ 0).rd,HE7.out.2⟩
 ·rw[hr]
  rw[hva] at HV;rw[hE] at HUL;have heq:=fun y=>oJ (ulB blob l).dom d.id y;rw[hd] at heq;have hnq:=fun y=>sO (ulB blob l).pol pol y;rw[hp] at hnq;simp only[Bool.not_true,Bool.not_false] at hnq;generalize ulB blob l=B at HUL heq hnq;generalize ulK blob l=L at HUL HKL;clear hva hr hE hd hp HTL HKL
  go_enter func29,ntmps29
  go_upto_region 1 with fail
  rw[←HW.out]
  try dsimp only[Act.put]
  go_upto_region 5 with (first
   |(refine cz d ?r1 (.tmp 6) ?r2 w.heap.size ?r3 _ (HJ.out.2.1) ?_;(case r2=>exact rfl);(case r1=>exact rfl);(case r3=>exact rfl))
   |(go_at_call 16;refine(HV.out _).mono ?_;rintro e yy ⟨rfl,hb⟩;replace HJ:=O (ST.out.on _ _ HJ.out hb);clear hb)
   |(go_at_call 22;refine(HUL.out _ (HJ.out.1) (HJ.out.2.2.2.2.2.2)).mono ?_;rintro e yy ⟨la,ln,lc,rfl,hrl,hb⟩;replace HJ:=O (ST.out.on _ _ HJ.out hb);have HRL:=O hrl;clear hrl;clear hb)
   |(refine aH (bc B (.slice la ln lc)) 47 ?r1 (.tmp 14) (.tmp 31) ?r2 yy.heap.size ?r3 ?r4 ?r5 (dX _ _) (iA _ _ _ _) (dl _ _ _ _) ?_;(case r2=>exact rfl);(case r1=>exact rfl);(case r3=>exact rfl);(case r4=>exact rfl);(case r5=>exact rfl)))
  obtain⟨la',lc',he',_,_,_⟩:=id HRL.out
  cases he'
  replace HJ:=O (And.intro HJ.out HRL.out);replace ST:=O (ST.out.and (bS.rdK (.slice la L.length lc) L));clear HRL
  try simp only[Act.put]
  obtain⟨gR14,hg,hj⟩:=ST.out.new HJ.out (bc B (.slice la L.length lc)) 47;rw[←hg];generalize yy.alloc (.cells (bc B (.slice la L.length lc)) 47)=Y3 at hj ⊢;replace HJ:=O hj;replace ST:=O (ST.out.and (bS.row gR14 (bc B (.slice la L.length lc)) 47));clear hj hg
  go_wp2_with (first
   |(refine gS B.dom gR14 0 (.tmp 37) ?r1 (gM (HJ.out.2)) ?r2 ?r3 ?_;(case r1=>exact rfl);(case r2=>exact rfl);(case r3=>exact rfl))
   |(refine gS d.id w.heap.size 0 (.tmp 39) ?r1 (eT (HJ.out.1.1.2.1)) ?r2 ?r3 ?_;(case r1=>exact rfl);(case r2=>exact rfl);(case r3=>exact rfl))
   |(refine mh .eql 23 23 (.tmp 38) (.tmp 40) (.agg (am B.dom)) (.agg (am d.id)) (.bool false) ?r1 ?r2 ?r3 ?r4 (fun y=>xi _ _ _ _ y) heq ?_;(case r1=>exact rfl);(case r2=>exact rfl);(case r3=>exact rfl);(case r4=>exact rfl))
   |(refine gS B.pol gR14 20 (.tmp 43) ?r1 (lZ (HJ.out.2)) ?r2 ?r3 ?_;(case r1=>exact rfl);(case r2=>exact rfl);(case r3=>exact rfl))
   |(refine gS pol (w.heap.size+2) 0 (.tmp 8) ?r1 (l5 (HJ.out.1.1.2.2.2.1)) ?r2 ?r3 ?_;(case r1=>exact rfl);(case r2=>exact rfl);(case r3=>exact rfl))
   |(refine mh .neq 23 23 (.tmp 44) (.tmp 45) (.agg (am B.pol)) (.agg (am pol)) (.bool true) ?r1 ?r2 ?r3 ?r4 (fun y=>QY _ _ _ _ y) hnq ?_;(case r1=>exact rfl);(case r2=>exact rfl);(case r3=>exact rfl);(case r4=>exact rfl))
   |(refine pX 10 ?r1 (.const (.int .i64 10)) ?r2 ?r3 ?_;(case r2=>exact rfl);(case r1=>exact rfl);(case r3=>exact rfl))
   |(refine aM (T:=77) (mgC 0 ah ah 10) (ig _ _ _ _) ?r1 (.tmp 12) (.tmp 47) ?r2 (w.heap.size+3) zMG ?r3 ?r4 (jv _ _ _ _ _ _ _ _) (pN _ _ _ _) (HJ.out.1.1.2.2.2.2.1) ?_;(case r2=>exact rfl);(case r1=>exact rfl);(case r3=>exact rfl);(case r4=>exact rfl);intro w7 hge7 hoe7 hbe7;have HE7:Hid (w7.heap[w.heap.size+3]?=some (.cells (mgC 0 ah ah 10) 77 (0,0))∧Below w.heap.size w w7):=(O ⟨hge7,(HJ.out.1.1.1).trans (hbe7 _ (by omega))⟩);clear hge7 hoe7 hbe7))
  refine g_ (bB rfl _ _ (w.heap.size+3) _ rfl (rU _ _ _ _ _ _ _ HE7.out.1)) rfl ?_;exact⟨none,0,0,none,0,0,rfl,RdK.nil _,(ap.nil _ 0).rd,HE7.out.2⟩
 ·rw[hr]
  rw[hva] at HV;rw[hE] at HUL;have heq:=fun y=>oJ (ulB blob l).dom d.id y;rw[hd] at heq;have hnq:=fun y=>sO (ulB blob l).pol pol y;rw[hp] at hnq;simp only[Bool.not_true,Bool.not_false] at hnq;generalize ulB blob l=B at HUL heq hnq;generalize ulK blob l=L at HUL HKL ⊢;clear hva hr hE hd hp
  go_enter func29,ntmps29
  go_upto_region 1 with fail
  rw[←HW.out]
  try dsimp only[Act.put]
  go_upto_region 5 with (first
   |(refine cz d ?r1 (.tmp 6) ?r2 w.heap.size ?r3 _ (HJ.out.2.1) ?_;(case r2=>exact rfl);(case r1=>exact rfl);(case r3=>exact rfl))
   |(go_at_call 16;refine(HV.out _).mono ?_;rintro e yy ⟨rfl,hb⟩;replace HJ:=O (ST.out.on _ _ HJ.out hb);clear hb)
   |(go_at_call 22;refine(HUL.out _ (HJ.out.1) (HJ.out.2.2.2.2.2.2)).mono ?_;rintro e yy ⟨la,ln,lc,rfl,hrl,hb⟩;replace HJ:=O (ST.out.on _ _ HJ.out hb);have HRL:=O hrl;clear hrl;clear hb)
   |(refine aH (bc B (.slice la ln lc)) 47 ?r1 (.tmp 14) (.tmp 31) ?r2 yy.heap.size ?r3 ?r4 ?r5 (dX _ _) (iA _ _ _ _) (dl _ _ _ _) ?_;(case r2=>exact rfl);(case r1=>exact rfl);(case r3=>exact rfl);(case r4=>exact rfl);(case r5=>exact rfl)))
  obtain⟨la',lc',he',_,_,_⟩:=id HRL.out
  cases he'
  replace HJ:=O (And.intro HJ.out HRL.out);replace ST:=O (ST.out.and (bS.rdK (.slice la L.length lc) L));clear HRL
  try simp only[Act.put]
  obtain⟨gR14,hg,hj⟩:=ST.out.new HJ.out (bc B (.slice la L.length lc)) 47;rw[←hg];generalize yy.alloc (.cells (bc B (.slice la L.length lc)) 47)=Y4 at hj ⊢;replace HJ:=O hj;replace ST:=O (ST.out.and (bS.row gR14 (bc B (.slice la L.length lc)) 47));clear hj hg
  go_upto_region 12 with (first
   |(refine gS B.dom gR14 0 (.tmp 37) ?r1 (gM (HJ.out.2)) ?r2 ?r3 ?_;(case r1=>exact rfl);(case r2=>exact rfl);(case r3=>exact rfl))
   |(refine gS d.id w.heap.size 0 (.tmp 39) ?r1 (eT (HJ.out.1.1.2.1)) ?r2 ?r3 ?_;(case r1=>exact rfl);(case r2=>exact rfl);(case r3=>exact rfl))
   |(refine mh .eql 23 23 (.tmp 38) (.tmp 40) (.agg (am B.dom)) (.agg (am d.id)) (.bool false) ?r1 ?r2 ?r3 ?r4 (fun y=>xi _ _ _ _ y) heq ?_;(case r1=>exact rfl);(case r2=>exact rfl);(case r3=>exact rfl);(case r4=>exact rfl))
   |(refine gS B.pol gR14 20 (.tmp 43) ?r1 (lZ (HJ.out.2)) ?r2 ?r3 ?_;(case r1=>exact rfl);(case r2=>exact rfl);(case r3=>exact rfl))
   |(refine gS pol (w.heap.size+2) 0 (.tmp 8) ?r1 (l5 (HJ.out.1.1.2.2.2.1)) ?r2 ?r3 ?_;(case r1=>exact rfl);(case r2=>exact rfl);(case r3=>exact rfl))
   |(refine mh .neq 23 23 (.tmp 44) (.tmp 45) (.agg (am B.pol)) (.agg (am pol)) (.bool false) ?r1 ?r2 ?r3 ?r4 (fun y=>QY _ _ _ _ y) hnq ?_;(case r1=>exact rfl);(case r2=>exact rfl);(case r3=>exact rfl);(case r4=>exact rfl))
   |(refine dw nx (.slice ta tl.length tc) ?r1 (.tmp 7) ?r2 (w.heap.size+1) ?r3 _ (HJ.out.1.1.2.2.1) ?_;(case r2=>exact rfl);(case r1=>exact rfl);(case r3=>exact rfl))
   |(refine NC nx ta tl.length tc ?r1 (.tmp 48) ?r2 ?r3 ?_;(case r2=>exact rfl);(case r1=>exact rfl);(case r3=>exact rfl))
   |(refine aH (mgC nx (.slice ta tl.length tc) ah 0) 77 ?r1 (.tmp 16) (.tmp 49) ?r2 Y4.heap.size ?r3 ?r4 ?r5 (ig _ _ _ _) (pN _ _ _ _) (jv _ _ _ _ _ _ _ _) ?_;(case r2=>exact rfl);(case r1=>exact rfl);(case r3=>exact rfl);(case r4=>exact rfl);(case r5=>exact rfl)))
  clear heq hnq
  try simp only[Act.put]
  have HM0:Hid (MR w d gR14 B (.slice la L.length lc) L (Y4.alloc (.cells (mgC nx (.slice ta tl.length tc) ah 0) 77))):=O (MR.on ⟨(HJ.out.1.1.1),(HJ.out.1.1.2.2.2.2.1),(HJ.out.2),(HJ.out.1.2)⟩ ((O_ Y4.heap.size Y4).alloc (A_ _) _));have HG16:=O (heap_alloc_new Y4 (.cells (mgC nx (.slice ta tl.length tc) ah 0) 77));have HT0:=O ((HJ.out.1.1.2.2.2.2.2.1).alloc (.cells (mgC nx (.slice ta tl.length tc) ah 0) 77));have H3:Hid (w.heap.size+3<Y4.heap.size∧gR14<Y4.heap.size):=O ⟨(Q_.1 (HJ.out.1.1.2.2.2.2.1)).1,(Q_.1 (HJ.out.2)).1⟩;obtain⟨g16,hg⟩:∃g,g=Y4.heap.size:=⟨_,rfl⟩;rw[←hg] at HG16 H3 ⊢;generalize Y4.alloc (.cells (mgC nx (.slice ta tl.length tc) ah 0) 77)=W5 at HM0 HG16 HT0 ⊢;clear hg HJ ST;have H16:Hid (g16<W5.heap.size):=O (Q_.1 HG16.out).1;go_wp2
  have hli:(L.length:Int)≤4096:=by have := HKL.out;omega
  go_loopw [17] (fun o wr=>∃(k:Nat) (m:MG) (ua:Option Addr) (uc:Nat) (ia:Option Addr) (ic:Nat),k≤L.length∧o = .int .i64 k∧Hid (m.e=0∧m.tl.length≤4096∧m.ids.length≤k)∧Hid (gw now ⟨nx,tl,[],0⟩ L=gw now m (L.drop k))∧Hid (LR w d gR14 g16 W5.heap.size B (.slice la L.length lc) L m ua uc ia ic wr)) (fun o _=>L.length-(intOf o).toNat)
  case atStart=>exact⟨0,⟨nx,tl,[],0⟩,ta,tc,none,0,N_ _,rfl,O ⟨rfl,HTL.out,A_ _⟩,O (by rw[L_]),O ⟨HM0.out,HG16.out,HT0.out,ap.nil _ _,A_ _⟩⟩
  case round =>
   obtain⟨k,m,ua,uc,ia,ic,hk,rfl,hm,hrun,hlr⟩:=hrel;have c37:=(e_ _ _ 37 _ _ _ hlr.out.mr.r14).trans (iU _ _)
   by_cases hlt:k<L.length
   ·have k1 : (k : Int) < L.length := by omega
    have HKLT:=O hlt;obtain⟨b3,off3,rfl,hrng⟩:=hlr.out.mr.lk.rng (by omega);have HR:=O (hrng k hlt);have HB3:Hid (b3<W5.heap.size):=O (HM0.out.lk.blk (by omega));have HRD:=O (Bu now m _ L k hlt hrun.out hm.out.1);generalize ae L k=x at HR HRD;clear hrng hlt hk hrun
    go_upto_region 16 with (first
     |(refine E4 x b3 (off3+k*9) (.tmp 60) ?r1 HR.out ?r2 ?r3 ?_;(case r1=>exact rfl);(case r2=>exact rfl);(case r3=>exact rfl))
     |(refine aH (kc x) 86 ?r1 (.tmp 18) (.tmp 61) ?r2 wr.heap.size ?r3 ?r4 ?r5 (nO _) (VZ _) (jR _) ?_;(case r2=>exact rfl);(case r1=>exact rfl);(case r3=>exact rfl);(case r4=>exact rfl);(case r5=>exact rfl)))
    try simp only[Act.put]
    have HLRW:Hid (∀y,Below wr.heap.size wr y→LR w d gR14 g16 W5.heap.size B (.slice (some ⟨b3,off3,none⟩) L.length lc) L m ua uc ia ic y):=O (fun y hy=>hlr.out.on hy);have HB9:Hid (Below wr.heap.size wr (wr.alloc (.cells (kc x) 86))):=O ((O_ wr.heap.size wr).alloc (A_ _) _);have HG9:=O (heap_alloc_new wr (.cells (kc x) 86));have HOWL:Hid (∀q,(Value.slice ia m.ids.length ic).ownBlock=some q→q<wr.heap.size):=O (fun q hq=>(hlr.out.ow.lt q hq).2);have HSZ:Hid (W5.heap.size≤wr.heap.size):=O hlr.out.sz;obtain⟨g9,hg9⟩:∃g9,g9=wr.heap.size:=⟨_,rfl⟩;rw[←hg9] at HG9 ⊢;have HGE:Hid (wr.heap.size≤g9):=O (Nat.le_of_eq hg9.symm);generalize wr.alloc (.cells (kc x) 86)=w9 at HB9 HG9 ⊢;clear hlr HR c37 hg9;have hlv:=fun (u:World)=>E7 x now u;unfold kv at hlv;have HLV:=O hlv;clear hlv;have HHD:=O (fun (u:World) (h:RdK u (.slice ua m.tl.length uc) m.tl)=>So m.nx (.slice ua m.tl.length uc) m.tl x u h)
    go_upto_region 18 with (first
     |(refine dY x g9 _ HG9.out ?r1 (.tmp 18) ?r2 ?r3 ?_;(case r2=>exact rfl);(case r1=>exact rfl);(case r3=>exact rfl))
     |(go_at_call 31;refine(HLV.out _).mono ?_;rintro e y1 ⟨rfl,hb⟩;replace HB9:=O (HB9.out.trans (hb.mono HB9.out.size));replace HG9:=O (aa HG9.out hb);clear hb)
     |(refine Di m.nx (.slice ua m.tl.length uc) g16 (.tmp 65) ?r1 (Dz (HLRW.out _ HB9.out).r16) ?r2 ?r3 ?_;(case r1=>exact rfl);(case r2=>exact rfl);(case r3=>exact rfl))
     |(go_at_call 62;refine(HHD.out _ (HLRW.out _ HB9.out).tk).mono ?_;rintro e y2 ⟨rfl,hb⟩;replace HB9:=O (HB9.out.trans (hb.mono HB9.out.size));replace HG9:=O (aa HG9.out hb);clear hb))
    clear HLV HHD
    cases hlv:dW now x with
    | false =>
      have HRD1:=O (HRD.out.1 (by unfold lr;rw[hlv];rfl));clear hlv HRD;go_wp2;go_roundw
      case rel=>exact⟨k+1,m,ua,uc,ia,ic,HKLT.out,by go_num,O ⟨hm.out.1,hm.out.2.1,Nat.le_succ_of_le hm.out.2.2⟩,HRD1,O (HLRW.out _ HB9.out)⟩
      case measure=>have := HKLT.out;simp[intOf];omega
    | true =>
      cases hh:bI m.tl x with
      | true =>
        have HRD1:=O (HRD.out.1 (by unfold lr;rw[hh];simp));clear hlv hh HRD;go_wp2;go_roundw
        case rel=>exact⟨k+1,m,ua,uc,ia,ic,HKLT.out,by go_num,O ⟨hm.out.1,hm.out.2.1,Nat.le_succ_of_le hm.out.2.2⟩,HRD1,O (HLRW.out _ HB9.out)⟩
        case measure=>have := HKLT.out;simp[intOf];omega
      | false =>
        have hsk:lr now m.tl x=false:=by unfold lr;rw[hlv,hh];rfl
        have HRD2:=O (HRD.out.2.1 hsk);have HRD3:=O (HRD.out.2.2 hsk);clear hlv hh hsk HRD;have HWP:Hid ((aU x 0).par=0):=O rfl;have HS7:=O (Hk y2 g9 7 x (aU x 0) 0 _ HG9.out (by decide) (SA x 0))
        go_upto_region 20 with (refine bW rfl 3 (.tmp 74) _ rfl ⟨g9,7,none⟩ (.int .i64 0) rfl rfl HS7.out ?_)
        try simp only[Act.put]
        have HBA:Hid (Below wr.heap.size wr (y2.setRow g9 (kc (aU x 0)))):=O (HB9.out.trans (aK HGE.out));have HGA:=O (setRow_heap _ _ _ (kc (aU x 0)) _ _ HG9.out);generalize y2.setRow g9 (kc (aU x 0))=y3 at HBA HGA ⊢;clear HS7 HB9 HG9;generalize aU x 0=xp at HGA HRD2 HRD3 HWP ⊢;generalize hax:bL m.nx m.tl xp=ax at HRD2 HRD3;have HML:=O hm.out.2.1
        by_cases h0:ax=0
        case neg =>
         have HRDN:=O (HRD3.out h0);have HAD:=O (fun (u:World) (h:RdK u (.slice ua m.tl.length uc) m.tl)=>Rv m.nx _ m.tl xp u h (by rw[hax];exact h0));rw[hax] at HAD
         have e1:(ax == 0)=false:=by rw[U_];exact h0
         clear hax HRD2 HRD3 h0
         go_upto_region 21 with (first
          |(refine Di m.nx (.slice ua m.tl.length uc) g16 (.tmp 75) ?r1 (Dz (HLRW.out _ HBA.out).r16) ?r2 ?r3 ?_;(case r1=>exact rfl);(case r2=>exact rfl);(case r3=>exact rfl))
          |(refine dY xp g9 _ HGA.out ?r1 (.tmp 18) ?r2 ?r3 ?_;(case r2=>exact rfl);(case r1=>exact rfl);(case r3=>exact rfl))
          |(go_at_call 63;refine(HAD.out _ (HLRW.out _ HBA.out).tk).mono ?_;rintro e y4 ⟨rfl,hb⟩;replace HBA:=O (HBA.out.trans (hb.mono HBA.out.size));clear hb)
          |(refine aH (ac 0 ah 0 ax) 125 ?r1 (.tmp 21) (.tmp 78) ?r2 y4.heap.size ?r3 ?r4 ?r5 (ER _ _ _ _) (Qu _ _ _ _ _ _ _ _) (Is _ _ _ _ _ _) ?_;(case r2=>exact rfl);(case r1=>exact rfl);(case r3=>exact rfl);(case r4=>exact rfl);(case r5=>exact rfl)))
         try simp only[Act.put]
         have HBB:Hid (Below wr.heap.size wr (y4.alloc (.cells (ac 0 ah 0 ax) 125))):=O (HBA.out.trans (((O_ y4.heap.size y4).alloc (A_ _) _).mono HBA.out.size));have c3:=(e_ _ _ 3 _ _ _ (heap_alloc_new y4 (.cells (ac 0 ah 0 ax) 125))).trans (UY _ _ _ _);obtain⟨g21,hg⟩:∃g,g=y4.heap.size:=⟨_,rfl⟩;rw[←hg] at c3 ⊢;clear hg;generalize y4.alloc (.cells (ac 0 ah 0 ax) 125)=y5 at HBB c3 ⊢;have HMR:=O (HLRW.out _ HBB.out).mr;clear HGA HBA HAD HLRW HBB
         go_wp2_with (first
          |(refine pX ax ?r1 (.tmp 83) ?r2 ?r3 ?_;(case r2=>exact rfl);(case r1=>exact rfl);(case r3=>exact rfl))
          |(refine aM (T:=77) (mgC 0 ah ah ax) (ig _ _ _ _) ?r1 (.tmp 12) (.tmp 84) ?r2 (w.heap.size+3) zMG ?r3 ?r4 (jv _ _ _ _ _ _ _ _) (pN _ _ _ _) HMR.out.r3 ?_;(case r2=>exact rfl);(case r1=>exact rfl);(case r3=>exact rfl);(case r4=>exact rfl);intro w7 hge7 hoe7 hbe7;have HE7:Hid (w7.heap[w.heap.size+3]?=some (.cells (mgC 0 ah ah ax) 77 (0,0))∧Below w.heap.size w w7):=(O ⟨hge7,HMR.out.bw.trans (hbe7 _ (by omega))⟩);clear hge7 hoe7 hbe7))
         refine g_ (bB rfl _ _ (w.heap.size+3) _ rfl (rU _ _ _ _ _ _ _ HE7.out.1)) rfl ?_;rw[HRDN.out];exact⟨none,0,0,none,0,0,rfl,RdK.nil _,(ap.nil _ 0).rd,HE7.out.2⟩
        subst h0;have HRDN:=O (HRD2.out rfl);have HLTA:=O (wM hax);have HAD:=O (fun (u:World) (h:RdK u (.slice ua m.tl.length uc) m.tl)=>Ry m.nx _ m.tl xp u h hax HWP.out (by have := HML.out;omega));clear hax HRD2 HRD3;generalize hnl:m.tl++[aW xp m.nx]=nl at HAD HRDN;have HNL:Hid (nl.length=m.tl.length+1):=O (by rw[←hnl];simp);clear hnl
        go_upto_region 21 with (first
         |(refine Di m.nx (.slice ua m.tl.length uc) g16 (.tmp 75) ?r1 (Dz (HLRW.out _ HBA.out).r16) ?r2 ?r3 ?_;(case r1=>exact rfl);(case r2=>exact rfl);(case r3=>exact rfl))
         |(refine dY xp g9 _ HGA.out ?r1 (.tmp 18) ?r2 ?r3 ?_;(case r2=>exact rfl);(case r1=>exact rfl);(case r3=>exact rfl))
         |(go_at_call 63;refine(HAD.out _ (HLRW.out _ HBA.out).tk).mono ?_;rintro e y4 ⟨va,vc,rfl,hr4,hb,hva⟩;have HVA:Hid (∀b,va=some b→wr.heap.size≤b.block):=(O (fun b hb2=>M_ HBA.out.size (hva b hb2)));replace HBA:=O (HBA.out.trans (hb.mono HBA.out.size));have HR4:=O hr4;clear hb hr4 hva)
         |(refine aH (ac (m.nx+1) (.slice va nl.length vc) m.nx 0) 125 ?r1 (.tmp 21) (.tmp 78) ?r2 y4.heap.size ?r3 ?r4 ?r5 (ER _ _ _ _) (Qu _ _ _ _ _ _ _ _) (Is _ _ _ _ _ _) ?_;(case r2=>exact rfl);(case r1=>exact rfl);(case r3=>exact rfl);(case r4=>exact rfl);(case r5=>exact rfl)))
        try simp only[Act.put]
        have HBB:Hid (Below wr.heap.size wr (y4.alloc (.cells (ac (m.nx+1) (.slice va nl.length vc) m.nx 0) 125))):=O (HBA.out.trans (((O_ y4.heap.size y4).alloc (A_ _) _).mono HBA.out.size));have HG21:=O (heap_alloc_new y4 (.cells (ac (m.nx+1) (.slice va nl.length vc) m.nx 0) 125));have HR5:=O (HR4.out.alloc (.cells (ac (m.nx+1) (.slice va nl.length vc) m.nx 0) 125));obtain⟨g21,hg⟩:∃g,g=y4.heap.size:=⟨_,rfl⟩;rw[←hg] at HG21 ⊢;clear hg;generalize y4.alloc (.cells (ac (m.nx+1) (.slice va nl.length vc) m.nx 0) 125)=y5 at HBB HG21 HR5 ⊢;clear HGA HBA HAD HR4;have c3:=(e_ _ _ 3 _ _ _ HG21.out).trans (UY _ _ _ _)
        go_upto_region 23 with fail
        clear c3;have HLR5:=O (HLRW.out _ HBB.out);clear HLRW;refine zu (fun y=>y.heap[g21]?=some (.cells (ac (m.nx+1) (.slice va nl.length vc) m.nx 0) 125 (0,0))) [0,1,2,4,5] 3 6 [7,8,9] ?h1 ?h2 ?h3 ?h4 ?h5
        case h1=>intro c a d v w h;cases d <;> exact h
        case h2=>kernel_rfl
        case h3=>kernel_rfl
        case h4=>exact HG21.out
        case h5 =>
         simp only[cT,List.filterMap_cons,List.filterMap_nil,List.getElem?_toArray,List.getElem?_cons_succ,List.getElem?_cons_zero];refine⟨_,aR (.pointer (some ⟨g21,0,none⟩)) rfl (fun y hy=>by kernel_rfl),?_⟩;simp only[Act.put,B_,C_,D_];refine⟨_,Ub (m.nx+1) (.slice va nl.length vc) g21 (.tmp 85) rfl rfl rfl (fun y hy=>Ts hy),?_⟩;simp only[Act.put,B_,C_,D_];refine⟨_,aR (.pointer (some ⟨g16,2,none⟩)) rfl (fun y hy=>by kernel_rfl),?_⟩;simp only[Act.put,B_,C_,D_];refine⟨_,aR (.pointer (some ⟨g21,2,none⟩)) rfl (fun y hy=>by kernel_rfl),?_⟩;simp only[Act.put,B_,C_,D_];refine⟨_,gC (.int .i64 m.nx) ⟨g21,2,none⟩ 3 (.tmp 89) rfl rfl rfl (fun y hy=>ff y _ _ ((e_ _ _ _ _ _ _ hy).trans (Ya _ _ _ _))),?_⟩;simp only[Act.put,B_,C_,D_];have HLR6:=O (HLR5.out.on (O_ _ _).drew);have HR6:=O (HR5.out.on (O_ _ _).drew);have HG6:=O (aa HG21.out (O_ _ _).drew);have HBS:Hid (wr.heap.size≤y5.drew.heap.size):=O HBB.out.size;generalize y5.drew=y6 at HLR6 HR6 HG6 HBS ⊢;clear HLR5 HR5 HG21 HBB;have HIL:Hid (m.ids.length≤4096):=O (by have := hm.out.2.2;have := HKLT.out;have := HKL.out;omega);have HA7:Hid (Below y6.heap.size y6 (y6.alloc (.cells #[.int .i64 m.nx] 3))):=O ((O_ _ _).alloc (A_ _) _);have c2:y6.cell? ⟨g16,2,none⟩=some (.slice ia m.ids.length ic):=(e_ _ _ _ _ _ _ HLR6.out.r16).trans (V8 _ _ _ _);have c2b:(y6.alloc (.cells #[.int .i64 m.nx] 3)).cell? ⟨g16,2,none⟩=some (.slice ia m.ids.length ic):=(e_ _ _ _ _ _ _ (aa HLR6.out.r16 HA7.out)).trans (V8 _ _ _ _);have HGA7:=O (aa HG6.out HA7.out);have HLR7:=O (HLR6.out.on HA7.out);have HR7:=O (HR6.out.on HA7.out);have HRN:=O (bP y6 m.nx iB);have HSZ7:Hid (W5.heap.size≤(y6.alloc (.cells #[.int .i64 m.nx] 3)).heap.size):=O HLR7.out.sz;have HRS:=O (HRDN.out);refine⟨?ta,?tb⟩
         case ta =>
          intro Q0 HQ0;go_wp2;refine HQ0.out _ _ HG6.out ?_;clear HQ0
          try simp only[Act.put,B_,C_,D_]
          intro Q1 HQ1;go_wp2;refine HQ1.out _ _ HGA7.out ?_;clear HQ1
          try simp only[Act.put,B_,C_,D_]
          clear c2 c2b;generalize y6.alloc (.cells #[.int .i64 m.nx] 3)=y7 at HLR7 HR7 HRN HGA7 HSZ7 ⊢;intro Q3 HQ3
          go_wp2_with (at_builtin;refine br iB rfl (.tmp 88) (.tmp 91) rfl W5.heap.size _ _ rfl HLR7.out.ow (.slice (some ⟨y6.heap.size,0,none⟩) 1 1) [m.nx] rfl HRN.out (by have := HIL.out;simp;omega) HSZ7.out ?_;intro v8 y8 ho8 hg8 hl8;have HO8:=O ho8;have HGR:=O hg8;clear ho8 hg8 hl8)
          have HQB:Hid (∀q,(Value.slice ia m.ids.length ic).ownBlock=some q→W5.heap.size≤q):=O (fun q hq=>(HLR7.out.ow.lt q hq).1);have HM8:=O (HLR7.out.mr.grown HGR.out HQB.out (by have := H3.out;have := H16.out;omega) (by have := H3.out;have := H16.out;omega) (by have := H3.out;have := H16.out;omega) (fun p hp=>by cases hp;exact HB3.out) HSZ7.out);have HB8:Hid (Below W5.heap.size y7 y8):=O (mW HGR.out HSZ7.out HQB.out);have HR16:=O ((HB8.out.block _ H16.out).trans HLR7.out.r16);have HG8:Hid (y8.heap[g21]?=some (.cells (ac (m.nx+1) (.slice va nl.length vc) m.nx 0) 125 (0,0))):=O ((fJ HGR.out (Q_.1 HGA7.out).1 (fun q hq e=>HLR7.out.ow.neType HGA7.out (by decide) (e ▸ hq))).trans HGA7.out);have HR8:=O (HR7.out.grownB HGR.out (fun b hb q hq=>by have h1:=HVA.out b hb;have h2:=HOWL.out q hq;omega));obtain⟨xa,xc,rfl⟩:=HO8.out.rd.form;refine HQ3.out _ _ HG8.out ?_;clear HQ3 HLR7 HR7 HGA7 HGR
          try simp only[Act.put,B_,C_,D_]
          intro Q4 HQ4;refine Ei (m.nx+1) va xa nl.length vc (m.ids++[m.nx]).length xc rfl _ _ rfl rfl rfl ?_;refine HQ4.out _ _ HG8.out ?_;clear HQ4
          try simp only[Act.put,B_,C_,D_]
          intro Q5 HQ5;refine aM (T:=77) (mgC (m.nx+1) (.slice va nl.length vc) (.slice xa (m.ids++[m.nx]).length xc) 0) (ig _ _ _ _) rfl (.tmp 16) (.tmp 93) rfl g16 (mgC m.nx (.slice ua m.tl.length uc) (.slice ia m.ids.length ic) 0) rfl rfl (jv _ _ _ _ _ _ _ _) (Kz _ _ _ _ _ _ _ _) HR16.out ?_;intro w7 hge7 hoe7 hbe7;have HLRN:Hid (LR w d gR14 g16 W5.heap.size B (.slice (some ⟨b3,off3,none⟩) L.length lc) L ⟨m.nx+1,nl,m.ids++[m.nx],0⟩ va vc xa xc w7):=O ⟨HM8.out.set HR16.out (ze _ _ _ _ _ _ _ _) H3.out.1 H3.out.2 hoe7 hbe7,hge7,HR8.out.nb HR16.out (ze _ _ _ _ _ _ _ _) hoe7 (hbe7 0 (N_ _)).size,HO8.out.but (HO8.out.neOld H16.out) hoe7,M_ (M_ HSZ7.out HB8.out.size) (hbe7 0 (N_ _)).size⟩;refine HQ5.out _ _ ((hoe7 _ (fun e=>by have h1:=(Q_.1 HG8.out).1;subst e;rw[HR16.out] at HG8;exact absurd (Option.some.inj HG8.out) (by intro h;injection h with _ h2;exact absurd h2 (by decide)))).trans HG8.out) ?_;clear HQ5 hge7 hoe7 hbe7
          try simp only[Act.put,B_,C_,D_]
          refine el ?_;go_wp2;go_roundw
          case rel=>exact⟨k+1,⟨m.nx+1,nl,m.ids++[m.nx],0⟩,va,vc,xa,xc,HKLT.out,by go_num,O ⟨rfl,by show nl.length≤4096;have := HNL.out;have := HLTA.out;omega,by show (m.ids++[m.nx]).length≤k+1;have := hm.out.2.2;simp;omega⟩,HRS,HLRN⟩
          case measure=>have := HKLT.out;simp[intOf];omega
         case tb =>
          intro Q0 HQ0;go_wp2;refine HQ0.out _ _ HGA7.out ?_;clear HQ0
          try simp only[Act.put,B_,C_,D_]
          intro Q1 HQ1;go_wp2;refine HQ1.out _ _ HGA7.out ?_;clear HQ1
          try simp only[Act.put,B_,C_,D_]
          clear c2 c2b;generalize y6.alloc (.cells #[.int .i64 m.nx] 3)=y7 at HLR7 HR7 HRN HGA7 HSZ7 ⊢;intro Q3 HQ3
          go_wp2_with (at_builtin;refine br iB rfl (.tmp 88) (.tmp 91) rfl W5.heap.size _ _ rfl HLR7.out.ow (.slice (some ⟨y6.heap.size,0,none⟩) 1 1) [m.nx] rfl HRN.out (by have := HIL.out;simp;omega) HSZ7.out ?_;intro v8 y8 ho8 hg8 hl8;have HO8:=O ho8;have HGR:=O hg8;clear ho8 hg8 hl8)
          have HQB:Hid (∀q,(Value.slice ia m.ids.length ic).ownBlock=some q→W5.heap.size≤q):=O (fun q hq=>(HLR7.out.ow.lt q hq).1);have HM8:=O (HLR7.out.mr.grown HGR.out HQB.out (by have := H3.out;have := H16.out;omega) (by have := H3.out;have := H16.out;omega) (by have := H3.out;have := H16.out;omega) (fun p hp=>by cases hp;exact HB3.out) HSZ7.out);have HB8:Hid (Below W5.heap.size y7 y8):=O (mW HGR.out HSZ7.out HQB.out);have HR16:=O ((HB8.out.block _ H16.out).trans HLR7.out.r16);have HG8:Hid (y8.heap[g21]?=some (.cells (ac (m.nx+1) (.slice va nl.length vc) m.nx 0) 125 (0,0))):=O ((fJ HGR.out (Q_.1 HGA7.out).1 (fun q hq e=>HLR7.out.ow.neType HGA7.out (by decide) (e ▸ hq))).trans HGA7.out);have HR8:=O (HR7.out.grownB HGR.out (fun b hb q hq=>by have h1:=HVA.out b hb;have h2:=HOWL.out q hq;omega));obtain⟨xa,xc,rfl⟩:=HO8.out.rd.form;refine HQ3.out _ _ HG8.out ?_;clear HQ3 HLR7 HR7 HGA7 HGR
          try simp only[Act.put,B_,C_,D_]
          intro Q4 HQ4;refine Ei (m.nx+1) va xa nl.length vc (m.ids++[m.nx]).length xc rfl _ _ rfl rfl rfl ?_;refine HQ4.out _ _ HG8.out ?_;clear HQ4
          try simp only[Act.put,B_,C_,D_]
          intro Q5 HQ5;refine aM (T:=77) (mgC (m.nx+1) (.slice va nl.length vc) (.slice xa (m.ids++[m.nx]).length xc) 0) (ig _ _ _ _) rfl (.tmp 16) (.tmp 93) rfl g16 (mgC m.nx (.slice ua m.tl.length uc) (.slice ia m.ids.length ic) 0) rfl rfl (jv _ _ _ _ _ _ _ _) (Kz _ _ _ _ _ _ _ _) HR16.out ?_;intro w7 hge7 hoe7 hbe7;have HLRN:Hid (LR w d gR14 g16 W5.heap.size B (.slice (some ⟨b3,off3,none⟩) L.length lc) L ⟨m.nx+1,nl,m.ids++[m.nx],0⟩ va vc xa xc w7):=O ⟨HM8.out.set HR16.out (ze _ _ _ _ _ _ _ _) H3.out.1 H3.out.2 hoe7 hbe7,hge7,HR8.out.nb HR16.out (ze _ _ _ _ _ _ _ _) hoe7 (hbe7 0 (N_ _)).size,HO8.out.but (HO8.out.neOld H16.out) hoe7,M_ (M_ HSZ7.out HB8.out.size) (hbe7 0 (N_ _)).size⟩;refine HQ5.out _ _ ((hoe7 _ (fun e=>by have h1:=(Q_.1 HG8.out).1;subst e;rw[HR16.out] at HG8;exact absurd (Option.some.inj HG8.out) (by intro h;injection h with _ h2;exact absurd h2 (by decide)))).trans HG8.out) ?_;clear HQ5 hge7 hoe7 hbe7
          try simp only[Act.put,B_,C_,D_]
          refine el ?_;go_wp2;go_roundw
          case rel=>exact⟨k+1,⟨m.nx+1,nl,m.ids++[m.nx],0⟩,va,vc,xa,xc,HKLT.out,by go_num,O ⟨rfl,by show nl.length≤4096;have := HNL.out;have := HLTA.out;omega,by show (m.ids++[m.nx]).length≤k+1;have := hm.out.2.2;simp;omega⟩,HRS,HLRN⟩
          case measure=>have := HKLT.out;simp[intOf];omega
   ·have k1:¬(k:Int)<L.length:=by omega
    have HE:Hid (gw now ⟨nx,tl,[],0⟩ L=m):=O (by rw[hrun.out,List.drop_of_length_le (by omega)];rfl);clear hlt hk;have HE0:=O hm.out.1
    go_wp2_with (first
     |(refine V5 m.nx (.slice ua m.tl.length uc) (.slice ia m.ids.length ic) 0 ?r1 (.tmp 16) ?r2 g16 ?r3 _ hlr.out.r16 ?_;(case r2=>exact rfl);(case r1=>exact rfl);(case r3=>exact rfl))
     |(refine aM (T:=77) (mgC m.nx (.slice ua m.tl.length uc) (.slice ia m.ids.length ic) 0) (ig _ _ _ _) ?r1 (.tmp 12) (.tmp 94) ?r2 (w.heap.size+3) zMG ?r3 ?r4 (jv _ _ _ _ _ _ _ _) (pN _ _ _ _) hlr.out.mr.r3 ?_;(case r2=>exact rfl);(case r1=>exact rfl);(case r3=>exact rfl);(case r4=>exact rfl);intro w7 hge7 hoe7 hbe7;have HE7:Hid (w7.heap[w.heap.size+3]?=some (.cells (mgC m.nx (.slice ua m.tl.length uc) (.slice ia m.ids.length ic) 0) 77 (0,0))∧Below w.heap.size w w7):=(O ⟨hge7,hlr.out.mr.bw.trans (hbe7 _ (by omega))⟩);have HT7:=O (hlr.out.tk.nb hlr.out.mr.r3 OM hoe7 (hbe7 0 (N_ _)).size);have HO7:=O (hlr.out.ow.but (hlr.out.ow.neOld (by have := H3.out;have := H16.out;omega)) hoe7);clear hge7 hoe7 hbe7))
    refine g_ (bB rfl _ _ (w.heap.size+3) _ rfl (rU _ _ _ _ _ _ _ HE7.out.1)) rfl ?_;rw[HE.out];exact⟨ua,m.tl.length,uc,ia,m.ids.length,ic,by rw[HE0.out],HT7.out,HO7.out.rd,HE7.out.2⟩
end
end
end Go.Proofs.YtmfiaadjdbemnaaGreatDoor
