/- Contracts and lemmas. No condition. -/
import Derived.Test.YtmfiaadjdbemnaaGreatDoorLSm06
import Derived.Test.YtmfiaadjdbemnaaGreatDoorLSm05
set_option linter.unusedSimpArgs false
set_option linter.unusedVariables false
namespace Go.Proofs.YtmfiaadjdbemnaaGreatDoor
open Go.Proofs.Tryz
section
open Go.RowKit
theorem AX {nx:Int} {l:List K} {b:BK} {m:List K} (h:oC nx l b m=true):l.length≤12:=by
 unfold oC at h;simp only[T_,decide_eq_true_eq] at h;exact h.1
open Go.RowKit
def eK:El K:=⟨86,43,9,fun k=>(kc k).toList⟩
theorem AN:eK.OK:=⟨underlying43,by kernel_rfl,fun x=>rfl,fun x u hu=>by
 have h:=jR x;rw[Array.all_eq_true_iff_forall_mem] at h;have hu2:u∈(kc x).toList:=hu
 exact h u (by simpa using hu2),by decide⟩
theorem Lg {w:World} {v:Value} {l:List K} (h:RdE eK w v l):RdK w v l:=by
 obtain⟨a,cap,rfl,h1,h2,h3⟩:=h;refine⟨a,cap,rfl,h1,h2,fun h0 => ?_⟩;obtain⟨b,off,rfl,hb,hc⟩:=h3 h0;refine⟨b,off,rfl,hb,fun j hj i hi => ?_⟩;have hl:(eK.cf (ae l j)).length=9:=rfl;have e:=El.flat_at AN l j i hj hi
 have e2:(eK.cf l[j])[i]? = (kc (ae l j))[i]? := by rw[az l j hj];show (kc l[j]).toList[i]? = _;simp
 have h9:i<(kc (ae l j)).size:=hi;rw[e2,Array.getElem?_eq_getElem h9] at e;have := hc (j*9+i) _ e;rw[Array.getElem?_eq_getElem h9,←this]
 congr 2
 omega
theorem Fi {w:World} {k:K} {T:TypeId} {g:Nat} (h:w.heap[g]?=some (.cells (kc k) T (0,0))):RdE eK w (.slice (some ⟨g,0,none⟩) 1 1) [k]:=by
 refine⟨_,1,rfl,A_ _,by unfold maxLen;decide,fun _=>⟨g,0,rfl,(Q_.1 h).1,fun j u hj => ?_⟩⟩;rw[e_ _ _ _ _ _ _ h,a_]
 have : (eK.flat [k])=(kc k).toList:=by simp[El.flat,eK]
 rw[this] at hj
 simpa using hj
theorem Kf (k:K):kEq k k=true:=by unfold kEq;simp
theorem SU (k:K) (w:World):(binOp .neq 86 (.agg (kc k)) (.agg (kc k))).run prog w = .ok (.bool false) w:=by rw[Fa,Kf];rfl
theorem YW (m n:Tmp) (x y:Array Value) (w:World):(eqGuard .neq 86 (.tmp m) (.tmp n) (.agg x) (.agg y)).run prog w = .ok () w:=by kernel_rfl
theorem Rt {o:Oper} {a:Act} {S:World→Prop} {ops:Array Oper} (k:K) (g off:Nat) (x:Operand) (hw:Region.wanted o (yielded ops a.tmps)=true) (ho:o.op = .load 86 x) (hx:a.eval x = .pointer (some ⟨g,off,none⟩)) (hr:∀w,S w→w.rangeAt g off (kc k).toList):YieldsIf prog ops S o (.agg (kc k)) a:=by
 refine .inl ⟨hw,fun w hS => ?_⟩;unfold execOp;simp only[ho,hx,Instr.loadAt,Instr.sureAddr,Sem.run_bind,Sem.run_pure,Result.andThen_ok,run_loadVar_mid w g off _ (kc k).toList _ (hr w hS) underlying86 rfl kZ]
theorem Tp {w:World} {g:Nat} {k:K} {T:TypeId} (h:w.heap[g]?=some (.cells (kc k) T (0,0))):w.rangeAt g 0 (kc k).toList:=fun i x hx=>by
 rw[e_ _ _ _ _ _ _ h,a_]
 simpa using hx
theorem Tn (nx:Int) (vt:Value) (d:DO) (vs:Value) (x:List UInt8) (vg:Value):(ptA nx vt d vs x vg)[0]?=some (.int .i64 nx):=rfl
theorem ye {w:World} {g:Nat} {nx:Int} {vt vs vg:Value} {d:DO} {x:List UInt8} {T:TypeId} (h:w.heap[g]?=some (.cells (ptA nx vt d vs x vg) T (0,0))):w.rangeAt g 2 (am d.id).toList:=fun i u hu=>by
 rw[e_ _ _ _ _ _ _ h];have h2:=uL d i u hu;unfold doA at h2;rw[List.getElem?_toArray] at h2;have hi:i<(dmc d).length:=(d_.1 h2).1;unfold ptA;rw[List.getElem?_toArray,show 2+i=i+1+1 by omega,List.getElem?_cons_succ,List.getElem?_cons_succ,List.getElem?_append_left hi];exact h2
theorem Tm (nx:Int) (vt:Value) (d:DO) (vs:Value) (x:List UInt8) (vg:Value):zPA.size=(ptA nx vt d vs x vg).size:=by rw[fL,nD]
theorem UV (k:K) (n p:Int):aU (aW k n) p=aW (aU k p) n:=rfl
theorem zw {l:List K} {i bb off tc:Nat} (h:i<l.length):∀y,RdK y (.slice (some ⟨bb,off,none⟩) l.length tc) l→y.rangeAt bb (off+i*9) (kc (ae l i)).toList:=fun y hy=>by
 obtain⟨b',off',e,hr⟩:=hy.rng (by omega)
 cases e
 exact hr i h
theorem TI (P:Nat→Bool) (l:List K) (i:Nat) (h:l.length≤12):(smI P (l.take i)).length≤12:=by
 rw[tM];have := (gz P 0 (l.take i)).length_le;have := List.length_take_le' i l;unfold smL
 omega
theorem TJ (P:Nat→Bool) (now:Int) (l:List K) (i:Nat) (h:l.length≤12):(smV P now (l.take i)).length≤12:=by
 have := zL P now (l.take i);have := List.length_take_le' i l
 omega
theorem PI (P:Nat→Bool) (l:List K):smI P (l.take 0)=[]:=rfl
theorem PM (P:Nat→Bool) (now:Int) (l:List K):smV P now (l.take 0)=[]:=rfl
theorem PL (P:Nat→Bool) (l:List K):smT P (l.take 0)=[]:=rfl
theorem Rs {o:Oper} {a:Act} {S:World→Prop} {ops:Array Oper} (b off n c i:Nat) (x y:Operand) (h:(i:Int)<n) (hw:Region.wanted o (yielded ops a.tmps)=true) (ho:o.op = .indexAddr 43 x y) (hx:a.eval x = .slice (some ⟨b,off,none⟩) n c) (hy:a.eval y = .int .i64 i):YieldsIf prog ops S o (.pointer (some ⟨b,off+i*9,none⟩)) a:=by
 refine .inl ⟨hw,fun w hS => ?_⟩
 have hr:(Instr.indexAt 43 (.slice (some ⟨b,off,none⟩) n c) (.int .i64 i)).run prog w = .ok (.pointer (some ⟨b,off+i*9,none⟩)) w:=by simp[go_sem,h]
 unfold execOp;simp only[ho,hx,hy,Sem.run_bind,Sem.run_pure,Result.andThen_ok,hr]
theorem NZ (V:List K):ddK (V.take 0)=[]:=rfl
theorem OS {y:World} {b o n c:Nat} {l:List K} (h:RdK y (.slice (some ⟨b,o,none⟩) n c) l) {j:Nat} (hj:j<l.length):s7 y b (o+j*9) (ae l j):=by
 obtain⟨b',o',e,_,hr⟩:=h.cells (by omega)
 cases e
 exact hr j hj
theorem X9 {P:Program} {o:Oper} {a:Act} {S:World→Prop} {ops:Array Oper} (hw:Region.wanted o (yielded ops a.tmps)=false):YieldsIf P ops S o undef a := .inr ⟨hw,rfl⟩
theorem XH (x y:List UInt8) (w:World):(binOp .eql 9 (.string ⟨x.toArray⟩) (.string ⟨y.toArray⟩)).run prog w = .ok (.bool (x == y)) w:=by
 simp[go_sem]
theorem Kn {ops:Array Oper} {rest:List Oper} {o:Oper} {a:Act} {w:World} {Q:Exit→Act→World→Prop} (k:K) (g off:Nat) (x:Operand) (ho:o.op = .load 86 x) (hc:w.rangeAt g off (kc k).toList)
  (hx:a.eval x = .pointer (some ⟨g,off,none⟩)) (hgd:Region.wanted o (yielded ops a.tmps)=true)
  (h:wpList prog ops Q rest (a.put o.dst (.agg (kc k))) w):wpList prog ops Q (o::rest) a w :=
 wpList_step fun K hK=>by
  rw[G_ hgd];exact wp_load_mid _ x ho g off hx (kc k).toList _ hc underlying86 rfl kZ (hK _ _ h)
open Go.RowKit
theorem YC (a b:Int) (w:World):(binOp .eql 3 (.int .i64 a) (.int .i64 b)).run prog w = .ok (.bool (decide (a=b))) w:=by
 simp[binOp,Op.intCmp]
 rfl
theorem YK {V:List K} {k:K} {j:Nat} (hj:j<V.length) (h:bI (V.take j) k=true):bI (V.take (j+1)) k=true:=by
 rw[rF V k j hj,h]
 rfl
theorem YJ {V:List K} {k:K} {j:Nat} (hj:j<V.length) (h:bI (V.take j) k=false) (ht:¬(ae V j).ty=k.ty):bI (V.take (j+1)) k=false:=by
 rw[rF V k j hj,h];unfold ip
 simp[ht]
theorem YL {V:List K} {k:K} {j:Nat} (hj:j<V.length) (h:bI (V.take j) k=false) (ht:(ae V j).ty=k.ty):bI (V.take (j+1)) k=((ae V j).val == k.val):=by
 rw[rF V k j hj,h];unfold ip;rw[decide_eq_true ht,Bool.false_or,Bool.true_and]
 by_cases hv:(ae V j).val=k.val
 ·rw[decide_eq_true hv,beq_iff_eq.2 hv]
 ·rw[V_ hv,U_.2 hv]
theorem UH (y:World) (p:Addr) (x:List UInt8) (h:y.cell? p=some (.string ⟨x.toArray⟩)):(loadVar 9 p).run prog y = .ok (.string ⟨x.toArray⟩) y:=by
 simp[go_sem,h]
end
end Go.Proofs.YtmfiaadjdbemnaaGreatDoor
