/- Contracts and lemmas. No condition. -/
import Derived.Test.YtmfiaadjdbemnaaGreatDoorSB04
import Derived.OrdersHeld
set_option maxRecDepth 100000
set_option maxHeartbeats 8000000
namespace Go.Proofs.YtmfiaadjdbemnaaGreatDoor
section
open Go.RowKit
theorem B0 (s:List UInt32) (hl:s.length=16) (w:World) :
  Calls Tryz.prog 182 #[.agg (row s)] w fun e w'=>e = .returned (.agg (row (C3.rounds s 10)))∧Below w.heap.size w w':=by
 go_enter Tryz.func182,Tryz.ntmps182
 go_wp2
 go_loopw [5] (fun i wr=>∃m:Nat,m≤10∧i = .int .i64 m∧∃n,wr=((w.alloc (.cells (row (C3.rounds s m)) 226)).alloc (.cells sx 226)).drewN n) (fun i _=>10-(intOf i).toNat)
 case atStart=>exact⟨0,by omega,rfl,0,rfl⟩
 case round =>
  obtain⟨m,hm,rfl,n,rfl⟩:=hrel
  by_cases hlt:m<10
  ·have hd:decide ((m:Int)<10)=true:=by simp;omega
   go_wp2
   go_loopw [7] (fun i wr=>∃k:Nat,k≤4∧i = .int .i64 k∧∃n,wr=((w.alloc (.cells (row (C3.qk (C3.rounds s m) k)) 226)).alloc (.cells sx 226)).drewN n) (fun i _=>4-(intOf i).toNat)
   case atStart=>exact⟨0,by omega,rfl,n,rfl⟩
   case round =>
    obtain⟨k,hk,rfl,n,rfl⟩:=hrel
    have hlen:(C3.qk (C3.rounds s m) k).length=16:=by rw[C3.length_qk,C3.length_rounds,hl]
    by_cases hlt2:k<4
    ·have c4:4+k<16:=by omega
     have c8:8+k<16:=by omega
     have c12:12+k<16:=by omega
     have c0:k<16:=by omega
     go_wp2;refine dJ 11 (by kernel_rfl) (by kernel_rfl) ?_;simp only[List.take_succ_cons,List.take_zero,List.drop_succ_cons,List.drop_zero]
     repeat (go_big_quiet_step (fail))
     refine wpQuiet_nil ?_;rintro _ ⟨nq,rfl⟩;have HQ:=O (C3.qk_lo (C3.rounds s m) k hlt2)
     go_wp2_with (go_at_call 194;refine(xZ _ (C3.qk (C3.rounds s m) k) 226 _ _ _ _ _ (cF _ _ _ _) (by omega) (by omega) (by omega) (by omega) (by omega) (by omega) (by omega) (by omega) (by omega) (by omega)).mono ?_;rintro e w' ⟨rfl,n2,rfl⟩)
     go_roundw
     case rel=>exact⟨k+1,by omega,by go_num,nq+n2,by rw[HQ.out]⟩
     case measure=>simp[intOf];omega
    ·have he:k=4:=by omega
     have HE:=O he;clear he
     have hd2:decide ((k:Int)<4)=false:=by simp;omega
     go_wp2
     go_loopw [23] (fun i wr=>∃k:Nat,k≤4∧i = .int .i64 k∧∃n,wr=((w.alloc (.cells (row (C3.qk (C3.rounds s m) (4+k))) 226)).alloc (.cells sx 226)).drewN n) (fun i _=>4-(intOf i).toNat)
     case atStart=>exact⟨0,by omega,rfl,n,by rw[HE.out]⟩
     case round =>
      clear hk hlen hlt2;obtain⟨k,hk,rfl,n,rfl⟩:=hrel
      have hlen:(C3.qk (C3.rounds s m) (4+k)).length=16:=by rw[C3.length_qk,C3.length_rounds,hl]
      by_cases hlt2:k<4
      ·have d1:(k+1) % 4<4:=Nat.mod_lt _ (by omega)
       have d2:(k+2) % 4<4:=Nat.mod_lt _ (by omega);have d3:(k+3) % 4<4:=Nat.mod_lt _ (by omega);go_wp2;refine dJ 17 (by kernel_rfl) (by kernel_rfl) ?_;simp only[List.take_succ_cons,List.take_zero,List.drop_succ_cons,List.drop_zero]
       repeat (go_big_quiet_step (fail))
       refine wpQuiet_nil ?_;rintro _ ⟨nq,rfl⟩;have HQ:=O (C3.qk_hi (C3.rounds s m) k hlt2)
       go_wp2_with (go_at_call 194;refine(xZ _ (C3.qk (C3.rounds s m) (4+k)) 226 _ _ _ _ _ (cF _ _ _ _) (by omega) (by omega) (by omega) (by omega) (by omega) (by omega) (by omega) (by omega) (by omega) (by omega)).mono ?_;rintro e w' ⟨rfl,n2,rfl⟩)
       go_roundw
       case rel=>exact⟨k+1,by omega,by go_num,nq+n2,by rw[HQ.out]⟩
       case measure=>simp[intOf];omega
      ·have he:k=4:=by omega
       have HE:=O he;clear he;go_wp2;go_roundw
       case rel=>exact⟨m+1,by omega,by go_num,n,by rw[HE.out];rfl⟩
       case measure=>simp[intOf];omega
  ·have hlen:(C3.rounds s m).length=16:=by rw[C3.length_rounds,hl]
   have he:m=10:=by omega
   have HE:=O he;clear he
   go_wp2_with (first
         |(refine ng rfl (.tmp 1) rfl _ rfl _ 226 (cF _ _ _ _) hlen ?_)
         |(refine gN rfl (.tmp 2) (.tmp 46) rfl _ _ rfl rfl 226 _ (dL _ _ _ _) rfl hlen ?_))
   refine bodyPost_ret (v := .agg (row _)) (zv rfl _ _ _ _ _ rfl (setRow_heap _ _ _ _ _ _ (dL _ _ _ _)) hlen) rfl ⟨by rw[HE.out],?_⟩;exact below_setRow (ak _ (((Oo _ _).alloc (Nat.le_refl _) _).alloc (by simp) _)) (by omega) _
open Go.RowKit
variable {P:Program} {ops:Array Oper} {S:World→Prop}
def gu (P:Program) (ops:Array Oper) (S:World→Prop) (K:Act→Prop):List Oper→Act→Prop
 | [],a=>K a
 | o::rest,a=>∃v,YieldsIf P ops S o v a∧gu P ops S K rest (a.put o.dst v)
def ei (P:Program) (ops:Array Oper) (S:World→Prop) (Q:Exit→Act→World→Prop):List Oper→Act→World→Prop
 | [],a,w=>Q .normal a w
 | o::rest,a,w=>∀Q':Exit→Act→World→Prop,Hid (∀a' w',S w'→ei P ops S Q rest a' w'→Q' .normal a' w')→wpList P ops Q' [o] a w
def xB (ops:Array Oper) (n:Nat):Bool :=
 decide (n≤ops.size) && Region.noSelect ops && (List.range n).all (fun k=>(Region.ready .any ops (dH k (ops.size-k))).contains k && Region.free .any ops (dH k (ops.size-k)) k) &&
 (List.range (ops.size-n)).all (fun k=>Region.ready .any ops (dH (n+k) (ops.size-(n+k))) == [n+k]) && (Region.ready .any ops (dH ops.size 0)).isEmpty
theorem qx (k g:Nat) (hg:0<g):(dH k g).setIfInBounds k true=dH (k+1) (g-1):=by
 obtain⟨g,rfl⟩:∃g',g=g'+1:=⟨g-1,by omega⟩;unfold dH;rw[List.setIfInBounds_toArray]
 congr 1
 rw[List.set_append_right _ _ (by simp),List.length_replicate,Nat.sub_self,List.replicate_succ,List.set_cons_zero,List.replicate_succ',List.append_assoc]
 rfl
theorem u6 {Q:Exit→Act→World→Prop} {n:Nat} (hB:xB ops n=true):∀(l:List Oper) (k:Nat) (a:Act) (w:World),n≤k→k+l.length=ops.size→(∀j,l[j]? = ops[k+j]?)→ei P ops S Q l a w→wpAnyH P .any ops Q S l.length (dH k (ops.size-k)) a w:=by
 simp only[xB,Bool.and_eq_true,decide_eq_true_eq] at hB;obtain⟨⟨⟨⟨hn,hsel⟩,hh⟩,ht⟩,hd⟩:=hB;intro l
 induction l with
 | nil =>
   intro k a w hk hl hj h
   have e:k=ops.size:=by simpa using hl
   subst e;rw[Nat.sub_self];exact⟨List.isEmpty_iff.1 hd,h⟩
 | cons o l ih =>
   intro k a w hk hl hj h
   have hlt:k<ops.size:=by simp only[List.length_cons] at hl;omega
   have ho:ops[k]?=some o:=by simpa using (hj 0).symm
   have h1:=List.all_eq_true.1 ht (k-n) (List.mem_range.2 (by omega));rw[show n+(k-n)=k by omega,beq_iff_eq] at h1;refine wpAnyH_all h1 (by simp) (fun i hi => ?_)
   have e:i=k:=by simpa using hi
   subst e;refine iw ho (h _ (O (fun a' w' hS hT => ?_)));refine⟨hS,?_⟩;rw[qx _ _ (by omega),show ops.size-i-1=ops.size-(i+1) by omega];refine ih (i+1) a' w' (by omega) (by simp only[List.length_cons] at hl;omega) (fun j => ?_) hT;have := hj (j+1)
   simpa [Nat.add_assoc,Nat.add_comm 1 j] using this
theorem uZ {Q:Exit→Act→World→Prop} {n:Nat} (hB:xB ops n=true) (hQ:∀c (a:Act) d v w,Q (.panic c) (a.put d v) w→Q (.panic c) a w) (w:World) (hS:S w) (hlen:n≤ops.size) :
  ∀(l:List Oper) (k:Nat) (a:Act),k+l.length=n→(∀j,j<l.length→l[j]? = ops[k+j]?)→gu P ops S (fun a'=>ei P ops S Q (ops.toList.drop n) a' w) l a→wpAnyH P .any ops Q S (ops.size-k) (dH k (ops.size-k)) a w:=by
 have hB':=hB;simp only[xB,Bool.and_eq_true,decide_eq_true_eq] at hB;obtain⟨⟨⟨⟨hn,hsel⟩,hh⟩,ht⟩,hd⟩:=hB;intro l
 induction l with
 | nil =>
   intro k a hk hj h
   have e:k=n:=by simpa using hk
   subst e
   have hl:(ops.toList.drop k).length=ops.size-k:=by simp
   have := u6 (P:=P) (S:=S) (Q:=Q) hB' (ops.toList.drop k) k a w (Nat.le_refl _) (by rw[hl];omega) (fun j=>by rw[List.getElem?_drop];simp) h
   rwa [hl] at this
 | cons o l ih =>
   intro k a hk hj h;obtain⟨v,hy,h2⟩:=h
   have hkn:k<n:=by simp only[List.length_cons] at hk;omega
   have ho:ops[k]?=some o:=by simpa using (hj 0 (by simp)).symm
   have h1:=List.all_eq_true.1 hh k (List.mem_range.2 hkn);rw[Bool.and_eq_true] at h1;rw[show ops.size-k=(ops.size-(k+1))+1 by omega];refine wpAnyH_take ho hsel (by have := h1.2;rwa [show ops.size-k=(ops.size-(k+1))+1 by omega] at this) (by have := h1.1;rwa [show ops.size-k=(ops.size-(k+1))+1 by omega] at this) (fun c a w=>hQ c a _ _ w) hy hS ?_;rw[qx _ _ (by omega),show ops.size-(k+1)+1-1=ops.size-(k+1) by omega];refine ih (k+1) _ (by simp only[List.length_cons] at hk;omega) (fun j hj2 => ?_) h2;have := hj (j+1) (by simp;omega)
   simpa [Nat.add_assoc,Nat.add_comm 1 j] using this
theorem sR {id:Nat} {Q:Exit→Act→World→Prop} {a:Act} {w:World} {l:List Oper} (S:World→Prop) (n:Nat) (hQ:∀c (a:Act) d v w,Q (.panic c) (a.put d v) w→Q (.panic c) a w) (hm:P.follows .mixedOrders=true) (hB:xB l.toArray n=true) (hS:S w.drew)
  (h:gu P l.toArray S (fun a'=>ei P l.toArray S Q (l.drop n) a' w.drew) (l.take n) a):(Code.region id l.toArray true).wp P Q a w:=by
 refine wp_region_held (S:=S) hm ?_
 have hn:n≤l.length:=by
  have h:=hB;simp only[xB,Bool.and_eq_true,decide_eq_true_eq] at h
  simpa using h.1.1.1.1
 have := uZ (P:=P) (S:=S) (Q:=Q) hB hQ w.drew hS (by simpa using hn) (l.take n) 0 a (by simp;omega) (fun j hj=>by
  have : j<n:=by rw[List.length_take] at hj;omega
  simp[this]) h
 have e:dH 0 (l.toArray.size-0)=Array.replicate l.toArray.size false:=by simp[dH]
 rw[e,Nat.sub_zero] at this;exact this
def vY (ops:Array Oper):Array Bool→List Nat→Bool
 | _,[]=>true
 | m,i::r=>(Region.ready .any ops m).contains i && Region.free .any ops m i && vY ops (m.setIfInBounds i true) r
def ni (ops:Array Oper):Array Bool→List Nat→Bool
 | m,[]=>(Region.ready .any ops m).isEmpty
 | m,i::r=>Region.ready .any ops m == [i] && ni ops (m.setIfInBounds i true) r
def r8 (m:Array Bool) (l:List Nat):Array Bool:=l.foldl (fun m i=>m.setIfInBounds i true) m
def cT (ops:Array Oper) (l:List Nat):List Oper:=l.filterMap fun i=>ops[i]?
def J0 (ops:Array Oper) (hs ts:List Nat):Bool :=
 Region.noSelect ops && vY ops (Array.replicate ops.size false) hs && ni ops (r8 (Array.replicate ops.size false) hs) ts && (hs.length+ts.length == ops.size)
theorem lO {Q:Exit→Act→World→Prop}:∀(l:List Nat) (m:Array Bool) (a:Act) (w:World),ni ops m l=true→ei P ops S Q (cT ops l) a w→wpAnyH P .any ops Q S l.length m a w
 | [],m,a,w,hB,h=>⟨List.isEmpty_iff.1 hB,h⟩
 | i :: l, m, a, w, hB, h => by
   unfold ni at hB;rw[Bool.and_eq_true,beq_iff_eq] at hB;obtain⟨h1,h2⟩:=hB;obtain⟨_,o,ho,_⟩:=mem_ready.1 (show i∈Region.ready .any ops m by rw[h1];simp);unfold cT at h;rw[List.filterMap_cons,ho] at h;refine wpAnyH_all h1 (by simp) (fun j hj => ?_)
   have e:j=i:=by simpa using hj
   subst e;refine iw ho (h _ (O (fun a' w' hS hT=>⟨hS,?_⟩)));exact lO l _ a' w' h2 hT
theorem qy {Q:Exit→Act→World→Prop} (hsel:Region.noSelect ops=true) (hQ:∀c (a:Act) d v w,Q (.panic c) (a.put d v) w→Q (.panic c) a w) (w:World) (hS:S w) (ts:List Nat) :
  ∀(l:List Nat) (m:Array Bool) (a:Act),vY ops m l=true→ni ops (r8 m l) ts=true→gu P ops S (fun a'=>ei P ops S Q (cT ops ts) a' w) (cT ops l) a→wpAnyH P .any ops Q S (l.length+ts.length) m a w
 | [], m, a, _, hT, h => by
   rw[List.length_nil,Nat.zero_add];exact lO ts m a w hT h
 | i :: l, m, a, hB, hT, h => by
   unfold vY at hB;rw[Bool.and_eq_true,Bool.and_eq_true] at hB;obtain⟨⟨h1,h2⟩,h3⟩:=hB
   have hr:i∈Region.ready .any ops m:=by simpa using h1
   obtain⟨_,o,ho,_⟩:=mem_ready.1 hr;unfold cT at h;rw[List.filterMap_cons,ho] at h;obtain⟨v,hy,hk⟩:=h;rw[List.length_cons,show l.length+1+ts.length=(l.length+ts.length)+1 by omega];exact wpAnyH_take ho hsel h2 h1 (fun c a w=>hQ c a _ _ w) hy hS (qy hsel hQ w hS ts l _ _ h3 hT hk)
theorem fe {id:Nat} {Q:Exit→Act→World→Prop} {a:Act} {w:World} {l:List Oper} (S:World→Prop) (hs ts:List Nat) (hQ:∀c (a:Act) d v w,Q (.panic c) (a.put d v) w→Q (.panic c) a w) (hm:P.follows .mixedOrders=true) (hB:J0 l.toArray hs ts=true) (hS:S w.drew)
  (h:gu P l.toArray S (fun a'=>ei P l.toArray S Q (cT l.toArray ts) a' w.drew) (cT l.toArray hs) a):(Code.region id l.toArray true).wp P Q a w:=by
 refine wp_region_held (S:=S) hm ?_;simp only[J0,Bool.and_eq_true,beq_iff_eq] at hB;obtain⟨⟨⟨h1,h2⟩,h3⟩,h4⟩:=hB;have := qy h1 hQ w.drew hS ts hs _ a h2 h3 h;rw[h4] at this;exact this
theorem el {Q:Exit→Act→World→Prop} {a:Act} {w:World} (h:Q .normal a w):ei P ops S Q [] a w:=h
theorem my {o:Oper} {a:Act} {S:World→Prop} {ops:Array Oper} (cs:Array Value) (g:Nat) (T:TypeId) (x:Operand) (hw:Region.wanted o (yielded ops a.tmps)=true) (ho:o.op = .load T x) (hx:a.eval x = .pointer (some ⟨g,0,none⟩))
  (hr:∀w,S w→(loadVar T ⟨g,0,none⟩).run P w = .ok (.agg cs) w):YieldsIf P ops S o (.agg cs) a:=by
 refine .inl ⟨hw,fun w hS => ?_⟩;unfold execOp;simp only[ho,hx,Instr.loadAt,Instr.sureAddr,Sem.run_bind,Sem.run_pure,Result.andThen_ok,hr w hS]
theorem gC {o:Oper} {a:Act} {S:World→Prop} {ops:Array Oper} (v:Value) (b:Addr) (T:TypeId) (x:Operand) (hw:Region.wanted o (yielded ops a.tmps)=true) (ho:o.op = .load T x) (hx:a.eval x = .pointer (some b))
  (hr:∀w,S w→(loadVar T b).run P w = .ok v w):YieldsIf P ops S o v a:=by
 refine .inl ⟨hw,fun w hS => ?_⟩;unfold execOp;simp only[ho,hx,Instr.loadAt,Instr.sureAddr,Sem.run_bind,Sem.run_pure,Result.andThen_ok,hr w hS]
theorem aR {o:Oper} {a:Act} {S:World→Prop} {ops:Array Oper} (v:Value) (hw:Region.wanted o (yielded ops a.tmps)=true) (hr:∀w,S w→(execOp a.eval o).run P w = .ok (.value v) w):YieldsIf P ops S o v a := .inl ⟨hw,hr⟩
end
end Go.Proofs.YtmfiaadjdbemnaaGreatDoor
