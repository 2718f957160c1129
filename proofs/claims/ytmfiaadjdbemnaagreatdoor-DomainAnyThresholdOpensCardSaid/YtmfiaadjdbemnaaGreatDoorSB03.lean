/- Contracts and lemmas. No condition. -/
import Derived.Test.YtmfiaadjdbemnaaGreatDoorSB02
import Derived.Deep.MidRow
import Derived.Lib.ConvBytes
set_option maxRecDepth 100000
set_option maxHeartbeats 8000000
namespace Go.Proofs.YtmfiaadjdbemnaaGreatDoor
section
open Go.RowKit
theorem Aq (m x:List UInt8) (n:Nat) (h:64*n≤m.length):eJ (m++x) n=eJ m n:=by
 induction n with
 | zero=>rfl
 | succ n ih =>
   rw[eJ,eJ,ih (by omega)]
   congr 1
   rw[List.drop_append_of_le_length (by omega),List.take_append_of_le_length (by rw[List.length_drop];omega)]
def lay (bk:List UInt8) (a:Nat) (x:List UInt8):List UInt8:=bk.take a++x++bk.drop (a+x.length)
theorem zc (bk:List UInt8) (a:Nat) (x:List UInt8) (hb:bk.length=64) (h:a+x.length≤64):(lay bk a x).length=64:=by
 simp[lay,hb];omega
theorem Bo (bk:List UInt8) (a:Nat) (x:List UInt8) (hb:bk.length=64) (h:a+x.length≤64):(lay bk a x).take (a+x.length)=bk.take a++x:=by
 unfold lay;rw[List.take_append_of_le_length (by simp[hb];omega),List.take_of_length_le (by simp[hb];omega)]
theorem GB (x:List UInt8) (bk:List UInt8) (n:Nat) (hb:bk.length=64) (h:n % 64+x.length≤64):kY bk n x=lay bk (n % 64) x:=by
 induction x generalizing bk n with
 | nil=>simp[kY,lay]
 | cons c x ih =>
   rw[kY]
   cases x with
   | nil =>
     simp only[kY,lay,List.length_cons,List.length_nil];rw[List.set_eq_take_append_cons_drop,if_pos (by omega)]
     simp
   | cons d x =>
     simp only[List.length_cons] at h
     have e:(n+1) % 64=n % 64+1:=by omega
     rw[ih _ _ (by rw[List.length_set];exact hb) (by simp only[List.length_cons];omega),e];unfold lay
     have e1:(bk.set (n % 64) c).take (n % 64+1)=bk.take (n % 64)++[c]:=by
      rw[List.set_eq_take_append_cons_drop,if_pos (by omega),List.take_append,List.length_take,hb,Nat.min_eq_left (by omega),List.take_of_length_le (by rw[List.length_take];omega),show n % 64+1-n % 64=1 by omega]
      rfl
     have e2:(bk.set (n % 64) c).drop (n % 64+1+(d::x).length)=bk.drop (n % 64+(c::d::x).length):=by
      rw[List.drop_set_of_lt (by simp only[List.length_cons];omega)]
      congr 1
      simp only[List.length_cons]
      omega
     rw[e1,e2]
     simp
theorem yo (N x:List UInt8) (h:N.length % 64+x.length≤64):lx (N++x)=lay (lx N) (N.length % 64) x:=by
 unfold lx;rw[yU,Nat.zero_add,GB _ _ _ (xm _ _ _) h]
theorem Fy (N x bk:List UInt8) (hb:bk.length=64) (ht:bk.take (N.length % 64)=N.drop (64*(N.length / 64))) (h:N.length % 64+x.length<64) :
  (N++x).length / 64=N.length / 64∧(N++x).length % 64=N.length % 64+x.length∧eJ (N++x) (N.length / 64)=eJ N (N.length / 64)∧(lay bk (N.length % 64) x).take (N.length % 64+x.length)=(N++x).drop (64*(N.length / 64)):=by
 refine⟨by rw[List.length_append];omega,by rw[List.length_append];omega,Aq _ _ _ (by omega),?_⟩;rw[Bo _ _ _ hb (by omega),ht,List.drop_append_of_le_length (by omega)]
theorem Fx (N x bk:List UInt8) (hb:bk.length=64) (ht:bk.take (N.length % 64)=N.drop (64*(N.length / 64))) (h:N.length % 64+x.length=64) :
  (N++x).length / 64=N.length / 64+1∧(N++x).length % 64=0∧eJ (N++x) (N.length / 64+1)=yK (eJ N (N.length / 64)) (lay bk (N.length % 64) x)∧(N++x).drop (64*(N.length / 64+1))=[]:=by
 refine⟨by rw[List.length_append];omega,by rw[List.length_append];omega,?_,List.drop_eq_nil_of_le (by rw[List.length_append];omega)⟩;rw[eJ,Aq _ _ _ (by omega)]
 congr 1
 have h1:=Bo bk (N.length % 64) x hb (by omega);rw[h,List.take_of_length_le (by rw[zc _ _ _ hb (by omega)];omega),ht] at h1;rw[h1,List.drop_append_of_le_length (by omega),List.take_of_length_le (by rw[List.length_append,List.length_drop];omega)]
theorem lw (s:HS) (bk:List UInt8) (n:Nat):(stc s bk n).toList=(hs s).map (fun x=>Value.int .u32 (W32 x))++(bcs bk++[Value.int .u64 n]):=by
 simp[stc,bcs]
theorem L8 (s:HS) (bk x:List UInt8) (n a:Nat) (hb:bk.length=64) (h:a+x.length≤64) :
  ((stc s bk n).toList.take (8+a)++bcs x++(stc s bk n).toList.drop (8+a+x.length)).toArray=stc s (lay bk a x) n:=by
 apply Array.ext'
 rw[lw,lw]
 have h8:((hs s).map (fun x=>Value.int .u32 (W32 x))).length=8:=by rw[List.length_map,gK]
 generalize (hs s).map (fun x=>Value.int .u32 (W32 x))=H at h8
 have e1:(H++(bcs bk++[Value.int .u64 n])).take (8+a)=H++(bcs bk).take a:=by
  rw[List.take_append,h8,List.take_of_length_le (by omega),Nat.add_sub_cancel_left,List.take_append_of_le_length (by rw[iP];omega)]
 have e2:(H++(bcs bk++[Value.int .u64 n])).drop (8+a+x.length)=(bcs bk).drop (a+x.length)++[Value.int .u64 n]:=by
  rw[List.drop_append,h8,List.drop_eq_nil_of_le (by omega),List.nil_append,show 8+a+x.length-8=a+x.length by omega,List.drop_append_of_le_length (by rw[iP];omega)]
 rw[e1,e2]
 simp[lay,bcs]
theorem P5 (s:HS) (bk:List UInt8) (n m:Nat) (hb:bk.length=64):(stc s bk n).setIfInBounds 72 (.int .u64 m)=stc s bk m:=by
 apply Array.ext'
 rw[Array.toList_setIfInBounds,lw,lw]
 have h8:((hs s).map (fun x=>Value.int .u32 (W32 x))).length=8:=by rw[List.length_map,gK]
 generalize (hs s).map (fun x=>Value.int .u32 (W32 x))=H at h8;rw[List.set_append_right _ _ (by omega),h8,List.set_append_right _ _ (by rw[iP];omega),iP,hb]
 rfl
theorem L9 (s s':HS) (bk:List UInt8) (n:Nat):((stc s bk n).toList.take 0++(row (hs s')).toList++(stc s bk n).toList.drop 8).toArray=stc s' bk n:=by
 apply Array.ext'
 rw[lw,lw]
 have h8:((hs s).map (fun x=>Value.int .u32 (W32 x))).length=8:=by rw[List.length_map,gK]
 have hr:(row (hs s')).toList=(hs s').map (fun x=>Value.int .u32 (W32 x)):=by simp[row]
 rw[hr];generalize (hs s).map (fun x=>Value.int .u32 (W32 x))=H at h8;rw[List.drop_append,h8,List.drop_eq_nil_of_le (by omega)]
 simp
theorem P3 {ops:Array Oper} {rest:List Oper} {o:Oper} {a:Act} {w:World} {Q:Exit→Act→World→Prop} (hgd:o.guard=none) (x y:Operand) (ho:o.op = .store 131 x y)
  (g:Nat) (s s':HS) (bk:List UInt8) (n:Nat) (hx:a.eval x = .pointer (some ⟨g,0,none⟩)) (hy:a.eval y = .agg (row (hs s'))) (hb:bk.length=64) (hg:w.heap[g]?=some (.cells (stc s bk n) 135 (0,0)))
  (h:∀w',w'.heap[g]?=some (.cells (stc s' bk n) 135 (0,0))→(∀k,k≠g→w'.heap[k]? = w.heap[k]?)→(∀B,B≤g→Below B w w')→wpList Tryz.prog ops Q rest (a.put o.dst undef) w'):wpList Tryz.prog ops Q (o::rest) a w:=by
 refine wpList_plain hgd fun K hK => ?_
 have hl:(row (hs s')).toList.length=8:=by simp[row,gK]
 have hst:=run_storeCells_at Tryz.prog g 0 135 (row (hs s')).toList 0 (stc s bk n) w hg (by rw[hl,gA _ _ _ hb];omega) (fun v hv=>by
  have := l7 (hs s');rw[Array.all_eq_true_iff_forall_mem] at this
  exact this v (by simpa using hv))
 rw[hl] at hst;simp only[Nat.add_zero,Nat.zero_add] at hst;rw[L9] at hst;have hi:=vR (hs s') (gK s')
 cases hq:Tryz.prog.info? 131 with
 | none=>rw[hq] at hi;cases hi
 | some i =>
   have hz:(row (hs s')).size=i.size:=by rw[hq] at hi;simpa using hi.symm
   have hc:(Value.agg (row (hs s'))).cells=row (hs s'):=rfl
   have h8:(row (hs s')).size=8:=by rw[co,gK]
   unfold Oper.wp
   simp[execOp,ho,hx,hy,Instr.storeAt,Instr.sureAddr,storeVar,typeInfo,hq,←hz,hc,h8,hst,Result.andThen]
   exact hK _ _ (h _ (setRow_heap _ _ _ _ _ _ hg) (fun k hk=>aj _ _ _ _ hk) (fun B hB=>aK hB))
open Go.RowKit
structure AW (w:World) (s:HS) (bk:List UInt8) (n:Nat) (wr:World):Prop where
 b:wr.heap[w.heap.size]?=some (.cells (stc s bk n) 135 (0,0))
 r:∃z,wr.heap[w.heap.size+1]?=some (.cells z 135 (0,0))∧z.size=73
 k:KAt wr
 below:Below w.heap.size w wr
 lb:bk.length=64
theorem AW.set {w wr w':World} {s s':HS} {bk bk':List UInt8} {n n':Nat} (h:AW w s bk n wr) (hw:0<w.heap.size) (hl:bk'.length=64) (hg:w'.heap[w.heap.size]?=some (.cells (stc s' bk' n') 135 (0,0))) (ho:∀k,k≠w.heap.size→w'.heap[k]? = wr.heap[k]?) (hb:∀B,B≤w.heap.size→Below B wr w'):AW w s' bk' n' w' :=
 ⟨hg,by rw[ho _ (by omega)];exact h.r,by unfold KAt;rw[ho _ (by omega)];exact h.k,h.below.trans (hb _ (Nat.le_refl _)),hl⟩
theorem AW.on {w wr w':World} {s:HS} {bk:List UInt8} {n:Nat} (h:AW w s bk n wr) (hw:0<w.heap.size) (hb:Below wr.heap.size wr w'):AW w s bk n w':=by
 obtain⟨z,hz,hz2⟩:=h.r;have h1:=(Array.getElem?_eq_some_iff.1 h.b).1;have h2:=(Array.getElem?_eq_some_iff.1 hz).1;have h3:=h.k.lt;exact⟨by rw[hb.block _ h1];exact h.b,⟨z,by rw[hb.block _ h2];exact hz,hz2⟩,by unfold KAt;rw[hb.block _ h3];exact h.k,h.below.trans (hb.mono h.below.size),h.lb⟩
theorem AW.setN {w wr:World} {s:HS} {bk:List UInt8} {n:Nat} (h:AW w s bk n wr) (hw:0<w.heap.size) (m:Nat):AW w s bk m (wr.setCell ⟨w.heap.size,72,none⟩ (.int .u64 m)):=by
 rw[au _ _ _ _ _ _ _ h.b,P5 _ _ _ _ h.lb];exact h.set hw h.lb (setRow_heap _ _ _ _ _ _ h.b) (fun k hk=>aj _ _ _ _ hk) (fun B hB=>aK hB)
theorem AM (l:List UInt8) (n:Nat):(l.drop n).take (l.length-n)=l.drop n:=List.take_of_length_le (by rw[List.length_drop];exact Nat.le_refl _)
theorem mU (l:List UInt8):eB.flat l=bcs l:=by
 induction l with
 | nil=>rfl
 | cons x l ih=>rw[El.flat,ih];rfl
theorem AW.rd {w wr:World} {s:HS} {bk:List UInt8} {n:Nat} (h:AW w s bk n wr):RdE eB wr (.slice (some ⟨w.heap.size,8,none⟩) 64 64) bk:=by
 refine⟨_,64,by rw[h.lb],by rw[h.lb];exact Nat.le_refl _,by unfold maxLen;omega,fun _=>⟨w.heap.size,8,rfl,(Array.getElem?_eq_some_iff.1 h.b).1,fun j u hu => ?_⟩⟩;rw[mU] at hu
 have hj:j<bk.length:=by have := (List.getElem?_eq_some_iff.1 hu).1;rwa [iP] at this
 rw[cell_of_row _ _ _ _ _ _ h.b,WR _ _ _ _ hj,←hu]
 simp[bcs,byteAt,hj]
theorem AW.ld {w wr:World} {s:HS} {bk:List UInt8} {n:Nat} (h:AW w s bk n wr):(loadVar 131 ⟨w.heap.size,0,none⟩).run Tryz.prog wr = .ok (.agg (row (hs s))) wr:=by
 have hr:(row (hs s)).toList=(hs s).map (fun x=>Value.int .u32 (W32 x)):=by simp[row]
 have h1:=run_loadVar_mid (P:=Tryz.prog) wr w.heap.size 0 131 (row (hs s)).toList _ (fun j v hv=>by
  rw[hr] at hv
  have hj:j<8:=by have := (List.getElem?_eq_some_iff.1 hv).1;simpa [gK] using this
  rw[cell_of_row _ _ _ _ _ _ h.b,Nat.zero_add,Rj _ _ _ _ hj,←hv]
  have hj2:j<(hs s).length:=by rw[gK];exact hj
  simp[w16,hj2]) Tryz.underlying131 rfl (by rw[vR _ (gK s)];simp)
 simpa using h1
theorem Wz {ops:Array Oper} {C:World→Prop} {Q:Act→Prop} {a:Act} {o:Oper} {rest:List Oper} (hw:Region.wanted o (yielded ops a.tmps)=true) (ty:TypeId) (x:Operand) (ho:o.op = .load ty x)
  (g:Nat) (hx:a.eval x = .pointer (some ⟨g,0,none⟩)) (cs:Array Value) (hC:∀w',C w'→(loadVar ty ⟨g,0,none⟩).run Tryz.prog w' = .ok (.agg cs) w')
  (h:wpQuiet Tryz.prog ops C Q rest (a.put o.dst (.agg cs))):wpQuiet Tryz.prog ops C Q (o::rest) a:=by
 unfold wpQuiet;rw[if_pos hw];refine⟨.agg cs,fun w' hw' => ?_,h⟩;unfold Oper.quietAt execOp;simp only[ho,hx,Instr.loadAt,Instr.sureAddr,Sem.run_bind,Sem.run_pure,Result.andThen_ok,hC w' hw'];exact⟨rfl,rfl⟩
def Lu:Value→Nat
 | .string s=>s.size
 | _=>0
attribute [local irreducible] Calls stc eJ yK row
theorem Qv (M text:List UInt8) (v:Value) (w:World) (hv:StV M v) (hk:KAt w) (hlen:M.length+text.length≤1000000000000) :
  Calls Tryz.prog 67 #[v,.string ⟨text.toArray⟩] w fun e w'=>∃v',e = .returned v'∧StV (M++text) v'∧Below w.heap.size w w':=by
 obtain⟨bk0,rfl,hb0,ht0,htb0⟩:=hv;have hz:=Aj;have hw1:0<w.heap.size:=hk.lt;have HW1:=O hw1;have HLEN:=O hlen
 have H0:Hid (AW w (eJ M (M.length / 64)) bk0 M.length ((w.alloc (.cells (stc (eJ M (M.length / 64)) bk0 M.length) 135)).alloc (.cells (stc z73 zb 0) 135))):=O
  ⟨by rw[bx _ _ _ (by simp),al _ _ _ rfl],⟨_,al _ _ _ (by simp),gA _ _ _ rfl⟩,by unfold KAt;rw[bx _ _ _ (by first |(simp;done)|(simp;omega)),bx _ _ _ hw1];exact hk,((Oo _ _).alloc (Nat.le_refl _) _).alloc (by simp) _,hb0⟩
 have HT0:=O ht0;have HTB0:=O htb0;clear hk ht0 hb0 htb0
 go_enter Tryz.func67,Tryz.ntmps67
 go_wp2
 go_loopw [1] (fun o wr=>∃(k:Nat) (bk:List UInt8),k≤text.length∧o = .string ⟨(text.drop k).toArray⟩∧Hid (bk.take ((M++text.take k).length % 64)=(M++text.take k).drop (64*((M++text.take k).length / 64)))∧Hid (bk=lx (M++text.take k))∧Hid (AW w (eJ (M++text.take k) ((M++text.take k).length / 64)) bk (M++text.take k).length wr)) (fun o _=>Lu o)
 case atStart=>exact⟨0,bk0,Nat.zero_le _,rfl,by simpa using HT0,by simpa using HTB0,by simpa using H0⟩
 case round =>
  obtain⟨k,bk,hk,rfl,hbt,htb,haw⟩:=hrel;clear hz
  have hnl:(M++text.take k).length≤1000000000000:=by have := HLEN.out;simp;omega
  generalize hN:M++text.take k=N at hbt htb haw hnl
  by_cases hlt:k<text.length
  ·have cn:wr.cell? ⟨w.heap.size,72,none⟩=some (.int .u64 N.length):=by rw[cell_of_row _ _ _ _ _ _ haw.out.b,FB _ _ _ haw.out.lb]
   have ha:N.length % 64<64:=Nat.mod_lt _ (by decide)
   have hmod:((N.length:Nat):Int) % 64=((N.length % 64:Nat):Int):=by omega
   generalize hA:N.length % 64=a at ha hmod hbt;generalize hrem:text.drop k=rem
   have hrl:0<rem.length:=by rw[←hrem,List.length_drop];omega
   have hne:rem≠[]:=by intro e;rw[e] at hrl;simp at hrl
   have hemp:rem.isEmpty=false:=by cases rem with |nil=>exact absurd rfl hne|cons _ _=>rfl
   obtain⟨kk,hkk⟩:∃kk,Nat.min rem.length (64-a)=kk:=⟨_,rfl⟩
   have hk1:kk≤rem.length:=by rw[←hkk];exact Nat.min_le_left _ _
   have hk2:a+kk≤64:=by
    have : kk≤64-a:=by rw[←hkk];exact Nat.min_le_right _ _
    omega
   have hk3:0<kk:=by rw[←hkk];exact Nat.lt_min.2 ⟨hrl,by omega⟩
   have hxl:(rem.take kk).length=kk:=by rw[List.length_take];omega
   have ha2:(a:Int)≤64:=by omega
   have HKK:=O hkk;have HK2:=O hk2;have HXL:=O hxl;clear hne hkk
   go_upto_region 4 with (refine Jj rfl (.tmp 15) (.tmp 16) rfl rem w.heap.size (8+a) (64-a) (64-a) kk rfl rfl (stc (eJ N (N.length / 64)) bk N.length) 135 haw.out.b HKK.out (by rw[gA _ _ _ haw.out.lb];have := HK2.out;omega) ?_;intro wa hga hoa hba;have hgb:wa.heap[w.heap.size]?=some (.cells (stc (eJ N (N.length / 64)) (lay bk a (rem.take kk)) N.length) 135 (0,0)):=(by rw[hga,←L8 _ _ _ _ _ haw.out.lb (by rw[HXL.out];exact HK2.out),HXL.out]);have H1:=O (haw.out.set HW1.out (zc _ _ _ haw.out.lb (by rw[HXL.out];exact HK2.out)) hgb hoa hba);clear hga hoa hba hgb)
   try dsimp only[Act.put]
   have kki:(kk:Int)≤rem.length:=by omega
   have kk0:(0:Int)≤kk:=by omega
   have ks:kk≤(ByteArray.mk rem.toArray).size:=hk1
   have c72:wa.cell? ⟨w.heap.size,72,none⟩=some (.int .u64 N.length):=by rw[cell_of_row _ _ _ _ _ _ H1.out.b,FB _ _ _ H1.out.lb]
   have f72:=frozen_of_row _ _ 72 _ _ H1.out.b
   have hsum:((N.length:Int)+(kk:Int)) % 18446744073709551616=((N.length+kk:Nat):Int):=by omega
   clear cn
   go_upto_region 5 with fail
   go_cut [6] from 7 to 36 (fun q wc=>q = .int .i64 kk∧AW w (eJ N (N.length / 64)) (lay bk a (rem.take kk)) (N.length+kk) wc)
   case first =>
    go_wp2
    all_goals go_meet
    exact⟨rfl,by rw[←Int.natCast_add];exact H1.out.setN HW1.out _⟩
   case rest =>
    obtain⟨rfl,haw2⟩:=hcut;have H2:=O haw2
    have hNN:M++text.take (k+kk)=N++rem.take kk:=by rw[←hN,←hrem,List.append_assoc,←List.take_add]
    have HNN:=O hNN;have HREM:Hid (text.drop (k+kk)=rem.drop kk):=O (by rw[←hrem,List.drop_drop]);have HNL:Hid ((N++rem.take kk).length=N.length+kk):=O (by rw[List.length_append,hxl]);have HBT:Hid (bk.take (N.length % 64)=N.drop (64*(N.length / 64))):=O (by rw[hA];exact hbt.out);have HA:=O hA;have HTB:Hid (lay bk a (rem.take kk)=lx (M++text.take (k+kk))):=O (by rw[hNN,yo _ _ (by rw[hA,hxl];exact HK2.out),←htb.out,hA]);have HKT:Hid (k+kk≤text.length):=O (by rw[←hrem,List.length_drop] at hk1;omega);have HK3:=O hk3;have HRL:=O hk1;have HLB:=O haw.out.lb;clear haw2 c72 f72 hNN
    by_cases h64:a+kk=64
    ·have e1:((a:Int)+(kk:Int) == 64)=true:=by simp;omega
     have HFULL:=O (Fx N (rem.take kk) bk HLB.out HBT.out (by rw[HA.out,hxl];exact h64));clear hN hrem hA hbt haw h64;have zB:w.heap.size<wc.heap.size:=(Array.getElem?_eq_some_iff.1 H2.out.b).1;go_wp2;refine Rm 6 (by kernel_rfl) (by kernel_rfl) ?_;simp only[List.take_succ_cons,List.take_zero,List.drop_succ_cons,List.drop_zero]
     repeat (first
      |(refine Wz rfl 131 (.tmp 31) rfl w.heap.size rfl (row (hs (eJ N (N.length / 64)))) (fun w' ⟨u,e⟩=>by rw[e];exact(H2.out.on HW1.out u.below).ld) ?_;simp only[Act.put,List.setIfInBounds_toArray,List.set_cons_zero,List.set_cons_succ])
      | go_big_quiet_step ((go_at_call 111;exact dj.call _ (CK _ _ (lay bk a (rem.take kk)) _ (H2.out.on HW1.out (dj.below _)).rd H2.out.lb (H2.out.on HW1.out (dj.below _)).k))))
     refine wpQuiet_nil ?_;rintro _ ⟨u,rfl⟩;have H3:=O (H2.out.on HW1.out u.below)
     go_wp2_with (refine P3 rfl (.tmp 36) (.tmp 35) rfl w.heap.size _ _ _ _ rfl rfl H2.out.lb H3.out.b ?_;intro wd hgd hod hbd;have H4:=O (H3.out.set HW1.out H2.out.lb hgd hod hbd);clear hgd hod hbd)
     go_roundw
     case rel =>
      obtain⟨p1,p2,p3,p4⟩:=HFULL.out;rw[HA.out] at p3;have F1:Hid ((lay bk a (rem.take kk)).take ((M++text.take (k+kk)).length % 64)=(M++text.take (k+kk)).drop (64*((M++text.take (k+kk)).length / 64))):=O (by rw[HNN.out,p1,p2,p4];rfl);have F2:Hid (AW w (eJ (M++text.take (k+kk)) ((M++text.take (k+kk)).length / 64)) (lay bk a (rem.take kk)) (M++text.take (k+kk)).length wd):=O (by rw[HNN.out,p1,p3,HNL.out];exact H4.out);clear p1 p2 p3 p4
      (repeat apply Exists.intro)
      exact⟨⟨k+kk,lay bk a (rem.take kk),HKT.out,by rw[HREM.out,AM],F1,HTB,F2⟩,rfl⟩
     case measure =>
      have h1:=HK3.out;have h2:=HRL.out
      show Lu (.string _)<Lu (.string _)
      simp only[Lu,ByteArray.size,List.size_toArray,List.length_take,List.length_drop]
      omega
    ·have e1:((a:Int)+(kk:Int) == 64)=false:=by simp;omega
     have HPART:=O (Fy N (rem.take kk) bk HLB.out HBT.out (by rw[HA.out,hxl];omega));clear hN hrem hA hbt haw h64;go_wp2;go_roundw
     case rel =>
      obtain⟨p1,p2,p3,p4⟩:=HPART.out;rw[HA.out,HXL.out] at p2 p4;refine⟨k+kk,lay bk a (rem.take kk),HKT.out,?_,O ?_,HTB,O ?_⟩
      ·rw[HREM.out,AM]
      ·rw[HNN.out,p1,p2];exact p4
      ·rw[HNN.out,p1,p3,HNL.out];exact H2.out
     case measure =>
      have h1:=HK3.out;have h2:=HRL.out
      simp[Lu,ByteArray.size]
      omega
  ·have hke:k=text.length:=by omega
   have hd:text.drop k=[]:=List.drop_eq_nil_of_le (by omega)
   have hfull:N=M++text:=by rw[←hN,hke,List.take_length]
   obtain⟨z,hz1,hz2⟩:=haw.out.r;have HZ:=O hz1;have HNF:=O hfull;have HZ2:=O hz2;rw[hd];clear hN hke hd hfull hz1 hz2 hlt hnl
   go_wp2_with (first
    |(refine wpList_load_row rfl 135 (.tmp 2) rfl w.heap.size rfl _ _ (0,0) _ haw.out.b Tryz.underlying135 rfl (r9 _ _ _ haw.out.lb) ?_)
    |(refine aM (T:=135) (stc (eJ N (N.length / 64)) bk N.length) (r9 _ _ _ haw.out.lb) rfl (.tmp 4) (.tmp 37) rfl (w.heap.size+1) z rfl rfl (tN _ _ _) (by rw[HZ2.out,gA _ _ _ haw.out.lb]) HZ.out ?_;intro wb hgb hob hbb))
   (try simp only[Exit.inBlock,Exit.then])
   refine bodyPost_ret (Ln rfl _ _ (w.heap.size+1) _ _ _ haw.out.lb rfl hgb) rfl ?_;refine⟨_,rfl,⟨bk,by rw[←HNF.out],haw.out.lb,by rw[←HNF.out];exact hbt.out,by rw[←HNF.out];exact htb.out⟩,haw.out.below.trans (hbb _ (by omega))⟩
end
section
open Go.RowKit
def brow (l:List UInt8):Array Value:=(bcs l).toArray
def z32:List UInt8:=List.replicate 32 0
theorem MV:(Tryz.prog.info? 139).map (·.zero)=some (some (.agg (brow z32))):=by kernel_rfl
theorem oy (w:World):(zeroValue 139).run Tryz.prog w = .ok (.agg (brow z32)) w:=by
 have h:=MV;generalize brow z32=L at h ⊢
 cases hq:Tryz.prog.info? 139 with
 | none=>rw[hq] at h;cases h
 | some i =>
   rw[hq] at h
   simp at h
   simp[zeroValue,typeInfo,hq,h]
structure SW (w:World) (s:HS) (bk:List UInt8) (n:Nat) (wr:World):Prop where
 b:wr.heap[w.heap.size]?=some (.cells (stc s bk n) 135 (0,0))
 r:wr.heap[w.heap.size+1]?=some (.cells (brow z32) 139 (0,0))
 k:KAt wr
 below:Below w.heap.size w wr
 lb:bk.length=64
theorem SW.keep {w wr w':World} {s:HS} {bk:List UInt8} {n:Nat} (h:SW w s bk n wr) {B:Nat} (hB:w.heap.size+2≤B) (hw:0<w.heap.size) (hb:Below B wr w'):SW w s bk n w' :=
 ⟨by rw[hb.block _ (by omega)];exact h.b,by rw[hb.block _ (by omega)];exact h.r,by unfold KAt;rw[hb.block _ (by omega)];exact h.k,h.below.trans (hb.mono (by omega)),h.lb⟩
def iZ:Value→Nat
 | .slice _ n _=>n
 | _=>0
theorem RdE.form1 {α:Type} {E:El α} {w:World} {v:Value} {l:List α} (h:RdE E w v l) {n:Nat} (hn:l.length=n):∃a cap,v = .slice a n cap:=by
 obtain⟨a,cap,rfl,_⟩:=h;exact⟨a,cap,by rw[hn]⟩
theorem jz (n:Nat):kS n<64:=Nat.mod_lt _ (by decide)
theorem FL (n j:Nat) (hj:j≤kS n):(n+(1+j)) % 64=56↔j=kS n:=by
 unfold kS at *
 omega
theorem KY {w:World} {ai:Nat} (c:UInt8) (hb:ai≤w.heap.size):ap eB (w.alloc (.cells #[.int .u8 (B8 c)] 5)) ai (.slice (some ⟨w.heap.size,0,none⟩) 1 1) [c] :=
 ⟨by simp[El.flat],.inr ⟨w.heap.size,1,#[.int .u8 (B8 c)],rfl,hb,heap_alloc_new _ _,Nat.le_refl _,by unfold maxLen;omega,by simp,by simp[El.flat]⟩⟩
theorem eF (m:Nat):B8 (UInt8.ofNat m)=(m:Int) % 256:=by
 unfold B8;rw[UInt8.toNat_ofNat']
 omega
theorem b6 {w:World} {v:Value} {l:List UInt8} (h:RdE eB w v l):(convert 80 9 v).run Tryz.prog w = .ok (.string ⟨l.toArray⟩) w:=by
 obtain⟨a,cap,rfl,h1,h2,h3⟩:=h
 cases a with
 | none =>
   have hl:l=[]:=by
    cases l with
    | nil=>rfl
    | cons x l =>
      obtain⟨b,off,e,_⟩:=h3 (by simp)
      cases e
   subst hl;exact run_convert_bytes_nil w _ _ Tryz.underlying80 Tryz.underlying5 _ _ _ Tryz.underlying9
 | some p =>
   refine run_convert_bytes_back w _ _ _ p cap l Tryz.underlying80 Tryz.underlying5 Tryz.underlying9 (fun j hj => ?_);obtain⟨b,off,e,_,hc⟩:=h3 (by omega)
   cases e
   have gX:(⟨b,off,none⟩:Addr).add j=⟨b,off+j,none⟩:=by unfold Addr.add;split <;> simp_all
   rw[gX,hc j _ (yO l j hj)]
   simp[byteAt,List.getD_eq_getElem?_getD,hj,B8]
theorem cI (c:UInt8):B8 c % 256=B8 c:=by
 unfold B8;have := c.toNat_lt
 omega
def mF (s:HS) (i:Nat):List UInt8:=(eb s).take i++List.replicate (32-i) 0
theorem pj (s:HS):(eb s).length=32:=rfl
theorem qI (s:HS) (i:Nat) (hi:i≤32):(mF s i).length=32:=by
 unfold mF;rw[List.length_append,List.length_take,pj,List.length_replicate]
 omega
theorem BD (s:HS):mF s 32=eb s:=by
 unfold mF;rw[List.take_of_length_le (Nat.le_of_eq (pj s)),Nat.sub_self,List.replicate_zero,List.append_nil]
theorem qd (s:HS) (i:Nat) (hi:i<32) (c:UInt8) (hc:(eb s)[i]?=some c):(brow (mF s i)).setIfInBounds i (.int .u8 (B8 c))=brow (mF s (i+1)):=by
 unfold brow
 apply Array.ext'
 rw[Array.toList_setIfInBounds]
 show (bcs (mF s i)).set i (.int .u8 (B8 c))=bcs (mF s (i+1))
 unfold bcs;rw[←List.map_set (f:=fun x=>Value.int .u8 (B8 x))]
 congr 1
 unfold mF
 have hl:((eb s).take i).length=i:=by rw[List.length_take,pj];omega
 rw[List.set_append_right _ _ (by omega),hl,Nat.sub_self,show 32-i=(32-(i+1))+1 by omega,List.replicate_succ,List.set_cons_zero,List.take_add_one,hc]
 simp
theorem QH (s:HS) (q r:Nat) (hq:q<8) (hr:r<4):(eb s)[4*q+r]? = (w4 (w16 (hs s) q))[r]? := by
 rcases (by omega:q=0∨q=1∨q=2∨q=3∨q=4∨q=5∨q=6∨q=7) with rfl|rfl|rfl|rfl|rfl|rfl|rfl|rfl <;>
  (rcases (by omega:r=0∨r=1∨r=2∨r=3) with rfl|rfl|rfl|rfl <;> rfl)
theorem nH (l:List UInt8) (i:Nat) (hi:i<l.length):(brow l)[i]?=some (.int .u8 (B8 (byteAt l i))):=by
 simp[brow,bcs,byteAt,hi]
theorem bV (l:List UInt8):(brow l).size=l.length:=by simp[brow,bcs]
theorem iW (l:List UInt8):((brow l).all fun u=>u.oneCell')=true:=by
 rw[Array.all_eq_true_iff_forall_mem];intro x hx;simp only[brow,bcs,List.mem_toArray,List.mem_map] at hx;obtain⟨y,_,rfl⟩:=hx
 rfl
theorem Sv:(Tryz.prog.info? 139).map (·.size)=some 32:=by kernel_rfl
theorem ir (l:List UInt8) (h:l.length=32):(Tryz.prog.info? 139).map (·.size)=some (brow l).size:=by rw[bV,h];exact Sv
structure TW (w:World) (s:HS) (bk:List UInt8) (n g i:Nat) (wr:World):Prop where
 b:wr.heap[w.heap.size]?=some (.cells (stc s bk n) 135 (0,0))
 r:wr.heap[w.heap.size+1]?=some (.cells (brow z32) 139 (0,0))
 o:wr.heap[g]?=some (.cells (brow (mF s i)) 139 (0,0))
 hg:w.heap.size+1<g
 below:Below w.heap.size w wr
 lb:bk.length=64
theorem Mj {w w1 wd:World} {s0 s1:HS} {bk0 bk1:List UInt8} {n n1:Nat} (h:SW w s0 bk0 n w1) (hl:bk1.length=64) (hg:wd.heap[w.heap.size]?=some (.cells (stc s1 bk1 n1) 135 (0,0))) (ho:∀k,k≠w.heap.size→wd.heap[k]? = w1.heap[k]?) (hb:Below w.heap.size w1 wd) :
  TW w s1 bk1 n1 wd.heap.size 0 (wd.alloc (.cells (brow z32) 139)):=by
 have hr:wd.heap[w.heap.size+1]?=some (.cells (brow z32) 139 (0,0)):=by rw[ho _ (by omega)];exact h.r
 have h1:=(Array.getElem?_eq_some_iff.1 hr).1;exact⟨by rw[bx _ _ _ (by omega)];exact hg,by rw[bx _ _ _ h1];exact hr,al _ _ _ rfl,h1,(h.below.trans hb).alloc (by omega) _,hl⟩
theorem TW.next {w wr:World} {s:HS} {bk:List UInt8} {n g i:Nat} (h:TW w s bk n g i wr) (hi:i<32) (c:UInt8) (hc:(eb s)[i]?=some c):TW w s bk n g (i+1) (wr.setCell ⟨g,i,none⟩ (.int .u8 (B8 c))):=by
 have h1:=h.hg;rw[au _ _ _ _ _ _ _ h.o,qd s i hi c hc];exact⟨by rw[aj _ _ _ _ (by omega)];exact h.b,by rw[aj _ _ _ _ (by omega)];exact h.r,setRow_heap _ _ _ _ _ _ h.o,h.hg,h.below.trans (aK (by omega)),h.lb⟩
attribute [local irreducible] Calls stc eJ yK row brow
theorem WV (M : List UInt8) (v : Value) (w : World) (hv : StV M v) (hk : KAt w) (hlen : M.length ≤ 100000000000) :
  Calls Tryz.prog 69 #[v] w fun e w'=>e = .returned (.agg (brow (sha M)))∧Below w.heap.size w w':=by
 have HSV:=O hv;obtain⟨bk0,rfl,hb0,ht0,-⟩:=hv;have hz:=oy;have hw1:0<w.heap.size:=hk.lt;have HW1:=O hw1;have HLEN:=O hlen
 have H0:Hid (SW w (eJ M (M.length / 64)) bk0 M.length ((w.alloc (.cells (stc (eJ M (M.length / 64)) bk0 M.length) 135)).alloc (.cells (brow z32) 139))):=O
  ⟨by rw[bx _ _ _ (by simp),al _ _ _ rfl],al _ _ _ (by simp),by unfold KAt;rw[bx _ _ _ (by first |(simp;done)|(simp;omega)),bx _ _ _ hw1];exact hk,((Oo _ _).alloc (Nat.le_refl _) _).alloc (by simp) _,hb0⟩
 have hmul:(8:Int)*(M.length:Int) % 18446744073709551616=((8*M.length:Nat):Int):=by omega
 have c72:((w.alloc (.cells (stc (eJ M (M.length / 64)) bk0 M.length) 135)).alloc (.cells (brow z32) 139)).cell? ⟨w.heap.size,72,none⟩=some (.int .u64 M.length):=by rw[cell_of_row _ _ _ _ _ _ H0.out.b,FB _ _ _ hb0]
 clear hk ht0 hb0;generalize hs0:eJ M (M.length / 64)=s0 at H0 c72 ⊢
 go_enter Tryz.func69,Tryz.ntmps69
 go_wp2
 go_loopw [4] (fun o wr=>∃j:Nat,j≤kS M.length∧(∃a cap,o = .slice a (1+j) cap)∧Hid (ap eB wr (w.heap.size+2) o ([128]++List.replicate j 0))∧Hid (SW w s0 bk0 M.length wr)) (fun o _=>70-iZ o)
 case atStart =>
  refine⟨0,Nat.zero_le _,⟨_,_,rfl⟩,O ?_,O (H0.out.keep (by simp) HW1.out ((Oo _ _).alloc (Nat.le_refl _) _))⟩;have h:=KY (w:=(w.alloc (.cells (stc s0 bk0 M.length) 135)).alloc (.cells (brow z32) 139)) (ai:=w.heap.size+2) 128 (by simp);rw[show B8 128=128 from rfl] at h
  simpa using h
 case round =>
  obtain⟨j,hj,⟨a,cap,rfl⟩,hown,hsw⟩:=hrel
  have cn:wr.cell? ⟨w.heap.size,72,none⟩=some (.int .u64 M.length):=by rw[cell_of_row _ _ _ _ _ _ hsw.out.b,FB _ _ _ hsw.out.lb]
  have hzl:=jz M.length;have hz1:=FL M.length j hj;have HZ1:=O hz1;have HBS:=O hsw.out.below.size
  have hw2:w.heap.size+2≤wr.heap.size:=by have := (Array.getElem?_eq_some_iff.1 hsw.out.r).1;omega
  have HW2:=O hw2
  have jb:j≤63:=by omega
  have jb2:(j:Int)≤63:=by omega
  have mb:(M.length:Int)≤100000000000:=by omega
  by_cases hq:j=kS M.length
  ·have tq : ((M.length : Int) + (1 + (j : Int))) % 64 = 56 := by have := hz1.2 hq; omega
   have tq2:(((M.length:Int)+(1+(j:Int))) % 64 != 56)=false:=by rw[tq];rfl
   have HQ:=O hq;clear hz1 tq hj hq;go_wp2;have hown1:Hid (ap eB wr (w.heap.size+2) (.slice a (1+j) cap) ([128]++List.replicate (kS M.length) 0)):=O (by rw[←HQ.out];exact hown.out);have HP0:Hid (([128]++List.replicate (kS M.length) 0:List UInt8).length≤64):=O (by have := jz M.length;simp;omega);have HPL:Hid (([128]++List.replicate (kS M.length) 0:List UInt8).length=1+j):=O (by have := HQ.out;simp;omega);generalize hP0':([128]++List.replicate (kS M.length) 0:List UInt8)=P0 at hown1 HP0 HPL;have hP0:=O hP0';clear hP0'
   have hn0:0≤8*(M.length:Int):=by omega
   have hn1:8*(M.length:Int)<18446744073709551616:=by omega
   clear mb hlen hmul;generalize hNI:8*(M.length:Int)=NI at hn0 hn1 ⊢;have HNI:Hid (NI=8*(M.length:Int)):=O hNI.symm;clear hNI
   go_loopw [23,4] (fun o u wr=>∃i:Nat,i≤8∧o = .int .i64 i∧(∃a cap,u = .slice a (1+j+i) cap)∧Hid (ap eB wr (w.heap.size+2) u (P0++(be8 (8*M.length)).take i))∧Hid (SW w s0 bk0 M.length wr)) (fun o _ _=>8-(intOf o).toNat)
   case atStart=>exact⟨0,by omega,rfl,⟨_,_,rfl⟩,by simpa using hown1,hsw⟩
   case round =>
    obtain⟨i,hi,rfl,⟨a2,cap2,rfl⟩,hown2,hsw2⟩:=hrel;have HW3:Hid (w.heap.size+2≤wr.heap.size):=O (by have := (Array.getElem?_eq_some_iff.1 hsw2.out.r).1;omega)
    rcases (by omega:i=0∨i=1∨i=2∨i=3∨i=4∨i=5∨i=6∨i=7∨i=8) with rfl|rfl|rfl|rfl|rfl|rfl|rfl|rfl|rfl
    ·have et:(be8 (8*M.length)).take (0+1)=(be8 (8*M.length)).take 0++[UInt8.ofNat (8*M.length / 2 ^ 56)]:=rfl
     have ev:NI / 72057594037927936 % 256=B8 (UInt8.ofNat (8*M.length / 2 ^ 56)):=by rw[eF,HNI.out];omega
     have ev0:NI / 72057594037927936=B8 (UInt8.ofNat (8*M.length / 2 ^ 56)):=by rw[←ev];omega
     generalize hc:UInt8.ofNat (8*M.length / 2 ^ 56)=c at et ev ev0;have em:B8 c % 256=B8 c:=cI c;have ET:=O et;clear et hc
     go_wp2_with (at_builtin;go_loud (refine br aN rfl (.tmp 26) (.tmp 33) rfl (w.heap.size+2) _ _ rfl (hown2.out.on ((Oo _ _).alloc (Nat.le_refl _) _)) (.slice (some ⟨wr.heap.size,0,none⟩) 1 1) [c] rfl (bP wr c aN) (by have := HP0.out;simp;omega) (by have := HW3.out;simp;omega) ?_);intro v5 w4 ho4 hg4 hloc;have HB4:=O (((Oo wr.heap.size wr).alloc (Nat.le_refl _) (.cells #[.int .u8 (B8 c)] 5)).mono HW3.out |>.trans ((hown2.out.on ((Oo _ _).alloc (Nat.le_refl _) _)).below hg4 (by have := HW3.out;simp;omega)));have HO4:=O ho4;clear ho4 hg4 hloc)
     go_roundw
     case rel=>exact⟨1,by decide,by go_num,HO4.out.rd.form1 (by have := HP0.out;have := HPL.out;simp[be8];omega),O (by have h:=HO4.out;rw[List.append_assoc,←ET.out] at h;exact h),O (hsw2.out.keep (Nat.le_refl _) HW1.out HB4.out)⟩
     case measure=>simp[intOf]
    ·have et:(be8 (8*M.length)).take (1+1)=(be8 (8*M.length)).take 1++[UInt8.ofNat (8*M.length / 2 ^ 48)]:=rfl
     have ev:NI / 281474976710656 % 256=B8 (UInt8.ofNat (8*M.length / 2 ^ 48)):=by rw[eF,HNI.out];omega
     skip
     generalize hc:UInt8.ofNat (8*M.length / 2 ^ 48)=c at et ev;have em:B8 c % 256=B8 c:=cI c;have ET:=O et;clear et hc
     go_wp2_with (at_builtin;go_loud (refine br aN rfl (.tmp 26) (.tmp 33) rfl (w.heap.size+2) _ _ rfl (hown2.out.on ((Oo _ _).alloc (Nat.le_refl _) _)) (.slice (some ⟨wr.heap.size,0,none⟩) 1 1) [c] rfl (bP wr c aN) (by have := HP0.out;simp;omega) (by have := HW3.out;simp;omega) ?_);intro v5 w4 ho4 hg4 hloc;have HB4:=O (((Oo wr.heap.size wr).alloc (Nat.le_refl _) (.cells #[.int .u8 (B8 c)] 5)).mono HW3.out |>.trans ((hown2.out.on ((Oo _ _).alloc (Nat.le_refl _) _)).below hg4 (by have := HW3.out;simp;omega)));have HO4:=O ho4;clear ho4 hg4 hloc)
     go_roundw
     case rel=>exact⟨2,by decide,by go_num,HO4.out.rd.form1 (by have := HP0.out;have := HPL.out;simp[be8];omega),O (by have h:=HO4.out;rw[List.append_assoc,←ET.out] at h;exact h),O (hsw2.out.keep (Nat.le_refl _) HW1.out HB4.out)⟩
     case measure=>simp[intOf]
    ·have et:(be8 (8*M.length)).take (2+1)=(be8 (8*M.length)).take 2++[UInt8.ofNat (8*M.length / 2 ^ 40)]:=rfl
     have ev:NI / 1099511627776 % 256=B8 (UInt8.ofNat (8*M.length / 2 ^ 40)):=by rw[eF,HNI.out];omega
     skip
     generalize hc:UInt8.ofNat (8*M.length / 2 ^ 40)=c at et ev;have em:B8 c % 256=B8 c:=cI c;have ET:=O et;clear et hc
     go_wp2_with (at_builtin;go_loud (refine br aN rfl (.tmp 26) (.tmp 33) rfl (w.heap.size+2) _ _ rfl (hown2.out.on ((Oo _ _).alloc (Nat.le_refl _) _)) (.slice (some ⟨wr.heap.size,0,none⟩) 1 1) [c] rfl (bP wr c aN) (by have := HP0.out;simp;omega) (by have := HW3.out;simp;omega) ?_);intro v5 w4 ho4 hg4 hloc;have HB4:=O (((Oo wr.heap.size wr).alloc (Nat.le_refl _) (.cells #[.int .u8 (B8 c)] 5)).mono HW3.out |>.trans ((hown2.out.on ((Oo _ _).alloc (Nat.le_refl _) _)).below hg4 (by have := HW3.out;simp;omega)));have HO4:=O ho4;clear ho4 hg4 hloc)
     go_roundw
     case rel=>exact⟨3,by decide,by go_num,HO4.out.rd.form1 (by have := HP0.out;have := HPL.out;simp[be8];omega),O (by have h:=HO4.out;rw[List.append_assoc,←ET.out] at h;exact h),O (hsw2.out.keep (Nat.le_refl _) HW1.out HB4.out)⟩
     case measure=>simp[intOf]
    ·have et:(be8 (8*M.length)).take (3+1)=(be8 (8*M.length)).take 3++[UInt8.ofNat (8*M.length / 2 ^ 32)]:=rfl
     have ev:NI / 4294967296 % 256=B8 (UInt8.ofNat (8*M.length / 2 ^ 32)):=by rw[eF,HNI.out];omega
     skip
     generalize hc:UInt8.ofNat (8*M.length / 2 ^ 32)=c at et ev;have em:B8 c % 256=B8 c:=cI c;have ET:=O et;clear et hc
     go_wp2_with (at_builtin;go_loud (refine br aN rfl (.tmp 26) (.tmp 33) rfl (w.heap.size+2) _ _ rfl (hown2.out.on ((Oo _ _).alloc (Nat.le_refl _) _)) (.slice (some ⟨wr.heap.size,0,none⟩) 1 1) [c] rfl (bP wr c aN) (by have := HP0.out;simp;omega) (by have := HW3.out;simp;omega) ?_);intro v5 w4 ho4 hg4 hloc;have HB4:=O (((Oo wr.heap.size wr).alloc (Nat.le_refl _) (.cells #[.int .u8 (B8 c)] 5)).mono HW3.out |>.trans ((hown2.out.on ((Oo _ _).alloc (Nat.le_refl _) _)).below hg4 (by have := HW3.out;simp;omega)));have HO4:=O ho4;clear ho4 hg4 hloc)
     go_roundw
     case rel=>exact⟨4,by decide,by go_num,HO4.out.rd.form1 (by have := HP0.out;have := HPL.out;simp[be8];omega),O (by have h:=HO4.out;rw[List.append_assoc,←ET.out] at h;exact h),O (hsw2.out.keep (Nat.le_refl _) HW1.out HB4.out)⟩
     case measure=>simp[intOf]
    ·have et:(be8 (8*M.length)).take (4+1)=(be8 (8*M.length)).take 4++[UInt8.ofNat (8*M.length / 2 ^ 24)]:=rfl
     have ev:NI / 16777216 % 256=B8 (UInt8.ofNat (8*M.length / 2 ^ 24)):=by rw[eF,HNI.out];omega
     skip
     generalize hc:UInt8.ofNat (8*M.length / 2 ^ 24)=c at et ev;have em:B8 c % 256=B8 c:=cI c;have ET:=O et;clear et hc
     go_wp2_with (at_builtin;go_loud (refine br aN rfl (.tmp 26) (.tmp 33) rfl (w.heap.size+2) _ _ rfl (hown2.out.on ((Oo _ _).alloc (Nat.le_refl _) _)) (.slice (some ⟨wr.heap.size,0,none⟩) 1 1) [c] rfl (bP wr c aN) (by have := HP0.out;simp;omega) (by have := HW3.out;simp;omega) ?_);intro v5 w4 ho4 hg4 hloc;have HB4:=O (((Oo wr.heap.size wr).alloc (Nat.le_refl _) (.cells #[.int .u8 (B8 c)] 5)).mono HW3.out |>.trans ((hown2.out.on ((Oo _ _).alloc (Nat.le_refl _) _)).below hg4 (by have := HW3.out;simp;omega)));have HO4:=O ho4;clear ho4 hg4 hloc)
     go_roundw
     case rel=>exact⟨5,by decide,by go_num,HO4.out.rd.form1 (by have := HP0.out;have := HPL.out;simp[be8];omega),O (by have h:=HO4.out;rw[List.append_assoc,←ET.out] at h;exact h),O (hsw2.out.keep (Nat.le_refl _) HW1.out HB4.out)⟩
     case measure=>simp[intOf]
    ·have et:(be8 (8*M.length)).take (5+1)=(be8 (8*M.length)).take 5++[UInt8.ofNat (8*M.length / 2 ^ 16)]:=rfl
     have ev:NI / 65536 % 256=B8 (UInt8.ofNat (8*M.length / 2 ^ 16)):=by rw[eF,HNI.out];omega
     skip
     generalize hc:UInt8.ofNat (8*M.length / 2 ^ 16)=c at et ev;have em:B8 c % 256=B8 c:=cI c;have ET:=O et;clear et hc
     go_wp2_with (at_builtin;go_loud (refine br aN rfl (.tmp 26) (.tmp 33) rfl (w.heap.size+2) _ _ rfl (hown2.out.on ((Oo _ _).alloc (Nat.le_refl _) _)) (.slice (some ⟨wr.heap.size,0,none⟩) 1 1) [c] rfl (bP wr c aN) (by have := HP0.out;simp;omega) (by have := HW3.out;simp;omega) ?_);intro v5 w4 ho4 hg4 hloc;have HB4:=O (((Oo wr.heap.size wr).alloc (Nat.le_refl _) (.cells #[.int .u8 (B8 c)] 5)).mono HW3.out |>.trans ((hown2.out.on ((Oo _ _).alloc (Nat.le_refl _) _)).below hg4 (by have := HW3.out;simp;omega)));have HO4:=O ho4;clear ho4 hg4 hloc)
     go_roundw
     case rel=>exact⟨6,by decide,by go_num,HO4.out.rd.form1 (by have := HP0.out;have := HPL.out;simp[be8];omega),O (by have h:=HO4.out;rw[List.append_assoc,←ET.out] at h;exact h),O (hsw2.out.keep (Nat.le_refl _) HW1.out HB4.out)⟩
     case measure=>simp[intOf]
    ·have et:(be8 (8*M.length)).take (6+1)=(be8 (8*M.length)).take 6++[UInt8.ofNat (8*M.length / 2 ^ 8)]:=rfl
     have ev:NI / 256 % 256=B8 (UInt8.ofNat (8*M.length / 2 ^ 8)):=by rw[eF,HNI.out];omega
     skip
     generalize hc:UInt8.ofNat (8*M.length / 2 ^ 8)=c at et ev;have em:B8 c % 256=B8 c:=cI c;have ET:=O et;clear et hc
     go_wp2_with (at_builtin;go_loud (refine br aN rfl (.tmp 26) (.tmp 33) rfl (w.heap.size+2) _ _ rfl (hown2.out.on ((Oo _ _).alloc (Nat.le_refl _) _)) (.slice (some ⟨wr.heap.size,0,none⟩) 1 1) [c] rfl (bP wr c aN) (by have := HP0.out;simp;omega) (by have := HW3.out;simp;omega) ?_);intro v5 w4 ho4 hg4 hloc;have HB4:=O (((Oo wr.heap.size wr).alloc (Nat.le_refl _) (.cells #[.int .u8 (B8 c)] 5)).mono HW3.out |>.trans ((hown2.out.on ((Oo _ _).alloc (Nat.le_refl _) _)).below hg4 (by have := HW3.out;simp;omega)));have HO4:=O ho4;clear ho4 hg4 hloc)
     go_roundw
     case rel=>exact⟨7,by decide,by go_num,HO4.out.rd.form1 (by have := HP0.out;have := HPL.out;simp[be8];omega),O (by have h:=HO4.out;rw[List.append_assoc,←ET.out] at h;exact h),O (hsw2.out.keep (Nat.le_refl _) HW1.out HB4.out)⟩
     case measure=>simp[intOf]
    ·have et:(be8 (8*M.length)).take (7+1)=(be8 (8*M.length)).take 7++[UInt8.ofNat (8*M.length / 2 ^ 0)]:=rfl
     have ev:NI % 256=B8 (UInt8.ofNat (8*M.length / 2 ^ 0)):=by rw[eF,HNI.out];omega
     skip
     generalize hc:UInt8.ofNat (8*M.length / 2 ^ 0)=c at et ev;have em:B8 c % 256=B8 c:=cI c;have ET:=O et;clear et hc
     go_wp2_with (at_builtin;go_loud (refine br aN rfl (.tmp 26) (.tmp 33) rfl (w.heap.size+2) _ _ rfl (hown2.out.on ((Oo _ _).alloc (Nat.le_refl _) _)) (.slice (some ⟨wr.heap.size,0,none⟩) 1 1) [c] rfl (bP wr c aN) (by have := HP0.out;simp;omega) (by have := HW3.out;simp;omega) ?_);intro v5 w4 ho4 hg4 hloc;have HB4:=O (((Oo wr.heap.size wr).alloc (Nat.le_refl _) (.cells #[.int .u8 (B8 c)] 5)).mono HW3.out |>.trans ((hown2.out.on ((Oo _ _).alloc (Nat.le_refl _) _)).below hg4 (by have := HW3.out;simp;omega)));have HO4:=O ho4;clear ho4 hg4 hloc)
     go_roundw
     case rel=>exact⟨8,by decide,by go_num,HO4.out.rd.form1 (by have := HP0.out;have := HPL.out;simp[be8];omega),O (by have h:=HO4.out;rw[List.append_assoc,←ET.out] at h;exact h),O (hsw2.out.keep (Nat.le_refl _) HW1.out HB4.out)⟩
     case measure=>simp[intOf]
    ·have hcv:=b6 hown2.out.rd
     have HSV2:Hid (StV M (.agg (stc s0 bk0 M.length))):=O (by have h:=HSV.out;rw[hs0] at h;exact h)
     have hPD:M++(P0++(be8 (8*M.length)).take 8)=gj M:=by rw[←hP0.out,List.append_assoc];rfl
     have hPL2:M.length+(P0++(be8 (8*M.length)).take 8).length≤1000000000000:=by
      have h1:=HP0.out;have h2:=HLEN.out;have h3:((be8 (8*M.length)).take 8).length=8:=rfl;rw[List.length_append,h3]
      omega
     have HPL2:=O hPL2;have HPD:=O hPD;clear hPD hPL2 HNI hn0 hn1;generalize P0++(be8 (8*M.length)).take 8=PD at hcv HPL2 HPD hown2
     go_wp2_with (first
      |(refine wpList_load_row rfl 135 (.tmp 1) rfl w.heap.size rfl _ _ (0,0) _ hsw2.out.b Tryz.underlying135 rfl (r9 _ _ _ hsw2.out.lb) ?_)
      |(go_at_call 67;refine(Qv M PD _ _ HSV2.out hsw2.out.k HPL2.out).mono ?_;rintro e w1 ⟨v1,rfl,⟨bk1,rfl,hbl,-⟩,hb1⟩;rw[HPD.out];have HBL:=O hbl;have SW1:=O (hsw2.out.keep HW3.out HW1.out hb1);clear hbl hb1;generalize hs1:eJ (gj M) ((gj M).length / 64)=s1;generalize hn1:(gj M).length=n1)
      |(refine aM (T:=135) (stc s1 bk1 n1) (r9 _ _ _ HBL.out) rfl (.tmp 1) (.tmp 39) rfl w.heap.size (stc s0 bk0 M.length) rfl rfl (tN _ _ _) (by rw[gA _ _ _ HBL.out,gA _ _ _ SW1.out.lb]) SW1.out.b ?_;intro wd hgd hod hbd;have HT:Hid (TW w s1 bk1 n1 wd.heap.size 0 (wd.alloc (.cells (brow z32) 139))):=(O (Mj SW1.out HBL.out hgd hod (hbd _ (Nat.le_refl _))));clear hgd hod hbd))
     have HS1:Hid (sha M=eb s1):=O (by rw[←hs1];rfl);clear hs1 hn1 hcv
     go_loopw [40] (fun o wr=>∃i:Nat,i≤32∧o = .int .i64 i∧Hid (TW w s1 bk1 n1 wd.heap.size i wr)) (fun o _=>32-(intOf o).toNat)
     case atStart=>exact⟨0,by omega,rfl,HT⟩
     case round =>
      obtain⟨i,hi,rfl,htw⟩:=hrel
      by_cases h32:i<32
      ·obtain⟨q,r,hqr,hq8,hr4⟩:∃q r,i=4*q+r∧q<8∧r<4:=⟨i / 4,i % 4,by omega,by omega,by omega⟩
       have hcx:wr.cell? ⟨w.heap.size,q,none⟩=some (.int .u32 (W32 (w16 (hs s1) q))):=by rw[cell_of_row _ _ _ _ _ _ htw.out.b,Rj _ _ _ _ hq8]
       have hfz:=frozen_of_row _ _ i _ _ htw.out.o
       have hq:(i:Int) / 4=(q:Int):=by omega
       have hbx:(eb s1)[i]? = (w4 (w16 (hs s1) q))[r]? := by rw[hqr];exact QH s1 q r hq8 hr4
       have hL:i<32:=h32
       have hcell:wr.cell? ⟨wd.heap.size,i,none⟩=some (.int .u8 (B8 (byteAt (mF s1 i) i))):=by
        rw[cell_of_row _ _ _ _ _ _ htw.out.o];exact nH _ _ (by rw[qI _ _ hi];exact h32)
       have hr:(i:Int) % 4=(r:Int):=by omega
       generalize w16 (hs s1) q=x at hcx hbx;have HQR:=O hqr;clear hqr
       rcases (by omega:r=0∨r=1∨r=2∨r=3) with rfl|rfl|rfl|rfl
       ·have HX:Hid ((eb s1)[i]?=some (shr x 24).toUInt8):=O hbx
        clear hbx;go_wp2;go_roundw
        case rel=>exact⟨i+1,h32,by go_num,O (htw.out.next h32 _ HX.out)⟩
        case measure=>simp[intOf];omega
       ·have HX:Hid ((eb s1)[i]?=some (shr x 16).toUInt8):=O hbx
        clear hbx;go_wp2;go_roundw
        case rel=>exact⟨i+1,h32,by go_num,O (htw.out.next h32 _ HX.out)⟩
        case measure=>simp[intOf];omega
       ·have HX:Hid ((eb s1)[i]?=some (shr x 8).toUInt8):=O hbx
        clear hbx;go_wp2;go_roundw
        case rel=>exact⟨i+1,h32,by go_num,O (htw.out.next h32 _ HX.out)⟩
        case measure=>simp[intOf];omega
       ·have HX:Hid ((eb s1)[i]?=some x.toUInt8):=O hbx
        clear hbx;go_wp2;go_roundw
        case rel=>exact⟨i+1,h32,by go_num,O (htw.out.next h32 _ HX.out)⟩
        case measure=>simp[intOf];omega
      ·have h32':i=32:=by omega
       subst h32';have HLX:(mF s1 32).length=32:=qI _ _ (Nat.le_refl _);clear h32 hi
       go_wp2_with (first
        |(refine wpList_load_row rfl 139 (.tmp 6) rfl wd.heap.size rfl _ _ (0,0) _ htw.out.o Tryz.underlying139 rfl (ir _ HLX) ?_)
        |(refine aM (T:=139) (brow (mF s1 32)) (ir _ HLX) rfl (.tmp 2) (.tmp 57) rfl (w.heap.size+1) (brow z32) rfl rfl (iW _) (by rw[bV,bV,HLX];rfl) htw.out.r ?_;intro we hge hoe hbe))
       (try simp only[Exit.inBlock,Exit.then])
       refine bodyPost_ret (results_cell_row rfl _ _ (w.heap.size+1) _ (brow (mF s1 32)) (0,0) _ rfl hge Tryz.underlying139 rfl (ir _ HLX)) rfl ?_;exact⟨by rw[BD,HS1.out],htw.out.below.trans (hbe _ (by omega))⟩
  ·have tq:¬((M.length:Int)+(1+(j:Int))) % 64=56:=by intro h;exact hq (hz1.1 (by omega))
   have tq2:(((M.length:Int)+(1+(j:Int))) % 64 != 56)=true:=by simpa using tq
   have HJ:Hid (j+1≤kS M.length):=O (by omega);clear hz1 hq tq hj
   go_wp2_with (at_builtin;(refine br aN rfl (.tmp 20) (.tmp 21) rfl (w.heap.size+2) (.slice a (1+j) cap) ([128]++List.replicate j 0) rfl (hown.out.on ((Oo _ _).alloc (Nat.le_refl _) _)) (.slice (some ⟨wr.heap.size,0,none⟩) 1 1) [0] rfl (bP wr (0:UInt8) aN) (by simp;have := jz M.length;have := HJ.out;omega) (by have := HW2.out;simp;omega) ?_);intro v5 w4 ho4 hg4 hloc;have HB4:=O (((Oo wr.heap.size wr).alloc (Nat.le_refl _) (.cells #[.int .u8 0] 5)).mono HW2.out |>.trans ((hown.out.on ((Oo _ _).alloc (Nat.le_refl _) _)).below hg4 (by have := HW2.out;simp;omega)));have HO4:=O ho4;clear ho4 hg4 hloc)
   go_roundw
   case rel=>exact⟨j+1,HJ.out,HO4.out.rd.form1 (by simp;omega),O (by have h:=HO4.out;rw[List.append_assoc,←List.replicate_succ'] at h;exact h),O (hsw.out.keep (Nat.le_refl _) HW1.out HB4.out)⟩
   case measure =>
    obtain⟨a5,c5,e5⟩:=HO4.out.rd.form1 (n:=1+j+1) (by simp;omega);have := HJ.out;have := jz M.length
    show 70-iZ v5<70-iZ (.slice a (1+j) cap)
    rw[e5];simp only[iZ]
    omega
end
end Go.Proofs.YtmfiaadjdbemnaaGreatDoor
