/- Contracts and lemmas. No condition. -/
import Derived.Test.YtmfiaadjdbemnaaGreatDoorSB03
import Derived.Deep.MidRow
import Derived.Great.BuildSlice
import Derived.Laws.CopyRow
set_option maxRecDepth 100000
set_option maxHeartbeats 8000000
set_option linter.unusedSimpArgs false
set_option linter.unusedVariables false
namespace Go.Proofs.YtmfiaadjdbemnaaGreatDoor
open Tryz
section
variable {ops:Array Oper} {rest:List Oper} {o:Oper} {a:Act} {w:World} {Q:Exit→Act→World→Prop}
section
open Go.RowKit
def stc (s:HS) (bk:List UInt8) (n:Nat):Array Value:=((hs s).map (fun x=>Value.int .u32 (W32 x))++bk.map (fun x=>Value.int .u8 (B8 x))++[Value.int .u64 n]).toArray
theorem gA (s:HS) (bk:List UInt8) (n:Nat) (h:bk.length=64):(stc s bk n).size=73:=by simp[stc,gK,h]
theorem tN (s:HS) (bk:List UInt8) (n:Nat):((stc s bk n).all fun u=>u.oneCell')=true:=by
 have h1:∀x:UInt32,(Value.int .u32 (W32 x)).oneCell'=true:=fun _=>rfl;have h2:∀x:UInt8,(Value.int .u8 (B8 x)).oneCell'=true:=fun _=>rfl;have h3:(Value.int .u64 n).oneCell'=true:=rfl
 simp[stc,h1,h2,h3]
theorem Rj (s:HS) (bk:List UInt8) (n i:Nat) (hi:i<8):(stc s bk n)[i]?=some (.int .u32 (W32 (w16 (hs s) i))):=by
 have h:i<(hs s).length:=by rw[gK];exact hi
 simp only[stc,List.getElem?_toArray,R_];rw[List.getElem?_append_left (by simpa using h),List.getElem?_map,K_ h,Option.map_some]
 simp[w16,h]
theorem WR (s:HS) (bk:List UInt8) (n i:Nat) (hi:i<bk.length):(stc s bk n)[8+i]?=some (.int .u8 (B8 (byteAt bk i))):=by
 simp only[stc,List.getElem?_toArray,R_];rw[List.getElem?_append_right (by simp[gK]),List.length_map,gK,Nat.add_sub_cancel_left,List.getElem?_append_left (by simpa using hi),List.getElem?_map,K_ hi,Option.map_some]
 simp[byteAt,hi]
theorem FB (s:HS) (bk:List UInt8) (n:Nat) (h:bk.length=64):(stc s bk n)[72]?=some (.int .u64 n):=by
 simp only[stc,List.getElem?_toArray,R_];rw[List.getElem?_append_right (by simp[gK]),List.length_map,gK,List.getElem?_append_right (by simp[h]),List.length_map,h]
 rfl
def zb:List UInt8:=List.replicate 64 0
def z73:HS:=⟨0,0,0,0,0,0,0,0⟩
theorem Na:(prog.info? 135).map (·.zero)=some (some (.agg (stc z73 zb 0))):=by kernel_rfl
theorem Aj (w:World):(zeroValue 135).run prog w = .ok (.agg (stc z73 zb 0)) w:=by
 have h:=Na;generalize stc z73 zb 0=L at h ⊢
 cases hq:prog.info? 135 with
 | none=>rw[hq] at h;cases h
 | some i =>
   rw[hq] at h
   simp at h
   simp[zeroValue,typeInfo,hq,h]
theorem J4:(prog.info? 135).map (·.size)=some 73:=by kernel_rfl
theorem r9 (s:HS) (bk:List UInt8) (n:Nat) (h:bk.length=64):(prog.info? 135).map (·.size)=some (stc s bk n).size:=by rw[gA _ _ _ h];exact J4
def kY:List UInt8→Nat→List UInt8→List UInt8
 | bk,_,[]=>bk
 | bk,n,c::t=>kY (bk.set (n % 64) c) (n+1) t
def lx (M:List UInt8):List UInt8:=kY zb 0 M
def stv (M:List UInt8):Value := .agg (stc (eJ M (M.length / 64)) (lx M) M.length)
def StV (M:List UInt8) (v:Value):Prop :=
 ∃bk:List UInt8,v = .agg (stc (eJ M (M.length / 64)) bk M.length)∧bk.length=64∧bk.take (M.length % 64)=M.drop (64*(M.length / 64))∧bk=lx M
theorem StV.eq {M:List UInt8} {v:Value} (h:StV M v):v=stv M:=by
 obtain⟨bk,rfl,_,_,rfl⟩:=h
 rfl
theorem yU (x y:List UInt8) (bk:List UInt8) (n:Nat):kY bk n (x++y)=kY (kY bk n x) (n+x.length) y:=by
 induction x generalizing bk n with
 | nil=>rfl
 | cons c x ih=>rw[List.cons_append,kY,kY,ih,Z_,show n+1+x.length=n+(x.length+1) by omega]
theorem xm (x:List UInt8) (bk:List UInt8) (n:Nat):(kY bk n x).length=bk.length:=by
 induction x generalizing bk n with
 | nil=>rfl
 | cons c x ih=>rw[kY,ih,List.length_set]
theorem om (M:List UInt8):(lx M).length=64:=xm _ _ _
theorem Ln {fn:Func} {p:Tmp} (h:fn.results = #[.cell p 135]) (tmps:Array Value) (w:World) (g:Nat) (s:HS) (bk:List UInt8) (n:Nat) (hb:bk.length=64)
  (hp:tmps.getD p undef = .pointer (some ⟨g,0,none⟩)) (hg:w.heap[g]?=some (.cells (stc s bk n) 135 (0,0))):(results fn tmps).run prog w = .ok (.agg (stc s bk n)) w :=
 results_cell_row h tmps w g _ (stc s bk n) (0,0) _ hp hg underlying135 rfl (r9 _ _ _ hb)
theorem Vs (T:TypeId) (i:Nat) (v:Value) (cs:Array Value) (hb:prog.built T [(i,v)]=some cs) (hg:o.guard=none) (x:Operand) (ho:o.op = .build T #[(i,x)])
  (hx:a.eval x=v) (h:wpList prog ops Q rest (a.put o.dst (.agg cs)) w):wpList prog ops Q (o::rest) a w:=by
 have e:(prog.built T ((#[(i,x)]:Array (Nat × Operand)).map fun (i,x)=>(i,a.eval x)).toList)=some cs:=by
  simp only[List.map_toArray,List.map_cons,List.map_nil,hx];exact hb
 refine wpList_build hg T _ ho (by rw[e];rfl) ?_;rw[e];exact h
theorem IZ:prog.built 135 [(0,.agg #[.int .u32 1779033703,.int .u32 3144134277,.int .u32 1013904242,.int .u32 2773480762,.int .u32 1359893119,.int .u32 2600822924,.int .u32 528734635,.int .u32 1541459225])]=some (stc iv zb 0):=by kernel_rfl
attribute [local irreducible] Calls stc eJ
theorem Ny (w:World):Calls prog 66 #[] w fun e w'=>e = .returned (.agg (stc iv zb 0))∧Below w.heap.size w w':=by
 have hz:=Aj
 go_enter func66,ntmps66
 go_wp2_with (first
  |(refine Vs 135 0 _ _ IZ rfl (.tmp 1) rfl rfl ?_)
  |(refine aM (T:=135) (stc iv zb 0) (r9 _ _ _ rfl) rfl (.tmp 0) (.tmp 2) rfl w.heap.size (stc z73 zb 0) rfl rfl (tN _ _ _) (by rw[gA _ _ _ rfl,gA _ _ _ rfl]) (heap_alloc_new w _) ?_;intro w2 hg2 ho2 hb2))
 (try simp only[Exit.inBlock,Exit.then])
 refine g_ (Ln rfl _ _ w.heap.size iv zb 0 rfl rfl hg2) rfl ⟨rfl,?_⟩;exact((O_ _ w).alloc (A_ _) _).trans (hb2 _ (A_ _))
end
section
open Go.RowKit
def bcs (l:List UInt8):List Value:=l.map fun x => .int .u8 (B8 x)
theorem iP (l:List UInt8):(bcs l).length=l.length:=by simp[bcs]
theorem Nx (l:List UInt8):∀v∈bcs l,v.oneCell'=true:=by
 intro v hv;obtain⟨x,_,rfl⟩:=List.mem_map.1 hv
 rfl
theorem zE (w:World) (l:List UInt8) (ty:TypeId) (g off dLen dCap n:Nat) (cur:Array Value) (t:TypeId) (hg:w.heap[g]?=some (.cells cur t (0,0))) (hn:Nat.min l.length dLen=n) (hfit:off+n≤cur.size) :
  (Builtin.copy_ #[80,9] ty #[.slice (some ⟨g,off,none⟩) dLen dCap,.string ⟨l.toArray⟩]).run prog w =
   .ok (goInt n) (w.setRow g (cur.toList.take off++bcs (l.take n)++cur.toList.drop (off+n)).toArray):=by
 have hnl:n≤l.length:=by rw[←hn];exact Nat.min_le_left _ _
 have hlen:(bcs (l.take n)).length=n:=by rw[iP,b_,Nat.min_eq_left hnl]
 have hst:=run_storeCells_at prog g off t (bcs (l.take n)) 0 cur w hg (by rw[hlen];simpa using hfit) (Nx _);rw[hlen] at hst;simp only[Nat.add_zero] at hst;have hsz:(ByteArray.mk l.toArray).size=l.length:=rfl
 have htk:List.take n (List.map (fun b:UInt8=>Value.int IntKind.u8 (b.toNat:Int)) l)=bcs (l.take n):=by
  rw[←List.map_take];rfl
 have hs1:(prog.info? 5).map (·.size)=some 1:=by kernel_rfl
 cases hq:prog.info? 5 with
 | none=>simp[hq] at hs1
 | some i =>
   have hi:i.size=1:=by simpa [hq] using hs1
   simp[Builtin.copy_,run_underlying underlying80,Builtin.lenOf,Builtin.firstCells,sizeOf,typeInfo,hq,hi,hsz,hn]
   rw[htk,hst]
   simp
theorem Jj (hgd:o.guard=none) (d s:Operand)
  (ho:o.op = .call { callee := .builtin .copy,args := #[d,s],argTypes := #[80,9] }) (l:List UInt8) (g off dLen dCap n:Nat) (hd:a.eval d = .slice (some ⟨g,off,none⟩) dLen dCap) (hs:a.eval s = .string ⟨l.toArray⟩)
  (cur:Array Value) (t:TypeId) (hg:w.heap[g]?=some (.cells cur t (0,0))) (hn:Nat.min l.length dLen=n) (hfit:off+n≤cur.size)
  (h:∀w',w'.heap[g]?=some (.cells (cur.toList.take off++bcs (l.take n)++cur.toList.drop (off+n)).toArray t (0,0))→(∀k,k≠g→w'.heap[k]? = w.heap[k]?)→(∀B,B≤g→Below B w w')→wpList prog ops Q rest (a.put o.dst (goInt n)) w'):wpList prog ops Q (o::rest) a w:=by
 refine wpList_plain hgd fun K hK => ?_;have hrun:=zE w l o.type g off dLen dCap n cur t hg hn hfit;unfold Oper.wp
 simp[execOp,ho,resolve,invoke,builtin,hd,hs,hrun,Result.andThen]
 refine hK _ _ ?_
 simpa using h _ (setRow_heap _ _ _ _ _ _ hg) (fun k hk=>aj _ _ _ _ hk) (fun B hB=>aK hB)
open Go.RowKit
theorem Aq (m x:List UInt8) (n:Nat) (h:64*n≤m.length):eJ (m++x) n=eJ m n:=by
 induction n with
 | zero=>rfl
 | succ n ih =>
   rw[eJ,eJ,ih (by omega)]
   congr 1
   rw[List.drop_append_of_le_length (by omega),List.take_append_of_le_length (by rw[S_];omega)]
def lay (bk:List UInt8) (a:Nat) (x:List UInt8):List UInt8:=bk.take a++x++bk.drop (a+x.length)
theorem zc (bk:List UInt8) (a:Nat) (x:List UInt8) (hb:bk.length=64) (h:a+x.length≤64):(lay bk a x).length=64:=by
 simp[lay,hb];omega
theorem Bo (bk:List UInt8) (a:Nat) (x:List UInt8) (hb:bk.length=64) (h:a+x.length≤64):(lay bk a x).take (a+x.length)=bk.take a++x:=by
 unfold lay;rw[List.take_append_of_le_length (by simp[hb];omega),Y_ (by simp[hb];omega)]
theorem GB (x:List UInt8) (bk:List UInt8) (n:Nat) (hb:bk.length=64) (h:n % 64+x.length≤64):kY bk n x=lay bk (n % 64) x:=by
 induction x generalizing bk n with
 | nil=>simp[kY,lay]
 | cons c x ih =>
   rw[kY]
   cases x with
   | nil =>
     simp only[kY,lay,Z_,List.length_nil];rw[List.set_eq_take_append_cons_drop,G_ (by omega)]
     simp
   | cons d x =>
     simp only[Z_] at h
     have e:(n+1) % 64=n % 64+1:=by omega
     rw[ih _ _ (by rw[List.length_set];exact hb) (by simp only[Z_];omega),e];unfold lay
     have e1:(bk.set (n % 64) c).take (n % 64+1)=bk.take (n % 64)++[c]:=by
      rw[List.set_eq_take_append_cons_drop,G_ (by omega),List.take_append,b_,hb,Nat.min_eq_left (by omega),Y_ (by rw[b_];omega),show n % 64+1-n % 64=1 by omega]
      rfl
     have e2:(bk.set (n % 64) c).drop (n % 64+1+(d::x).length)=bk.drop (n % 64+(c::d::x).length):=by
      rw[List.drop_set_of_lt (by simp only[Z_];omega)]
      congr 1
      simp only[Z_]
      omega
     rw[e1,e2]
     simp
theorem yo (N x:List UInt8) (h:N.length % 64+x.length≤64):lx (N++x)=lay (lx N) (N.length % 64) x:=by
 unfold lx;rw[yU,a_,GB _ _ _ (xm _ _ _) h]
theorem Fy (N x bk:List UInt8) (hb:bk.length=64) (ht:bk.take (N.length % 64)=N.drop (64*(N.length / 64))) (h:N.length % 64+x.length<64) :
  (N++x).length / 64=N.length / 64∧(N++x).length % 64=N.length % 64+x.length∧eJ (N++x) (N.length / 64)=eJ N (N.length / 64)∧(lay bk (N.length % 64) x).take (N.length % 64+x.length)=(N++x).drop (64*(N.length / 64)):=by
 refine⟨by rw[E_];omega,by rw[E_];omega,Aq _ _ _ (by omega),?_⟩;rw[Bo _ _ _ hb (by omega),ht,List.drop_append_of_le_length (by omega)]
theorem Fx (N x bk:List UInt8) (hb:bk.length=64) (ht:bk.take (N.length % 64)=N.drop (64*(N.length / 64))) (h:N.length % 64+x.length=64) :
  (N++x).length / 64=N.length / 64+1∧(N++x).length % 64=0∧eJ (N++x) (N.length / 64+1)=yK (eJ N (N.length / 64)) (lay bk (N.length % 64) x)∧(N++x).drop (64*(N.length / 64+1))=[]:=by
 refine⟨by rw[E_];omega,by rw[E_];omega,?_,List.drop_eq_nil_of_le (by rw[E_];omega)⟩;rw[eJ,Aq _ _ _ (by omega)]
 congr 1
 have h1:=Bo bk (N.length % 64) x hb (by omega);rw[h,Y_ (by rw[zc _ _ _ hb (by omega)];omega),ht] at h1;rw[h1,List.drop_append_of_le_length (by omega),Y_ (by rw[E_,S_];omega)]
theorem lw (s:HS) (bk:List UInt8) (n:Nat):(stc s bk n).toList=(hs s).map (fun x=>Value.int .u32 (W32 x))++(bcs bk++[Value.int .u64 n]):=by
 simp[stc,bcs]
theorem L8 (s:HS) (bk x:List UInt8) (n a:Nat) (hb:bk.length=64) (h:a+x.length≤64) :
  ((stc s bk n).toList.take (8+a)++bcs x++(stc s bk n).toList.drop (8+a+x.length)).toArray=stc s (lay bk a x) n:=by
 apply Array.ext'
 rw[lw,lw]
 have h8:((hs s).map (fun x=>Value.int .u32 (W32 x))).length=8:=by rw[List.length_map,gK]
 generalize (hs s).map (fun x=>Value.int .u32 (W32 x))=H at h8
 have e1:(H++(bcs bk++[Value.int .u64 n])).take (8+a)=H++(bcs bk).take a:=by
  rw[List.take_append,h8,Y_ (by omega),Nat.add_sub_cancel_left,List.take_append_of_le_length (by rw[iP];omega)]
 have e2:(H++(bcs bk++[Value.int .u64 n])).drop (8+a+x.length)=(bcs bk).drop (a+x.length)++[Value.int .u64 n]:=by
  rw[List.drop_append,h8,List.drop_eq_nil_of_le (by omega),List.nil_append,show 8+a+x.length-8=a+x.length by omega,List.drop_append_of_le_length (by rw[iP];omega)]
 rw[e1,e2]
 simp[lay,bcs]
theorem P5 (s:HS) (bk:List UInt8) (n m:Nat) (hb:bk.length=64):(stc s bk n).setIfInBounds 72 (.int .u64 m)=stc s bk m:=by
 apply Array.ext'
 rw[Array.toList_setIfInBounds,lw,lw]
 have h8:((hs s).map (fun x=>Value.int .u32 (W32 x))).length=8:=by rw[List.length_map,gK]
 generalize (hs s).map (fun x=>Value.int .u32 (W32 x))=H at h8;rw[List.set_append_right _ _ (by omega),h8,List.set_append_right _ _ (by rw[iP];omega),iP,hb]
 rfl
theorem L9 (s s':HS) (bk:List UInt8) (n:Nat):((stc s bk n).toList.take 0++(row (hs s')).toList++(stc s bk n).toList.drop 8).toArray=stc s' bk n:=by
 apply Array.ext'
 rw[lw,lw]
 have h8:((hs s).map (fun x=>Value.int .u32 (W32 x))).length=8:=by rw[List.length_map,gK]
 have hr:(row (hs s')).toList=(hs s').map (fun x=>Value.int .u32 (W32 x)):=by simp[row]
 rw[hr];generalize (hs s).map (fun x=>Value.int .u32 (W32 x))=H at h8;rw[List.drop_append,h8,List.drop_eq_nil_of_le (by omega)]
 simp
theorem P3 (hgd:o.guard=none) (x y:Operand) (ho:o.op = .store 131 x y)
  (g:Nat) (s s':HS) (bk:List UInt8) (n:Nat) (hx:a.eval x = .pointer (some ⟨g,0,none⟩)) (hy:a.eval y = .agg (row (hs s'))) (hb:bk.length=64) (hg:w.heap[g]?=some (.cells (stc s bk n) 135 (0,0)))
  (h:∀w',w'.heap[g]?=some (.cells (stc s' bk n) 135 (0,0))→(∀k,k≠g→w'.heap[k]? = w.heap[k]?)→(∀B,B≤g→Below B w w')→wpList prog ops Q rest (a.put o.dst undef) w'):wpList prog ops Q (o::rest) a w:=by
 refine wpList_plain hgd fun K hK => ?_
 have hl:(row (hs s')).toList.length=8:=by simp[row,gK]
 have hst:=run_storeCells_at prog g 0 135 (row (hs s')).toList 0 (stc s bk n) w hg (by rw[hl,gA _ _ _ hb];omega) (fun v hv=>by
  have := l7 (hs s');rw[Array.all_eq_true_iff_forall_mem] at this
  exact this v (by simpa using hv))
 rw[hl] at hst;simp only[Nat.add_zero,a_] at hst;rw[L9] at hst;have hi:=vR (hs s') (gK s')
 cases hq:prog.info? 131 with
 | none=>rw[hq] at hi;cases hi
 | some i =>
   have hz:(row (hs s')).size=i.size:=by rw[hq] at hi;simpa using hi.symm
   have hc:(Value.agg (row (hs s'))).cells=row (hs s'):=rfl
   have h8:(row (hs s')).size=8:=by rw[co,gK]
   unfold Oper.wp
   simp[execOp,ho,hx,hy,Instr.storeAt,Instr.sureAddr,storeVar,typeInfo,hq,←hz,hc,h8,hst,Result.andThen]
   exact hK _ _ (h _ (setRow_heap _ _ _ _ _ _ hg) (fun k hk=>aj _ _ _ _ hk) (fun B hB=>aK hB))
open Go.RowKit
structure AW (w:World) (s:HS) (bk:List UInt8) (n:Nat) (wr:World):Prop where
 b:wr.heap[w.heap.size]?=some (.cells (stc s bk n) 135 (0,0))
 r:∃z,wr.heap[w.heap.size+1]?=some (.cells z 135 (0,0))∧z.size=73
 k:KAt wr
 below:Below w.heap.size w wr
 lb:bk.length=64
theorem AW.set {w wr w':World} {s s':HS} {bk bk':List UInt8} {n n':Nat} (h:AW w s bk n wr) (hw:0<w.heap.size) (hl:bk'.length=64) (hg:w'.heap[w.heap.size]?=some (.cells (stc s' bk' n') 135 (0,0))) (ho:∀k,k≠w.heap.size→w'.heap[k]? = wr.heap[k]?) (hb:∀B,B≤w.heap.size→Below B wr w'):AW w s' bk' n' w' :=
 ⟨hg,by rw[ho _ (by omega)];exact h.r,by unfold KAt;rw[ho _ (by omega)];exact h.k,h.below.trans (hb _ (A_ _)),hl⟩
theorem AW.on {w wr w':World} {s:HS} {bk:List UInt8} {n:Nat} (h:AW w s bk n wr) (hw:0<w.heap.size) (hb:Below wr.heap.size wr w'):AW w s bk n w':=by
 obtain⟨z,hz,hz2⟩:=h.r;have h1:=(Q_.1 h.b).1;have h2:=(Q_.1 hz).1;have h3:=h.k.lt;exact⟨by rw[hb.block _ h1];exact h.b,⟨z,by rw[hb.block _ h2];exact hz,hz2⟩,by unfold KAt;rw[hb.block _ h3];exact h.k,h.below.trans (hb.mono h.below.size),h.lb⟩
theorem AW.setN {w wr:World} {s:HS} {bk:List UInt8} {n:Nat} (h:AW w s bk n wr) (hw:0<w.heap.size) (m:Nat):AW w s bk m (wr.setCell ⟨w.heap.size,72,none⟩ (.int .u64 m)):=by
 rw[au _ _ _ _ _ _ _ h.b,P5 _ _ _ _ h.lb];exact h.set hw h.lb (setRow_heap _ _ _ _ _ _ h.b) (fun k hk=>aj _ _ _ _ hk) (fun B hB=>aK hB)
theorem AM (l:List UInt8) (n:Nat):(l.drop n).take (l.length-n)=l.drop n:=Y_ (by rw[S_];exact A_ _)
theorem mU (l:List UInt8):eB.flat l=bcs l:=by
 induction l with
 | nil=>rfl
 | cons x l ih=>rw[El.flat,ih];rfl
theorem AW.rd {w wr:World} {s:HS} {bk:List UInt8} {n:Nat} (h:AW w s bk n wr):RdE eB wr (.slice (some ⟨w.heap.size,8,none⟩) 64 64) bk:=by
 refine⟨_,64,by rw[h.lb],by rw[h.lb];exact A_ _,by unfold maxLen;omega,fun _=>⟨w.heap.size,8,rfl,(Q_.1 h.b).1,fun j u hu => ?_⟩⟩;rw[mU] at hu
 have hj:j<bk.length:=by have := (d_.1 hu).1;rwa [iP] at this
 rw[e_ _ _ _ _ _ _ h.b,WR _ _ _ _ hj,←hu]
 simp[bcs,byteAt,hj]
theorem AW.ld {w wr:World} {s:HS} {bk:List UInt8} {n:Nat} (h:AW w s bk n wr):(loadVar 131 ⟨w.heap.size,0,none⟩).run prog wr = .ok (.agg (row (hs s))) wr:=by
 have hr:(row (hs s)).toList=(hs s).map (fun x=>Value.int .u32 (W32 x)):=by simp[row]
 have h1:=run_loadVar_mid (P:=prog) wr w.heap.size 0 131 (row (hs s)).toList _ (fun j v hv=>by
  rw[hr] at hv
  have hj:j<8:=by have := (d_.1 hv).1;simpa [gK] using this
  rw[e_ _ _ _ _ _ _ h.b,a_,Rj _ _ _ _ hj,←hv]
  have hj2:j<(hs s).length:=by rw[gK];exact hj
  simp[w16,hj2]) underlying131 rfl (by rw[vR _ (gK s)];simp)
 simpa using h1
theorem Wz {ops:Array Oper} {C:World→Prop} {Q:Act→Prop} {a:Act} {o:Oper} {rest:List Oper} (hw:Region.wanted o (yielded ops a.tmps)=true) (ty:TypeId) (x:Operand) (ho:o.op = .load ty x)
  (g:Nat) (hx:a.eval x = .pointer (some ⟨g,0,none⟩)) (cs:Array Value) (hC:∀w',C w'→(loadVar ty ⟨g,0,none⟩).run prog w' = .ok (.agg cs) w')
  (h:wpQuiet prog ops C Q rest (a.put o.dst (.agg cs))):wpQuiet prog ops C Q (o::rest) a:=by
 unfold wpQuiet;rw[G_ hw];refine⟨.agg cs,fun w' hw' => ?_,h⟩;unfold Oper.quietAt execOp;simp only[ho,hx,Instr.loadAt,Instr.sureAddr,Sem.run_bind,Sem.run_pure,Result.andThen_ok,hC w' hw'];exact⟨rfl,rfl⟩
def Lu:Value→Nat
 | .string s=>s.size
 | _=>0
attribute [local irreducible] Calls stc eJ yK row
theorem Qv (M text:List UInt8) (v:Value) (w:World) (hv:StV M v) (hk:KAt w) (hlen:M.length+text.length≤1000000000000) :
  Calls prog 67 #[v,.string ⟨text.toArray⟩] w fun e w'=>∃v',e = .returned v'∧StV (M++text) v'∧Below w.heap.size w w':=by
 obtain⟨bk0,rfl,hb0,ht0,htb0⟩:=hv;have hz:=Aj;have hw1:0<w.heap.size:=hk.lt;have HW1:=O hw1;have HLEN:=O hlen
 have H0:Hid (AW w (eJ M (M.length / 64)) bk0 M.length ((w.alloc (.cells (stc (eJ M (M.length / 64)) bk0 M.length) 135)).alloc (.cells (stc z73 zb 0) 135))):=O
  ⟨by rw[bx _ _ _ (by simp),al _ _ _ rfl],⟨_,al _ _ _ (by simp),gA _ _ _ rfl⟩,by unfold KAt;rw[bx _ _ _ (by first |(simp;done)|(simp;omega)),bx _ _ _ hw1];exact hk,((O_ _ _).alloc (A_ _) _).alloc (by simp) _,hb0⟩
 have HT0:=O ht0;have HTB0:=O htb0;clear hk ht0 hb0 htb0
 go_enter func67,ntmps67
 go_wp2
 go_loopw [1] (fun o wr=>∃(k:Nat) (bk:List UInt8),k≤text.length∧o = .string ⟨(text.drop k).toArray⟩∧Hid (bk.take ((M++text.take k).length % 64)=(M++text.take k).drop (64*((M++text.take k).length / 64)))∧Hid (bk=lx (M++text.take k))∧Hid (AW w (eJ (M++text.take k) ((M++text.take k).length / 64)) bk (M++text.take k).length wr)) (fun o _=>Lu o)
 case atStart=>exact⟨0,bk0,N_ _,rfl,by simpa using HT0,by simpa using HTB0,by simpa using H0⟩
 case round =>
  obtain⟨k,bk,hk,rfl,hbt,htb,haw⟩:=hrel;clear hz
  have hnl:(M++text.take k).length≤1000000000000:=by have := HLEN.out;simp;omega
  generalize hN:M++text.take k=N at hbt htb haw hnl
  by_cases hlt:k<text.length
  ·have cn:wr.cell? ⟨w.heap.size,72,none⟩=some (.int .u64 N.length):=by rw[e_ _ _ _ _ _ _ haw.out.b,FB _ _ _ haw.out.lb]
   have ha:N.length % 64<64:=Nat.mod_lt _ (by decide)
   have hmod:((N.length:Nat):Int) % 64=((N.length % 64:Nat):Int):=by omega
   generalize hA:N.length % 64=a at ha hmod hbt;generalize hrem:text.drop k=rem
   have hrl:0<rem.length:=by rw[←hrem,S_];omega
   have hne:rem≠[]:=by intro e;rw[e] at hrl;simp at hrl
   have hemp:rem.isEmpty=false:=by cases rem with |nil=>exact absurd rfl hne|cons _ _=>rfl
   obtain⟨kk,hkk⟩:∃kk,Nat.min rem.length (64-a)=kk:=⟨_,rfl⟩
   have hk1:kk≤rem.length:=by rw[←hkk];exact Nat.min_le_left _ _
   have hk2:a+kk≤64:=by
    have : kk≤64-a:=by rw[←hkk];exact Nat.min_le_right _ _
    omega
   have hk3:0<kk:=by rw[←hkk];exact Nat.lt_min.2 ⟨hrl,by omega⟩
   have hxl:(rem.take kk).length=kk:=by rw[b_];omega
   have ha2:(a:Int)≤64:=by omega
   have HKK:=O hkk;have HK2:=O hk2;have HXL:=O hxl;clear hne hkk
   go_upto_region 4 with (refine Jj rfl (.tmp 15) (.tmp 16) rfl rem w.heap.size (8+a) (64-a) (64-a) kk rfl rfl (stc (eJ N (N.length / 64)) bk N.length) 135 haw.out.b HKK.out (by rw[gA _ _ _ haw.out.lb];have := HK2.out;omega) ?_;intro wa hga hoa hba;have hgb:wa.heap[w.heap.size]?=some (.cells (stc (eJ N (N.length / 64)) (lay bk a (rem.take kk)) N.length) 135 (0,0)):=(by rw[hga,←L8 _ _ _ _ _ haw.out.lb (by rw[HXL.out];exact HK2.out),HXL.out]);have H1:=O (haw.out.set HW1.out (zc _ _ _ haw.out.lb (by rw[HXL.out];exact HK2.out)) hgb hoa hba);clear hga hoa hba hgb)
   try dsimp only[Act.put]
   have kki:(kk:Int)≤rem.length:=by omega
   have kk0:(0:Int)≤kk:=by omega
   have ks:kk≤(ByteArray.mk rem.toArray).size:=hk1
   have c72:wa.cell? ⟨w.heap.size,72,none⟩=some (.int .u64 N.length):=by rw[e_ _ _ _ _ _ _ H1.out.b,FB _ _ _ H1.out.lb]
   have f72:=frozen_of_row _ _ 72 _ _ H1.out.b
   have hsum:((N.length:Int)+(kk:Int)) % 18446744073709551616=((N.length+kk:Nat):Int):=by omega
   clear cn
   go_upto_region 5 with fail
   go_cut [6] from 7 to 36 (fun q wc=>q = .int .i64 kk∧AW w (eJ N (N.length / 64)) (lay bk a (rem.take kk)) (N.length+kk) wc)
   case first =>
    go_wp2
    all_goals go_meet
    exact⟨rfl,by rw[←Int.natCast_add];exact H1.out.setN HW1.out _⟩
   case rest =>
    obtain⟨rfl,haw2⟩:=hcut;have H2:=O haw2
    have hNN:M++text.take (k+kk)=N++rem.take kk:=by rw[←hN,←hrem,R_,←List.take_add]
    have HNN:=O hNN;have HREM:Hid (text.drop (k+kk)=rem.drop kk):=O (by rw[←hrem,List.drop_drop]);have HNL:Hid ((N++rem.take kk).length=N.length+kk):=O (by rw[E_,hxl]);have HBT:Hid (bk.take (N.length % 64)=N.drop (64*(N.length / 64))):=O (by rw[hA];exact hbt.out);have HA:=O hA;have HTB:Hid (lay bk a (rem.take kk)=lx (M++text.take (k+kk))):=O (by rw[hNN,yo _ _ (by rw[hA,hxl];exact HK2.out),←htb.out,hA]);have HKT:Hid (k+kk≤text.length):=O (by rw[←hrem,S_] at hk1;omega);have HK3:=O hk3;have HRL:=O hk1;have HLB:=O haw.out.lb;clear haw2 c72 f72 hNN
    by_cases h64:a+kk=64
    ·have e1:((a:Int)+(kk:Int) == 64)=true:=by simp;omega
     have HFULL:=O (Fx N (rem.take kk) bk HLB.out HBT.out (by rw[HA.out,hxl];exact h64));clear hN hrem hA hbt haw h64;have zB:w.heap.size<wc.heap.size:=(Q_.1 H2.out.b).1;go_wp2;refine Rm 6 (by kernel_rfl) (by kernel_rfl) ?_;simp only[F_,c_,J_,L_]
     repeat (first
      |(refine Wz rfl 131 (.tmp 31) rfl w.heap.size rfl (row (hs (eJ N (N.length / 64)))) (fun w' ⟨u,e⟩=>by rw[e];exact(H2.out.on HW1.out u.below).ld) ?_;simp only[Act.put,B_,C_,D_])
      | go_big_quiet_step ((go_at_call 111;exact dj.call _ (CK _ _ (lay bk a (rem.take kk)) _ (H2.out.on HW1.out (dj.below _)).rd H2.out.lb (H2.out.on HW1.out (dj.below _)).k))))
     refine h_ ?_;rintro _ ⟨u,rfl⟩;have H3:=O (H2.out.on HW1.out u.below)
     go_wp2_with (refine P3 rfl (.tmp 36) (.tmp 35) rfl w.heap.size _ _ _ _ rfl rfl H2.out.lb H3.out.b ?_;intro wd hgd hod hbd;have H4:=O (H3.out.set HW1.out H2.out.lb hgd hod hbd);clear hgd hod hbd)
     go_roundw
     case rel =>
      obtain⟨p1,p2,p3,p4⟩:=HFULL.out;rw[HA.out] at p3;have F1:Hid ((lay bk a (rem.take kk)).take ((M++text.take (k+kk)).length % 64)=(M++text.take (k+kk)).drop (64*((M++text.take (k+kk)).length / 64))):=O (by rw[HNN.out,p1,p2,p4];rfl);have F2:Hid (AW w (eJ (M++text.take (k+kk)) ((M++text.take (k+kk)).length / 64)) (lay bk a (rem.take kk)) (M++text.take (k+kk)).length wd):=O (by rw[HNN.out,p1,p3,HNL.out];exact H4.out);clear p1 p2 p3 p4
      (repeat apply Exists.intro)
      exact⟨⟨k+kk,lay bk a (rem.take kk),HKT.out,by rw[HREM.out,AM],F1,HTB,F2⟩,rfl⟩
     case measure =>
      have h1:=HK3.out;have h2:=HRL.out
      show Lu (.string _)<Lu (.string _)
      simp only[Lu,ByteArray.size,List.size_toArray,b_,S_]
      omega
    ·have e1:((a:Int)+(kk:Int) == 64)=false:=by simp;omega
     have HPART:=O (Fy N (rem.take kk) bk HLB.out HBT.out (by rw[HA.out,hxl];omega));clear hN hrem hA hbt haw h64;go_wp2;go_roundw
     case rel =>
      obtain⟨p1,p2,p3,p4⟩:=HPART.out;rw[HA.out,HXL.out] at p2 p4;refine⟨k+kk,lay bk a (rem.take kk),HKT.out,?_,O ?_,HTB,O ?_⟩
      ·rw[HREM.out,AM]
      ·rw[HNN.out,p1,p2];exact p4
      ·rw[HNN.out,p1,p3,HNL.out];exact H2.out
     case measure =>
      have h1:=HK3.out;have h2:=HRL.out
      simp[Lu,ByteArray.size]
      omega
  ·have hke:k=text.length:=by omega
   have hd:text.drop k=[]:=List.drop_eq_nil_of_le (by omega)
   have hfull:N=M++text:=by rw[←hN,hke,List.take_length]
   obtain⟨z,hz1,hz2⟩:=haw.out.r;have HZ:=O hz1;have HNF:=O hfull;have HZ2:=O hz2;rw[hd];clear hN hke hd hfull hz1 hz2 hlt hnl
   go_wp2_with (first
    |(refine wpList_load_row rfl 135 (.tmp 2) rfl w.heap.size rfl _ _ (0,0) _ haw.out.b underlying135 rfl (r9 _ _ _ haw.out.lb) ?_)
    |(refine aM (T:=135) (stc (eJ N (N.length / 64)) bk N.length) (r9 _ _ _ haw.out.lb) rfl (.tmp 4) (.tmp 37) rfl (w.heap.size+1) z rfl rfl (tN _ _ _) (by rw[HZ2.out,gA _ _ _ haw.out.lb]) HZ.out ?_;intro wb hgb hob hbb))
   (try simp only[Exit.inBlock,Exit.then])
   refine g_ (Ln rfl _ _ (w.heap.size+1) _ _ _ haw.out.lb rfl hgb) rfl ?_;refine⟨_,rfl,⟨bk,by rw[←HNF.out],haw.out.lb,by rw[←HNF.out];exact hbt.out,by rw[←HNF.out];exact htb.out⟩,haw.out.below.trans (hbb _ (by omega))⟩
end
end
end Go.Proofs.YtmfiaadjdbemnaaGreatDoor
