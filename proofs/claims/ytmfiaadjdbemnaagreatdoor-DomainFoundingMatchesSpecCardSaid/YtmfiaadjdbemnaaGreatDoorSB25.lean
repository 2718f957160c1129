/- Contracts and lemmas. No condition. -/
import Derived.Test.YtmfiaadjdbemnaaGreatDoorSB24
set_option maxRecDepth 100000
set_option maxHeartbeats 8000000
namespace Go.Proofs.YtmfiaadjdbemnaaGreatDoor
section
variable {ops:Array Oper} {rest:List Oper} {o:Oper} {a:Act} {w:World} {Q:Exit→Act→World→Prop}
section
open Go.RowKit
def xb (s:SH):UInt8:=UInt8.ofNat s.idx.toNat
def xsP (l:List SH):List UInt8:=l.map xb
def ysP (l:List SH) (i:Nat):List UInt8:=l.map fun s=>byteAt s.data i
theorem kL (l:List SH):(xsP l).length=l.length:=by simp[xsP]
theorem jy (l:List SH) (i:Nat):(ysP l i).length=l.length:=by simp[ysP]
def mz (l:List SH) (d:Nat) (x:UInt8) (j:Nat):List UInt8:=Fld.tab d fun i=>if i<j then F6.interp (xsP l) (ysP l i) x else 0
def eW (l:List SH) (d:Nat) (x:UInt8):List UInt8:=Fld.tab d fun i=>F6.interp (xsP l) (ysP l i) x
theorem hJ (l:List SH) (d:Nat) (x:UInt8):(eW l d x).length=d:=Fld.tab_len _ _
theorem gP (l:List SH) (d:Nat) (x:UInt8) (j:Nat):(mz l d x j).length=d:=Fld.tab_len _ _
theorem CM (l:List SH) (d:Nat) (x:UInt8):mz l d x 0=List.replicate d 0:=by
 refine Fld.ext_at (by rw[gP,List.length_replicate]) (fun j hj => ?_);rw[mz,Fld.tab_at,Fld.at_rep]
 simp
theorem Gm (l:List SH) (d:Nat) (x:UInt8):mz l d x d=eW l d x:=by
 refine Fld.ext_at (by rw[gP,hJ]) (fun j hj => ?_);rw[gP] at hj;rw[mz,eW,Fld.tab_at,Fld.tab_at]
 simp[hj]
theorem Gn (l:List SH) (d:Nat) (x:UInt8) (j:Nat) (hj:j<d):(mz l d x j).set j (F6.interp (xsP l) (ysP l j) x)=mz l d x (j+1):=by
 refine Fld.ext_at (by rw[List.length_set,gP,gP]) (fun i hi => ?_);rw[List.length_set,gP] at hi;rw[Fld.at_set,gP];simp only[mz,Fld.tab_at]
 by_cases e:j=i
 ·subst e
  simp[hi]
 ·rw[if_neg (by simp[e])]
  simp only[hi,if_true]
  by_cases h:i<j
  ·simp[h,show i<j+1 by omega]
  ·simp[h,show ¬i<j+1 by omega]
def iC (l:List UInt8) (k:Nat):List UInt8:=Fld.tab l.length fun i=>if i<k then byteAt l i else 0
theorem fq (l:List UInt8) (k:Nat):(iC l k).length=l.length:=Fld.tab_len _ _
theorem pi (l:List UInt8):iC l 0=List.replicate l.length 0:=by
 refine Fld.ext_at (by rw[fq,List.length_replicate]) (fun j hj => ?_);rw[iC,Fld.tab_at,Fld.at_rep]
 simp
theorem rC (l:List UInt8):iC l l.length=l:=by
 refine Fld.ext_at (fq _ _) (fun j hj => ?_);rw[fq] at hj;rw[iC,Fld.tab_at]
 simp[hj]
theorem rD (l:List UInt8) (k:Nat) (hk:k<l.length):(iC l k).set k (byteAt l k)=iC l (k+1):=by
 refine Fld.ext_at (by rw[List.length_set,fq,fq]) (fun i hi => ?_);rw[List.length_set,fq] at hi;rw[Fld.at_set,fq];simp only[iC,Fld.tab_at]
 by_cases e:k=i
 ·subst e
  simp[hi]
 ·rw[if_neg (by simp[e])]
  simp only[hi,if_true]
  by_cases h:i<k
  ·simp[h,show i<k+1 by omega]
  ·simp[h,show ¬i<k+1 by omega]
def kf (a:SH) (p:List UInt8) (s:SH):Bool:=dEq s.set a.set && decide (s.need=a.need) && decide (s.data.length=a.data.length) && decide (1≤s.idx) && decide (s.idx≤255) && !decide (xb s∈p)
def kd (a:SH):List UInt8→List SH→Bool
 | _,[]=>true
 | p,s::r=>kf a p s && kd a (p++[xb s]) r
def zS0:SH:=⟨[],0,0,[]⟩
def qu (l:List SH):Bool:=decide (1≤l.length) && decide (l.length≤255) && decide (1≤(l.headD zS0).need) && decide ((l.headD zS0).need≤16) && decide (1≤(l.headD zS0).data.length) && decide ((l.headD zS0).data.length≤64)
def eO (l:List SH):Bool:=qu l && kd (l.headD zS0) [] l
def Ia (l:List SH):List SH:=l.take (l.headD zS0).need.toNat
def Gv (l:List SH):Nat:=(l.headD zS0).data.length
def ci (l:List SH):Int:=if eO l then (if (l.length:Int)<(l.headD zS0).need then 16 else if (l.drop (l.headD zS0).need.toNat).all (fun s=>decide (eW (Ia l) (Gv l) (xb s)=s.data)) then 0 else 7) else 1
def eU (l:List SH):List UInt8:=if ci l=0 then eW (Ia l) (Gv l) 0 else []
theorem A0 (a:SH):∀(l:List SH) (p:List UInt8),kd a p l=true→(∀x∈p,True)→p.Nodup→(p++xsP l).Nodup∧∀s∈l,s.data.length=a.data.length∧1≤s.idx∧s.idx≤255
 | [],p,_,_,hp=>by simpa [xsP] using hp
 | s :: r, p, h, hx, hp => by
   unfold kd at h;rw[Bool.and_eq_true] at h;have h1:=h.1;simp only[kf,Bool.and_eq_true,decide_eq_true_eq,Bool.not_eq_true',decide_eq_false_iff_not] at h1
   have hp2:(p++[xb s]).Nodup:=by
    rw[List.nodup_append];exact⟨hp,by simp,fun a ha b hb=>by simp at hb;subst hb;intro e;subst e;exact h1.2 ha⟩
   obtain⟨h2,h3⟩:=A0 a r (p++[xb s]) h.2 (fun _ _=>trivial) hp2;refine⟨by simpa [xsP] using h2,?_⟩;intro t ht
   rcases List.mem_cons.1 ht with rfl|ht
   ·exact⟨h1.1.1.1.2,h1.1.1.2,h1.1.2⟩
   ·exact h3 t ht
open Go.RowKit Go.Shelf
def dW (now:Int) (k:K):Bool:=decide (k.start≤now) && decide (now<k.fin)
attribute [local irreducible] Calls
theorem SF (k:K) (now:Int) (w:World):Calls Tryz.prog 59 #[kv k,.int .i64 now] w fun e w'=>e = .returned (.bool (dW now k))∧Below w.heap.size w w':=by
 unfold kv kc dW;have HB:=O ((Oo w.heap.size w).alloc (Nat.le_refl _) (.cells #[.int .i64 k.id,.int .i64 k.ty,.string ⟨k.val.toArray⟩,.int .i64 k.uses,.int .i64 k.start,.int .i64 k.fin,.int .i64 k.ver,.int .i64 k.par,.bool k.raw] 86))
 by_cases h1:k.start≤now
 ·by_cases h2:now<k.fin
  ·rw[decide_eq_true h1,decide_eq_true h2]
   go_enter Tryz.func59,Tryz.ntmps59
   go_wp2;go_ret;exact⟨rfl,HB.out⟩
  ·rw[decide_eq_true h1,decide_eq_false h2]
   go_enter Tryz.func59,Tryz.ntmps59
   go_wp2;go_ret;exact⟨rfl,HB.out⟩
 ·rw[decide_eq_false h1]
  go_enter Tryz.func59,Tryz.ntmps59
  go_wp2;go_ret;exact⟨rfl,HB.out⟩
end
section
open Go.RowKit
structure DO where
 id:List UInt8
 key:List UInt8
 ep:Int
 bk:Int
structure DO.mach (d:DO):Prop where
 id:d.id.length=16
 ep:okI d.ep
 bk:okI d.bk
def zD:DO:=⟨z16,[],0,0⟩
def bD (d:DO):Bool:=decide (d.key.length=32) && (decide (0≤d.ep) && decide (0≤d.bk) && (decide (d.ep≤2147483647) && decide (d.bk≤2147483647)))
def iz:List UInt8:=[100,111,109,97,105,110]
structure FD where
 d:DO
 l:List SH
 r:List UInt8
 e:Int
def zF (e:Int):FD:=⟨zD,[],[],e⟩
def kO (need n:Int):Bool:=decide (1≤n) && decide (n≤16) && decide (1≤need) && decide (need≤n)
def fdL (s:List UInt8) (m n:Nat):List SH:=dh (ofP 3 [nxV s,nxV (nxS s)]) (nxV s) (ez (nxV (nxS s)) (32*m)) m n
def fB (d:DO) (s:List UInt8) (need n c:Int):FD:=if kO need n then ⟨⟨d.id,nxV s,d.ep+c,d.bk⟩,fdL s (need-1).toNat n.toNat,nxS (nxS s),0⟩ else zF 1
def cP (s:List UInt8) (need n:Int):FD:=fB ⟨ofP 12 [iz,nxV s],[],0,0⟩ (nxS s) need n 0
def mG (d:DO) (s:List UInt8) (need n:Int):FD:=if bD d then (if d.ep=2147483647 then zF 2 else fB d s need n 1) else zF 1
def cG (d:DO) (b:BK):BK:={ b with dom:=d.id,ep:=d.ep,num:=d.bk+1 }
def dbE (d:DO) (b:BK) (l:List K):Int:=if bD d then (if d.bk=2147483647 then 2 else jm d.key (cG d b) l) else 1
def dbX (d:DO) (b:BK) (l:List K):List UInt8:=if dbE d b l=0 then bX d.key (cG d b) l else []
def dbD (d:DO) (b:BK) (l:List K):DO:=if dbE d b l=0 then { d with bk:=d.bk+1 } else zD
def ulE (blob:List UInt8) (l:List SH):Int:=if blE blob=0 then (if ci l=0 then opE (eU l) blob else ci l) else blE blob
def ulB (blob:List UInt8) (l:List SH):BK:=if ulE blob l=0 then opB (eU l) blob else zB
def ulK (blob:List UInt8) (l:List SH):List K:=if ulE blob l=0 then opK (eU l) blob else []
def gY:List Int→Bool
 | []=>true
 | [_]=>true
 | a::b::l=>decide (a<b) && gY (b::l)
def eZ (ids:List Int) (k:K):Bool:=decide (k.id∈ids)
def bJ (ids:List Int) (l:List K):List K:=l.filter (eZ ids)
def kF (ids:List Int) (l:List K):List K:=l.filter fun k => !eZ ids k
structure PT where
 nx:Int
 tl:List K
 d:DO
 sh:List SH
 blob:List UInt8
 gone:List Int
 r:List UInt8
 e:Int
def zP (e:Int):PT:=⟨0,[],zD,[],[],[],[],e⟩
def dN (nx:Int) (tl:List K) (ids:List Int) (b:BK) (s:List UInt8) (need n:Int):PT :=
 if gY ids=true∧ids≠[] then (if (bJ ids tl).length<ids.length then zP 11 else
  if (cP s need n).e=0 then (if dbE (cP s need n).d b (bJ ids tl)=0 then
   ⟨nx,kF ids tl,dbD (cP s need n).d b (bJ ids tl),(cP s need n).l,dbX (cP s need n).d b (bJ ids tl),ids,(cP s need n).r,0⟩
   else zP (dbE (cP s need n).d b (bJ ids tl))) else zP (cP s need n).e) else zP 1
def ip (k x:K):Bool:=decide (x.ty=k.ty) && decide (x.val=k.val)
def bI (tl:List K) (k:K):Bool:=tl.any (ip k)
def lr (now:Int) (tl:List K) (k:K):Bool := !dW now k || bI tl k
structure MG where
 nx:Int
 tl:List K
 ids:List Int
 e:Int
def zM (e:Int):MG:=⟨0,[],[],e⟩
def jh (now:Int) (m:MG) (k:K):MG:=if lr now m.tl k then m else if bL m.nx m.tl (aU k 0)=0 then ⟨m.nx+1,m.tl++[aW (aU k 0) m.nx],m.ids++[m.nx],0⟩ else zM (bL m.nx m.tl (aU k 0))
def gw (now:Int):MG→List K→MG
 | m,[]=>m
 | m,k::l=>if (jh now m k).e=0 then gw now (jh now m k) l else jh now m k
def jw (d:DO) (nx:Int) (tl:List K) (pol:List UInt8) (now:Int) (blob:List UInt8) (l:List SH):MG :=
 if bD d then (if ulE blob l=0 then (if dEq (ulB blob l).dom d.id then zM 12 else if dEq (ulB blob l).pol pol then gw now ⟨nx,tl,[],0⟩ (ulK blob l) else zM 10) else zM (ulE blob l)) else zM 1
open Go.RowKit Go.Shelf
def dmc (d:DO):List Value:=(am d.id).toList++[.string ⟨d.key.toArray⟩,.int .i64 d.ep,.int .i64 d.bk]
def doA (d:DO):Array Value:=(dmc d).toArray
theorem nJ (d:DO):(dmc d).length=19:=by
 unfold dmc;rw[List.length_append]
 show (am d.id).size+3=19
 rw[aF]
theorem kW (d:DO):(doA d).size=19:=by rw[doA,List.size_toArray,nJ]
theorem tp (d:DO):∀u∈dmc d,u.oneCell'=true:=by
 intro u hu;unfold dmc at hu
 rcases List.mem_append.1 hu with h|h
 ·exact Array.all_eq_true_iff_forall_mem.1 (iY d.id) u (Array.mem_toList_iff.1 h)
 ·simp at h
  rcases h with rfl|rfl|rfl <;> rfl
theorem cr (d:DO):((doA d).all fun u=>u.oneCell')=true:=by
 rw[Array.all_eq_true_iff_forall_mem];intro u hu;exact tp d u (by simpa [doA] using hu)
theorem cK (d:DO):(doA d)[16]?=some (.string ⟨d.key.toArray⟩):=by kernel_rfl
theorem gI (d:DO):(doA d)[17]?=some (.int .i64 d.ep):=by kernel_rfl
theorem jL (d:DO):(doA d)[18]?=some (.int .i64 d.bk):=by kernel_rfl
theorem uL (d:DO):∀(i:Nat) (x:Value),(am d.id).toList[i]?=some x→(doA d)[i]?=some x:=by
 intro i x h;unfold doA dmc;rw[List.getElem?_toArray,List.getElem?_append_left (List.getElem?_eq_some_iff.1 h).1];exact h
theorem wY (d:DO) (x:List UInt8):(doA d).setIfInBounds 16 (.string ⟨x.toArray⟩)=doA { d with key:=x }:=by kernel_rfl
theorem wZ (d:DO) (x:Int):(doA d).setIfInBounds 17 (.int .i64 x)=doA { d with ep:=x }:=by kernel_rfl
theorem xd (d:DO) (x:Int):(doA d).setIfInBounds 18 (.int .i64 x)=doA { d with bk:=x }:=by kernel_rfl
theorem M3:(Tryz.prog.info? 25).map (·.zero)=some (some (.agg (doA zD))):=by kernel_rfl
theorem u9:(Tryz.prog.info? 25).map (·.size)=some 19:=by kernel_rfl
theorem b8 (d:DO):(Tryz.prog.info? 25).map (·.size)=some (doA d).size:=by rw[kW];exact u9
theorem iy (w:World):(zeroValue 25).run Tryz.prog w = .ok (.agg (doA zD)) w:=by
 have h:=M3;generalize doA zD=L at h ⊢
 cases hq:Tryz.prog.info? 25 with
 | none=>rw[hq] at h;cases h
 | some i =>
   rw[hq] at h
   simp at h
   simp[zeroValue,typeInfo,hq,h]
theorem FX:Tryz.prog.built 25 []=some (doA zD):=by kernel_rfl
theorem FY (x:List UInt8):Tryz.prog.built 25 [(0,.agg (am x))]=some (doA ⟨x,[],0,0⟩):=by kernel_rfl
theorem gl (w:World) (g:Nat) (d:DO) (T:TypeId) (hg:w.heap[g]?=some (.cells (doA d) T (0,0))):(loadVar 25 ⟨g,0,none⟩).run Tryz.prog w = .ok (.agg (doA d)) w :=
 run_loadVar_row w g T 25 (doA d) (0,0) _ hg Tryz.underlying25 rfl (b8 d)
theorem lF (hgd:Region.wanted o (yielded ops a.tmps)=true) (ho:o.op = .build 25 #[])
  (h:wpList Tryz.prog ops Q rest (a.put o.dst (.agg (doA zD))) w):wpList Tryz.prog ops Q (o::rest) a w :=
 wpList_step fun K hK=>by
  rw[if_pos hgd];have hr:=run_build (P:=Tryz.prog) w 25 #[] _ FX;unfold Oper.wp execOp;simp only[ho,List.map_toArray,List.map_nil,hr,Sem.run_bind,Sem.run_pure,Result.andThen_ok];exact hK _ _ h
theorem NA (x:List UInt8) (hgd:Region.wanted o (yielded ops a.tmps)=true) (y:Operand) (ho:o.op = .build 25 #[(0,y)]) (hy:a.eval y = .agg (am x))
  (h:wpList Tryz.prog ops Q rest (a.put o.dst (.agg (doA ⟨x,[],0,0⟩))) w):wpList Tryz.prog ops Q (o::rest) a w :=
 wpList_step fun K hK=>by
  rw[if_pos hgd];have hr:=run_build (P:=Tryz.prog) w 25 #[(0,.agg (am x))] _ (FY x);unfold Oper.wp execOp;simp only[ho,List.map_toArray,List.map_cons,List.map_nil,hy,hr,Sem.run_bind,Sem.run_pure,Result.andThen_ok];exact hK _ _ h
theorem cz (d:DO)
  (hgd:Region.wanted o (yielded ops a.tmps)=true) (x:Operand) (ho:o.op = .load 25 x)
  (g:Nat) (hx:a.eval x = .pointer (some ⟨g,0,none⟩)) (T':TypeId) (hg:w.heap[g]?=some (.cells (doA d) T' (0,0)))
  (h:wpList Tryz.prog ops Q rest (a.put o.dst (.agg (doA d))) w):wpList Tryz.prog ops Q (o::rest) a w :=
 wpList_step fun K hK=>by
  rw[if_pos hgd];exact wp_load_row _ x ho g hx _ (doA d) (0,0) _ hg Tryz.underlying25 rfl (b8 d) (hK _ _ h)
theorem bM (a b:List UInt8):(ag a).size=(ag b).size:=rfl
theorem dE (a b:DO):(doA a).size=(doA b).size:=by rw[kW,kW]
theorem bu (a:List UInt8):(Tryz.prog.info? 30).map (·.size)=some (ag a).size:=cS
theorem jl (s:List UInt8)
  (hgd:Region.wanted o (yielded ops a.tmps)=true) (x:Operand) (ho:o.op = .load 30 x)
  (g:Nat) (hx:a.eval x = .pointer (some ⟨g,0,none⟩)) (T':TypeId) (hg:w.heap[g]?=some (.cells (ag s) T' (0,0)))
  (h:wpList Tryz.prog ops Q rest (a.put o.dst (.agg (ag s))) w):wpList Tryz.prog ops Q (o::rest) a w :=
 wpList_step fun K hK=>by
  rw[if_pos hgd];exact wp_load_row _ x ho g hx _ (ag s) (0,0) _ hg Tryz.underlying30 rfl cS (hK _ _ h)
theorem Ga:Tryz.prog.built 30 []=some (ag []):=by kernel_rfl
theorem tf (hgd:Region.wanted o (yielded ops a.tmps)=true) (ho:o.op = .build 30 #[])
  (h:wpList Tryz.prog ops Q rest (a.put o.dst (.agg (ag []))) w):wpList Tryz.prog ops Q (o::rest) a w :=
 wpList_step fun K hK=>by
  rw[if_pos hgd];have hr:=run_build (P:=Tryz.prog) w 30 #[] _ Ga;unfold Oper.wp execOp;simp only[ho,List.map_toArray,List.map_nil,hr,Sem.run_bind,Sem.run_pure,Result.andThen_ok];exact hK _ _ h
attribute [local irreducible] Calls doA ag
theorem zX (d:DO):(d.key.length≠32∧bD d=false)∨(d.key.length=32∧¬0≤min d.ep d.bk∧bD d=false)∨(d.key.length=32∧0≤min d.ep d.bk∧bD d=decide (max d.ep d.bk≤2147483647)):=by
 unfold bD
 by_cases h:d.key.length=32
 ·rw[decide_eq_true h,Bool.true_and]
  by_cases h2:0≤min d.ep d.bk
  ·refine .inr (.inr ⟨h,h2,?_⟩)
   rw[Bool.eq_iff_iff];simp only[Bool.and_eq_true,decide_eq_true_eq]
   omega
  ·refine .inr (.inl ⟨h,h2,?_⟩)
   simp only[Bool.and_eq_false_iff,decide_eq_false_iff_not]
   omega
 ·rw[decide_eq_false h]
  exact .inl ⟨h,rfl⟩
theorem ly (d:DO) (w:World):Calls Tryz.prog 15 #[.agg (doA d)] w fun e w'=>e = .returned (.bool (bD d))∧Below w.heap.size w w':=by
 obtain⟨W0,hW0⟩:∃W0,W0=w.alloc (.cells (doA d) 25):=⟨_,rfl⟩;have HW:=O hW0
 have hr:W0.heap[w.heap.size]?=some (.cells (doA d) 25 (0,0)):=by rw[hW0];exact heap_alloc_new _ _
 have c16:W0.cell? ⟨w.heap.size,16,none⟩=some (.string ⟨d.key.toArray⟩):=by rw[cell_of_row _ _ _ _ _ _ hr];exact cK d
 have c17:W0.cell? ⟨w.heap.size,17,none⟩=some (.int .i64 d.ep):=by rw[cell_of_row _ _ _ _ _ _ hr];exact gI d
 have c18:W0.cell? ⟨w.heap.size,18,none⟩=some (.int .i64 d.bk):=by rw[cell_of_row _ _ _ _ _ _ hr];exact jL d
 have HB:Hid (Below w.heap.size w W0):=O (by rw[hW0];exact(Oo _ _).alloc (Nat.le_refl _) _);have HP:=O (zX d);clear hr hW0
 rcases HP.out with⟨h0,hv⟩|⟨h0,h1,hv⟩|⟨h0,h1,hv⟩
 all_goals
  rw[hv];clear HP hv
  first |(have k0:((d.key.length:Int) == 32)=true:=by rw[beq_iff_eq];omega)|(have k0:((d.key.length:Int) == 32)=false:=by rw[beq_eq_false_iff_ne];omega)
  clear h0
  go_enter Tryz.func15,Tryz.ntmps15
  go_upto_region 1 with fail
  rw[←HW.out]
  try dsimp only[Act.put]
  go_wp2;go_ret;exact⟨rfl,HB.out⟩
end
section
open Go.RowKit Go.Shelf
theorem rQ {w:World} {v:Value} {l:List UInt8} (h:RdE eB w v l):Fld.RdB w v l:=by
 have h0:=h;obtain⟨a,cap,rfl,h1,h2,_⟩:=h;exact⟨a,cap,rfl,h1,h2,fun hp=>fp h0 hp⟩
def od (sec:List UInt8) (need n:Int) (seed:List UInt8):Bool:=decide (1≤sec.length) && decide (sec.length≤64) && decide (1≤n) && decide (n≤16) && decide (1≤need) && decide (need≤n) && decide (seed.length=32)
attribute [local irreducible] Calls sha
theorem PV (sec seed:List UInt8) (m n:Nat) (w:World) (hk:KAt w) (h1:1≤sec.length) (h2:sec.length≤64) (h3:n≤16) (h4:m+1≤n) (h5:seed.length=32) :
  Calls Tryz.prog 65 #[.string ⟨sec.toArray⟩,.int .i64 ((m:Int)+1),.int .i64 n,.string ⟨seed.toArray⟩] w fun e w'=>∃v,e = .returned (.tuple #[v,.int .i64 0])∧ap eH w' w.heap.size v (dh (ofP 3 [sec,seed]) sec (ez seed (sec.length*m)) m n)∧Below w.heap.size w w':=by
 have hz:=fi;have hzd:=ja;have HB:=O (fun (y:World) (a:KAt y)=>Tq seed (sec.length*m) y a (by omega) (by have h6:sec.length*m≤64*16:=Nat.mul_le_mul h2 (by omega);omega));have HBL:=O (uw seed (sec.length*m));generalize ez seed (sec.length*m)=st at HB HBL ⊢;obtain⟨N,hN⟩:∃N:Nat,N=sec.length*m:=⟨_,rfl⟩;rw[←hN] at HB HBL
 have hNi:(sec.length:Int)*(m:Int)=(N:Int):=by rw[hN];simp
 have HOFL:Hid ((ofM 3 [sec,seed]).length≤900000):=O (by
  have h7:=cg (sec.length:Int);have h8:=cg (seed.length:Int);unfold ofM;simp only[eL,fj,aV,List.length_cons,List.length_append,List.length_nil]
  omega)
 have HK:=O hk
 have i1:(1:Int)≤sec.length:=by omega
 have i2:(sec.length:Int)≤64:=by omega
 have i3:(n:Int)≤16:=by omega
 have i4:(m:Int)+1≤n:=by omega
 have i5:(seed.length:Int)=32:=by omega
 have i6:(m:Int)≤16:=by omega
 have i7:(N:Int)≤1024:=by have h6:sec.length*m≤64*16:=Nat.mul_le_mul h2 (by omega);omega
 have HLEN:=O (show 1≤sec.length∧sec.length≤64∧n≤16∧m+1≤n∧seed.length=32 from⟨h1,h2,h3,h4,h5⟩);have HN:=O hN;clear hk h1 h2 h3 h4 hN;obtain⟨W0,hW0⟩:∃W0,W0=(w.alloc (.cells #[.string ⟨sec.toArray⟩] 9)).alloc (.cells #[.int .i64 ((m:Int)+1)] 3):=⟨_,rfl⟩;have HW:=O hW0
 have HX:Hid (∀u,Below W0.heap.size W0 u→u.cell? ⟨w.heap.size,0,none⟩=some (.string ⟨sec.toArray⟩)∧u.cell? ⟨w.heap.size+1,0,none⟩=some (.int .i64 ((m:Int)+1))∧Below w.heap.size w u∧KAt u):=O (by
  intro u h;rw[hW0] at h;have h2:=dm _ _ _ h
  exact⟨aQ h (cell_of_row _ _ 0 _ _ _ (eP _ _ _)),aQ h (cell_of_row _ _ 0 _ _ _ (eR _ _ _)),h2,HK.out.on h2⟩)
 clear hW0;have c1:=(HX.out W0 (Oo _ _)).1;have c2:=(HX.out W0 (Oo _ _)).2.1
 go_enter Tryz.func65,Tryz.ntmps65
 go_upto_region 1 with fail
 rw[←HW.out]
 try dsimp only[Act.put]
 go_upto_region 3 with (go_at_call 107;refine(lR _ _).mono ?_;rintro e x1 ⟨rfl,rfl⟩)
 go_upto_region 4 with (first
  |(refine oS seed rfl (.tmp 45) rfl rfl ?_)
  |(go_at_call 108;refine(HB.out _ (HX.out _ (Oo _ _)).2.2.2).mono ?_;rintro e w1 ⟨rfl,hb1⟩;have HB1:=O hb1;clear hb1)
  |(refine aH (ag (sdN seed (nOf N))) 30 rfl (.tmp 11) (.tmp 54) rfl (w1.heap.size+1) rfl (by simp) rfl cS rfl (aS _) ?_))
 have HB5:=O (HB1.out.trans ((dm _ (.cells #[.string ⟨st.toArray⟩] 9) (.cells (ag (sdN seed (nOf N))) 30) (Oo _ _)).mono HB1.out.size));have HC5:=O (cell_of_row _ _ 0 _ _ _ (eP w1 (.cells #[.string ⟨st.toArray⟩] 9) (.cells (ag (sdN seed (nOf N))) 30)));generalize (w1.alloc (.cells #[.string ⟨st.toArray⟩] 9)).alloc (.cells (ag (sdN seed (nOf N))) 30)=W5 at HB5 HC5 ⊢;have HG5:Hid (x1.heap.size≤w1.heap.size):=O HB1.out.size;generalize w1.heap.size=g5 at HC5 HG5 ⊢;have HX5:=O (HX.out _ HB5.out);have c3:W5.cell? ⟨g5,0,none⟩=some (.string ⟨st.toArray⟩):=HC5.out;have c4:=HX5.out.1;have c5:=HX5.out.2.1
 have hstl:(st.length:Int)=N:=by have := HBL.out;omega
 clear HB1 HB
 go_upto_region 6 with fail
 have HOF:Hid (∀(y:World) (v:Value),KAt y→RdE eS y v [sec,seed]→Calls Tryz.prog 35 #[.int .i64 3,v] y fun e w'=>e = .returned (.agg (am (ofP 3 [sec,seed])))∧Below y.heap.size y w'):=O (fun y v a h=>Wl 3 3 rfl v [sec,seed] y a h HOFL.out (by simp));generalize hdg:ofP 3 [sec,seed]=dg at HOF ⊢;have HDG:=O hdg;clear hdg;have HROW:Hid (RdE eS (W5.alloc (.cells #[.string ⟨sec.toArray⟩,.string ⟨seed.toArray⟩] 9)) (.slice (some ⟨W5.heap.size,0,none⟩) 2 2) [sec,seed]∧KAt (W5.alloc (.cells #[.string ⟨sec.toArray⟩,.string ⟨seed.toArray⟩] 9))):=O ⟨lq (E:=eS) (heap_alloc_new _ _) [sec,seed] rfl (by simp),HX5.out.2.2.2.on ((Oo _ _).alloc (Nat.le_refl _) _)⟩
 go_upto_region 7 with (first
  |(go_at_call 35;refine(HOF.out _ _ HROW.out.2 HROW.out.1).mono ?_;rintro e w6 ⟨rfl,hb6⟩;have HB6:=O (cJ _ _ hb6);clear hb6)
  |(refine aH (am dg) 23 rfl (.tmp 12) (.tmp 66) rfl w6.heap.size rfl rfl rfl (by rw[aF];exact cC) (by rw[aF,aF]) (jO _) ?_))
 have HW7:Hid (Below W5.heap.size W5 (w6.alloc (.cells (am dg) 23))∧(w6.alloc (.cells (am dg) 23)).heap[w6.heap.size]?=some (.cells (am dg) 23 (0,0))):=O ⟨HB6.out.alloc HB6.out.size _,heap_alloc_new _ _⟩;generalize w6.alloc (.cells (am dg) 23)=W7 at HW7 ⊢;generalize w6.heap.size=g12 at HW7 ⊢;clear HB6 HROW HOF c3 c4 c5
 have HX7:Hid (w.heap.size≤W7.heap.size∧∀u,Below W7.heap.size W7 u→u.cell? ⟨w.heap.size,0,none⟩=some (.string ⟨sec.toArray⟩)∧u.cell? ⟨w.heap.size+1,0,none⟩=some (.int .i64 ((m:Int)+1))∧u.cell? ⟨g5,0,none⟩=some (.string ⟨st.toArray⟩)∧u.heap[g12]?=some (.cells (am dg) 23 (0,0))∧Below w.heap.size w u):=O (by
  have h5:=HX5.out;have h57:=HW7.out.1;have hs:w.heap.size≤W5.heap.size:=h5.2.2.1.size;refine⟨Nat.le_trans hs h57.size,fun u hu => ?_⟩
  exact⟨aQ hu (aQ h57 h5.1),aQ hu (aQ h57 h5.2.1),aQ hu (aQ h57 HC5.out),by rw[hu.block _ (Array.getElem?_eq_some_iff.1 HW7.out.2).1];exact HW7.out.2,h5.2.2.1.trans ((h57.mono hs).trans (hu.mono (Nat.le_trans hs h57.size)))⟩)
 clear HX HX5 HC5 HW7 HB5 HG5 HOFL c1 c2
 go_upto_region 9 with fail
 go_wp2
 go_loopw [14,15] (fun o i wr=>∃j:Nat,j≤n∧i = .int .i64 ((j:Int)+1)∧Hid (ap eH wr W7.heap.size o (dh dg sec st m j))∧Hid (Below W7.heap.size W7 wr)) (fun _ i _=>n+1-(intOf i).toNat)
 case atStart=>exact⟨0,Nat.zero_le _,rfl,O (ap.nil _ _),O (Oo _ _)⟩
 case round =>
  obtain⟨j,hj,rfl,hown,hb⟩:=hrel
  rename World=>wo
  have HQ:=O (HX7.out.2 _ hb.out)
  by_cases hlt:j<n
  ·have j1:(j:Int)+1≤n:=by omega
   have c4:=HQ.out.1;have HJ:=O hlt;clear hlt hj
   go_wp2_with (at_make;refine Fld.mk_full rfl _ _ rfl sec.length rfl rfl ?hm1 ?hm2)
   case hm1=>have := HLEN.out;omega
   case hm2 =>
    intro w8 hat hb8;have HB8:=O hb8;have HAT:Hid (Fld.BAt w8 wo.heap.size (iJ sec st m (j+1) 0)):=O (by rw[AK];exact hat);clear hat hb8 c4;go_wp2
    go_loopw [78] (fun i wr=>∃q:Nat,q≤sec.length∧i = .int .i64 q∧Hid (Fld.BAt wr wo.heap.size (iJ sec st m (j+1) q))∧Hid (Below wo.heap.size wo wr)) (fun i _=>sec.length-(intOf i).toNat)
    case atStart=>exact⟨0,Nat.zero_le _,rfl,HAT,HB8⟩
    case round =>
     obtain⟨q,hq,rfl,hat,hbz⟩:=hrel;have HBZ:Hid (Below W7.heap.size W7 wr):=O (hb.out.trans (hbz.out.mono hb.out.size));have HQZ:=O (HX7.out.2 _ HBZ.out)
     by_cases hlt:q<sec.length
     ·have q1:(q:Int)<sec.length:=by omega
      have HQL:=O hlt;have HPS:=O (CU sec st m (j+1) q hlt);have HPL:=O (fI sec st m (j+1) q);have HSP:=O (L1 sec st m q w.heap.size g5 (w.heap.size+1) wr HQZ.out.1 HQZ.out.2.2.1 HQZ.out.2.1 hlt (by rw[HBL.out,HN.out]) (by have := HLEN.out;omega) (by have := HLEN.out;omega))
      have hw8:IntKind.u8.wrap ((j:Int)+1)=B8 (UInt8.ofNat (j+1)):=by rw[IntKind.wrap_u8];unfold B8;have := HLEN.out;have := HJ.out;rw[UInt8.toNat_ofNat'];omega
      have hm8:((j:Int)+1) % 256=B8 (UInt8.ofNat (j+1)):=by rw[←IntKind.wrap_u8];exact hw8
      generalize fK sec st m q=po at HPS HSP;generalize UInt8.ofNat (j+1)=kb at HPS hw8 hm8
      generalize iJ sec st m (j+1) q=da at HPS HPL hat
      clear hlt hq
      go_wp2_with (first
       |(go_at_call 109;refine HSP.out.mono ?_;rintro e w9 ⟨v9,rfl,ho9,hb9⟩;have HO9:=O ho9;have HB9:=O hb9;clear ho9 hb9)
       |(go_at_call 110;refine(Fld.eval_c _ po kb _ (rQ HO9.out.rd)).mono ?_;rintro e _ ⟨rfl,nn,rfl⟩;have HA9:Hid (Fld.BAt (w9.drewN nn) wo.heap.size da):=O ((hat.out.keep HB9.out hat.out.lt).drew nn);have c9:=HA9.out.at q (by rw[HPL.out];exact HQL.out);have f9:=HA9.out.free q))
      go_roundw
      case rel=>exact⟨q+1,HQL.out,by go_num,O (by rw[←HPS.out];exact HA9.out.set q _),O (ak nn ((hbz.out.trans (HB9.out.mono hbz.out.size)).setCell (Nat.le_refl _) _))⟩
      case measure=>have := HQL.out;simp[intOf];omega
     ·have he:q=sec.length:=by omega
      have q1:¬(q:Int)<sec.length:=by omega
      have HD:Hid (Fld.BAt wr wo.heap.size (fE sec st m (j+1))):=O (by rw[←CT,←he];exact hat.out);have HOW:=O (hown.out.on hbz.out);have HSS:=O (qS dg sec st m j);have HSZ:=O (sZ dg sec st m j)
      have hcv:(convert 80 9 (.slice (some ⟨wo.heap.size,0,none⟩) sec.length sec.length)).run Tryz.prog wr = .ok (.string ⟨(fE sec st m (j+1)).toArray⟩) wr:=by
       have h:=b6 (ui HD.out (by rw[dR];have := HLEN.out;omega))
       rwa [dR] at h
      have c5:=HQZ.out.2.1;have HBA:Hid (Below wr.heap.size wr (wr.alloc (.cells (shA (shP dg sec st m (j+1))) 103))):=O ((Oo _ _).alloc (Nat.le_refl _) _);have HWZ:=O (HBZ.out.size);clear he hq hlt hat hown
      go_wp2_with (first
       |(refine wpList_load_row rfl 23 (.tmp 12) rfl g12 rfl _ (am dg) (0,0) _ HQZ.out.2.2.2.1 Tryz.underlying23 rfl (by rw[aF];exact cC) ?_)
       |(refine IQ (shP dg sec st m (j+1)) rfl (.tmp 92) (.tmp 93) (.tmp 94) (.tmp 96) rfl rfl rfl rfl rfl ?_)
       |(refine IV (shP dg sec st m (j+1)) rfl (.tmp 97) rfl rfl ?_)
       |(at_builtin;refine br oI rfl (.tmp 91) (.tmp 98) rfl W7.heap.size _ _ rfl (HOW.out.on HBA.out) _ [shP dg sec st m (j+1)] rfl (bP wr _ oI) (by rw[HSZ.out];have := HLEN.out;have := HJ.out;simp;omega) (Nat.le_trans HWZ.out HBA.out.size) ?_;intro v3 w3 ho3 hg3 _;have HO3:=O ho3;have HB3:Hid (Below W7.heap.size W7 w3):=(O ((HBZ.out.trans (HBA.out.mono HWZ.out)).grown hg3 (Nat.le_trans HWZ.out HBA.out.size) (fun k hk2=>(HOW.out.lt k hk2).1)));clear ho3 hg3))
      go_roundw
      case rel=>exact⟨j+1,HJ.out,by go_num,O (by rw[HSS.out];exact HO3.out),HB3⟩
      case measure=>have := HJ.out;simp[intOf];omega
  ·have he:j=n:=by omega
   have j1:¬(j:Int)+1≤n:=by omega
   have HF:Hid (ap eH wo W7.heap.size u14 (dh dg sec st m n)):=O (by rw[←he];exact hown.out);clear he hlt hj hown;go_wp2
   go_ret2
   exact⟨_,rfl,by rw[HDG.out];exact HF.out.mono HX7.out.1,HQ.out.2.2.2.2⟩
end
section
open Go.RowKit Go.Shelf
attribute [local irreducible] Calls sha
theorem L2 (sec seed:List UInt8) (need n:Int) (w:World) (hok:od sec need n seed=false) :
  Calls Tryz.prog 65 #[.string ⟨sec.toArray⟩,.int .i64 need,.int .i64 n,.string ⟨seed.toArray⟩] w fun e w'=>e = .returned (.tuple #[.slice none 0 0,.int .i64 1])∧Below w.heap.size w w':=by
 have hc:¬((1:Int)≤sec.length∧(sec.length:Int)≤64)∨(((1:Int)≤sec.length∧(sec.length:Int)≤64)∧(¬(1:Int)≤n∨((1:Int)≤n∧(¬n≤16∨(n≤16∧(¬(1:Int)≤need∨((1:Int)≤need∧(¬need≤n∨(need≤n∧¬(seed.length:Int)=32))))))))):=by
  simp only[od,Bool.and_eq_false_iff,decide_eq_false_iff_not] at hok
  omega
 obtain⟨W0,hW0⟩:∃W0,W0=(w.alloc (.cells #[.string ⟨sec.toArray⟩] 9)).alloc (.cells #[.int .i64 need] 3):=⟨_,rfl⟩;have HW:=O hW0;have HB:Hid (Below w.heap.size w W0):=O (by rw[hW0];exact dm _ _ _ (Oo _ _))
 have c1:W0.cell? ⟨w.heap.size,0,none⟩=some (.string ⟨sec.toArray⟩):=by rw[hW0];exact cell_of_row _ _ 0 _ _ _ (eP _ _ _)
 have c2:W0.cell? ⟨w.heap.size+1,0,none⟩=some (.int .i64 need):=by rw[hW0];exact cell_of_row _ _ 0 _ _ _ (eR _ _ _)
 clear hW0 hok
 go_enter Tryz.func65,Tryz.ntmps65
 go_upto_region 1 with fail
 rw[←HW.out]
 try dsimp only[Act.put]
 have his:∀y:World,Calls Tryz.prog 107 #[.int .i64 (sec.length:Int)] y fun e w'=>e = .returned (.bool (decide ((1:Int)≤sec.length∧(sec.length:Int)≤64)))∧w'=y:=fun y=>by
  have h:=lR (sec.length:Int) y
  rwa [←Bool.decide_and] at h
 have HIS:=O his;clear his
 rcases hc with h1|⟨h1,h2|⟨h2,h3|⟨h3,h4|⟨h4,h5|⟨h5,h6⟩⟩⟩⟩⟩
 case inr.inr.inr.inr.inr =>
  have hs7:((seed.length:Int) != 32)=true:=by rw[bne_iff_ne];exact h6
  rw[decide_eq_true h1] at HIS
  go_wp2_with (go_at_call 107;refine(HIS.out _).mono ?_;rintro e x1 ⟨rfl,rfl⟩)
  go_ret2
  exact⟨rfl,HB.out⟩
 all_goals
  first |rw[decide_eq_true h1] at HIS|rw[decide_eq_false h1] at HIS
  go_wp2_with (go_at_call 107;refine(HIS.out _).mono ?_;rintro e x1 ⟨rfl,rfl⟩)
  go_ret2
  exact⟨rfl,HB.out⟩
end
end
end Go.Proofs.YtmfiaadjdbemnaaGreatDoor
