/- Contracts and lemmas. No condition. -/
import Derived.Test.YtmfiaadjdbemnaaGreatDoorSB25
set_option maxRecDepth 100000
set_option maxHeartbeats 8000000
set_option linter.unusedSimpArgs false
set_option linter.unusedVariables false
namespace Go.Proofs.YtmfiaadjdbemnaaGreatDoor
open Tryz
section
variable {ops:Array Oper} {rest:List Oper} {o:Oper} {a:Act} {w:World} {Q:Exit→Act→World→Prop}
section
open Go.RowKit
def xb (s:SH):UInt8:=UInt8.ofNat s.idx.toNat
def xsP (l:List SH):List UInt8:=l.map xb
def ysP (l:List SH) (i:Nat):List UInt8:=l.map fun s=>byteAt s.data i
theorem kL (l:List SH):(xsP l).length=l.length:=by simp[xsP]
theorem jy (l:List SH) (i:Nat):(ysP l i).length=l.length:=by simp[ysP]
def mz (l:List SH) (d:Nat) (x:UInt8) (j:Nat):List UInt8:=Fld.tab d fun i=>if i<j then F6.interp (xsP l) (ysP l i) x else 0
def eW (l:List SH) (d:Nat) (x:UInt8):List UInt8:=Fld.tab d fun i=>F6.interp (xsP l) (ysP l i) x
theorem hJ (l:List SH) (d:Nat) (x:UInt8):(eW l d x).length=d:=Fld.tab_len _ _
theorem gP (l:List SH) (d:Nat) (x:UInt8) (j:Nat):(mz l d x j).length=d:=Fld.tab_len _ _
theorem CM (l:List SH) (d:Nat) (x:UInt8):mz l d x 0=List.replicate d 0:=by
 refine Fld.ext_at (by rw[gP,List.length_replicate]) (fun j hj => ?_);rw[mz,Fld.tab_at,Fld.at_rep]
 simp
theorem Gm (l:List SH) (d:Nat) (x:UInt8):mz l d x d=eW l d x:=by
 refine Fld.ext_at (by rw[gP,hJ]) (fun j hj => ?_);rw[gP] at hj;rw[mz,eW,Fld.tab_at,Fld.tab_at]
 simp[hj]
theorem Gn (l:List SH) (d:Nat) (x:UInt8) (j:Nat) (hj:j<d):(mz l d x j).set j (F6.interp (xsP l) (ysP l j) x)=mz l d x (j+1):=by
 refine Fld.ext_at (by rw[List.length_set,gP,gP]) (fun i hi => ?_);rw[List.length_set,gP] at hi;rw[Fld.at_set,gP];simp only[mz,Fld.tab_at]
 by_cases e:j=i
 ·subst e
  simp[hi]
 ·rw[H_ (by simp[e])]
  simp only[hi,if_true]
  by_cases h:i<j
  ·simp[h,show i<j+1 by omega]
  ·simp[h,show ¬i<j+1 by omega]
def iC (l:List UInt8) (k:Nat):List UInt8:=Fld.tab l.length fun i=>if i<k then byteAt l i else 0
theorem fq (l:List UInt8) (k:Nat):(iC l k).length=l.length:=Fld.tab_len _ _
theorem pi (l:List UInt8):iC l 0=List.replicate l.length 0:=by
 refine Fld.ext_at (by rw[fq,List.length_replicate]) (fun j hj => ?_);rw[iC,Fld.tab_at,Fld.at_rep]
 simp
theorem rC (l:List UInt8):iC l l.length=l:=by
 refine Fld.ext_at (fq _ _) (fun j hj => ?_);rw[fq] at hj;rw[iC,Fld.tab_at]
 simp[hj]
theorem rD (l:List UInt8) (k:Nat) (hk:k<l.length):(iC l k).set k (byteAt l k)=iC l (k+1):=by
 refine Fld.ext_at (by rw[List.length_set,fq,fq]) (fun i hi => ?_);rw[List.length_set,fq] at hi;rw[Fld.at_set,fq];simp only[iC,Fld.tab_at]
 by_cases e:k=i
 ·subst e
  simp[hi]
 ·rw[H_ (by simp[e])]
  simp only[hi,if_true]
  by_cases h:i<k
  ·simp[h,show i<k+1 by omega]
  ·simp[h,show ¬i<k+1 by omega]
def kf (a:SH) (p:List UInt8) (s:SH):Bool:=dEq s.set a.set && decide (s.need=a.need) && decide (s.data.length=a.data.length) && decide (1≤s.idx) && decide (s.idx≤255) && !decide (xb s∈p)
def kd (a:SH):List UInt8→List SH→Bool
 | _,[]=>true
 | p,s::r=>kf a p s && kd a (p++[xb s]) r
def zS0:SH:=⟨[],0,0,[]⟩
def qu (l:List SH):Bool:=decide (1≤l.length) && decide (l.length≤255) && decide (1≤(l.headD zS0).need) && decide ((l.headD zS0).need≤16) && decide (1≤(l.headD zS0).data.length) && decide ((l.headD zS0).data.length≤64)
def eO (l:List SH):Bool:=qu l && kd (l.headD zS0) [] l
def Ia (l:List SH):List SH:=l.take (l.headD zS0).need.toNat
def Gv (l:List SH):Nat:=(l.headD zS0).data.length
def ci (l:List SH):Int:=if eO l then (if (l.length:Int)<(l.headD zS0).need then 16 else if (l.drop (l.headD zS0).need.toNat).all (fun s=>decide (eW (Ia l) (Gv l) (xb s)=s.data)) then 0 else 7) else 1
def eU (l:List SH):List UInt8:=if ci l=0 then eW (Ia l) (Gv l) 0 else []
theorem A0 (a:SH):∀(l:List SH) (p:List UInt8),kd a p l=true→(∀x∈p,True)→p.Nodup→(p++xsP l).Nodup∧∀s∈l,s.data.length=a.data.length∧1≤s.idx∧s.idx≤255
 | [],p,_,_,hp=>by simpa [xsP] using hp
 | s :: r, p, h, hx, hp => by
   unfold kd at h;rw[T_] at h;have h1:=h.1;simp only[kf,T_,decide_eq_true_eq,Bool.not_eq_true',decide_eq_false_iff_not] at h1
   have hp2:(p++[xb s]).Nodup:=by
    rw[List.nodup_append];exact⟨hp,by simp,fun a ha b hb=>by simp at hb;subst hb;intro e;subst e;exact h1.2 ha⟩
   obtain⟨h2,h3⟩:=A0 a r (p++[xb s]) h.2 (fun _ _=>trivial) hp2;refine⟨by simpa [xsP] using h2,?_⟩;intro t ht
   rcases List.mem_cons.1 ht with rfl|ht
   ·exact⟨h1.1.1.1.2,h1.1.1.2,h1.1.2⟩
   ·exact h3 t ht
open Go.RowKit Go.Shelf
def dW (now:Int) (k:K):Bool:=decide (k.start≤now) && decide (now<k.fin)
attribute [local irreducible] Calls
theorem SF (k:K) (now:Int) (w:World):Calls prog 59 #[kv k,.int .i64 now] w fun e w'=>e = .returned (.bool (dW now k))∧Below w.heap.size w w':=by
 unfold kv kc dW;have HB:=O ((O_ w.heap.size w).alloc (A_ _) (.cells #[.int .i64 k.id,.int .i64 k.ty,.string ⟨k.val.toArray⟩,.int .i64 k.uses,.int .i64 k.start,.int .i64 k.fin,.int .i64 k.ver,.int .i64 k.par,.bool k.raw] 86))
 by_cases h1:k.start≤now
 ·by_cases h2:now<k.fin
  ·rw[decide_eq_true h1,decide_eq_true h2]
   go_enter func59,ntmps59
   go_wp2;go_ret;exact⟨rfl,HB.out⟩
  ·rw[decide_eq_true h1,V_ h2]
   go_enter func59,ntmps59
   go_wp2;go_ret;exact⟨rfl,HB.out⟩
 ·rw[V_ h1]
  go_enter func59,ntmps59
  go_wp2;go_ret;exact⟨rfl,HB.out⟩
end
section
open Go.RowKit
structure DO where
 id:List UInt8
 key:List UInt8
 ep:Int
 bk:Int
structure DO.mach (d:DO):Prop where
 id:d.id.length=16
 ep:okI d.ep
 bk:okI d.bk
def zD:DO:=⟨z16,[],0,0⟩
def bD (d:DO):Bool:=decide (d.key.length=32) && (decide (0≤d.ep) && decide (0≤d.bk) && (decide (d.ep≤2147483647) && decide (d.bk≤2147483647)))
def iz:List UInt8:=[100,111,109,97,105,110]
structure FD where
 d:DO
 l:List SH
 r:List UInt8
 e:Int
def zF (e:Int):FD:=⟨zD,[],[],e⟩
def kO (need n:Int):Bool:=decide (1≤n) && decide (n≤16) && decide (1≤need) && decide (need≤n)
def fdL (s:List UInt8) (m n:Nat):List SH:=dh (ofP 3 [nxV s,nxV (nxS s)]) (nxV s) (ez (nxV (nxS s)) (32*m)) m n
def fB (d:DO) (s:List UInt8) (need n c:Int):FD:=if kO need n then ⟨⟨d.id,nxV s,d.ep+c,d.bk⟩,fdL s (need-1).toNat n.toNat,nxS (nxS s),0⟩ else zF 1
def cP (s:List UInt8) (need n:Int):FD:=fB ⟨ofP 12 [iz,nxV s],[],0,0⟩ (nxS s) need n 0
def mG (d:DO) (s:List UInt8) (need n:Int):FD:=if bD d then (if d.ep=2147483647 then zF 2 else fB d s need n 1) else zF 1
def cG (d:DO) (b:BK):BK:={ b with dom:=d.id,ep:=d.ep,num:=d.bk+1 }
def dbE (d:DO) (b:BK) (l:List K):Int:=if bD d then (if d.bk=2147483647 then 2 else jm d.key (cG d b) l) else 1
def dbX (d:DO) (b:BK) (l:List K):List UInt8:=if dbE d b l=0 then bX d.key (cG d b) l else []
def dbD (d:DO) (b:BK) (l:List K):DO:=if dbE d b l=0 then { d with bk:=d.bk+1 } else zD
def ulE (blob:List UInt8) (l:List SH):Int:=if blE blob=0 then (if ci l=0 then opE (eU l) blob else ci l) else blE blob
def ulB (blob:List UInt8) (l:List SH):BK:=if ulE blob l=0 then opB (eU l) blob else zB
def ulK (blob:List UInt8) (l:List SH):List K:=if ulE blob l=0 then opK (eU l) blob else []
def gY:List Int→Bool
 | []=>true
 | [_]=>true
 | a::b::l=>decide (a<b) && gY (b::l)
def eZ (ids:List Int) (k:K):Bool:=decide (k.id∈ids)
def bJ (ids:List Int) (l:List K):List K:=l.filter (eZ ids)
def kF (ids:List Int) (l:List K):List K:=l.filter fun k => !eZ ids k
structure PT where
 nx:Int
 tl:List K
 d:DO
 sh:List SH
 blob:List UInt8
 gone:List Int
 r:List UInt8
 e:Int
def zP (e:Int):PT:=⟨0,[],zD,[],[],[],[],e⟩
def dN (nx:Int) (tl:List K) (ids:List Int) (b:BK) (s:List UInt8) (need n:Int):PT :=
 if gY ids=true∧ids≠[] then (if (bJ ids tl).length<ids.length then zP 11 else
  if (cP s need n).e=0 then (if dbE (cP s need n).d b (bJ ids tl)=0 then
   ⟨nx,kF ids tl,dbD (cP s need n).d b (bJ ids tl),(cP s need n).l,dbX (cP s need n).d b (bJ ids tl),ids,(cP s need n).r,0⟩
   else zP (dbE (cP s need n).d b (bJ ids tl))) else zP (cP s need n).e) else zP 1
def ip (k x:K):Bool:=decide (x.ty=k.ty) && decide (x.val=k.val)
def bI (tl:List K) (k:K):Bool:=tl.any (ip k)
def lr (now:Int) (tl:List K) (k:K):Bool := !dW now k || bI tl k
structure MG where
 nx:Int
 tl:List K
 ids:List Int
 e:Int
def zM (e:Int):MG:=⟨0,[],[],e⟩
def jh (now:Int) (m:MG) (k:K):MG:=if lr now m.tl k then m else if bL m.nx m.tl (aU k 0)=0 then ⟨m.nx+1,m.tl++[aW (aU k 0) m.nx],m.ids++[m.nx],0⟩ else zM (bL m.nx m.tl (aU k 0))
def gw (now:Int):MG→List K→MG
 | m,[]=>m
 | m,k::l=>if (jh now m k).e=0 then gw now (jh now m k) l else jh now m k
def jw (d:DO) (nx:Int) (tl:List K) (pol:List UInt8) (now:Int) (blob:List UInt8) (l:List SH):MG :=
 if bD d then (if ulE blob l=0 then (if dEq (ulB blob l).dom d.id then zM 12 else if dEq (ulB blob l).pol pol then gw now ⟨nx,tl,[],0⟩ (ulK blob l) else zM 10) else zM (ulE blob l)) else zM 1
open Go.RowKit Go.Shelf
def dmc (d:DO):List Value:=(am d.id).toList++[.string ⟨d.key.toArray⟩,.int .i64 d.ep,.int .i64 d.bk]
def doA (d:DO):Array Value:=(dmc d).toArray
theorem nJ (d:DO):(dmc d).length=19:=by
 unfold dmc;rw[E_]
 show (am d.id).size+3=19
 rw[aF]
theorem kW (d:DO):(doA d).size=19:=by rw[doA,List.size_toArray,nJ]
theorem tp (d:DO):∀u∈dmc d,u.oneCell'=true:=by
 intro u hu;unfold dmc at hu
 rcases List.mem_append.1 hu with h|h
 ·exact Array.all_eq_true_iff_forall_mem.1 (iY d.id) u (Array.mem_toList_iff.1 h)
 ·simp at h
  rcases h with rfl|rfl|rfl <;> rfl
theorem cr (d:DO):((doA d).all fun u=>u.oneCell')=true:=by
 rw[Array.all_eq_true_iff_forall_mem];intro u hu;exact tp d u (by simpa [doA] using hu)
theorem cK (d:DO):(doA d)[16]?=some (.string ⟨d.key.toArray⟩):=by kernel_rfl
theorem gI (d:DO):(doA d)[17]?=some (.int .i64 d.ep):=by kernel_rfl
theorem jL (d:DO):(doA d)[18]?=some (.int .i64 d.bk):=by kernel_rfl
theorem uL (d:DO):∀(i:Nat) (x:Value),(am d.id).toList[i]?=some x→(doA d)[i]?=some x:=by
 intro i x h;unfold doA dmc;rw[List.getElem?_toArray,List.getElem?_append_left (d_.1 h).1];exact h
theorem wY (d:DO) (x:List UInt8):(doA d).setIfInBounds 16 (.string ⟨x.toArray⟩)=doA { d with key:=x }:=by kernel_rfl
theorem wZ (d:DO) (x:Int):(doA d).setIfInBounds 17 (.int .i64 x)=doA { d with ep:=x }:=by kernel_rfl
theorem xd (d:DO) (x:Int):(doA d).setIfInBounds 18 (.int .i64 x)=doA { d with bk:=x }:=by kernel_rfl
theorem M3:(prog.info? 25).map (·.zero)=some (some (.agg (doA zD))):=by kernel_rfl
theorem u9:(prog.info? 25).map (·.size)=some 19:=by kernel_rfl
theorem b8 (d:DO):(prog.info? 25).map (·.size)=some (doA d).size:=by rw[kW];exact u9
theorem iy (w:World):(zeroValue 25).run prog w = .ok (.agg (doA zD)) w:=by
 have h:=M3;generalize doA zD=L at h ⊢
 cases hq:prog.info? 25 with
 | none=>rw[hq] at h;cases h
 | some i =>
   rw[hq] at h
   simp at h
   simp[zeroValue,typeInfo,hq,h]
theorem FX:prog.built 25 []=some (doA zD):=by kernel_rfl
theorem FY (x:List UInt8):prog.built 25 [(0,.agg (am x))]=some (doA ⟨x,[],0,0⟩):=by kernel_rfl
theorem gl (w:World) (g:Nat) (d:DO) (T:TypeId) (hg:w.heap[g]?=some (.cells (doA d) T (0,0))):(loadVar 25 ⟨g,0,none⟩).run prog w = .ok (.agg (doA d)) w :=
 run_loadVar_row w g T 25 (doA d) (0,0) _ hg underlying25 rfl (b8 d)
theorem lF (hgd:Region.wanted o (yielded ops a.tmps)=true) (ho:o.op = .build 25 #[])
  (h:wpList prog ops Q rest (a.put o.dst (.agg (doA zD))) w):wpList prog ops Q (o::rest) a w :=
 wpList_step fun K hK=>by
  rw[G_ hgd];have hr:=run_build (P:=prog) w 25 #[] _ FX;unfold Oper.wp execOp;simp only[ho,List.map_toArray,List.map_nil,hr,Sem.run_bind,Sem.run_pure,Result.andThen_ok];exact hK _ _ h
theorem NA (x:List UInt8) (hgd:Region.wanted o (yielded ops a.tmps)=true) (y:Operand) (ho:o.op = .build 25 #[(0,y)]) (hy:a.eval y = .agg (am x))
  (h:wpList prog ops Q rest (a.put o.dst (.agg (doA ⟨x,[],0,0⟩))) w):wpList prog ops Q (o::rest) a w :=
 wpList_step fun K hK=>by
  rw[G_ hgd];have hr:=run_build (P:=prog) w 25 #[(0,.agg (am x))] _ (FY x);unfold Oper.wp execOp;simp only[ho,List.map_toArray,List.map_cons,List.map_nil,hy,hr,Sem.run_bind,Sem.run_pure,Result.andThen_ok];exact hK _ _ h
theorem cz (d:DO)
  (hgd:Region.wanted o (yielded ops a.tmps)=true) (x:Operand) (ho:o.op = .load 25 x)
  (g:Nat) (hx:a.eval x = .pointer (some ⟨g,0,none⟩)) (T':TypeId) (hg:w.heap[g]?=some (.cells (doA d) T' (0,0)))
  (h:wpList prog ops Q rest (a.put o.dst (.agg (doA d))) w):wpList prog ops Q (o::rest) a w :=
 wpList_step fun K hK=>by
  rw[G_ hgd];exact wp_load_row _ x ho g hx _ (doA d) (0,0) _ hg underlying25 rfl (b8 d) (hK _ _ h)
theorem bM (a b:List UInt8):(ag a).size=(ag b).size:=rfl
theorem dE (a b:DO):(doA a).size=(doA b).size:=by rw[kW,kW]
theorem bu (a:List UInt8):(prog.info? 30).map (·.size)=some (ag a).size:=cS
theorem jl (s:List UInt8)
  (hgd:Region.wanted o (yielded ops a.tmps)=true) (x:Operand) (ho:o.op = .load 30 x)
  (g:Nat) (hx:a.eval x = .pointer (some ⟨g,0,none⟩)) (T':TypeId) (hg:w.heap[g]?=some (.cells (ag s) T' (0,0)))
  (h:wpList prog ops Q rest (a.put o.dst (.agg (ag s))) w):wpList prog ops Q (o::rest) a w :=
 wpList_step fun K hK=>by
  rw[G_ hgd];exact wp_load_row _ x ho g hx _ (ag s) (0,0) _ hg underlying30 rfl cS (hK _ _ h)
theorem Ga:prog.built 30 []=some (ag []):=by kernel_rfl
theorem tf (hgd:Region.wanted o (yielded ops a.tmps)=true) (ho:o.op = .build 30 #[])
  (h:wpList prog ops Q rest (a.put o.dst (.agg (ag []))) w):wpList prog ops Q (o::rest) a w :=
 wpList_step fun K hK=>by
  rw[G_ hgd];have hr:=run_build (P:=prog) w 30 #[] _ Ga;unfold Oper.wp execOp;simp only[ho,List.map_toArray,List.map_nil,hr,Sem.run_bind,Sem.run_pure,Result.andThen_ok];exact hK _ _ h
attribute [local irreducible] Calls doA ag
theorem zX (d:DO):(d.key.length≠32∧bD d=false)∨(d.key.length=32∧¬0≤min d.ep d.bk∧bD d=false)∨(d.key.length=32∧0≤min d.ep d.bk∧bD d=decide (max d.ep d.bk≤2147483647)):=by
 unfold bD
 by_cases h:d.key.length=32
 ·rw[decide_eq_true h,Bool.true_and]
  by_cases h2:0≤min d.ep d.bk
  ·refine .inr (.inr ⟨h,h2,?_⟩)
   rw[Bool.eq_iff_iff];simp only[T_,decide_eq_true_eq]
   omega
  ·refine .inr (.inl ⟨h,h2,?_⟩)
   simp only[Bool.and_eq_false_iff,decide_eq_false_iff_not]
   omega
 ·rw[V_ h]
  exact .inl ⟨h,rfl⟩
theorem ly (d:DO) (w:World):Calls prog 15 #[.agg (doA d)] w fun e w'=>e = .returned (.bool (bD d))∧Below w.heap.size w w':=by
 obtain⟨W0,hW0⟩:∃W0,W0=w.alloc (.cells (doA d) 25):=⟨_,rfl⟩;have HW:=O hW0
 have hr:W0.heap[w.heap.size]?=some (.cells (doA d) 25 (0,0)):=by rw[hW0];exact heap_alloc_new _ _
 have c16:W0.cell? ⟨w.heap.size,16,none⟩=some (.string ⟨d.key.toArray⟩):=by rw[e_ _ _ _ _ _ _ hr];exact cK d
 have c17:W0.cell? ⟨w.heap.size,17,none⟩=some (.int .i64 d.ep):=by rw[e_ _ _ _ _ _ _ hr];exact gI d
 have c18:W0.cell? ⟨w.heap.size,18,none⟩=some (.int .i64 d.bk):=by rw[e_ _ _ _ _ _ _ hr];exact jL d
 have HB:Hid (Below w.heap.size w W0):=O (by rw[hW0];exact(O_ _ _).alloc (A_ _) _);have HP:=O (zX d);clear hr hW0
 rcases HP.out with⟨h0,hv⟩|⟨h0,h1,hv⟩|⟨h0,h1,hv⟩
 all_goals
  rw[hv];clear HP hv
  first |(have k0:((d.key.length:Int) == 32)=true:=by rw[beq_iff_eq];omega)|(have k0:((d.key.length:Int) == 32)=false:=by rw[U_];omega)
  clear h0
  go_enter func15,ntmps15
  go_upto_region 1 with fail
  rw[←HW.out]
  try dsimp only[Act.put]
  go_wp2;go_ret;exact⟨rfl,HB.out⟩
end
section
open Go.RowKit Go.Shelf
theorem rQ {w:World} {v:Value} {l:List UInt8} (h:RdE eB w v l):Fld.RdB w v l:=by
 have h0:=h;obtain⟨a,cap,rfl,h1,h2,_⟩:=h;exact⟨a,cap,rfl,h1,h2,fun hp=>fp h0 hp⟩
def od (sec:List UInt8) (need n:Int) (seed:List UInt8):Bool:=decide (1≤sec.length) && decide (sec.length≤64) && decide (1≤n) && decide (n≤16) && decide (1≤need) && decide (need≤n) && decide (seed.length=32)
attribute [local irreducible] Calls sha
theorem PV (sec seed:List UInt8) (m n:Nat) (w:World) (hk:KAt w) (h1:1≤sec.length) (h2:sec.length≤64) (h3:n≤16) (h4:m+1≤n) (h5:seed.length=32) :
  Calls prog 65 #[.string ⟨sec.toArray⟩,.int .i64 ((m:Int)+1),.int .i64 n,.string ⟨seed.toArray⟩] w fun e w'=>∃v,e = .returned (.tuple #[v,.int .i64 0])∧ap eH w' w.heap.size v (dh (ofP 3 [sec,seed]) sec (ez seed (sec.length*m)) m n)∧Below w.heap.size w w':=by
 have hz:=fi;have hzd:=ja;have HB:=O (fun (y:World) (a:KAt y)=>Tq seed (sec.length*m) y a (by omega) (by have h6:sec.length*m≤64*16:=Nat.mul_le_mul h2 (by omega);omega));have HBL:=O (uw seed (sec.length*m));generalize ez seed (sec.length*m)=st at HB HBL ⊢;obtain⟨N,hN⟩:∃N:Nat,N=sec.length*m:=⟨_,rfl⟩;rw[←hN] at HB HBL
 have hNi:(sec.length:Int)*(m:Int)=(N:Int):=by rw[hN];simp
 have HOFL:Hid ((ofM 3 [sec,seed]).length≤900000):=O (by
  have h7:=cg (sec.length:Int);have h8:=cg (seed.length:Int);unfold ofM;simp only[eL,fj,aV,Z_,E_,List.length_nil]
  omega)
 have HK:=O hk
 have i1:(1:Int)≤sec.length:=by omega
 have i2:(sec.length:Int)≤64:=by omega
 have i3:(n:Int)≤16:=by omega
 have i4:(m:Int)+1≤n:=by omega
 have i5:(seed.length:Int)=32:=by omega
 have i6:(m:Int)≤16:=by omega
 have i7:(N:Int)≤1024:=by have h6:sec.length*m≤64*16:=Nat.mul_le_mul h2 (by omega);omega
 have HLEN:=O (show 1≤sec.length∧sec.length≤64∧n≤16∧m+1≤n∧seed.length=32 from⟨h1,h2,h3,h4,h5⟩);have HN:=O hN;clear hk h1 h2 h3 h4 hN;obtain⟨W0,hW0⟩:∃W0,W0=(w.alloc (.cells #[.string ⟨sec.toArray⟩] 9)).alloc (.cells #[.int .i64 ((m:Int)+1)] 3):=⟨_,rfl⟩;have HW:=O hW0
 have HX:Hid (∀u,Below W0.heap.size W0 u→u.cell? ⟨w.heap.size,0,none⟩=some (.string ⟨sec.toArray⟩)∧u.cell? ⟨w.heap.size+1,0,none⟩=some (.int .i64 ((m:Int)+1))∧Below w.heap.size w u∧KAt u):=O (by
  intro u h;rw[hW0] at h;have h2:=dm _ _ _ h
  exact⟨aQ h (e_ _ _ 0 _ _ _ (eP _ _ _)),aQ h (e_ _ _ 0 _ _ _ (eR _ _ _)),h2,HK.out.on h2⟩)
 clear hW0;have c1:=(HX.out W0 (O_ _ _)).1;have c2:=(HX.out W0 (O_ _ _)).2.1
 go_enter func65,ntmps65
 go_upto_region 1 with fail
 rw[←HW.out]
 try dsimp only[Act.put]
 go_upto_region 3 with (go_at_call 107;refine(lR _ _).mono ?_;rintro e x1 ⟨rfl,rfl⟩)
 go_upto_region 4 with (first
  |(refine oS seed rfl (.tmp 45) rfl rfl ?_)
  |(go_at_call 108;refine(HB.out _ (HX.out _ (O_ _ _)).2.2.2).mono ?_;rintro e w1 ⟨rfl,hb1⟩;have HB1:=O hb1;clear hb1)
  |(refine aH (ag (sdN seed (nOf N))) 30 rfl (.tmp 11) (.tmp 54) rfl (w1.heap.size+1) rfl (by simp) rfl cS rfl (aS _) ?_))
 have HB5:=O (HB1.out.trans ((dm _ (.cells #[.string ⟨st.toArray⟩] 9) (.cells (ag (sdN seed (nOf N))) 30) (O_ _ _)).mono HB1.out.size));have HC5:=O (e_ _ _ 0 _ _ _ (eP w1 (.cells #[.string ⟨st.toArray⟩] 9) (.cells (ag (sdN seed (nOf N))) 30)));generalize (w1.alloc (.cells #[.string ⟨st.toArray⟩] 9)).alloc (.cells (ag (sdN seed (nOf N))) 30)=W5 at HB5 HC5 ⊢;have HG5:Hid (x1.heap.size≤w1.heap.size):=O HB1.out.size;generalize w1.heap.size=g5 at HC5 HG5 ⊢;have HX5:=O (HX.out _ HB5.out);have c3:W5.cell? ⟨g5,0,none⟩=some (.string ⟨st.toArray⟩):=HC5.out;have c4:=HX5.out.1;have c5:=HX5.out.2.1
 have hstl:(st.length:Int)=N:=by have := HBL.out;omega
 clear HB1 HB
 go_upto_region 6 with fail
 have HOF:Hid (∀(y:World) (v:Value),KAt y→RdE eS y v [sec,seed]→Calls prog 35 #[.int .i64 3,v] y fun e w'=>e = .returned (.agg (am (ofP 3 [sec,seed])))∧Below y.heap.size y w'):=O (fun y v a h=>Wl 3 3 rfl v [sec,seed] y a h HOFL.out (by simp));generalize hdg:ofP 3 [sec,seed]=dg at HOF ⊢;have HDG:=O hdg;clear hdg;have HROW:Hid (RdE eS (W5.alloc (.cells #[.string ⟨sec.toArray⟩,.string ⟨seed.toArray⟩] 9)) (.slice (some ⟨W5.heap.size,0,none⟩) 2 2) [sec,seed]∧KAt (W5.alloc (.cells #[.string ⟨sec.toArray⟩,.string ⟨seed.toArray⟩] 9))):=O ⟨lq (E:=eS) (heap_alloc_new _ _) [sec,seed] rfl (by simp),HX5.out.2.2.2.on ((O_ _ _).alloc (A_ _) _)⟩
 go_upto_region 7 with (first
  |(go_at_call 35;refine(HOF.out _ _ HROW.out.2 HROW.out.1).mono ?_;rintro e w6 ⟨rfl,hb6⟩;have HB6:=O (cJ _ _ hb6);clear hb6)
  |(refine aH (am dg) 23 rfl (.tmp 12) (.tmp 66) rfl w6.heap.size rfl rfl rfl (by rw[aF];exact cC) (by rw[aF,aF]) (jO _) ?_))
 have HW7:Hid (Below W5.heap.size W5 (w6.alloc (.cells (am dg) 23))∧(w6.alloc (.cells (am dg) 23)).heap[w6.heap.size]?=some (.cells (am dg) 23 (0,0))):=O ⟨HB6.out.alloc HB6.out.size _,heap_alloc_new _ _⟩;generalize w6.alloc (.cells (am dg) 23)=W7 at HW7 ⊢;generalize w6.heap.size=g12 at HW7 ⊢;clear HB6 HROW HOF c3 c4 c5
 have HX7:Hid (w.heap.size≤W7.heap.size∧∀u,Below W7.heap.size W7 u→u.cell? ⟨w.heap.size,0,none⟩=some (.string ⟨sec.toArray⟩)∧u.cell? ⟨w.heap.size+1,0,none⟩=some (.int .i64 ((m:Int)+1))∧u.cell? ⟨g5,0,none⟩=some (.string ⟨st.toArray⟩)∧u.heap[g12]?=some (.cells (am dg) 23 (0,0))∧Below w.heap.size w u):=O (by
  have h5:=HX5.out;have h57:=HW7.out.1;have hs:w.heap.size≤W5.heap.size:=h5.2.2.1.size;refine⟨M_ hs h57.size,fun u hu => ?_⟩
  exact⟨aQ hu (aQ h57 h5.1),aQ hu (aQ h57 h5.2.1),aQ hu (aQ h57 HC5.out),by rw[hu.block _ (Q_.1 HW7.out.2).1];exact HW7.out.2,h5.2.2.1.trans ((h57.mono hs).trans (hu.mono (M_ hs h57.size)))⟩)
 clear HX HX5 HC5 HW7 HB5 HG5 HOFL c1 c2
 go_upto_region 9 with fail
 go_wp2
 go_loopw [14,15] (fun o i wr=>∃j:Nat,j≤n∧i = .int .i64 ((j:Int)+1)∧Hid (ap eH wr W7.heap.size o (dh dg sec st m j))∧Hid (Below W7.heap.size W7 wr)) (fun _ i _=>n+1-(intOf i).toNat)
 case atStart=>exact⟨0,N_ _,rfl,O (ap.nil _ _),O (O_ _ _)⟩
 case round =>
  obtain⟨j,hj,rfl,hown,hb⟩:=hrel
  rename World=>wo
  have HQ:=O (HX7.out.2 _ hb.out)
  by_cases hlt:j<n
  ·have j1:(j:Int)+1≤n:=by omega
   have c4:=HQ.out.1;have HJ:=O hlt;clear hlt hj
   go_wp2_with (at_make;refine Fld.mk_full rfl _ _ rfl sec.length rfl rfl ?hm1 ?hm2)
   case hm1=>have := HLEN.out;omega
   case hm2 =>
    intro w8 hat hb8;have HB8:=O hb8;have HAT:Hid (Fld.BAt w8 wo.heap.size (iJ sec st m (j+1) 0)):=O (by rw[AK];exact hat);clear hat hb8 c4;go_wp2
    go_loopw [78] (fun i wr=>∃q:Nat,q≤sec.length∧i = .int .i64 q∧Hid (Fld.BAt wr wo.heap.size (iJ sec st m (j+1) q))∧Hid (Below wo.heap.size wo wr)) (fun i _=>sec.length-(intOf i).toNat)
    case atStart=>exact⟨0,N_ _,rfl,HAT,HB8⟩
    case round =>
     obtain⟨q,hq,rfl,hat,hbz⟩:=hrel;have HBZ:Hid (Below W7.heap.size W7 wr):=O (hb.out.trans (hbz.out.mono hb.out.size));have HQZ:=O (HX7.out.2 _ HBZ.out)
     by_cases hlt:q<sec.length
     ·have q1:(q:Int)<sec.length:=by omega
      have HQL:=O hlt;have HPS:=O (CU sec st m (j+1) q hlt);have HPL:=O (fI sec st m (j+1) q);have HSP:=O (L1 sec st m q w.heap.size g5 (w.heap.size+1) wr HQZ.out.1 HQZ.out.2.2.1 HQZ.out.2.1 hlt (by rw[HBL.out,HN.out]) (by have := HLEN.out;omega) (by have := HLEN.out;omega))
      have hw8:IntKind.u8.wrap ((j:Int)+1)=B8 (UInt8.ofNat (j+1)):=by rw[IntKind.wrap_u8];unfold B8;have := HLEN.out;have := HJ.out;rw[UInt8.toNat_ofNat'];omega
      have hm8:((j:Int)+1) % 256=B8 (UInt8.ofNat (j+1)):=by rw[←IntKind.wrap_u8];exact hw8
      generalize fK sec st m q=po at HPS HSP;generalize UInt8.ofNat (j+1)=kb at HPS hw8 hm8
      generalize iJ sec st m (j+1) q=da at HPS HPL hat
      clear hlt hq
      go_wp2_with (first
       |(go_at_call 109;refine HSP.out.mono ?_;rintro e w9 ⟨v9,rfl,ho9,hb9⟩;have HO9:=O ho9;have HB9:=O hb9;clear ho9 hb9)
       |(go_at_call 110;refine(Fld.eval_c _ po kb _ (rQ HO9.out.rd)).mono ?_;rintro e _ ⟨rfl,nn,rfl⟩;have HA9:Hid (Fld.BAt (w9.drewN nn) wo.heap.size da):=O ((hat.out.keep HB9.out hat.out.lt).drew nn);have c9:=HA9.out.at q (by rw[HPL.out];exact HQL.out);have f9:=HA9.out.free q))
      go_roundw
      case rel=>exact⟨q+1,HQL.out,by go_num,O (by rw[←HPS.out];exact HA9.out.set q _),O (ak nn ((hbz.out.trans (HB9.out.mono hbz.out.size)).setCell (A_ _) _))⟩
      case measure=>have := HQL.out;simp[intOf];omega
     ·have he:q=sec.length:=by omega
      have q1:¬(q:Int)<sec.length:=by omega
      have HD:Hid (Fld.BAt wr wo.heap.size (fE sec st m (j+1))):=O (by rw[←CT,←he];exact hat.out);have HOW:=O (hown.out.on hbz.out);have HSS:=O (qS dg sec st m j);have HSZ:=O (sZ dg sec st m j)
      have hcv:(convert 80 9 (.slice (some ⟨wo.heap.size,0,none⟩) sec.length sec.length)).run prog wr = .ok (.string ⟨(fE sec st m (j+1)).toArray⟩) wr:=by
       have h:=b6 (ui HD.out (by rw[dR];have := HLEN.out;omega))
       rwa [dR] at h
      have c5:=HQZ.out.2.1;have HBA:Hid (Below wr.heap.size wr (wr.alloc (.cells (shA (shP dg sec st m (j+1))) 103))):=O ((O_ _ _).alloc (A_ _) _);have HWZ:=O (HBZ.out.size);clear he hq hlt hat hown
      go_wp2_with (first
       |(refine wpList_load_row rfl 23 (.tmp 12) rfl g12 rfl _ (am dg) (0,0) _ HQZ.out.2.2.2.1 underlying23 rfl (by rw[aF];exact cC) ?_)
       |(refine IQ (shP dg sec st m (j+1)) rfl (.tmp 92) (.tmp 93) (.tmp 94) (.tmp 96) rfl rfl rfl rfl rfl ?_)
       |(refine IV (shP dg sec st m (j+1)) rfl (.tmp 97) rfl rfl ?_)
       |(at_builtin;refine br oI rfl (.tmp 91) (.tmp 98) rfl W7.heap.size _ _ rfl (HOW.out.on HBA.out) _ [shP dg sec st m (j+1)] rfl (bP wr _ oI) (by rw[HSZ.out];have := HLEN.out;have := HJ.out;simp;omega) (M_ HWZ.out HBA.out.size) ?_;intro v3 w3 ho3 hg3 _;have HO3:=O ho3;have HB3:Hid (Below W7.heap.size W7 w3):=(O ((HBZ.out.trans (HBA.out.mono HWZ.out)).grown hg3 (M_ HWZ.out HBA.out.size) (fun k hk2=>(HOW.out.lt k hk2).1)));clear ho3 hg3))
      go_roundw
      case rel=>exact⟨j+1,HJ.out,by go_num,O (by rw[HSS.out];exact HO3.out),HB3⟩
      case measure=>have := HJ.out;simp[intOf];omega
  ·have he:j=n:=by omega
   have j1:¬(j:Int)+1≤n:=by omega
   have HF:Hid (ap eH wo W7.heap.size u14 (dh dg sec st m n)):=O (by rw[←he];exact hown.out);clear he hlt hj hown;go_wp2
   go_ret2
   exact⟨_,rfl,by rw[HDG.out];exact HF.out.mono HX7.out.1,HQ.out.2.2.2.2⟩
end
section
open Go.RowKit Go.Shelf
attribute [local irreducible] Calls sha
theorem L2 (sec seed:List UInt8) (need n:Int) (w:World) (hok:od sec need n seed=false) :
  Calls prog 65 #[.string ⟨sec.toArray⟩,.int .i64 need,.int .i64 n,.string ⟨seed.toArray⟩] w fun e w'=>e = .returned (.tuple #[.slice none 0 0,.int .i64 1])∧Below w.heap.size w w':=by
 have hc:¬((1:Int)≤sec.length∧(sec.length:Int)≤64)∨(((1:Int)≤sec.length∧(sec.length:Int)≤64)∧(¬(1:Int)≤n∨((1:Int)≤n∧(¬n≤16∨(n≤16∧(¬(1:Int)≤need∨((1:Int)≤need∧(¬need≤n∨(need≤n∧¬(seed.length:Int)=32))))))))):=by
  simp only[od,Bool.and_eq_false_iff,decide_eq_false_iff_not] at hok
  omega
 obtain⟨W0,hW0⟩:∃W0,W0=(w.alloc (.cells #[.string ⟨sec.toArray⟩] 9)).alloc (.cells #[.int .i64 need] 3):=⟨_,rfl⟩;have HW:=O hW0;have HB:Hid (Below w.heap.size w W0):=O (by rw[hW0];exact dm _ _ _ (O_ _ _))
 have c1:W0.cell? ⟨w.heap.size,0,none⟩=some (.string ⟨sec.toArray⟩):=by rw[hW0];exact e_ _ _ 0 _ _ _ (eP _ _ _)
 have c2:W0.cell? ⟨w.heap.size+1,0,none⟩=some (.int .i64 need):=by rw[hW0];exact e_ _ _ 0 _ _ _ (eR _ _ _)
 clear hW0 hok
 go_enter func65,ntmps65
 go_upto_region 1 with fail
 rw[←HW.out]
 try dsimp only[Act.put]
 have his:∀y:World,Calls prog 107 #[.int .i64 (sec.length:Int)] y fun e w'=>e = .returned (.bool (decide ((1:Int)≤sec.length∧(sec.length:Int)≤64)))∧w'=y:=fun y=>by
  have h:=lR (sec.length:Int) y
  rwa [←Bool.decide_and] at h
 have HIS:=O his;clear his
 rcases hc with h1|⟨h1,h2|⟨h2,h3|⟨h3,h4|⟨h4,h5|⟨h5,h6⟩⟩⟩⟩⟩
 case inr.inr.inr.inr.inr =>
  have hs7:((seed.length:Int) != 32)=true:=by rw[bne_iff_ne];exact h6
  rw[decide_eq_true h1] at HIS
  go_wp2_with (go_at_call 107;refine(HIS.out _).mono ?_;rintro e x1 ⟨rfl,rfl⟩)
  go_ret2
  exact⟨rfl,HB.out⟩
 all_goals
  first |rw[decide_eq_true h1] at HIS|rw[V_ h1] at HIS
  go_wp2_with (go_at_call 107;refine(HIS.out _).mono ?_;rintro e x1 ⟨rfl,rfl⟩)
  go_ret2
  exact⟨rfl,HB.out⟩
end
section
open Go.RowKit Go.Shelf
theorem vQ (s:SH):(shc s)[16]?=some (.int .i64 s.need):=by kernel_rfl
theorem jU (s:SH):(shc s)[17]?=some (.int .i64 s.idx):=by kernel_rfl
theorem pG (s:SH):(shc s)[18]?=some (.string ⟨s.data.toArray⟩):=by kernel_rfl
theorem cU (s:SH) (i:Nat):(shA s)[i]? = (shc s)[i]? := by simp[shA]
theorem dA {w:World} {a:Option Addr} {n cap:Nat} {l:List SH} (h:RdE eH w (.slice a n cap) l) (h0:0<l.length):∃b off,a=some ⟨b,off,none⟩∧b<w.heap.size∧∀j (hj:j<l.length),w.rangeAt b (off+j*19) (shc l[j])∧w.cell? ⟨b,off+j*19+16,none⟩=some (.int .i64 l[j].need)∧w.cell? ⟨b,off+j*19+17,none⟩=some (.int .i64 l[j].idx)∧w.cell? ⟨b,off+j*19+18,none⟩=some (.string ⟨l[j].data.toArray⟩):=by
 obtain⟨b,off,e,hb,hc⟩:=h.cell oI h0;refine⟨b,off,e,hb,fun j hj => ?_⟩;have hc2:∀i,i<19→w.cell? ⟨b,off+j*19+i,none⟩=(shc l[j])[i]? := fun i hi=>hc j hj i hi;refine⟨?_,by rw[hc2 16 (by decide)];exact vQ _,by rw[hc2 17 (by decide)];exact jU _,by rw[hc2 18 (by decide)];exact pG _⟩;intro i x hx
 have hi:i<19:=by
  have := (d_.1 hx).1
  rwa [qT] at this
 rw[hc2 i hi];exact hx
theorem vq (s:SH) (g off:Nat) (x:Operand) (ho:o.op = .load 103 x) (hc:w.rangeAt g off (shc s))
  (hx:a.eval x = .pointer (some ⟨g,off,none⟩)) (hgd:o.guard=none)
  (h:wpList prog ops Q rest (a.put o.dst (.agg (shA s))) w):wpList prog ops Q (o::rest) a w :=
 wpList_plain hgd fun _ hK=>wp_load_mid _ x ho g off hx (shc s) _ hc underlying103 rfl (by rw[qT];exact js) (hK _ _ h)
theorem oA (w:World):(zeroValue 103).run prog w = .ok (.agg (shA zSH)) w:=by
 have h:=Cs;generalize shA zSH=L at h ⊢
 cases hq:prog.info? 103 with
 | none=>rw[hq] at h;cases h
 | some i =>
   rw[hq] at h
   simp at h
   simp[zeroValue,typeInfo,hq,h]
theorem Uc (l:List SH) (q k:Nat) (h:k<l.length):byteAt (ysP l q) k=byteAt l[k].data q:=by
 unfold ysP byteAt
 simp[h]
attribute [local irreducible] Calls shc shA
theorem Jl (l : List SH) (x : UInt8) (d p1 p2 cap : Nat) (a : Option Addr) (vx : Value) (u : World) (c1 : u.cell? ⟨p1, 0, none⟩ = some (.slice a l.length cap)) (c2 : u.cell? ⟨p2, 0, none⟩ = some vx)
  (hv:RdE eH u (.slice a l.length cap) l) (hx:RdE eB u vx (xsP l)) (hok:Fld.okX (xsP l)=true) (hd:∀s∈l,s.data.length=d) (h1:1≤l.length) (h2:l.length≤16) (h3:d≤64) :
  Calls prog 141 #[.int .u8 (B8 x),.pointer (some ⟨p1,0,none⟩),.pointer (some ⟨p2,0,none⟩)] u fun e u'=>e = .returned (.string ⟨(eW l d x).toArray⟩)∧Below u.heap.size u u':=by
 obtain⟨b,off,rfl,hb,hc⟩:=dA hv (by omega);have HC:Hid (∀y,Below u.heap.size u y→y.cell? ⟨p1,0,none⟩=some (.slice (some ⟨b,off,none⟩) l.length cap)∧y.cell? ⟨p2,0,none⟩=some vx∧RdE eB y vx (xsP l)∧∀j (hj:j<l.length),y.rangeAt b (off+j*19) (shc l[j])∧y.cell? ⟨b,off+j*19+18,none⟩=some (.string ⟨l[j].data.toArray⟩)):=O (fun y hy=>⟨aQ hy c1,aQ hy c2,hx.on hy,fun j hj=>⟨fun i v hi=>aQ hy ((hc j hj).1 i v hi),aQ hy (hc j hj).2.2.2⟩⟩);have HD:Hid (∀j (hj:j<l.length),l[j].data.length=d):=O (fun j hj=>hd _ (List.getElem_mem hj));have HOK:=O hok;have HL:=O (show 1≤l.length∧l.length≤16∧d≤64 from⟨h1,h2,h3⟩);have c4:=aQ (O_ _ _) (hc 0 h1).2.2.2;rw[Nat.zero_mul,Nat.add_zero] at c4;have hd0:(l[0]'h1).data.length=d:=hd _ (List.getElem_mem h1);generalize l[0]'h1=s0 at c4 hd0
 have i1:(1:Int)≤l.length:=by omega
 have i2:(l.length:Int)≤16:=by omega
 have i3:(d:Int)≤64:=by omega
 have hzs:=oA;clear hc hx hok hd hv h1 h2 h3 hb
 go_enter func141,ntmps141
 go_wp2_with (at_make;refine Fld.mk_full rfl _ _ rfl d rfl rfl ?hm1 ?hm2)
 case hm1=>omega
 case hm2 =>
  intro w1 hat1 hb1;have HAT1:Hid (Fld.BAt w1 u.heap.size (mz l d x 0)):=O (by rw[CM];exact hat1);have HB1:=O hb1;clear hat1 hb1 c1 c2 c4;go_wp2
  go_loopw [18] (fun i wr=>∃q:Nat,q≤d∧i = .int .i64 q∧Hid (Fld.BAt wr u.heap.size (mz l d x q))∧Hid (Below u.heap.size u wr)) (fun i _=>d-(intOf i).toNat)
  case atStart=>exact⟨0,N_ _,rfl,HAT1,HB1⟩
  case round =>
   obtain⟨q,hq,rfl,hat,hb⟩:=hrel
   rename World=>wo
   have HQ:=O (HC.out _ hb.out)
   by_cases hlt:q<d
   ·have q1:(q:Int)<d:=by omega
    have HQL:=O hlt;have c1:=HQ.out.1;clear hlt hq
    go_wp2_with (at_make;refine Fld.mk_full rfl _ _ rfl l.length rfl rfl ?hn1 ?hn2)
    case hn1=>have := HL.out;omega
    case hn2 =>
     intro w2 hat2 hb2;have HAT2:Hid (Fld.BAt w2 wo.heap.size (iC (ysP l q) 0)):=O (by rw[pi,jy];exact hat2);have HB2:=O hb2;have c1b:=aQ hb2 c1;clear hat2 hb2 c1;go_wp2
     go_loopw [26] (fun i wr=>∃k:Nat,k≤l.length∧i = .int .i64 k∧Hid (Fld.BAt wr wo.heap.size (iC (ysP l q) k))∧Hid (Below wo.heap.size wo wr)) (fun i _=>l.length-(intOf i).toNat)
     case atStart=>exact⟨0,N_ _,rfl,HAT2,HB2⟩
     case round =>
      obtain⟨k,hk,rfl,hatk,hbk⟩:=hrel;have HBK:Hid (Below u.heap.size u wr):=O (hb.out.trans (hbk.out.mono hb.out.size));have HK:=O (HC.out _ HBK.out)
      by_cases hlt:k<l.length
      ·have k1:(k:Int)<l.length:=by omega
       have HKL:=O hlt;have HR:=O (HK.out.2.2.2 k hlt).1;have hdl:=HD.out k hlt;have HYS:=O (Uc l q k hlt);have HFS:=O (rD (ysP l q) k (by rw[jy];exact hlt));have HFL:=O (fq (ysP l q) k);generalize l[k]=s at HR hdl HYS;have HDL:=O hdl;clear hlt hk
       go_upto_region 9 with (first
        |(refine vq s b (off+k*19) (.tmp 29) rfl HR.out rfl rfl ?_)
        |(refine aH (shA s) 103 rfl (.tmp 9) (.tmp 30) rfl _ rfl rfl rfl (by rw[cX];exact js) (by rw[cX,cX]) (nZ _) ?_))
       have HA9:Hid (Below wr.heap.size wr (wr.alloc (.cells (shA s) 103))∧(wr.alloc (.cells (shA s) 103)).cell? ⟨wr.heap.size,18,none⟩=some (.string ⟨s.data.toArray⟩)):=O ⟨(O_ _ _).alloc (A_ _) _,by rw[e_ _ _ 18 _ _ _ (heap_alloc_new wr (.cells (shA s) 103)),cU];exact pG s⟩;generalize wr.alloc (.cells (shA s) 103)=w9 at HA9 ⊢;have c18:=HA9.out.2;have HAT9:Hid (Fld.BAt w9 wo.heap.size (iC (ysP l q) k)):=O (hatk.out.keep HA9.out.1 hatk.out.lt);have HB9:=O (hbk.out.trans (HA9.out.1.mono hbk.out.size));have c9:=HAT9.out.at k (by rw[HFL.out,jy];exact HKL.out);have f9:=HAT9.out.free k;simp only[Act.put];generalize wr.heap.size=g9 at c18 ⊢
       have hqs:q<s.data.length:=by rw[HDL.out];exact HQL.out
       have hqi:(q:Int)<s.data.length:=by omega
       clear HBK HK HA9;go_wp2;go_roundw
       case rel=>exact⟨k+1,HKL.out,by go_num,O (by rw[←HFS.out,HYS.out];exact HAT9.out.set k _),O (HB9.out.setCell (A_ _) _)⟩
       case measure=>have := HKL.out;simp[intOf];omega
      ·have he:k=l.length:=by omega
       have k1:¬(k:Int)<l.length:=by omega
       have HY:Hid (Fld.BAt wr wo.heap.size (ysP l q)):=O (by have h:=hatk.out;rw[he,show l.length=(ysP l q).length from(jy l q).symm,rC] at h;exact h);have HATQ:Hid (Fld.BAt wr u.heap.size (mz l d x q)):=O (hat.out.keep hbk.out hat.out.lt);have HCS:=O (Gn l d x q HQL.out);have HCL:=O (gP l d x q);have c2:=HK.out.2.1;have HRY:Hid (RdE eB wr (.slice (some ⟨wo.heap.size,0,none⟩) l.length l.length) (ysP l q)):=O (by have h:=ui HY.out (by rw[jy];have := HL.out;omega);rwa [jy] at h);clear he hlt hk hatk
       go_wp2_with (go_at_call 142;refine(Fld.interp_c vx _ (xsP l) (ysP l q) x _ (rQ HK.out.2.2.1) (rQ HRY.out) HOK.out (by rw[kL,jy])).mono ?_;rintro e w9 ⟨rfl,hb9⟩;have HAT9:Hid (Fld.BAt w9 u.heap.size (mz l d x q)):=O (HATQ.out.keep hb9 HATQ.out.lt);have HB9:Hid (Below u.heap.size u w9):=O (HBK.out.trans (hb9.mono HBK.out.size));clear hb9;have c9:=HAT9.out.at q (by rw[HCL.out];exact HQL.out);have f9:=HAT9.out.free q)
       go_roundw
       case rel=>exact⟨q+1,HQL.out,by go_num,O (by rw[←HCS.out];exact HAT9.out.set q _),O (HB9.out.setCell (A_ _) _)⟩
       case measure=>have := HQL.out;simp[intOf];omega
   ·have he:q=d:=by omega
    have q1:¬(q:Int)<d:=by omega
    have HF:Hid (Fld.BAt wo u.heap.size (eW l d x)):=O (by rw[←Gm,←he];rw[he] at hat ⊢;exact hat.out)
    have hcv:(convert 80 9 (.slice (some ⟨u.heap.size,0,none⟩) d d)).run prog wo = .ok (.string ⟨(eW l d x).toArray⟩) wo:=by
     have h:=b6 (ui HF.out (by rw[hJ];have := HL.out;omega))
     rwa [hJ] at h
    clear he hlt hq hat
    go_wp2;go_ret;exact⟨rfl,hb.out⟩
end
section
open Go.RowKit Go.Shelf
theorem yP (l:List SH) (m:Nat):∀(j:Nat) (u:Value),(eH.flat (l.take m))[j]?=some u→(eH.flat l)[j]?=some u:=by
 intro j u h
 have e:eH.flat l=eH.flat (l.take m)++eH.flat (l.drop m):=by rw[←El.flat_append,List.take_append_drop]
 rw[e,List.getElem?_append_left (d_.1 h).1];exact h
theorem Ak {w:World} {a:Option Addr} {cap:Nat} {l:List SH} (h:RdE eH w (.slice a l.length cap) l) (m:Nat) (hm:m≤l.length):RdE eH w (.slice a m cap) (l.take m):=by
 obtain⟨a',c',e,h1,h2,h3⟩:=h
 cases e
 have hl:(l.take m).length=m:=by rw[b_];omega
 refine⟨_,_,by rw[hl],by rw[hl];omega,h2,fun h0 => ?_⟩;obtain⟨b,off,e,hb,hc⟩:=h3 (by omega);exact⟨b,off,e,hb,fun j u hu=>hc j u (yP l m j u hu)⟩
def oH (w:World) (f:Value) (l:List SH):Prop:=∃(p1 p2:Nat) (a:Option Addr) (cap:Nat) (vx:Value),f = .func (.func 141) #[] #[.pointer (some ⟨p1,0,none⟩),.pointer (some ⟨p2,0,none⟩)] ∧
 w.cell? ⟨p1,0,none⟩=some (.slice a l.length cap)∧w.cell? ⟨p2,0,none⟩=some vx∧RdE eH w (.slice a l.length cap) l∧RdE eB w vx (xsP l)
theorem tR (s:SH) (h1:1≤s.idx) (h2:s.idx≤255):IntKind.u8.wrap s.idx=B8 (xb s):=by
 rw[IntKind.wrap_u8];unfold B8 xb;rw[UInt8.toNat_ofNat']
 omega
attribute [local irreducible] Calls shc shA
theorem Es (l:List SH) (m:Nat) (v:Value) (w:World) (hv:RdE eH w v l) (hm:(l.headD zS0).need=m) (h1:1≤m) (h2:m≤l.length) (h3:l.length≤255) (h4:m≤16) (hi:∀s∈l,1≤s.idx∧s.idx≤255) :
  Calls prog 87 #[v] w fun e w'=>∃f,e = .returned f∧oH w' f (l.take m)∧Below w.heap.size w w':=by
 obtain⟨a0,cap,rfl,hcap,_,_⟩:=id hv;obtain⟨b,off,rfl,hb,hc⟩:=dA hv (by omega);obtain⟨s0,hs0⟩:∃s0,s0=l[0]'(by omega):=⟨_,rfl⟩
 have hm0:s0.need=m:=by rw[hs0,←hm];cases l with |nil=>simp at h2;omega|cons s r=>rfl
 have c16:=(hc 0 (by omega)).2.1;rw[←hs0,Nat.zero_mul,Nat.add_zero,hm0] at c16;obtain⟨W0,hW0⟩:∃W0,W0=w.alloc (.cells #[.slice (some ⟨b,off,none⟩) l.length cap] 28):=⟨_,rfl⟩;have HW:=O hW0
 have hlt:(l.take m).length=m:=by rw[b_];omega
 have HX:Hid (∀u,Below W0.heap.size W0 u→u.heap[w.heap.size]?=some (.cells #[.slice (some ⟨b,off,none⟩) l.length cap] 28 (0,0))∧u.cell? ⟨b,off+16,none⟩=some (.int .i64 m)∧Below w.heap.size w u):=O (by
  intro u h;rw[hW0] at h;have h2:=cJ _ _ h
  exact⟨by rw[h.block _ (by simp)];exact al _ _ _ rfl,aQ h2 c16,h2⟩)
 have HZ:Hid (w.heap.size<W0.heap.size):=O (by rw[hW0];simp);have HV:=O (Ak hv m h2);have hge:∀j,j<m→∃hj:j<l.length,l.getD j zS0=l[j]:=fun j hj=>⟨by omega,by simp[show j<l.length by omega]⟩;have HS:Hid (∀j,j<m→∀u,Below w.heap.size w u→u.rangeAt b (off+j*19) (shc (l.getD j zS0))):=O (fun j hj u hu i x hx=>by obtain⟨h,e⟩:=hge j hj;rw[e] at hx;exact aQ hu ((hc j h).1 i x hx));have HI:Hid (∀j,j<m→1≤(l.getD j zS0).idx∧(l.getD j zS0).idx≤255):=O (fun j hj=>by obtain⟨h,e⟩:=hge j hj;rw[e];exact hi _ (List.getElem_mem h));have HXS:Hid (∀j,j<m→byteAt (xsP (l.take m)) j=xb (l.getD j zS0)):=O (fun j hj=>by obtain⟨h,e⟩:=hge j hj;rw[e];unfold xsP byteAt;simp[hj,h]);have HM:=O (show 1≤m∧m≤16∧m≤l.length∧l.length≤255∧l.length≤cap from⟨h1,h4,h2,h3,hcap⟩)
 have hXL:(xsP (l.take m)).length=m:=by rw[kL];exact hlt
 have HXL:=O hXL;have HTL:=O hlt;have hzs:=oA
 have i1:(1:Int)≤m:=by omega
 have i2:(m:Int)≤16:=by omega
 have i3:(m:Int)≤l.length:=by omega
 have i4:(l.length:Int)≤cap:=by omega
 have i5:(1:Int)≤l.length:=by omega
 clear hge hv hm h1 h2 h3 h4 hi hb hc hs0 hm0 c16 hW0 hlt hXL hcap
 go_enter func87,ntmps87
 go_upto_region 1 with fail
 rw[←HW.out]
 try dsimp only[Act.put]
 refine aY 6 [[],[],[1],[2],[3],[0,4]] (SP.of [.eq (.slice (some ⟨b,off,none⟩) l.length cap),.eq (.slice (some ⟨b,off,none⟩) l.length cap),.eq (.pointer (some ⟨b,off,none⟩)),.eq (.pointer (some ⟨b,off+16,none⟩)),.eq (.int .i64 m),.eq (.slice (some ⟨b,off,none⟩) m cap)]) (fun _=>undef) ?h1 ?h2 ?h3 ?h4 ?h5 ?h6
 case h1=>kernel_rfl
 case h2=>kernel_rfl
 case h3=>kernel_rfl
 case h4 =>
  simp only[F_,c_]
  repeat (first |exact trivial|refine⟨fun vals v=>by kernel_rfl,?_⟩)
 case h5 =>
  simp only[F_,c_];refine⟨?_,?_,?_,?_,?_,?_,trivial⟩
  all_goals (intro wq hbq vals;simp only[Nat.reduceAdd,a_,X_,W_];have HQ:=O (HX.out wq hbq);clear hbq;repeat (first |refine ar ?_|refine aw rfl ?_);intro Q hQ;simp only[ay,upd,Act.put,B_,C_,D_,Nat.reduceAdd,a_,Nat.reduceEqDiff,if_true,if_false,reduceIte])
  all_goals have c:=e_ _ _ 0 _ _ _ HQ.out.1
  all_goals have c2:=HQ.out.2.1
  all_goals go_wp2
  all_goals exact ab hQ _ (by kernel_rfl) (O_ _ _) rfl
 case h6 =>
  intro wq hbq vals;have HQ:=O (HX.out wq hbq);have HQZ:Hid (w.heap.size<wq.heap.size):=O (P_ HZ.out hbq.size);clear hbq;rw[show List.range 6=[0,1,2,3,4,5] from by decide]
  repeat (first |refine ar ?_|refine aw rfl ?_)
  simp only[F_,c_,J_,L_];simp only[ay,upd,Act.put,B_,C_,D_,Nat.reduceAdd,a_,Nat.reduceEqDiff,if_true,if_false,reduceIte];have c:=e_ _ _ 0 _ _ _ HQ.out.1;have f:=frozen_of_row _ _ 0 _ _ HQ.out.1
  go_upto_region 2 with fail
  have HB2:Hid (Below w.heap.size w (wq.setCell ⟨w.heap.size,0,none⟩ (.slice (some ⟨b,off,none⟩) m cap))):=O (HQ.out.2.2.setCell (p:=⟨w.heap.size,0,none⟩) (A_ _) _);have HC2:Hid ((wq.setCell ⟨w.heap.size,0,none⟩ (.slice (some ⟨b,off,none⟩) m cap)).cell? ⟨w.heap.size,0,none⟩=some (.slice (some ⟨b,off,none⟩) m cap)):=O (World.cell?_setCell_same' _ _ _ (by rw[c];rfl));clear c f HQ HQZ;generalize wq.setCell ⟨w.heap.size,0,none⟩ (.slice (some ⟨b,off,none⟩) m cap)=W2 at HB2 HC2 ⊢;have c:=HC2.out
  go_wp2_with (at_make;refine Fld.mk_full rfl _ _ rfl m rfl rfl ?hm1 ?hm2)
  case hm1=>have := HM.out;omega
  case hm2 =>
   intro w3 hat3 hb3;have HAT3:Hid (Fld.BAt w3 W2.heap.size (iC (xsP (l.take m)) 0)):=O (by rw[pi,HXL.out];exact hat3);have HB3:=O hb3;have c3:=aQ hb3 c;clear hat3 hb3 c
   go_upto_region 3 with fail
   have HA4:Hid (Below w3.heap.size w3 (w3.alloc (.cells #[.slice (some ⟨W2.heap.size,0,none⟩) m m] 80))∧(w3.alloc (.cells #[.slice (some ⟨W2.heap.size,0,none⟩) m m] 80)).heap[w3.heap.size]?=some (.cells #[.slice (some ⟨W2.heap.size,0,none⟩) m m] 80 (0,0))):=O ⟨(O_ _ _).alloc (A_ _) _,heap_alloc_new _ _⟩;have HGX:Hid (W2.heap.size<w3.heap.size):=O HAT3.out.lt;generalize w3.alloc (.cells #[.slice (some ⟨W2.heap.size,0,none⟩) m m] 80)=W4 at HA4 ⊢;have c4:=aQ HA4.out.1 c3;have HAT4:=O (HAT3.out.keep HA4.out.1 HAT3.out.lt);have HB4:Hid (Below W2.heap.size W2 W4):=O (HB3.out.trans (HA4.out.1.mono HB3.out.size));have HG4:=O HA4.out.2;generalize w3.heap.size=gx at HGX HG4 ⊢;clear HA4 HAT3 HB3 c3;go_wp2
   go_loopw [17] (fun i wr=>∃k:Nat,k≤m∧i = .int .i64 k∧Hid (Fld.BAt wr W2.heap.size (iC (xsP (l.take m)) k))∧Hid (Below W2.heap.size W2 wr)∧Hid (wr.heap[gx]?=some (.cells #[.slice (some ⟨W2.heap.size,0,none⟩) m m] 80 (0,0)))) (fun i _=>m-(intOf i).toNat)
   case atStart=>exact⟨0,N_ _,rfl,HAT4,HB4,HG4⟩
   case round =>
    obtain⟨k,hk,rfl,hat,hb,hg⟩:=hrel;have HBW:Hid (Below w.heap.size w wr):=O (HB2.out.trans (hb.out.mono HB2.out.size))
    by_cases hlt:k<m
    ·have k1:(k:Int)<m:=by omega
     have HKL:=O hlt;have HR:=O (HS.out k hlt wr HBW.out);have HIX:=O (HI.out k hlt);have HYS:=O (HXS.out k hlt);have HFS:=O (rD (xsP (l.take m)) k (by rw[HXL.out];exact hlt));have HFL:=O (fq (xsP (l.take m)) k);generalize l.getD k zS0=s at HR HIX HYS;have hw8:=tR s HIX.out.1 HIX.out.2
     have hm8:s.idx % 256=B8 (xb s):=by rw[←IntKind.wrap_u8];exact hw8
     clear hlt hk
     go_upto_region 6 with (first
      |(refine vq s b (off+k*19) (.tmp 20) rfl HR.out rfl rfl ?_)
      |(refine aH (shA s) 103 rfl (.tmp 5) (.tmp 21) rfl _ rfl rfl rfl (by rw[cX];exact js) (by rw[cX,cX]) (nZ _) ?_))
     have HA9:Hid (Below wr.heap.size wr (wr.alloc (.cells (shA s) 103))∧(wr.alloc (.cells (shA s) 103)).cell? ⟨wr.heap.size,17,none⟩=some (.int .i64 s.idx)):=O ⟨(O_ _ _).alloc (A_ _) _,by rw[e_ _ _ 17 _ _ _ (heap_alloc_new wr (.cells (shA s) 103)),cU];exact jU s⟩;generalize wr.alloc (.cells (shA s) 103)=w9 at HA9 ⊢;have c18:=HA9.out.2;have HAT9:=O (hat.out.keep HA9.out.1 hat.out.lt);have HB9:=O (hb.out.trans (HA9.out.1.mono hb.out.size));have HG9:Hid (w9.heap[gx]?=some (.cells #[.slice (some ⟨W2.heap.size,0,none⟩) m m] 80 (0,0))):=O (by rw[HA9.out.1.block _ (Q_.1 hg.out).1];exact hg.out);have cgx:=e_ _ _ 0 _ _ _ HG9.out;have c9:=HAT9.out.at k (by rw[HFL.out,HXL.out];exact HKL.out);have f9:=HAT9.out.free k;simp only[Act.put];generalize wr.heap.size=g9 at c18 ⊢;clear HBW HA9 HR hg hat hb;go_wp2;go_roundw
     case rel=>exact⟨k+1,HKL.out,by go_num,O (by rw[←HFS.out,HYS.out];exact HAT9.out.set k _),O (HB9.out.setCell (A_ _) _),O (by rw[Below.heap_setCell _ _ _ _ (by have := HGX.out;show gx≠W2.heap.size;omega)];exact HG9.out)⟩
     case measure=>have := HKL.out;simp[intOf];omega
    ·have he:k=m:=by omega
     have k1:¬(k:Int)<m:=by omega
     have HY:Hid (Fld.BAt wr W2.heap.size (xsP (l.take m))):=O (by have h:=hat.out;rw[he] at h;have e:=rC (xsP (l.take m));rw[HXL.out] at e;rw[e] at h;exact h);have HCUR:Hid (oH wr (.func (.func 141) #[] #[.pointer (some ⟨w.heap.size,0,none⟩),.pointer (some ⟨gx,0,none⟩)]) (l.take m)):=O ⟨w.heap.size,gx,some ⟨b,off,none⟩,cap,.slice (some ⟨W2.heap.size,0,none⟩) m m,rfl,by rw[HTL.out];exact aQ (hb.out.mono (A_ _)) HC2.out,e_ _ _ 0 _ _ _ hg.out,by rw[HTL.out];exact HV.out.on HBW.out,by have h:=ui HY.out (by rw[HXL.out];have := HM.out;omega);rwa [HXL.out] at h⟩
     clear he hlt hk hat
     go_wp2;go_ret;exact⟨_,rfl,HCUR.out,HBW.out⟩
end
end
end Go.Proofs.YtmfiaadjdbemnaaGreatDoor
