/- Contracts and lemmas. No condition. -/
import Derived.Test.YtmfiaadjdbemnaaGreatDoorSB32
import Derived.Test.YtmfiaadjdbemnaaGreatDoorSB33
set_option maxRecDepth 100000
set_option maxHeartbeats 8000000
set_option linter.unusedSimpArgs false
set_option linter.unusedVariables false
namespace Go.Proofs.YtmfiaadjdbemnaaGreatDoor
open Tryz
section
variable {ops:Array Oper} {rest:List Oper} {o:Oper} {a:Act} {w:World} {Q:Exit→Act→World→Prop}
section
open Go.RowKit Go.Shelf
theorem vP {w:World} {ai:Nat} {v:Value} {l:List SH} {n:Nat} (h:ap eH w ai v l) (hl:l.length=n):∃a c,v = .slice a n c∧n≤c∧RdE eH w (.slice a n c) l:=by
 obtain⟨a,c,rfl,h1,_,_⟩:=id h.rd;rw[←hl];exact⟨a,c,rfl,h1,h.rd⟩
theorem Xt (w:World) (hk:KAt w):Calls prog 10 #[.agg (ag [115]),.int .i64 2,.int .i64 3] w fun e w'=>∃a c,e = .returned (.tuple #[.agg (doA sD1),.slice a 3 c,.agg (ag sN),.int .i64 0])∧(3≤c∧RdE eH w' (.slice a 3 c) (fdP sS 1 (List.range 3)))∧Below w.heap.size w w':=by
 have h:=xN [115] 2 3 w hk (by decide);rw[WG] at h;refine h.mono ?_;rintro e w' ⟨v,rfl,ho,hb⟩;obtain⟨a,c,rfl,h1,h2⟩:=vP ho (by rw[jq];try rfl);exact⟨a,c,rfl,⟨h1,h2⟩,hb⟩
theorem T8 (w:World) (hk:KAt w):Calls prog 10 #[.agg (ag [115]),.int .i64 3,.int .i64 2] w fun e w'=>∃a c,e = .returned (.tuple #[.agg (doA zD),.slice a 0 c,.agg (ag []),.int .i64 1])∧Below w.heap.size w w':=by
 have h:=xN [115] 3 2 w hk (by decide);rw[WO] at h;refine h.mono ?_;rintro e w' ⟨v,rfl,ho,hb⟩;obtain⟨a,c,rfl,h1,h2⟩:=vP (n:=0) ho rfl;exact⟨a,c,rfl,hb⟩
theorem Xr (v:Value) (w:World) (hk:KAt w) (hv:RdK w v sT):Calls prog 19 #[.agg (doA sD1),.agg (tbA 3 v),.agg (bc sb ah)] w fun e w'=>e = .returned (.tuple #[.agg (doA ⟨sI1,sK1,0,1⟩),.string ⟨sX.toArray⟩,.int .i64 0])∧Below w.heap.size w w':=by
 have h:=pV sD1 sb 3 v none 0 0 sT w hk hv Ca mg vM;rw[sW.2.1,sW.2.2.1,sW.2.2.2] at h;exact h
theorem Lv {w:World} {v:Value} (h:RdK w v sT):∃a c,v = .slice a 2 c:=by
 obtain⟨a,c,rfl,_⟩:=h;exact⟨a,c,rfl⟩
theorem Xy (v:Value) (w:World) (hk:KAt w) (hv:RdE eH w v ((fdP sS 1 (List.range 3)).drop 1)):Calls prog 21 #[.string ⟨sX.toArray⟩,v] w fun e w'=>∃a c,e = .returned (.tuple #[.agg (bc (cG sD1 sb) (.slice a 2 c)),.int .i64 0])∧Below w.heap.size w w':=by
 have e1:(fdP sS 1 (List.range 3)).drop 1=fdP sS 1 [1,2]:=by rw[JM];rfl
 rw[e1] at hv;have h:=j6 sX _ v w hk hv (M_ zG (by decide));rw[sU1.1,sU1.2.1,sU1.2.2] at h;refine h.mono ?_;rintro e w' ⟨a,n,c,rfl,hr,hb⟩;obtain⟨a',c',e'⟩:=Lv hr
 cases e'
 exact⟨a,c,rfl,hb⟩
theorem Xx (v:Value) (w:World) (hk:KAt w) (hv:RdE eH w v ((fdP sS 1 (List.range 3)).take 1)):Calls prog 21 #[.string ⟨sX.toArray⟩,v] w fun e w'=>∃b a n c,e = .returned (.tuple #[.agg (bc b (.slice a n c)),.int .i64 16])∧Below w.heap.size w w':=by
 have e1:(fdP sS 1 (List.range 3)).take 1=fdP sS 1 [0]:=by rw[JN];rfl
 rw[e1] at hv;have h:=j6 sX _ v w hk hv (M_ zG (by decide));rw[sU0] at h;refine h.mono ?_;rintro e w' ⟨a,n,c,rfl,hr,hb⟩;exact⟨_,a,n,c,rfl,hb⟩
theorem Xv (w:World) (hk:KAt w):Calls prog 12 #[.agg (doA sD1),.agg (ag sN),.int .i64 1,.int .i64 1] w fun e w'=>∃a c r,e = .returned (.tuple #[.agg (doA ⟨sI1,sK2,1,0⟩),.slice a 1 c,.agg (ag r),.int .i64 0])∧RdE eH w' (.slice a 1 c) (fdP sN 0 [0])∧Below w.heap.size w w':=by
 have h:=Fm sD1 sN 1 1 w hk (by unfold sN;rw[im];decide);rw[WM] at h;refine h.mono ?_;rintro e w' ⟨v,rfl,ho,hb⟩;obtain⟨a,c,rfl,h1,h2⟩:=vP ho (by rw[jq];try rfl);exact⟨a,c,_,rfl,h2,hb⟩
theorem Xz (v:Value) (w:World) (hk:KAt w) (hv:RdE eH w v (fdP sN 0 [0])):Calls prog 21 #[.string ⟨sX.toArray⟩,v] w fun e w'=>∃b a n c,e = .returned (.tuple #[.agg (bc b (.slice a n c)),.int .i64 8])∧Below w.heap.size w w':=by
 have h:=j6 sX _ v w hk hv (M_ zG (by decide));rw[sUR] at h;refine h.mono ?_;rintro e w' ⟨a,n,c,rfl,hr,hb⟩;exact⟨_,a,n,c,rfl,hb⟩
theorem Xw (v vi:Value) (w:World) (hk:KAt w) (hv:RdK w v sT) (hi:RdE eI w vi [1]):Calls prog 24 #[.agg (tbA 3 v),vi,.agg (bc sb ah),.agg (ag sN),.int .i64 1,.int .i64 2] w fun e w'=>∃a1 c1 d a2 c2 a3 c3 r,e = .returned (.tuple #[.agg (ptA 3 (.slice a1 1 c1) d (.slice a2 2 c2) sX2 (.slice a3 1 c3)),.agg (ag r),.int .i64 0]) ∧
  (RdE eH w' (.slice a2 2 c2) (fdP (nxS sN) 0 (List.range 2))∧RdE eI w' (.slice a3 1 c3) [1])∧Below w.heap.size w w':=by
 have h:=n9 3 v sT vi [1] sb none 0 0 sN 1 2 w hk hv hi mg vM (by unfold sN;rw[im];decide) (by decide) (by decide);rw[WJ] at h;refine h.mono ?_;rintro e w' ⟨v1,v2,v3,rfl,h1,h2,h3,hb⟩;obtain⟨a1,c1,rfl,_⟩:=id h1;obtain⟨a2,c2,rfl,_⟩:=id h2;obtain⟨a3,c3,rfl,_⟩:=id h3
 have e2:(fdP (nxS sN) 0 (List.range 2)).length=2:=by rw[jq];rfl
 rw[e2] at h2 ⊢;exact⟨a1,c1,_,a2,c2,a3,c3,_,rfl,⟨h2,h3⟩,hb⟩
theorem T9 (v:Value) (w:World) (hk:KAt w) (hv:RdK w v sT):Calls prog 24 #[.agg (tbA 3 v),.slice none 0 0,.agg (bc sb ah),.agg (ag sN),.int .i64 1,.int .i64 2] w fun e w'=>∃a1 c1 a2 c2 a3 c3,e = .returned (.tuple #[.agg (ptA 0 (.slice a1 0 c1) zD (.slice a2 0 c2) [] (.slice a3 0 c3)),.agg (ag []),.int .i64 1])∧Below w.heap.size w w':=by
 have h:=n9 3 v sT ah [] sb none 0 0 sN 1 2 w hk hv (ap.nil _ 0).rd mg vM (by unfold sN;rw[im];decide) (by decide) (by decide);rw[WK] at h;refine h.mono ?_;rintro e w' ⟨v1,v2,v3,rfl,h1,h2,h3,hb⟩;obtain⟨a1,c1,rfl,_⟩:=id h1;obtain⟨a2,c2,rfl,_⟩:=id h2;obtain⟨a3,c3,rfl,_⟩:=id h3;exact⟨a1,c1,a2,c2,a3,c3,rfl,hb⟩
theorem Xs (vl:Value) (w:World) (hk:KAt w) (hl:RdE eH w vl (fdP (nxS sN) 0 (List.range 2))):Calls prog 28 #[.agg (doA sD1),.agg (tbA 1 ah),.agg (am z16),.int .i64 0,.string ⟨sX2.toArray⟩,vl] w fun e w'=>∃a c a2 c2,e = .returned (.tuple #[.agg (tbA 2 (.slice a 1 c)),.slice a2 1 c2,.int .i64 0])∧RdE eI w' (.slice a2 1 c2) [1]∧Below w.heap.size w w':=by
 have h:=qG sD1 1 ah [] z16 0 sX2 _ vl w hk (RdK.nil _) hl (by decide) (M_ Pv (by decide));obtain⟨k,hM⟩:=WI;rw[hM] at h;refine h.mono ?_;rintro e w' ⟨a,n,c,a2,n2,c2,rfl,h1,h2,hb⟩;obtain⟨a',c',e1,_⟩:=id h1;obtain⟨a'',c'',e2,_⟩:=id h2
 cases e1
 cases e2
 exact⟨a,c,a2,c2,rfl,h2,hb⟩
theorem T7 (v vl:Value) (w:World) (hk:KAt w) (hv:RdK w v sT) (hl:RdE eH w vl (fdP sS 1 (List.range 3))):Calls prog 28 #[.agg (doA sD1),.agg (tbA 3 v),.agg (am z16),.int .i64 0,.string ⟨sX.toArray⟩,vl] w fun e w'=>∃a c a2 c2,e = .returned (.tuple #[.agg (tbA 0 (.slice a 0 c)),.slice a2 0 c2,.int .i64 12])∧Below w.heap.size w w':=by
 have h:=qG sD1 3 v sT z16 0 sX _ vl w hk hv hl (by decide) (M_ zG (by decide));rw[WN] at h;refine h.mono ?_;rintro e w' ⟨a,n,c,a2,n2,c2,rfl,h1,h2,hb⟩;obtain⟨a',c',e1,_⟩:=id h1;obtain⟨a'',c'',e2,_⟩:=id h2
 cases e1
 cases e2
 exact⟨a,c,a2,c2,rfl,hb⟩
theorem ZB (w:World):Calls prog 32 #[.int .u8 1] w fun e w'=>e = .returned (.string ⟨(List.replicate 32 1).toArray⟩)∧Below w.heap.size w w':=yq 1 w
theorem ZC (w:World):Calls prog 32 #[.int .u8 2] w fun e w'=>e = .returned (.string ⟨(List.replicate 32 2).toArray⟩)∧Below w.heap.size w w':=yq 2 w
theorem XA (w:World):Calls prog 15 #[.agg (doA sD1)] w fun e w'=>e = .returned (.bool true)∧Below w.heap.size w w':=by
 have h:=ly sD1 w
 rwa [jE] at h
theorem Ua (w:World):Calls prog 15 #[.agg (doA zD)] w fun e w'=>e = .returned (.bool false)∧Below w.heap.size w w':=by
 have h:=ly zD w
 rwa [show bD zD=false by decide] at h
theorem MT (v:Value) (w:World) (hv:RdE eI w v [1]):Calls prog 27 #[v,.slice (some ⟨w.heap.size,0,none⟩) 1 1] (w.alloc (.cells #[.int .i64 1] 3)) fun e w'=>e = .returned (.bool true)∧Below (w.alloc (.cells #[.int .i64 1] 3)).heap.size (w.alloc (.cells #[.int .i64 1] 3)) w' :=
 TB v _ [1] [1] _ (hv.alloc _) (bP w 1 iB) rfl
theorem Xu (w:World):RdE eI (w.alloc (.cells #[.int .i64 1] 3)) (.slice (some ⟨w.heap.size,0,none⟩) 1 1) [1]:=bP w 1 iB
theorem I8 (n:Int) (v:List UInt8):prog.built 86 [(0,.int .i64 n),(2,.string ⟨v.toArray⟩),(5,.int .i64 9),(6,.int .i64 1)]=some (kc ⟨n,0,v,0,0,9,1,0,false⟩):=by kernel_rfl
theorem IR (n:Int) (v:List UInt8) (hgd:o.guard=none) (x y z u:Operand) (ho:o.op = .build 86 #[(0,x),(2,y),(5,z),(6,u)]) (hx:a.eval x = .int .i64 n) (hy:a.eval y = .string ⟨v.toArray⟩) (hz:a.eval z = .int .i64 9) (hu:a.eval u = .int .i64 1)
  (h:wpList prog ops Q rest (a.put o.dst (.agg (kc ⟨n,0,v,0,0,9,1,0,false⟩))) w):wpList prog ops Q (o::rest) a w :=
 wpList_plain hgd fun K hK=>by
  have hr:=run_build (P:=prog) w 86 #[(0,.int .i64 n),(2,.string ⟨v.toArray⟩),(5,.int .i64 9),(6,.int .i64 1)] _ (I8 n v);unfold Oper.wp execOp;simp only[ho,List.map_toArray,List.map_cons,List.map_nil,hx,hy,hz,hu,hr,Sem.run_bind,Sem.run_pure,Result.andThen_ok];exact hK _ _ h
theorem Qp:(prog.info? 86).map (fun i=>(i.zero,i.size,decide (i.bytes≤200)))=some (some (.agg (kc zK)),9,true):=by kernel_rfl
theorem Ob (k m:K):Instr.fill (fun i=>some (i*9,9)) ((Array.range (2*9)).map ((Value.agg (kc zK)).cells[· % (Value.agg (kc zK)).cells.size]!)) [(0,Value.agg (kc k)),(1,Value.agg (kc m))]=some (kc k++kc m):=by kernel_rfl
theorem Vw (k m:K) (hg:o.guard=none) (x y:Operand) (ho:o.op = .buildSlice 43 2 #[(0,x),(1,y)]) (hx:a.eval x = .agg (kc k)) (hy:a.eval y = .agg (kc m))
  (h:wpList prog ops Q rest (a.put o.dst (.slice (some ⟨w.heap.size,0,none⟩) 2 2)) (w.alloc (.cells (kc k++kc m) 86))):wpList prog ops Q (o::rest) a w:=by
 have hz:=Qp
 cases hi:prog.info? 86 with
 | none=>rw[hi] at hz;cases hz
 | some i =>
   rw[hi] at hz;simp only[Option.map_some,Option.some.injEq,Prod.mk.injEq,decide_eq_true_eq] at hz;refine wpList_buildSlice hg _ 86 2 _ ho (kc k++kc m) i (.agg (kc zK)) underlying43 hi hz.1 (by rw[hz.2.1];decide) (by rw[hz.2.1];decide) ?_ h
   have hp:((#[(0,x),(1,y)]:Array (Nat × Operand)).map fun (i,x)=>(i,a.eval x)).toList=[(0,Value.agg (kc k)),(1,Value.agg (kc m))]:=by simp[hx,hy]
   rw[hp,hz.2.1];exact Ob k m
theorem WB {y:World} {g:Nat} (k m:K) (T:TypeId) (h:y.heap[g]?=some (.cells (kc k++kc m) T (0,0))):RdK y (.slice (some ⟨g,0,none⟩) 2 2) [k,m]:=by
 refine⟨_,2,rfl,A_ _,by unfold maxLen;decide,fun _=>⟨g,0,rfl,(Q_.1 h).1,fun j hj i hi => ?_⟩⟩;rw[e_ _ _ _ _ _ _ h];have hj2:j<2:=hj;have hs:(kc k).size=9:=rfl
 rcases (by omega:j=0∨j=1) with rfl|rfl
 ·rw[Array.getElem?_append_left (by rw[hs];omega),show 0+0*9+i=i by omega]
  rfl
 ·rw[Array.getElem?_append_right (by rw[hs];omega),hs,show 0+1*9+i-9=i by omega]
  rfl
theorem Pq {y:World} {g:Nat} {T:TypeId} (h:y.heap[g]?=some (.cells (doA sD1) T (0,0))):y.rangeAt g 0 (am sI1).toList:=eT h
theorem OA {y:World} {g:Nat} {T:TypeId} (h:y.heap[g]?=some (.cells (doA sD1) T (0,0))):y.cell? ⟨g,16,none⟩=some (.string ⟨sK1.toArray⟩):=(e_ _ _ 16 _ _ _ h).trans (cK sD1)
theorem OB {y:World} {g:Nat} {T:TypeId} (h:y.heap[g]?=some (.cells (doA ⟨sI1,sK2,1,0⟩) T (0,0))):y.cell? ⟨g,16,none⟩=some (.string ⟨sK2.toArray⟩):=(e_ _ _ 16 _ _ _ h).trans (cK _)
theorem Zs {w:World} {a:Option Addr} {c:Nat} {l:List SH} (hl:l.length=3) (h:RdE eH w (.slice a 3 c) l):∃a' c',(∀y:World,(Instr.slice 28 (.slice a 3 c) (some (.int .i64 1)) none none).run prog y = .ok (.slice a' 2 c') y)∧RdE eH w (.slice a' 2 c') (l.drop 1):=by
 rw[←hl] at h;obtain⟨a',c',h1,h2⟩:=Fu h 1 (by omega);rw[S_,hl] at h1 h2;exact⟨a',c',h1,h2⟩
theorem Zr {w:World} {a:Option Addr} {c:Nat} {l:List SH} (hl:l.length=3) (h:RdE eH w (.slice a 3 c) l):RdE eH w (.slice a 1 c) (l.take 1):=by
 rw[←hl] at h;exact Ak h 1 (by omega)
theorem fd3 (s:List UInt8):(fdP s 1 (List.range 3)).length=3:=by rw[jq];rfl
theorem Pg (nx:Int) (d:DO) (blob:List UInt8) (a1 a2 a3:Option Addr) (n1 n2 n3 c1 c2 c3:Nat):(ptA nx (.slice a1 n1 c1) d (.slice a2 n2 c2) blob (.slice a3 n3 c3))[1]?=some (.slice a1 n1 c1):=by kernel_rfl
theorem K8 (nx:Int) (d:DO) (blob:List UInt8) (a1 a2 a3:Option Addr) (n1 n2 n3 c1 c2 c3:Nat):(ptA nx (.slice a1 n1 c1) d (.slice a2 n2 c2) blob (.slice a3 n3 c3))[21]?=some (.slice a2 n2 c2):=by kernel_rfl
theorem K9 (nx:Int) (d:DO) (blob:List UInt8) (a1 a2 a3:Option Addr) (n1 n2 n3 c1 c2 c3:Nat):(ptA nx (.slice a1 n1 c1) d (.slice a2 n2 c2) blob (.slice a3 n3 c3))[22]?=some (.string ⟨blob.toArray⟩):=by kernel_rfl
theorem Wx (nx:Int) (d:DO) (blob:List UInt8) (a1 a2 a3:Option Addr) (n1 n2 n3 c1 c2 c3:Nat):(ptA nx (.slice a1 n1 c1) d (.slice a2 n2 c2) blob (.slice a3 n3 c3))[23]?=some (.slice a3 n3 c3):=by kernel_rfl
theorem zS (n:Int) (v:Value):(tbA n v)[1]?=some v:=rfl
theorem I6:prog.built 47 [(6,.string ⟨#[109]⟩)]=some (bc sb ah):=by kernel_rfl
theorem CB (hgd:Region.wanted o (yielded ops a.tmps)=true) (x:Operand) (ho:o.op = .build 47 #[(6,x)]) (hx:a.eval x = .string ⟨#[109]⟩)
  (h:wpList prog ops Q rest (a.put o.dst (.agg (bc sb ah))) w):wpList prog ops Q (o::rest) a w :=
 wpList_step fun K hK=>by
  rw[G_ hgd];have hr:=run_build (P:=prog) w 47 #[(6,.string ⟨#[109]⟩)] _ I6;unfold Oper.wp execOp;simp only[ho,List.map_toArray,List.map_cons,List.map_nil,hx,hr,Sem.run_bind,Sem.run_pure,Result.andThen_ok];exact hK _ _ h
theorem I9 (n:Int) (a:Option Addr) (k c:Nat):prog.built 45 [(0,.int .i64 n),(1,.slice a k c)]=some (tbA n (.slice a k c)):=by kernel_rfl
theorem CC (n:Int) (va:Option Addr) (k c:Nat) (hgd:Region.wanted o (yielded ops a.tmps)=true) (x y:Operand) (ho:o.op = .build 45 #[(0,x),(1,y)]) (hx:a.eval x = .int .i64 n) (hy:a.eval y = .slice va k c)
  (h:wpList prog ops Q rest (a.put o.dst (.agg (tbA n (.slice va k c)))) w):wpList prog ops Q (o::rest) a w :=
 wpList_step fun K hK=>by
  rw[G_ hgd];have hr:=run_build (P:=prog) w 45 #[(0,.int .i64 n),(1,.slice va k c)] _ (I9 n va k c);unfold Oper.wp execOp;simp only[ho,List.map_toArray,List.map_cons,List.map_nil,hx,hy,hr,Sem.run_bind,Sem.run_pure,Result.andThen_ok];exact hK _ _ h
theorem Gc (n:Int):prog.built 45 [(0,.int .i64 n)]=some (tbA n ah):=by kernel_rfl
theorem yI (n:Int) (hgd:Region.wanted o (yielded ops a.tmps)=true) (x:Operand) (ho:o.op = .build 45 #[(0,x)]) (hx:a.eval x = .int .i64 n)
  (h:wpList prog ops Q rest (a.put o.dst (.agg (tbA n ah))) w):wpList prog ops Q (o::rest) a w :=
 wpList_step fun K hK=>by
  rw[G_ hgd];have hr:=run_build (P:=prog) w 45 #[(0,.int .i64 n)] _ (Gc n);unfold Oper.wp execOp;simp only[ho,List.map_toArray,List.map_cons,List.map_nil,hx,hr,Sem.run_bind,Sem.run_pure,Result.andThen_ok];exact hK _ _ h
open Go.RowKit Go.Shelf
attribute [local irreducible] Calls doA kc tbA ag ptA fdP sX sX2 sN sS sK1 sK2 sI1 sb sD1 zD am
theorem mf (w:World) (hk:KAt w):Calls prog 9 #[] w fun e w'=>e = .returned (.bool true)∧Below w.heap.size w w':=by
 have hzero_do:=iy;have hzero_rc:=fi;have hzero_tb:=rq;have hzero_bk:=fh;have hzero_pt:=tV;have HK:Hid (∀y,Below w.heap.size w y→KAt y):=O (fun y h=>hk.on h);have Hy_new:=O Xt;have Hy_new0:=O T8;have Hy_ren:=O Xv;clear hk;have tok1:True:=trivial;have tok2:True:=trivial;have tok3:True:=trivial;have tok4:True:=trivial;have tok5:True:=trivial
 go_enter func9,ntmps9
 have HB:=O (O_ w.heap.size w)
 go_upto_region 2 with (first
  |(refine oS [115] rfl _ rfl rfl ?_)
  |(refine aH (ag [115]) 30 rfl (.tmp 1) (.tmp 37) rfl _ rfl rfl rfl (bu _) (bM _ _) (aS _) ?_))
 try simp only[Act.put]
 have hb:=(O_ w.heap.size w).alloc (A_ _) (.cells (ag [115]) 30);have R10:=O (heap_alloc_new w (.cells (ag [115]) 30));replace HB:=O (HB.out.trans (hb.mono HB.out.size));clear hb;generalize w.alloc (.cells (ag [115]) 30)=Y1 at HB R10 ⊢;obtain⟨gR1,hg⟩:∃g,g=w.heap.size:=⟨_,rfl⟩;rw[←hg] at R10 ⊢;have R1:=R10;clear R10 hg
 go_upto_region 3 with (first
  |(refine jl [115] rfl (.tmp 1) rfl gR1 rfl _ R1.out ?_)
  |(clear tok1;go_at_call 10;refine(Hy_new.out _ (HK.out _ HB.out)).mono ?_;rintro e yy ⟨la,lc,rfl,hs3,hb⟩;replace HB:=O (HB.out.trans (hb.mono HB.out.size));replace R1:=O (aa R1.out hb);have S3:=O hs3.2;have HLC:=O hs3.1;clear hs3;clear hb)
  |(refine aM (T:=25) (doA sD1) (b8 _) rfl (.tmp 2) (.tmp 41) rfl yy.heap.size (doA zD) rfl rfl (cr _) (dE _ _) (eP _ _ _) ?_;intro wa hga hoa hba;have HWA:=O (And.intro hga (And.intro hoa hba));clear hga hoa hba)
  |(refine aM (T:=30) (ag sN) (bu _) rfl (.tmp 4) (.tmp 43) rfl (yy.heap.size+1) (ag []) rfl rfl (aS _) (bM _ _) ((HWA.out.2.1 _ (by omega)).trans (eR _ _ _)) ?_;intro wb hgb hob hbb;have HWB:=O (And.intro hgb (And.intro hob hbb));clear hgb hob hbb))
 have hb:=(((dm yy _ _ (O_ _ _)).trans (HWA.out.2.2 yy.heap.size (A_ _))).trans (HWB.out.2.2 yy.heap.size (by omega)));have R20:=O ((HWB.out.2.1 yy.heap.size (by omega)).trans HWA.out.1);have R40:=O HWB.out.1;replace HB:=O (HB.out.trans (hb.mono HB.out.size));replace R1:=O (aa R1.out hb);replace S3:=O (S3.out.on hb);clear hb HWA HWB;obtain⟨gR2,hg⟩:∃g,g=yy.heap.size:=⟨_,rfl⟩;rw[←hg] at R20 R40 ⊢;have R2:=R20;clear R20 hg;obtain⟨gR4,hg⟩:∃g,g=gR2+1:=⟨_,rfl⟩;rw[←hg] at R40 ⊢;have R4:=R40;clear R40 hg
 go_upto_region 4 with (first
  |(clear tok2;go_at_call 32;refine(ZB _).mono ?_;rintro e yy ⟨rfl,hb⟩;replace HB:=O (HB.out.trans (hb.mono HB.out.size));replace R1:=O (aa R1.out hb);replace R2:=O (aa R2.out hb);replace R4:=O (aa R4.out hb);replace S3:=O (S3.out.on hb);clear hb)
  |(clear tok3;go_at_call 32;refine(ZC _).mono ?_;rintro e yy ⟨rfl,hb⟩;replace HB:=O (HB.out.trans (hb.mono HB.out.size));replace R1:=O (aa R1.out hb);replace R2:=O (aa R2.out hb);replace R4:=O (aa R4.out hb);replace S3:=O (S3.out.on hb);clear hb)
  |(refine IR 1 (List.replicate 32 1) rfl _ (.tmp 45) _ _ rfl rfl rfl rfl rfl ?_)
  |(refine IR 2 (List.replicate 32 2) rfl _ (.tmp 47) _ _ rfl rfl rfl rfl rfl ?_)
  |(refine Vw (sk 1 1) (sk 2 2) rfl (.tmp 46) (.tmp 48) rfl rfl rfl ?_;have hkr:=WB (sk 1 1) (sk 2 2) _ (heap_alloc_new yy (.cells (kc (sk 1 1)++kc (sk 2 2)) 86));have hb:=(O_ yy.heap.size yy).alloc (A_ _) (.cells (kc (sk 1 1)++kc (sk 2 2)) 86);replace HB:=O (HB.out.trans (hb.mono HB.out.size));replace R1:=O (aa R1.out hb);replace R2:=O (aa R2.out hb);replace R4:=O (aa R4.out hb);replace S3:=O (S3.out.on hb);have TK:Hid (RdK _ _ sT):=O hkr;clear hb hkr;generalize yy.alloc (.cells (kc (sk 1 1)++kc (sk 2 2)) 86)=Yk at HB R1 R2 R4 S3 TK ⊢;obtain⟨gk,hgk⟩:∃g,g=yy.heap.size:=⟨_,rfl⟩;rw[←hgk] at TK ⊢;clear hgk)
  |(refine CC 3 (some ⟨gk,0,none⟩) 2 2 rfl _ (.tmp 49) rfl rfl rfl ?_)
  |(refine aH (tbA 3 (.slice (some ⟨gk,0,none⟩) 2 2)) 45 rfl (.tmp 6) (.tmp 50) rfl _ rfl rfl rfl (cZ _ _) (fg _ _ _ _) (dP _ _ _ _) ?_))
 try simp only[Act.put]
 have hb:=(O_ Yk.heap.size Yk).alloc (A_ _) (.cells (tbA 3 (.slice (some ⟨gk,0,none⟩) 2 2)) 45);have R60:=O (heap_alloc_new Yk (.cells (tbA 3 (.slice (some ⟨gk,0,none⟩) 2 2)) 45));replace HB:=O (HB.out.trans (hb.mono HB.out.size));replace R1:=O (aa R1.out hb);replace R2:=O (aa R2.out hb);replace R4:=O (aa R4.out hb);replace S3:=O (S3.out.on hb);replace TK:=O (TK.out.on hb);clear hb;generalize Yk.alloc (.cells (tbA 3 (.slice (some ⟨gk,0,none⟩) 2 2)) 45)=Y2 at HB R1 R2 R4 S3 TK R60 ⊢;obtain⟨gR6,hg⟩:∃g,g=Yk.heap.size:=⟨_,rfl⟩;rw[←hg] at R60 ⊢;have R6:=R60;clear R60 hg
 go_upto_region 5 with (first
  |(refine CB rfl _ rfl rfl ?_)
  |(refine aH (bc sb ah) 47 rfl (.tmp 7) (.tmp 51) rfl _ rfl rfl rfl (by rw[aC];exact dU) (by rw[aC,aC]) (dl _ _ _ _) ?_))
 try simp only[Act.put]
 have hb:=(O_ Y2.heap.size Y2).alloc (A_ _) (.cells (bc sb ah) 47);have R70:=O (heap_alloc_new Y2 (.cells (bc sb ah) 47));replace HB:=O (HB.out.trans (hb.mono HB.out.size));replace R1:=O (aa R1.out hb);replace R2:=O (aa R2.out hb);replace R4:=O (aa R4.out hb);replace R6:=O (aa R6.out hb);replace S3:=O (S3.out.on hb);replace TK:=O (TK.out.on hb);clear hb;generalize Y2.alloc (.cells (bc sb ah) 47)=Y3 at HB R1 R2 R4 R6 S3 TK R70 ⊢;obtain⟨gR7,hg⟩:∃g,g=Y2.heap.size:=⟨_,rfl⟩;rw[←hg] at R70 ⊢;have R7:=R70;clear R70 hg
 go_upto_region 6 with (first
  |(refine cz sD1 rfl (.tmp 2) rfl gR2 rfl _ R2.out ?_)
  |(refine dw 3 (.slice (some ⟨gk,0,none⟩) 2 2) rfl (.tmp 6) rfl gR6 rfl _ R6.out ?_)
  |(refine cH sb ah rfl (.tmp 7) rfl gR7 rfl _ R7.out ?_)
  |(go_at_call 19;refine(Xr _ _ (HK.out _ HB.out) TK.out).mono ?_;rintro e yy ⟨rfl,hb⟩;replace HB:=O (HB.out.trans (hb.mono HB.out.size));replace R1:=O (aa R1.out hb);replace R2:=O (aa R2.out hb);replace R4:=O (aa R4.out hb);replace R6:=O (aa R6.out hb);replace R7:=O (aa R7.out hb);replace S3:=O (S3.out.on hb);replace TK:=O (TK.out.on hb);clear hb)
  |(refine aH (doA ⟨sI1,sK1,0,1⟩) 25 rfl (.tmp 8) (.tmp 57) rfl _ rfl rfl rfl (b8 _) (dE _ _) (cr _) ?_))
 try simp only[Act.put]
 have hb:=(O_ yy.heap.size yy).alloc (A_ _) (.cells (doA ⟨sI1,sK1,0,1⟩) 25);have R80:=O (heap_alloc_new yy (.cells (doA ⟨sI1,sK1,0,1⟩) 25));replace HB:=O (HB.out.trans (hb.mono HB.out.size));replace R1:=O (aa R1.out hb);replace R2:=O (aa R2.out hb);replace R4:=O (aa R4.out hb);replace R6:=O (aa R6.out hb);replace R7:=O (aa R7.out hb);replace S3:=O (S3.out.on hb);replace TK:=O (TK.out.on hb);clear hb;generalize yy.alloc (.cells (doA ⟨sI1,sK1,0,1⟩) 25)=Y4 at HB R1 R2 R4 R6 R7 S3 TK R80 ⊢;obtain⟨gR8,hg⟩:∃g,g=yy.heap.size:=⟨_,rfl⟩;rw[←hg] at R80 ⊢;have R8:=R80;clear R80 hg;obtain⟨a8,c8,hsl,hs8⟩:=Zs (fd3 sS) S3.out;have S8:=O hs8;clear hs8
 go_upto_region 9 with (first
  |(go_at_call 21;refine(Xy _ _ (HK.out _ HB.out) S8.out).mono ?_;rintro e yy ⟨xa,xc,rfl,hb⟩;replace HB:=O (HB.out.trans (hb.mono HB.out.size));replace R1:=O (aa R1.out hb);replace R2:=O (aa R2.out hb);replace R4:=O (aa R4.out hb);replace R6:=O (aa R6.out hb);replace R7:=O (aa R7.out hb);replace R8:=O (aa R8.out hb);replace S3:=O (S3.out.on hb);replace TK:=O (TK.out.on hb);replace S8:=O (S8.out.on hb);clear hb)
  |(refine aH (bc (cG sD1 sb) (.slice xa 2 xc)) 47 rfl (.tmp 11) (.tmp 76) rfl _ rfl rfl rfl (by rw[aC];exact dU) (by rw[aC,aC]) (dl _ _ _ _) ?_))
 try simp only[Act.put]
 have hb:=(O_ yy.heap.size yy).alloc (A_ _) (.cells (bc (cG sD1 sb) (.slice xa 2 xc)) 47);have R110:=O (heap_alloc_new yy (.cells (bc (cG sD1 sb) (.slice xa 2 xc)) 47));replace HB:=O (HB.out.trans (hb.mono HB.out.size));replace R1:=O (aa R1.out hb);replace R2:=O (aa R2.out hb);replace R4:=O (aa R4.out hb);replace R6:=O (aa R6.out hb);replace R7:=O (aa R7.out hb);replace R8:=O (aa R8.out hb);replace S3:=O (S3.out.on hb);replace TK:=O (TK.out.on hb);replace S8:=O (S8.out.on hb);clear hb;generalize yy.alloc (.cells (bc (cG sD1 sb) (.slice xa 2 xc)) 47)=Y5 at HB R1 R2 R4 R6 R7 R8 S3 TK S8 R110 ⊢;obtain⟨gR11,hg⟩:∃g,g=yy.heap.size:=⟨_,rfl⟩;rw[←hg] at R110 ⊢;have R11:=R110;clear R110 hg;clear S8 hsl;have S9:=O (Zr (fd3 sS) S3.out)
 have hlc:(1:Int)≤lc:=by have := HLC.out;omega
 go_upto_region 10 with (first
  |(go_at_call 21;refine(Xx _ _ (HK.out _ HB.out) S9.out).mono ?_;rintro e yy ⟨ob,oa,on,oc,rfl,hb⟩;replace HB:=O (HB.out.trans (hb.mono HB.out.size));replace R1:=O (aa R1.out hb);replace R2:=O (aa R2.out hb);replace R4:=O (aa R4.out hb);replace R6:=O (aa R6.out hb);replace R7:=O (aa R7.out hb);replace R8:=O (aa R8.out hb);replace R11:=O (aa R11.out hb);replace S3:=O (S3.out.on hb);replace TK:=O (TK.out.on hb);replace S9:=O (S9.out.on hb);clear hb)
  |(refine aH (bc ob (.slice oa on oc)) 47 rfl (.tmp 13) (.tmp 83) rfl _ rfl rfl rfl (by rw[aC];exact dU) (by rw[aC,aC]) (dl _ _ _ _) ?_))
 try simp only[Act.put]
 have hb:=(O_ yy.heap.size yy).alloc (A_ _) (.cells (bc ob (.slice oa on oc)) 47);replace HB:=O (HB.out.trans (hb.mono HB.out.size));replace R1:=O (aa R1.out hb);replace R2:=O (aa R2.out hb);replace R4:=O (aa R4.out hb);replace R6:=O (aa R6.out hb);replace R7:=O (aa R7.out hb);replace R8:=O (aa R8.out hb);replace R11:=O (aa R11.out hb);replace S3:=O (S3.out.on hb);replace TK:=O (TK.out.on hb);replace S9:=O (S9.out.on hb);clear hb;generalize yy.alloc (.cells (bc ob (.slice oa on oc)) 47)=Y6 at HB R1 R2 R4 R6 R7 R8 R11 S3 TK S9 ⊢;clear S9 hlc
 go_upto_region 11 with (first
  |(refine cz sD1 rfl (.tmp 2) rfl gR2 rfl _ R2.out ?_)
  |(refine jl sN rfl (.tmp 4) rfl gR4 rfl _ R4.out ?_)
  |(go_at_call 12;refine(Hy_ren.out _ (HK.out _ HB.out)).mono ?_;rintro e yy ⟨ma,mc,mr,rfl,hs16,hb⟩;replace HB:=O (HB.out.trans (hb.mono HB.out.size));replace R1:=O (aa R1.out hb);replace R2:=O (aa R2.out hb);replace R4:=O (aa R4.out hb);replace R6:=O (aa R6.out hb);replace R7:=O (aa R7.out hb);replace R8:=O (aa R8.out hb);replace R11:=O (aa R11.out hb);replace S3:=O (S3.out.on hb);replace TK:=O (TK.out.on hb);have S16:=O hs16;clear hs16;clear hb)
  |(refine aM (T:=25) (doA ⟨sI1,sK2,1,0⟩) (b8 _) rfl (.tmp 15) (.tmp 89) rfl yy.heap.size (doA zD) rfl rfl (cr _) (dE _ _) (eP _ _ _) ?_;intro wa hga hoa hba;have HWA:=O (And.intro hga (And.intro hoa hba));clear hga hoa hba)
  |(refine aM (T:=30) (ag mr) (bu _) rfl (.tmp 17) (.tmp 91) rfl (yy.heap.size+1) (ag []) rfl rfl (aS _) (bM _ _) ((HWA.out.2.1 _ (by omega)).trans (eR _ _ _)) ?_;intro wb hgb hob hbb;have HWB:=O (And.intro hgb (And.intro hob hbb));clear hgb hob hbb))
 have hb:=(((dm yy _ _ (O_ _ _)).trans (HWA.out.2.2 yy.heap.size (A_ _))).trans (HWB.out.2.2 yy.heap.size (by omega)));have R150:=O ((HWB.out.2.1 yy.heap.size (by omega)).trans HWA.out.1);replace HB:=O (HB.out.trans (hb.mono HB.out.size));replace R1:=O (aa R1.out hb);replace R2:=O (aa R2.out hb);replace R4:=O (aa R4.out hb);replace R6:=O (aa R6.out hb);replace R7:=O (aa R7.out hb);replace R8:=O (aa R8.out hb);replace R11:=O (aa R11.out hb);replace S3:=O (S3.out.on hb);replace TK:=O (TK.out.on hb);replace S16:=O (S16.out.on hb);clear hb HWA HWB;obtain⟨gR15,hg⟩:∃g,g=yy.heap.size:=⟨_,rfl⟩;rw[←hg] at R150 ⊢;have R15:=R150;clear R150 hg
 go_upto_region 12 with (first
  |(go_at_call 21;refine(Xz _ _ (HK.out _ HB.out) S16.out).mono ?_;rintro e yy ⟨ob2,oa2,on2,oc2,rfl,hb⟩;replace HB:=O (HB.out.trans (hb.mono HB.out.size));replace R1:=O (aa R1.out hb);replace R2:=O (aa R2.out hb);replace R4:=O (aa R4.out hb);replace R6:=O (aa R6.out hb);replace R7:=O (aa R7.out hb);replace R8:=O (aa R8.out hb);replace R11:=O (aa R11.out hb);replace R15:=O (aa R15.out hb);replace S3:=O (S3.out.on hb);replace TK:=O (TK.out.on hb);replace S16:=O (S16.out.on hb);clear hb)
  |(refine aH (bc ob2 (.slice oa2 on2 oc2)) 47 rfl (.tmp 19) (.tmp 97) rfl _ rfl rfl rfl (by rw[aC];exact dU) (by rw[aC,aC]) (dl _ _ _ _) ?_))
 try simp only[Act.put]
 have hb:=(O_ yy.heap.size yy).alloc (A_ _) (.cells (bc ob2 (.slice oa2 on2 oc2)) 47);replace HB:=O (HB.out.trans (hb.mono HB.out.size));replace R1:=O (aa R1.out hb);replace R2:=O (aa R2.out hb);replace R4:=O (aa R4.out hb);replace R6:=O (aa R6.out hb);replace R7:=O (aa R7.out hb);replace R8:=O (aa R8.out hb);replace R11:=O (aa R11.out hb);replace R15:=O (aa R15.out hb);replace S3:=O (S3.out.on hb);replace TK:=O (TK.out.on hb);replace S16:=O (S16.out.on hb);clear hb;generalize yy.alloc (.cells (bc ob2 (.slice oa2 on2 oc2)) 47)=Y7 at HB R1 R2 R4 R6 R7 R8 R11 R15 S3 TK S16 ⊢;clear S16
 go_upto_region 13 with (first
  |(refine dw 3 (.slice (some ⟨gk,0,none⟩) 2 2) rfl (.tmp 6) rfl gR6 rfl _ R6.out ?_)
  |(refine cH sb ah rfl (.tmp 7) rfl gR7 rfl _ (aa R7.out ((O_ _ _).alloc (A_ _) _)) ?_)
  |(refine jl sN rfl (.tmp 4) rfl gR4 rfl _ (aa R4.out ((O_ _ _).alloc (A_ _) _)) ?_)
  |(go_at_call 24;have hb0:=(O_ Y7.heap.size Y7).alloc (A_ _) (.cells #[.int .i64 1] 3);refine(Xw (.slice (some ⟨gk,0,none⟩) 2 2) _ _ (HK.out _ (HB.out.trans (hb0.mono HB.out.size))) (TK.out.on hb0) (Xu _)).mono ?_;rintro e yy ⟨a1,c1,pd,a2,c2,a3,c3,pr,rfl,⟨hp2,hp3⟩,hb1⟩;have hb:=hb0.trans (hb1.mono hb0.size);replace HB:=O (HB.out.trans (hb.mono HB.out.size));replace R1:=O (aa R1.out hb);replace R2:=O (aa R2.out hb);replace R4:=O (aa R4.out hb);replace R6:=O (aa R6.out hb);replace R7:=O (aa R7.out hb);replace R8:=O (aa R8.out hb);replace R11:=O (aa R11.out hb);replace R15:=O (aa R15.out hb);replace S3:=O (S3.out.on hb);replace TK:=O (TK.out.on hb);have SP2:=O hp2;have SP3:=O hp3;clear hb hb0 hb1 hp2 hp3)
  |(refine aM (T:=63) (ptA 3 (.slice a1 1 c1) pd (.slice a2 2 c2) sX2 (.slice a3 1 c3)) (qz _ _ _ _ _ _) rfl (.tmp 21) (.tmp 105) rfl yy.heap.size zPA rfl rfl (nS _ _ _ _ _ _ _ _ _ _ _ _) (by rw[nD,fL]) (eP _ _ _) ?_;intro wa hga hoa hba;have HWA:=O (And.intro hga (And.intro hoa hba));clear hga hoa hba)
  |(refine aM (T:=30) (ag pr) (bu _) rfl (.tmp 22) (.tmp 106) rfl (yy.heap.size+1) (ag []) rfl rfl (aS _) (bM _ _) ((HWA.out.2.1 _ (by omega)).trans (eR _ _ _)) ?_;intro wb hgb hob hbb;have HWB:=O (And.intro hgb (And.intro hob hbb));clear hgb hob hbb))
 have hb:=(((dm yy _ _ (O_ _ _)).trans (HWA.out.2.2 yy.heap.size (A_ _))).trans (HWB.out.2.2 yy.heap.size (by omega)));have R210:=O ((HWB.out.2.1 yy.heap.size (by omega)).trans HWA.out.1);replace HB:=O (HB.out.trans (hb.mono HB.out.size));replace R1:=O (aa R1.out hb);replace R2:=O (aa R2.out hb);replace R4:=O (aa R4.out hb);replace R6:=O (aa R6.out hb);replace R7:=O (aa R7.out hb);replace R8:=O (aa R8.out hb);replace R11:=O (aa R11.out hb);replace R15:=O (aa R15.out hb);replace S3:=O (S3.out.on hb);replace TK:=O (TK.out.on hb);replace SP2:=O (SP2.out.on hb);replace SP3:=O (SP3.out.on hb);clear hb HWA HWB;obtain⟨gR21,hg⟩:∃g,g=yy.heap.size:=⟨_,rfl⟩;rw[←hg] at R210 ⊢;have R21:=R210;clear R210 hg;have HSP0:=O (fun (y:World)=>T9 (.slice (some ⟨gk,0,none⟩) 2 2) y)
 go_upto_region 14 with (first
  |(refine dw 3 (.slice (some ⟨gk,0,none⟩) 2 2) rfl (.tmp 6) rfl gR6 rfl _ R6.out ?_)
  |(refine cH sb ah rfl (.tmp 7) rfl gR7 rfl _ R7.out ?_)
  |(refine jl sN rfl (.tmp 4) rfl gR4 rfl _ R4.out ?_)
  |(go_at_call 24;refine(HSP0.out _ (HK.out _ HB.out) TK.out).mono ?_;rintro e yy ⟨b1,d1,b2,d2,b3,d3,rfl,hb⟩;replace HB:=O (HB.out.trans (hb.mono HB.out.size));replace R1:=O (aa R1.out hb);replace R2:=O (aa R2.out hb);replace R4:=O (aa R4.out hb);replace R6:=O (aa R6.out hb);replace R7:=O (aa R7.out hb);replace R8:=O (aa R8.out hb);replace R11:=O (aa R11.out hb);replace R15:=O (aa R15.out hb);replace R21:=O (aa R21.out hb);replace S3:=O (S3.out.on hb);replace TK:=O (TK.out.on hb);replace SP2:=O (SP2.out.on hb);replace SP3:=O (SP3.out.on hb);clear hb)
  |(refine aM (T:=63) (ptA 0 (.slice b1 0 d1) zD (.slice b2 0 d2) [] (.slice b3 0 d3)) (qz _ _ _ _ _ _) rfl (.tmp 24) (.tmp 113) rfl yy.heap.size zPA rfl rfl (nS _ _ _ _ _ _ _ _ _ _ _ _) (by rw[nD,fL]) (eP _ _ _) ?_;intro wa hga hoa hba;have HWA:=O (And.intro hga (And.intro hoa hba));clear hga hoa hba)
  |(refine aM (T:=30) (ag []) (bu _) rfl (.tmp 25) (.tmp 114) rfl (yy.heap.size+1) (ag []) rfl rfl (aS _) (bM _ _) ((HWA.out.2.1 _ (by omega)).trans (eR _ _ _)) ?_;intro wb hgb hob hbb;have HWB:=O (And.intro hgb (And.intro hob hbb));clear hgb hob hbb))
 have hb:=(((dm yy _ _ (O_ _ _)).trans (HWA.out.2.2 yy.heap.size (A_ _))).trans (HWB.out.2.2 yy.heap.size (by omega)));replace HB:=O (HB.out.trans (hb.mono HB.out.size));replace R1:=O (aa R1.out hb);replace R2:=O (aa R2.out hb);replace R4:=O (aa R4.out hb);replace R6:=O (aa R6.out hb);replace R7:=O (aa R7.out hb);replace R8:=O (aa R8.out hb);replace R11:=O (aa R11.out hb);replace R15:=O (aa R15.out hb);replace R21:=O (aa R21.out hb);replace S3:=O (S3.out.on hb);replace TK:=O (TK.out.on hb);replace SP2:=O (SP2.out.on hb);replace SP3:=O (SP3.out.on hb);clear hb HWA HWB;have c21:=e_ _ _ 21 _ _ _ R21.out;have c22:=e_ _ _ 22 _ _ _ R21.out;rw[K8] at c21;rw[K9] at c22
 go_upto_region 15 with (first
  |(refine cz sD1 rfl (.tmp 2) rfl gR2 rfl _ R2.out ?_)
  |(refine yI 1 rfl _ rfl rfl ?_)
  |(refine p8 rfl rfl ?_)
  |(go_at_call 28;refine(Xs _ _ (HK.out _ HB.out) SP2.out).mono ?_;rintro e yy ⟨ua,uc,ia,ic,rfl,hsi,hb⟩;replace HB:=O (HB.out.trans (hb.mono HB.out.size));replace R1:=O (aa R1.out hb);replace R2:=O (aa R2.out hb);replace R4:=O (aa R4.out hb);replace R6:=O (aa R6.out hb);replace R7:=O (aa R7.out hb);replace R8:=O (aa R8.out hb);replace R11:=O (aa R11.out hb);replace R15:=O (aa R15.out hb);replace R21:=O (aa R21.out hb);replace S3:=O (S3.out.on hb);replace TK:=O (TK.out.on hb);replace SP2:=O (SP2.out.on hb);replace SP3:=O (SP3.out.on hb);have SI:=O hsi;clear hsi;clear hb)
  |(refine aH (tbA 2 (.slice ua 1 uc)) 45 rfl (.tmp 27) (.tmp 125) rfl _ rfl rfl rfl (cZ _ _) (fg _ _ _ _) (dP _ _ _ _) ?_))
 try simp only[Act.put]
 have hb:=(O_ yy.heap.size yy).alloc (A_ _) (.cells (tbA 2 (.slice ua 1 uc)) 45);have R270:=O (heap_alloc_new yy (.cells (tbA 2 (.slice ua 1 uc)) 45));replace HB:=O (HB.out.trans (hb.mono HB.out.size));replace R1:=O (aa R1.out hb);replace R2:=O (aa R2.out hb);replace R4:=O (aa R4.out hb);replace R6:=O (aa R6.out hb);replace R7:=O (aa R7.out hb);replace R8:=O (aa R8.out hb);replace R11:=O (aa R11.out hb);replace R15:=O (aa R15.out hb);replace R21:=O (aa R21.out hb);replace S3:=O (S3.out.on hb);replace TK:=O (TK.out.on hb);replace SP2:=O (SP2.out.on hb);replace SP3:=O (SP3.out.on hb);replace SI:=O (SI.out.on hb);clear hb;generalize yy.alloc (.cells (tbA 2 (.slice ua 1 uc)) 45)=Y8 at HB R1 R2 R4 R6 R7 R8 R11 R15 R21 S3 TK SP2 SP3 SI R270 ⊢;obtain⟨gR27,hg⟩:∃g,g=yy.heap.size:=⟨_,rfl⟩;rw[←hg] at R270 ⊢;have R27:=R270;clear R270 hg;clear c21 c22
 go_upto_region 16 with (first
  |(refine cz sD1 rfl (.tmp 2) rfl gR2 rfl _ R2.out ?_)
  |(refine dw 3 (.slice (some ⟨gk,0,none⟩) 2 2) rfl (.tmp 6) rfl gR6 rfl _ R6.out ?_)
  |(refine p8 rfl rfl ?_)
  |(go_at_call 28;refine(T7 _ _ _ (HK.out _ HB.out) TK.out S3.out).mono ?_;rintro e yy ⟨va,vc,wa2,wc2,rfl,hb⟩;replace HB:=O (HB.out.trans (hb.mono HB.out.size));replace R1:=O (aa R1.out hb);replace R2:=O (aa R2.out hb);replace R4:=O (aa R4.out hb);replace R6:=O (aa R6.out hb);replace R7:=O (aa R7.out hb);replace R8:=O (aa R8.out hb);replace R11:=O (aa R11.out hb);replace R15:=O (aa R15.out hb);replace R21:=O (aa R21.out hb);replace R27:=O (aa R27.out hb);replace S3:=O (S3.out.on hb);replace TK:=O (TK.out.on hb);replace SP2:=O (SP2.out.on hb);replace SP3:=O (SP3.out.on hb);replace SI:=O (SI.out.on hb);clear hb)
  |(refine aH (tbA 0 (.slice va 0 vc)) 45 rfl (.tmp 30) (.tmp 135) rfl _ rfl rfl rfl (cZ _ _) (fg _ _ _ _) (dP _ _ _ _) ?_))
 try simp only[Act.put]
 have hb:=(O_ yy.heap.size yy).alloc (A_ _) (.cells (tbA 0 (.slice va 0 vc)) 45);replace HB:=O (HB.out.trans (hb.mono HB.out.size));replace R1:=O (aa R1.out hb);replace R2:=O (aa R2.out hb);replace R4:=O (aa R4.out hb);replace R6:=O (aa R6.out hb);replace R7:=O (aa R7.out hb);replace R8:=O (aa R8.out hb);replace R11:=O (aa R11.out hb);replace R15:=O (aa R15.out hb);replace R21:=O (aa R21.out hb);replace R27:=O (aa R27.out hb);replace S3:=O (S3.out.on hb);replace TK:=O (TK.out.on hb);replace SP2:=O (SP2.out.on hb);replace SP3:=O (SP3.out.on hb);replace SI:=O (SI.out.on hb);clear hb;generalize yy.alloc (.cells (tbA 0 (.slice va 0 vc)) 45)=Y9 at HB R1 R2 R4 R6 R7 R8 R11 R15 R21 R27 S3 TK SP2 SP3 SI ⊢
 go_upto_region 17 with (first
  |(refine jl [115] rfl (.tmp 1) rfl gR1 rfl _ R1.out ?_)
  |(go_at_call 10;refine(Hy_new0.out _ (HK.out _ HB.out)).mono ?_;rintro e yy ⟨na,nc,rfl,hb⟩;replace HB:=O (HB.out.trans (hb.mono HB.out.size));replace R1:=O (aa R1.out hb);replace R2:=O (aa R2.out hb);replace R4:=O (aa R4.out hb);replace R6:=O (aa R6.out hb);replace R7:=O (aa R7.out hb);replace R8:=O (aa R8.out hb);replace R11:=O (aa R11.out hb);replace R15:=O (aa R15.out hb);replace R21:=O (aa R21.out hb);replace R27:=O (aa R27.out hb);replace S3:=O (S3.out.on hb);replace TK:=O (TK.out.on hb);replace SP2:=O (SP2.out.on hb);replace SP3:=O (SP3.out.on hb);replace SI:=O (SI.out.on hb);clear hb)
  |(refine aM (T:=25) (doA zD) (b8 _) rfl (.tmp 33) (.tmp 141) rfl yy.heap.size (doA zD) rfl rfl (cr _) (dE _ _) (eP _ _ _) ?_;intro wa hga hoa hba;have HWA:=O (And.intro hga (And.intro hoa hba));clear hga hoa hba)
  |(refine aM (T:=30) (ag []) (bu _) rfl (.tmp 35) (.tmp 143) rfl (yy.heap.size+1) (ag []) rfl rfl (aS _) (bM _ _) ((HWA.out.2.1 _ (by omega)).trans (eR _ _ _)) ?_;intro wb hgb hob hbb;have HWB:=O (And.intro hgb (And.intro hob hbb));clear hgb hob hbb))
 have hb:=(((dm yy _ _ (O_ _ _)).trans (HWA.out.2.2 yy.heap.size (A_ _))).trans (HWB.out.2.2 yy.heap.size (by omega)));replace HB:=O (HB.out.trans (hb.mono HB.out.size));replace R1:=O (aa R1.out hb);replace R2:=O (aa R2.out hb);replace R4:=O (aa R4.out hb);replace R6:=O (aa R6.out hb);replace R7:=O (aa R7.out hb);replace R8:=O (aa R8.out hb);replace R11:=O (aa R11.out hb);replace R15:=O (aa R15.out hb);replace R21:=O (aa R21.out hb);replace R27:=O (aa R27.out hb);replace S3:=O (S3.out.on hb);replace TK:=O (TK.out.on hb);replace SP2:=O (SP2.out.on hb);replace SP3:=O (SP3.out.on hb);replace SI:=O (SI.out.on hb);clear hb HWA HWB;clear S3 TK SP2 HLC
 go_upto_region 19 with fail
 have heq:=fun y=>oJ sI1 sI1 y;rw[kV] at heq;have hk12:=YP
 go_wp2_with (first
  |(refine cz sD1 rfl (.tmp 2) rfl gR2 rfl _ R2.out ?_)
  |(refine lF rfl rfl ?_)
  |(clear tok4;go_at_call 15;refine(XA _).mono ?_;rintro e yy ⟨rfl,hb⟩;replace HB:=O (HB.out.trans (hb.mono HB.out.size));replace R1:=O (aa R1.out hb);replace R2:=O (aa R2.out hb);replace R4:=O (aa R4.out hb);replace R6:=O (aa R6.out hb);replace R7:=O (aa R7.out hb);replace R8:=O (aa R8.out hb);replace R11:=O (aa R11.out hb);replace R15:=O (aa R15.out hb);replace R21:=O (aa R21.out hb);replace R27:=O (aa R27.out hb);replace SP3:=O (SP3.out.on hb);replace SI:=O (SI.out.on hb);clear hb)
  |(go_at_call 15;refine(Ua _).mono ?_;rintro e yy ⟨rfl,hb⟩;replace HB:=O (HB.out.trans (hb.mono HB.out.size));replace R1:=O (aa R1.out hb);replace R2:=O (aa R2.out hb);replace R4:=O (aa R4.out hb);replace R6:=O (aa R6.out hb);replace R7:=O (aa R7.out hb);replace R8:=O (aa R8.out hb);replace R11:=O (aa R11.out hb);replace R15:=O (aa R15.out hb);replace R21:=O (aa R21.out hb);replace R27:=O (aa R27.out hb);replace SP3:=O (SP3.out.on hb);replace SI:=O (SI.out.on hb);have e8:=(e_ _ _ 18 _ _ _ R8.out).trans (jL _);have e11:=(e_ _ _ 37 _ _ _ R11.out).trans (iU _ _);have e15:=(e_ _ _ 17 _ _ _ R15.out).trans (gI _);have e15k:=OB R15.out;have e2k:=OA R2.out;have e21:=(e_ _ _ 1 _ _ _ R21.out).trans (Pg _ _ _ _ _ _ _ _ _ _ _ _);have e27:=(e_ _ _ 1 _ _ _ R27.out).trans (zS _ _);clear hb)
  |(refine jt sI1 gR15 0 (.tmp 203) rfl (eT R15.out) rfl rfl ?_)
  |(refine jt sI1 gR2 0 (.tmp 205) rfl (Pq R2.out) rfl rfl ?_)
  |(clear tok5;go_at_call 27;refine(MT _ _ SI.out).mono ?_;rintro e yz ⟨rfl,hb1⟩;have hb:=((O_ yy.heap.size yy).alloc (A_ _) (.cells #[.int .i64 1] 3)).trans (hb1.mono (by simp));replace HB:=O (HB.out.trans (hb.mono HB.out.size));replace R1:=O (aa R1.out hb);replace R2:=O (aa R2.out hb);replace R4:=O (aa R4.out hb);replace R6:=O (aa R6.out hb);replace R7:=O (aa R7.out hb);replace R8:=O (aa R8.out hb);replace R11:=O (aa R11.out hb);replace R15:=O (aa R15.out hb);replace R21:=O (aa R21.out hb);replace R27:=O (aa R27.out hb);replace SP3:=O (SP3.out.on hb);replace SI:=O (SI.out.on hb);have e23:=(e_ _ _ 23 _ _ _ R21.out).trans (Wx _ _ _ _ _ _ _ _ _ _ _ _);clear hb hb1)
  |(go_at_call 27;refine(MT _ _ SP3.out).mono ?_;rintro e yx ⟨rfl,hb1⟩;have hb:=((O_ yz.heap.size yz).alloc (A_ _) (.cells #[.int .i64 1] 3)).trans (hb1.mono (by simp));replace HB:=O (HB.out.trans (hb.mono HB.out.size));clear hb hb1))
 go_ret;exact⟨rfl,HB.out⟩
end
end
end Go.Proofs.YtmfiaadjdbemnaaGreatDoor
