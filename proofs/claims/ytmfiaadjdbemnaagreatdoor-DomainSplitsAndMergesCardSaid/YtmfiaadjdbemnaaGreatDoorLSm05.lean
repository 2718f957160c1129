/- Contracts and lemmas. No condition. -/
import Derived.Test.YtmfiaadjdbemnaaGreatDoorLSm03
import Derived.Test.YtmfiaadjdbemnaaGreatDoorSB34
import Derived.Test.YtmfiaadjdbemnaaGreatDoorLSm04
set_option maxRecDepth 100000
set_option maxHeartbeats 8000000
set_option linter.unusedSimpArgs false
set_option linter.unusedVariables false
namespace Go.Proofs.YtmfiaadjdbemnaaGreatDoor
open Go.Proofs.Tryz
section
open Go.RowKit
def ddS (acc:List K) (k:K):List K:=if bI acc k then acc else acc++[aW (aU k 0) ((acc.length:Int)+1)]
def ddK (l:List K):List K:=l.foldl ddS []
theorem qj (l:List K) (k:K):ddK (l++[k])=ddS (ddK l) k:=by simp[ddK,List.foldl_append]
theorem Sd (acc:List K) (k:K):∃t,ddS acc k=acc++t∧t.length≤1:=by
 unfold ddS
 by_cases h:bI acc k=true
 ·exact⟨[],by simp[h],by simp⟩
 ·exact⟨_,by rw[H_ h],by simp⟩
theorem CP:∀(l acc:List K),∃t,l.foldl ddS acc=acc++t∧t.length≤l.length
 | [],acc=>⟨[],by simp,by simp⟩
 | k :: l, acc => by
   obtain⟨t,e,h⟩:=Sd acc k;obtain⟨t2,e2,h2⟩:=CP l (ddS acc k);exact⟨t++t2,by rw[List.foldl_cons,e2,e,R_],by simp only[E_,Z_];omega⟩
theorem Et (l:List K):(ddK l).length≤l.length:=by
 obtain⟨t,e,h⟩:=CP l [];unfold ddK;rw[e]
 simpa using h
theorem CQ (l:List K) (i:Nat):∃t,ddK l=ddK (l.take i)++t:=by
 obtain⟨t,e,_⟩:=CP (l.drop i) (ddK (l.take i));refine⟨t,?_⟩;rw[←e];unfold ddK;rw[←List.foldl_append,List.take_append_drop]
theorem xA (a b:List K) (k:K):bI (a++b) k=(bI a k || bI b k):=by simp[bI]
theorem Hn (k x:K) (n p:Int):ip k (aW (aU x p) n)=ip k x:=rfl
theorem Jn (acc:List K) (x k:K):bI (ddS acc x) k=(bI acc k || ip k x):=by
 unfold ddS
 by_cases h:bI acc x=true
 ·rw[G_ h]
  cases hs:ip k x with
  | false=>simp
  | true =>
    have : bI acc k=true:=by
     unfold bI at h ⊢;rw[List.any_eq_true] at h ⊢;obtain⟨y,hy,e⟩:=h;refine⟨y,hy,?_⟩;simp only[ip,T_,decide_eq_true_eq] at e hs ⊢;exact⟨e.1.trans hs.1,e.2.trans hs.2⟩
    rw[this];rfl
 ·rw[H_ h,xA]
  simp[bI,Hn]
theorem AE (k:K):∀(l acc:List K),bI (l.foldl ddS acc) k=(bI acc k || bI l k)
 | [],acc=>by simp[bI]
 | x :: l, acc => by
   rw[List.foldl_cons,AE k l,Jn]
   simp[bI,Bool.or_assoc]
theorem Eu (l:List K) (k:K):bI (ddK l) k=bI l k:=by
 unfold ddK;rw[AE]
 simp[bI]
theorem SN (now : Int) (L : List K) (h : ∀ k ∈ L, ∀ nx tl, 1 ≤ nx → nx ≤ 100 → tl.length ≤ 100 → bL nx tl (aU k 0) = 0) :
  ∀(p:List K) (m:MG),m.e=0→m.tl=ddK (p.filter (dW now))→m.nx=(m.tl.length:Int)+1→m.ids.length=m.tl.length→p.length+L.length≤50 →
  ∃ids:List Int,gw now m L=⟨((ddK ((p++L).filter (dW now))).length:Int)+1,ddK ((p++L).filter (dW now)),ids,0⟩∧ids.length=(ddK ((p++L).filter (dW now))).length:=by
 induction L with
 | nil =>
   intro p m he ht hn hi _;rw[List.append_nil,←ht];exact⟨m.ids,by cases m;simp only at he hn;subst he;subst hn;rfl,hi⟩
 | cons k L ih =>
   intro p m he ht hn hi hl
   have hp:p++k::L=(p++[k])++L:=by simp
   have hk:=h k (by simp)
   have hlen:m.tl.length≤p.length:=by
    rw[ht];exact M_ (Et _) (List.length_filter_le _ _)
   simp only[Z_] at hl;have gX:bL m.nx m.tl (aU k 0)=0:=hk _ _ (by omega) (by omega) (by omega);rw[gw,hp];unfold jh lr
   cases hv:dW now k with
   | false =>
     simp only[Bool.not_false,Bool.true_or,if_true,he];refine ih (fun x hx=>h x (by simp[hx])) (p++[k]) m he ?_ hn hi (by simp;omega);rw[ht,List.filter_append];simp[hv]
   | true =>
     cases hh:bI m.tl k with
     | true =>
       simp only[Bool.or_true,if_true,he];refine ih (fun x hx=>h x (by simp[hx])) (p++[k]) m he ?_ hn hi (by simp;omega)
       have e:(p++[k]).filter (dW now)=p.filter (dW now)++[k]:=by rw[List.filter_append];simp[hv]
       rw[e,qj,←ht];unfold ddS;rw[G_ hh]
     | false =>
       simp only[Bool.not_true,Bool.or_false,Bool.false_eq_true,if_false,gX,if_true];refine ih (fun x hx=>h x (by simp[hx])) (p++[k]) _ rfl ?_ ?_ ?_ (by simp;omega)
       ·have e:(p++[k]).filter (dW now)=p.filter (dW now)++[k]:=by rw[List.filter_append];simp[hv]
        show m.tl++[aW (aU k 0) m.nx]=_
        rw[e,qj,←ht];unfold ddS;rw[H_ (by rw[hh];simp),hn]
       ·simp only[E_,Z_,List.length_nil];omega
       ·simp only[E_,Z_,List.length_nil];omega
theorem KA (now:Int) (L:List K) (m:MG) (he:m.e=0) (h:∀k∈L,dW now k=true→bI m.tl k=true):gw now m L=m:=by
 induction L with
 | nil=>rfl
 | cons k L ih =>
   have e:jh now m k=m:=by
    unfold jh lr
    cases hv:dW now k with
    | false=>simp
    | true=>simp[h k (by simp) hv]
   rw[gw,e,G_ he];exact ih (fun x hx=>h x (by simp[hx]))
theorem OG (now:Int) (L:List K):∀k∈L,dW now k=true→bI (ddK (L.filter (dW now))) k=true:=by
 intro k hk hv;rw[Eu];unfold bI;rw[List.any_eq_true];exact⟨k,List.mem_filter.2 ⟨hk,hv⟩,by simp[ip]⟩
theorem N0 (l:List K) (i:Nat) (hi:i<l.length):(bI (l.take i) l[i]=true∧ddK (l.take (i+1))=ddK (l.take i)) ∨
  (bI (l.take i) l[i]=false∧(ddK (l.take (i+1))).length=(ddK (l.take i)).length+1∧(ddK l)[(ddK (l.take i)).length]?=some (aW (aU l[i] 0) (((ddK (l.take i)).length:Int)+1))):=by
 have e:l.take (i+1)=l.take i++[l[i]]:=List.take_succ_eq_append_getElem hi;rw[←Eu]
 cases h:bI (ddK (l.take i)) l[i] with
 | true =>
   refine .inl ⟨rfl,?_⟩;rw[e,qj];unfold ddS;rw[G_ h]
 | false =>
   have e2:ddK (l.take (i+1))=ddK (l.take i)++[aW (aU l[i] 0) (((ddK (l.take i)).length:Int)+1)]:=by
    rw[e,qj];unfold ddS;rw[H_ (by rw[h];simp)]
   refine .inr ⟨rfl,by rw[e2];simp,?_⟩;obtain⟨t,ht⟩:=CQ l (i+1);rw[ht,e2,R_,List.getElem?_append_right (A_ _),Nat.sub_self]
   rfl
open Go.RowKit Go.Shelf
attribute [local irreducible] Calls
theorem T4 (nx:Int) (v:Value) (l:List K) (w:World) (hv:RdK w v l):Calls prog 40 #[.agg (tbA nx v)] w fun e w'=>e = .returned (.bool (aP nx l))∧Below w.heap.size w w':=Ab nx v l w hv
attribute [local irreducible] shc shA
def oC (nx:Int) (tl:List K) (b:BK) (bl:List K):Bool:=decide (tl.length≤12) && (decide (b.mo.length≤100) && (decide (bl.length≤12) && (bl.all (fun k=>decide (k.val.length≤100)) && aP nx tl)))
attribute [local irreducible] tbA aP
theorem EG (nx:Int) (vt:Value) (tl:List K) (b:BK) (v:Value) (l:List K) (w:World) (ht:RdK w vt tl) (hv:RdK w v l) :
  Calls prog 17 #[.agg (tbA nx vt),.agg (bc b v)] w fun e w'=>e = .returned (.bool (oC nx tl b l))∧Below w.heap.size w w':=by
 have hlen:=hv.len;unfold maxLen at hlen;have hlen2:=ht.len;unfold maxLen at hlen2;obtain⟨va,vc,rfl,_,_,_⟩:=id hv;obtain⟨ta,tc,rfl,_,_,_⟩:=id ht;obtain⟨W0,hW0⟩:∃W0,W0=(w.alloc (.cells (tbA nx (.slice ta tl.length tc)) 45)).alloc (.cells (bc b (.slice va l.length vc)) 47):=⟨_,rfl⟩;have HW:=O hW0;have HBE:Hid (Below w.heap.size w W0):=O (by rw[hW0];exact dm _ _ _ (O_ _ _));have HR1:Hid (W0.heap[w.heap.size+1]?=some (.cells (bc b (.slice va l.length vc)) 47 (0,0))):=O (by rw[hW0];exact eR _ _ _);have HR0:Hid (W0.heap[w.heap.size]?=some (.cells (tbA nx (.slice ta tl.length tc)) 45 (0,0))):=O (by rw[hW0];exact eP _ _ _);have HV:Hid (RdK W0 (.slice va l.length vc) l):=O (hv.on HBE.out);have HT:=O (T4 nx (.slice ta tl.length tc) tl W0 (ht.on HBE.out))
 have a1:W0.cell? ⟨w.heap.size,1,none⟩=some (.slice ta tl.length tc):=by rw[e_ _ _ _ _ _ _ HR0.out];unfold tbA;rfl
 have a36:W0.cell? ⟨w.heap.size+1,36,none⟩=some (.string ⟨b.mo.toArray⟩):=by rw[e_ _ _ _ _ _ _ HR1.out];exact uo _ _
 have a37:W0.cell? ⟨w.heap.size+1,37,none⟩=some (.slice va l.length vc):=by rw[e_ _ _ _ _ _ _ HR1.out];exact iU _ _
 have hcs:(¬tl.length≤12∧oC nx tl b l=false)∨(tl.length≤12∧¬b.mo.length≤100∧oC nx tl b l=false)∨(tl.length≤12∧b.mo.length≤100∧¬l.length≤12∧oC nx tl b l=false) ∨
   (tl.length≤12∧b.mo.length≤100∧l.length≤12∧oC nx tl b l=(l.all (fun k=>decide (k.val.length≤100)) && aP nx tl)):=by
  unfold oC
  by_cases h1:tl.length≤12
  ·by_cases h2:b.mo.length≤100
   ·by_cases h3:l.length≤12
    ·simp[h1,h2,h3]
    ·simp[h1,h2,h3]
   ·simp[h1,h2]
  ·simp[h1]
 have HCS:=O hcs;clear hv ht hW0 hcs
 rcases HCS.out with⟨h1,hr⟩|⟨h1,h2,hr⟩|⟨h1,h2,h3,hr⟩|⟨h1,h2,h3,hr⟩
 case inr.inr.inr =>
  have i1:¬(12:Int)<tl.length:=by omega
  have i2:¬(100:Int)<b.mo.length:=by omega
  have i3:¬(12:Int)<l.length:=by omega
  have HF:=O hr;clear hr h1 h2 h3 HCS
  go_enter func17,ntmps17
  go_upto_region 1 with fail
  rw[←HW.out]
  try dsimp only[Act.put]
  go_wp2
  go_loopw [5] (fun o wr=>∃i:Nat,i≤l.length∧o = .int .i64 i∧Hid (∀j,j<i→(ae l j).val.length≤100)∧wr=W0) (fun o _=>l.length-(intOf o).toNat)
  case atStart=>exact⟨0,N_ _,rfl,O (fun j hj=>absurd hj (by omega)),rfl⟩
  case round =>
   obtain⟨i,hi,rfl,hno,hwr⟩:=hrel;rw[hwr];clear hwr
   by_cases hlt:i<l.length
   ·obtain⟨bb,off,rfl,hb1,aO⟩:=(HV.out.cells) (by omega)
    obtain⟨d0,d1,d2,d3,d4,d5,d6,d7,d8⟩:=aO i hlt
    have j1:(i:Int)<l.length:=by omega
    have HK:=O hlt;have HNO:=hno;clear aO hno
    by_cases hq:(ae l i).val.length≤100
    ·have j2:¬(100:Int)<(ae l i).val.length:=by omega
     have HQ:=O hq;clear hq;go_wp2;go_roundw
     case rel=>exact⟨i+1,HK.out,by go_num,O (fun j hj=>by
      by_cases e:j=i
      ·subst e;exact HQ.out
      ·exact HNO.out j (by omega)),by first |exact rfl|exact trivial⟩
     case measure=>have := HK.out;simp[intOf];omega
    ·have j2:(100:Int)<(ae l i).val.length:=by omega
     have HRES:Hid (oC nx tl b l=false):=O (by
      rw[HF.out]
      have : l.all (fun k=>decide (k.val.length≤100))=false:=by
       rw[List.all_eq_false];refine⟨ae l i,?_,by simpa using hq⟩;rw[az l i hlt];exact List.getElem_mem hlt
      rw[this]
      rfl)
     clear hq hlt;go_wp2;go_ret;exact⟨by rw[HRES.out];rfl,HBE.out⟩
   ·have j1:(l.length:Int)≤i:=by omega
    have HA:Hid (oC nx tl b l=aP nx tl):=O (by
     rw[HF.out]
     have : l.all (fun k=>decide (k.val.length≤100))=true:=by
      rw[List.all_eq_true];intro k hk;obtain⟨j,hj,rfl⟩:=List.mem_iff_getElem.1 hk;have := hno.out j (by omega);rw[az l j hj] at this
      simpa using this
     rw[this,Bool.true_and])
    clear hno hlt hi
    go_wp2_with (first
     |(refine dw nx (.slice ta tl.length tc) rfl (.tmp 2) rfl w.heap.size rfl _ HR0.out ?_)
     |(go_at_call 40;refine HT.out.mono ?_;rintro e x1 ⟨rfl,hx1⟩;have HX:=O (HBE.out.trans (hx1.mono HBE.out.size));clear hx1))
    go_ret;exact⟨by rw[HA.out];rfl,HX.out⟩
 ·have HF:=O hr
  have i1:(12:Int)<tl.length:=by omega
  clear hr h1 HCS
  go_enter func17,ntmps17
  go_upto_region 1 with fail
  rw[←HW.out]
  try dsimp only[Act.put]
  go_wp2;go_ret;exact⟨by rw[HF.out];rfl,HBE.out⟩
 ·have HF:=O hr
  have i1:¬(12:Int)<tl.length:=by omega
  have i2:(100:Int)<b.mo.length:=by omega
  clear hr h1 h2 HCS
  go_enter func17,ntmps17
  go_upto_region 1 with fail
  rw[←HW.out]
  try dsimp only[Act.put]
  go_wp2;go_ret;exact⟨by rw[HF.out];rfl,HBE.out⟩
 ·have HF:=O hr
  have i1:¬(12:Int)<tl.length:=by omega
  have i2:¬(100:Int)<b.mo.length:=by omega
  have i3:(12:Int)<l.length:=by omega
  clear hr h1 h2 h3 HCS
  go_enter func17,ntmps17
  go_upto_region 1 with fail
  rw[←HW.out]
  try dsimp only[Act.put]
  go_wp2;go_ret;exact⟨by rw[HF.out];rfl,HBE.out⟩
end
section
open Go.RowKit
theorem FW:prog.built 47 []=some (bc zB ah):=by kernel_rfl
theorem lD {ops:Array Oper} {rest:List Oper} {o:Oper} {a:Act} {w:World} {Q:Exit→Act→World→Prop} (hgd:Region.wanted o (yielded ops a.tmps)=true) (ho:o.op = .build 47 #[])
  (h:wpList prog ops Q rest (a.put o.dst (.agg (bc zB ah))) w):wpList prog ops Q (o::rest) a w :=
 wpList_step fun K hK=>by
  rw[G_ hgd];have hr:=run_build (P:=prog) w 47 #[] _ FW;unfold Oper.wp execOp;simp only[ho,List.map_toArray,List.map_nil,hr,Sem.run_bind,Sem.run_pure,Result.andThen_ok];exact hK _ _ h
def bE (s:List UInt8):DO:=⟨ofP 12 [iz,nxV s],nxV (nxS s),0,0⟩
theorem D6 (s:List UInt8) (q p:Nat) (hp:p<16) (hq:q≤p):cP s (1+(q:Int)) (1+(p:Int))=⟨bE s,fdP (nxS s) q (List.range (p+1)),nxS (nxS (nxS s)),0⟩:=by
 have h:kO (1+(q:Int)) (1+(p:Int))=true:=by
  unfold kO;simp only[T_,decide_eq_true_eq]
  omega
 rw[tB _ _ _ h,show (1+(q:Int)-1).toNat=q by omega,show (1+(p:Int)).toNat=p+1 by omega]
 rfl
theorem lC (s:List UInt8):bD (bE s)=true:=by unfold bE bD;simp[cL]
theorem kT (s:List UInt8):(cG (bE s) sb).mach:=⟨tE _ _,rfl,by intro x hx;simp[cG,bE,sb,zB] at hx;rcases hx with rfl|rfl|rfl|rfl;all_goals (unfold okI;decide),by show 1≤maxLen;unfold maxLen;decide⟩
theorem Iz (nx:Int) (v u:Value) (l:List K) (w:World) (hv:RdK w v l) (hu:RdK w u l) :
  Calls prog 26 #[.agg (tbA nx v),.agg (tbA nx u)] w fun e w'=>e = .returned (.bool true)∧Below w.heap.size w w':=by
 have h:=Rh nx nx v u l l w hv hu;rw[show decide (nx=nx∧l=l)=true by simp] at h;exact h
theorem uU {nx:Int} {l:List K} {b:BK} {m:List K} (h:oC nx l b m=true):aP nx l=true:=by
 unfold oC at h;simp only[T_] at h;exact h.2.2.2.2
theorem D5 (nx:Int) (v:Value) (l:List K) (w:World) (hv:RdK w v l):Calls prog 17 #[.agg (tbA nx v),.agg (bc zB ah)] w fun e w'=>e = .returned (.bool (oC nx l zB []))∧Below w.heap.size w w' :=
 EG nx v l zB ah [] w hv (RdK.nil w)
theorem DL (n:Int) (v:Value) : #[.int .i64 n,v]=tbA n v:=rfl
theorem WY (n:Int) (v:Value):(tbA n v)[0]?=some (.int .i64 n):=rfl
open Go.RowKit
def dI {α:Type} (P:Nat→Bool):Nat→List α→List α
 | _,[]=>[]
 | c,x::l=>if P c then x::dI P (c+1) l else dI P (c+1) l
theorem vN {α:Type} (P:Nat→Bool):∀(c:Nat) (a b:List α),dI P c (a++b)=dI P c a++dI P (c+a.length) b
 | c,[],b=>by simp[dI]
 | c, x :: a, b => by
   rw[List.cons_append,dI,dI,vN P (c+1) a b,Z_,show c+(a.length+1)=c+1+a.length by omega]
   by_cases h:P c=true <;> simp[h]
theorem rX {α:Type} (P:Nat→Bool) (l:List α) (i:Nat) (hi:i<l.length):dI P 0 (l.take (i+1))=if P i then dI P 0 (l.take i)++[l[i]] else dI P 0 (l.take i):=by
 rw[List.take_succ_eq_append_getElem hi,vN,b_,show 0+min i l.length=i by omega]
 by_cases h:P i=true <;> simp[h,dI]
theorem gz {α:Type} (P:Nat→Bool):∀(c:Nat) (l:List α),(dI P c l).Sublist l
 | c,[] => .slnil
 | c, x :: l => by
   rw[dI]
   by_cases h:P c=true
   ·rw[G_ h];exact(gz P (c+1) l).cons_cons x
   ·rw[H_ h];exact(gz P (c+1) l).cons x
theorem Cb {α:Type} (P:Nat→Bool):∀(c:Nat) (l:List α),(dI P c l).length+(dI (fun i => !P i) c l).length=l.length
 | c,[]=>rfl
 | c, x :: l => by
   have := Cb P (c+1) l;rw[dI,dI]
   by_cases h:P c=true
   ·simp[h];omega
   ·simp[h];omega
theorem LD {α:Type} (P:Nat→Bool) (l:List α) (i:Nat):∃t,dI P 0 l=dI P 0 (l.take i)++t:=by
 refine⟨dI P (0+(l.take i).length) (l.drop i),?_⟩;rw[←vN,List.take_append_drop]
theorem rZ (P:Nat→Bool):∀(c:Nat) (l pre:List K),(∀x∈pre,∀y∈l,x.id<y.id)→l.Pairwise (fun a b=>a.id<b.id) →
  l.filter (eZ ((pre++dI P c l).map K.id))=dI P c l∧l.filter (fun k => !eZ ((pre++dI P c l).map K.id) k)=dI (fun i => !P i) c l
 | c,[],pre,_,_=>⟨rfl,rfl⟩
 | c, x :: l, pre, hp, hl => by
   have h1:=(List.pairwise_cons.1 hl).1;have h2:=(List.pairwise_cons.1 hl).2;rw[dI,dI,List.filter_cons,List.filter_cons]
   by_cases h:P c=true
   ·rw[G_ h]
    have hin:eZ ((pre++x::dI P (c+1) l).map K.id) x=true:=by simp[eZ]
    have ih:=rZ P (c+1) l (pre++[x]) (fun y hy z hz=>by
     rcases List.mem_append.1 hy with hy|hy
     ·exact hp y hy z (by simp[hz])
     ·simp at hy;subst hy;exact h1 z hz) h2
    rw[show pre++[x]++dI P (c+1) l=pre++x::dI P (c+1) l by simp] at ih;rw[G_ hin,ih.1,hin,ih.2]
    simp[h]
   ·rw[H_ h]
    have hin:eZ ((pre++dI P (c+1) l).map K.id) x=false:=by
     unfold eZ;rw[decide_eq_false_iff_not];intro hm;obtain⟨y,hy,e⟩:=List.mem_map.1 hm
     rcases List.mem_append.1 hy with hy|hy
     ·have := hp y hy x (by simp);omega
     ·have := h1 y ((gz P (c+1) l).subset hy);omega
    have ih:=rZ P (c+1) l pre (fun y hy z hz=>hp y hy z (by simp[hz])) h2;rw[hin,ih.1,ih.2]
    simp[h]
theorem Hq (P:Nat→Bool) (l:List K) (h:l.Pairwise (fun a b=>a.id<b.id)):bJ ((dI P 0 l).map K.id) l=dI P 0 l∧kF ((dI P 0 l).map K.id) l=dI (fun i => !P i) 0 l:=by
 have := rZ P 0 l [] (fun x hx=>by cases hx) h;rw[List.nil_append] at this;exact this
theorem Fe:∀{l:List Int},l.Pairwise (· < ·)→gY l=true
 | [],_=>rfl
 | [a],_=>rfl
 | a :: b :: l, h => by
   have h1:=List.pairwise_cons.1 h;rw[gY,T_,decide_eq_true_eq];exact⟨h1.1 b (by simp),Fe h1.2⟩
theorem LG (P:Nat→Bool) (l:List K) (h:l.Pairwise (fun a b=>a.id<b.id)):gY ((dI P 0 l).map K.id)=true:=by
 refine Fe ?_;rw[List.pairwise_map];exact h.sublist (gz P 0 l)
open Go.RowKit
def smL (P:Nat→Bool) (l:List K):List K:=dI P 0 l
def smI (P:Nat→Bool) (l:List K):List Int:=(dI P 0 l).map K.id
def smT (P:Nat→Bool) (l:List K):List K:=dI (fun i => !P i) 0 l
def smV (P:Nat→Bool) (now:Int) (l:List K):List K:=(dI P 0 l).filter (dW now)
def smD (P:Nat→Bool) (now:Int) (l:List K):List K:=ddK (smV P now l)
def smX (s:List UInt8) (P:Nat→Bool) (l:List K):List UInt8:=bX (bE s).key (cG (bE s) sb) (smL P l)
def nx3 (s:List UInt8):List UInt8:=nxS (nxS (nxS s))
theorem tM (P:Nat→Bool) (l:List K):(smI P l).length=(smL P l).length:=by unfold smI smL;simp
theorem TM (P:Nat→Bool) (l:List K):(smT P l).length+(smI P l).length=l.length:=by
 have := Cb P 0 l;rw[tM];unfold smT smL
 omega
theorem LV (P:Nat→Bool) (l:List K) (i:Nat) (hi:i<l.length):smI P (l.take (i+1))=if P i then smI P (l.take i)++[(ae l i).id] else smI P (l.take i):=by
 unfold smI;rw[rX P l i hi,az l i hi]
 by_cases h:P i=true <;> simp[h]
theorem LX (P:Nat→Bool) (now:Int) (l:List K) (i:Nat) (hi:i<l.length):smV P now (l.take (i+1))=if P i && dW now (ae l i) then smV P now (l.take i)++[ae l i] else smV P now (l.take i):=by
 unfold smV;rw[rX P l i hi,az l i hi]
 by_cases h:P i=true
 ·by_cases h2:dW now l[i]=true <;> simp[h,h2]
 ·simp[h]
theorem LW (P:Nat→Bool) (l:List K) (i:Nat) (hi:i<l.length):(P i=true∧smT P (l.take (i+1))=smT P (l.take i))∨(P i=false∧(smT P (l.take (i+1))).length=(smT P (l.take i)).length+1∧(smT P (l.take i)).length<(smT P l).length∧ae (smT P l) (smT P (l.take i)).length=ae l i):=by
 unfold smT;have hn:=rX (fun i => !P i) l i hi
 cases h:P i with
 | true=>exact .inl ⟨rfl,by rw[hn,h];simp⟩
 | false =>
   have hn2:dI (fun i => !P i) 0 (l.take (i+1))=dI (fun i => !P i) 0 (l.take i)++[l[i]]:=by rw[hn,h];simp
   obtain⟨t,ht⟩:=LD (fun i => !P i) l (i+1)
   have hlt:(dI (fun i => !P i) 0 (l.take i)).length<(dI (fun i => !P i) 0 l).length:=by rw[ht,hn2];simp only[E_,Z_,List.length_nil];omega
   refine .inr ⟨rfl,by rw[hn2];simp,hlt,?_⟩;rw[az _ _ hlt,az l i hi]
   have e:(dI (fun i => !P i) 0 l)[(dI (fun i => !P i) 0 (l.take i)).length]?=some l[i]:=by
    rw[ht,hn2,R_,List.getElem?_append_right (A_ _),Nat.sub_self]
    rfl
   exact(d_.1 e).2
theorem zL (P:Nat→Bool) (now:Int) (l:List K):(smV P now l).length≤l.length:=M_ (List.length_filter_le _ _) (gz P 0 l).length_le
theorem zJ {nx:Int} {l:List K} (P:Nat→Bool) (h:aP nx l=true):(smL P l).length≤4096∧(∀k∈smL P l,bf k=true∧0<k.id∧k.id≤2147483647)∧(smL P l).Pairwise (fun a b=>a.id<b.id):=by
 have h1:=yD h;have h2:=gz P 0 l;exact⟨M_ h2.length_le h1.1,fun k hk=>h1.2 k (h2.subset hk),(zR h).sublist h2⟩
theorem OU {l m:List K} (h:cQ l) (hm:∀k∈m,k∈l):cQ m:=by
 intro i hi x hx;rw[az m i hi] at hx;obtain⟨j,hj,e⟩:=List.mem_iff_getElem.1 (hm _ (List.getElem_mem hi));have := h j hj x;rw[az l j hj,e] at this;exact this hx
theorem PJ {l:List K} (P:Nat→Bool) (h:cQ l):cQ (smL P l):=OU h (fun k hk=>(gz P 0 l).subset hk)
theorem LY {s:List UInt8} {nx:Int} {l:List K} (P:Nat→Bool) (h:aP nx l=true):ch (bE s).key (cG (bE s) sb) (smL P l)=true∧dbE (bE s) sb (smL P l)=0∧dbX (bE s) sb (smL P l)=smX s P l∧dbD (bE s) sb (smL P l)={ bE s with bk:=0+1 } :=
 Ee (lC s) (by show (0:Int)≠2147483647;decide) (zJ P h).1 (zJ P h).2.1 (zJ P h).2.2
theorem QT (s:List UInt8):cP s 1 1=⟨bE s,fdP (nxS s) 0 [0],nx3 s,0⟩:=D6 s 0 0 (by decide) (A_ _)
theorem TQ {s:List UInt8} {nx:Int} {l:List K} (P:Nat→Bool) (h:aP nx l=true) (hne:smI P l≠[]):dN nx l (smI P l) sb s 1 1=⟨nx,smT P l,{ bE s with bk:=0+1 },fdP (nxS s) 0 [0],smX s P l,smI P l,nx3 s,0⟩:=by
 have hp:=zR h;obtain⟨e1,e2⟩:=Hq P l hp;have e1':bJ (smI P l) l=smL P l:=e1;have e2':kF (smI P l) l=smT P l:=e2;obtain⟨_,b1,b2,b3⟩:=LY (s:=s) P h;unfold dN;rw[G_ ⟨LG P l hp,hne⟩,e1',e2',H_ (by rw[tM];omega),QT];simp only[b1,b2,b3,if_true]
theorem Ri {s:List UInt8} {nx:Int} {l:List K} (P:Nat→Bool) (h:aP nx l=true) (hn:cQ l):ulE (smX s P l) (fdP (nxS s) 0 [0])=0∧ulB (smX s P l) (fdP (nxS s) 0 [0])=cG (bE s) sb∧ulK (smX s P l) (fdP (nxS s) 0 [0])=smL P l:=by
 have h1:=xl (nxS s) 0 [0] (by decide) (by decide) (by decide) (by decide) (by decide);exact qZ (kT s) (PJ P hn) (LY P h).1 h1.1 h1.2
theorem TL {nx:Int} {l:List K} (P:Nat→Bool) (h:aP nx l=true):∀k∈smL P l,∀n tl,1≤n→n≤100→tl.length≤100→bL n tl (aU k 0)=0:=by
 intro k hk n tl h1 h2 h3;have hv:=((zJ P h).2.1 k hk).1
 have hv2:bf (aU k 0)=true:=by
  unfold bf aU at *;simp only[T_] at hv ⊢;exact⟨hv.1,by decide⟩
 unfold bL;rw[G_ ⟨hv2,by show (0:Int)<n;omega⟩,G_ ⟨by omega,by omega⟩]
theorem LZ {s:List UInt8} {nx:Int} {l:List K} (P:Nat→Bool) (now:Int) (h:aP nx l=true) (hn:cQ l) (hl:l.length≤12):(dEq (bE s).id (bE (nx3 s)).id=true∧jw (bE (nx3 s)) 1 [] z16 now (smX s P l) (fdP (nxS s) 0 [0])=zM 12) ∨
  (dEq (bE s).id (bE (nx3 s)).id=false∧∃ids:List Int,jw (bE (nx3 s)) 1 [] z16 now (smX s P l) (fdP (nxS s) 0 [0])=⟨((smD P now l).length:Int)+1,smD P now l,ids,0⟩∧ids.length=(smD P now l).length):=by
 obtain⟨u1,u2,u3⟩:=Ri (s:=s) P h hn;unfold jw;rw[G_ (lC _),G_ u1,u2,u3]
 show (dEq (bE s).id (bE (nx3 s)).id=true∧(if dEq (bE s).id (bE (nx3 s)).id=true then _ else _)=_)∨(_∧∃ids:List Int,(if dEq (bE s).id (bE (nx3 s)).id=true then _ else _)=_∧_)
 cases he:dEq (bE s).id (bE (nx3 s)).id with
 | true=>exact .inl ⟨rfl,by rw[G_ rfl]⟩
 | false =>
   refine .inr ⟨rfl,?_⟩;rw[H_ (by decide),G_ (show dEq (cG (bE s) sb).pol z16=true from kV z16)];have hL:(smL P l).length≤12:=M_ (gz P 0 l).length_le hl;exact SN now (smL P l) (TL P h) [] ⟨1,[],[],0⟩ rfl rfl rfl rfl (by simp;omega)
theorem PN {s:List UInt8} {nx:Int} {l:List K} (P:Nat→Bool) (now:Int) (h:aP nx l=true) (hn:cQ l) (he:dEq (bE s).id (bE (nx3 s)).id=false) (n:Int):jw (bE (nx3 s)) n (smD P now l) z16 now (smX s P l) (fdP (nxS s) 0 [0])=⟨n,smD P now l,[],0⟩:=by
 obtain⟨u1,u2,u3⟩:=Ri (s:=s) P h hn;unfold jw;rw[G_ (lC _),G_ u1,u2,u3]
 show (if dEq (bE s).id (bE (nx3 s)).id=true then _ else _)=_
 rw[he,H_ (by decide),G_ (show dEq (cG (bE s) sb).pol z16=true from kV z16)];exact KA now (smL P l) _ rfl (OG now (smL P l))
theorem zN {s:List UInt8} {nx:Int} {l:List K} (P:Nat→Bool) (h:aP nx l=true):(smX s P l).length≤800000:=M_ (lf _ _ _ (kT s) (LY P h).1) (by decide)
theorem PR {s:List UInt8} {nx:Int} {l:List K} (P:Nat→Bool) (h:aP nx l=true) (hn:cQ l) (hl:l.length≤12) (hs:s.length≤100) (hne:smI P l≠[]) (v vi:Value) (w:World) (hk:KAt w) (hv:RdK w v l) (hi:RdE eI w vi (smI P l)) :
  Calls prog 24 #[.agg (tbA nx v),vi,.agg (bc sb ah),.agg (ag s),.int .i64 1,.int .i64 1] w fun e w'=>∃a1 c1 a2 c2 a3 n3 c3,e = .returned (.tuple #[.agg (ptA nx (.slice a1 (smT P l).length c1) { bE s with bk:=0+1 } (.slice a2 1 c2) (smX s P l) (.slice a3 n3 c3)),.agg (ag (nx3 s)),.int .i64 0]) ∧
   (RdK w' (.slice a1 (smT P l).length c1) (smT P l)∧RdE eH w' (.slice a2 1 c2) (fdP (nxS s) 0 [0]))∧Below w.heap.size w w':=by
 have h2:=n9 nx v l vi (smI P l) sb none 0 0 s 1 1 w hk hv hi mg hn (by omega) (by omega) (by rw[tM];exact M_ (M_ (gz P 0 l).length_le hl) (by decide));rw[TQ P h hne] at h2;refine h2.mono ?_;rintro e w' ⟨v1,v2,v3,rfl,h1,h2,h3,hb⟩;obtain⟨a1,c1,rfl,_⟩:=id h1;obtain⟨a2,c2,e2,_⟩:=id h2;obtain⟨a3,c3,rfl,_⟩:=id h3;rw[jq] at e2;subst e2;exact⟨a1,c1,a2,c2,a3,_,c3,rfl,⟨h1,h2⟩,hb⟩
theorem PO (s:List UInt8) (hs:s.length≤100) (w:World) (hk:KAt w):Calls prog 10 #[.agg (ag (nx3 s)),.int .i64 1,.int .i64 1] w fun e w'=>∃a c r,e = .returned (.tuple #[.agg (doA (bE (nx3 s))),.slice a 1 c,.agg (ag r),.int .i64 0])∧Below w.heap.size w w':=by
 have h:=xN (nx3 s) 1 1 w hk (by unfold nx3;rw[im];decide);rw[QT] at h;refine h.mono ?_;rintro e w' ⟨v,rfl,ho,hb⟩;obtain⟨a,c,rfl,_⟩:=id ho.rd;rw[jq];exact⟨a,c,_,rfl,hb⟩
theorem TN {s:List UInt8} {nx:Int} {l:List K} (P:Nat→Bool) (now:Int) (h:aP nx l=true) (hn:cQ l) (hl:l.length≤12) (he:dEq (bE s).id (bE (nx3 s)).id=true) (vl:Value) (w:World) (hk:KAt w) (hv:RdE eH w vl (fdP (nxS s) 0 [0])) :
  Calls prog 28 #[.agg (doA (bE (nx3 s))),.agg (tbA 1 ah),.agg (am z16),.int .i64 now,.string ⟨(smX s P l).toArray⟩,vl] w fun e w'=>∃a n c a2 n2 c2,e = .returned (.tuple #[.agg (tbA 0 (.slice a n c)),.slice a2 n2 c2,.int .i64 12])∧Below w.heap.size w w':=by
 have h2:=qG (bE (nx3 s)) 1 ah [] z16 now (smX s P l) _ vl w hk (RdK.nil _) hv (by decide) (zN P h)
 rcases LZ (s:=s) P now h hn hl with⟨_,e⟩|⟨e,_⟩
 ·rw[e] at h2
  refine h2.mono ?_;rintro e w' ⟨a,n,c,a2,n2,c2,rfl,_,_,hb⟩;exact⟨a,n,c,a2,n2,c2,rfl,hb⟩
 ·rw[he] at e;cases e
theorem TO {s:List UInt8} {nx:Int} {l:List K} (P:Nat→Bool) (now:Int) (h:aP nx l=true) (hn:cQ l) (hl:l.length≤12) (he:dEq (bE s).id (bE (nx3 s)).id=false) (vl:Value) (w:World) (hk:KAt w) (hv:RdE eH w vl (fdP (nxS s) 0 [0])) :
  Calls prog 28 #[.agg (doA (bE (nx3 s))),.agg (tbA 1 ah),.agg (am z16),.int .i64 now,.string ⟨(smX s P l).toArray⟩,vl] w fun e w'=>∃a c a2 c2,e = .returned (.tuple #[.agg (tbA (((smD P now l).length:Int)+1) (.slice a (smD P now l).length c)),.slice a2 (smD P now l).length c2,.int .i64 0])∧RdK w' (.slice a (smD P now l).length c) (smD P now l)∧Below w.heap.size w w':=by
 have h2:=qG (bE (nx3 s)) 1 ah [] z16 now (smX s P l) _ vl w hk (RdK.nil _) hv (by decide) (zN P h)
 rcases LZ (s:=s) P now h hn hl with⟨e,_⟩|⟨_,ids,e,hi⟩
 ·rw[he] at e;cases e
 ·rw[e] at h2
  refine h2.mono ?_;rintro e w' ⟨a,n,c,a2,n2,c2,rfl,h3,h4,hb⟩;obtain⟨_,_,e3,_⟩:=id h3;obtain⟨_,_,e4,_⟩:=id h4
  cases e3
  cases e4
  rw[hi];exact⟨a,c,a2,c2,rfl,h3,hb⟩
theorem TP {s:List UInt8} {nx:Int} {l:List K} (P:Nat→Bool) (now:Int) (h:aP nx l=true) (hn:cQ l) (hl:l.length≤12) (he:dEq (bE s).id (bE (nx3 s)).id=false) (n:Int) (v vl:Value) (w:World) (hk:KAt w) (hv:RdK w v (smD P now l)) (hv2:RdE eH w vl (fdP (nxS s) 0 [0])) :
  Calls prog 28 #[.agg (doA (bE (nx3 s))),.agg (tbA n v),.agg (am z16),.int .i64 now,.string ⟨(smX s P l).toArray⟩,vl] w fun e w'=>∃a c a2 c2,e = .returned (.tuple #[.agg (tbA n (.slice a (smD P now l).length c)),.slice a2 0 c2,.int .i64 0])∧RdK w' (.slice a (smD P now l).length c) (smD P now l)∧Below w.heap.size w w':=by
 have hlen:(smD P now l).length≤4096:=M_ (M_ (Et _) (zL P now l)) (by omega);have h2:=qG (bE (nx3 s)) n v _ z16 now (smX s P l) _ vl w hk hv hv2 hlen (zN P h);rw[PN P now h hn he] at h2;refine h2.mono ?_;rintro e w' ⟨a,n,c,a2,n2,c2,rfl,h3,h4,hb⟩;obtain⟨_,_,e3,_⟩:=id h3;obtain⟨_,_,e4,_⟩:=id h4
 cases e3
 cases e4
 exact⟨a,c,a2,c2,rfl,h3,hb⟩
theorem PQ (V:List K) (i:Nat) (hi:i<V.length):(bI (V.take i) (ae V i)=true∧ddK (V.take (i+1))=ddK (V.take i)) ∨
  (bI (V.take i) (ae V i)=false∧(ddK (V.take (i+1))).length=(ddK (V.take i)).length+1∧(ddK (V.take i)).length<(ddK V).length∧ae (ddK V) (ddK (V.take i)).length=aW (aU (ae V i) 0) (((ddK (V.take i)).length:Int)+1)):=by
 rw[az V i hi]
 rcases N0 V i hi with h|⟨h1,h2,h3⟩
 ·exact .inl h
 ·obtain⟨hlt,h4⟩:=d_.1 h3
  exact .inr ⟨h1,h2,hlt,by rw[az _ _ hlt];exact h4⟩
theorem rF (V:List K) (k:K) (j:Nat) (hj:j<V.length):bI (V.take (j+1)) k=(bI (V.take j) k || ip k (ae V j)):=by
 rw[List.take_succ_eq_append_getElem hj,xA,az V j hj]
 simp[bI]
theorem GL (V:List K) (k:K):bI (V.take 0) k=false:=by simp[bI]
open Go.RowKit
theorem y_b {o:Oper} {a:Act} {S:World→Prop} {ops:Array Oper} (b:BinOp) (T T':TypeId) (x y:Operand) (v1 v2 v:Value) (hw:Region.wanted o (yielded ops a.tmps)=true) (ho:o.op = .binOp b T x y T') (hx:a.eval x=v1) (hy:a.eval y=v2) (hg:∀w,(eqGuard b T x y v1 v2).run prog w = .ok () w) (hr:∀w,(binOp b T v1 v2).run prog w = .ok v w):YieldsIf prog ops S o v a:=by
 refine .inl ⟨hw,fun w _ => ?_⟩;unfold execOp;simp only[ho,hx,hy,Sem.run_bind,Sem.run_pure,Result.andThen_ok,hg w,hr w]
open Go.RowKit
theorem YO (k:K) (n:Int):(kc k).setIfInBounds 0 (.int .i64 n)=kc (aW k n):=rfl
theorem SA (k:K) (n:Int):(kc k).setIfInBounds 7 (.int .i64 n)=kc (aU k n):=rfl
theorem Hk (y:World) (g i:Nat) (k k':K) (x:Int) (T:TypeId) (hg:y.heap[g]?=some (.cells (kc k) T (0,0))) (hi:i<9) (he:(kc k).setIfInBounds i (.int .i64 x)=kc k'):(storeVar 3 ⟨g,i,none⟩ (.int .i64 x)).run prog y = .ok () (y.setRow g (kc k')):=by
 have hs:(kc k).size=9:=rfl;rw[vJ y ⟨g,i,none⟩ x ((kc k)[i]'(by rw[hs];exact hi)) (by rw[e_ _ _ _ _ _ _ hg];simp[hs,hi]) (frozen_of_row _ _ i _ _ hg),au _ _ _ _ _ _ _ hg,he]
theorem mh {ops:Array Oper} {rest:List Oper} {o:Oper} {a:Act} {w:World} {Q:Exit→Act→World→Prop} (b:BinOp) (T T':TypeId) (x y:Operand) (v1 v2 v:Value) (ho:o.op = .binOp b T x y T') (hgd:Region.wanted o (yielded ops a.tmps)=true) (hx:a.eval x=v1) (hy:a.eval y=v2) (hg:∀w,(eqGuard b T x y v1 v2).run prog w = .ok () w) (hr:∀w,(binOp b T v1 v2).run prog w = .ok v w)
  (h:wpList prog ops Q rest (a.put o.dst v) w):wpList prog ops Q (o::rest) a w :=
 wpList_step fun K hK=>by
  rw[G_ hgd];unfold Oper.wp execOp;simp only[ho,hx,hy,hg,hr,Sem.run_bind,Sem.run_pure,Result.andThen_ok];exact hK _ _ h
theorem xi (m n:Tmp) (x y:Array Value) (w:World):(eqGuard .eql 23 (.tmp m) (.tmp n) (.agg x) (.agg y)).run prog w = .ok () w:=by kernel_rfl
structure bS (J:World→Prop):Prop where
 on:∀y y':World,J y→Below y.heap.size y y'→J y'
theorem bS.and {J L:World→Prop} (h:bS J) (k:bS L):bS fun y=>J y∧L y:=⟨fun y y' hj hb=>⟨h.on y y' hj.1 hb,k.on y y' hj.2 hb⟩⟩
theorem bS.row (g:Nat) (cs:Array Value) (T:TypeId):bS fun y=>y.heap[g]?=some (.cells cs T (0,0)):=⟨fun _ _ h hb=>aa h hb⟩
theorem bS.rdK (v:Value) (l:List K):bS fun y=>RdK y v l:=⟨fun _ _ h hb=>h.on hb⟩
theorem bS.rdE {α:Type} (E:El α) (v:Value) (l:List α):bS fun y=>RdE E y v l:=⟨fun _ _ h hb=>h.on hb⟩
theorem bS.b (w:World):bS fun y=>Below w.heap.size w y:=⟨fun _ _ h hb=>h.trans (hb.mono h.size)⟩
theorem bS.new {J:World→Prop} (hs:bS J) {y:World} (h:J y) (cs:Array Value) (T:TypeId):∃g,g=y.heap.size∧(J (y.alloc (.cells cs T))∧(y.alloc (.cells cs T)).heap[g]?=some (.cells cs T (0,0))) :=
 ⟨_,rfl,hs.on y _ h ((O_ y.heap.size y).alloc (A_ _) _),heap_alloc_new _ _⟩
theorem bS.new2 {J:World→Prop} (hs:bS J) {y ya yb:World} (h:J y) {g:Nat} {cs cs' ds ds':Array Value} {T U:TypeId} (hg:y.heap.size=g) (h0:ya.heap[g]?=some (.cells cs' T (0,0))) (ho:∀k,k≠g→ya.heap[k]? = ((y.alloc (.cells cs T)).alloc (.cells ds U)).heap[k]?) (hb:∀B,B≤g→Below B ((y.alloc (.cells cs T)).alloc (.cells ds U)) ya)
  (h1:yb.heap[g+1]?=some (.cells ds' U (0,0))) (ho1:∀k,k≠g+1→yb.heap[k]? = ya.heap[k]?) (hb1:∀B,B≤g+1→Below B ya yb):(J yb∧yb.heap[g]?=some (.cells cs' T (0,0)))∧yb.heap[g+1]?=some (.cells ds' U (0,0)):=by
 subst hg;exact⟨⟨hs.on y _ h (((dm y _ _ (O_ _ _)).trans (hb y.heap.size (A_ _))).trans (hb1 y.heap.size (by omega))),(ho1 _ (by omega)).trans h0⟩,h1⟩
open Go.ChangeShapes Go.WideShapes Go.ChangeAt Go.RowKit Go.Deep
set_option maxRecDepth 10000
theorem g0:prog.globalNamed "custody/custodyref02.constants" = some 1:=by kernel_rfl
theorem g1:prog.globalNamed "custody/hash.constants" = some 0:=by kernel_rfl
theorem t0:(prog.globals[1]?).map (·.type)=some 213:=by kernel_rfl
theorem t1:(prog.globals[0]?).map (·.type)=some 213:=by kernel_rfl
end
end Go.Proofs.YtmfiaadjdbemnaaGreatDoor
