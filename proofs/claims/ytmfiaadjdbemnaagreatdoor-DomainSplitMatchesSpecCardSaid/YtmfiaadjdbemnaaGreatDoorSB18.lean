/- Contracts and lemmas. No condition. -/
import Derived.Test.YtmfiaadjdbemnaaGreatDoorSB17
set_option maxRecDepth 100000
set_option maxHeartbeats 8000000
set_option linter.unusedSimpArgs false
set_option linter.unusedVariables false
namespace Go.Proofs.YtmfiaadjdbemnaaGreatDoor
open Tryz
section
open Go.RowKit Go.Shelf
attribute [local irreducible] Calls bf
theorem Rz (nx:Int) (v:Value) (l:List K) (k:K) (w:World) (hv:RdK w v l) (hk:k.wf) (he:bL nx l k≠0) :
  Calls prog 61 #[.agg #[.int .i64 nx,v],kv k] w fun e w'=>e = .returned (.tuple #[.agg #[.int .i64 0,.slice none 0 0],.int .i64 0,.int .i64 (bL nx l k)])∧Below w.heap.size w w':=by
 have hval:=fun w=>Ac k hk w;obtain⟨W0,hW0⟩:∃W0,W0=((w.alloc (.cells #[.int .i64 nx,v] 45)).alloc (.cells (kc k) 86)).alloc (.cells #[.int .i64 0,.slice none 0 0] 45):=⟨_,rfl⟩
 have hbx:∀w1,Below W0.heap.size W0 w1→w1.cell? ⟨w.heap.size,0,none⟩=some (.int .i64 nx)∧w1.cell? ⟨w.heap.size,1,none⟩=some v∧w1.cell? ⟨w.heap.size+1,7,none⟩=some (.int .i64 k.par) ∧
   w1.heap[w.heap.size+1+1]?=some (.cells #[.int .i64 0,.slice none 0 0] 45 (0,0))∧Below w.heap.size w w1:=by
  intro w1 h;rw[hW0] at h;have h1:Below ((w.alloc (.cells #[.int .i64 nx,v] 45)).alloc (.cells (kc k) 86)).heap.size ((w.alloc (.cells #[.int .i64 nx,v] 45)).alloc (.cells (kc k) 86)) w1:=cJ _ _ h;exact⟨mP _ _ _ _ h1 0,mP _ _ _ _ h1 1,Ek _ _ _ _ h1 7,by rw[h.block _ (by simp)];exact nP _ _ _ _,qC _ _ _ _ h⟩
 have HBX:=O hbx;have HW:=O hW0;obtain⟨a,cap,rfl,_,_,_⟩:=hv;clear hW0 hbx;unfold kv kc at hval ⊢;unfold kc at HW
 rcases fb nx l k with⟨h1,hr⟩|⟨h1,h2,hr⟩|⟨h1,h2,h3,hr⟩|⟨h1,h2,h3,h4,hr⟩|⟨h1,h2,h3,h4,hr⟩
 case inr.inr.inr.inr=>exact absurd hr he
 all_goals
  rw[h1] at hval;rw[hr];clear h1 hr he
  go_enter func61,ntmps61
  go_wp2_with (go_at_call 104;refine(hval _).mono ?_;rintro e w1 ⟨rfl,hb⟩;rw[←HW.out] at hb;obtain⟨n0,n1,p7,hg,hbb⟩:=HBX.out _ hb;have r0:w1.cell? ⟨w.heap.size+1+1,0,none⟩=some (.int .i64 0):=e_ _ _ _ _ _ _ hg;have r1:w1.cell? ⟨w.heap.size+1+1,1,none⟩=some (.slice none 0 0):=e_ _ _ _ _ _ _ hg;have g0:=A9 hg 0;have g1:=A9 hg 1;have HBB:=O hbb;clear hg hb hbb)
  have hle:w.heap.size≤w.heap.size+1+1:=by omega
  refine g_ (v := .tuple #[.agg #[.int .i64 0,.slice none 0 0],.int .i64 0,.int .i64 _]) (by simp[results,results61,go_sem,r0,r1]) rfl ⟨rfl,?_⟩;exact(HBB.out.setCell (p:=⟨w.heap.size+1+1,0,none⟩) hle _).setCell (p:=⟨w.heap.size+1+1,1,none⟩) hle _
theorem RdK.clip {w:World} {a:Option Addr} {cap:Nat} {l:List K} (h:RdK w (.slice a l.length cap) l):RdK w (.slice a l.length l.length) l:=by
 obtain⟨a',c',e,h1,h2,h3⟩:=h
 cases e
 exact⟨a,l.length,rfl,A_ _,by omega,h3⟩
theorem Iu (nx:Int) (v:Value) (l:List K) (k:K) (w:World) (hv:RdK w v l) (hk:k.wf) (he:bL nx l k=0) (hl:l.length≤5000) (hnx:IntKind.i64.wrap (nx+1)=nx+1) :
  Calls prog 61 #[.agg #[.int .i64 nx,v],kv k] w fun e w'=>∃v',e = .returned (.tuple #[.agg #[.int .i64 (nx+1),v'],.int .i64 nx,.int .i64 0])∧b7 w' w.heap.size v' (l++[aW k nx])∧Below w.heap.size w w':=by
 have hval:=fun w=>Ac k hk w;obtain⟨W0,hW0⟩:∃W0,W0=((w.alloc (.cells #[.int .i64 nx,v] 45)).alloc (.cells (kc k) 86)).alloc (.cells #[.int .i64 0,.slice none 0 0] 45):=⟨_,rfl⟩
 have hvw:RdK W0 v l:=by rw[hW0];exact((hv.alloc _).alloc _).alloc _
 have hbx:∀w1,Below W0.heap.size W0 w1→w1.cell? ⟨w.heap.size,0,none⟩=some (.int .i64 nx)∧w1.cell? ⟨w.heap.size,1,none⟩=some v∧di w1 (w.heap.size+1) k ∧
   w1.heap[w.heap.size+1+1]?=some (.cells #[.int .i64 0,.slice none 0 0] 45 (0,0))∧Below w.heap.size w w1:=by
  intro w1 h;rw[hW0] at h;have h1:Below ((w.alloc (.cells #[.int .i64 nx,v] 45)).alloc (.cells (kc k) 86)).heap.size ((w.alloc (.cells #[.int .i64 nx,v] 45)).alloc (.cells (kc k) 86)) w1:=cJ _ _ h;exact⟨mP _ _ _ _ h1 0,mP _ _ _ _ h1 1,(VV w _ k).on h1,by rw[h.block _ (by simp)];exact nP _ _ _ _,qC _ _ _ _ h⟩
 have HBX:=O hbx;have HW:=O hW0;have HVW:=O hv;have hszW:Hid (w.heap.size+1+1<W0.heap.size):=O (by rw[hW0];simp);obtain⟨a,cap,rfl,hcap,hcapm,_⟩:=hv;clear hW0 hbx hvw;unfold kv kc at hval ⊢;unfold kc at HW
 rcases fb nx l k with⟨h1,hr⟩|⟨h1,h2,hr⟩|⟨h1,h2,h3,hr⟩|⟨h1,h2,h3,h4,hr⟩|⟨h1,h2,h3,h4,hr⟩
 ·rw[hr] at he;cases he
 ·rw[hr] at he;cases he
 ·rw[hr] at he;cases he
 ·rw[hr] at he;cases he
 ·rw[h1] at hval
  clear h1 hr he
  go_enter func61,ntmps61
  go_wp2_with (go_at_call 104;refine(hval _).mono ?_;rintro e w1 ⟨rfl,hb⟩;rw[←HW.out] at hb;obtain⟨n0,n1,hka,hg,hbb⟩:=HBX.out _ hb;have p0:w1.cell? ⟨w.heap.size+1,0,none⟩=some (.int .i64 k.id):=hka.cell 0;have p7:w1.cell? ⟨w.heap.size+1,7,none⟩=some (.int .i64 k.par):=hka.cell 7;have f0:=hka.free 0;have HG:=O hg;have HKA:=O hka;have HB1:=O hb;have HBB:=O hbb;clear hg hka hb hbb)
  have hsz:=hszW.out;have hb1s:=HB1.out.size;obtain⟨w2,hw2⟩:∃w2,w2=w1.setCell ⟨w.heap.size+1,0,none⟩ (.int .i64 nx):=⟨_,rfl⟩
  have hw2s:w2.heap.size=w1.heap.size:=by rw[hw2,fY]
  have y1:di w2 (w.heap.size+1) (aW k nx):=by rw[hw2];exact EV HKA.out nx
  have y2:w2.heap[w.heap.size+1+1]?=some (.cells #[.int .i64 0,.slice none 0 0] 45 (0,0)):=by
   rw[hw2,bA (by omega)];exact HG.out
  have hb12:Below (w.heap.size+1) w1 w2:=by rw[hw2];exact(O_ (w.heap.size+1) w1).setCell (p:=⟨w.heap.size+1,0,none⟩) (A_ _) _
  have y3:w2.cell? ⟨w.heap.size,0,none⟩=some (.int .i64 nx):=by rw[hb12.cell (p:=⟨w.heap.size,0,none⟩) (by show w.heap.size<_;omega)];exact n0
  have y4:w2.cell? ⟨w.heap.size,1,none⟩=some (.slice a l.length cap):=by rw[hb12.cell (p:=⟨w.heap.size,1,none⟩) (by show w.heap.size<_;omega)];exact n1
  have y5:RdK w2 (.slice a l.length l.length) l:=(HVW.out.on (HBB.out.trans (hb12.mono (by omega)))).clip;have y6:Below w.heap.size w w2:=HBB.out.trans (hb12.mono (by omega));rw[←hw2]
  have HF:Hid (∀w3,Below w2.heap.size w2 w3→w3.cell? ⟨w.heap.size,0,none⟩=some (.int .i64 nx)∧w3.cell? ⟨w.heap.size,1,none⟩=some (.slice a l.length cap)∧s7 w3 (w.heap.size+1) 0 (aW k nx)) :=
   O (fun w3 h3=>⟨by rw[h3.cell (p:=⟨w.heap.size,0,none⟩) (by show w.heap.size<_;omega)];exact y3,by rw[h3.cell (p:=⟨w.heap.size,1,none⟩) (by show w.heap.size<_;omega)];exact y4,(y1.on h3).nine⟩)
  have HQ:Hid (∀w3,Below w2.heap.size w2 w3→w3.heap[w.heap.size+1+1]?=some (.cells #[.int .i64 0,.slice none 0 0] 45 (0,0))):=O (fun w3 h3=>by rw[h3.block _ (by omega)];exact y2);unfold s7 at HF;simp only[a_] at HF;have HRD0:=O y5;have HB6:=O y6;have hb0:=HF.out w2 (O_ _ _);obtain⟨z0,z1,x0,x1,x2,x3,x4,x5,x6,x7,x8⟩:=hb0
  have l1:w.heap.size<w2.heap.size:=by omega
  have l2:w.heap.size+1<w2.heap.size:=by omega
  have l3:w.heap.size+1+1<w2.heap.size:=by omega
  have ne1:w.heap.size+1+1≠w.heap.size:=by omega
  have ne2:w.heap.size≠w.heap.size+1+1:=by omega
  have HRM:Hid (l.length+1≤1000000):=O (by omega);have HCAP:=O hcap;have HCAPM:=O hcapm;clear y1 y2 y3 y4 y5 y6 hb12 hcap hcapm n0 n1 p0 p7 f0 hw2s;clear hw2
  go_region_held3 (fun w'=>w'.cell? ⟨w.heap.size,0,none⟩=some (.int .i64 nx)∧w'.cell? ⟨w.heap.size,1,none⟩=some (.slice a l.length cap)∧w'.cell? ⟨w.heap.size+1,0,none⟩=some (.int .i64 (aW k nx).id)∧w'.cell? ⟨w.heap.size+1,1,none⟩=some (.int .i64 (aW k nx).ty)∧w'.cell? ⟨w.heap.size+1,2,none⟩=some (.string ⟨(aW k nx).val.toArray⟩) ∧
    w'.cell? ⟨w.heap.size+1,3,none⟩=some (.int .i64 (aW k nx).uses)∧w'.cell? ⟨w.heap.size+1,4,none⟩=some (.int .i64 (aW k nx).start)∧w'.cell? ⟨w.heap.size+1,5,none⟩=some (.int .i64 (aW k nx).fin) ∧
    w'.cell? ⟨w.heap.size+1,6,none⟩=some (.int .i64 (aW k nx).ver)∧w'.cell? ⟨w.heap.size+1,7,none⟩=some (.int .i64 (aW k nx).par)∧w'.cell? ⟨w.heap.size+1,8,none⟩=some (.bool (aW k nx).raw))
   (first
    | go_keep
    | exact HF.out _ (O_ _ _)
    | exact HF.out _ ((ak 1 ((O_ w2.heap.size w2).alloc (A_ _) _)).trans (hb'.mono (by simp))))
   ((first
     |(refine Ch rfl (.tmp 38) (.tmp 40) rfl a l rfl ((HRD0.out.alloc _).drew 1) ⟨w2.heap.size,0,none⟩ 1 1 [aW k nx] rfl rfl (by decide) (xS w2 (aW k nx)) HRM.out ?_;intro v' w' ho' hb';have HRD:=O ho';have hrd:=ho'.rd;clear ho';obtain⟨va,vcap,rfl,_,_,_⟩:=hrd;have hbw:=(ak 1 ((O_ w2.heap.size w2).alloc (A_ _) (.cells (kc (aW k nx)) 86))).trans (hb'.mono (by simp));have qr:=HQ.out w' hbw;have HBF:=O (HB6.out.trans (hbw.mono (by omega)));have r0:w'.cell? ⟨w.heap.size+1+1,0,none⟩=some (.int .i64 0):=e_ _ _ _ _ _ _ qr;have r1:w'.cell? ⟨w.heap.size+1+1,1,none⟩=some (.slice none 0 0):=e_ _ _ _ _ _ _ qr;have g0:=A9 qr 0;have g1:=A9 qr 1;clear qr hbw)
     |(go_at_call 105;refine(RZ _ _ _ _ HCAP.out HCAPM.out).mono ?_;rintro e wf ⟨rfl,hwf⟩;rw[hwf];clear hwf)))
  all_goals
   go_wp2
   have hle:w.heap.size≤w.heap.size+1+1:=by omega
   have hs:=hszW.out;refine g_ (v := .tuple #[.agg #[.int .i64 (nx+1),.slice va (l.length+1) vcap],.int .i64 nx,.int .i64 0]) (by simp[results,results61,go_sem,r0,r1];rfl) rfl ⟨_,rfl,?_,?_⟩
   ·exact xV (lm (lm HRD.out (by simp;omega)) (by simp;omega)) (by simp;omega)
   ·exact(HBF.out.setCell (p:=⟨w.heap.size+1+1,0,none⟩) hle _).setCell (p:=⟨w.heap.size+1+1,1,none⟩) hle _
end
section
open Go.RowKit
structure Qt (Rl E0:World→World→Prop) (J:Bool→World→Prop):Prop where
 sub:∀a b,E0 a b→Rl a b
 keep:∀d a b,J d a→E0 a b→J d b
def AP (Rl E0:World→World→Prop) (J:Bool→World→Prop) (c i:Nat) (w w':World):Prop:=if i=c then Rl w w'∧J true w' else E0 w w'
variable {Rl:World→World→Prop}
inductive SPG (Rl:World→World→Prop) where
 | eq (c:Value)
 | pred (q:Value→World→Prop) (st:∀v w w',Rl w w'→q v w→q v w')
def SPG.p:SPG Rl→Value→World→Prop
 | .eq c,v,_=>v=c
 | .pred q _,v,w=>q v w
theorem SPG.keep (R:SPG Rl) {v:Value} {w w':World} (hb:Rl w w') (h:R.p v w):R.p v w':=by
 cases R with
 | eq c=>exact h
 | pred q st=>exact st v w w' hb h
def SPG.any:SPG Rl := .pred (fun _ _=>True) (fun _ _ _ _ h=>h)
def SPG.of (l:List (SPG Rl)) (i:Nat):SPG Rl:=l.getD i SPG.any
def gJ (R:Nat→SPG Rl) (w:World) (body:(Nat→Value)→Prop):List Nat→(Nat→Value)→Prop
 | [],vals=>body vals
 | j :: l, vals => match R j with
   | .eq c=>gJ R w body l (upd vals j c)
   | .pred q _=>∀x,q x w→gJ R w body l (upd vals j x)
theorem lN {R:Nat→SPG Rl} {w:World} {body:(Nat→Value)→Prop} {vals:Nat→Value}:∀(l:List Nat),gJ R w body l vals→(∀j∈l,(R j).p (vals j) w)→body vals
 | [],h,_=>h
 | j :: l, h, hp => by
   have h1:=hp j (List.mem_cons_self ..);unfold gJ at h
   cases hr:R j with
   | eq c =>
     rw[hr] at h h1;have e:=q9 (vals:=vals) (i:=j) (v:=c) h1;simp only[e] at h;exact lN l h (fun k hk=>hp k (List.mem_cons_of_mem _ hk))
   | pred q st =>
     rw[hr] at h h1;have h2:=h (vals j) h1;rw[q9 rfl] at h2;exact lN l h2 (fun k hk=>hp k (List.mem_cons_of_mem _ hk))
def yw (Ef:World→World→Prop) (F:(Nat→Value)→Act) (R:SPG Rl) (dst:Option Tmp) (vals:Nat→Value) (w:World) (Q:Exit→Act→World→Prop):Prop :=
 ∀v w',Ef w w'→R.p v w'→Q .normal ((F vals).put dst v) w'
theorem fN {Ef:World→World→Prop} {F:(Nat→Value)→Act} {R:SPG Rl} {dst:Option Tmp} {vals:Nat→Value} {w:World} {Q:Exit→Act→World→Prop} (h:Hid (yw Ef F R dst vals w Q)) (v:Value) {w':World} {a:Act} (ha:a=(F vals).put dst v) (hb:Ef w w') (hr:R.p v w'):Q .normal a w':=by
 rw[ha];exact h.out v w' hb hr
def tK (P:Program) (ops:Array Oper) (E0:World→World→Prop) (J:Bool→World→Prop) (c:Nat) (F:(Nat→Value)→Act) (R:Nat→SPG Rl) (ds:List (List Nat)):Nat→List Oper→Prop
 | _,[]=>True
 | i,o::rest=>(∀(d:Bool) (w:World),(i=c→d=false)→J d w→∀vals:Nat→Value,gJ R w (fun vals=>∀Q:Exit→Act→World→Prop,Hid (yw (AP Rl E0 J c i) F (R i) o.dst vals w Q)→wpList P ops Q [o] (F vals) w) (ds.getD i []) vals)∧tK P ops E0 J c F R ds (i+1) rest
theorem vG {P:Program} {ops:Array Oper} {E0:World→World→Prop} {J:Bool→World→Prop} {c:Nat} {F:(Nat→Value)→Act} {R:Nat→SPG Rl} {ds:List (List Nat)}:∀(l:List Oper) (k:Nat),tK P ops E0 J c F R ds k l→∀i o,l[i]?=some o →
  ∀(d:Bool) (w:World),(k+i=c→d=false)→J d w→∀(vals:Nat→Value),gJ R w (fun vals=>∀Q:Exit→Act→World→Prop,Hid (yw (AP Rl E0 J c (k+i)) F (R (k+i)) o.dst vals w Q)→wpList P ops Q [o] (F vals) w) (ds.getD (k+i) []) vals
 | [],_,_,_,_,h=>by cases h
 | o::l,k,h,0,o',ho=>by cases ho;exact h.1
 | o :: l, k, h, i + 1, o', ho => by
   have := vG l (k+1) h.2 i o' ho
   rwa [show k+1+i=k+(i+1) by omega] at this
theorem Dx {E0:World→World→Prop} {J:Bool→World→Prop} {c:Nat} (hr0:Qt Rl E0 J) {P:Program} {Q:Exit→Act→World→Prop} {l:List Oper} {n:Nat} (hcn:c<n) {F:(Nat→Value)→Act} {R:Nat→SPG Rl} {ds:List (List Nat)} (hB:vF l.toArray n ds=true)
  (hput:nk F 0 (l.take n)) (hobs:tK P l.toArray E0 J c F R ds 0 (l.take n)) (hfin:∀w,J true w→∀vals,gJ R w (fun vals=>wpList P l.toArray Q (l.drop n) (F vals) w) (List.range n) vals)
  (f:Nat):∀(m:Array Bool) (vals:Nat→Value) (w:World),HeadInv .any l.toArray n m→fP m n=f→J (m.getD c false) w→(∀i,i<n→m.getD i false=true→(R i).p (vals i) w) →
   wpAny P .any l.toArray Q (f+(l.length-n)) m (F vals) w:=by
 simp only[vF,T_,decide_eq_true_eq] at hB;obtain⟨⟨⟨⟨hn,hs⟩,hc⟩,hseq⟩,hdep⟩:=hB
 have hnl:n≤l.length:=by simpa using hn
 induction f with
 | zero =>
   intro m vals w inv hu hb hR;have hall:=s6 hu
   have hm:m=dH n (l.length-n):=by
    apply Array.ext_getElem?
    intro i
    have hsz:m.size=l.length:=by simpa using inv.size
    unfold dH;simp only[List.getElem?_toArray]
    by_cases hi:i<n
    ·have h1:=hall i hi
     rw[List.getElem?_append_left (by simpa using hi),List.getElem?_replicate,G_ hi]
     have hi2:i<m.size:=by omega
     simp[hi2] at h1
     rw[Array.getElem?_eq_getElem hi2,h1]
    ·by_cases hi2:i<l.length
     ·have h1:=inv.tail i (by omega) (by simpa using hi2)
      rw[List.getElem?_append_right (by simp;omega),List.getElem?_replicate,G_ (by simp;omega)]
      have hi3:i<m.size:=by omega
      simp[hi3] at h1
      rw[Array.getElem?_eq_getElem hi3,h1]
     ·rw[List.getElem?_append_right (by simp;omega),List.getElem?_replicate,H_ (by simp;omega),Array.getElem?_eq_none (by omega)]
   have hd:(l.drop n).length=l.length-n:=by simp
   have := wpAny_of_seq (md := .any) (P:=P) (Q':=Q) (ops:=l.toArray) (l.drop n) n m (F vals) w (fun j=>by simp[List.getElem?_drop]) (by rw[hd,hm];simpa using hseq)
    (lN _ (hfin w (by rwa [hall c hcn] at hb) vals) (fun j hj=>hR j (List.mem_range.1 hj) (hall j (List.mem_range.1 hj))))
   rw[a_]
   rwa [hd] at this
 | succ f ih =>
   intro m vals w inv hu hb hR
   have hsz:m.size=l.length:=by simpa using inv.size
   obtain⟨i0,hi0,hun0,hdone0⟩:∃i,i<n∧m.getD i false=false∧∀j,j<i→m.getD j false=true:=by
    rcases qE m n (by omega) with h|h
    ·have : fP m n=0:=by
      unfold fP;rw[List.length_eq_zero_iff,List.filter_eq_nil_iff];intro a ha;rw[h a (List.mem_range.1 ha)]
      simp
     omega
    ·exact h
   have hready0:i0∈Region.ready .any l.toArray m:=by
    rw[mem_ready]
    have hlt:i0<l.length:=by omega
    refine⟨getD_in (by omega) hun0,l[i0],by simp[hlt],fun e he hbn => ?_⟩;have h1:=List.all_eq_true.1 hdep i0 (List.mem_range.2 hi0);simp only[List.getElem?_toArray,K_ hlt,Option.map_some,Option.getD_some,T_] at h1;exact hdone0 _ (of_decide_eq_true (List.all_eq_true.1 h1.1 _ (lX.2 ⟨e,he,hbn,rfl⟩)))
   have hne:Region.ready .any l.toArray m≠[]:=List.ne_nil_of_mem hready0;rw[show f+1+(l.length-n)=(f+(l.length-n))+1 by omega];refine⟨fun h0=>absurd h0 hne,fun i hi => ?_⟩
   have hin:i<n:=by
    rcases Nat.lt_or_ge i n with h|h
    ·exact h
    ·obtain⟨_,oi,hoi,_⟩:=mem_ready.1 hi
     have hil:i<l.length:=by have := (Q_.1 hoi).1;simpa using this
     exact absurd hi (tail_waits hs hc (by simp;omega) inv _ i0 rfl hi0 (getD_in (by omega) hun0) i h)
   obtain⟨hund,oi,hoi,hdeps⟩:=mem_ready.1 hi
   have hoi2:(l.take n)[i]?=some oi:=by rw[List.getElem?_take,G_ hin];simpa using hoi
   have hui:m.getD i false=false:=getD_both hund
   have hob:=lN _ (vG (l.take n) 0 hobs i oi hoi2 (m.getD c false) w (fun e=>by rw[←e,a_];exact hui) hb vals) (fun j hj=>by
    have h1:=List.all_eq_true.1 hdep i (List.mem_range.2 hin)
    have hil:i<l.length:=by omega
    have hoi3:l[i]?=some oi:=by simpa using hoi
    simp only[List.getElem?_toArray,hoi3,Option.map_some,Option.getD_some,T_] at h1;rw[a_] at hj;have hjd:=List.contains_iff_mem.1 (List.all_eq_true.1 h1.2 j hj);obtain⟨e,he,hbn,rfl⟩:=lX.1 hjd;have hlt:=of_decide_eq_true (List.all_eq_true.1 h1.1 _ hjd)
    exact hR _ (by omega) (hdeps e he hbn))
   refine iw hoi (hob _ (O ?_));intro v w' hb' hr
   show wpAny P .any l.toArray Q (f+(l.length-n)) (m.setIfInBounds i true) _ w'
   have hpu:=rS (l.take n) 0 hput i oi hoi2 vals v;rw[hpu,a_];rw[a_] at hr;have hus:=wl m n i hin (by omega) hui;rw[a_] at hb'
   have hRl:Rl w w':=by
    unfold AP at hb'
    split at hb'
    ·exact hb'.1
    ·exact hr0.sub _ _ hb'
   have hJ':J ((m.setIfInBounds i true).getD c false) w':=by
    unfold AP at hb'
    split at hb'
    ·rename_i e
     subst e
     have : (m.setIfInBounds i true).getD i false=true:=by
      have hi9:i<m.size:=by omega
      simp[hi9]
     rw[this];exact hb'.2
    ·rename_i e
     rw[getD_set_ne false e];exact hr0.keep _ _ _ hb hb'
   refine ih _ _ _ (inv.set hi hin) (by omega) hJ' ?_;intro j hj hjd;unfold upd
   by_cases hji:j=i
   ·subst hji
    rw[G_ rfl];exact hr
   ·rw[H_ hji]
    rw[getD_set_ne false (fun e=>hji e.symm)] at hjd;exact(R j).keep hRl (hR j hj hjd)
theorem sU {E0:World→World→Prop} {J:Bool→World→Prop} (c:Nat) (hr0:Qt Rl E0 J) {P:Program} {id:Nat} {Q:Exit→Act→World→Prop} {a:Act} {w:World} {l:List Oper} (n:Nat) (hcn:c<n) (ds:List (List Nat)) (R:Nat→SPG Rl) (vals0:Nat→Value) (hm:P.follows .mixedOrders=true) (hB:vF l.toArray n ds=true)
  (ha:a=ay a vals0 0 (l.take n)) (hput:nk (fun vals=>ay a vals 0 (l.take n)) 0 (l.take n)) (hJ0:J false w.drew)
  (hobs:tK P l.toArray E0 J c (fun vals=>ay a vals 0 (l.take n)) R ds 0 (l.take n))
  (hfin:∀w',J true w'→∀vals,gJ R w' (fun vals=>wpList P l.toArray Q (l.drop n) (ay a vals 0 (l.take n)) w') (List.range n) vals):(Code.region id l.toArray true).wp P Q a w:=by
 refine wp_region_any hm ?_
 have hn:n≤l.length:=by
  have h:=hB;simp only[vF,T_,decide_eq_true_eq] at h
  simpa using h.1.1.1.1
 have inv:HeadInv .any l.toArray n (Array.replicate l.toArray.size false) :=
  ⟨by simp,fun j oj _ hl=>absurd hl (by rw[getD_replicate_false];exact Bool.false_ne_true),fun t _ h2=>getD_in (by simpa using h2) (getD_replicate_false _ _)⟩
 have hu:fP (Array.replicate l.toArray.size false) n=n:=by
  unfold fP;rw[List.filter_eq_self.2 (fun i _=>by rw[getD_replicate_false];rfl),List.length_range]
 have := Dx hr0 (P:=P) (Q:=Q) (R:=R) hcn hB hput hobs hfin n _ vals0 w.drew inv hu (by rw[getD_replicate_false];exact hJ0) (fun i _ h=>by rw[getD_replicate_false] at h;cases h);rw[show n+(l.length-n)=l.toArray.size by simp;omega] at this;rw[ha];exact this
theorem qo {E0:World→World→Prop} {J:Bool→World→Prop} {c i:Nat} {w w':World} (h:i≠c) (he:E0 w w'):AP Rl E0 J c i w w':=by
 unfold AP;rw[H_ h];exact he
theorem Ez {E0:World→World→Prop} {J:Bool→World→Prop} {c:Nat} {w w':World} (h1:Rl w w') (h2:J true w'):AP Rl E0 J c c w w':=by
 unfold AP;rw[G_ rfl];exact⟨h1,h2⟩
theorem lM {R:Nat→SPG Rl} {w:World} {body:(Nat→Value)→Prop} {vals:Nat→Value} (h:body vals):gJ R w body [] vals:=h
theorem ft {R:Nat→SPG Rl} {w:World} {body:(Nat→Value)→Prop} {vals:Nat→Value} {j:Nat} {l:List Nat} {c:Value} (hr:R j = .eq c) (h:gJ R w body l (upd vals j c)):gJ R w body (j::l) vals:=by
 unfold gJ;rw[hr];exact h
theorem Bc {R:Nat→SPG Rl} {w:World} {body:(Nat→Value)→Prop} {vals:Nat→Value} {j:Nat} {l:List Nat} {q:Value→World→Prop} {st:∀v w w',Rl w w'→q v w→q v w'} (hr:R j = .pred q st) (h:∀x,q x w→gJ R w body l (upd vals j x)):gJ R w body (j::l) vals:=by
 unfold gJ;rw[hr];exact h
end
end Go.Proofs.YtmfiaadjdbemnaaGreatDoor
