/- Contracts and lemmas. No condition. -/
import Derived.Test.YtmfiaadjdbemnaaGreatDoorSB30
set_option maxRecDepth 100000
set_option maxHeartbeats 8000000
set_option linter.unusedSimpArgs false
set_option linter.unusedVariables false
namespace Go.Proofs.YtmfiaadjdbemnaaGreatDoor
open Tryz
section
variable {ops:Array Oper} {rest:List Oper} {o:Oper} {a:Act} {w:World} {Q:Exit→Act→World→Prop}
section
open Go.RowKit Go.Shelf
theorem mX:∀l:List Int,gY l=true↔∀j (hj:j+1<l.length),l[j]<l[j+1]
 | []=>by simp[gY]
 | [a]=>by simp[gY]
 | a :: b :: l => by
   rw[gY,T_,decide_eq_true_eq,mX (b::l)]
   constructor
   ·rintro⟨h1,h2⟩ j hj
    cases j with
    | zero=>exact h1
    | succ j=>exact h2 j (by simpa using hj)
   ·intro h
    exact⟨h 0 (by simp),fun j hj=>h (j+1) (by simpa using hj)⟩
theorem qW {nx:Int} {tl:List K} {ids:List Int} {b:BK} {s:List UInt8} {need n:Int} (h:gY ids=false):dN nx tl ids b s need n=zP 1:=by
 unfold dN;rw[H_ (by simp[h])]
theorem se {nx:Int} {tl:List K} {ids:List Int} {b:BK} {s:List UInt8} {need n:Int} (h:ids.length=0):dN nx tl ids b s need n=zP 1:=by
 have : ids=[]:=List.length_eq_zero_iff.1 h;unfold dN;rw[H_ (by simp[this])]
theorem yl {nx:Int} {tl:List K} {ids:List Int} {b:BK} {s:List UInt8} {need n:Int} (h:gY ids=true) (h2:ids.length≠0) :
  ((bJ ids tl).length<ids.length∧dN nx tl ids b s need n=zP 11)∨(¬(bJ ids tl).length<ids.length∧(cP s need n).e≠0∧dN nx tl ids b s need n=zP (cP s need n).e) ∨
  (¬(bJ ids tl).length<ids.length∧(cP s need n).e=0∧dbE (cP s need n).d b (bJ ids tl)≠0∧dN nx tl ids b s need n=zP (dbE (cP s need n).d b (bJ ids tl))) ∨
  (¬(bJ ids tl).length<ids.length∧(cP s need n).e=0∧dbE (cP s need n).d b (bJ ids tl)=0∧dN nx tl ids b s need n=⟨nx,kF ids tl,dbD (cP s need n).d b (bJ ids tl),(cP s need n).l,dbX (cP s need n).d b (bJ ids tl),ids,(cP s need n).r,0⟩):=by
 have hne:ids≠[]:=fun e=>h2 (by rw[e];rfl);unfold dN;rw[G_ ⟨h,hne⟩]
 by_cases h3:(bJ ids tl).length<ids.length
 ·exact .inl ⟨h3,by rw[G_ h3]⟩
 ·rw[H_ h3]
  by_cases h4:(cP s need n).e=0
  ·rw[G_ h4]
   by_cases h5:dbE (cP s need n).d b (bJ ids tl)=0
   ·rw[G_ h5];exact .inr (.inr (.inr ⟨h3,h4,h5,rfl⟩))
   ·rw[H_ h5];exact .inr (.inr (.inl ⟨h3,h4,h5,rfl⟩))
  ·rw[H_ h4];exact .inr (.inl ⟨h3,h4,rfl⟩)
theorem G7 (ids:List Int) (l:List K):rL (eZ ids) l=kF ids l:=rfl
theorem Ds (ids:List Int) (l:List K):rL (fun k => !eZ ids k) l=bJ ids l:=by
 unfold rL bJ
 simp
structure PSt (w:World) (nx:Int) (vt vi:Value) (b:BK) (u:Value) (s:List UInt8) (y:World):Prop where
 r0:y.heap[w.heap.size]?=some (.cells #[.int .i64 nx,vt] 45 (0,0))
 r1:y.heap[w.heap.size+1]?=some (.cells #[vi] 59 (0,0))
 r2:y.heap[w.heap.size+2]?=some (.cells (bc b u) 47 (0,0))
 r3:y.heap[w.heap.size+3]?=some (.cells (ag s) 30 (0,0))
 r4:y.heap[w.heap.size+4]?=some (.cells zPA 63 (0,0))
 r5:y.heap[w.heap.size+5]?=some (.cells (ag []) 30 (0,0))
 b:Below w.heap.size w y
theorem PSt.on {w y y':World} {nx:Int} {vt vi u:Value} {b:BK} {s:List UInt8} (h:PSt w nx vt vi b u s y) (hb:Below y.heap.size y y'):PSt w nx vt vi b u s y' :=
 ⟨aa h.r0 hb,aa h.r1 hb,aa h.r2 hb,aa h.r3 hb,aa h.r4 hb,aa h.r5 hb,h.b.trans (hb.mono h.b.size)⟩
theorem PSt.keep {w y y':World} {nx:Int} {vt vi u:Value} {b:BK} {s:List UInt8} (h:PSt w nx vt vi b u s y) {B:Nat} (hB:w.heap.size+5<B) (hb:Below B y y') (hs:B≤y.heap.size):PSt w nx vt vi b u s y':=by
 have hk:∀k,k<B→y'.heap[k]? = y.heap[k]? := fun k hk=>hb.block k hk;exact⟨(hk _ (by omega)).trans h.r0,(hk _ (by omega)).trans h.r1,(hk _ (by omega)).trans h.r2,(hk _ (by omega)).trans h.r3,(hk _ (by omega)).trans h.r4,(hk _ (by omega)).trans h.r5,h.b.trans (hb.mono (by omega))⟩
theorem PSt.set3 {w y y':World} {nx:Int} {vt vi u:Value} {b:BK} {s s':List UInt8} (h:PSt w nx vt vi b u s y) (hg:y'.heap[w.heap.size+3]?=some (.cells (ag s') 30 (0,0))) (ho:∀k,k≠w.heap.size+3→y'.heap[k]? = y.heap[k]?) (hb:∀B,B≤w.heap.size+3→Below B y y'):PSt w nx vt vi b u s' y' :=
 ⟨(ho _ (by omega)).trans h.r0,(ho _ (by omega)).trans h.r1,(ho _ (by omega)).trans h.r2,hg,(ho _ (by omega)).trans h.r4,(ho _ (by omega)).trans h.r5,h.b.trans (hb _ (by omega))⟩
theorem LI (w:World) (A B C D E F:Obj):let W:=(((((w.alloc A).alloc B).alloc C).alloc D).alloc E).alloc F
  W.heap[w.heap.size]?=some A∧W.heap[w.heap.size+1]?=some B∧W.heap[w.heap.size+2]?=some C∧W.heap[w.heap.size+3]?=some D∧W.heap[w.heap.size+4]?=some E∧W.heap[w.heap.size+5]?=some F∧Below w.heap.size w W:=by
 have hs:((w.alloc A).alloc B).heap.size=w.heap.size+2:=by simp
 have hb:=ph ((w.alloc A).alloc B) C D E F;have h0:=oZ ((w.alloc A).alloc B) C D E F;have h1:=o9 ((w.alloc A).alloc B) C D E F;have h2:=pf ((w.alloc A).alloc B) C D E F;have h3:=pg ((w.alloc A).alloc B) C D E F;refine⟨aa (eP w A B) hb,aa (eR w A B) hb,?_,?_,?_,?_,?_⟩
 ·rw[hs] at h0;exact h0
 ·rw[hs] at h1;exact h1
 ·rw[hs] at h2;exact h2
 ·rw[hs] at h3;exact h3
 ·exact(dm w A B (O_ _ _)).trans (hb.mono (by rw[hs];omega))
structure PE (w:World) (y:World):Prop where
 r4:y.heap[w.heap.size+4]?=some (.cells zPA 63 (0,0))
 r5:y.heap[w.heap.size+5]?=some (.cells (ag []) 30 (0,0))
 b:Below w.heap.size w y
theorem PE.set4 {w y y':World} (h:PE w y) (hg:y'.heap[w.heap.size+4]?=some (.cells zPA 63 (0,0))) (ho:∀k,k≠w.heap.size+4→y'.heap[k]? = y.heap[k]?) (hb:∀B,B≤w.heap.size+4→Below B y y'):PE w y' :=
 ⟨hg,(ho _ (by omega)).trans h.r5,h.b.trans (hb _ (by omega))⟩
theorem PE.set5 {w y y':World} (h:PE w y) (hg:y'.heap[w.heap.size+5]?=some (.cells (ag []) 30 (0,0))) (ho:∀k,k≠w.heap.size+5→y'.heap[k]? = y.heap[k]?) (hb:∀B,B≤w.heap.size+5→Below B y y'):PE w y' :=
 ⟨(ho _ (by omega)).trans h.r4,hg,h.b.trans (hb _ (by omega))⟩
theorem PSt.pe {w y:World} {nx:Int} {vt vi u:Value} {b:BK} {s:List UInt8} (h:PSt w nx vt vi b u s y):PE w y:=⟨h.r4,h.r5,h.b⟩
theorem PE.on {w y y':World} (h:PE w y) (hb:Below y.heap.size y y'):PE w y':=⟨aa h.r4 hb,aa h.r5 hb,h.b.trans (hb.mono h.b.size)⟩
theorem PE.ans {w y:World} (h:PE w y) (e:Int):∃v1 v2 v3,Value.tuple #[.agg zPA,.agg (ag []),.int .i64 e]=Value.tuple #[.agg (ptA (zP e).nx v1 (zP e).d v2 (zP e).blob v3),.agg (ag (zP e).r),.int .i64 (zP e).e]∧RdK y v1 (zP e).tl∧RdE eH y v2 (zP e).sh∧RdE eI y v3 (zP e).gone∧Below w.heap.size w y :=
 ⟨ah,ah,ah,rfl,RdK.nil _,(ap.nil y 0).rd,(ap.nil y 0).rd,h.b⟩
def SP.ownK (B:Nat) (l:List K):SP := .pred (fun v w=>b7 w B v l) (fun _ _ _ hb h=>h.keep hb (A_ _))
theorem KG {l m:List K} (h:cQ l) (hs:∀k∈m,k∈l):cQ m:=by
 intro i hi x hx
 have hm:ae m i∈l:=by rw[az _ _ hi];exact hs _ (List.getElem_mem hi)
 obtain⟨j,hj,e⟩:=List.mem_iff_getElem.1 hm;refine h j hj x ?_;rw[az _ _ hj,e];exact hx
theorem vw {l:List K} (h:cQ l) (ids:List Int):cQ (bJ ids l):=KG h (fun k hk=>(List.mem_filter.1 hk).1)
theorem B5 (y:World) (a:Fn) (b c:Array Value) (old:Value):(storeVar 112 ⟨y.heap.size,0,none⟩ (.func a b c)).run prog (y.alloc (.cells #[old] 112)) = .ok () (y.alloc (.cells #[.func a b c] 112)):=by
 rw[run_storeVar_one (y.alloc (.cells #[old] 112)) y.heap.size 112 112 old (.func a b c) (heap_alloc_new _ _) (by kernel_rfl) rfl,vO]
def nbC (cs:Array Value):Bool:=cs.toList.all fun | .bool _=>false|_=>true
theorem lY (s:List UInt8):nbC (ag s)=true:=by kernel_rfl
theorem KD (d:DO):nbC (doA d)=true:=by kernel_rfl
theorem SS (nx:Int) (d:DO) (blob:List UInt8) (a1 a2 a3:Option Addr) (n1 n2 n3 c1 c2 c3:Nat):nbC (ptA nx (.slice a1 n1 c1) d (.slice a2 n2 c2) blob (.slice a3 n3 c3))=true:=by kernel_rfl
theorem OO:nbC zPA=true:=SS _ _ _ _ _ _ _ _ _ _ _ _
theorem RdK.nb {w w':World} {v:Value} {l:List K} {g:Nat} {cs:Array Value} {T:TypeId} (h:RdK w v l) (hg:w.heap[g]?=some (.cells cs T (0,0))) (hn:nbC cs=true) (ho:∀k,k≠g→w'.heap[k]? = w.heap[k]?) (hz:w.heap.size≤w'.heap.size):RdK w' v l:=by
 obtain⟨a,cap,rfl,h1,h2,h3⟩:=h;refine⟨a,cap,rfl,h1,h2,fun h0 => ?_⟩;obtain⟨b,off,rfl,hlt,hc⟩:=h3 h0;refine⟨b,off,rfl,by omega,fun j hj k hk => ?_⟩
 have hne:b≠g:=by
  intro e;subst e;have h8:=hc 0 h0 8 (by omega);rw[e_ _ _ _ _ _ _ hg] at h8;have h9:(kc (ae l 0))[8]?=some (.bool (ae l 0).raw):=rfl;rw[h9,←Array.getElem?_toList] at h8;have := List.all_eq_true.1 hn _ (List.mem_of_getElem? h8)
  simp at this
 rw[World.cell?_of_block (a:=⟨b,off+j*9+k,none⟩) (ho b hne)];exact hc j hj k hk
theorem ap.but {α:Type} {E:El α} {w w':World} {ai g:Nat} {v:Value} {l:List α} (h:ap E w ai v l) (hne:v.ownBlock≠some g) (ho:∀k,k≠g→w'.heap[k]? = w.heap[k]?):ap E w' ai v l:=by
 refine⟨h.1,?_⟩
 rcases h.2 with hn|⟨g2,cap,cur,rfl,hg,hgg,r⟩
 ·exact .inl hn
 ·exact .inr ⟨g2,cap,cur,rfl,hg,by rw[ho g2 (fun e=>hne (by rw[e];rfl))];exact hgg,r⟩
theorem IP (nx:Int) (d:DO) (blob:List UInt8) (a1 a2 a3:Option Addr) (n1 n2 n3 c1 c2 c3:Nat) (hgd:Region.wanted o (yielded ops a.tmps)=true) (x1 x2 x3 x4 x5:Operand)
  (ho:o.op = .build 63 #[(0,x1),(1,x2),(2,x3),(3,x4),(4,x5)]) (h1:a.eval x1 = .agg #[.int .i64 nx,.slice a1 n1 c1]) (h2:a.eval x2 = .agg (doA d)) (h3:a.eval x3 = .slice a2 n2 c2) (h4:a.eval x4 = .string ⟨blob.toArray⟩) (h5:a.eval x5 = .slice a3 n3 c3)
  (h:wpList prog ops Q rest (a.put o.dst (.agg (ptA nx (.slice a1 n1 c1) d (.slice a2 n2 c2) blob (.slice a3 n3 c3)))) w):wpList prog ops Q (o::rest) a w :=
 wpList_step fun K hK=>by
  rw[G_ hgd];have hr:=run_build (P:=prog) w 63 #[(0,.agg #[.int .i64 nx,.slice a1 n1 c1]),(1,.agg (doA d)),(2,.slice a2 n2 c2),(3,.string ⟨blob.toArray⟩),(4,.slice a3 n3 c3)] _ (I3 nx d blob a1 a2 a3 n1 n2 n3 c1 c2 c3);unfold Oper.wp execOp;simp only[ho,List.map_toArray,List.map_cons,List.map_nil,h1,h2,h3,h4,h5,hr,Sem.run_bind,Sem.run_pure,Result.andThen_ok];exact hK _ _ h
theorem xM (s:List UInt8) (need n:Int):(cP s need n).d.mach:=by
 unfold cP fB
 cases kO need n with
 | false=>exact⟨rfl,by show okI 0;unfold okI;decide,by show okI 0;unfold okI;decide⟩
 | true=>exact⟨tE _ _,by show okI (0+0);unfold okI;decide,by show okI 0;unfold okI;decide⟩
theorem mI.toC {g:Nat} {lb:Array Value} {p:K→Bool} {ai b1:Nat} {w w1:World} (h:mI g lb p ai w) (hb:Below ai w w1) (hs:ai≤b1):mI g lb p b1 w1:=fun W x hW=>h W x (hb.trans (hW.mono hs))
theorem VF:∀args w,(callFunc 50 args).run prog w = .ok (.enter 50 args) w:=enters_of func50 (by kernel_rfl) rfl
theorem VG:∀args w,(callFunc 54 args).run prog w = .ok (.enter 54 args) w:=enters_of func54 (by kernel_rfl) rfl
attribute [local irreducible] Calls doA zPA ptA cP dbE dbX dbD dN
theorem n9 (nx:Int) (vt:Value) (tl:List K) (vi:Value) (ids:List Int) (b:BK) (ua:Option Addr) (un uc:Nat) (s:List UInt8) (need n:Int) (w:World) (hk:KAt w) (ht:RdK w vt tl) (hi:RdE eI w vi ids) (hb:b.mach) (hn:cQ tl) (hs:s.length≤900000) (h1:tl.length≤5000) (h2:ids.length≤100000) :
  Calls prog 24 #[.agg #[.int .i64 nx,vt],vi,.agg (bc b (.slice ua un uc)),.agg (ag s),.int .i64 need,.int .i64 n] w fun e w'=>∃v1 v2 v3,e = .returned (.tuple #[.agg (ptA (dN nx tl ids b s need n).nx v1 (dN nx tl ids b s need n).d v2 (dN nx tl ids b s need n).blob v3),.agg (ag (dN nx tl ids b s need n).r),.int .i64 (dN nx tl ids b s need n).e]) ∧
   RdK w' v1 (dN nx tl ids b s need n).tl∧RdE eH w' v2 (dN nx tl ids b s need n).sh∧RdE eI w' v3 (dN nx tl ids b s need n).gone∧Below w.heap.size w w':=by
 have hzp:=tV;have hzr:=fi;have hzd:=iy;obtain⟨W0,hW0⟩:∃W0,W0=(((((w.alloc (.cells #[.int .i64 nx,vt] 45)).alloc (.cells #[vi] 59)).alloc (.cells (bc b (.slice ua un uc)) 47)).alloc (.cells (ag s) 30)).alloc (.cells zPA 63)).alloc (.cells (ag []) 30):=⟨_,rfl⟩;have HW:=O hW0
 have HP0:Hid (PSt w nx vt vi b (.slice ua un uc) s W0):=O (by
  rw[hW0];obtain⟨g0,g1,g2,g3,g4,g5,g6⟩:=LI w (.cells #[.int .i64 nx,vt] 45) (.cells #[vi] 59) (.cells (bc b (.slice ua un uc)) 47) (.cells (ag s) 30) (.cells zPA 63) (.cells (ag []) 30)
  exact⟨g0,g1,g2,g3,g4,g5,g6⟩)
 have HI:=O (hi.on HP0.out.b);have HT:=O (ht.on HP0.out.b);have HFL:=O Sg;have HL:Hid (tl.length≤5000∧ids.length≤100000):=O ⟨h1,h2⟩;have HNEW:=O (fun (u:World) (h:Below w.heap.size w u)=>xN s need n u (hk.on h) hs);have HBAK:=O (fun (d:DO) (hd:d.mach) (v:Value) (l:List K) (hl:cQ l) (u:World) (h:Below w.heap.size w u) (hv:RdK u v l)=>pV d b 0 v ua un uc l u (hk.on h) hv hd hb hl);have HNK:=O hn;have HUN:Hid (gY ids=false→dN nx tl ids b s need n=zP 1):=O qW;have HEM:Hid (ids.length=0→dN nx tl ids b s need n=zP 1):=O se;have HPA:=O (fun h h2 => @yl nx tl ids b s need n h h2)
 have i2:(ids.length:Int)≤100000:=by omega
 have c1:=e_ _ _ 0 _ _ _ HP0.out.r1;obtain⟨ia,ic,rfl,_,_,_⟩:=id hi;obtain⟨ta,tc,rfl,_,_,_⟩:=id ht;have HIW:=O hi;clear hk ht hi hb hn hs h1 h2 hW0
 go_enter func24,ntmps24
 go_upto_region 1 with fail
 rw[←HW.out]
 try dsimp only[Act.put]
 go_wp2
 go_loopw [27] (fun i wr=>∃k:Nat,k≤ids.length∧i = .int .i64 k∧Hid (∀j (hj:j+1<ids.length),j+1<k→ids[j]<ids[j+1])∧wr=W0) (fun i _=>ids.length-(intOf i).toNat)
 case atStart=>exact⟨0,N_ _,rfl,O (fun j _ h=>absurd h (by omega)),rfl⟩
 case round =>
  obtain⟨k,hk,rfl,hno,hwr⟩:=hrel;rw[hwr];clear hwr
  by_cases hlt:k<ids.length
  ·have k1:(k:Int)<ids.length:=by omega
   have HKL:=O hlt;obtain⟨b3,off3,rfl,hb3,hc3⟩:=fW HI.out (by omega);have d0:=hc3 k hlt
   by_cases hk0:k=0
   ·have k2:¬(0:Int)<k:=by omega
    have HN2:Hid (∀j (hj:j+1<ids.length),j+1<k+1→ids[j]<ids[j+1]):=O (fun j _ h=>absurd h (by omega));generalize ids[k]=idk at d0;clear hk0 hlt hk hno hc3 hb3;go_wp2;go_roundw
    case rel=>exact⟨k+1,HKL.out,by go_num,HN2,by first |exact rfl|exact trivial⟩
    case measure=>have := HKL.out;simp[intOf];omega
   ·have k2:(0:Int)<k:=by omega
    obtain⟨j,rfl⟩:∃j,k=j+1:=⟨k-1,by omega⟩;have d1:=hc3 j (by omega)
    have HN2:Hid (ids[j]<ids[j+1]→∀i (hi:i+1<ids.length),i+1<j+1+1→ids[i]<ids[i+1]):=O (fun h i hi h2=>by
     by_cases e:i=j
     ·subst e;exact h
     ·exact hno.out i hi (by omega))
    have HBD:Hid (¬ids[j]<ids[j+1]→dN nx tl ids b s need n=zP 1):=O (fun h=>HUN.out (by
     cases hq:gY ids with
     | false=>rfl
     | true=>exact absurd ((mX ids).1 hq j hlt) h))
    generalize ids[j+1]=idk at d0 HN2 HBD;generalize ids[j]=idj at d1 HN2 HBD;clear hk0 hlt hk hno hc3 hb3
    by_cases hq:idj<idk
    ·have q1:¬idk≤idj:=by omega
     have HN3:=O (HN2.out hq);clear hq;go_wp2;go_roundw
     case rel=>exact⟨j+1+1,HKL.out,by go_num,HN3,by first |exact rfl|exact trivial⟩
     case measure=>have := HKL.out;simp[intOf];omega
    ·have q1:idk≤idj:=by omega
     have HN3:=O (HBD.out hq);clear hq
     go_wp2_with (first
      |(go_at_call 49;refine(HFL.out _ _).mono ?_;rintro en xf ⟨rfl,hxf⟩;have HPF:=O ((HP0.out.pe).on hxf);clear hxf)
      |(refine aM (T:=63) zPA k6 rfl (.tmp 12) (.tmp 45) rfl (w.heap.size+4) zPA rfl rfl ox rfl HPF.out.r4 ?_;intro w7 hge7 hoe7 hbe7;have HE7:=O (HPF.out.set4 hge7 hoe7 hbe7);clear hge7 hoe7 hbe7)
      |(refine aM (T:=30) (ag []) (bu _) rfl (.tmp 13) (.tmp 46) rfl (w.heap.size+5) (ag []) rfl rfl (aS _) (bM _ _) HE7.out.r5 ?_;intro w8 hge8 hoe8 hbe8;have HE8:=O (HE7.out.set5 hge8 hoe8 hbe8);clear hge8 hoe8 hbe8))
     refine g_ (fO rfl _ _ (w.heap.size+4) (w.heap.size+5) _ _ rfl rfl (nY _ _ _ HE8.out.r4) (fD _ _ _ _ HE8.out.r5)) rfl ?_;rw[HN3.out];obtain⟨v1,v2,v3,e,h⟩:=HE8.out.ans 1;exact⟨v1,v2,v3,congrArg Ending.returned e,h⟩
  ·have he:k=ids.length:=by omega
   have k1:¬(k:Int)<ids.length:=by omega
   have HINC:Hid (gY ids=true):=O ((mX ids).2 (fun j hj=>hno.out j hj (by omega)));clear he hlt hk hno
   by_cases h0:ids.length=0
   ·have HS:=O (HEM.out h0)
    have e0:((ids.length:Int) == 0)=true:=by rw[beq_iff_eq];omega
    clear h0
    go_wp2_with (first
      |(go_at_call 49;refine(HFL.out _ _).mono ?_;rintro en xf ⟨rfl,hxf⟩;have HPF:=O ((HP0.out.pe).on hxf);clear hxf)
      |(refine aM (T:=63) zPA k6 rfl (.tmp 12) (.tmp 54) rfl (w.heap.size+4) zPA rfl rfl ox rfl HPF.out.r4 ?_;intro w7 hge7 hoe7 hbe7;have HE7:=O (HPF.out.set4 hge7 hoe7 hbe7);clear hge7 hoe7 hbe7)
      |(refine aM (T:=30) (ag []) (bu _) rfl (.tmp 13) (.tmp 55) rfl (w.heap.size+5) (ag []) rfl rfl (aS _) (bM _ _) HE7.out.r5 ?_;intro w8 hge8 hoe8 hbe8;have HE8:=O (HE7.out.set5 hge8 hoe8 hbe8);clear hge8 hoe8 hbe8))
    refine g_ (fO rfl _ _ (w.heap.size+4) (w.heap.size+5) _ _ rfl rfl (nY _ _ _ HE8.out.r4) (fD _ _ _ _ HE8.out.r5)) rfl ?_;rw[HS.out];obtain⟨v1,v2,v3,e,h⟩:=HE8.out.ans 1;exact⟨v1,v2,v3,congrArg Ending.returned e,h⟩
   ·have e0:((ids.length:Int) == 0)=false:=by rw[U_];omega
    have HPT:=O (HPA.out HINC.out h0);clear h0
    go_upto_region 11 with (refine bW rfl 112 (.tmp 18) (.tmp 57) rfl ⟨W0.heap.size,0,none⟩ (.func (.func 50) #[] #[.pointer (some ⟨w.heap.size+1,0,none⟩)]) rfl rfl (B5 _ _ _ _ _) ?_)
    have HA1:Hid (Below W0.heap.size W0 (W0.alloc (.cells #[.func (.func 50) #[] #[.pointer (some ⟨w.heap.size+1,0,none⟩)]] 112))):=O ((O_ _ _).alloc (A_ _) _);have HQ1:Hid ((W0.alloc (.cells #[.func (.func 50) #[] #[.pointer (some ⟨w.heap.size+1,0,none⟩)]] 112)).heap[W0.heap.size]?=some (.cells #[.func (.func 50) #[] #[.pointer (some ⟨w.heap.size+1,0,none⟩)]] 112 (0,0))):=O (heap_alloc_new _ _)
    try simp only[Act.put]
    generalize W0.alloc (.cells #[.func (.func 50) #[] #[.pointer (some ⟨w.heap.size+1,0,none⟩)]] 112)=W1 at HA1 HQ1 ⊢;have HX:Hid (∀y,Below W1.heap.size W1 y→PSt w nx (.slice ta tl.length tc) (.slice ia ids.length ic) b (.slice ua un uc) s y∧RdK y (.slice ta tl.length tc) tl∧y.heap[W0.heap.size]?=some (.cells #[.func (.func 50) #[] #[.pointer (some ⟨w.heap.size+1,0,none⟩)]] 112 (0,0))):=O (fun y hy=>⟨(HP0.out.on HA1.out).on hy,(HT.out.on HA1.out).on hy,aa HQ1.out hy⟩);have HLV:Hid (mI 50 #[.pointer (some ⟨w.heap.size+1,0,none⟩)] (eZ ids) W1.heap.size W1):=O (Bp ids (.slice ia ids.length ic) (w.heap.size+1) W1 (HI.out.on HA1.out) ((HP0.out.on HA1.out).r1));have HSY:Hid (mI 54 #[.pointer (some ⟨W0.heap.size,0,none⟩)] (fun k => !eZ ids k) W1.heap.size W1):=O (P4 ids (.slice ia ids.length ic) (w.heap.size+1) W0.heap.size W1 (HI.out.on HA1.out) ((HP0.out.on HA1.out).r1) _ HQ1.out);have HSZ:Hid (w.heap.size+5<W0.heap.size∧W0.heap.size≤W1.heap.size):=O ⟨(Q_.1 HP0.out.r5).1,HA1.out.size⟩;have HIR:=O (HI.out.on HA1.out);generalize W0.heap.size=gq at HX HSY HSZ ⊢;clear HA1 HQ1 HP0 HI HT c1;refine aY 4 [[],[0],[1],[]] (SP.of [.eq (.pointer (some ⟨w.heap.size,1,none⟩)),.eq (.slice ta tl.length tc),SP.ownK W1.heap.size tl,.eq (.func (.func 50) #[] #[.pointer (some ⟨w.heap.size+1,0,none⟩)])]) (fun _=>undef) ?h1 ?h2 ?h3 ?h4 ?h5 ?h6
    case h1=>kernel_rfl
    case h2=>kernel_rfl
    case h3=>kernel_rfl
    case h4 =>
     simp only[F_,c_]
     repeat (first |exact trivial|refine⟨fun vals v=>by kernel_rfl,?_⟩)
    case h5 =>
     simp only[F_,c_];refine⟨?_,?_,?_,?_,trivial⟩
     all_goals (intro wq hbq vals;simp only[Nat.reduceAdd,a_,X_,W_];have HQ:=O (HX.out wq hbq);have HBQ:=O hbq;clear hbq;repeat (first |refine ar ?_|refine aw rfl ?_);intro Q hQ;simp only[ay,upd,Act.put,B_,C_,D_,Nat.reduceAdd,a_,Nat.reduceEqDiff,if_true,if_false,reduceIte])
     case refine_1 =>
      go_wp2;exact ab hQ _ (by kernel_rfl) (O_ _ _) rfl
     case refine_2 =>
      have c:=e_ _ _ 1 _ _ _ HQ.out.1.r0;go_wp2;exact ab hQ _ (by kernel_rfl) (O_ _ _) rfl
     case refine_3 =>
      go_wp2_with (go_at_call 53;refine(Ep _ tl _ HQ.out.2.1 HL.out.1).mono ?_;rintro e x1 ⟨v1,rfl,ho1,hx1⟩;have HX1:=O hx1;have HO1:=O (ho1.mono HBQ.out.size);clear hx1 ho1)
      exact ab hQ _ (by kernel_rfl) HX1.out HO1.out
     case refine_4 =>
      have c:=e_ _ _ 0 _ _ _ HQ.out.2.2;go_wp2;exact ab hQ _ (by kernel_rfl) (O_ _ _) rfl
    case h6 =>
     intro wq hbq vals;have HBQ:=O hbq;clear hbq;rw[show List.range 4=[0,1,2,3] from by decide];refine aw rfl (aw rfl (aG rfl ?_));intro v1 ho1;have HO1:=O ho1;clear ho1
     repeat (first |refine ar ?_|refine aw rfl ?_)
     simp only[F_,c_,J_,L_];simp only[ay,upd,Act.put,B_,C_,D_,Nat.reduceAdd,a_,Nat.reduceEqDiff,if_true,if_false,reduceIte];obtain⟨oa,oc,rfl,_,_,_⟩:=id HO1.out.rd
     go_upto_region 12 with (go_at_call 52;refine(wX _ tl _ _ (eZ ids) W1.heap.size W1 wq VF HO1.out HBQ.out HBQ.out.size HLV.out (by have := HL.out.1;omega)).mono ?_;rintro e y1 ⟨v2,rfl,hr2,hb2⟩;rw[G7] at hr2;obtain⟨sa,sc,rfl,_,_,_⟩:=id hr2;have HR2:=O hr2;have HB2:=O (HBQ.out.trans hb2);clear hr2 hb2)
     have HS2:=O (HX.out y1 HB2.out);have HSY2:Hid (mI 54 #[.pointer (some ⟨gq,0,none⟩)] (fun k => !eZ ids k) y1.heap.size y1):=O (HSY.out.toC HB2.out HB2.out.size);have c64:=e_ _ _ 1 _ _ _ HS2.out.1.r0;clear HO1 HLV HSY HX
     go_upto_region 13 with (first
      |(go_at_call 53;refine(Ep _ tl _ HS2.out.2.1 HL.out.1).mono ?_;rintro e y2 ⟨v3,rfl,ho3,hb3⟩;obtain⟨ca,cc,rfl,_,_,_⟩:=id ho3.rd;have HO3:=O ho3;have HB3:=O hb3;clear hb3 ho3)
      |(go_at_call 52;refine(wX _ tl _ _ (fun k => !eZ ids k) y1.heap.size y1 y2 VG HO3.out HB3.out HB3.out.size HSY2.out (by have := HL.out.1;omega)).mono ?_;rintro e y3 ⟨v4,rfl,hr4,hb4⟩;rw[Ds] at hr4;obtain⟨la,lc,rfl,_,_,_⟩:=id hr4;have HR4:=O hr4;have HB4:=O (HB3.out.trans hb4);clear hr4 hb4))
     have HS4:=O (HS2.out.1.on HB4.out);have HR3:=O (HR2.out.on HB4.out);have HIY:Hid (RdE eI y3 (.slice ia ids.length ic) ids):=O ((HIR.out.on HB2.out).on HB4.out);have c70:=e_ _ _ 0 _ _ _ HS4.out.r1;clear HB2 HB3 HB4 HO3 HSY2 HS2 HIR HR2 c64 HBQ;have HNL:=O (vw HNK.out ids);generalize bJ ids tl=lv at HR4 HPT HNL ⊢;generalize kF ids tl=sl at HR3 HPT ⊢;have HPT2:=HPT.out;clear HPT HPA HUN HEM
     rcases HPT2 with⟨hlt,hsp⟩|⟨hlt,hne,hsp⟩|⟨hlt,he0,hbe,hsp⟩|⟨hlt,he0,hbe,hsp⟩
     ·have l1:(lv.length:Int)<ids.length:=by omega
      have HSP:=O hsp;clear hlt hsp
      go_wp2_with (first
       |(go_at_call 49;refine(HFL.out _ _).mono ?_;rintro en xf ⟨rfl,hxf⟩;have HPF:=O ((HS4.out.pe).on hxf);clear hxf)
       |(refine aM (T:=63) zPA k6 rfl (.tmp 12) (.tmp 75) rfl (w.heap.size+4) zPA rfl rfl ox rfl HPF.out.r4 ?_;intro w7 hge7 hoe7 hbe7;have HE7:=O (HPF.out.set4 hge7 hoe7 hbe7);clear hge7 hoe7 hbe7)
       |(refine aM (T:=30) (ag []) (bu _) rfl (.tmp 13) (.tmp 76) rfl (w.heap.size+5) (ag []) rfl rfl (aS _) (bM _ _) HE7.out.r5 ?_;intro w8 hge8 hoe8 hbe8;have HE8:=O (HE7.out.set5 hge8 hoe8 hbe8);clear hge8 hoe8 hbe8))
      refine g_ (fO rfl _ _ (w.heap.size+4) (w.heap.size+5) _ _ rfl rfl (nY _ _ _ HE8.out.r4) (fD _ _ _ _ HE8.out.r5)) rfl ?_;rw[HSP.out];obtain⟨v1,v2,v3,e,h⟩:=HE8.out.ans 11;exact⟨v1,v2,v3,congrArg Ending.returned e,h⟩
     all_goals have l1:¬(lv.length:Int)<ids.length:=by omega
     all_goals have HSP:=O hsp
     all_goals have HDM:=O (xM s need n)
     all_goals clear hsp hlt
     all_goals generalize cP s need n=fd at *
     all_goals have HG0:Hid (w.heap.size+5<y3.heap.size):=O (Q_.1 HS4.out.r5).1
     ·have b1:(fd.e != 0)=true:=by rw[bne_iff_ne];exact hne
      have b2:(fd.e == 0)=false:=by rw[U_];exact hne
      clear hne
      go_upto_region 16 with (first
       |(refine jl s rfl (.tmp 9) rfl (w.heap.size+3) rfl _ HS4.out.r3 ?_)
       |(go_at_call 10;refine(HNEW.out _ HS4.out.b).mono ?_;rintro e y5 ⟨v5,rfl,ho5,hb5⟩;obtain⟨ha,hc,rfl,_,_,_⟩:=id ho5.rd;have HO5:=O ho5;have HS5:=O (HS4.out.on hb5);have HR5:=O (HR3.out.on hb5);have HR6:=O (HR4.out.on hb5);have HI5:=O (HIY.out.on hb5);have HG5:Hid (y3.heap.size≤y5.heap.size):=O hb5.size;clear hb5 ho5)
       |(refine aH (doA fd.d) 25 rfl (.tmp 21) (.tmp 83) rfl _ rfl rfl rfl (b8 _) (dE _ _) (cr _) ?_)
       |(refine aM (T:=30) (ag fd.r) (bu _) rfl (.tmp 9) (.tmp 85) rfl (w.heap.size+3) (ag s) rfl rfl (aS _) (bM _ _) (aa HS5.out.r3 ((O_ _ _).alloc (A_ _) _)) ?_;intro w6 hge6 hoe6 hbe6;have HW6:=O (And.intro hge6 (And.intro hoe6 hbe6));clear hge6 hoe6 hbe6))
      have HA6:Hid (Below y5.heap.size y5 (y5.alloc (.cells (doA fd.d) 25))∧(y5.alloc (.cells (doA fd.d) 25)).heap[y5.heap.size]?=some (.cells (doA fd.d) 25 (0,0))):=O ⟨(O_ _ _).alloc (A_ _) _,heap_alloc_new _ _⟩;have HSA:=O (HS5.out.on HA6.out.1);have HS6:=O (HSA.out.set3 HW6.out.1 HW6.out.2.1 HW6.out.2.2);have HZ6:Hid ((y5.alloc (.cells (doA fd.d) 25)).heap.size≤w6.heap.size):=O (HW6.out.2.2 0 (N_ _)).size;have HSL6:=O ((HR5.out.on HA6.out.1).nb HSA.out.r3 (lY s) HW6.out.2.1 HZ6.out);have HLV6:=O ((HR6.out.on HA6.out.1).nb HSA.out.r3 (lY s) HW6.out.2.1 HZ6.out);have HNO:Hid (Value.ownBlock (.slice ha fd.l.length hc)≠some y5.heap.size):=O (HO5.out.neNew (A_ _));have HSH6:=O ((HO5.out.on HA6.out.1).but ((HO5.out.on HA6.out.1).neOld (by have := HG0.out;omega)) HW6.out.2.1);have HGD6:Hid (w6.heap[y5.heap.size]?=some (.cells (doA fd.d) 25 (0,0))∧w.heap.size+5<y5.heap.size):=O ⟨(HW6.out.2.1 _ (by have := HG0.out;have := HG5.out;omega)).trans HA6.out.2,by have := HG0.out;have := HG5.out;omega⟩;have HI6:Hid (RdE eI w6 (.slice ia ids.length ic) ids):=O (HIW.out.on (HS6.out.b));generalize y5.heap.size=gd at HNO HGD6 ⊢;clear HA6 HSA HW6 HZ6 HR5 HR6 HO5 HS5 HI5 HG5 HS4 HR3 HR4 HIY;clear HNEW
      go_wp2_with (first
       |(go_at_call 49;refine(HFL.out _ _).mono ?_;rintro en xf ⟨rfl,hxf⟩;have HPF:=O ((HS6.out.pe).on hxf);clear hxf)
       |(refine aM (T:=63) zPA k6 rfl (.tmp 12) (.tmp 92) rfl (w.heap.size+4) zPA rfl rfl ox rfl HPF.out.r4 ?_;intro w7 hge7 hoe7 hbe7;have HE7:=O (HPF.out.set4 hge7 hoe7 hbe7);clear hge7 hoe7 hbe7)
       |(refine aM (T:=30) (ag []) (bu _) rfl (.tmp 13) (.tmp 93) rfl (w.heap.size+5) (ag []) rfl rfl (aS _) (bM _ _) HE7.out.r5 ?_;intro w8 hge8 hoe8 hbe8;have HE8:=O (HE7.out.set5 hge8 hoe8 hbe8);clear hge8 hoe8 hbe8))
      refine g_ (fO rfl _ _ (w.heap.size+4) (w.heap.size+5) _ _ rfl rfl (nY _ _ _ HE8.out.r4) (fD _ _ _ _ HE8.out.r5)) rfl ?_;rw[HSP.out];obtain⟨v1,v2,v3,e,h⟩:=HE8.out.ans fd.e;exact⟨v1,v2,v3,congrArg Ending.returned e,h⟩
     ·have b1:(fd.e != 0)=false:=by rw[he0];rfl
      have b2:(fd.e == 0)=true:=by rw[he0];rfl
      have b3:(dbE fd.d b lv != 0)=true:=by rw[bne_iff_ne];exact hbe
      have b4:(dbE fd.d b lv == 0)=false:=by rw[U_];exact hbe
      clear he0 hbe
      go_upto_region 16 with (first
       |(refine jl s rfl (.tmp 9) rfl (w.heap.size+3) rfl _ HS4.out.r3 ?_)
       |(go_at_call 10;refine(HNEW.out _ HS4.out.b).mono ?_;rintro e y5 ⟨v5,rfl,ho5,hb5⟩;obtain⟨ha,hc,rfl,_,_,_⟩:=id ho5.rd;have HO5:=O ho5;have HS5:=O (HS4.out.on hb5);have HR5:=O (HR3.out.on hb5);have HR6:=O (HR4.out.on hb5);have HI5:=O (HIY.out.on hb5);have HG5:Hid (y3.heap.size≤y5.heap.size):=O hb5.size;clear hb5 ho5)
       |(refine aH (doA fd.d) 25 rfl (.tmp 21) (.tmp 83) rfl _ rfl rfl rfl (b8 _) (dE _ _) (cr _) ?_)
       |(refine aM (T:=30) (ag fd.r) (bu _) rfl (.tmp 9) (.tmp 85) rfl (w.heap.size+3) (ag s) rfl rfl (aS _) (bM _ _) (aa HS5.out.r3 ((O_ _ _).alloc (A_ _) _)) ?_;intro w6 hge6 hoe6 hbe6;have HW6:=O (And.intro hge6 (And.intro hoe6 hbe6));clear hge6 hoe6 hbe6))
      have HA6:Hid (Below y5.heap.size y5 (y5.alloc (.cells (doA fd.d) 25))∧(y5.alloc (.cells (doA fd.d) 25)).heap[y5.heap.size]?=some (.cells (doA fd.d) 25 (0,0))):=O ⟨(O_ _ _).alloc (A_ _) _,heap_alloc_new _ _⟩;have HSA:=O (HS5.out.on HA6.out.1);have HS6:=O (HSA.out.set3 HW6.out.1 HW6.out.2.1 HW6.out.2.2);have HZ6:Hid ((y5.alloc (.cells (doA fd.d) 25)).heap.size≤w6.heap.size):=O (HW6.out.2.2 0 (N_ _)).size;have HSL6:=O ((HR5.out.on HA6.out.1).nb HSA.out.r3 (lY s) HW6.out.2.1 HZ6.out);have HLV6:=O ((HR6.out.on HA6.out.1).nb HSA.out.r3 (lY s) HW6.out.2.1 HZ6.out);have HNO:Hid (Value.ownBlock (.slice ha fd.l.length hc)≠some y5.heap.size):=O (HO5.out.neNew (A_ _));have HSH6:=O ((HO5.out.on HA6.out.1).but ((HO5.out.on HA6.out.1).neOld (by have := HG0.out;omega)) HW6.out.2.1);have HGD6:Hid (w6.heap[y5.heap.size]?=some (.cells (doA fd.d) 25 (0,0))∧w.heap.size+5<y5.heap.size):=O ⟨(HW6.out.2.1 _ (by have := HG0.out;have := HG5.out;omega)).trans HA6.out.2,by have := HG0.out;have := HG5.out;omega⟩;have HI6:Hid (RdE eI w6 (.slice ia ids.length ic) ids):=O (HIW.out.on (HS6.out.b));generalize y5.heap.size=gd at HNO HGD6 ⊢;clear HA6 HSA HW6 HZ6 HR5 HR6 HO5 HS5 HI5 HG5 HS4 HR3 HR4 HIY;have HBAK2:=HBAK
      go_upto_region 19 with (first
       |(refine cz fd.d rfl (.tmp 21) rfl gd rfl _ HGD6.out.1 ?_)
       |(refine cH b (.slice ua un uc) rfl (.tmp 8) rfl (w.heap.size+2) rfl _ HS6.out.r2 ?_)
       |(go_at_call 19;refine(HBAK.out fd.d HDM.out _ _ HNL.out _ HS6.out.b HLV6.out).mono ?_;rintro e y7 ⟨rfl,hb7⟩;have HS7:=O (HS6.out.on hb7);have HSL7:=O (HSL6.out.on hb7);have HSH7:=O (HSH6.out.on hb7);have HGD7:=O (aa HGD6.out.1 hb7);clear hb7)
       |(refine aM (T:=25) (doA (dbD fd.d b lv)) (b8 _) rfl (.tmp 21) (.tmp 101) rfl gd (doA fd.d) rfl rfl (cr _) (dE _ _) HGD7.out ?_;intro w8 hge8 hoe8 hbe8;have HGD8:=O hge8;have HS8:Hid (PSt w nx (.slice ta tl.length tc) (.slice ia ids.length ic) b (.slice ua un uc) fd.r w8):=(O (HS7.out.keep (B:=gd) (by have := HGD6.out.2;omega) (hbe8 gd (A_ _)) (by have := (Q_.1 HGD7.out).1;omega)));have HSL8:=O (HSL7.out.nb HGD7.out (KD _) hoe8 (hbe8 0 (N_ _)).size);have HSH8:=O (HSH7.out.but HNO.out hoe8);clear hge8 hoe8 hbe8))
      go_wp2_with (first
       |(go_at_call 49;refine(HFL.out _ _).mono ?_;rintro en xf ⟨rfl,hxf⟩;have HPF:=O ((HS8.out.pe).on hxf);clear hxf)
       |(refine aM (T:=63) zPA k6 rfl (.tmp 12) (.tmp 109) rfl (w.heap.size+4) zPA rfl rfl ox rfl HPF.out.r4 ?_;intro w7 hge7 hoe7 hbe7;have HE7:=O (HPF.out.set4 hge7 hoe7 hbe7);clear hge7 hoe7 hbe7)
       |(refine aM (T:=30) (ag []) (bu _) rfl (.tmp 13) (.tmp 110) rfl (w.heap.size+5) (ag []) rfl rfl (aS _) (bM _ _) HE7.out.r5 ?_;intro w8 hge8 hoe8 hbe8;have HE8:=O (HE7.out.set5 hge8 hoe8 hbe8);clear hge8 hoe8 hbe8))
      refine g_ (fO rfl _ _ (w.heap.size+4) (w.heap.size+5) _ _ rfl rfl (nY _ _ _ HE8.out.r4) (fD _ _ _ _ HE8.out.r5)) rfl ?_;rw[HSP.out];obtain⟨v1,v2,v3,e,h⟩:=HE8.out.ans (dbE fd.d b lv);exact⟨v1,v2,v3,congrArg Ending.returned e,h⟩
     ·have b1:(fd.e != 0)=false:=by rw[he0];rfl
      have b2:(fd.e == 0)=true:=by rw[he0];rfl
      have b3:(dbE fd.d b lv != 0)=false:=by rw[hbe];rfl
      have b4:(dbE fd.d b lv == 0)=true:=by rw[hbe];rfl
      clear he0 hbe
      go_upto_region 16 with (first
       |(refine jl s rfl (.tmp 9) rfl (w.heap.size+3) rfl _ HS4.out.r3 ?_)
       |(go_at_call 10;refine(HNEW.out _ HS4.out.b).mono ?_;rintro e y5 ⟨v5,rfl,ho5,hb5⟩;obtain⟨ha,hc,rfl,_,_,_⟩:=id ho5.rd;have HO5:=O ho5;have HS5:=O (HS4.out.on hb5);have HR5:=O (HR3.out.on hb5);have HR6:=O (HR4.out.on hb5);have HI5:=O (HIY.out.on hb5);have HG5:Hid (y3.heap.size≤y5.heap.size):=O hb5.size;clear hb5 ho5)
       |(refine aH (doA fd.d) 25 rfl (.tmp 21) (.tmp 83) rfl _ rfl rfl rfl (b8 _) (dE _ _) (cr _) ?_)
       |(refine aM (T:=30) (ag fd.r) (bu _) rfl (.tmp 9) (.tmp 85) rfl (w.heap.size+3) (ag s) rfl rfl (aS _) (bM _ _) (aa HS5.out.r3 ((O_ _ _).alloc (A_ _) _)) ?_;intro w6 hge6 hoe6 hbe6;have HW6:=O (And.intro hge6 (And.intro hoe6 hbe6));clear hge6 hoe6 hbe6))
      have HA6:Hid (Below y5.heap.size y5 (y5.alloc (.cells (doA fd.d) 25))∧(y5.alloc (.cells (doA fd.d) 25)).heap[y5.heap.size]?=some (.cells (doA fd.d) 25 (0,0))):=O ⟨(O_ _ _).alloc (A_ _) _,heap_alloc_new _ _⟩;have HSA:=O (HS5.out.on HA6.out.1);have HS6:=O (HSA.out.set3 HW6.out.1 HW6.out.2.1 HW6.out.2.2);have HZ6:Hid ((y5.alloc (.cells (doA fd.d) 25)).heap.size≤w6.heap.size):=O (HW6.out.2.2 0 (N_ _)).size;have HSL6:=O ((HR5.out.on HA6.out.1).nb HSA.out.r3 (lY s) HW6.out.2.1 HZ6.out);have HLV6:=O ((HR6.out.on HA6.out.1).nb HSA.out.r3 (lY s) HW6.out.2.1 HZ6.out);have HNO:Hid (Value.ownBlock (.slice ha fd.l.length hc)≠some y5.heap.size):=O (HO5.out.neNew (A_ _));have HSH6:=O ((HO5.out.on HA6.out.1).but ((HO5.out.on HA6.out.1).neOld (by have := HG0.out;omega)) HW6.out.2.1);have HGD6:Hid (w6.heap[y5.heap.size]?=some (.cells (doA fd.d) 25 (0,0))∧w.heap.size+5<y5.heap.size):=O ⟨(HW6.out.2.1 _ (by have := HG0.out;have := HG5.out;omega)).trans HA6.out.2,by have := HG0.out;have := HG5.out;omega⟩;have HI6:Hid (RdE eI w6 (.slice ia ids.length ic) ids):=O (HIW.out.on (HS6.out.b));generalize y5.heap.size=gd at HNO HGD6 ⊢;clear HA6 HSA HW6 HZ6 HR5 HR6 HO5 HS5 HI5 HG5 HS4 HR3 HR4 HIY
      go_upto_region 21 with (first
       |(refine cz fd.d rfl (.tmp 21) rfl gd rfl _ HGD6.out.1 ?_)
       |(refine cH b (.slice ua un uc) rfl (.tmp 8) rfl (w.heap.size+2) rfl _ HS6.out.r2 ?_)
       |(go_at_call 19;refine(HBAK.out fd.d HDM.out _ _ HNL.out _ HS6.out.b HLV6.out).mono ?_;rintro e y7 ⟨rfl,hb7⟩;have HS7:=O (HS6.out.on hb7);have HSL7:=O (HSL6.out.on hb7);have HSH7:=O (HSH6.out.on hb7);have HGD7:=O (aa HGD6.out.1 hb7);clear hb7)
       |(refine aM (T:=25) (doA (dbD fd.d b lv)) (b8 _) rfl (.tmp 21) (.tmp 101) rfl gd (doA fd.d) rfl rfl (cr _) (dE _ _) HGD7.out ?_;intro w8 hge8 hoe8 hbe8;have HGD8:=O hge8;have HS8:Hid (PSt w nx (.slice ta tl.length tc) (.slice ia ids.length ic) b (.slice ua un uc) fd.r w8):=(O (HS7.out.keep (B:=gd) (by have := HGD6.out.2;omega) (hbe8 gd (A_ _)) (by have := (Q_.1 HGD7.out).1;omega)));have HSL8:=O (HSL7.out.nb HGD7.out (KD _) hoe8 (hbe8 0 (N_ _)).size);have HSH8:=O (HSH7.out.but HNO.out hoe8);clear hge8 hoe8 hbe8))
      have HX9:Hid (∀y,Below w8.heap.size w8 y→PSt w nx (.slice ta tl.length tc) (.slice ia ids.length ic) b (.slice ua un uc) fd.r y∧y.heap[gd]?=some (.cells (doA (dbD fd.d b lv)) 25 (0,0))∧RdE eI y (.slice ia ids.length ic) ids):=O (fun y hy=>⟨HS8.out.on hy,aa HGD8.out hy,HIW.out.on (HS8.out.on hy).b⟩);have HG8:Hid (w.heap.size+5<w8.heap.size):=O (Q_.1 HS8.out.r5).1;generalize dbD fd.d b lv=dd at *;generalize dbX fd.d b lv=dx at *;clear HS7 HSL7 HSH7 HGD7 HS6 HSL6 HLV6 HSH6 HBAK;refine fe (fun y=>y.heap[w.heap.size]?=some (.cells #[.int .i64 nx,.slice ta tl.length tc] 45 (0,0))∧y.heap[gd]?=some (.cells (doA dd) 25 (0,0))∧y.heap[w.heap.size+1]?=some (.cells #[.slice ia ids.length ic] 59 (0,0))∧y.heap[w.heap.size+3]?=some (.cells (ag fd.r) 30 (0,0))) [0,1,2,3,4,5,6,7,10] [8,9,11,12,13] ?h1 ?h2 ?h3 ?h4 ?h5
      case h1=>intro c a d v w h;cases d <;> exact h
      case h2=>kernel_rfl
      case h3=>kernel_rfl
      case h4=>exact⟨HS8.out.r0,HGD8.out,HS8.out.r1,HS8.out.r3⟩
      case h5 =>
       simp only[cT,List.filterMap_cons,List.filterMap_nil,List.getElem?_toArray,List.getElem?_cons_succ,List.getElem?_cons_zero];refine⟨_,aR (.pointer (some ⟨w.heap.size,0,none⟩)) rfl (fun y hy=>by kernel_rfl),?_⟩;simp only[Act.put,B_,C_,D_];refine⟨_,gC (.int .i64 nx) ⟨w.heap.size,0,none⟩ 3 (.tmp 112) rfl rfl rfl (fun y hy=>ff y _ _ (by rw[e_ _ _ _ _ _ _ hy.1];rfl)),?_⟩;simp only[Act.put,B_,C_,D_];refine⟨_,aR (.slice sa sl.length sc) rfl (fun y hy=>by kernel_rfl),?_⟩;simp only[Act.put,B_,C_,D_];refine⟨_,aR (.agg #[.int .i64 nx,.slice sa sl.length sc]) rfl (fun y hy=>by kernel_rfl),?_⟩;simp only[Act.put,B_,C_,D_];refine⟨_,my (doA dd) gd 25 (.tmp 21) rfl rfl rfl (fun y hy=>gl y _ _ _ hy.2.1),?_⟩;simp only[Act.put,B_,C_,D_];refine⟨_,aR (.slice ha fd.l.length hc) rfl (fun y hy=>by kernel_rfl),?_⟩;simp only[Act.put,B_,C_,D_];refine⟨_,aR (.string ⟨dx.toArray⟩) rfl (fun y hy=>by kernel_rfl),?_⟩;simp only[Act.put,B_,C_,D_];refine⟨_,gC (.slice ia ids.length ic) ⟨w.heap.size+1,0,none⟩ 59 (.tmp 7) rfl rfl rfl (fun y hy=>Hl y _ _ _ _ (by rw[e_ _ _ _ _ _ _ hy.2.2.1];rfl)),?_⟩;simp only[Act.put,B_,C_,D_];refine⟨_,my (ag fd.r) (w.heap.size+3) 30 (.tmp 9) rfl rfl rfl (fun y hy=>fD y _ _ _ hy.2.2.2),?_⟩;simp only[Act.put,B_,C_,D_];have HX8:=O (HX9.out w8.drew (O_ _ _).drew);have HSL9:=O (HSL8.out.on (O_ _ _).drew);have HSH9:=O (HSH8.out.on (O_ _ _).drew);have HG9:Hid (w.heap.size+5<w8.drew.heap.size):=O HG8.out;have HGDB:Hid (gd≠w.heap.size+4∧gd≠w.heap.size+5):=O (by have := HGD6.out.2;omega);generalize w8.drew=wq at HX8 HSL9 HSH9 HG9 ⊢;clear HX9 HSL8 HSH8 HS8 HG8 HGD8;intro Q1 HQ1
       go_wp2_with (go_at_call 55;refine(NT _ ids _ HX8.out.2.2 HL.out.2).mono ?_;rintro e x1 ⟨v9,rfl,ho9,hx9⟩;obtain⟨ga,gc,rfl,_,_,_⟩:=id ho9.rd;have HX1:=O hx9;have HOG:=O ho9;clear hx9 ho9)
       have HQ:=O (HX8.out.1.on HX1.out);have HD1:=O (aa HX8.out.2.1 HX1.out);have HSL1:=O (HSL9.out.on HX1.out);have HSH1:=O (HSH9.out.on HX1.out);refine HQ1.out _ _ ⟨HQ.out.r0,HD1.out,HQ.out.r1,HQ.out.r3⟩ ?_;clear HQ1 HX8 HSL9 HSH9
       try simp only[Act.put,B_,C_,D_]
       intro Q2 HQ2
       go_wp2_with (refine IP nx dd dx sa ha ga sl.length fd.l.length ids.length sc hc gc rfl (.tmp 115) (.tmp 116) (.tmp 117) (.tmp 118) (.tmp 120) rfl rfl rfl rfl rfl rfl ?_)
       refine HQ2.out _ _ ⟨HQ.out.r0,HD1.out,HQ.out.r1,HQ.out.r3⟩ ?_;clear HQ2
       try simp only[Act.put,B_,C_,D_]
       intro Q3 HQ3
       (refine aM (T:=63) (ptA nx (.slice sa sl.length sc) dd (.slice ha fd.l.length hc) dx (.slice ga ids.length gc)) (qz _ _ _ _ _ _) rfl (.tmp 12) (.tmp 121) rfl (w.heap.size+4) zPA rfl rfl (nS _ _ _ _ _ _ _ _ _ _ _ _) (by rw[fL,nD]) HQ.out.r4 ?_;intro wa hga hoa hba;have HPA4:=O hga;have HPA5:=O ((hoa (w.heap.size+5) (by omega)).trans HQ.out.r5);have HPAB:=O (HQ.out.b.trans (hba _ (by omega)));have HSLA:=O (HSL1.out.nb HQ.out.r4 OO hoa (hba 0 (N_ _)).size);have HSHA:=O (HSH1.out.but (HSH1.out.neOld (by have := HG0.out;omega)) hoa);have HOGA:=O (HOG.out.but (HOG.out.neOld (by have := HG9.out;omega)) hoa))
       refine HQ3.out _ _ ⟨(hoa _ (by omega)).trans HQ.out.r0,(hoa _ HGDB.out.1).trans HD1.out,(hoa _ (by omega)).trans HQ.out.r1,(hoa _ (by omega)).trans HQ.out.r3⟩ ?_;have HSA4:=O (show wa.heap[w.heap.size]?=some (.cells #[.int .i64 nx,.slice ta tl.length tc] 45 (0,0))∧wa.heap[gd]?=some (.cells (doA dd) 25 (0,0))∧wa.heap[w.heap.size+1]?=some (.cells #[.slice ia ids.length ic] 59 (0,0))∧wa.heap[w.heap.size+3]?=some (.cells (ag fd.r) 30 (0,0)) from⟨(hoa _ (by omega)).trans HQ.out.r0,(hoa _ HGDB.out.1).trans HD1.out,(hoa _ (by omega)).trans HQ.out.r1,(hoa _ (by omega)).trans HQ.out.r3⟩);clear HQ3 hga hoa hba
       try simp only[Act.put,B_,C_,D_]
       intro Q4 HQ4
       (refine aM (T:=30) (ag fd.r) (bu _) rfl (.tmp 13) (.tmp 122) rfl (w.heap.size+5) (ag []) rfl rfl (aS _) (bM _ _) HPA5.out ?_;intro wb hgb hob hbb;have HPB5:=O hgb;have HPB4:=O ((hob (w.heap.size+4) (by omega)).trans HPA4.out);have HPBB:=O (HPAB.out.trans (hbb _ (by omega)));have HSLB:=O (HSLA.out.nb HPA5.out (lY _) hob (hbb 0 (N_ _)).size);have HSHB:=O (HSHA.out.but (HSHA.out.neOld (by have := HG0.out;omega)) hob);have HOGB:=O (HOGA.out.but (HOGA.out.neOld (by have := HG9.out;omega)) hob))
       have HSB4:=O (show wb.heap[w.heap.size]?=some (.cells #[.int .i64 nx,.slice ta tl.length tc] 45 (0,0))∧wb.heap[gd]?=some (.cells (doA dd) 25 (0,0))∧wb.heap[w.heap.size+1]?=some (.cells #[.slice ia ids.length ic] 59 (0,0))∧wb.heap[w.heap.size+3]?=some (.cells (ag fd.r) 30 (0,0)) from⟨(hob _ (by omega)).trans HSA4.out.1,(hob _ HGDB.out.2).trans HSA4.out.2.1,(hob _ (by omega)).trans HSA4.out.2.2.1,(hob _ (by omega)).trans HSA4.out.2.2.2⟩);refine HQ4.out _ _ HSB4.out ?_;clear HQ4 hgb hob hbb
       try simp only[Act.put,B_,C_,D_]
       intro Q5 HQ5;go_wp2;refine HQ5.out _ _ HSB4.out ?_;clear HQ5
       try simp only[Act.put,B_,C_,D_]
       refine el ?_;go_wp2;refine g_ (fO rfl _ _ (w.heap.size+4) (w.heap.size+5) _ _ rfl rfl (Lq _ _ _ _ _ _ _ _ _ HPB4.out) (fD _ _ _ _ HPB5.out)) rfl ?_;rw[HSP.out];exact⟨_,_,_,rfl,HSLB.out,HSHB.out.rd,HOGB.out.rd,HPBB.out⟩
end
section
open Go.RowKit Go.Shelf
theorem gM {w:World} {g:Nat} {b:BK} {u:Value} {T:TypeId} (h:w.heap[g]?=some (.cells (bc b u) T (0,0))):w.rangeAt g 0 (am b.dom).toList:=fun i x hx=>by
 obtain⟨hi,rfl⟩:=nK b.dom i x hx;rw[e_ _ _ _ _ _ _ h,a_];exact pW b u i hi
theorem lZ {w:World} {g:Nat} {b:BK} {u:Value} {T:TypeId} (h:w.heap[g]?=some (.cells (bc b u) T (0,0))):w.rangeAt g 20 (am b.pol).toList:=fun i x hx=>by
 obtain⟨hi,rfl⟩:=nK b.pol i x hx;rw[e_ _ _ _ _ _ _ h];exact mM b u i hi
theorem eT {w:World} {g:Nat} {d:DO} {T:TypeId} (h:w.heap[g]?=some (.cells (doA d) T (0,0))):w.rangeAt g 0 (am d.id).toList:=fun i x hx=>by
 rw[e_ _ _ _ _ _ _ h,a_];exact uL d i x hx
theorem l5 {w:World} {g:Nat} {d:List UInt8} {T:TypeId} (h:w.heap[g]?=some (.cells (am d) T (0,0))):w.rangeAt g 0 (am d).toList:=fun i x hx=>by
 rw[e_ _ _ _ _ _ _ h,a_,←Array.getElem?_toList];exact hx
theorem gS (d:List UInt8) (g off:Nat) (x:Operand) (ho:o.op = .load 23 x) (hc:w.rangeAt g off (am d).toList)
  (hx:a.eval x = .pointer (some ⟨g,off,none⟩)) (hgd:o.guard=none)
  (h:wpList prog ops Q rest (a.put o.dst (.agg (am d))) w):wpList prog ops Q (o::rest) a w :=
 wpList_plain hgd fun _ hK=>wp_load_mid _ x ho g off hx (am d).toList _ hc underlying23 rfl cC (hK _ _ h)
theorem oJ (x y:List UInt8) (w:World):(binOp .eql 23 (.agg (am x)) (.agg (am y))).run prog w = .ok (.bool (dEq x y)) w:=by
 have h:(Op.equalIn Op.maxDepth 23 (.agg (am x)) (.agg (am y))).run prog w = .ok (dEq x y) w:=nL 9998 x y w;simp only[binOp,Op.equal,Sem.run_bind,Sem.run_pure,Result.andThen_ok,h]
def tbA (nx:Int) (v:Value):Array Value := #[.int .i64 nx,v]
theorem fg (n m:Int) (v u:Value):(tbA n v).size=(tbA m u).size:=rfl
theorem qB:(prog.info? 45).map (·.size)=some 2:=by kernel_rfl
theorem cZ (n:Int) (v:Value):(prog.info? 45).map (·.size)=some (tbA n v).size:=qB
theorem dP (n:Int) (a:Option Addr) (k c:Nat):((tbA n (.slice a k c)).all fun u=>u.oneCell')=true:=by simp[tbA,Value.oneCell']
theorem pA (n:Int) (a:Option Addr) (k c:Nat):nbC (tbA n (.slice a k c))=true:=by kernel_rfl
theorem nt (w:World) (g:Nat) (n:Int) (v:Value) (T:TypeId) (hg:w.heap[g]?=some (.cells (tbA n v) T (0,0))):(loadVar 45 ⟨g,0,none⟩).run prog w = .ok (.agg (tbA n v)) w :=
 run_loadVar_row w g T 45 _ (0,0) _ hg underlying45 rfl (cZ _ _)
theorem dw (n:Int) (v:Value)
  (hgd:Region.wanted o (yielded ops a.tmps)=true) (x:Operand) (ho:o.op = .load 45 x)
  (g:Nat) (hx:a.eval x = .pointer (some ⟨g,0,none⟩)) (T':TypeId) (hg:w.heap[g]?=some (.cells (tbA n v) T' (0,0)))
  (h:wpList prog ops Q rest (a.put o.dst (.agg (tbA n v))) w):wpList prog ops Q (o::rest) a w :=
 wpList_step fun K hK=>by
  rw[G_ hgd];exact wp_load_row _ x ho g hx _ (tbA n v) (0,0) _ hg underlying45 rfl (cZ _ _) (hK _ _ h)
theorem Gb:prog.built 45 []=some (tbA 0 ah):=by kernel_rfl
theorem pZ (hgd:Region.wanted o (yielded ops a.tmps)=true) (ho:o.op = .build 45 #[])
  (h:wpList prog ops Q rest (a.put o.dst (.agg (tbA 0 ah))) w):wpList prog ops Q (o::rest) a w :=
 wpList_step fun K hK=>by
  rw[G_ hgd];have hr:=run_build (P:=prog) w 45 #[] _ Gb;unfold Oper.wp execOp;simp only[ho,List.map_toArray,List.map_nil,hr,Sem.run_bind,Sem.run_pure,Result.andThen_ok];exact hK _ _ h
theorem Nb:(prog.info? 45).map (·.zero)=some (some (.agg (tbA 0 ah))):=by kernel_rfl
theorem rq (w:World):(zeroValue 45).run prog w = .ok (.agg (tbA 0 ah)) w:=by
 have h:=Nb;generalize tbA 0 ah=L at h ⊢
 cases hq:prog.info? 45 with
 | none=>rw[hq] at h;cases h
 | some i =>
   rw[hq] at h
   simp at h
   simp[zeroValue,typeInfo,hq,h]
theorem xJ (d:DO) (nx:Int) (tl:List K) (pol:List UInt8) (now:Int) (blob:List UInt8) (l:List SH) :
  (bD d=false∧jw d nx tl pol now blob l=zM 1)∨(bD d=true∧ulE blob l≠0∧jw d nx tl pol now blob l=zM (ulE blob l))∨(bD d=true∧ulE blob l=0∧dEq (ulB blob l).dom d.id=true∧jw d nx tl pol now blob l=zM 12) ∨
  (bD d=true∧ulE blob l=0∧dEq (ulB blob l).dom d.id=false∧dEq (ulB blob l).pol pol=false∧jw d nx tl pol now blob l=zM 10) ∨
  (bD d=true∧ulE blob l=0∧dEq (ulB blob l).dom d.id=false∧dEq (ulB blob l).pol pol=true∧jw d nx tl pol now blob l=gw now ⟨nx,tl,[],0⟩ (ulK blob l)):=by
 unfold jw
 cases h1:bD d
 ·simp
 ·by_cases h2:ulE blob l=0
  ·cases h3:dEq (ulB blob l).dom d.id
   ·cases h4:dEq (ulB blob l).pol pol
    ·simp[h2]
    ·simp[h2]
   ·simp[h2]
  ·simp[h2]
theorem Qa (blob:List UInt8) (l:List SH):cQ (ulK blob l):=by
 unfold ulK
 split
 ·unfold opK
  split
  ·unfold ctK
   exact zh (rB _ _)
  ·intro i hi;simp at hi
 ·intro i hi;simp at hi
theorem FG (blob:List UInt8) (l:List SH):(ulK blob l).length≤4096:=by
 unfold ulK
 split
 ·next h =>
  by_cases h0:opE (eU l) blob=0
  ·have h1:=(Fs (eU l) blob h0).1
   unfold ch at h1;simp only[T_] at h1;exact(iO h1.2).2.2
  ·unfold opK
   rw[H_ h0]
   simp
 ·simp
theorem Ru (nx:Int) (v:Value) (l:List K) (k:K) (w:World) (hv:RdK w v l) (hk:k.wf) (he:bL nx l k≠0) :
  Calls prog 61 #[.agg (tbA nx v),.agg (kc k)] w fun e w'=>e = .returned (.tuple #[.agg (tbA 0 ah),.int .i64 0,.int .i64 (bL nx l k)])∧Below w.heap.size w w':=Rz nx v l k w hv hk he
theorem Rx (nx:Int) (v:Value) (l:List K) (k:K) (w:World) (hv:RdK w v l) (hk:k.wf) (he:bL nx l k=0) (hp:k.par=0) (hl:l.length≤5000) :
  Calls prog 61 #[.agg (tbA nx v),.agg (kc k)] w fun e w'=>∃a c,e = .returned (.tuple #[.agg (tbA (nx+1) (.slice a (l++[aW k nx]).length c)),.int .i64 nx,.int .i64 0])∧RdK w' (.slice a (l++[aW k nx]).length c) (l++[aW k nx])∧Below w.heap.size w w'∧(∀b,a=some b→w.heap.size≤b.block):=by
 have hnx:IntKind.i64.wrap (nx+1)=nx+1:=by
  rw[IntKind.wrap_i64]
  rcases fb nx l k with⟨_,h⟩|⟨_,_,h⟩|⟨_,_,_,h⟩|⟨_,_,_,_,h⟩|⟨_,h1,_,h2,_⟩
  ·rw[h] at he;cases he
  ·rw[h] at he;cases he
  ·rw[h] at he;cases he
  ·rw[h] at he;cases he
  ·rw[hp] at h1;omega
 refine(Iu nx v l k w hv hk he hl hnx).mono ?_;rintro e w' ⟨v',rfl,ho,hb⟩;obtain⟨a,c,rfl,_,_,_⟩:=id ho.rd;refine⟨a,c,rfl,ho.rd,hb,fun b hb2 => ?_⟩;subst hb2
 rcases ho.2 with⟨h1,_⟩|⟨g0,cap,cur,h1,h2,_⟩
 ·cases h1
 ·cases h1
  exact h2
theorem wM {nx:Int} {l:List K} {k:K} (he:bL nx l k=0):l.length<4096:=by
 rcases fb nx l k with⟨_,h⟩|⟨_,_,h⟩|⟨_,_,_,h⟩|⟨_,_,_,_,h⟩|⟨_,_,h1,_,_⟩
 ·rw[h] at he;cases he
 ·rw[h] at he;cases he
 ·rw[h] at he;cases he
 ·rw[h] at he;cases he
 ·omega
attribute [local irreducible] Calls kc
theorem Ky (k:K) (g:Nat) (w:World) (T:TypeId) (hg:w.heap[g]?=some (.cells (kc k) T (0,0))):D3 58 #[.pointer (some ⟨g,0,none⟩)] (ip k) w:=fun W x hb=>by
 obtain⟨W0,hW0⟩:∃W0,W0=W.alloc (.cells (kc x) 86):=⟨_,rfl⟩;have HW:=O hW0
 have hb0:Below W.heap.size W W0:=by rw[hW0];exact(O_ _ _).alloc (A_ _) _
 have hk0:W0.heap[W.heap.size]?=some (.cells (kc x) 86 (0,0)):=by rw[hW0];exact heap_alloc_new _ _
 have hg0:=aa (aa hg hb) hb0
 have c1:W0.cell? ⟨W.heap.size,1,none⟩=some (.int .i64 x.ty):=by rw[e_ _ _ _ _ _ _ hk0];unfold kc;rfl
 have c2:W0.cell? ⟨W.heap.size,2,none⟩=some (.string ⟨x.val.toArray⟩):=by rw[e_ _ _ _ _ _ _ hk0];unfold kc;rfl
 have c3:W0.cell? ⟨g,1,none⟩=some (.int .i64 k.ty):=by rw[e_ _ _ _ _ _ _ hg0];unfold kc;rfl
 have c4:W0.cell? ⟨g,2,none⟩=some (.string ⟨k.val.toArray⟩):=by rw[e_ _ _ _ _ _ _ hg0];unfold kc;rfl
 have HB0:Hid (Below w.heap.size w W0):=O (hb.trans (hb0.mono hb.size));clear hb hg hW0 hb0 hk0 hg0
 show Calls prog 58 #[.agg (kc x),.pointer (some ⟨g,0,none⟩)] W _
 have hsr:ip k x=(x.ty == k.ty && x.val == k.val):=by
  rw[Bool.eq_iff_iff];simp[ip]
 rw[hsr];clear hsr
 by_cases h1:x.ty=k.ty
 ·have e1:(x.ty == k.ty)=true:=by rw[h1];simp
  rw[e1,Bool.true_and];clear h1
  go_enter func58,ntmps58
  go_upto_region 1 with fail
  rw[←HW.out]
  try dsimp only[Act.put]
  go_wp2;go_ret;exact⟨by simp[qY],HB0.out⟩
 ·have e1:(x.ty == k.ty)=false:=by rw[U_];exact h1
  rw[e1,Bool.false_and];clear h1
  go_enter func58,ntmps58
  go_upto_region 1 with fail
  rw[←HW.out]
  try dsimp only[Act.put]
  go_wp2;go_ret;exact⟨rfl,HB0.out⟩
end
end
end Go.Proofs.YtmfiaadjdbemnaaGreatDoor
