/- Contracts and lemmas. No condition. -/
import Derived.Test.YtmfiaadjdbemnaaGreatDoorSB26
set_option maxRecDepth 100000
set_option maxHeartbeats 8000000
set_option linter.unusedSimpArgs false
set_option linter.unusedVariables false
namespace Go.Proofs.YtmfiaadjdbemnaaGreatDoor
open Tryz
section
open Go.RowKit Go.Shelf
theorem oZ (w:World) (A B C D:Obj):((((w.alloc A).alloc B).alloc C).alloc D).heap[w.heap.size]?=some A:=by
 rw[((O_ (((w.alloc A).alloc B).alloc C).heap.size _).alloc (A_ _) D).block _ (by simp <;> omega)];exact oo _ _ _ _
theorem o9 (w:World) (A B C D:Obj):((((w.alloc A).alloc B).alloc C).alloc D).heap[w.heap.size+1]?=some B:=by
 rw[((O_ (((w.alloc A).alloc B).alloc C).heap.size _).alloc (A_ _) D).block _ (by simp <;> omega)];exact oq _ _ _ _
theorem pf (w:World) (A B C D:Obj):((((w.alloc A).alloc B).alloc C).alloc D).heap[w.heap.size+2]?=some C:=by
 rw[((O_ (((w.alloc A).alloc B).alloc C).heap.size _).alloc (A_ _) D).block _ (by simp <;> omega)];exact ot _ _ _ _
theorem pg (w:World) (A B C D:Obj):((((w.alloc A).alloc B).alloc C).alloc D).heap[w.heap.size+3]?=some D:=by
 have h:=heap_alloc_new (((w.alloc A).alloc B).alloc C) D
 simpa using h
theorem ph (w:World) (A B C D:Obj):Below w.heap.size w ((((w.alloc A).alloc B).alloc C).alloc D) :=
 ((((O_ _ _).alloc (A_ _) A).alloc (by simp) B).alloc (by simp;omega) C).alloc (by simp;omega) D
theorem fX {fn:Func} {p t q r:Tmp} {ty ty2:TypeId} (h:fn.results = #[.cell p ty,.tmp t,.cell q ty2,.tmp r]) (tmps:Array Value) (w:World) (g g2:Nat) (x y:Value)
  (hp:tmps.getD p undef = .pointer (some ⟨g,0,none⟩)) (hq:tmps.getD q undef = .pointer (some ⟨g2,0,none⟩)) (hld:(loadVar ty ⟨g,0,none⟩).run prog w = .ok x w) (hld2:(loadVar ty2 ⟨g2,0,none⟩).run prog w = .ok y w) :
  (results fn tmps).run prog w = .ok (.tuple #[x,tmps.getD t undef,y,tmps.getD r undef]) w:=by
 have hp':tmps[p]?.getD undef = .pointer (some ⟨g,0,none⟩):=by simpa using hp
 have hq':tmps[q]?.getD undef = .pointer (some ⟨g2,0,none⟩):=by simpa using hq
 simp[results,h,hp',hq',asAddr,hld,hld2]
structure FS (w:World) (d:DO) (s:List UInt8) (u:World):Prop where
 r0:u.heap[w.heap.size]?=some (.cells (doA d) 25 (0,0))
 r1:u.heap[w.heap.size+1]?=some (.cells (ag s) 30 (0,0))
 r2:u.heap[w.heap.size+2]?=some (.cells (doA zD) 25 (0,0))
 r3:u.heap[w.heap.size+3]?=some (.cells (ag []) 30 (0,0))
 b:Below w.heap.size w u
theorem FS.on {w u u':World} {d:DO} {s:List UInt8} (h:FS w d s u) (hb:Below u.heap.size u u'):FS w d s u' :=
 ⟨aa h.r0 hb,aa h.r1 hb,aa h.r2 hb,aa h.r3 hb,h.b.trans (hb.mono h.b.size)⟩
theorem FS.set0 {w u u':World} {d d':DO} {s:List UInt8} (h:FS w d s u) (hg:u'.heap[w.heap.size]?=some (.cells (doA d') 25 (0,0))) (ho:∀k,k≠w.heap.size→u'.heap[k]? = u.heap[k]?) (hb:Below w.heap.size u u'):FS w d' s u' :=
 ⟨hg,(ho _ (by omega)).trans h.r1,(ho _ (by omega)).trans h.r2,(ho _ (by omega)).trans h.r3,h.b.trans hb⟩
theorem FS.set1 {w u u':World} {d:DO} {s s':List UInt8} (h:FS w d s u) (hg:u'.heap[w.heap.size+1]?=some (.cells (ag s') 30 (0,0))) (ho:∀k,k≠w.heap.size+1→u'.heap[k]? = u.heap[k]?) (hb:∀B,B≤w.heap.size+1→Below B u u'):FS w d s' u' :=
 ⟨(ho _ (by omega)).trans h.r0,hg,(ho _ (by omega)).trans h.r2,(ho _ (by omega)).trans h.r3,h.b.trans (hb _ (by omega))⟩
theorem Db (w:World) (d:DO) (s:List UInt8):FS w d s ((((w.alloc (.cells (doA d) 25)).alloc (.cells (ag s) 30)).alloc (.cells (doA zD) 25)).alloc (.cells (ag []) 30)) :=
 ⟨oZ _ _ _ _ _,o9 _ _ _ _ _,pf _ _ _ _ _,pg _ _ _ _ _,ph _ _ _ _ _⟩
def tX (w:World) (chg:Value) (q:Nat):Prop:=∃a cap,chg = .slice a q cap∧q≤1∧(0<q→∃g,a=some ⟨g,0,none⟩∧w.cell? ⟨g,0,none⟩=some (.func (.func 38) #[] #[]))
theorem tX.on {w w':World} {chg:Value} {q:Nat} (h:tX w chg q) (hb:Below w.heap.size w w'):tX w' chg q:=by
 obtain⟨a,cap,e,h1,h2⟩:=h;refine⟨a,cap,e,h1,fun h0 => ?_⟩;obtain⟨g,e2,h3⟩:=h2 h0;exact⟨g,e2,aQ hb h3⟩
theorem ap.same {α:Type} {E:El α} {w w':World} {ai:Nat} {v:Value} {l:List α} (h:ap E w ai v l) (ho:∀k,ai≤k→w'.heap[k]? = w.heap[k]?):ap E w' ai v l:=by
 refine⟨h.1,?_⟩
 rcases h.2 with hn|⟨g,cap,cur,rfl,hg,hgg,r⟩
 ·exact .inl hn
 ·exact .inr ⟨g,cap,cur,rfl,hg,by rw[ho g hg];exact hgg,r⟩
attribute [local irreducible] Calls doA
theorem Ll (d:DO) (g:Nat) (u:World) (hg:u.heap[g]?=some (.cells (doA d) 25 (0,0))) (hwr:IntKind.i64.wrap (d.ep+1)=d.ep+1) :
  Calls prog 38 #[.pointer (some ⟨g,0,none⟩)] u fun e u'=>e = .returned (.tuple #[])∧u'.heap[g]?=some (.cells (doA { d with ep:=d.ep+1 }) 25 (0,0))∧(∀k,k≠g→u'.heap[k]? = u.heap[k]?)∧∀B,B≤g→Below B u u':=by
 have c17:u.cell? ⟨g,17,none⟩=some (.int .i64 d.ep):=by rw[e_ _ _ _ _ _ _ hg];exact gI d
 have f17:=frozen_of_row _ _ 17 _ _ hg;have HST:Hid (u.setCell ⟨g,17,none⟩ (.int .i64 (d.ep+1))=u.setRow g (doA { d with ep:=d.ep+1 })):=O (by rw[au _ _ _ _ _ _ _ hg,wZ]);have HG:=O hg;clear hg
 go_enter func38,ntmps38
 go_wp2;rw[HST.out];refine bodyPost_end (results_none rfl _ _ _) rfl ?_;exact⟨rfl,setRow_heap _ _ _ _ _ _ HG.out,fun k hk=>aj _ _ _ _ hk,fun B hB=>aK hB⟩
theorem Og (d:DO) (s:List UInt8) (m n q:Nat) (chg:Value) (w:World) (hk:KAt w) (hs:s.length≤900000) (h3:n≤16) (h4:m+1≤n) (hch:tX w chg q) (hwr:IntKind.i64.wrap (d.ep+1)=d.ep+1∨q=0) :
  Calls prog 34 #[.agg (doA d),.agg (ag s),.int .i64 ((m:Int)+1),.int .i64 n,chg] w fun e w'=>∃v,e = .returned (.tuple #[.agg (doA ⟨d.id,nxV s,d.ep+q,d.bk⟩),v,.agg (ag (nxS (nxS s))),.int .i64 0])∧ap eH w' w.heap.size v (fdL s m n)∧Below w.heap.size w w':=by
 have hzd:=iy;have hzr:=fi;obtain⟨W0,hW0⟩:∃W0,W0=(((w.alloc (.cells (doA d) 25)).alloc (.cells (ag s) 30)).alloc (.cells (doA zD) 25)).alloc (.cells (ag []) 30):=⟨_,rfl⟩;have HW:=O hW0;have HF0:Hid (FS w d s W0):=O (by rw[hW0];exact Db w d s);have HK:=O (fun (u:World) (h:Below w.heap.size w u)=>hk.on h);have HN:=O (fun (t:List UInt8) (ht:t.length≤1000000) (u:World) (h:Below w.heap.size w u)=>tC t u (hk.on h) ht);have HSP:=O (fun (u:World) (h:Below w.heap.size w u)=>PV (nxV s) (nxV (nxS s)) m n u (hk.on h) (by rw[cL];decide) (by rw[cL];decide) h3 h4 (cL _));rw[cL] at HSP;have HFL:Hid (dh (ofP 3 [nxV s,nxV (nxS s)]) (nxV s) (ez (nxV (nxS s)) (32*m)) m n=fdL s m n):=O rfl;have HS:=O hs;have HSL:=O (im s);have HCH:=O hch;have HWR:=O hwr;obtain⟨ca,cc,rfl,hq1,_⟩:=hch
 have iq:(q:Int)≤1:=by omega
 clear hW0 hk hs h3 h4 hwr hq1
 go_enter func34,ntmps34
 go_upto_region 1 with fail
 rw[←HW.out]
 try dsimp only[Act.put]
 go_upto_region 2 with (first
  |(refine jl s rfl (.tmp 6) rfl (w.heap.size+1) rfl _ HF0.out.r1 ?_)
  |(go_at_call 33;refine(HN.out s (by have := HS.out;omega) _ HF0.out.b).mono ?_;rintro e x1 ⟨rfl,hx1⟩;have HX1:=O (HF0.out.on hx1);clear hx1)
  |(refine aM (T:=30) (ag (nxS s)) (bu _) rfl (.tmp 6) (.tmp 24) rfl (w.heap.size+1) (ag s) rfl rfl (aS _) (bM _ _) HX1.out.r1 ?_;intro W1 hge hoe hbe;have HF1:=O (HX1.out.set1 hge hoe hbe);clear hge hoe hbe))
 go_upto_region 3 with (first
  |(refine jl (nxS s) rfl (.tmp 6) rfl (w.heap.size+1) rfl _ HF1.out.r1 ?_)
  |(go_at_call 33;refine(HN.out (nxS s) (by rw[HSL.out];decide) _ HF1.out.b).mono ?_;rintro e x2 ⟨rfl,hx2⟩;have HX2:=O (HF1.out.on hx2);clear hx2)
  |(refine aM (T:=30) (ag (nxS (nxS s))) (bu _) rfl (.tmp 6) (.tmp 29) rfl (w.heap.size+1) (ag (nxS s)) rfl rfl (aS _) (bM _ _) HX2.out.r1 ?_;intro W2 hge hoe hbe;have HF2:=O (HX2.out.set1 hge hoe hbe);clear hge hoe hbe))
 clear HF0 HX1 HF1 HX2
 go_upto_region 4 with (go_at_call 65;refine(HSP.out _ HF2.out.b).mono ?_;rintro e W3 ⟨v3,rfl,ho3,hb3⟩;have HO3:=O (by rw[HFL.out] at ho3;exact ho3);have HB3:=O hb3;have HF3:=O (HF2.out.on hb3);clear ho3 hb3)
 have HG2:Hid (w.heap.size+3<W2.heap.size):=O (Q_.1 HF2.out.r3).1;obtain⟨fl,hfl⟩:∃fl,fdL s m n=fl:=⟨_,rfl⟩;obtain⟨kv,hkv⟩:∃kv,nxV s=kv:=⟨_,rfl⟩;obtain⟨s2,hs2⟩:∃s2,nxS (nxS s)=s2:=⟨_,rfl⟩;rw[hfl] at HO3;rw[hs2] at HF2 HF3;rw[hkv,hs2];have HFLE:=O hfl;have HKVE:=O hkv;have HS2E:=O hs2;clear hfl hkv hs2 HSP HFL HN
 have c16:W3.cell? ⟨w.heap.size,16,none⟩=some (.string ⟨d.key.toArray⟩):=by rw[e_ _ _ _ _ _ _ HF3.out.r0];exact cK d
 have f16:=frozen_of_row _ _ 16 _ _ HF3.out.r0;have HST:Hid (W3.setCell ⟨w.heap.size,16,none⟩ (.string ⟨kv.toArray⟩)=W3.setRow w.heap.size (doA { d with key:=kv })):=O (by rw[au _ _ _ _ _ _ _ HF3.out.r0,wY]);have HF4:Hid (FS w { d with key:=kv } s2 (W3.setRow w.heap.size (doA { d with key:=kv }))):=O (HF3.out.set0 (setRow_heap _ _ _ _ _ _ HF3.out.r0) (fun k hk=>aj _ _ _ _ hk) (aK (A_ _)));have HO4:Hid (ap eH (W3.setRow w.heap.size (doA { d with key:=kv })) W2.heap.size v3 fl):=O (HO3.out.same (fun k hk=>aj _ _ _ _ (by have := HG2.out;omega)))
 go_upto_region 7 with fail
 simp only[HST.out];generalize W3.setRow w.heap.size (doA { d with key:=kv })=W4 at HF4 HO4 ⊢;clear HF3 HO3 HST HB3 c16 f16;go_wp2
 go_loopw [47] (fun i wr=>∃k:Nat,k≤q∧i = .int .i64 k∧Hid (FS w ⟨d.id,kv,d.ep+k,d.bk⟩ s2 wr)∧Hid (ap eH wr W2.heap.size v3 fl)) (fun i _=>q-(intOf i).toNat)
 case atStart=>exact⟨0,N_ _,rfl,O (by have h:=HF4.out;simpa using h),HO4⟩
 case round =>
  obtain⟨k,hk,rfl,hf,ho⟩:=hrel
  by_cases hlt:k<q
  ·have k1:(k:Int)<q:=by omega
   have k0:k=0:=by omega
   have HWQ:Hid (IntKind.i64.wrap (d.ep+k+1)=d.ep+k+1):=O (by rcases HWR.out with h|h;(rw[k0];simpa using h);omega);have HKQ:=O hlt;have hch:=HCH.out.on hf.out.b;obtain⟨a9,c9,e9,_,hg9⟩:=hch
   cases e9
   obtain⟨g9,rfl,hcell⟩:=hg9 (by omega)
   have hcell:wr.cell? ⟨g9,k,none⟩=some (.func (.func 38) #[] #[]):=by rw[k0];exact hcell
   have HR1:=O (Ll ⟨d.id,kv,d.ep+k,d.bk⟩ w.heap.size wr hf.out.r0 HWQ.out);clear hlt hk k0
   go_wp2_with (go_at_call 38;refine HR1.out.mono ?_;rintro e W5 ⟨rfl,hge,hoe,hbe⟩;have HF5:Hid (FS w ⟨d.id,kv,d.ep+(k+1:Nat),d.bk⟩ s2 W5):=O (hf.out.set0 (by rw[show d.ep+((k+1:Nat):Int)=d.ep+k+1 by omega];exact hge) hoe (hbe _ (A_ _)));have HO5:=O (ho.out.same (fun j hj=>hoe j (by have := HG2.out;omega)));clear hge hoe hbe)
   go_roundw
   case rel=>exact⟨k+1,HKQ.out,by go_num,HF5,HO5⟩
   case measure=>have := HKQ.out;simp[intOf];omega
  ·have he:k=q:=by omega
   have k1:¬(k:Int)<q:=by omega
   rw[he] at hf;clear hlt hk he
   go_upto_region 12 with fail
   refine sR (fun y=>y.heap[w.heap.size]?=some (.cells (doA ⟨d.id,kv,d.ep+q,d.bk⟩) 25 (0,0))∧y.heap[w.heap.size+1]?=some (.cells (ag s2) 30 (0,0))) 3 ?h1 ?h2 ?h3 ?h4 ?h5
   case h1=>intro c a d v w h;cases d <;> exact h
   case h2=>kernel_rfl
   case h3=>kernel_rfl
   case h4=>exact⟨hf.out.r0,hf.out.r1⟩
   case h5 =>
    simp only[F_,c_,J_,L_];refine⟨_,my (doA ⟨d.id,kv,d.ep+q,d.bk⟩) w.heap.size 25 (.tmp 5) rfl rfl rfl (fun y hy=>gl y _ _ _ hy.1),?_⟩;simp only[Act.put,B_,C_,D_];refine⟨_,aR v3 rfl (fun y hy=>rfl),?_⟩;simp only[Act.put,B_,C_,D_];refine⟨_,my (ag s2) (w.heap.size+1) 30 (.tmp 6) rfl rfl rfl (fun y hy=>fD y _ _ _ hy.2),?_⟩;simp only[Act.put,B_,C_,D_];have HS0:Hid (FS w ⟨d.id,kv,d.ep+q,d.bk⟩ s2 wr.drew):=O ⟨hf.out.r0,hf.out.r1,hf.out.r2,hf.out.r3,hf.out.b.drew⟩;have HO0:Hid (ap eH wr.drew W2.heap.size v3 fl):=O (ho.out.same (fun _ _=>rfl));generalize wr.drew=w6 at HS0 HO0;clear hf ho;intro Q1 HQ1;refine aM (T:=25) (doA ⟨d.id,kv,d.ep+q,d.bk⟩) (b8 _) rfl (.tmp 10) (.tmp 54) rfl (w.heap.size+2) (doA zD) rfl rfl (cr _) (dE _ _) HS0.out.r2 ?_;intro w7 hge7 hoe7 hbe7;refine HQ1.out _ _ ⟨(hoe7 _ (by omega)).trans HS0.out.r0,(hoe7 _ (by omega)).trans HS0.out.r1⟩ ?_;clear HQ1;simp only[Act.put,B_,C_,D_];intro Q2 HQ2;go_wp2;refine HQ2.out _ _ ⟨(hoe7 _ (by omega)).trans HS0.out.r0,(hoe7 _ (by omega)).trans HS0.out.r1⟩ ?_;clear HQ2;intro Q3 HQ3;refine aM (T:=30) (ag s2) (bu _) rfl (.tmp 12) (.tmp 56) rfl (w.heap.size+3) (ag []) rfl rfl (aS _) (bM _ _) ((hoe7 _ (by omega)).trans HS0.out.r3) ?_;intro w8 hge8 hoe8 hbe8;refine HQ3.out _ _ ⟨(hoe8 _ (by omega)).trans ((hoe7 _ (by omega)).trans HS0.out.r0),(hoe8 _ (by omega)).trans ((hoe7 _ (by omega)).trans HS0.out.r1)⟩ ?_;clear HQ3;simp only[Act.put,B_,C_,D_];intro Q4 HQ4;go_wp2;refine HQ4.out _ _ ⟨(hoe8 _ (by omega)).trans ((hoe7 _ (by omega)).trans HS0.out.r0),(hoe8 _ (by omega)).trans ((hoe7 _ (by omega)).trans HS0.out.r1)⟩ ?_;clear HQ4
    have HEND:Hid (w8.heap[w.heap.size+2]?=some (.cells (doA ⟨d.id,kv,d.ep+q,d.bk⟩) 25 (0,0))∧w8.heap[w.heap.size+3]?=some (.cells (ag s2) 30 (0,0))∧ap eH w8 W2.heap.size v3 fl∧Below w.heap.size w w8):=O
     ⟨(hoe8 _ (by omega)).trans hge7,hge8,(HO0.out.same (fun k hk=>hoe7 k (by have := HG2.out;omega))).same (fun k hk=>hoe8 k (by have := HG2.out;omega)),(HS0.out.b.trans (hbe7 _ (by omega))).trans (hbe8 _ (by omega))⟩
    clear hge7 hoe7 hbe7 hge8 hoe8 hbe8 HS0 HO0;refine el ?_;go_wp2;refine g_ (fX rfl _ _ (w.heap.size+2) (w.heap.size+3) _ _ rfl rfl (gl _ _ _ _ HEND.out.1) (fD _ _ _ _ HEND.out.2.1)) rfl ?_;exact⟨v3,by rw[HKVE.out,HS2E.out];rfl,by rw[HFLE.out];exact HEND.out.2.2.1.mono (by have := HG2.out;omega),HEND.out.2.2.2⟩
end
section
open Go.RowKit Go.Shelf
theorem vU (kv sv:List UInt8) (need n:Int) (h1:kv.length=32) (h2:sv.length=32):od kv need n sv=kO need n:=by
 unfold od kO;rw[h1,h2]
 simp
attribute [local irreducible] Calls doA
theorem JT (d:DO) (s:List UInt8) (need n:Int) (chg:Value) (w:World) (hk:KAt w) (hs:s.length≤900000) (hok:kO need n=false) (hch:∃a q c,chg = .slice a q c) :
  Calls prog 34 #[.agg (doA d),.agg (ag s),.int .i64 need,.int .i64 n,chg] w fun e w'=>e = .returned (.tuple #[.agg (doA zD),.slice none 0 0,.agg (ag []),.int .i64 1])∧Below w.heap.size w w':=by
 have hzd:=iy;have hzr:=fi;obtain⟨W0,hW0⟩:∃W0,W0=(((w.alloc (.cells (doA d) 25)).alloc (.cells (ag s) 30)).alloc (.cells (doA zD) 25)).alloc (.cells (ag []) 30):=⟨_,rfl⟩;have HW:=O hW0;have HF0:Hid (FS w d s W0):=O (by rw[hW0];exact Db w d s);have HN:=O (fun (t:List UInt8) (ht:t.length≤1000000) (u:World) (h:Below w.heap.size w u)=>tC t u (hk.on h) ht);have HSP:=O (fun (u:World)=>L2 (nxV s) (nxV (nxS s)) need n u (by rw[vU _ _ _ _ (cL _) (cL _)];exact hok));have HS:=O hs;have HSL:=O (im s);obtain⟨ca,cq,cc,rfl⟩:=hch;clear hW0 hk hs hok
 go_enter func34,ntmps34
 go_upto_region 1 with fail
 rw[←HW.out]
 try dsimp only[Act.put]
 go_upto_region 2 with (first
  |(refine jl s rfl (.tmp 6) rfl (w.heap.size+1) rfl _ HF0.out.r1 ?_)
  |(go_at_call 33;refine(HN.out s (by have := HS.out;omega) _ HF0.out.b).mono ?_;rintro e x1 ⟨rfl,hx1⟩;have HX1:=O (HF0.out.on hx1);clear hx1)
  |(refine aM (T:=30) (ag (nxS s)) (bu _) rfl (.tmp 6) (.tmp 24) rfl (w.heap.size+1) (ag s) rfl rfl (aS _) (bM _ _) HX1.out.r1 ?_;intro W1 hge hoe hbe;have HF1:=O (HX1.out.set1 hge hoe hbe);clear hge hoe hbe))
 go_upto_region 3 with (first
  |(refine jl (nxS s) rfl (.tmp 6) rfl (w.heap.size+1) rfl _ HF1.out.r1 ?_)
  |(go_at_call 33;refine(HN.out (nxS s) (by rw[HSL.out];decide) _ HF1.out.b).mono ?_;rintro e x2 ⟨rfl,hx2⟩;have HX2:=O (HF1.out.on hx2);clear hx2)
  |(refine aM (T:=30) (ag (nxS (nxS s))) (bu _) rfl (.tmp 6) (.tmp 29) rfl (w.heap.size+1) (ag (nxS s)) rfl rfl (aS _) (bM _ _) HX2.out.r1 ?_;intro W2 hge hoe hbe;have HF2:=O (HX2.out.set1 hge hoe hbe);clear hge hoe hbe))
 clear HF0 HX1 HF1 HX2
 go_upto_region 4 with (go_at_call 65;refine(HSP.out _).mono ?_;rintro e W3 ⟨rfl,hb3⟩;have HF3:=O (HF2.out.on hb3);clear hb3)
 clear HSP HN HF2;obtain⟨s2,hs2⟩:∃s2,nxS (nxS s)=s2:=⟨_,rfl⟩;rw[hs2] at HF3;rw[hs2];clear hs2
 go_wp2_with (first
  |(refine lF rfl rfl ?_)
  |(refine tf rfl rfl ?_)
  |(refine aM (T:=25) (doA zD) (b8 _) rfl (.tmp 10) (.tmp 40) rfl (w.heap.size+2) (doA zD) rfl rfl (cr _) (dE _ _) HF3.out.r2 ?_;intro w7 hge7 hoe7 hbe7;have HE7:Hid (w7.heap[w.heap.size+2]?=some (.cells (doA zD) 25 (0,0))∧w7.heap[w.heap.size+3]?=some (.cells (ag []) 30 (0,0))∧Below w.heap.size w w7):=(O ⟨hge7,(hoe7 _ (by omega)).trans HF3.out.r3,HF3.out.b.trans (hbe7 _ (by omega))⟩);clear hge7 hoe7 hbe7)
  |(refine aM (T:=30) (ag []) (bu _) rfl (.tmp 12) (.tmp 41) rfl (w.heap.size+3) (ag []) rfl rfl (aS _) (bM _ _) HE7.out.2.1 ?_;intro w8 hge8 hoe8 hbe8;have HE8:Hid (w8.heap[w.heap.size+2]?=some (.cells (doA zD) 25 (0,0))∧w8.heap[w.heap.size+3]?=some (.cells (ag []) 30 (0,0))∧Below w.heap.size w w8):=(O ⟨(hoe8 _ (by omega)).trans HE7.out.1,hge8,HE7.out.2.2.trans (hbe8 _ (by omega))⟩);clear hge8 hoe8 hbe8))
 refine g_ (fX rfl _ _ (w.heap.size+2) (w.heap.size+3) _ _ rfl rfl (gl _ _ _ _ HE8.out.1) (fD _ _ _ _ HE8.out.2.1)) rfl ?_;exact⟨rfl,HE8.out.2.2⟩
theorem EI (d:DO) (s:List UInt8) (need n:Int) (q:Nat) (chg:Value) (w:World) (hk:KAt w) (hs:s.length≤900000) (hch:tX w chg q) (hwr:IntKind.i64.wrap (d.ep+1)=d.ep+1∨q=0) :
  Calls prog 34 #[.agg (doA d),.agg (ag s),.int .i64 need,.int .i64 n,chg] w fun e w'=>∃v,e = .returned (.tuple #[.agg (doA (fB d s need n q).d),v,.agg (ag (fB d s need n q).r),.int .i64 (fB d s need n q).e])∧ap eH w' w.heap.size v (fB d s need n q).l∧Below w.heap.size w w':=by
 unfold fB
 cases hok:kO need n with
 | true =>
   rw[G_ rfl];have h:=hok;unfold kO at h;simp only[T_,decide_eq_true_eq] at h;have hf:=Og d s (need-1).toNat n.toNat q chg w hk hs (by omega) (by omega) hch hwr;rw[show (((need-1).toNat:Nat):Int)+1=need by omega,show ((n.toNat:Nat):Int)=n by omega] at hf;exact hf
 | false =>
   rw[H_ (by simp)];obtain⟨a,c,rfl,_,_⟩:=id hch;refine(JT d s need n _ w hk hs hok ⟨a,q,c,rfl⟩).mono ?_;rintro e w' ⟨rfl,hb⟩;exact⟨_,rfl,ap.nil _ _,hb⟩
end
section
open Go.RowKit Go.Shelf
theorem vH (d:DO) (s:List UInt8) (need n:Int):(bD d=false∧mG d s need n=zF 1)∨(bD d=true∧d.ep=2147483647∧mG d s need n=zF 2)∨(bD d=true∧d.ep≠2147483647∧mG d s need n=fB d s need n 1):=by
 unfold mG
 cases h:bD d
 ·simp
 ·by_cases h2:d.ep=2147483647
  ·simp[h2]
  ·simp[h2]
theorem jG {d:DO} (h:bD d=true):d.key.length=32∧0≤d.ep∧d.ep≤2147483647∧0≤d.bk∧d.bk≤2147483647:=by
 unfold bD at h;simp only[T_,decide_eq_true_eq] at h
 omega
attribute [local irreducible] Calls doA
theorem Fm (d:DO) (s:List UInt8) (need n:Int) (w:World) (hk:KAt w) (hs:s.length≤900000) :
  Calls prog 12 #[.agg (doA d),.agg (ag s),.int .i64 need,.int .i64 n] w fun e w'=>∃v,e = .returned (.tuple #[.agg (doA (mG d s need n).d),v,.agg (ag (mG d s need n).r),.int .i64 (mG d s need n).e])∧ap eH w' w.heap.size v (mG d s need n).l∧Below w.heap.size w w':=by
 have hzd:=iy;have hzr:=fi;obtain⟨W0,hW0⟩:∃W0,W0=(((w.alloc (.cells (doA d) 25)).alloc (.cells (ag s) 30)).alloc (.cells (doA zD) 25)).alloc (.cells (ag []) 30):=⟨_,rfl⟩;have HW:=O hW0;have HF0:Hid (FS w d s W0):=O (by rw[hW0];exact Db w d s);have HV:=O (fun (u:World)=>ly d u);clear hW0
 rcases vH d s need n with⟨hv,hr⟩|⟨hv,he,hr⟩|⟨hv,he,hr⟩
 ·rw[hr]
  rw[hv] at HV;clear hk hs hr hv
  go_enter func12,ntmps12
  go_upto_region 1 with fail
  rw[←HW.out]
  try dsimp only[Act.put]
  go_wp2_with (first
   |(refine cz d rfl (.tmp 4) rfl w.heap.size rfl _ HF0.out.r0 ?_)
   |(go_at_call 15;refine(HV.out _).mono ?_;rintro e x1 ⟨rfl,hx1⟩;have HF3:=O (HF0.out.on hx1);clear hx1)
   |(refine lF rfl rfl ?_)
   |(refine tf rfl rfl ?_)
   |(refine aM (T:=25) (doA zD) (b8 _) rfl (.tmp 8) (.tmp 16) rfl (w.heap.size+2) (doA zD) rfl rfl (cr _) (dE _ _) HF3.out.r2 ?_;intro w7 hge7 hoe7 hbe7;have HE7:Hid (w7.heap[w.heap.size+2]?=some (.cells (doA zD) 25 (0,0))∧w7.heap[w.heap.size+3]?=some (.cells (ag []) 30 (0,0))∧Below w.heap.size w w7):=(O ⟨hge7,(hoe7 _ (by omega)).trans HF3.out.r3,HF3.out.b.trans (hbe7 _ (by omega))⟩);clear hge7 hoe7 hbe7)
   |(refine aM (T:=30) (ag []) (bu _) rfl (.tmp 10) (.tmp 17) rfl (w.heap.size+3) (ag []) rfl rfl (aS _) (bM _ _) HE7.out.2.1 ?_;intro w8 hge8 hoe8 hbe8;have HE8:Hid (w8.heap[w.heap.size+2]?=some (.cells (doA zD) 25 (0,0))∧w8.heap[w.heap.size+3]?=some (.cells (ag []) 30 (0,0))∧Below w.heap.size w w8):=(O ⟨(hoe8 _ (by omega)).trans HE7.out.1,hge8,HE7.out.2.2.trans (hbe8 _ (by omega))⟩);clear hge8 hoe8 hbe8))
  refine g_ (fX rfl _ _ (w.heap.size+2) (w.heap.size+3) _ _ rfl rfl (gl _ _ _ _ HE8.out.1) (fD _ _ _ _ HE8.out.2.1)) rfl ?_;exact⟨_,rfl,ap.nil _ _,HE8.out.2.2⟩
 ·rw[hr]
  rw[hv] at HV
  have e1:(d.ep == 2147483647)=true:=by rw[beq_iff_eq];exact he
  clear hk hs hr hv he
  go_enter func12,ntmps12
  go_upto_region 1 with fail
  rw[←HW.out]
  try dsimp only[Act.put]
  go_wp2_with (first
   |(refine cz d rfl (.tmp 4) rfl w.heap.size rfl _ HF0.out.r0 ?_)
   |(go_at_call 15;refine(HV.out _).mono ?_;rintro e x1 ⟨rfl,hx1⟩;have HF3:=O (HF0.out.on hx1);have c17:x1.cell? ⟨w.heap.size,17,none⟩=some (.int .i64 d.ep):=(by rw[e_ _ _ _ _ _ _ HF3.out.r0];exact gI d);clear hx1)
   |(refine lF rfl rfl ?_)
   |(refine tf rfl rfl ?_)
   |(refine aM (T:=25) (doA zD) (b8 _) rfl (.tmp 8) (.tmp 22) rfl (w.heap.size+2) (doA zD) rfl rfl (cr _) (dE _ _) HF3.out.r2 ?_;intro w7 hge7 hoe7 hbe7;have HE7:Hid (w7.heap[w.heap.size+2]?=some (.cells (doA zD) 25 (0,0))∧w7.heap[w.heap.size+3]?=some (.cells (ag []) 30 (0,0))∧Below w.heap.size w w7):=(O ⟨hge7,(hoe7 _ (by omega)).trans HF3.out.r3,HF3.out.b.trans (hbe7 _ (by omega))⟩);clear hge7 hoe7 hbe7)
   |(refine aM (T:=30) (ag []) (bu _) rfl (.tmp 10) (.tmp 23) rfl (w.heap.size+3) (ag []) rfl rfl (aS _) (bM _ _) HE7.out.2.1 ?_;intro w8 hge8 hoe8 hbe8;have HE8:Hid (w8.heap[w.heap.size+2]?=some (.cells (doA zD) 25 (0,0))∧w8.heap[w.heap.size+3]?=some (.cells (ag []) 30 (0,0))∧Below w.heap.size w w8):=(O ⟨(hoe8 _ (by omega)).trans HE7.out.1,hge8,HE7.out.2.2.trans (hbe8 _ (by omega))⟩);clear hge8 hoe8 hbe8))
  refine g_ (fX rfl _ _ (w.heap.size+2) (w.heap.size+3) _ _ rfl rfl (gl _ _ _ _ HE8.out.1) (fD _ _ _ _ HE8.out.2.1)) rfl ?_;exact⟨_,rfl,ap.nil _ _,HE8.out.2.2⟩
 ·rw[hr]
  rw[hv] at HV
  have e1:(d.ep == 2147483647)=false:=by rw[U_];exact he
  have hwr:IntKind.i64.wrap (d.ep+1)=d.ep+1:=by have := jG hv;rw[IntKind.wrap_i64];omega
  have HFD:Hid (∀(u:World) (chg:Value),Below w.heap.size w u→tX u chg 1→Calls prog 34 #[.agg (doA d),.agg (ag s),.int .i64 need,.int .i64 n,chg] u fun e w'=>∃v,e = .returned (.tuple #[.agg (doA (fB d s need n 1).d),v,.agg (ag (fB d s need n 1).r),.int .i64 (fB d s need n 1).e])∧ap eH w' u.heap.size v (fB d s need n 1).l∧Below u.heap.size u w') :=
   O (fun u chg hb hc=>EI d s need n 1 chg u (hk.on hb) hs hc (.inl hwr))
  obtain⟨fd,hfd⟩:∃fd,fB d s need n 1=fd:=⟨_,rfl⟩;rw[hfd] at HFD ⊢;clear hk hs hr hv he hwr hfd
  go_enter func12,ntmps12
  go_upto_region 1 with fail
  rw[←HW.out]
  try dsimp only[Act.put]
  go_wp2_with (first
   |(refine cz d rfl (.tmp 4) rfl w.heap.size rfl _ HF0.out.r0 ?_)
   |(go_at_call 15;refine(HV.out _).mono ?_;rintro e x1 ⟨rfl,hx1⟩;have HF3:=O (HF0.out.on hx1);have c17:x1.cell? ⟨w.heap.size,17,none⟩=some (.int .i64 d.ep):=(by rw[e_ _ _ _ _ _ _ HF3.out.r0];exact gI d);clear hx1 HF0)
   |(refine cz d rfl (.tmp 4) rfl w.heap.size rfl _ HF3.out.r0 ?_)
   |(refine jl s rfl (.tmp 5) rfl (w.heap.size+1) rfl _ HF3.out.r1 ?_)
   |(go_at_call 34;have HF4:=O (HF3.out.on ((O_ _ _).alloc (A_ _) (.cells #[.func (.func 38) #[] #[]] 99)));have hch4:tX (x1.alloc (.cells #[.func (.func 38) #[] #[]] 99)) (.slice (some ⟨x1.heap.size,0,none⟩) 1 1) 1:=⟨_,_,rfl,A_ _,fun _=>⟨_,rfl,e_ _ _ 0 _ _ _ (heap_alloc_new _ _)⟩⟩;refine(HFD.out _ _ HF4.out.b hch4).mono ?_;clear hch4;rintro e W5 ⟨v5,rfl,ho5,hb5⟩;have HG5:Hid (w.heap.size+3<(x1.alloc (.cells #[.func (.func 38) #[] #[]] 99)).heap.size):=O (Q_.1 HF4.out.r3).1;have HF5:=O (HF4.out.on hb5);have HO5:=O ho5;clear ho5 hb5 HF4)
   |(refine aM (T:=25) (doA fd.d) (b8 _) rfl (.tmp 8) (.tmp 30) rfl (w.heap.size+2) (doA zD) rfl rfl (cr _) (dE _ _) HF5.out.r2 ?_;intro w7 hge7 hoe7 hbe7;have HE7:Hid (w7.heap[w.heap.size+2]?=some (.cells (doA fd.d) 25 (0,0))∧w7.heap[w.heap.size+3]?=some (.cells (ag []) 30 (0,0))∧Below w.heap.size w w7∧ap eH w7 w.heap.size v5 fd.l):=(O ⟨hge7,(hoe7 _ (by omega)).trans HF5.out.r3,HF5.out.b.trans (hbe7 _ (by omega)),(HO5.out.same (fun j hj=>hoe7 j (by have := HG5.out;omega))).mono (by have := HG5.out;omega)⟩);have HO7:=O (HO5.out.same (fun j hj=>hoe7 j (by have := HG5.out;omega)));clear hge7 hoe7 hbe7)
   |(refine aM (T:=30) (ag fd.r) (bu _) rfl (.tmp 10) (.tmp 32) rfl (w.heap.size+3) (ag []) rfl rfl (aS _) (bM _ _) HE7.out.2.1 ?_;intro w8 hge8 hoe8 hbe8;have HE8:Hid (w8.heap[w.heap.size+2]?=some (.cells (doA fd.d) 25 (0,0))∧w8.heap[w.heap.size+3]?=some (.cells (ag fd.r) 30 (0,0))∧Below w.heap.size w w8∧ap eH w8 w.heap.size v5 fd.l):=(O ⟨(hoe8 _ (by omega)).trans HE7.out.1,hge8,HE7.out.2.2.1.trans (hbe8 _ (by omega)),(HO7.out.same (fun j hj=>hoe8 j (by have := HG5.out;omega))).mono (by have := HG5.out;omega)⟩);clear hge8 hoe8 hbe8))
  refine g_ (fX rfl _ _ (w.heap.size+2) (w.heap.size+3) _ _ rfl rfl (gl _ _ _ _ HE8.out.1) (fD _ _ _ _ HE8.out.2.1)) rfl ?_;exact⟨_,rfl,HE8.out.2.2.2,HE8.out.2.2.1⟩
end
section
open Go.RowKit Go.Shelf
structure NS (w:World) (s:List UInt8) (u:World):Prop where
 r0:u.heap[w.heap.size]?=some (.cells (ag s) 30 (0,0))
 r1:u.heap[w.heap.size+1]?=some (.cells (doA zD) 25 (0,0))
 r2:u.heap[w.heap.size+2]?=some (.cells (ag []) 30 (0,0))
 b:Below w.heap.size w u
theorem NS.on {w u u':World} {s:List UInt8} (h:NS w s u) (hb:Below u.heap.size u u'):NS w s u' :=
 ⟨aa h.r0 hb,aa h.r1 hb,aa h.r2 hb,h.b.trans (hb.mono h.b.size)⟩
theorem NS.set0 {w u u':World} {s s':List UInt8} (h:NS w s u) (hg:u'.heap[w.heap.size]?=some (.cells (ag s') 30 (0,0))) (ho:∀k,k≠w.heap.size→u'.heap[k]? = u.heap[k]?) (hb:∀B,B≤w.heap.size→Below B u u'):NS w s' u' :=
 ⟨hg,(ho _ (by omega)).trans h.r1,(ho _ (by omega)).trans h.r2,h.b.trans (hb _ (by omega))⟩
theorem S6 (w:World) (s:List UInt8):NS w s (((w.alloc (.cells (ag s) 30)).alloc (.cells (doA zD) 25)).alloc (.cells (ag []) 30)) :=
 ⟨oo _ _ _ _,oq _ _ _ _,ot _ _ _ _,(((O_ _ _).alloc (A_ _) _).alloc (by simp) _).alloc (by simp;omega) _⟩
def SP.rd {α:Type} (E:El α) (l:List α):SP := .pred (fun v w=>RdE E w v l) (fun _ _ _ hb h=>h.on hb)
def SP.own {α:Type} (E:El α) (B:Nat) (l:List α):SP := .pred (fun v w=>ap E w B v l) (fun _ _ _ hb h=>h.on hb)
def SP.fd (B:Nat) (fd:FD):SP := .pred (fun v w=>∃v3,v = .tuple #[.agg (doA fd.d),v3,.agg (ag fd.r),.int .i64 fd.e]∧ap eH w B v3 fd.l) (fun _ _ _ hb ⟨v3,e,h⟩=>⟨v3,e,h.on hb⟩)
theorem Ex (w:World) (nm:List UInt8):RdE eS (w.alloc (.cells #[.string ⟨iz.toArray⟩,.string ⟨nm.toArray⟩] 9)) (.slice (some ⟨w.heap.size,0,none⟩) 2 2) [iz,nm] :=
 lq (E:=eS) (heap_alloc_new _ _) [iz,nm] rfl (by simp)
theorem OV (nm:List UInt8) (h:nm.length=32):(ofM 12 [iz,nm]).length≤900000:=by
 have h7:=cg (iz.length:Int);have h8:=cg (nm.length:Int);have h9:iz.length=6:=rfl;unfold ofM;simp only[eL,fj,aV,Z_,E_,List.length_nil]
 omega
attribute [local irreducible] Calls doA
theorem xN (s:List UInt8) (need n:Int) (w:World) (hk:KAt w) (hs:s.length≤900000) :
  Calls prog 10 #[.agg (ag s),.int .i64 need,.int .i64 n] w fun e w'=>∃v,e = .returned (.tuple #[.agg (doA (cP s need n).d),v,.agg (ag (cP s need n).r),.int .i64 (cP s need n).e])∧ap eH w' w.heap.size v (cP s need n).l∧Below w.heap.size w w':=by
 have hzd:=iy;have hzr:=fi;obtain⟨W0,hW0⟩:∃W0,W0=((w.alloc (.cells (ag s) 30)).alloc (.cells (doA zD) 25)).alloc (.cells (ag []) 30):=⟨_,rfl⟩;have HW:=O hW0;have HF0:Hid (NS w s W0):=O (by rw[hW0];exact S6 w s);have HN:=O (fun (u:World) (h:Below w.heap.size w u)=>tC s u (hk.on h) (by omega));have HOF:Hid (∀(y:World) (v:Value),Below w.heap.size w y→RdE eS y v [iz,nxV s]→Calls prog 35 #[.int .i64 12,v] y fun e w'=>e = .returned (.agg (am (ofP 12 [iz,nxV s])))∧Below y.heap.size y w'):=O (fun y v a h=>Wl 12 12 rfl v [iz,nxV s] y (hk.on a) h (OV _ (cL s)) (by simp))
 have HFD:Hid (∀(u:World),Below w.heap.size w u→Calls prog 34 #[.agg (doA ⟨ofP 12 [iz,nxV s],[],0,0⟩),.agg (ag (nxS s)),.int .i64 need,.int .i64 n,.slice none 0 0] u fun e w'=>∃v,e = .returned (.tuple #[.agg (doA (cP s need n).d),v,.agg (ag (cP s need n).r),.int .i64 (cP s need n).e])∧ap eH w' u.heap.size v (cP s need n).l∧Below u.heap.size u w') :=
  O (fun u hb=>EI ⟨ofP 12 [iz,nxV s],[],0,0⟩ (nxS s) need n 0 (.slice none 0 0) u (hk.on hb) (by rw[im];decide) ⟨none,0,rfl,by decide,fun h=>absurd h (by decide)⟩ (.inr rfl))
 obtain⟨fd,hfd⟩:∃fd,cP s need n=fd:=⟨_,rfl⟩;obtain⟨nm,hnm⟩:∃nm,nxV s=nm:=⟨_,rfl⟩;obtain⟨s1,hs1⟩:∃s1,nxS s=s1:=⟨_,rfl⟩;obtain⟨dg,hdg⟩:∃dg,ofP 12 [iz,nm]=dg:=⟨_,rfl⟩;rw[hfd,hnm,hs1,hdg] at HFD;rw[hnm,hs1] at HN;rw[hnm,hdg] at HOF;rw[hfd];clear hk hs hfd hnm hs1 hdg hW0
 go_enter func10,ntmps10
 go_upto_region 1 with fail
 rw[←HW.out]
 try dsimp only[Act.put]
 go_upto_region 2 with (first
  |(refine jl s rfl (.tmp 3) rfl w.heap.size rfl _ HF0.out.r0 ?_)
  |(go_at_call 33;refine(HN.out _ HF0.out.b).mono ?_;rintro e x1 ⟨rfl,hx1⟩;have HX1:=O (HF0.out.on hx1);clear hx1)
  |(refine aM (T:=30) (ag s1) (bu _) rfl (.tmp 3) (.tmp 15) rfl w.heap.size (ag s) rfl rfl (aS _) (bM _ _) HX1.out.r0 ?_;intro W1 hge hoe hbe;have HF1:=O (HX1.out.set0 hge hoe hbe);clear hge hoe hbe))
 clear HF0 HX1;have HG1:Hid (w.heap.size+2<W1.heap.size):=O (Q_.1 HF1.out.r2).1;refine aY 12 [[],[0],[1],[2],[],[],[],[3,4,5,6],[7],[7],[7],[7]] (SP.of [.eq (.string ⟨nm.toArray⟩),SP.rd eS [iz,nm],.eq (.agg (am dg)),.eq (.agg (doA ⟨dg,[],0,0⟩)),.eq (.agg (ag s1)),.eq (.int .i64 need),.eq (.int .i64 n),SP.fd W1.heap.size fd,.eq (.agg (doA fd.d)),SP.own eH W1.heap.size fd.l,.eq (.agg (ag fd.r)),.eq (.int .i64 fd.e)]) (fun _=>undef) ?h1 ?h2 ?h3 ?h4 ?h5 ?h6
 case h1=>kernel_rfl
 case h2=>kernel_rfl
 case h3=>kernel_rfl
 case h4 =>
  simp only[F_,c_]
  repeat (first |exact trivial|refine⟨fun vals v=>by kernel_rfl,?_⟩)
 case h5 =>
  simp only[F_,c_];refine⟨?_,?_,?_,?_,?_,?_,?_,?_,?_,?_,?_,?_,trivial⟩
  all_goals (intro wq hbq vals;simp only[Nat.reduceAdd,a_,X_,W_];have HQ:=O (HF1.out.on hbq);have HBQ:=O hbq;clear hbq;repeat (first |refine ar ?_|refine aw rfl ?_))
  case refine_3 =>
   refine aG rfl (fun v1 hv1 => ?_);refine ar ?_;intro Q hQ;simp only[ay,upd,Act.put,B_,C_,D_,Nat.reduceAdd,a_,Nat.reduceEqDiff,if_true,if_false,reduceIte];have HV1:=O hv1;clear hv1
   go_wp2_with (go_at_call 35;refine(HOF.out _ _ HQ.out.b HV1.out).mono ?_;rintro e x1 ⟨rfl,hx1⟩)
   exact ab hQ _ (by kernel_rfl) hx1 rfl
  case refine_9 =>
   refine aG rfl (fun v1 hv1 => ?_);refine ar ?_;intro Q hQ;simp only[ay,upd,Act.put,B_,C_,D_,Nat.reduceAdd,a_,Nat.reduceEqDiff,if_true,if_false,reduceIte];obtain⟨v3,rfl,ho3⟩:=hv1;clear ho3;go_wp2;exact ab hQ _ (by kernel_rfl) (O_ _ _) rfl
  case refine_10 =>
   refine aG rfl (fun v1 hv1 => ?_);refine ar ?_;intro Q hQ;simp only[ay,upd,Act.put,B_,C_,D_,Nat.reduceAdd,a_,Nat.reduceEqDiff,if_true,if_false,reduceIte];obtain⟨v3,rfl,ho3⟩:=hv1;have HO3:=O ho3;clear ho3;go_wp2;exact ab hQ _ (by kernel_rfl) (O_ _ _) HO3.out
  case refine_11 =>
   refine aG rfl (fun v1 hv1 => ?_);refine ar ?_;intro Q hQ;simp only[ay,upd,Act.put,B_,C_,D_,Nat.reduceAdd,a_,Nat.reduceEqDiff,if_true,if_false,reduceIte];obtain⟨v3,rfl,ho3⟩:=hv1;clear ho3;go_wp2;exact ab hQ _ (by kernel_rfl) (O_ _ _) rfl
  case refine_12 =>
   refine aG rfl (fun v1 hv1 => ?_);refine ar ?_;intro Q hQ;simp only[ay,upd,Act.put,B_,C_,D_,Nat.reduceAdd,a_,Nat.reduceEqDiff,if_true,if_false,reduceIte];obtain⟨v3,rfl,ho3⟩:=hv1;clear ho3;go_wp2;exact ab hQ _ (by kernel_rfl) (O_ _ _) rfl
  all_goals (intro Q hQ;simp only[ay,upd,Act.put,B_,C_,D_,Nat.reduceAdd,a_,Nat.reduceEqDiff,if_true,if_false,reduceIte])
  case refine_2 =>
   go_wp2;exact ab hQ _ (by kernel_rfl) ((O_ _ _).alloc (A_ _) _) (Ex _ _)
  case refine_4 =>
   go_wp2_with (refine NA dg rfl (.tmp 18) rfl rfl ?_)
   exact ab hQ _ (by kernel_rfl) (O_ _ _) rfl
  case refine_5 =>
   go_wp2_with (refine jl s1 rfl (.tmp 3) rfl w.heap.size rfl _ HQ.out.r0 ?_)
   exact ab hQ _ (by kernel_rfl) (O_ _ _) rfl
  case refine_8 =>
   go_wp2_with (go_at_call 34;refine(HFD.out _ HQ.out.b).mono ?_;rintro e x1 ⟨v3,rfl,ho3,hb3⟩;have HO3:=O (ho3.mono HBQ.out.size);clear ho3)
   exact ab hQ _ (by kernel_rfl) hb3 ⟨v3,rfl,HO3.out⟩
  all_goals go_wp2
  all_goals exact ab hQ _ (by kernel_rfl) (O_ _ _) rfl
 case h6 =>
  intro wq hbq vals;have HQ:=O (HF1.out.on hbq);clear hbq;rw[show List.range 12=[0,1,2,3,4,5,6,7,8,9,10,11] from by decide];refine aw rfl (aG rfl (fun v1 _ => ?_))
  repeat (first |refine aw rfl ?_)
  refine aG rfl (fun v7 _ => ?_);refine aw rfl ?_;refine aG rfl (fun v9 hv9 => ?_)
  repeat (first |refine ar ?_|refine aw rfl ?_)
  simp only[F_,c_,J_,L_];simp only[ay,upd,Act.put,B_,C_,D_,Nat.reduceAdd,a_,Nat.reduceEqDiff,if_true,if_false,reduceIte];have HO9:=O hv9;clear hv9 HF1 HN HOF HFD
  go_wp2_with (first
   |(refine aM (T:=25) (doA fd.d) (b8 _) rfl (.tmp 6) (.tmp 24) rfl (w.heap.size+1) (doA zD) rfl rfl (cr _) (dE _ _) HQ.out.r1 ?_;intro w7 hge7 hoe7 hbe7;have HE7:Hid (w7.heap[w.heap.size+1]?=some (.cells (doA fd.d) 25 (0,0))∧w7.heap[w.heap.size+2]?=some (.cells (ag []) 30 (0,0))∧Below w.heap.size w w7∧ap eH w7 W1.heap.size v9 fd.l):=(O ⟨hge7,(hoe7 _ (by omega)).trans HQ.out.r2,HQ.out.b.trans (hbe7 _ (by omega)),HO9.out.same (fun j hj=>hoe7 j (by have := HG1.out;omega))⟩);clear hge7 hoe7 hbe7)
   |(refine aM (T:=30) (ag fd.r) (bu _) rfl (.tmp 8) (.tmp 26) rfl (w.heap.size+2) (ag []) rfl rfl (aS _) (bM _ _) HE7.out.2.1 ?_;intro w8 hge8 hoe8 hbe8;have HE8:Hid (w8.heap[w.heap.size+1]?=some (.cells (doA fd.d) 25 (0,0))∧w8.heap[w.heap.size+2]?=some (.cells (ag fd.r) 30 (0,0))∧Below w.heap.size w w8∧ap eH w8 w.heap.size v9 fd.l):=(O ⟨(hoe8 _ (by omega)).trans HE7.out.1,hge8,HE7.out.2.2.1.trans (hbe8 _ (by omega)),(HE7.out.2.2.2.same (fun j hj=>hoe8 j (by have := HG1.out;omega))).mono (by have := HG1.out;omega)⟩);clear hge8 hoe8 hbe8))
  refine g_ (fX rfl _ _ (w.heap.size+1) (w.heap.size+2) _ _ rfl rfl (gl _ _ _ _ HE8.out.1) (fD _ _ _ _ HE8.out.2.1)) rfl ?_;exact⟨_,rfl,HE8.out.2.2.2,HE8.out.2.2.1⟩
end
end Go.Proofs.YtmfiaadjdbemnaaGreatDoor
