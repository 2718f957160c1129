/- Contracts and lemmas. No condition. -/
import Derived.Test.YtmfiaadjdbemnaaGreatDoorSB17
set_option maxRecDepth 100000
set_option maxHeartbeats 8000000
namespace Go.Proofs.YtmfiaadjdbemnaaGreatDoor
section
open Go.RowKit Go.Shelf
def zK:K:=⟨0,0,[],0,0,0,0,0,false⟩
def mkK (l:List Int) (v:List UInt8):K:=⟨l.getD 0 0,l.getD 1 0,v,l.getD 2 0,l.getD 3 0,l.getD 4 0,l.getD 5 0,l.getD 6 0,l.getD 7 0 == 1⟩
def kE2 (p:List UInt8):Int:=if whX aB p 0=0∧decide ((rdV [] aB p 0).length=8)=false then 6 else whX aB p 0
def kN (p:List UInt8):Int:=if kE2 p=0∧win ((rdV [] aB p 0).getD 7 0) 0 1=false then 6 else kE2 p
def kE1 (s:List UInt8) (e:Int):Int:=if whX aE s e=0∧decide ((rdV [] aE s e).length=2)=false then 6 else whX aE s e
def dZ (s:List UInt8) (e:Int):Int:=if kE1 s e=0 then kN ((rdV [] aE s e).getD 0 []) else kE1 s e
def fV (s:List UInt8) (e:Int):K:=if dZ s e=0 then mkK (rdV [] aB ((rdV [] aE s e).getD 0 []) 0) ((rdV [] aE s e).getD 1 []) else zK
theorem yu:(Tryz.prog.info? 86).map (·.zero)=some (some (.agg (kc zK))):=by kernel_rfl
theorem rp (w:World):(zeroValue 86).run Tryz.prog w = .ok (.agg (kc zK)) w:=by
 have h:=yu;generalize kc zK=L at h ⊢
 cases hq:Tryz.prog.info? 86 with
 | none=>rw[hq] at h;cases h
 | some i =>
   rw[hq] at h
   simp at h
   simp[zeroValue,typeInfo,hq,h]
theorem fC {x y:World} {g k:Nat} {o:Obj} (h:x.heap[k]?=some o) (hy:x.grownBy y (some g)) (hne:k≠g):y.heap[k]?=some o:=by
 rw[hy.block _ (Array.getElem?_eq_some_iff.1 h).1 (fun e=>hne (Option.some.inj e))];exact h
theorem RV.by {x y:World} {g k:Nat} {T:TypeId} {tl:Option (List UInt8)} {v:Value} {e:Int} (h:RV x k T tl v e) (hy:x.grownBy y (some g)) (hne:k≠g):RV y k T tl v e:=fC h hy hne
theorem ap.byO {α:Type} {E:El α} {x y:World} {ai:Nat} {v:Value} {l:List α} {g:Nat} (h:ap E x ai v l) (hy:x.grownBy y (some g)) (hne:g<ai):ap E y ai v l :=
 h.grown hy (fun g2 hg2=>by cases hg2;exact h.neOld hne)
theorem ef {w x y:World} {g g2:Nat} (h:w.grownBy x (some g)) (hy:x.grownBy y (some g2)) (hge:w.heap.size≤g2):w.grownBy y (some g) :=
 ⟨hy.os.trans h.os,hy.tape.trans h.tape,hy.output.trans h.output,Nat.le_trans h.size hy.size,fun k hk hne=>(hy.block k (Nat.lt_of_lt_of_le hk h.size) (fun e=>by cases e;omega)).trans (h.block k hk hne)⟩
theorem dY {ops:Array Oper} {rest:List Oper} {o:Oper} {a:Act} {w:World} {Q:Exit→Act→World→Prop} (k:K) (g:Nat) (T:TypeId) (hg:w.heap[g]?=some (.cells (kc k) T (0,0)))
  (hgd:o.guard=none) (x:Operand) (ho:o.op = .load 86 x) (hx:a.eval x = .pointer (some ⟨g,0,none⟩))
  (h:wpList Tryz.prog ops Q rest (a.put o.dst (.agg (kc k))) w):wpList Tryz.prog ops Q (o::rest) a w :=
 wpList_load_row hgd _ x ho g hx _ (kc k) (0,0) _ hg Tryz.underlying86 rfl (by kernel_rfl) h
theorem jR (k:K):(kc k).all (·.oneCell')=true:=by
 unfold kc
 simp[Value.oneCell']
theorem fZ {ops:Array Oper} {rest:List Oper} {o:Oper} {a:Act} {w:World} {Q:Exit→Act→World→Prop} (k k0:K) (hgd:o.guard=none) (x y:Operand) (ho:o.op = .store 86 x y)
  (g:Nat) (hx:a.eval x = .pointer (some ⟨g,0,none⟩)) (hy:a.eval y = .agg (kc k)) (T:TypeId) (hg:w.heap[g]?=some (.cells (kc k0) T (0,0)))
  (h:wpList Tryz.prog ops Q rest (a.put o.dst undef) (w.setRow g (kc k))):wpList Tryz.prog ops Q (o::rest) a w :=
 wpList_store_row hgd _ x y ho g (kc k) hx hy T (kc k0) hg (by kernel_rfl) rfl (jR k) h
theorem cM (w:World) (g:Nat) (k:K) (T:TypeId) (hg:w.heap[g]?=some (.cells (kc k) T (0,0))):(loadVar 86 ⟨g,0,none⟩).run Tryz.prog w = .ok (.agg (kc k)) w :=
 run_loadVar_row w g T 86 (kc k) (0,0) _ hg Tryz.underlying86 rfl (by kernel_rfl)
theorem Ff {ops:Array Oper} {C:World→Prop} {Q:Act→Prop} {a:Act} {o:Oper} {rest:List Oper} (hw:Region.wanted o (yielded ops a.tmps)=true) (T:TypeId) (parts:Array (Nat × Operand)) (ho:o.op = .build T parts)
  (cs:Array Value) (hb:Tryz.prog.built T (parts.map fun (i,x)=>(i,a.eval x)).toList=some cs) (h:wpQuiet Tryz.prog ops C Q rest (a.put o.dst (.agg cs))):wpQuiet Tryz.prog ops C Q (o::rest) a:=by
 unfold wpQuiet;rw[if_pos hw];refine⟨.agg cs,fun w' hw' => ?_,h⟩;unfold Oper.quietAt execOp;simp only[ho,Sem.run_bind,Sem.run_pure,Result.andThen_ok,run_build w' T _ cs hb];exact⟨rfl,rfl⟩
theorem Kq (l:List (List UInt8)) (x:List UInt8) (h:x∈l):x.length≤(ea aV l).length:=by
 induction l with
 | nil=>cases h
 | cons y l ih =>
   rw[eL,List.length_append]
   rcases List.mem_cons.1 h with rfl|h
   ·unfold aV;rw[List.length_append];omega
   ·have := ih h;omega
theorem qM (s:List UInt8) (e:Int) (x:List UInt8) (h:x∈rdV [] aE s e):x.length≤s.length:=by
 rcases fM [] aE s e with⟨_,p3,_⟩|⟨_,_,p3,_⟩|⟨_,p2,p3,_⟩
 ·rw[p3] at h;cases h
 ·rw[p3] at h;cases h
 ·rw[p3] at h
  have h3:=congrArg List.length (tn hI s _ _ (show j8 aL s=((aE s).1,(aE s).2.1,0) by rw[←p2];rfl)).1;have h4:=Kq _ x h;unfold kX at h3;rw[List.length_append,List.length_append] at h3
  omega
attribute [local irreducible] Calls rc win
theorem V0 (g:Nat) (T:TypeId) (tl:Option (List UInt8)) (v:Value) (e:Int) (s:List UInt8) (w:World) (h1:RV w g T tl v e) (hl:s.length≤900000) :
  Calls Tryz.prog 91 #[.pointer (some ⟨g,0,none⟩),.string ⟨s.toArray⟩] w fun en w'=>en = .returned (kv (fV s e))∧RV w' g T tl v (dZ s e)∧w.grownBy w' (some g):=by
 have hz:=rp;have HL:=O hl;have HGG:=O h1.lt;obtain⟨W0,hW0⟩:∃W0,W0=w.alloc (.cells (kc zK) 86):=⟨_,rfl⟩;have HW:=O hW0;have HB0:Hid (Below w.heap.size w W0):=O (by rw[hW0];exact(Oo _ _).alloc (Nat.le_refl _) _);have HK0:Hid (W0.heap[w.heap.size]?=some (.cells (kc zK) 86 (0,0))):=O (by rw[hW0];exact al _ _ _ rfl);have HR0:Hid (RV W0 g T tl v e):=O (h1.on HB0.out)
 have c1:W0.cell? ⟨g,1,none⟩=some (.int .i64 e):=by rw[cell_of_row _ _ _ _ _ _ HR0.out];exact gy v e tl
 have hcv:=cw W0 s;have HSB:=O (bU W0 s);have HSR:=O (fo W0 s (by unfold maxLen;omega));generalize Lib.bytesWorld W0 5 ⟨s.toArray⟩=ws at hcv HSB HSR
 have c1s:ws.cell? ⟨g,1,none⟩=some (.int .i64 e):=by rw[HSB.out.cell (p:=⟨g,1,none⟩) HR0.out.lt];exact c1
 generalize hn0:(Value.slice (some ⟨W0.heap.size,0,none⟩) s.length (grownCap W0 s.length 0 5))=vx at hcv HSR;have HVX:=O hn0;rw[←hn0] at hcv;clear h1 hl hW0 hn0 c1
 go_enter Tryz.func91,Tryz.ntmps91
 go_upto_region 1 with fail
 rw[←HW.out]
 go_upto_region 2 with fail
 have HX1:Hid (RV (ws.alloc (.cells #[.slice (some ⟨W0.heap.size,0,none⟩) s.length (grownCap W0 s.length 0 5),.int .i64 e] 152)) ws.heap.size 152 none vx e):=O (by unfold RV;rw[tI,←HVX.out];exact al _ _ _ rfl);have HA1:=O ((Oo ws.heap.size ws).alloc (Nat.le_refl _) (.cells #[.slice (some ⟨W0.heap.size,0,none⟩) s.length (grownCap W0 s.length 0 5),.int .i64 e] 152));have HGX:Hid (w.heap.size<ws.heap.size):=O (Nat.lt_of_lt_of_le (Array.getElem?_eq_some_iff.1 HK0.out).1 HSB.out.size);generalize ws.alloc (.cells #[.slice (some ⟨W0.heap.size,0,none⟩) s.length (grownCap W0 s.length 0 5),.int .i64 e] 152)=w1 at HX1 HA1 ⊢;have HB1:Hid (Below W0.heap.size W0 w1):=O (HSB.out.trans (HA1.out.mono HSB.out.size));have HK1:Hid (w1.heap[w.heap.size]?=some (.cells (kc zK) 86 (0,0))):=O (by rw[HB1.out.block _ (Array.getElem?_eq_some_iff.1 HK0.out).1];exact HK0.out);have HR1:=O (HR0.out.on HB1.out);have HG1:=O (dT (grownB g HB0.out) HB1.out);have HRX:=O (HSR.out.on HA1.out);generalize hgx:ws.heap.size=gx at HX1 HGX;clear hcv c1s hgx;have C2:=O (Co gx 152 none vx s e w1 HX1.out HRX.out HL.out);generalize hps:rdV [] aE s e=ps at C2;generalize rdR aE s e=rr at C2;generalize hpx:whX aE s e=px at C2;have EPS:=O hps;have EPX:=O hpx;have HN:Hid ((((ps.length:Int) == 2)=decide (ps.length=2))):=O (by by_cases h0:ps.length=2 <;> simp[h0];omega);generalize he1:(if px=0∧decide (ps.length=2)=false then 6 else px)=e1;have EE1:=O he1;have HE1:Hid (kE1 s e=e1):=O (by unfold kE1;rw[hps,hpx,he1]);clear hps hpx he1;have hgx1:=HX1.out.lt;have HGX1:=O hgx1;clear hgx1
 go_upto_if 23 with (first
  |(go_at_call 89;refine C2.out.mono ?_;rintro en w2 ⟨x2,v2,rfl,ho2,hr2,hp2,hg2⟩;have HO2:=O ho2;have HX2:=O hr2;have HG12:=O hg2;obtain⟨pa,pc2,rfl,_,_,_⟩:=ho2.rd;clear hr2 hp2 hg2 ho2)
  |(go_at_call 92;rw[HN.out];refine(dK gx _ none _ px (decide (ps.length=2)) 6 _ HX2.out).mono ?_;rintro en w3 ⟨rfl,hw3⟩;have HG23:=O (gm hw3);have HX3:=O (gp HX2.out hw3);rw[EE1.out] at HX3;clear hw3;rw[EE1.out]))
 have HG13:=O (bg HG12.out HG23.out);have HK3:=O (fC HK1.out HG13.out (by have := HGX.out;omega));have HR3:=O (HR1.out.by HG13.out (by have := HGX.out;have := HGG.out;omega));have HG3:=O (ef HG1.out HG13.out (by have := HGX.out;omega));have HO3:=O (HO2.out.byO HG23.out HGX1.out)
 by_cases h10:e1=0
 ·subst h10
  have hl2:ps.length=2:=by
   have h:=EE1.out
   split at h
   ·cases h
   ·rename_i hn
    exact Decidable.of_not_not (fun h4=>hn ⟨h,decide_eq_false h4⟩)
  obtain⟨p0,p1,rfl⟩:∃p0 p1,ps=[p0,p1]:=by
   match ps,hl2 with
   | [p0,p1],_=>exact⟨p0,p1,rfl⟩
  have HPL:Hid (p0.length≤900000):=O (Nat.le_trans (qM s e p0 (by rw[EPS.out];simp)) HL.out);obtain⟨bp,op,rfl,hbp,aO⟩:=dQ HO3.out.rd (by simp);have y0:=aO 0 (by simp);rw[Nat.add_zero] at y0;simp only[List.getElem_cons_zero] at y0;have hcv3:=cw w3 p0;have HSB3:=O (bU w3 p0);have HSR3:=O (fo w3 p0 (by have := HPL.out;unfold maxLen;omega));generalize Lib.bytesWorld w3 5 ⟨p0.toArray⟩=ws3 at hcv3 HSB3 HSR3;generalize hn3:(Value.slice (some ⟨w3.heap.size,0,none⟩) p0.length (grownCap w3 p0.length 0 5))=vn at HSR3;have HVN:=O hn3;clear aO hl2 hn3
  go_upto_region 5 with fail
  have HN4:Hid (RV (ws3.alloc (.cells #[.slice (some ⟨w3.heap.size,0,none⟩) p0.length (grownCap w3 p0.length 0 5),.int .i64 0] 152)) ws3.heap.size 152 none vn 0):=O (by unfold RV;rw[tI,←HVN.out];exact al _ _ _ rfl);have HA4:=O ((Oo ws3.heap.size ws3).alloc (Nat.le_refl _) (.cells #[.slice (some ⟨w3.heap.size,0,none⟩) p0.length (grownCap w3 p0.length 0 5),.int .i64 0] 152));have HGN:Hid (w3.heap.size≤ws3.heap.size):=O HSB3.out.size;generalize ws3.alloc (.cells #[.slice (some ⟨w3.heap.size,0,none⟩) p0.length (grownCap w3 p0.length 0 5),.int .i64 0] 152)=w4 at HN4 HA4 ⊢;have HB34:Hid (Below w3.heap.size w3 w4):=O (HSB3.out.trans (HA4.out.mono HSB3.out.size));have HK4:Hid (w4.heap[w.heap.size]?=some (.cells (kc zK) 86 (0,0))):=O (by rw[HB34.out.block _ (Array.getElem?_eq_some_iff.1 HK3.out).1];exact HK3.out);have HR4:=O (HR3.out.on HB34.out);have HX4:=O (HX3.out.on HB34.out);have HG4:=O (dT HG3.out HB34.out);have HRN:=O (HSR3.out.on HA4.out);have HO4:=O (HO3.out.on HB34.out);have HGXN:Hid (gx<ws3.heap.size):=O (Nat.lt_of_lt_of_le HX3.out.lt HSB3.out.size);have HPN:Hid (bp<ws3.heap.size):=O (Nat.lt_of_lt_of_le hbp HSB3.out.size);have HPO:Hid (w1.heap.size≤bp):=O (HO3.out.lt bp rfl).1;generalize hgn:ws3.heap.size=gn at HN4 HGN HGXN HPN;clear hcv3 y0 hbp hgn;have C5:=O (Mz gn 152 none vn p0 0 w4 HN4.out HRN.out HPL.out);generalize hls:rdV [] aB p0 0=l at C5;generalize rdR aB p0 0=rr5 at C5;generalize hnx:whX aB p0 0=nx at C5;have ELS:=O hls;have ENX:=O hnx;have HN8:Hid ((((l.length:Int) == 8)=decide (l.length=8))):=O (by by_cases h0:l.length=8 <;> simp[h0];omega);generalize he2:(if nx=0∧decide (l.length=8)=false then 6 else nx)=e2;have EE2:=O he2;have HE2:Hid (kE2 p0=e2):=O (by unfold kE2;rw[hls,hnx,he2]);clear hls hnx he2;have HGN4:Hid (gn<w4.heap.size):=O HN4.out.lt
  go_upto_region 6 with (go_at_call 145;refine C5.out.mono ?_;rintro en w5 ⟨x5,v5,rfl,ho5,hr5,hp5,hg5⟩;have HO5:=O ho5;have HN5:=O hr5;have HG45:=O hg5;obtain⟨la,lc,rfl,_,_,_⟩:=ho5.rd;clear hr5 hp5 hg5 ho5)
  have HK5:=O (fC HK4.out HG45.out (by have := HGX.out;have := HGXN.out;omega));have HR5:=O (HR4.out.by HG45.out (by have := HGX.out;have := HGG.out;have := HGXN.out;omega));have HX5:=O (HX4.out.by HG45.out (by have := HGXN.out;omega));have HG5:=O (ef HG4.out HG45.out (by have := HGX.out;have := HGXN.out;omega));have HO45:=O (HO4.out.grown HG45.out (fun g2 hg2=>by cases hg2;intro e9;have e10:bp=gn:=Option.some.inj e9;have := HPN.out;omega))
  by_cases h20:e2=0
  ·subst h20
   have hl8:l.length=8:=by
    have h:=EE2.out
    split at h
    ·cases h
    ·rename_i hn
     exact Decidable.of_not_not (fun h4=>hn ⟨h,decide_eq_false h4⟩)
   have HL8:=O hl8;obtain⟨bl,ol,rfl,hbl,aO⟩:=iE HO5.out.rd (by omega);have hbl4:w4.heap.size≤bl:=(HO5.out.lt bl rfl).1;have HBL4:=O hbl4
   have HROW:Hid (∀y,w5.grownBy y (some gn)→∀j (hj:j<l.length),y.cell? ⟨bl,ol+j,none⟩=some (.int .i64 l[j])):=O (by
    intro y hy j hj;rw[World.cell?_of_block (a:=⟨bl,ol+j,none⟩) (hy.block bl hbl (fun e=>by have e2:=Option.some.inj e;have := HGN4.out;omega))]
    exact aO j hj)
   have i7n:7<l.length:=by omega
   have i7:(7:Int)<l.length:=by omega
   obtain⟨m7,hm7⟩:∃m,m=l[7]:=⟨_,rfl⟩;have HM7:=O hm7;have HD7:Hid (l.getD 7 0=m7):=O (by rw[hm7,List.getD_eq_getElem?_getD,List.getElem?_eq_getElem i7n];rfl);clear hm7;generalize he3:(if (0:Int)=0∧win m7 0 1=false then (6:Int) else 0)=e3;have EE3:=O he3;have HE3:Hid (dZ s e=e3):=O (by unfold dZ;rw[HE1.out,if_pos rfl,EPS.out];show kN p0=e3;unfold kN;rw[HE2.out,ELS.out,HD7.out];exact he3);clear aO hl8 hbl4 hbl he3;generalize hwn:win m7 0 1=wn at EE3;have HWN:Hid ([m7].all (fun n=>win n 0 1)=wn):=O (by rw[←hwn];simp);clear hwn
   go_upto_if 45 with (first
    |(go_at_call 92;rw[HN8.out];refine(dK gn _ none _ nx (decide (l.length=8)) 6 _ HN5.out).mono ?_;rintro en w6 ⟨rfl,hw6⟩;have HG56:=O (gm hw6);have HN6:=O (gp HN5.out hw6);rw[EE2.out] at HN6;have y7:=(HROW.out w6 HG56.out 7 (by have := HL8.out;omega));rw[←HM7.out] at y7;clear hw6;rw[EE2.out])
    |(go_at_call 117;refine(rl 1 _ [m7] _ (bi1 _ m7)).mono ?_;rw[HWN.out];rintro en w7 ⟨rfl,hb7⟩;have HB67:=O (((Oo w6.heap.size w6).alloc (Nat.le_refl _) (.cells #[.int .i64 m7] 3)).trans (hb7.mono (by simp)));have HN7:=O (HN6.out.on HB67.out);clear hb7 y7)
    |(go_at_call 92;refine(dK gn _ none _ 0 wn 6 _ HN7.out).mono ?_;rintro en w8 ⟨rfl,hw8⟩;have HG78:=O (gm hw8);have hif:(if (0:Int)=0∧wn=false then (6:Int) else 0)=e3:=(by have h2:=EE3.out;simpa using h2);have HN8':=O (gp HN7.out hw8);rw[hif] at HN8';clear hw8;rw[hif];clear hif))
   have HK6:=O (fC HK5.out HG56.out (by have := HGX.out;have := HGXN.out;omega));have HR6:=O (HR5.out.by HG56.out (by have := HGX.out;have := HGG.out;have := HGXN.out;omega));have HX6:=O (HX5.out.by HG56.out (by have := HGXN.out;omega));have HG6:=O (ef HG5.out HG56.out (by have := HGX.out;have := HGXN.out;omega));have HG58:Hid (w5.grownBy w8 (some gn)):=O (bg (dT HG56.out HB67.out) HG78.out);have HK8:=O (fC HK5.out HG58.out (by have := HGX.out;have := HGXN.out;omega));have HR8:=O (HR5.out.by HG58.out (by have := HGX.out;have := HGG.out;have := HGXN.out;omega));have HX8:=O (HX5.out.by HG58.out (by have := HGXN.out;omega));have HG8:=O (ef HG5.out HG58.out (by have := HGX.out;have := HGXN.out;omega));clear HN8;have HN8:=HN8';clear HN8' HK6 HR6 HX6 HG6
   by_cases h30:e3=0
   ·obtain⟨m0,m1,m2,m3,m4,m5,m6,n7,rfl⟩:∃m0 m1 m2 m3 m4 m5 m6 m7,l=[m0,m1,m2,m3,m4,m5,m6,m7]:=by
     have h8:=HL8.out
     match l,h8 with
     | [m0,m1,m2,m3,m4,m5,m6,m7],_=>exact⟨m0,m1,m2,m3,m4,m5,m6,m7,rfl⟩
    obtain rfl:m7=n7:=HM7.out;subst h30;have HP8:Hid (ap eS w8 w1.heap.size (.slice (some ⟨bp,op,none⟩) [p0,p1].length pc2) [p0,p1]):=O (HO45.out.grown HG58.out (fun g2 hg2=>by cases hg2;intro e9;have e10:bp=gn:=Option.some.inj e9;have := HPN.out;omega));have HKE:Hid (fV s e=mkK [m0,m1,m2,m3,m4,m5,m6,m7] p1):=O (by unfold fV;rw[HE3.out,if_pos rfl,EPS.out];show mkK (rdV [] aB p0 0) p1=_;rw[ELS.out]);have HMK:Hid (kc (mkK [m0,m1,m2,m3,m4,m5,m6,m7] p1) = #[.int .i64 m0,.int .i64 m1,.string ⟨p1.toArray⟩,.int .i64 m2,.int .i64 m3,.int .i64 m4,.int .i64 m5,.int .i64 m6,.bool (m7 == 1)]):=O rfl;generalize mkK [m0,m1,m2,m3,m4,m5,m6,m7] p1=km at HKE HMK;have q0:=HROW.out w8 HG58.out 0 (by simp);have q1:=HROW.out w8 HG58.out 1 (by simp);have q2:=HROW.out w8 HG58.out 2 (by simp);have q3:=HROW.out w8 HG58.out 3 (by simp);have q4:=HROW.out w8 HG58.out 4 (by simp);have q5:=HROW.out w8 HG58.out 5 (by simp);have q6:=HROW.out w8 HG58.out 6 (by simp);have q7:=HROW.out w8 HG58.out 7 (by simp);obtain⟨bp2,op2,hbe,_,hrow2⟩:=dQ HP8.out.rd (by simp)
    cases hbe
    have q8:=hrow2 1 (by simp);simp only[List.getElem_cons_zero,List.getElem_cons_succ] at q0 q1 q2 q3 q4 q5 q6 q7 q8;rw[Nat.add_zero] at q0;clear hrow2
    go_upto_region 7 with fail
    try dsimp only[Act.put]
    refine dD 29 (by kernel_rfl) (by kernel_rfl) ?_;simp only[List.take_succ_cons,List.take_zero,List.drop_succ_cons,List.drop_zero]
    repeat (first
     |(refine Ff rfl 86 #[(0,.tmp 48),(1,.tmp 51),(2,.tmp 54),(3,.tmp 57),(4,.tmp 60),(5,.tmp 63),(6,.tmp 66),(7,.tmp 69),(8,.tmp 73)] rfl (kc km) (by rw[HMK.out];kernel_rfl) ?_;simp only[Act.put,List.setIfInBounds_toArray,List.set_cons_zero,List.set_cons_succ])
     | go_big_quiet_step (fail))
    refine wpQuiet_nil ?_;rintro _ ⟨nq,rfl⟩;have HK8n:Hid ((w8.drewN nq).heap[w.heap.size]?=some (.cells (kc zK) 86 (0,0))):=O HK8.out
    go_upto_region 8 with (refine fZ km zK rfl (.tmp 4) (.tmp 74) rfl w.heap.size rfl rfl _ HK8n.out ?_)
    have HKc:Hid (((w8.drewN nq).setRow w.heap.size (kc km)).heap[w.heap.size]?=some (.cells (kc km) 86 (0,0))):=O (setRow_heap _ _ _ _ _ _ HK8n.out);have HNc:Hid (RV ((w8.drewN nq).setRow w.heap.size (kc km)) gn 152 none v5 0):=O (RV.by (x:=w8.drewN nq) HN8.out (aD _ _ _) (by have := HGX.out;have := HGXN.out;omega));have HXc:Hid (RV ((w8.drewN nq).setRow w.heap.size (kc km)) gx 152 none v2 0):=O (RV.by (x:=w8.drewN nq) HX8.out (aD _ _ _) (by have := HGX.out;omega));have HRc:Hid (RV ((w8.drewN nq).setRow w.heap.size (kc km)) g T tl v e):=O (RV.by (x:=w8.drewN nq) HR8.out (aD _ _ _) (by have := HGG.out;omega));have HGc:Hid (w.grownBy ((w8.drewN nq).setRow w.heap.size (kc km)) (some g)):=O (fv _ (w1:=w8.drewN nq) (dT HG8.out (ak nq (Oo _ _))) (Nat.le_refl _));clear q0 q1 q2 q3 q4 q5 q6 q7 q8;generalize (w8.drewN nq).setRow w.heap.size (kc km)=wc at HKc HNc HXc HRc HGc ⊢
    have s1:wc.cell? ⟨gn,1,none⟩=some (.int .i64 0):=by rw[cell_of_row _ _ _ _ _ _ HNc.out];exact gy _ 0 none
    have s2:wc.cell? ⟨gx,1,none⟩=some (.int .i64 0):=by rw[cell_of_row _ _ _ _ _ _ HXc.out];exact gy _ 0 none
    have s3:=frozen_of_row _ _ 1 _ _ HXc.out;have HWS:Hid (wc.setCell ⟨gx,1,none⟩ (.int .i64 0)=wc.setRow gx (rc v2 0 none)):=O (by rw[au _ _ _ _ _ _ _ HXc.out,jx])
    go_upto_region 9 with fail
    rw[HWS.out];have HX9:Hid (RV (wc.setRow gx (rc v2 0 none)) gx 152 none v2 0):=O (setRow_heap _ _ _ _ _ _ HXc.out);have HR9:Hid (RV (wc.setRow gx (rc v2 0 none)) g T tl v e):=O (HRc.out.by (aD _ _ _) (by have := HGX.out;have := HGG.out;omega));have HK9:Hid ((wc.setRow gx (rc v2 0 none)).heap[w.heap.size]?=some (.cells (kc km) 86 (0,0))):=O (fC HKc.out (aD _ _ _) (by have := HGX.out;omega));have HG9:Hid (w.grownBy (wc.setRow gx (rc v2 0 none)) (some g)):=O (ef HGc.out (aD _ gx _) (by have := HGX.out;omega));clear s1 s2 s3;generalize wc.setRow gx (rc v2 0 none)=w9 at HX9 HR9 HK9 HG9 ⊢
    have t1:w9.cell? ⟨gx,1,none⟩=some (.int .i64 0):=by rw[cell_of_row _ _ _ _ _ _ HX9.out];exact gy _ 0 none
    have t2:w9.cell? ⟨g,1,none⟩=some (.int .i64 e):=by rw[cell_of_row _ _ _ _ _ _ HR9.out];exact gy v e tl
    have t3:=frozen_of_row _ _ 1 _ _ HR9.out;have HWT:Hid (w9.setCell ⟨g,1,none⟩ (.int .i64 0)=w9.setRow g (rc v 0 tl)):=O (by rw[au _ _ _ _ _ _ _ HR9.out,jx])
    go_upto_region 10 with fail
    rw[HWT.out];have HRT:Hid (RV (w9.setRow g (rc v 0 tl)) g T tl v 0):=O (setRow_heap _ _ _ _ _ _ HR9.out);have HKT:Hid ((w9.setRow g (rc v 0 tl)).heap[w.heap.size]?=some (.cells (kc km) 86 (0,0))):=O (by rw[aj _ _ _ _ (by have := HGG.out;omega)];exact HK9.out);have HGT:Hid (w.grownBy (w9.setRow g (rc v 0 tl)) (some g)):=O (bg HG9.out (aD _ _ _));clear t1 t2 t3;generalize w9.setRow g (rc v 0 tl)=wt at HRT HKT HGT ⊢
    go_wp2_with (first
     |(refine dY km w.heap.size _ HKT.out rfl (.tmp 4) rfl rfl ?_)
     |(refine fZ km km rfl (.tmp 4) (.tmp 89) rfl w.heap.size rfl rfl _ HKT.out ?_))
    refine bodyPost_ret (eo rfl _ _ w.heap.size _ rfl (cM _ _ km _ (setRow_heap _ _ _ _ _ _ HKT.out))) rfl ?_;have HKR:=HKE.out;have HER:=HE3.out;refine⟨by rw[HKR];rfl,?_,fv _ HGT.out (Nat.le_refl _)⟩;rw[HER];unfold RV;rw[aj _ _ _ _ (by have := HGG.out;omega)];exact HRT.out
   ·have HKE:Hid (fV s e=zK):=O (by unfold fV;rw[HE3.out,if_neg h30])
    have HEE:=HE3
    go_upto_region 8 with fail
    have s1:w8.cell? ⟨gn,1,none⟩=some (.int .i64 e3):=by rw[cell_of_row _ _ _ _ _ _ HN8.out];exact gy _ e3 none
    have s2:w8.cell? ⟨gx,1,none⟩=some (.int .i64 0):=by rw[cell_of_row _ _ _ _ _ _ HX8.out];exact gy _ 0 none
    have s3:=frozen_of_row _ _ 1 _ _ HX8.out;have HWS:Hid (w8.setCell ⟨gx,1,none⟩ (.int .i64 e3)=w8.setRow gx (rc v2 e3 none)):=O (by rw[au _ _ _ _ _ _ _ HX8.out,jx])
    go_upto_region 9 with fail
    rw[HWS.out];have HX9:Hid (RV (w8.setRow gx (rc v2 e3 none)) gx 152 none v2 e3):=O (setRow_heap _ _ _ _ _ _ HX8.out);have HR9:Hid (RV (w8.setRow gx (rc v2 e3 none)) g T tl v e):=O (HR8.out.by (aD _ _ _) (by have := HGX.out;have := HGG.out;omega));have HK9:Hid ((w8.setRow gx (rc v2 e3 none)).heap[w.heap.size]?=some (.cells (kc zK) 86 (0,0))):=O (fC HK8.out (aD _ _ _) (by have := HGX.out;omega));have HG9:Hid (w.grownBy (w8.setRow gx (rc v2 e3 none)) (some g)):=O (ef HG8.out (aD _ gx _) (by have := HGX.out;omega));clear s1 s2 s3;generalize w8.setRow gx (rc v2 e3 none)=w9 at HX9 HR9 HK9 HG9 ⊢
    have t1:w9.cell? ⟨gx,1,none⟩=some (.int .i64 e3):=by rw[cell_of_row _ _ _ _ _ _ HX9.out];exact gy _ e3 none
    have t2:w9.cell? ⟨g,1,none⟩=some (.int .i64 e):=by rw[cell_of_row _ _ _ _ _ _ HR9.out];exact gy v e tl
    have t3:=frozen_of_row _ _ 1 _ _ HR9.out;have HWT:Hid (w9.setCell ⟨g,1,none⟩ (.int .i64 e3)=w9.setRow g (rc v e3 tl)):=O (by rw[au _ _ _ _ _ _ _ HR9.out,jx])
    go_upto_region 10 with fail
    rw[HWT.out];have HRT:Hid (RV (w9.setRow g (rc v e3 tl)) g T tl v e3):=O (setRow_heap _ _ _ _ _ _ HR9.out);have HKT:Hid ((w9.setRow g (rc v e3 tl)).heap[w.heap.size]?=some (.cells (kc zK) 86 (0,0))):=O (by rw[aj _ _ _ _ (by have := HGG.out;omega)];exact HK9.out);have HGT:Hid (w.grownBy (w9.setRow g (rc v e3 tl)) (some g)):=O (bg HG9.out (aD _ _ _));clear t1 t2 t3;generalize w9.setRow g (rc v e3 tl)=wt at HRT HKT HGT ⊢
    go_wp2_with (first
     |(refine dY zK w.heap.size _ HKT.out rfl (.tmp 4) rfl rfl ?_)
     |(refine fZ zK zK rfl (.tmp 4) (.tmp 89) rfl w.heap.size rfl rfl _ HKT.out ?_))
    refine bodyPost_ret (eo rfl _ _ w.heap.size _ rfl (cM _ _ zK _ (setRow_heap _ _ _ _ _ _ HKT.out))) rfl ?_;have HKR:=HKE.out;have HER:=HEE.out;refine⟨by rw[HKR];rfl,?_,fv _ HGT.out (Nat.le_refl _)⟩;rw[HER];unfold RV;rw[aj _ _ _ _ (by have := HGG.out;omega)];exact HRT.out
  ·go_upto_region 8 with (go_at_call 92;rw[HN8.out];refine(dK gn _ none _ nx (decide (l.length=8)) 6 _ HN5.out).mono ?_;rintro en w6 ⟨rfl,hw6⟩;have HG56:=O (gm hw6);have HN6:=O (gp HN5.out hw6);rw[EE2.out] at HN6;clear hw6;rw[EE2.out])
   have HK6:=O (fC HK5.out HG56.out (by have := HGX.out;have := HGXN.out;omega));have HR6:=O (HR5.out.by HG56.out (by have := HGX.out;have := HGG.out;have := HGXN.out;omega));have HX6:=O (HX5.out.by HG56.out (by have := HGXN.out;omega));have HG6:=O (ef HG5.out HG56.out (by have := HGX.out;have := HGXN.out;omega));have HEE:Hid (dZ s e=e2):=O (by unfold dZ;rw[HE1.out,if_pos rfl,EPS.out];show kN p0=e2;unfold kN;rw[HE2.out,if_neg (fun h=>h20 h.1)]);have HKE:Hid (fV s e=zK):=O (by unfold fV;rw[HEE.out,if_neg h20])
   have s1:w6.cell? ⟨gn,1,none⟩=some (.int .i64 e2):=by rw[cell_of_row _ _ _ _ _ _ HN6.out];exact gy _ e2 none
   have s2:w6.cell? ⟨gx,1,none⟩=some (.int .i64 0):=by rw[cell_of_row _ _ _ _ _ _ HX6.out];exact gy _ 0 none
   have s3:=frozen_of_row _ _ 1 _ _ HX6.out;have HWS:Hid (w6.setCell ⟨gx,1,none⟩ (.int .i64 e2)=w6.setRow gx (rc v2 e2 none)):=O (by rw[au _ _ _ _ _ _ _ HX6.out,jx])
   go_upto_region 9 with fail
   rw[HWS.out];have HX9:Hid (RV (w6.setRow gx (rc v2 e2 none)) gx 152 none v2 e2):=O (setRow_heap _ _ _ _ _ _ HX6.out);have HR9:Hid (RV (w6.setRow gx (rc v2 e2 none)) g T tl v e):=O (HR6.out.by (aD _ _ _) (by have := HGX.out;have := HGG.out;omega));have HK9:Hid ((w6.setRow gx (rc v2 e2 none)).heap[w.heap.size]?=some (.cells (kc zK) 86 (0,0))):=O (fC HK6.out (aD _ _ _) (by have := HGX.out;omega));have HG9:Hid (w.grownBy (w6.setRow gx (rc v2 e2 none)) (some g)):=O (ef HG6.out (aD _ gx _) (by have := HGX.out;omega));clear s1 s2 s3;generalize w6.setRow gx (rc v2 e2 none)=w9 at HX9 HR9 HK9 HG9 ⊢
   have t1:w9.cell? ⟨gx,1,none⟩=some (.int .i64 e2):=by rw[cell_of_row _ _ _ _ _ _ HX9.out];exact gy _ e2 none
   have t2:w9.cell? ⟨g,1,none⟩=some (.int .i64 e):=by rw[cell_of_row _ _ _ _ _ _ HR9.out];exact gy v e tl
   have t3:=frozen_of_row _ _ 1 _ _ HR9.out;have HWT:Hid (w9.setCell ⟨g,1,none⟩ (.int .i64 e2)=w9.setRow g (rc v e2 tl)):=O (by rw[au _ _ _ _ _ _ _ HR9.out,jx])
   go_upto_region 10 with fail
   rw[HWT.out];have HRT:Hid (RV (w9.setRow g (rc v e2 tl)) g T tl v e2):=O (setRow_heap _ _ _ _ _ _ HR9.out);have HKT:Hid ((w9.setRow g (rc v e2 tl)).heap[w.heap.size]?=some (.cells (kc zK) 86 (0,0))):=O (by rw[aj _ _ _ _ (by have := HGG.out;omega)];exact HK9.out);have HGT:Hid (w.grownBy (w9.setRow g (rc v e2 tl)) (some g)):=O (bg HG9.out (aD _ _ _));clear t1 t2 t3;generalize w9.setRow g (rc v e2 tl)=wt at HRT HKT HGT ⊢
   go_wp2_with (first
    |(refine dY zK w.heap.size _ HKT.out rfl (.tmp 4) rfl rfl ?_)
    |(refine fZ zK zK rfl (.tmp 4) (.tmp 89) rfl w.heap.size rfl rfl _ HKT.out ?_))
   refine bodyPost_ret (eo rfl _ _ w.heap.size _ rfl (cM _ _ zK _ (setRow_heap _ _ _ _ _ _ HKT.out))) rfl ?_;have HKR:=HKE.out;have HER:=HEE.out;refine⟨by rw[HKR];rfl,?_,fv _ HGT.out (Nat.le_refl _)⟩;rw[HER];unfold RV;rw[aj _ _ _ _ (by have := HGG.out;omega)];exact HRT.out
 ·have HEE:Hid (dZ s e=e1):=O (by unfold dZ;rw[HE1.out,if_neg h10])
  have HKE:Hid (fV s e=zK):=O (by unfold fV;rw[HEE.out,if_neg h10])
  have t1:w3.cell? ⟨gx,1,none⟩=some (.int .i64 e1):=by rw[cell_of_row _ _ _ _ _ _ HX3.out];exact gy _ e1 none
  have t2:w3.cell? ⟨g,1,none⟩=some (.int .i64 e):=by rw[cell_of_row _ _ _ _ _ _ HR3.out];exact gy v e tl
  have t3:=frozen_of_row _ _ 1 _ _ HR3.out;have HWT:Hid (w3.setCell ⟨g,1,none⟩ (.int .i64 e1)=w3.setRow g (rc v e1 tl)):=O (by rw[au _ _ _ _ _ _ _ HR3.out,jx])
  go_upto_region 10 with fail
  rw[HWT.out];have HRT:Hid (RV (w3.setRow g (rc v e1 tl)) g T tl v e1):=O (setRow_heap _ _ _ _ _ _ HR3.out);have HKT:Hid ((w3.setRow g (rc v e1 tl)).heap[w.heap.size]?=some (.cells (kc zK) 86 (0,0))):=O (by rw[aj _ _ _ _ (by have := HGG.out;omega)];exact HK3.out);have HGT:Hid (w.grownBy (w3.setRow g (rc v e1 tl)) (some g)):=O (bg HG3.out (aD _ _ _));clear t1 t2 t3;generalize w3.setRow g (rc v e1 tl)=wt at HRT HKT HGT ⊢
  go_wp2_with (first
   |(refine dY zK w.heap.size _ HKT.out rfl (.tmp 4) rfl rfl ?_)
   |(refine fZ zK zK rfl (.tmp 4) (.tmp 89) rfl w.heap.size rfl rfl _ HKT.out ?_))
  refine bodyPost_ret (eo rfl _ _ w.heap.size _ rfl (cM _ _ zK _ (setRow_heap _ _ _ _ _ _ HKT.out))) rfl ?_;have HKR:=HKE.out;have HER:=HEE.out;refine⟨by rw[HKR];rfl,?_,fv _ HGT.out (Nat.le_refl _)⟩;rw[HER];unfold RV;rw[aj _ _ _ _ (by have := HGG.out;omega)];exact HRT.out
end
end Go.Proofs.YtmfiaadjdbemnaaGreatDoor
