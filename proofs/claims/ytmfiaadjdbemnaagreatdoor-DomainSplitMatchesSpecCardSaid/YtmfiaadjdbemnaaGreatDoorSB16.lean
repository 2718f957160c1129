/- Contracts and lemmas. No condition. -/
import Derived.Test.YtmfiaadjdbemnaaGreatDoorSB15
import Derived.BigRegion
set_option maxRecDepth 100000
set_option maxHeartbeats 8000000
set_option linter.unusedSimpArgs false
set_option linter.unusedVariables false
namespace Go.Proofs.YtmfiaadjdbemnaaGreatDoor
open Tryz
section
open Go.RowKit Go.Shelf
def ah:Value := .slice none 0 0
def setN (b:BK) (l:List Int):BK:={ b with ep:=l.getD 0 0,num:=l.getD 1 0,fw:=l.getD 2 0,tm:=l.getD 3 0 }
def hdE (hdr:List UInt8) (e:Int):Int :=
 let r1:=rdR bz hdr e;let e1:=rdX bz hdr e
 let e2:=rdX aB r1 e1
 if e2=0∧decide ((rdV [] aB r1 e1).length=4)=false then 6 else e2
def hdB (hdr:List UInt8) (e:Int):BK :=
 let r1:=rdR bz hdr e;let e1:=rdX bz hdr e
 let b0:BK:={ zB with dom:=rdV z16 bz hdr e }
 let r2:=rdR aB r1 e1
 let e3:=hdE hdr e
 let b1:=if e3=0 then setN b0 (rdV [] aB r1 e1) else b0
 let r3:=rdR bz r2 e3;let e4:=rdX bz r2 e3
 { b1 with pol:=rdV z16 bz r2 e3,mo:=rdV [] aL r3 e4 }
def hdX (hdr:List UInt8) (e:Int):Int :=
 let r1:=rdR bz hdr e;let e1:=rdX bz hdr e
 let r2:=rdR aB r1 e1
 let e3:=hdE hdr e
 let r3:=rdR bz r2 e3;let e4:=rdX bz r2 e3
 let e5:=whX aL r3 e4
 if e5=0∧aI (hdB hdr e) []=false then 6 else e5
theorem RdE.other {α:Type} {E:El α} {w w':World} {v:Value} {l:List α} {g:Nat} (h:RdE E w v l) (hg:w.grownBy w' (some g)) (hne:v.ownBlock≠some g):RdE E w' v l:=by
 obtain⟨a,cap,rfl,h1,h2,h3⟩:=h;refine⟨a,cap,rfl,h1,h2,fun h0 => ?_⟩;obtain⟨b,off,rfl,hlt,hc⟩:=h3 h0;have hbg:b≠g:=fun e=>hne (by rw[e];rfl)
 exact⟨b,off,rfl,P_ hlt hg.size,fun j u hu=>by
  rw[World.cell?_of_block (a:=⟨b,off+j,none⟩) (hg.block b hlt (fun e=>hbg (Option.some.inj e)))]
  exact hc j u hu⟩
theorem jT (rest:List UInt8) (e:Int):(rdV [] aL rest e).length≤rest.length:=by
 rcases fM [] aL rest e with⟨_,p3,_⟩|⟨_,_,p3,_⟩|⟨_,p2,p3,_⟩
 ·rw[p3];exact N_ _
 ·rw[p3];exact N_ _
 ·rw[p3]
  have h3:=congrArg List.length (Ew rest _ _ (by rw[←p2])).1;unfold aV at h3;rw[E_,E_] at h3
  omega
structure PkS (w:World) (g:Nat) (hdr:List UInt8) (v1:Value) (e1:Int) (gh:Nat) (v0:Value) (x:World) (b:BK) (vh:Value) (hr:List UInt8) (eh:Int):Prop where
 bk:x.heap[w.heap.size]?=some (.cells (bc b ah) 47 (0,0))
 rv:RV x g 154 (some hdr) v1 e1
 hv:RV x gh 152 none vh eh
 rd:RdE eB x v0 hdr
 part:wC v0 hdr vh hr
 gr:w.grownBy x (some g)
 gb:w.heap.size<gh
 gg:g<w.heap.size
 nb:v0.ownBlock≠some w.heap.size
 le:hr.length≤hdr.length
theorem PkS.rdh {w:World} {g:Nat} {hdr:List UInt8} {v1:Value} {e1:Int} {gh:Nat} {v0:Value} {x:World} {b:BK} {vh:Value} {hr:List UInt8} {eh:Int} (h:PkS w g hdr v1 e1 gh v0 x b vh hr eh):RdE eB x vh hr:=h.part x h.rd
theorem PkS.step {w:World} {g:Nat} {hdr:List UInt8} {v1:Value} {e1:Int} {gh:Nat} {v0:Value} {x:World} {b:BK} {vh:Value} {hr:List UInt8} {eh:Int} (h:PkS w g hdr v1 e1 gh v0 x b vh hr eh) {y:World} {vh':Value} {hr':List UInt8} {eh':Int}
  (hy:x.grownBy y (some gh)) (hv':RV y gh 152 none vh' eh') (hp:wC vh hr vh' hr') (hle:hr'.length≤hr.length):PkS w g hdr v1 e1 gh v0 y b vh' hr' eh':=by
 have h1:=h.gb;have h2:=h.gg;have hbs:w.heap.size<x.heap.size:=(Q_.1 h.bk).1;refine⟨?_,?_,hv',?_,fun u hu=>hp u (h.part u hu),?_,h1,h2,h.nb,M_ hle h.le⟩
 ·rw[hy.block _ hbs (fun e=>by cases e;omega)];exact h.bk
 ·unfold RV
  rw[hy.block _ (by omega) (fun e=>by cases e;omega)];exact h.rv
 ·exact h.hv.noB h.rdh hy h.rd
 ·exact⟨hy.os.trans h.gr.os,hy.tape.trans h.gr.tape,hy.output.trans h.gr.output,M_ h.gr.size hy.size,fun k hk hne=>(hy.block k (by omega) (fun e=>by cases e;omega)).trans (h.gr.block k hk hne)⟩
theorem PkS.setB {w:World} {g:Nat} {hdr:List UInt8} {v1:Value} {e1:Int} {gh:Nat} {v0:Value} {x:World} {b:BK} {vh:Value} {hr:List UInt8} {eh:Int} (h:PkS w g hdr v1 e1 gh v0 x b vh hr eh) (b':BK) :
  PkS w g hdr v1 e1 gh v0 (x.setRow w.heap.size (bc b' ah)) b' vh hr eh:=by
 have h1:=h.gb;have h2:=h.gg;refine⟨setRow_heap _ _ _ _ _ _ h.bk,?_,?_,h.rd.other (aD _ _ _) h.nb,h.part,fv _ h.gr (A_ _),h1,h2,h.nb,h.le⟩
 ·unfold RV;rw[aj _ _ _ _ (by omega)];exact h.rv
 ·unfold RV;rw[aj _ _ _ _ (by omega)];exact h.hv
theorem PkS.on {w:World} {g:Nat} {hdr:List UInt8} {v1:Value} {e1:Int} {gh:Nat} {v0:Value} {x:World} {b:BK} {vh:Value} {hr:List UInt8} {eh:Int} (h:PkS w g hdr v1 e1 gh v0 x b vh hr eh) {y:World} (hb:Below x.heap.size x y) :
  PkS w g hdr v1 e1 gh v0 y b vh hr eh :=
 ⟨by rw[hb.block _ (Q_.1 h.bk).1];exact h.bk,h.rv.on hb,h.hv.on hb,h.rd.on hb,h.part,dT h.gr hb,h.gb,h.gg,h.nb,h.le⟩
theorem tI (v:Value) (e:Int):rc v e none = #[v,.int .i64 e]:=rfl
def SP.byt (B:Nat) (l:List UInt8):SP := .pred (fun v w=>RdE eB w v l∧∃a n c,v = .slice (some a) n c∧B≤a.block) (fun _ _ _ hb h=>⟨h.1.on hb,h.2⟩)
def SP.rdv (B:Nat) (l:List UInt8) (e:Int):SP := .pred (fun x w=>∃a n c,x = .agg #[.slice (some a) n c,.int .i64 e]∧RdE eB w (.slice (some a) n c) l∧B≤a.block) (fun _ _ _ hb ⟨a,n,c,h1,h2,h3⟩=>⟨a,n,c,h1,h2.on hb,h3⟩)
def SP.rbx (B:Nat) (l:List UInt8) (e:Int):SP := .pred (fun x w=>∃gh a n c,x = .pointer (some ⟨gh,0,none⟩)∧B≤gh∧RV w gh 152 none (.slice (some a) n c) e∧RdE eB w (.slice (some a) n c) l∧B≤a.block)
 (fun _ _ _ hb ⟨gh,a,n,c,h1,h2,h3,h4,h5⟩=>⟨gh,a,n,c,h1,h2,h3.on hb,h4.on hb,h5⟩)
attribute [local irreducible] Calls rc am bz aI
theorem K4 (g:Nat) (h0 rest:List UInt8) (v:Value) (w:World) (h1:RV w g 154 (some h0) v 0) (h2:RdE eB w v rest) (hl:rest.length≤900000) :
  Calls prog 85 #[.pointer (some ⟨g,0,none⟩)] w fun en w'=>∃v',en = .returned (.agg (bc (hdB (rdV [] aL rest 0) (rdX aL rest 0)) ah))∧RV w' g 154 (some (rdV [] aL rest 0)) v' (hdX (rdV [] aL rest 0) (rdX aL rest 0)) ∧
   wC v rest v' (rdR aL rest 0)∧w.grownBy w' (some g):=by
 have hz:=fh;have H1:=O h1;have H2:=O h2;have HGG:=O h1.lt;obtain⟨W0,hW0⟩:∃W0,W0=w.alloc (.cells (bc zB (.slice none 0 0)) 47):=⟨_,rfl⟩;have HW:=O hW0;have HB0:Hid (Below w.heap.size w W0):=O (by rw[hW0];exact(O_ _ _).alloc (A_ _) _);have HK0:Hid (W0.heap[w.heap.size]?=some (.cells (bc zB ah) 47 (0,0))):=O (by rw[hW0];exact al _ _ _ rfl);have HRD:=O (Fl g 154 (some h0) v rest 0 W0 (h1.on HB0.out) (h2.on HB0.out) hl);have HHL:Hid ((rdV [] aL rest 0).length≤900000):=O (M_ (jT rest 0) hl);generalize rdV [] aL rest 0=hdr at HRD HHL ⊢;generalize rdX aL rest 0=e1 at HRD ⊢;generalize rdR aL rest 0=rr at HRD ⊢;clear h1 h2 hl hW0
 go_enter func85,ntmps85
 go_upto_region 1 with fail
 rw[←HW.out]
 go_upto_region 2 with (go_at_call 133;refine HRD.out.mono ?_;rintro e2 w1 ⟨_,v1,rfl,rfl,hr1,hp1,hg1⟩;have HR1:=O hr1;have HP1:=O hp1;have HG1:=O hg1;have c2:w1.cell? ⟨g,2,none⟩=some (.string ⟨h0.toArray⟩):=(by rw[e_ _ _ _ _ _ _ hr1];exact Tr v1 e1 h0);have f2:=frozen_of_row _ _ 2 _ _ hr1;clear hr1 hp1 hg1)
 have HW2:Hid (w1.setCell ⟨g,2,none⟩ (.string ⟨hdr.toArray⟩)=w1.setRow g (rc v1 e1 (some hdr))):=O (by rw[au _ _ _ _ _ _ _ HR1.out,Ph]);rw[HW2.out];have HR2:Hid (RV (w1.setRow g (rc v1 e1 (some hdr))) g 154 (some hdr) v1 e1):=O (setRow_heap _ _ _ _ _ _ HR1.out);have hszW:w.heap.size<W0.heap.size:=(Q_.1 HK0.out).1
 have HK2:Hid ((w1.setRow g (rc v1 e1 (some hdr))).heap[w.heap.size]?=some (.cells (bc zB ah) 47 (0,0))):=O (by
  rw[aj _ _ _ _ (by have := HGG.out;omega),HG1.out.block _ hszW (fun e=>by cases e;have := HGG.out;omega)]
  exact HK0.out)
 have HG2:Hid (w.grownBy (w1.setRow g (rc v1 e1 (some hdr))) (some g)):=O (bg (bg (grownB g HB0.out) HG1.out) (aD _ _ _));clear c2 f2 hszW;generalize w1.setRow g (rc v1 e1 (some hdr))=w2 at HR2 HK2 HG2 ⊢;have hcv:=cw
 refine aY 12 [[],[0],[1],[2],[3],[],[5],[6],[7],[8],[4,9],[10]]
  (SP.of [.eq (.pointer (some ⟨g,0,none⟩)),.eq (.pointer (some ⟨g,0,none⟩)),.eq (.pointer (some ⟨g,2,none⟩)),.eq (.string ⟨hdr.toArray⟩),.byt w2.heap.size hdr,.eq (.pointer (some ⟨g,0,none⟩)),.eq (.pointer (some ⟨g,0,none⟩)),.eq (.pointer (some ⟨g,0,none⟩)),.eq (.pointer (some ⟨g,1,none⟩)),.eq (.int .i64 e1),.rdv w2.heap.size hdr e1,.rbx w2.heap.size hdr e1]) (fun _=>undef) ?q1 ?q2 ?q3 ?q4 ?q5 ?q6
 case q1=>kernel_rfl
 case q2=>kernel_rfl
 case q3=>kernel_rfl
 case q4 =>
  simp only[F_,c_]
  repeat (first |exact trivial|refine⟨fun vals v=>by kernel_rfl,?_⟩)
 case q5 =>
  simp only[F_,c_];refine⟨?_,?_,?_,?_,?_,?_,?_,?_,?_,?_,?_,?_,trivial⟩
  all_goals (intro wq hbq vals;simp only[Nat.reduceAdd,a_,X_,W_];have HBQ:=O hbq;have HRQ:Hid (RV wq g 154 (some hdr) v1 e1):=O (HR2.out.on hbq);clear hbq)
  case refine_5 =>
   refine aw rfl (ar ?_);intro Q hQ;simp only[ay,upd,Act.put,B_,C_,D_,Nat.reduceAdd,a_,Nat.reduceEqDiff,if_true,if_false,reduceIte];have hc1:=hcv wq hdr;have HSB:=O (bU wq hdr);have HSR:=O (fo wq hdr (by have := HHL.out;unfold maxLen;omega));generalize Lib.bytesWorld wq 5 ⟨hdr.toArray⟩=ws at hc1 HSB HSR;clear hcv;go_wp2;exact ab hQ _ (by kernel_rfl) HSB.out ⟨HSR.out,_,_,_,rfl,HBQ.out.size⟩
  case refine_11 =>
   refine aG rfl ?_;rintro _ ⟨hrd,a,n,c,rfl,hba⟩;refine aw rfl (ar ?_);intro Q hQ;simp only[ay,upd,Act.put,B_,C_,D_,Nat.reduceAdd,a_,Nat.reduceEqDiff,if_true,if_false,reduceIte];have HRDX:=O hrd;have HBA:=O hba;clear hrd hba hcv;go_wp2;exact ab hQ _ (by kernel_rfl) (O_ _ _) ⟨a,n,c,rfl,HRDX.out,HBA.out⟩
  case refine_12 =>
   refine aG rfl ?_;rintro _ ⟨a,n,c,rfl,hrd,hba⟩;refine ar ?_;intro Q hQ;simp only[ay,upd,Act.put,B_,C_,D_,Nat.reduceAdd,a_,Nat.reduceEqDiff,if_true,if_false,reduceIte];have HRDX:=O hrd;have HBA:=O hba;clear hrd hba hcv;go_wp2;exact ab hQ _ (by kernel_rfl) ((O_ _ _).alloc (A_ _) _) ⟨wq.heap.size,a,n,c,rfl,HBQ.out.size,by unfold RV;rw[tI];exact al _ _ _ rfl,HRDX.out.alloc _,HBA.out⟩
  all_goals (repeat (first |refine ar ?_|refine aw rfl ?_))
  all_goals (intro Q hQ;simp only[ay,upd,Act.put,B_,C_,D_,Nat.reduceAdd,a_,Nat.reduceEqDiff,if_true,if_false,reduceIte];clear hcv)
  case refine_4 =>
   have c2:wq.cell? ⟨g,2,none⟩=some (.string ⟨hdr.toArray⟩):=by rw[e_ _ _ _ _ _ _ HRQ.out];exact Tr v1 e1 hdr
   go_wp2;exact ab hQ _ (by kernel_rfl) (O_ _ _) rfl
  case refine_10 =>
   have c1:wq.cell? ⟨g,1,none⟩=some (.int .i64 e1):=by rw[e_ _ _ _ _ _ _ HRQ.out];exact gy v1 e1 (some hdr)
   go_wp2;exact ab hQ _ (by kernel_rfl) (O_ _ _) rfl
  all_goals go_wp2
  all_goals exact ab hQ _ (by kernel_rfl) (O_ _ _) rfl
 case q6 =>
  intro w3 hb3 vals;rw[show List.range 12=[0,1,2,3,4,5,6,7,8,9,10,11] from by decide];refine aw rfl (aw rfl (aw rfl (aw rfl (aG rfl ?_))));intro x4 hx4;refine aw rfl (aw rfl (aw rfl (aw rfl (aw rfl (aG rfl ?_)))));intro x10 hx10;refine aG rfl ?_;intro x11 hx11;refine ar ?_;obtain⟨gh,a0,n0,c0,rfl,hgh,hrv,hrd,hba⟩:=hx11;clear hx4 hx10;simp only[F_,c_,J_,L_];simp only[ay,upd,Act.put,B_,C_,D_,Nat.reduceAdd,a_,Nat.reduceEqDiff,if_true,if_false,reduceIte]
  have HS3:Hid (PkS w g hdr v1 e1 gh (.slice (some a0) n0 c0) w3 zB (.slice (some a0) n0 c0) hdr e1):=O
   ⟨by rw[hb3.block _ (Q_.1 HK2.out).1];exact HK2.out,HR2.out.on hb3,hrv,hrd,fun _ h=>h,dT HG2.out hb3,by have := (Q_.1 HK2.out).1;omega,HGG.out,fun e=>by have e2:a0.block=w.heap.size:=Option.some.inj e;have := (Q_.1 HK2.out).1;omega,A_ _⟩
  clear hb3 hrv hrd hba hgh hcv;have C4:=O (Fj gh 152 none _ hdr e1 w3 HS3.out.hv HS3.out.rdh);have HL1:=O (kB bz hdr e1);generalize hdom:rdV z16 bz hdr e1=dom at C4;generalize hr1:rdR bz hdr e1=r1 at C4 HL1;generalize hx1:rdX bz hdr e1=x1 at C4;have EDOM:=O hdom;have ER1:=O hr1;have EX1:=O hx1;clear hdom hr1 hx1
  go_upto_region 4 with (first
   |(go_at_call 135;refine C4.out.mono ?_;rintro en w4 ⟨v4,rfl,hr4,hp4,hg4⟩;have HS4:=O (HS3.out.step hg4 hr4 hp4 HL1.out);clear hr4 hp4 hg4)
   |(refine DF zB ah dom w.heap.size HS4.out.bk rfl (.tmp 26) (.tmp 25) rfl rfl rfl ?_))
  have HS5:=O (HS4.out.setB { zB with dom:=dom });generalize w4.setRow w.heap.size (bc { zB with dom:=dom } ah)=w5 at HS5 ⊢;generalize hb0:{ zB with dom:=dom }=b0 at HS5;have EB0:=O hb0;have C5:=O (Fk gh 152 none _ r1 x1 w5 HS5.out.hv HS5.out.rdh (by have := HS5.out.le;have := HHL.out;omega));have HL2:=O (kB aB r1 x1);generalize hl:rdV [] aB r1 x1=l at C5;generalize hr2:rdR aB r1 x1=r2 at C5 HL2;generalize hx2:rdX aB r1 x1=x2 at C5;have EL:=O hl;have ER2:=O hr2;have EX2:=O hx2;have HN:Hid ((((l.length:Int) == 4)=decide (l.length=4))):=O (by by_cases h0:l.length=4 <;> simp[h0];omega);clear hb0 hl hr2 hx2;generalize he3:(if x2=0∧decide (l.length=4)=false then 6 else x2)=e3;have E3:=O he3;clear he3
  go_upto_if 33 with (first
   |(go_at_call 137;refine C5.out.mono ?_;rintro en w6 ⟨x6,v6,rfl,ho6,hr6,hp6,hg6⟩;have HO6:=O ho6;have HS6:=O (HS5.out.step hg6 hr6 hp6 HL2.out);obtain⟨la,lc,rfl,_,_,_⟩:=ho6.rd;clear hr6 hp6 hg6 ho6)
   |(go_at_call 92;rw[HN.out];refine(dK gh _ none _ x2 (decide (l.length=4)) 6 _ HS6.out.hv).mono ?_;rintro en w7 ⟨rfl,hw7⟩;have HG7:=O (gm hw7);have HR7:=O (gp HS6.out.hv hw7);rw[E3.out] at HR7;clear hw7;rw[E3.out]))
  have HS7:=O (HS6.out.step HG7.out HR7.out (fun _ h=>h) (A_ _));have hgh5:gh<w5.heap.size:=HS5.out.hv.lt;have HO7:=O (HO6.out.grown HG7.out (fun g2 hg2=>by cases hg2;exact HO6.out.neOld hgh5));generalize hb1:(if e3=0 then setN b0 l else b0)=b1;have EB1:=O hb1;clear hb1 hgh5
  go_cut [33] from 34 to 49 (fun _ wc=>Hid (PkS w g hdr v1 e1 gh (.slice (some a0) n0 c0) wc b1 v6 r2 e3))
  case first =>
   by_cases h30:e3=0
   ·have hd:decide (e3=0)=true:=decide_eq_true h30
    have hl4:l.length=4:=by
     have h:=E3.out;rw[h30] at h
     split at h
     ·cases h
     ·rename_i hn
      exact Decidable.of_not_not (fun h4=>hn ⟨h,V_ h4⟩)
    obtain⟨m0,m1,m2,m3,rfl⟩:∃m0 m1 m2 m3,l=[m0,m1,m2,m3]:=by
     match l,hl4 with
     | [m0,m1,m2,m3],_=>exact⟨m0,m1,m2,m3,rfl⟩
    obtain⟨bl,off,rfl,hbl,aO⟩:=iE HO7.out.rd (by simp);have y0:=aO 0 (by simp);have y1:=aO 1 (by simp);have y2:=aO 2 (by simp);have y3:=aO 3 (by simp);rw[Nat.add_zero] at y0;simp only[List.getElem_cons_zero,List.getElem_cons_succ] at y0 y1 y2 y3;have hge:w5.heap.size≤bl:=(HO7.out.lt bl rfl).1;have hgb5:w.heap.size<w5.heap.size:=(Q_.1 HS5.out.bk).1
    have z1:w.heap.size≠bl:=by omega
    have z2:bl≠w.heap.size:=by omega
    have k16:w7.cell? ⟨w.heap.size,16,none⟩=some (.int .i64 b0.ep):=by rw[e_ _ _ _ _ _ _ HS7.out.bk];exact uj b0 ah
    have k17:w7.cell? ⟨w.heap.size,17,none⟩=some (.int .i64 b0.num):=by rw[e_ _ _ _ _ _ _ HS7.out.bk];exact sy b0 ah
    have k18:w7.cell? ⟨w.heap.size,18,none⟩=some (.int .i64 b0.fw):=by rw[e_ _ _ _ _ _ _ HS7.out.bk];exact ul b0 ah
    have k19:w7.cell? ⟨w.heap.size,19,none⟩=some (.int .i64 b0.tm):=by rw[e_ _ _ _ _ _ _ HS7.out.bk];exact um b0 ah
    have f16:=frozen_of_row _ _ 16 _ _ HS7.out.bk;have f17:=frozen_of_row _ _ 17 _ _ HS7.out.bk;have f18:=frozen_of_row _ _ 18 _ _ HS7.out.bk;have f19:=frozen_of_row _ _ 19 _ _ HS7.out.bk;have HEB:Hid (setN b0 [m0,m1,m2,m3]=b1):=O (by rw[←EB1.out,G_ h30])
    have HW8:Hid ((((w7.setCell ⟨w.heap.size,16,none⟩ (.int .i64 m0)).setCell ⟨w.heap.size,17,none⟩ (.int .i64 m1)).setCell ⟨w.heap.size,18,none⟩ (.int .i64 m2)).setCell ⟨w.heap.size,19,none⟩ (.int .i64 m3)=w7.setRow w.heap.size (bc (setN b0 [m0,m1,m2,m3]) ah)):=O (by
     have q1:=HS7.out.bk;rw[au _ _ _ _ _ _ _ q1,uq];rw[au _ _ _ _ _ _ _ (setRow_heap _ _ _ _ _ _ q1),ur,eD];rw[au _ _ _ _ _ _ _ (setRow_heap _ _ _ _ _ _ q1),IH,eD];rw[au _ _ _ _ _ _ _ (setRow_heap _ _ _ _ _ _ q1),II,eD]
     rfl)
    clear aO hge hgb5 hl4 hd;go_wp2
    go_region
    all_goals go_wp2
    all_goals go_meet
    case rel =>
     have hs:=HS7.out.setB (setN b0 [m0,m1,m2,m3]);rw[←HW8.out] at hs;rw[←HEB.out];exact O (hs.on (ak 1 (O_ _ _)))
   ·have hd:decide (e3=0)=false:=V_ h30
    have HEB:Hid (b0=b1):=O (by rw[←EB1.out,H_ h30]);clear hd;go_wp2
    all_goals go_meet
    case rel=>rw[←HEB.out];exact HS7
  case rest =>
   have HST:=O hcut.out;have C8:=O (Fj gh 152 none v6 r2 e3 wc HST.out.hv HST.out.rdh);have HL3:=O (kB bz r2 e3);generalize hpol:rdV z16 bz r2 e3=pol at C8;generalize hr3:rdR bz r2 e3=r3 at C8 HL3;generalize hx4:rdX bz r2 e3=x4' at C8;have EPOL:=O hpol;have ER3:=O hr3;have EX4:=O hx4;clear hpol hr3 hx4 hcut
   go_upto_region 8 with (first
    |(go_at_call 135;refine C8.out.mono ?_;rintro en w8 ⟨v8,rfl,hr8,hp8,hg8⟩;have HS8:=O (HST.out.step hg8 hr8 hp8 HL3.out);clear hr8 hp8 hg8)
    |(refine TS b1 ah pol w.heap.size HS8.out.bk rfl (.tmp 52) (.tmp 51) rfl rfl rfl ?_))
   have HS9:=O (HS8.out.setB { b1 with pol:=pol });generalize w8.setRow w.heap.size (bc { b1 with pol:=pol } ah)=w9 at HS9 ⊢;generalize hb2:{ b1 with pol:=pol }=b2 at HS9;have EB2:=O hb2;have C9:=O (MA gh 152 none _ r3 x4' w9 HS9.out.hv HS9.out.rdh (by have := HS9.out.le;have := HHL.out;omega));have HL4:=O (kB aL r3 x4');have HML:=O (M_ (jT r3 x4') HS9.out.le);generalize hmo:rdV [] aL r3 x4'=mo at C9 HML;generalize rdR aL r3 x4'=r4 at C9 HL4;generalize hx5:whX aL r3 x4'=x5 at C9;have EMO:=O hmo;have EX5:=O hx5;clear hb2 hmo hx5
   go_upto_region 9 with (go_at_call 139;refine C9.out.mono ?_;rintro en w10 ⟨_,v10,rfl,rfl,hr10,hp10,hg10⟩;have HS10:=O (HS9.out.step hg10 hr10 hp10 HL4.out);have k36:w10.cell? ⟨w.heap.size,36,none⟩=some (.string ⟨b2.mo.toArray⟩):=(by rw[e_ _ _ _ _ _ _ HS10.out.bk];exact uo b2 ah);have f36:=frozen_of_row _ _ 36 _ _ HS10.out.bk;clear hr10 hp10 hg10)
   have HW11:Hid (w10.setCell ⟨w.heap.size,36,none⟩ (.string ⟨mo.toArray⟩)=w10.setRow w.heap.size (bc { b2 with mo:=mo } ah)):=O (by rw[au _ _ _ _ _ _ _ HS10.out.bk,IJ]);rw[HW11.out];have HS11:=O (HS10.out.setB { b2 with mo:=mo });clear k36 f36;generalize w10.setRow w.heap.size (bc { b2 with mo:=mo } ah)=w11 at HS11 ⊢;have HMO3:Hid (({ b2 with mo:=mo }:BK).mo.length≤maxLen):=O (by have := HML.out;have := HHL.out;show mo.length≤maxLen;unfold maxLen;omega);generalize hb3:{ b2 with mo:=mo }=b3 at HS11 HMO3;have EB3:=O hb3;have C11:=O (rf b3 ah [] w11 ⟨none,0,rfl,A_ _,by unfold maxLen;omega,fun h=>absurd h (by simp)⟩ (fun i hi=>absurd hi (by simp)) HMO3.out);clear hb3;generalize hva:aI b3 []=va at C11;have EVA:=O hva;clear hva;generalize he6:(if x5=0∧va=false then 6 else x5)=x6;have E6:=O he6;clear he6
   go_upto_region 10 with (first
    |(refine cH b3 ah rfl (.tmp 2) rfl w.heap.size rfl _ HS11.out.bk ?_)
    |(go_at_call 76;refine C11.out.mono ?_;rintro en w12 ⟨rfl,hb12⟩;have HS12:=O (HS11.out.on hb12);clear hb12)
    |(go_at_call 92;refine(dK gh _ none _ x5 va 6 _ HS12.out.hv).mono ?_;rintro en w13 ⟨rfl,hw13⟩;have HG13:=O (gm hw13);have HR13:=O (gp HS12.out.hv hw13);rw[E6.out] at HR13;clear hw13;rw[E6.out]))
   have HS13:=O (HS12.out.step HG13.out HR13.out (fun _ h=>h) (A_ _))
   have m1:w13.cell? ⟨gh,1,none⟩=some (.int .i64 x6):=by rw[e_ _ _ _ _ _ _ HS13.out.hv];exact gy _ x6 none
   have m2:w13.cell? ⟨g,1,none⟩=some (.int .i64 e1):=by rw[e_ _ _ _ _ _ _ HS13.out.rv];exact gy _ e1 (some hdr)
   have m3:=frozen_of_row _ _ 1 _ _ HS13.out.rv;have HW14:Hid (w13.setCell ⟨g,1,none⟩ (.int .i64 x6)=w13.setRow g (rc v1 x6 (some hdr))):=O (by rw[au _ _ _ _ _ _ _ HS13.out.rv,jx])
   go_upto_region 11 with fail
   rw[HW14.out];have HR14:Hid (RV (w13.setRow g (rc v1 x6 (some hdr))) g 154 (some hdr) v1 x6):=O (setRow_heap _ _ _ _ _ _ HS13.out.rv);have HK14:Hid ((w13.setRow g (rc v1 x6 (some hdr))).heap[w.heap.size]?=some (.cells (bc b3 ah) 47 (0,0))):=O (by rw[aj _ _ _ _ (by have := HGG.out;omega)];exact HS13.out.bk);have HG14:Hid (w.grownBy (w13.setRow g (rc v1 x6 (some hdr))) (some g)):=O (bg HS13.out.gr (aD _ _ _));clear m1 m2 m3;generalize w13.setRow g (rc v1 x6 (some hdr))=w14 at HR14 HK14 HG14 ⊢
   go_wp2_with (first
    |(refine cH b3 ah rfl (.tmp 2) rfl w.heap.size rfl _ HK14.out ?_)
    |(refine wpList_store_row rfl 47 (.tmp 2) (.tmp 68) rfl w.heap.size (bc b3 ah) rfl rfl _ _ HK14.out (by rw[aC];exact dU) rfl (dl _ _ _ _) ?_))
   refine g_ (eo rfl _ _ w.heap.size _ rfl (aX _ _ b3 ah _ (setRow_heap _ _ _ _ _ _ HK14.out))) rfl ?_
   have HDE:hdE hdr e1=e3:=by
    unfold hdE;simp only[ER1.out,EX1.out,EX2.out,EL.out];exact E3.out
   have HDB:hdB hdr e1=b3:=by
    unfold hdB;simp only[EDOM.out,ER1.out,EX1.out,EL.out,ER2.out,HDE,EPOL.out,ER3.out,EX4.out,EMO.out];rw[←EB3.out,←EB2.out,←EB1.out,←EB0.out]
   have HDX:hdX hdr e1=x6:=by
    unfold hdX;simp only[HDB,ER1.out,EX1.out,ER2.out,HDE,ER3.out,EX4.out,EX5.out,EVA.out];exact E6.out
   refine⟨v1,by rw[HDB],?_,HP1.out,fv _ HG14.out (A_ _)⟩;rw[HDX];unfold RV;rw[aj _ _ _ _ (by have := HGG.out;omega)];exact HR14.out
end
section
open Go.RowKit Go.Shelf
def zK:K:=⟨0,0,[],0,0,0,0,0,false⟩
def mkK (l:List Int) (v:List UInt8):K:=⟨l.getD 0 0,l.getD 1 0,v,l.getD 2 0,l.getD 3 0,l.getD 4 0,l.getD 5 0,l.getD 6 0,l.getD 7 0 == 1⟩
def kE2 (p:List UInt8):Int:=if whX aB p 0=0∧decide ((rdV [] aB p 0).length=8)=false then 6 else whX aB p 0
def kN (p:List UInt8):Int:=if kE2 p=0∧win ((rdV [] aB p 0).getD 7 0) 0 1=false then 6 else kE2 p
def kE1 (s:List UInt8) (e:Int):Int:=if whX aE s e=0∧decide ((rdV [] aE s e).length=2)=false then 6 else whX aE s e
def dZ (s:List UInt8) (e:Int):Int:=if kE1 s e=0 then kN ((rdV [] aE s e).getD 0 []) else kE1 s e
def fV (s:List UInt8) (e:Int):K:=if dZ s e=0 then mkK (rdV [] aB ((rdV [] aE s e).getD 0 []) 0) ((rdV [] aE s e).getD 1 []) else zK
theorem yu:(prog.info? 86).map (·.zero)=some (some (.agg (kc zK))):=by kernel_rfl
theorem rp (w:World):(zeroValue 86).run prog w = .ok (.agg (kc zK)) w:=by
 have h:=yu;generalize kc zK=L at h ⊢
 cases hq:prog.info? 86 with
 | none=>rw[hq] at h;cases h
 | some i =>
   rw[hq] at h
   simp at h
   simp[zeroValue,typeInfo,hq,h]
theorem fC {x y:World} {g k:Nat} {o:Obj} (h:x.heap[k]?=some o) (hy:x.grownBy y (some g)) (hne:k≠g):y.heap[k]?=some o:=by
 rw[hy.block _ (Q_.1 h).1 (fun e=>hne (Option.some.inj e))];exact h
theorem RV.by {x y:World} {g k:Nat} {T:TypeId} {tl:Option (List UInt8)} {v:Value} {e:Int} (h:RV x k T tl v e) (hy:x.grownBy y (some g)) (hne:k≠g):RV y k T tl v e:=fC h hy hne
theorem ap.byO {α:Type} {E:El α} {x y:World} {ai:Nat} {v:Value} {l:List α} {g:Nat} (h:ap E x ai v l) (hy:x.grownBy y (some g)) (hne:g<ai):ap E y ai v l :=
 h.grown hy (fun g2 hg2=>by cases hg2;exact h.neOld hne)
theorem ef {w x y:World} {g g2:Nat} (h:w.grownBy x (some g)) (hy:x.grownBy y (some g2)) (hge:w.heap.size≤g2):w.grownBy y (some g) :=
 ⟨hy.os.trans h.os,hy.tape.trans h.tape,hy.output.trans h.output,M_ h.size hy.size,fun k hk hne=>(hy.block k (P_ hk h.size) (fun e=>by cases e;omega)).trans (h.block k hk hne)⟩
theorem dY {ops:Array Oper} {rest:List Oper} {o:Oper} {a:Act} {w:World} {Q:Exit→Act→World→Prop} (k:K) (g:Nat) (T:TypeId) (hg:w.heap[g]?=some (.cells (kc k) T (0,0)))
  (hgd:o.guard=none) (x:Operand) (ho:o.op = .load 86 x) (hx:a.eval x = .pointer (some ⟨g,0,none⟩))
  (h:wpList prog ops Q rest (a.put o.dst (.agg (kc k))) w):wpList prog ops Q (o::rest) a w :=
 wpList_load_row hgd _ x ho g hx _ (kc k) (0,0) _ hg underlying86 rfl (by kernel_rfl) h
theorem jR (k:K):(kc k).all (·.oneCell')=true:=by
 unfold kc
 simp[Value.oneCell']
theorem fZ {ops:Array Oper} {rest:List Oper} {o:Oper} {a:Act} {w:World} {Q:Exit→Act→World→Prop} (k k0:K) (hgd:o.guard=none) (x y:Operand) (ho:o.op = .store 86 x y)
  (g:Nat) (hx:a.eval x = .pointer (some ⟨g,0,none⟩)) (hy:a.eval y = .agg (kc k)) (T:TypeId) (hg:w.heap[g]?=some (.cells (kc k0) T (0,0)))
  (h:wpList prog ops Q rest (a.put o.dst undef) (w.setRow g (kc k))):wpList prog ops Q (o::rest) a w :=
 wpList_store_row hgd _ x y ho g (kc k) hx hy T (kc k0) hg (by kernel_rfl) rfl (jR k) h
theorem cM (w:World) (g:Nat) (k:K) (T:TypeId) (hg:w.heap[g]?=some (.cells (kc k) T (0,0))):(loadVar 86 ⟨g,0,none⟩).run prog w = .ok (.agg (kc k)) w :=
 run_loadVar_row w g T 86 (kc k) (0,0) _ hg underlying86 rfl (by kernel_rfl)
theorem Ff {ops:Array Oper} {C:World→Prop} {Q:Act→Prop} {a:Act} {o:Oper} {rest:List Oper} (hw:Region.wanted o (yielded ops a.tmps)=true) (T:TypeId) (parts:Array (Nat × Operand)) (ho:o.op = .build T parts)
  (cs:Array Value) (hb:prog.built T (parts.map fun (i,x)=>(i,a.eval x)).toList=some cs) (h:wpQuiet prog ops C Q rest (a.put o.dst (.agg cs))):wpQuiet prog ops C Q (o::rest) a:=by
 unfold wpQuiet;rw[G_ hw];refine⟨.agg cs,fun w' hw' => ?_,h⟩;unfold Oper.quietAt execOp;simp only[ho,Sem.run_bind,Sem.run_pure,Result.andThen_ok,run_build w' T _ cs hb];exact⟨rfl,rfl⟩
theorem Kq (l:List (List UInt8)) (x:List UInt8) (h:x∈l):x.length≤(ea aV l).length:=by
 induction l with
 | nil=>cases h
 | cons y l ih =>
   rw[eL,E_]
   rcases List.mem_cons.1 h with rfl|h
   ·unfold aV;rw[E_];omega
   ·have := ih h;omega
theorem qM (s:List UInt8) (e:Int) (x:List UInt8) (h:x∈rdV [] aE s e):x.length≤s.length:=by
 rcases fM [] aE s e with⟨_,p3,_⟩|⟨_,_,p3,_⟩|⟨_,p2,p3,_⟩
 ·rw[p3] at h;cases h
 ·rw[p3] at h;cases h
 ·rw[p3] at h
  have h3:=congrArg List.length (tn hI s _ _ (show j8 aL s=((aE s).1,(aE s).2.1,0) by rw[←p2];rfl)).1;have h4:=Kq _ x h;unfold kX at h3;rw[E_,E_] at h3
  omega
attribute [local irreducible] Calls rc win
theorem V0 (g:Nat) (T:TypeId) (tl:Option (List UInt8)) (v:Value) (e:Int) (s:List UInt8) (w:World) (h1:RV w g T tl v e) (hl:s.length≤900000) :
  Calls prog 91 #[.pointer (some ⟨g,0,none⟩),.string ⟨s.toArray⟩] w fun en w'=>en = .returned (kv (fV s e))∧RV w' g T tl v (dZ s e)∧w.grownBy w' (some g):=by
 have hz:=rp;have HL:=O hl;have HGG:=O h1.lt;obtain⟨W0,hW0⟩:∃W0,W0=w.alloc (.cells (kc zK) 86):=⟨_,rfl⟩;have HW:=O hW0;have HB0:Hid (Below w.heap.size w W0):=O (by rw[hW0];exact(O_ _ _).alloc (A_ _) _);have HK0:Hid (W0.heap[w.heap.size]?=some (.cells (kc zK) 86 (0,0))):=O (by rw[hW0];exact al _ _ _ rfl);have HR0:Hid (RV W0 g T tl v e):=O (h1.on HB0.out)
 have c1:W0.cell? ⟨g,1,none⟩=some (.int .i64 e):=by rw[e_ _ _ _ _ _ _ HR0.out];exact gy v e tl
 have hcv:=cw W0 s;have HSB:=O (bU W0 s);have HSR:=O (fo W0 s (by unfold maxLen;omega));generalize Lib.bytesWorld W0 5 ⟨s.toArray⟩=ws at hcv HSB HSR
 have c1s:ws.cell? ⟨g,1,none⟩=some (.int .i64 e):=by rw[HSB.out.cell (p:=⟨g,1,none⟩) HR0.out.lt];exact c1
 generalize hn0:(Value.slice (some ⟨W0.heap.size,0,none⟩) s.length (grownCap W0 s.length 0 5))=vx at hcv HSR;have HVX:=O hn0;rw[←hn0] at hcv;clear h1 hl hW0 hn0 c1
 go_enter func91,ntmps91
 go_upto_region 1 with fail
 rw[←HW.out]
 go_upto_region 2 with fail
 have HX1:Hid (RV (ws.alloc (.cells #[.slice (some ⟨W0.heap.size,0,none⟩) s.length (grownCap W0 s.length 0 5),.int .i64 e] 152)) ws.heap.size 152 none vx e):=O (by unfold RV;rw[tI,←HVX.out];exact al _ _ _ rfl);have HA1:=O ((O_ ws.heap.size ws).alloc (A_ _) (.cells #[.slice (some ⟨W0.heap.size,0,none⟩) s.length (grownCap W0 s.length 0 5),.int .i64 e] 152));have HGX:Hid (w.heap.size<ws.heap.size):=O (P_ (Q_.1 HK0.out).1 HSB.out.size);generalize ws.alloc (.cells #[.slice (some ⟨W0.heap.size,0,none⟩) s.length (grownCap W0 s.length 0 5),.int .i64 e] 152)=w1 at HX1 HA1 ⊢;have HB1:Hid (Below W0.heap.size W0 w1):=O (HSB.out.trans (HA1.out.mono HSB.out.size));have HK1:Hid (w1.heap[w.heap.size]?=some (.cells (kc zK) 86 (0,0))):=O (by rw[HB1.out.block _ (Q_.1 HK0.out).1];exact HK0.out);have HR1:=O (HR0.out.on HB1.out);have HG1:=O (dT (grownB g HB0.out) HB1.out);have HRX:=O (HSR.out.on HA1.out);generalize hgx:ws.heap.size=gx at HX1 HGX;clear hcv c1s hgx;have C2:=O (Co gx 152 none vx s e w1 HX1.out HRX.out HL.out);generalize hps:rdV [] aE s e=ps at C2;generalize rdR aE s e=rr at C2;generalize hpx:whX aE s e=px at C2;have EPS:=O hps;have EPX:=O hpx;have HN:Hid ((((ps.length:Int) == 2)=decide (ps.length=2))):=O (by by_cases h0:ps.length=2 <;> simp[h0];omega);generalize he1:(if px=0∧decide (ps.length=2)=false then 6 else px)=e1;have EE1:=O he1;have HE1:Hid (kE1 s e=e1):=O (by unfold kE1;rw[hps,hpx,he1]);clear hps hpx he1;have hgx1:=HX1.out.lt;have HGX1:=O hgx1;clear hgx1
 go_upto_if 23 with (first
  |(go_at_call 89;refine C2.out.mono ?_;rintro en w2 ⟨x2,v2,rfl,ho2,hr2,hp2,hg2⟩;have HO2:=O ho2;have HX2:=O hr2;have HG12:=O hg2;obtain⟨pa,pc2,rfl,_,_,_⟩:=ho2.rd;clear hr2 hp2 hg2 ho2)
  |(go_at_call 92;rw[HN.out];refine(dK gx _ none _ px (decide (ps.length=2)) 6 _ HX2.out).mono ?_;rintro en w3 ⟨rfl,hw3⟩;have HG23:=O (gm hw3);have HX3:=O (gp HX2.out hw3);rw[EE1.out] at HX3;clear hw3;rw[EE1.out]))
 have HG13:=O (bg HG12.out HG23.out);have HK3:=O (fC HK1.out HG13.out (by have := HGX.out;omega));have HR3:=O (HR1.out.by HG13.out (by have := HGX.out;have := HGG.out;omega));have HG3:=O (ef HG1.out HG13.out (by have := HGX.out;omega));have HO3:=O (HO2.out.byO HG23.out HGX1.out)
 by_cases h10:e1=0
 ·subst h10
  have hl2:ps.length=2:=by
   have h:=EE1.out
   split at h
   ·cases h
   ·rename_i hn
    exact Decidable.of_not_not (fun h4=>hn ⟨h,V_ h4⟩)
  obtain⟨p0,p1,rfl⟩:∃p0 p1,ps=[p0,p1]:=by
   match ps,hl2 with
   | [p0,p1],_=>exact⟨p0,p1,rfl⟩
  have HPL:Hid (p0.length≤900000):=O (M_ (qM s e p0 (by rw[EPS.out];simp)) HL.out);obtain⟨bp,op,rfl,hbp,aO⟩:=dQ HO3.out.rd (by simp);have y0:=aO 0 (by simp);rw[Nat.add_zero] at y0;simp only[List.getElem_cons_zero] at y0;have hcv3:=cw w3 p0;have HSB3:=O (bU w3 p0);have HSR3:=O (fo w3 p0 (by have := HPL.out;unfold maxLen;omega));generalize Lib.bytesWorld w3 5 ⟨p0.toArray⟩=ws3 at hcv3 HSB3 HSR3;generalize hn3:(Value.slice (some ⟨w3.heap.size,0,none⟩) p0.length (grownCap w3 p0.length 0 5))=vn at HSR3;have HVN:=O hn3;clear aO hl2 hn3
  go_upto_region 5 with fail
  have HN4:Hid (RV (ws3.alloc (.cells #[.slice (some ⟨w3.heap.size,0,none⟩) p0.length (grownCap w3 p0.length 0 5),.int .i64 0] 152)) ws3.heap.size 152 none vn 0):=O (by unfold RV;rw[tI,←HVN.out];exact al _ _ _ rfl);have HA4:=O ((O_ ws3.heap.size ws3).alloc (A_ _) (.cells #[.slice (some ⟨w3.heap.size,0,none⟩) p0.length (grownCap w3 p0.length 0 5),.int .i64 0] 152));have HGN:Hid (w3.heap.size≤ws3.heap.size):=O HSB3.out.size;generalize ws3.alloc (.cells #[.slice (some ⟨w3.heap.size,0,none⟩) p0.length (grownCap w3 p0.length 0 5),.int .i64 0] 152)=w4 at HN4 HA4 ⊢;have HB34:Hid (Below w3.heap.size w3 w4):=O (HSB3.out.trans (HA4.out.mono HSB3.out.size));have HK4:Hid (w4.heap[w.heap.size]?=some (.cells (kc zK) 86 (0,0))):=O (by rw[HB34.out.block _ (Q_.1 HK3.out).1];exact HK3.out);have HR4:=O (HR3.out.on HB34.out);have HX4:=O (HX3.out.on HB34.out);have HG4:=O (dT HG3.out HB34.out);have HRN:=O (HSR3.out.on HA4.out);have HO4:=O (HO3.out.on HB34.out);have HGXN:Hid (gx<ws3.heap.size):=O (P_ HX3.out.lt HSB3.out.size);have HPN:Hid (bp<ws3.heap.size):=O (P_ hbp HSB3.out.size);have HPO:Hid (w1.heap.size≤bp):=O (HO3.out.lt bp rfl).1;generalize hgn:ws3.heap.size=gn at HN4 HGN HGXN HPN;clear hcv3 y0 hbp hgn;have C5:=O (Mz gn 152 none vn p0 0 w4 HN4.out HRN.out HPL.out);generalize hls:rdV [] aB p0 0=l at C5;generalize rdR aB p0 0=rr5 at C5;generalize hnx:whX aB p0 0=nx at C5;have ELS:=O hls;have ENX:=O hnx;have HN8:Hid ((((l.length:Int) == 8)=decide (l.length=8))):=O (by by_cases h0:l.length=8 <;> simp[h0];omega);generalize he2:(if nx=0∧decide (l.length=8)=false then 6 else nx)=e2;have EE2:=O he2;have HE2:Hid (kE2 p0=e2):=O (by unfold kE2;rw[hls,hnx,he2]);clear hls hnx he2;have HGN4:Hid (gn<w4.heap.size):=O HN4.out.lt
  go_upto_region 6 with (go_at_call 145;refine C5.out.mono ?_;rintro en w5 ⟨x5,v5,rfl,ho5,hr5,hp5,hg5⟩;have HO5:=O ho5;have HN5:=O hr5;have HG45:=O hg5;obtain⟨la,lc,rfl,_,_,_⟩:=ho5.rd;clear hr5 hp5 hg5 ho5)
  have HK5:=O (fC HK4.out HG45.out (by have := HGX.out;have := HGXN.out;omega));have HR5:=O (HR4.out.by HG45.out (by have := HGX.out;have := HGG.out;have := HGXN.out;omega));have HX5:=O (HX4.out.by HG45.out (by have := HGXN.out;omega));have HG5:=O (ef HG4.out HG45.out (by have := HGX.out;have := HGXN.out;omega));have HO45:=O (HO4.out.grown HG45.out (fun g2 hg2=>by cases hg2;intro e9;have e10:bp=gn:=Option.some.inj e9;have := HPN.out;omega))
  by_cases h20:e2=0
  ·subst h20
   have hl8:l.length=8:=by
    have h:=EE2.out
    split at h
    ·cases h
    ·rename_i hn
     exact Decidable.of_not_not (fun h4=>hn ⟨h,V_ h4⟩)
   have HL8:=O hl8;obtain⟨bl,ol,rfl,hbl,aO⟩:=iE HO5.out.rd (by omega);have hbl4:w4.heap.size≤bl:=(HO5.out.lt bl rfl).1;have HBL4:=O hbl4
   have HROW:Hid (∀y,w5.grownBy y (some gn)→∀j (hj:j<l.length),y.cell? ⟨bl,ol+j,none⟩=some (.int .i64 l[j])):=O (by
    intro y hy j hj;rw[World.cell?_of_block (a:=⟨bl,ol+j,none⟩) (hy.block bl hbl (fun e=>by have e2:=Option.some.inj e;have := HGN4.out;omega))]
    exact aO j hj)
   have i7n:7<l.length:=by omega
   have i7:(7:Int)<l.length:=by omega
   obtain⟨m7,hm7⟩:∃m,m=l[7]:=⟨_,rfl⟩;have HM7:=O hm7;have HD7:Hid (l.getD 7 0=m7):=O (by rw[hm7,I_,K_ i7n];rfl);clear hm7;generalize he3:(if (0:Int)=0∧win m7 0 1=false then (6:Int) else 0)=e3;have EE3:=O he3;have HE3:Hid (dZ s e=e3):=O (by unfold dZ;rw[HE1.out,G_ rfl,EPS.out];show kN p0=e3;unfold kN;rw[HE2.out,ELS.out,HD7.out];exact he3);clear aO hl8 hbl4 hbl he3;generalize hwn:win m7 0 1=wn at EE3;have HWN:Hid ([m7].all (fun n=>win n 0 1)=wn):=O (by rw[←hwn];simp);clear hwn
   go_upto_if 45 with (first
    |(go_at_call 92;rw[HN8.out];refine(dK gn _ none _ nx (decide (l.length=8)) 6 _ HN5.out).mono ?_;rintro en w6 ⟨rfl,hw6⟩;have HG56:=O (gm hw6);have HN6:=O (gp HN5.out hw6);rw[EE2.out] at HN6;have y7:=(HROW.out w6 HG56.out 7 (by have := HL8.out;omega));rw[←HM7.out] at y7;clear hw6;rw[EE2.out])
    |(go_at_call 117;refine(rl 1 _ [m7] _ (bi1 _ m7)).mono ?_;rw[HWN.out];rintro en w7 ⟨rfl,hb7⟩;have HB67:=O (((O_ w6.heap.size w6).alloc (A_ _) (.cells #[.int .i64 m7] 3)).trans (hb7.mono (by simp)));have HN7:=O (HN6.out.on HB67.out);clear hb7 y7)
    |(go_at_call 92;refine(dK gn _ none _ 0 wn 6 _ HN7.out).mono ?_;rintro en w8 ⟨rfl,hw8⟩;have HG78:=O (gm hw8);have hif:(if (0:Int)=0∧wn=false then (6:Int) else 0)=e3:=(by have h2:=EE3.out;simpa using h2);have HN8':=O (gp HN7.out hw8);rw[hif] at HN8';clear hw8;rw[hif];clear hif))
   have HK6:=O (fC HK5.out HG56.out (by have := HGX.out;have := HGXN.out;omega));have HR6:=O (HR5.out.by HG56.out (by have := HGX.out;have := HGG.out;have := HGXN.out;omega));have HX6:=O (HX5.out.by HG56.out (by have := HGXN.out;omega));have HG6:=O (ef HG5.out HG56.out (by have := HGX.out;have := HGXN.out;omega));have HG58:Hid (w5.grownBy w8 (some gn)):=O (bg (dT HG56.out HB67.out) HG78.out);have HK8:=O (fC HK5.out HG58.out (by have := HGX.out;have := HGXN.out;omega));have HR8:=O (HR5.out.by HG58.out (by have := HGX.out;have := HGG.out;have := HGXN.out;omega));have HX8:=O (HX5.out.by HG58.out (by have := HGXN.out;omega));have HG8:=O (ef HG5.out HG58.out (by have := HGX.out;have := HGXN.out;omega));clear HN8;have HN8:=HN8';clear HN8' HK6 HR6 HX6 HG6
   by_cases h30:e3=0
   ·obtain⟨m0,m1,m2,m3,m4,m5,m6,n7,rfl⟩:∃m0 m1 m2 m3 m4 m5 m6 m7,l=[m0,m1,m2,m3,m4,m5,m6,m7]:=by
     have h8:=HL8.out
     match l,h8 with
     | [m0,m1,m2,m3,m4,m5,m6,m7],_=>exact⟨m0,m1,m2,m3,m4,m5,m6,m7,rfl⟩
    obtain rfl:m7=n7:=HM7.out;subst h30;have HP8:Hid (ap eS w8 w1.heap.size (.slice (some ⟨bp,op,none⟩) [p0,p1].length pc2) [p0,p1]):=O (HO45.out.grown HG58.out (fun g2 hg2=>by cases hg2;intro e9;have e10:bp=gn:=Option.some.inj e9;have := HPN.out;omega));have HKE:Hid (fV s e=mkK [m0,m1,m2,m3,m4,m5,m6,m7] p1):=O (by unfold fV;rw[HE3.out,G_ rfl,EPS.out];show mkK (rdV [] aB p0 0) p1=_;rw[ELS.out]);have HMK:Hid (kc (mkK [m0,m1,m2,m3,m4,m5,m6,m7] p1) = #[.int .i64 m0,.int .i64 m1,.string ⟨p1.toArray⟩,.int .i64 m2,.int .i64 m3,.int .i64 m4,.int .i64 m5,.int .i64 m6,.bool (m7 == 1)]):=O rfl;generalize mkK [m0,m1,m2,m3,m4,m5,m6,m7] p1=km at HKE HMK;have q0:=HROW.out w8 HG58.out 0 (by simp);have q1:=HROW.out w8 HG58.out 1 (by simp);have q2:=HROW.out w8 HG58.out 2 (by simp);have q3:=HROW.out w8 HG58.out 3 (by simp);have q4:=HROW.out w8 HG58.out 4 (by simp);have q5:=HROW.out w8 HG58.out 5 (by simp);have q6:=HROW.out w8 HG58.out 6 (by simp);have q7:=HROW.out w8 HG58.out 7 (by simp);obtain⟨bp2,op2,hbe,_,hrow2⟩:=dQ HP8.out.rd (by simp)
    cases hbe
    have q8:=hrow2 1 (by simp);simp only[List.getElem_cons_zero,List.getElem_cons_succ] at q0 q1 q2 q3 q4 q5 q6 q7 q8;rw[Nat.add_zero] at q0;clear hrow2
    go_upto_region 7 with fail
    try dsimp only[Act.put]
    refine dD 29 (by kernel_rfl) (by kernel_rfl) ?_;simp only[F_,c_,J_,L_]
    repeat (first
     |(refine Ff rfl 86 #[(0,.tmp 48),(1,.tmp 51),(2,.tmp 54),(3,.tmp 57),(4,.tmp 60),(5,.tmp 63),(6,.tmp 66),(7,.tmp 69),(8,.tmp 73)] rfl (kc km) (by rw[HMK.out];kernel_rfl) ?_;simp only[Act.put,B_,C_,D_])
     | go_big_quiet_step (fail))
    refine h_ ?_;rintro _ ⟨nq,rfl⟩;have HK8n:Hid ((w8.drewN nq).heap[w.heap.size]?=some (.cells (kc zK) 86 (0,0))):=O HK8.out
    go_upto_region 8 with (refine fZ km zK rfl (.tmp 4) (.tmp 74) rfl w.heap.size rfl rfl _ HK8n.out ?_)
    have HKc:Hid (((w8.drewN nq).setRow w.heap.size (kc km)).heap[w.heap.size]?=some (.cells (kc km) 86 (0,0))):=O (setRow_heap _ _ _ _ _ _ HK8n.out);have HNc:Hid (RV ((w8.drewN nq).setRow w.heap.size (kc km)) gn 152 none v5 0):=O (RV.by (x:=w8.drewN nq) HN8.out (aD _ _ _) (by have := HGX.out;have := HGXN.out;omega));have HXc:Hid (RV ((w8.drewN nq).setRow w.heap.size (kc km)) gx 152 none v2 0):=O (RV.by (x:=w8.drewN nq) HX8.out (aD _ _ _) (by have := HGX.out;omega));have HRc:Hid (RV ((w8.drewN nq).setRow w.heap.size (kc km)) g T tl v e):=O (RV.by (x:=w8.drewN nq) HR8.out (aD _ _ _) (by have := HGG.out;omega));have HGc:Hid (w.grownBy ((w8.drewN nq).setRow w.heap.size (kc km)) (some g)):=O (fv _ (w1:=w8.drewN nq) (dT HG8.out (ak nq (O_ _ _))) (A_ _));clear q0 q1 q2 q3 q4 q5 q6 q7 q8;generalize (w8.drewN nq).setRow w.heap.size (kc km)=wc at HKc HNc HXc HRc HGc ⊢
    have s1:wc.cell? ⟨gn,1,none⟩=some (.int .i64 0):=by rw[e_ _ _ _ _ _ _ HNc.out];exact gy _ 0 none
    have s2:wc.cell? ⟨gx,1,none⟩=some (.int .i64 0):=by rw[e_ _ _ _ _ _ _ HXc.out];exact gy _ 0 none
    have s3:=frozen_of_row _ _ 1 _ _ HXc.out;have HWS:Hid (wc.setCell ⟨gx,1,none⟩ (.int .i64 0)=wc.setRow gx (rc v2 0 none)):=O (by rw[au _ _ _ _ _ _ _ HXc.out,jx])
    go_upto_region 9 with fail
    rw[HWS.out];have HX9:Hid (RV (wc.setRow gx (rc v2 0 none)) gx 152 none v2 0):=O (setRow_heap _ _ _ _ _ _ HXc.out);have HR9:Hid (RV (wc.setRow gx (rc v2 0 none)) g T tl v e):=O (HRc.out.by (aD _ _ _) (by have := HGX.out;have := HGG.out;omega));have HK9:Hid ((wc.setRow gx (rc v2 0 none)).heap[w.heap.size]?=some (.cells (kc km) 86 (0,0))):=O (fC HKc.out (aD _ _ _) (by have := HGX.out;omega));have HG9:Hid (w.grownBy (wc.setRow gx (rc v2 0 none)) (some g)):=O (ef HGc.out (aD _ gx _) (by have := HGX.out;omega));clear s1 s2 s3;generalize wc.setRow gx (rc v2 0 none)=w9 at HX9 HR9 HK9 HG9 ⊢
    have t1:w9.cell? ⟨gx,1,none⟩=some (.int .i64 0):=by rw[e_ _ _ _ _ _ _ HX9.out];exact gy _ 0 none
    have t2:w9.cell? ⟨g,1,none⟩=some (.int .i64 e):=by rw[e_ _ _ _ _ _ _ HR9.out];exact gy v e tl
    have t3:=frozen_of_row _ _ 1 _ _ HR9.out;have HWT:Hid (w9.setCell ⟨g,1,none⟩ (.int .i64 0)=w9.setRow g (rc v 0 tl)):=O (by rw[au _ _ _ _ _ _ _ HR9.out,jx])
    go_upto_region 10 with fail
    rw[HWT.out];have HRT:Hid (RV (w9.setRow g (rc v 0 tl)) g T tl v 0):=O (setRow_heap _ _ _ _ _ _ HR9.out);have HKT:Hid ((w9.setRow g (rc v 0 tl)).heap[w.heap.size]?=some (.cells (kc km) 86 (0,0))):=O (by rw[aj _ _ _ _ (by have := HGG.out;omega)];exact HK9.out);have HGT:Hid (w.grownBy (w9.setRow g (rc v 0 tl)) (some g)):=O (bg HG9.out (aD _ _ _));clear t1 t2 t3;generalize w9.setRow g (rc v 0 tl)=wt at HRT HKT HGT ⊢
    go_wp2_with (first
     |(refine dY km w.heap.size _ HKT.out rfl (.tmp 4) rfl rfl ?_)
     |(refine fZ km km rfl (.tmp 4) (.tmp 89) rfl w.heap.size rfl rfl _ HKT.out ?_))
    refine g_ (eo rfl _ _ w.heap.size _ rfl (cM _ _ km _ (setRow_heap _ _ _ _ _ _ HKT.out))) rfl ?_;have HKR:=HKE.out;have HER:=HE3.out;refine⟨by rw[HKR];rfl,?_,fv _ HGT.out (A_ _)⟩;rw[HER];unfold RV;rw[aj _ _ _ _ (by have := HGG.out;omega)];exact HRT.out
   ·have HKE:Hid (fV s e=zK):=O (by unfold fV;rw[HE3.out,H_ h30])
    have HEE:=HE3
    go_upto_region 8 with fail
    have s1:w8.cell? ⟨gn,1,none⟩=some (.int .i64 e3):=by rw[e_ _ _ _ _ _ _ HN8.out];exact gy _ e3 none
    have s2:w8.cell? ⟨gx,1,none⟩=some (.int .i64 0):=by rw[e_ _ _ _ _ _ _ HX8.out];exact gy _ 0 none
    have s3:=frozen_of_row _ _ 1 _ _ HX8.out;have HWS:Hid (w8.setCell ⟨gx,1,none⟩ (.int .i64 e3)=w8.setRow gx (rc v2 e3 none)):=O (by rw[au _ _ _ _ _ _ _ HX8.out,jx])
    go_upto_region 9 with fail
    rw[HWS.out];have HX9:Hid (RV (w8.setRow gx (rc v2 e3 none)) gx 152 none v2 e3):=O (setRow_heap _ _ _ _ _ _ HX8.out);have HR9:Hid (RV (w8.setRow gx (rc v2 e3 none)) g T tl v e):=O (HR8.out.by (aD _ _ _) (by have := HGX.out;have := HGG.out;omega));have HK9:Hid ((w8.setRow gx (rc v2 e3 none)).heap[w.heap.size]?=some (.cells (kc zK) 86 (0,0))):=O (fC HK8.out (aD _ _ _) (by have := HGX.out;omega));have HG9:Hid (w.grownBy (w8.setRow gx (rc v2 e3 none)) (some g)):=O (ef HG8.out (aD _ gx _) (by have := HGX.out;omega));clear s1 s2 s3;generalize w8.setRow gx (rc v2 e3 none)=w9 at HX9 HR9 HK9 HG9 ⊢
    have t1:w9.cell? ⟨gx,1,none⟩=some (.int .i64 e3):=by rw[e_ _ _ _ _ _ _ HX9.out];exact gy _ e3 none
    have t2:w9.cell? ⟨g,1,none⟩=some (.int .i64 e):=by rw[e_ _ _ _ _ _ _ HR9.out];exact gy v e tl
    have t3:=frozen_of_row _ _ 1 _ _ HR9.out;have HWT:Hid (w9.setCell ⟨g,1,none⟩ (.int .i64 e3)=w9.setRow g (rc v e3 tl)):=O (by rw[au _ _ _ _ _ _ _ HR9.out,jx])
    go_upto_region 10 with fail
    rw[HWT.out];have HRT:Hid (RV (w9.setRow g (rc v e3 tl)) g T tl v e3):=O (setRow_heap _ _ _ _ _ _ HR9.out);have HKT:Hid ((w9.setRow g (rc v e3 tl)).heap[w.heap.size]?=some (.cells (kc zK) 86 (0,0))):=O (by rw[aj _ _ _ _ (by have := HGG.out;omega)];exact HK9.out);have HGT:Hid (w.grownBy (w9.setRow g (rc v e3 tl)) (some g)):=O (bg HG9.out (aD _ _ _));clear t1 t2 t3;generalize w9.setRow g (rc v e3 tl)=wt at HRT HKT HGT ⊢
    go_wp2_with (first
     |(refine dY zK w.heap.size _ HKT.out rfl (.tmp 4) rfl rfl ?_)
     |(refine fZ zK zK rfl (.tmp 4) (.tmp 89) rfl w.heap.size rfl rfl _ HKT.out ?_))
    refine g_ (eo rfl _ _ w.heap.size _ rfl (cM _ _ zK _ (setRow_heap _ _ _ _ _ _ HKT.out))) rfl ?_;have HKR:=HKE.out;have HER:=HEE.out;refine⟨by rw[HKR];rfl,?_,fv _ HGT.out (A_ _)⟩;rw[HER];unfold RV;rw[aj _ _ _ _ (by have := HGG.out;omega)];exact HRT.out
  ·go_upto_region 8 with (go_at_call 92;rw[HN8.out];refine(dK gn _ none _ nx (decide (l.length=8)) 6 _ HN5.out).mono ?_;rintro en w6 ⟨rfl,hw6⟩;have HG56:=O (gm hw6);have HN6:=O (gp HN5.out hw6);rw[EE2.out] at HN6;clear hw6;rw[EE2.out])
   have HK6:=O (fC HK5.out HG56.out (by have := HGX.out;have := HGXN.out;omega));have HR6:=O (HR5.out.by HG56.out (by have := HGX.out;have := HGG.out;have := HGXN.out;omega));have HX6:=O (HX5.out.by HG56.out (by have := HGXN.out;omega));have HG6:=O (ef HG5.out HG56.out (by have := HGX.out;have := HGXN.out;omega));have HEE:Hid (dZ s e=e2):=O (by unfold dZ;rw[HE1.out,G_ rfl,EPS.out];show kN p0=e2;unfold kN;rw[HE2.out,H_ (fun h=>h20 h.1)]);have HKE:Hid (fV s e=zK):=O (by unfold fV;rw[HEE.out,H_ h20])
   have s1:w6.cell? ⟨gn,1,none⟩=some (.int .i64 e2):=by rw[e_ _ _ _ _ _ _ HN6.out];exact gy _ e2 none
   have s2:w6.cell? ⟨gx,1,none⟩=some (.int .i64 0):=by rw[e_ _ _ _ _ _ _ HX6.out];exact gy _ 0 none
   have s3:=frozen_of_row _ _ 1 _ _ HX6.out;have HWS:Hid (w6.setCell ⟨gx,1,none⟩ (.int .i64 e2)=w6.setRow gx (rc v2 e2 none)):=O (by rw[au _ _ _ _ _ _ _ HX6.out,jx])
   go_upto_region 9 with fail
   rw[HWS.out];have HX9:Hid (RV (w6.setRow gx (rc v2 e2 none)) gx 152 none v2 e2):=O (setRow_heap _ _ _ _ _ _ HX6.out);have HR9:Hid (RV (w6.setRow gx (rc v2 e2 none)) g T tl v e):=O (HR6.out.by (aD _ _ _) (by have := HGX.out;have := HGG.out;omega));have HK9:Hid ((w6.setRow gx (rc v2 e2 none)).heap[w.heap.size]?=some (.cells (kc zK) 86 (0,0))):=O (fC HK6.out (aD _ _ _) (by have := HGX.out;omega));have HG9:Hid (w.grownBy (w6.setRow gx (rc v2 e2 none)) (some g)):=O (ef HG6.out (aD _ gx _) (by have := HGX.out;omega));clear s1 s2 s3;generalize w6.setRow gx (rc v2 e2 none)=w9 at HX9 HR9 HK9 HG9 ⊢
   have t1:w9.cell? ⟨gx,1,none⟩=some (.int .i64 e2):=by rw[e_ _ _ _ _ _ _ HX9.out];exact gy _ e2 none
   have t2:w9.cell? ⟨g,1,none⟩=some (.int .i64 e):=by rw[e_ _ _ _ _ _ _ HR9.out];exact gy v e tl
   have t3:=frozen_of_row _ _ 1 _ _ HR9.out;have HWT:Hid (w9.setCell ⟨g,1,none⟩ (.int .i64 e2)=w9.setRow g (rc v e2 tl)):=O (by rw[au _ _ _ _ _ _ _ HR9.out,jx])
   go_upto_region 10 with fail
   rw[HWT.out];have HRT:Hid (RV (w9.setRow g (rc v e2 tl)) g T tl v e2):=O (setRow_heap _ _ _ _ _ _ HR9.out);have HKT:Hid ((w9.setRow g (rc v e2 tl)).heap[w.heap.size]?=some (.cells (kc zK) 86 (0,0))):=O (by rw[aj _ _ _ _ (by have := HGG.out;omega)];exact HK9.out);have HGT:Hid (w.grownBy (w9.setRow g (rc v e2 tl)) (some g)):=O (bg HG9.out (aD _ _ _));clear t1 t2 t3;generalize w9.setRow g (rc v e2 tl)=wt at HRT HKT HGT ⊢
   go_wp2_with (first
    |(refine dY zK w.heap.size _ HKT.out rfl (.tmp 4) rfl rfl ?_)
    |(refine fZ zK zK rfl (.tmp 4) (.tmp 89) rfl w.heap.size rfl rfl _ HKT.out ?_))
   refine g_ (eo rfl _ _ w.heap.size _ rfl (cM _ _ zK _ (setRow_heap _ _ _ _ _ _ HKT.out))) rfl ?_;have HKR:=HKE.out;have HER:=HEE.out;refine⟨by rw[HKR];rfl,?_,fv _ HGT.out (A_ _)⟩;rw[HER];unfold RV;rw[aj _ _ _ _ (by have := HGG.out;omega)];exact HRT.out
 ·have HEE:Hid (dZ s e=e1):=O (by unfold dZ;rw[HE1.out,H_ h10])
  have HKE:Hid (fV s e=zK):=O (by unfold fV;rw[HEE.out,H_ h10])
  have t1:w3.cell? ⟨gx,1,none⟩=some (.int .i64 e1):=by rw[e_ _ _ _ _ _ _ HX3.out];exact gy _ e1 none
  have t2:w3.cell? ⟨g,1,none⟩=some (.int .i64 e):=by rw[e_ _ _ _ _ _ _ HR3.out];exact gy v e tl
  have t3:=frozen_of_row _ _ 1 _ _ HR3.out;have HWT:Hid (w3.setCell ⟨g,1,none⟩ (.int .i64 e1)=w3.setRow g (rc v e1 tl)):=O (by rw[au _ _ _ _ _ _ _ HR3.out,jx])
  go_upto_region 10 with fail
  rw[HWT.out];have HRT:Hid (RV (w3.setRow g (rc v e1 tl)) g T tl v e1):=O (setRow_heap _ _ _ _ _ _ HR3.out);have HKT:Hid ((w3.setRow g (rc v e1 tl)).heap[w.heap.size]?=some (.cells (kc zK) 86 (0,0))):=O (by rw[aj _ _ _ _ (by have := HGG.out;omega)];exact HK3.out);have HGT:Hid (w.grownBy (w3.setRow g (rc v e1 tl)) (some g)):=O (bg HG3.out (aD _ _ _));clear t1 t2 t3;generalize w3.setRow g (rc v e1 tl)=wt at HRT HKT HGT ⊢
  go_wp2_with (first
   |(refine dY zK w.heap.size _ HKT.out rfl (.tmp 4) rfl rfl ?_)
   |(refine fZ zK zK rfl (.tmp 4) (.tmp 89) rfl w.heap.size rfl rfl _ HKT.out ?_))
  refine g_ (eo rfl _ _ w.heap.size _ rfl (cM _ _ zK _ (setRow_heap _ _ _ _ _ _ HKT.out))) rfl ?_;have HKR:=HKE.out;have HER:=HEE.out;refine⟨by rw[HKR];rfl,?_,fv _ HGT.out (A_ _)⟩;rw[HER];unfold RV;rw[aj _ _ _ _ (by have := HGG.out;omega)];exact HRT.out
end
end Go.Proofs.YtmfiaadjdbemnaaGreatDoor
