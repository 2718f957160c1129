/- Contracts and lemmas. No condition. -/
import Derived.Test.YtmfiaadjdbemnaaGreatDoorSB14
set_option maxRecDepth 100000
set_option maxHeartbeats 8000000
set_option linter.unusedSimpArgs false
set_option linter.unusedVariables false
namespace Go.Proofs.YtmfiaadjdbemnaaGreatDoor
open Tryz
section
variable {ops:Array Oper} {rest:List Oper} {o:Oper} {a:Act} {w:World} {Q:Exit→Act→World→Prop}
section
open Go.RowKit Go.Shelf
section
variable {α:Type}
def rdV (z:α) (dec:List UInt8→α × Nat × Int) (rest:List UInt8) (e:Int):α:=if e≠0∨(dec rest).2.2≠0 then z else (dec rest).1
def rdR (dec:List UInt8→α × Nat × Int) (rest:List UInt8) (e:Int):List UInt8:=if e≠0∨(dec rest).2.2≠0 then rest else rest.drop (dec rest).2.1
def rdX (dec:List UInt8→α × Nat × Int) (rest:List UInt8) (e:Int):Int:=if e≠0 then e else (dec rest).2.2
theorem fM (z:α) (dec:List UInt8→α × Nat × Int) (rest:List UInt8) (e:Int):(e≠0∧rdV z dec rest e=z∧rdR dec rest e=rest∧rdX dec rest e=e) ∨
  (e=0∧(dec rest).2.2≠0∧rdV z dec rest e=z∧rdR dec rest e=rest∧rdX dec rest e=(dec rest).2.2) ∨
  (e=0∧(dec rest).2.2=0∧rdV z dec rest e=(dec rest).1∧rdR dec rest e=rest.drop (dec rest).2.1∧rdX dec rest e=0):=by
 unfold rdV rdR rdX
 by_cases h:e=0
 ·by_cases h2:(dec rest).2.2=0
  ·exact .inr (.inr ⟨h,h2,by simp[h,h2],by simp[h,h2],by simp[h,h2]⟩)
  ·exact .inr (.inl ⟨h,h2,by simp[h,h2],by simp[h,h2],by simp[h]⟩)
 ·exact .inl ⟨h,by simp[h],by simp[h],by simp[h]⟩
def whX (dec:List UInt8→α × Nat × Int) (rest:List UInt8) (e:Int):Int:=if rdX dec rest e=0∧(decide ((rdR dec rest e).length=0))=false then 6 else rdX dec rest e
theorem kB (dec:List UInt8→α × Nat × Int) (rest:List UInt8) (e:Int):(rdR dec rest e).length≤rest.length:=by
 unfold rdR
 split
 ·exact A_ _
 ·rw[S_];omega
end
theorem RS.noB {w:World} {g:Nat} {T:TypeId} {tl:Option (List UInt8)} {rest:List UInt8} {e:Int} (h:RS w g T tl rest e) {w':World} (hg:w.grownBy w' (some g)) {v:Value} {b:List UInt8} (hv:RdE eB w v b):RdE eB w' v b:=by
 obtain⟨v2,h1,a,c,rfl,_⟩:=h;refine hv.grownK aN hg h1 ?_;intro x _ j u hu
 simp at hu
 subst hu;exact Lf j x
theorem iK (w:World) (r:Option Nat):w.grownBy w r:=⟨rfl,rfl,rfl,A_ _,fun _ _ _=>rfl⟩
theorem qV {w:World} {v:Value} {b:List UInt8} (hv:RdE eB w v b) (i:Nat) (hi:i≤b.length) :
  ∃v',(∀wx,(Instr.slice 80 v (some (.int .i64 i)) none none).run prog wx = .ok v' wx)∧(∀u,RdE eB u v b→RdE eB u v' (b.drop i))∧∃a n c,v' = .slice a n c:=by
 obtain⟨a,cap,rfl,h1,h2,h3⟩:=hv;refine⟨sliced a i b.length cap 1,?_,?_,_,_,_,rfl⟩
 ·intro wx
  rw[run_slice_l wx _ a _ cap mm .i64 _ (by omega) (by omega),pH]
  simp[Result.andThen]
 ·intro u hu
  have h:=jV hu i b.length hi (A_ _)
  rwa [Y_ (by rw[S_];exact A_ _)] at h
def wC (v:Value) (rest:List UInt8) (v':Value) (rest':List UInt8):Prop:=∀u,RdE eB u v rest→RdE eB u v' rest'
def RV (w:World) (g:Nat) (T:TypeId) (tl:Option (List UInt8)) (v:Value) (e:Int):Prop:=w.heap[g]?=some (.cells (rc v e tl) T (0,0))
theorem RV.lt {w:World} {g:Nat} {T:TypeId} {tl:Option (List UInt8)} {v:Value} {e:Int} (h:RV w g T tl v e):g<w.heap.size:=(Q_.1 h).1
theorem RV.on {w w':World} {g:Nat} {T:TypeId} {tl:Option (List UInt8)} {v:Value} {e:Int} (h:RV w g T tl v e) (hb:Below w.heap.size w w'):RV w' g T tl v e:=by
 unfold RV;rw[hb.block _ h.lt];exact h
theorem RV.noB {w:World} {g:Nat} {T:TypeId} {tl:Option (List UInt8)} {v:Value} {rest:List UInt8} {e:Int} (h:RV w g T tl v e) (h2:RdE eB w v rest) {w':World} (hg:w.grownBy w' (some g)) {x:Value} {b:List UInt8} (hv:RdE eB w x b):RdE eB w' x b :=
 RS.noB ⟨v,h,h2⟩ hg hv
theorem gp {w w':World} {g:Nat} {T:TypeId} {tl:Option (List UInt8)} {v:Value} {e e2:Int} {ok:Bool} (h:RV w g T tl v e) (hw:w'=if e=0∧ok=false then w.setRow g (rc v e2 tl) else w):RV w' g T tl v (if e=0∧ok=false then e2 else e):=by
 rw[hw]
 split
 ·exact setRow_heap _ _ _ _ _ _ h
 ·exact h
theorem gm {w w':World} {g:Nat} {tl:Option (List UInt8)} {v:Value} {e e2:Int} {ok:Bool} (hw:w'=if e=0∧ok=false then w.setRow g (rc v e2 tl) else w):w.grownBy w' (some g):=by
 rw[hw]
 split
 ·exact aD _ _ _
 ·exact iK _ _
attribute [local irreducible] Calls rc am
theorem Fl (g:Nat) (T:TypeId) (tl:Option (List UInt8)) (v:Value) (rest:List UInt8) (e:Int) (w:World) (h1:RV w g T tl v e) (h2:RdE eB w v rest) (hl:rest.length≤900000) :
  Calls prog 133 #[.pointer (some ⟨g,0,none⟩),.func (.func 134) #[] #[]] w fun en w'=>∃x v',en = .returned x∧x = .string ⟨(rdV [] aL rest e).toArray⟩∧RV w' g T tl v' (rdX aL rest e)∧wC v rest v' (rdR aL rest e)∧w.grownBy w' (some g):=by
 have H1:=O h1;have H2:=O h2;have HL:=O hl;have HLT:=O h1.lt
 have c0:w.cell? ⟨g,0,none⟩=some v:=by rw[e_ _ _ _ _ _ _ h1];exact s9 v e tl
 have c1:w.cell? ⟨g,1,none⟩=some (.int .i64 e):=by rw[e_ _ _ _ _ _ _ h1];exact gy v e tl
 have HGET:=O (uX v rest w h2);obtain⟨ad,cap,hvf,_,_,_⟩:=h2;have HVF:=O hvf;clear hvf
 rcases fM [] aL rest e with⟨p1,p2,p3,p4⟩|⟨p1,p2,p3,p4,p5⟩|⟨p1,p2,p3,p4,p5⟩
 ·have HP2:=O p2
  have HP3:=O p3;have HP4:=O p4
  have i1:(e != 0)=true:=by simpa using p1
  clear p1 p2 p3 p4 h1 hl
  go_enter func133,ntmps133
  go_wp2;go_ret;exact⟨_,v,rfl,by rw[HP2.out];exact rfl,by rw[HP4.out];exact H1.out,by rw[HP3.out];exact fun _ h=>h,iK _ _⟩
 ·subst p1
  have HP3:=O p3;have HP4:=O p4;have HP5:=O p5;generalize aL rest=d at HGET p2 HP5;obtain⟨xs,u,er⟩:=d;simp only at p2 HGET HP5
  have i1:(er == 0)=false:=by simpa using p2
  have HP2:=O p2;clear p2 p3 p4 p5 h1 hl
  go_enter func133,ntmps133
  go_wp2_with (first
   |(go_at_call 134;refine HGET.out.mono ?_;rintro e1 w1 ⟨rfl,hw1⟩;have HB1:Hid (Below w.heap.size w w1):=(O (by rw[hw1];exact O_ _ _));clear hw1;simp only[mH])
   |(go_at_call 92;refine(dK g T tl v 0 false er _ (H1.out.on HB1.out)).mono ?_;rw[G_ ⟨rfl,rfl⟩,G_ ⟨rfl,rfl⟩,V_ HP2.out];rintro e2 w2 ⟨rfl,hw2⟩;have HR2:Hid (RV w2 g T tl v er):=(O (by rw[hw2];exact setRow_heap _ _ _ _ _ _ (H1.out.on HB1.out)));have HG2:Hid (w.grownBy w2 (some g)):=(O (by rw[hw2];exact bg (grownB g HB1.out) (aD _ _ _)));clear hw2))
  go_ret;exact⟨_,v,rfl,by rw[HP3.out];exact rfl,by rw[HP5.out];exact HR2.out,by rw[HP4.out];exact fun _ h=>h,HG2.out⟩
 ·subst p1
  have HP3:=O p3;have HP4:=O p4;have HP5:=O p5;have HUS:=O (hI.used rest p2).1;generalize aL rest=d at HGET p2 HP3 HP4 HUS;obtain⟨xs,u,er⟩:=d;simp only at p2 HGET HP3 HP4 HUS;subst p2;clear p3 p4 p5 h1 hl
  go_enter func133,ntmps133
  go_upto_region 6 with (first
   |(go_at_call 134;refine HGET.out.mono ?_;rintro e1 w1 ⟨rfl,hw1⟩;have HB1:Hid (Below w.heap.size w w1):=(O (by rw[hw1];exact O_ _ _));clear hw1;simp only[mH])
   |(go_at_call 92;refine(dK g T tl v 0 true 0 _ (H1.out.on HB1.out)).mono ?_;rw[H_ (fun h=>by cases h.2),H_ (fun h=>by cases h.2),decide_eq_true rfl];rintro e2 w2 ⟨rfl,hw2⟩;rw[hw2];clear hw2))
  have HK1:Hid (RV w1 g T tl v 0):=O (H1.out.on HB1.out)
  have d0:w1.cell? ⟨g,0,none⟩=some v:=by rw[e_ _ _ _ _ _ _ HK1.out];exact s9 v 0 tl
  have f0:=frozen_of_row _ _ 0 _ _ HK1.out;rw[HVF.out] at d0;obtain⟨vs,hs,hp,a3,n3,c3,rfl⟩:=qV H2.out u HUS.out;rw[HVF.out] at hs;have HPT:=O hp;have HW3:Hid (w1.setCell ⟨g,0,none⟩ (.slice a3 n3 c3)=w1.setRow g (rc (.slice a3 n3 c3) 0 tl)):=O (by rw[au _ _ _ _ _ _ _ HK1.out,tJ]);clear hp;go_wp2;go_ret;rw[HW3.out];refine⟨_,.slice a3 n3 c3,rfl,by rw[HP3.out];exact rfl,by rw[HP5.out];exact setRow_heap _ _ _ _ _ _ HK1.out,by rw[HP4.out];exact HPT.out,bg (grownB g HB1.out) (aD _ _ _)⟩
theorem MA (g:Nat) (T:TypeId) (tl:Option (List UInt8)) (v:Value) (rest:List UInt8) (e:Int) (w:World) (h1:RV w g T tl v e) (h2:RdE eB w v rest) (hl:rest.length≤900000) :
  Calls prog 139 #[.pointer (some ⟨g,0,none⟩),.func (.func 134) #[] #[]] w fun en w'=>∃x v',en = .returned x∧x = .string ⟨(rdV [] aL rest e).toArray⟩∧RV w' g T tl v' (whX aL rest e)∧wC v rest v' (rdR aL rest e)∧w.grownBy w' (some g):=by
 have HLT:=O h1.lt;have H1:=O h1;have H2:=O h2;have HCALL:=O (Fl g T tl v rest e w h1 h2 hl);have HWX:Hid (whX aL rest e=if rdX aL rest e=0∧(decide ((rdR aL rest e).length=0))=false then 6 else rdX aL rest e):=O rfl;generalize rdR aL rest e=rr at HWX HCALL ⊢;generalize rdX aL rest e=ex at HWX HCALL;generalize rdV [] aL rest e=rv at HCALL ⊢;clear h1 h2
 go_enter func139,ntmps139
 go_upto_region 2 with (go_at_call 133;refine HCALL.out.mono ?_;rintro e1 w1 ⟨_,v1,rfl,rfl,hr1,hp1,hg1⟩;have HR1:=O hr1;have HPT1:=O hp1;have HG1:=O hg1;clear hr1 hg1 hp1)
 have d0:w1.cell? ⟨g,0,none⟩=some v1:=by rw[e_ _ _ _ _ _ _ HR1.out];exact s9 v1 ex tl
 have HRD1:=O (HPT1.out w1 (H1.out.noB H2.out HG1.out H2.out));obtain⟨a2,c2,rfl,_,_,_⟩:=HRD1.out;have HN:Hid ((((rr.length:Int) == 0)=decide (rr.length=0))):=O (by by_cases h0:rr.length=0 <;> simp[h0])
 go_wp2_with (go_at_call 92;rw[HN.out];refine(dK g T tl _ ex (decide (rr.length=0)) 6 _ HR1.out).mono ?_;rw[←HWX.out];rintro e2 w2 ⟨rfl,hw2⟩;have HR2:Hid (RV w2 g T tl _ _):=(O (gp HR1.out hw2));have HG12:=O (gm hw2);have HG2:=O (bg HG1.out HG12.out);clear hw2)
 go_ret;exact⟨_,_,rfl,rfl,by rw[HWX.out];exact HR2.out,HPT1.out,HG2.out⟩
theorem Fk (g:Nat) (T:TypeId) (tl:Option (List UInt8)) (v:Value) (rest:List UInt8) (e:Int) (w:World) (h1:RV w g T tl v e) (h2:RdE eB w v rest) (hl:rest.length≤900000) :
  Calls prog 137 #[.pointer (some ⟨g,0,none⟩),.func (.func 138) #[] #[]] w fun en w'=>∃x v',en = .returned x∧ap eI w' w.heap.size x (rdV [] aB rest e)∧RV w' g T tl v' (rdX aB rest e)∧wC v rest v' (rdR aB rest e)∧w.grownBy w' (some g):=by
 have H1:=O h1;have H2:=O h2;have HL:=O hl;have HLT:=O h1.lt
 have c0:w.cell? ⟨g,0,none⟩=some v:=by rw[e_ _ _ _ _ _ _ h1];exact s9 v e tl
 have c1:w.cell? ⟨g,1,none⟩=some (.int .i64 e):=by rw[e_ _ _ _ _ _ _ h1];exact gy v e tl
 have HGET:=O (GF v rest w h2 hl);obtain⟨ad,cap,hvf,_,_,_⟩:=h2;have HVF:=O hvf;clear hvf
 rcases fM [] aB rest e with⟨p1,p2,p3,p4⟩|⟨p1,p2,p3,p4,p5⟩|⟨p1,p2,p3,p4,p5⟩
 ·have HP2:=O p2
  have HP3:=O p3;have HP4:=O p4
  have i1:(e != 0)=true:=by simpa using p1
  clear p1 p2 p3 p4 h1 hl
  go_enter func137,ntmps137
  go_wp2;go_ret;exact⟨_,v,rfl,by rw[HP2.out];exact ap.nil _ _,by rw[HP4.out];exact H1.out,by rw[HP3.out];exact fun _ h=>h,iK _ _⟩
 ·subst p1
  have HP3:=O p3;have HP4:=O p4;have HP5:=O p5;generalize aB rest=d at HGET p2 HP5;obtain⟨xs,u,er⟩:=d;simp only at p2 HGET HP5
  have i1:(er == 0)=false:=by simpa using p2
  have HP2:=O p2;clear p2 p3 p4 p5 h1 hl
  go_enter func137,ntmps137
  go_wp2_with (first
   |(go_at_call 138;refine HGET.out.mono ?_;rintro e1 w1 ⟨x1,rfl,ho1,hb1⟩;have HO1:=O ho1;have HB1:=O hb1;obtain⟨xa,xc,rfl,_,_,_⟩:=ho1.rd;clear ho1 hb1)
   |(go_at_call 92;refine(dK g T tl v 0 false er _ (H1.out.on HB1.out)).mono ?_;rw[G_ ⟨rfl,rfl⟩,G_ ⟨rfl,rfl⟩,V_ HP2.out];rintro e2 w2 ⟨rfl,hw2⟩;have HR2:Hid (RV w2 g T tl v er):=(O (by rw[hw2];exact setRow_heap _ _ _ _ _ _ (H1.out.on HB1.out)));have HG2:Hid (w.grownBy w2 (some g)):=(O (by rw[hw2];exact bg (grownB g HB1.out) (aD _ _ _)));clear hw2))
  go_ret;exact⟨_,v,rfl,by rw[HP3.out];exact ap.nil _ _,by rw[HP5.out];exact HR2.out,by rw[HP4.out];exact fun _ h=>h,HG2.out⟩
 ·subst p1
  have HP3:=O p3;have HP4:=O p4;have HP5:=O p5;have HUS:=O (ko.used rest p2).1;generalize aB rest=d at HGET p2 HP3 HP4 HUS;obtain⟨xs,u,er⟩:=d;simp only at p2 HGET HP3 HP4 HUS;subst p2;clear p3 p4 p5 h1 hl
  go_enter func137,ntmps137
  go_upto_region 6 with (first
   |(go_at_call 138;refine HGET.out.mono ?_;rintro e1 w1 ⟨x1,rfl,ho1,hb1⟩;have HO1:=O ho1;have HB1:=O hb1;obtain⟨xa,xc,rfl,_,_,_⟩:=ho1.rd;clear ho1 hb1)
   |(go_at_call 92;refine(dK g T tl v 0 true 0 _ (H1.out.on HB1.out)).mono ?_;rw[H_ (fun h=>by cases h.2),H_ (fun h=>by cases h.2),decide_eq_true rfl];rintro e2 w2 ⟨rfl,hw2⟩;rw[hw2];clear hw2))
  have HK1:Hid (RV w1 g T tl v 0):=O (H1.out.on HB1.out)
  have d0:w1.cell? ⟨g,0,none⟩=some v:=by rw[e_ _ _ _ _ _ _ HK1.out];exact s9 v 0 tl
  have f0:=frozen_of_row _ _ 0 _ _ HK1.out;rw[HVF.out] at d0;obtain⟨vs,hs,hp,a3,n3,c3,rfl⟩:=qV H2.out u HUS.out;rw[HVF.out] at hs;have HPT:=O hp;have HW3:Hid (w1.setCell ⟨g,0,none⟩ (.slice a3 n3 c3)=w1.setRow g (rc (.slice a3 n3 c3) 0 tl)):=O (by rw[au _ _ _ _ _ _ _ HK1.out,tJ]);clear hp;go_wp2;go_ret;rw[HW3.out];refine⟨_,.slice a3 n3 c3,rfl,by rw[HP3.out];exact HO1.out.grown (aD _ _ _) (fun g2 hg2=>by cases hg2;exact HO1.out.neOld HLT.out),by rw[HP5.out];exact setRow_heap _ _ _ _ _ _ HK1.out,by rw[HP4.out];exact HPT.out,bg (grownB g HB1.out) (aD _ _ _)⟩
theorem Mz (g:Nat) (T:TypeId) (tl:Option (List UInt8)) (v:Value) (rest:List UInt8) (e:Int) (w:World) (h1:RV w g T tl v e) (h2:RdE eB w v rest) (hl:rest.length≤900000) :
  Calls prog 145 #[.pointer (some ⟨g,0,none⟩),.func (.func 138) #[] #[]] w fun en w'=>∃x v',en = .returned x∧ap eI w' w.heap.size x (rdV [] aB rest e)∧RV w' g T tl v' (whX aB rest e)∧wC v rest v' (rdR aB rest e)∧w.grownBy w' (some g):=by
 have HLT:=O h1.lt;have H1:=O h1;have H2:=O h2;have HCALL:=O (Fk g T tl v rest e w h1 h2 hl);have HWX:Hid (whX aB rest e=if rdX aB rest e=0∧(decide ((rdR aB rest e).length=0))=false then 6 else rdX aB rest e):=O rfl;generalize rdR aB rest e=rr at HWX HCALL ⊢;generalize rdX aB rest e=ex at HWX HCALL;generalize rdV [] aB rest e=rv at HCALL ⊢;clear h1 h2
 go_enter func145,ntmps145
 go_upto_region 2 with (go_at_call 137;refine HCALL.out.mono ?_;rintro e1 w1 ⟨x1,v1,rfl,ho1,hr1,hp1,hg1⟩;have HO1:=O ho1;have HR1:=O hr1;have HPT1:=O hp1;have HG1:=O hg1;obtain⟨xa,xc,rfl,_,_,_⟩:=ho1.rd;clear ho1 hr1 hg1 hp1)
 have d0:w1.cell? ⟨g,0,none⟩=some v1:=by rw[e_ _ _ _ _ _ _ HR1.out];exact s9 v1 ex tl
 have HRD1:=O (HPT1.out w1 (H1.out.noB H2.out HG1.out H2.out));obtain⟨a2,c2,rfl,_,_,_⟩:=HRD1.out;have HN:Hid ((((rr.length:Int) == 0)=decide (rr.length=0))):=O (by by_cases h0:rr.length=0 <;> simp[h0])
 go_wp2_with (go_at_call 92;rw[HN.out];refine(dK g T tl _ ex (decide (rr.length=0)) 6 _ HR1.out).mono ?_;rw[←HWX.out];rintro e2 w2 ⟨rfl,hw2⟩;have HR2:Hid (RV w2 g T tl _ _):=(O (gp HR1.out hw2));have HG12:=O (gm hw2);have HG2:=O (bg HG1.out HG12.out);clear hw2)
 go_ret;exact⟨_,_,rfl,HO1.out.grown HG12.out (fun g2 hg2=>by cases hg2;exact HO1.out.neOld HLT.out),by rw[HWX.out];exact HR2.out,HPT1.out,HG2.out⟩
theorem Pj (g:Nat) (T:TypeId) (tl:Option (List UInt8)) (v:Value) (rest:List UInt8) (e:Int) (w:World) (h1:RV w g T tl v e) (h2:RdE eB w v rest) (hl:rest.length≤900000) :
  Calls prog 143 #[.pointer (some ⟨g,0,none⟩),.func (.func 90) #[] #[]] w fun en w'=>∃x v',en = .returned x∧ap eS w' w.heap.size x (rdV [] aE rest e)∧RV w' g T tl v' (rdX aE rest e)∧wC v rest v' (rdR aE rest e)∧w.grownBy w' (some g):=by
 have H1:=O h1;have H2:=O h2;have HL:=O hl;have HLT:=O h1.lt
 have c0:w.cell? ⟨g,0,none⟩=some v:=by rw[e_ _ _ _ _ _ _ h1];exact s9 v e tl
 have c1:w.cell? ⟨g,1,none⟩=some (.int .i64 e):=by rw[e_ _ _ _ _ _ _ h1];exact gy v e tl
 have HGET:=O (yW v rest w h2 hl);obtain⟨ad,cap,hvf,_,_,_⟩:=h2;have HVF:=O hvf;clear hvf
 rcases fM [] aE rest e with⟨p1,p2,p3,p4⟩|⟨p1,p2,p3,p4,p5⟩|⟨p1,p2,p3,p4,p5⟩
 ·have HP2:=O p2
  have HP3:=O p3;have HP4:=O p4
  have i1:(e != 0)=true:=by simpa using p1
  clear p1 p2 p3 p4 h1 hl
  go_enter func143,ntmps143
  go_wp2;go_ret;exact⟨_,v,rfl,by rw[HP2.out];exact ap.nil _ _,by rw[HP4.out];exact H1.out,by rw[HP3.out];exact fun _ h=>h,iK _ _⟩
 ·subst p1
  have HP3:=O p3;have HP4:=O p4;have HP5:=O p5;generalize aE rest=d at HGET p2 HP5;obtain⟨xs,u,er⟩:=d;simp only at p2 HGET HP5
  have i1:(er == 0)=false:=by simpa using p2
  have HP2:=O p2;clear p2 p3 p4 p5 h1 hl
  go_enter func143,ntmps143
  go_wp2_with (first
   |(go_at_call 90;refine HGET.out.mono ?_;rintro e1 w1 ⟨x1,rfl,ho1,hb1⟩;have HO1:=O ho1;have HB1:=O hb1;obtain⟨xa,xc,rfl,_,_,_⟩:=ho1.rd;clear ho1 hb1)
   |(go_at_call 92;refine(dK g T tl v 0 false er _ (H1.out.on HB1.out)).mono ?_;rw[G_ ⟨rfl,rfl⟩,G_ ⟨rfl,rfl⟩,V_ HP2.out];rintro e2 w2 ⟨rfl,hw2⟩;have HR2:Hid (RV w2 g T tl v er):=(O (by rw[hw2];exact setRow_heap _ _ _ _ _ _ (H1.out.on HB1.out)));have HG2:Hid (w.grownBy w2 (some g)):=(O (by rw[hw2];exact bg (grownB g HB1.out) (aD _ _ _)));clear hw2))
  go_ret;exact⟨_,v,rfl,by rw[HP3.out];exact ap.nil _ _,by rw[HP5.out];exact HR2.out,by rw[HP4.out];exact fun _ h=>h,HG2.out⟩
 ·subst p1
  have HP3:=O p3;have HP4:=O p4;have HP5:=O p5;have HUS:=O (lI.used rest p2).1;generalize aE rest=d at HGET p2 HP3 HP4 HUS;obtain⟨xs,u,er⟩:=d;simp only at p2 HGET HP3 HP4 HUS;subst p2;clear p3 p4 p5 h1 hl
  go_enter func143,ntmps143
  go_upto_region 6 with (first
   |(go_at_call 90;refine HGET.out.mono ?_;rintro e1 w1 ⟨x1,rfl,ho1,hb1⟩;have HO1:=O ho1;have HB1:=O hb1;obtain⟨xa,xc,rfl,_,_,_⟩:=ho1.rd;clear ho1 hb1)
   |(go_at_call 92;refine(dK g T tl v 0 true 0 _ (H1.out.on HB1.out)).mono ?_;rw[H_ (fun h=>by cases h.2),H_ (fun h=>by cases h.2),decide_eq_true rfl];rintro e2 w2 ⟨rfl,hw2⟩;rw[hw2];clear hw2))
  have HK1:Hid (RV w1 g T tl v 0):=O (H1.out.on HB1.out)
  have d0:w1.cell? ⟨g,0,none⟩=some v:=by rw[e_ _ _ _ _ _ _ HK1.out];exact s9 v 0 tl
  have f0:=frozen_of_row _ _ 0 _ _ HK1.out;rw[HVF.out] at d0;obtain⟨vs,hs,hp,a3,n3,c3,rfl⟩:=qV H2.out u HUS.out;rw[HVF.out] at hs;have HPT:=O hp;have HW3:Hid (w1.setCell ⟨g,0,none⟩ (.slice a3 n3 c3)=w1.setRow g (rc (.slice a3 n3 c3) 0 tl)):=O (by rw[au _ _ _ _ _ _ _ HK1.out,tJ]);clear hp;go_wp2;go_ret;rw[HW3.out];refine⟨_,.slice a3 n3 c3,rfl,by rw[HP3.out];exact HO1.out.grown (aD _ _ _) (fun g2 hg2=>by cases hg2;exact HO1.out.neOld HLT.out),by rw[HP5.out];exact setRow_heap _ _ _ _ _ _ HK1.out,by rw[HP4.out];exact HPT.out,bg (grownB g HB1.out) (aD _ _ _)⟩
theorem Co (g:Nat) (T:TypeId) (tl:Option (List UInt8)) (v:Value) (rest:List UInt8) (e:Int) (w:World) (h1:RV w g T tl v e) (h2:RdE eB w v rest) (hl:rest.length≤900000) :
  Calls prog 89 #[.pointer (some ⟨g,0,none⟩),.func (.func 90) #[] #[]] w fun en w'=>∃x v',en = .returned x∧ap eS w' w.heap.size x (rdV [] aE rest e)∧RV w' g T tl v' (whX aE rest e)∧wC v rest v' (rdR aE rest e)∧w.grownBy w' (some g):=by
 have HLT:=O h1.lt;have H1:=O h1;have H2:=O h2;have HCALL:=O (Pj g T tl v rest e w h1 h2 hl);have HWX:Hid (whX aE rest e=if rdX aE rest e=0∧(decide ((rdR aE rest e).length=0))=false then 6 else rdX aE rest e):=O rfl;generalize rdR aE rest e=rr at HWX HCALL ⊢;generalize rdX aE rest e=ex at HWX HCALL;generalize rdV [] aE rest e=rv at HCALL ⊢;clear h1 h2
 go_enter func89,ntmps89
 go_upto_region 2 with (go_at_call 143;refine HCALL.out.mono ?_;rintro e1 w1 ⟨x1,v1,rfl,ho1,hr1,hp1,hg1⟩;have HO1:=O ho1;have HR1:=O hr1;have HPT1:=O hp1;have HG1:=O hg1;obtain⟨xa,xc,rfl,_,_,_⟩:=ho1.rd;clear ho1 hr1 hg1 hp1)
 have d0:w1.cell? ⟨g,0,none⟩=some v1:=by rw[e_ _ _ _ _ _ _ HR1.out];exact s9 v1 ex tl
 have HRD1:=O (HPT1.out w1 (H1.out.noB H2.out HG1.out H2.out));obtain⟨a2,c2,rfl,_,_,_⟩:=HRD1.out;have HN:Hid ((((rr.length:Int) == 0)=decide (rr.length=0))):=O (by by_cases h0:rr.length=0 <;> simp[h0])
 go_wp2_with (go_at_call 92;rw[HN.out];refine(dK g T tl _ ex (decide (rr.length=0)) 6 _ HR1.out).mono ?_;rw[←HWX.out];rintro e2 w2 ⟨rfl,hw2⟩;have HR2:Hid (RV w2 g T tl _ _):=(O (gp HR1.out hw2));have HG12:=O (gm hw2);have HG2:=O (bg HG1.out HG12.out);clear hw2)
 go_ret;exact⟨_,_,rfl,HO1.out.grown HG12.out (fun g2 hg2=>by cases hg2;exact HO1.out.neOld HLT.out),by rw[HWX.out];exact HR2.out,HPT1.out,HG2.out⟩
end
section
open Go.RowKit Go.Shelf
theorem fv {w w1:World} {r:Option Nat} {g2:Nat} (cs:Array Value) (h:w.grownBy w1 r) (hg:w.heap.size≤g2):w.grownBy (w1.setRow g2 cs) r :=
 ⟨h.os,h.tape,h.output,by rw[kE];exact h.size,fun k hk hne=>by rw[aj _ _ _ _ (by omega)];exact h.block k hk hne⟩
theorem sF {w w1:World} {r:Option Nat} (X:Obj) (h:w.grownBy w1 r):w.grownBy (w1.alloc X) r :=
 ⟨h.os,h.tape,h.output,by rw[World.size_alloc];have := h.size;omega,fun k hk hne=>by rw[bx _ _ _ (P_ hk h.size)];exact h.block k hk hne⟩
theorem dT {w w1 w2:World} {r:Option Nat} (h:w.grownBy w1 r) (h2:Below w1.heap.size w1 w2):w.grownBy w2 r :=
 ⟨h2.os.trans h.os,h2.tape.trans h.tape,h2.output.trans h.output,M_ h.size h2.size,fun k hk hne=>(h2.block k (P_ hk h.size)).trans (h.block k hk hne)⟩
theorem eo {fn:Func} {p:Tmp} {ty:TypeId} (h:fn.results = #[.cell p ty]) (tmps:Array Value) (w:World) (g:Nat) (x:Value)
  (hp:tmps.getD p undef = .pointer (some ⟨g,0,none⟩)) (hld:(loadVar ty ⟨g,0,none⟩).run prog w = .ok x w) :
  (results fn tmps).run prog w = .ok x w:=by
 have hp':tmps[p]?.getD undef = .pointer (some ⟨g,0,none⟩):=by simpa using hp
 simp[results,h,hp',asAddr,hld]
theorem zd (d:List UInt8) (g:Nat) (T:TypeId) (hg:w.heap[g]?=some (.cells (am d) T (0,0)))
  (hgd:o.guard=none) (x:Operand) (ho:o.op = .load 23 x) (hx:a.eval x = .pointer (some ⟨g,0,none⟩))
  (h:wpList prog ops Q rest (a.put o.dst (.agg (am d))) w):wpList prog ops Q (o::rest) a w :=
 wpList_load_row hgd _ x ho g hx _ (am d) (0,0) _ hg underlying23 rfl (by rw[aF];exact cC) h
theorem Gu (b:List UInt8) (h:(bz b).2.2=0):(bz b).2.1≤b.length:=by
 unfold bz at h ⊢
 split
 ·rename_i hl
  rw[G_ hl] at h
  cases h
 ·show 16≤b.length
  omega
attribute [local irreducible] Calls rc am bz
theorem Fj (g:Nat) (T:TypeId) (tl:Option (List UInt8)) (v:Value) (rest:List UInt8) (e:Int) (w:World) (h1:RV w g T tl v e) (h2:RdE eB w v rest) :
  Calls prog 135 #[.pointer (some ⟨g,0,none⟩),.func (.func 136) #[] #[]] w fun en w'=>∃v',en = .returned (.agg (am (rdV z16 bz rest e)))∧RV w' g T tl v' (rdX bz rest e)∧wC v rest v' (rdR bz rest e)∧w.grownBy w' (some g):=by
 have HLT:=O h1.lt;have hz:=ja;obtain⟨W0,hW0⟩:∃W0,W0=w.alloc (.cells (am z16) 23):=⟨_,rfl⟩;have HW:=O hW0;have HR0:Hid (W0.heap[w.heap.size]?=some (.cells (am z16) 23 (0,0))):=O (by rw[hW0];exact al _ _ _ rfl);have HB0:Hid (Below w.heap.size w W0):=O (by rw[hW0];exact(O_ _ _).alloc (A_ _) _);have H1:=O h1;have H2:=O h2;have HG0:Hid (W0.heap[g]?=some (.cells (rc v e tl) T (0,0))):=O (by rw[HB0.out.block _ HLT.out];exact h1)
 have c0:W0.cell? ⟨g,0,none⟩=some v:=by rw[e_ _ _ _ _ _ _ HG0.out];exact s9 v e tl
 have c1:W0.cell? ⟨g,1,none⟩=some (.int .i64 e):=by rw[e_ _ _ _ _ _ _ HG0.out];exact gy v e tl
 have HGET:=O (Jt v rest W0 (h2.on HB0.out));obtain⟨ad,cap,hvf,_,_,_⟩:=h2
 rcases fM z16 bz rest e with⟨p1,p2,p3,p4⟩|⟨p1,p2,p3,p4,p5⟩|⟨p1,p2,p3,p4,p5⟩
 ·have HP2:=O p2
  have HP3:=O p3;have HP4:=O p4
  have i1:(e != 0)=true:=by simpa using p1
  clear p1 p2 p3 p4 h1 hW0 hvf
  go_enter func135,ntmps135
  go_upto_region 1 with fail
  rw[←HW.out]
  go_wp2_with (first
   |(refine zd z16 w.heap.size _ HR0.out rfl (.tmp 4) rfl rfl ?_)
   |(refine vV z16 rfl (.tmp 4) (.tmp 13) rfl w.heap.size rfl rfl _ _ HR0.out (aF _) ?_))
  have HG:=O (fv (am z16) (grownB g HB0.out) (A_ w.heap.size));refine g_ (eo rfl _ _ w.heap.size _ rfl (qQ _ _ z16 _ (setRow_heap _ _ _ _ _ _ HR0.out))) rfl ?_;refine⟨v,by rw[HP2.out],?_,by rw[HP3.out];exact fun _ h=>h,HG.out⟩;rw[HP4.out];unfold RV;rw[aj _ _ _ _ (by have := HLT.out;omega)];exact HG0.out
 ·subst p1
  have HP3:=O p3;have HP4:=O p4;have HP5:=O p5;generalize bz rest=d at HGET p2 HP5;obtain⟨xs,u,er⟩:=d;simp only at p2 HGET HP5
  have i1:(er == 0)=false:=by simpa using p2
  have HP2:=O p2;clear p2 p3 p4 p5 h1 hW0 hvf
  go_enter func135,ntmps135
  go_upto_region 1 with fail
  rw[←HW.out]
  go_upto_region 4 with (first
   |(go_at_call 136;refine HGET.out.mono ?_;rintro e1 w1 ⟨rfl,hb1⟩;have HB1:=O hb1;clear hb1)
   |(refine aH (am xs) 23 rfl (.tmp 5) (.tmp 21) rfl _ rfl rfl rfl (by rw[aF];exact cC) ((aF _).trans (aF _).symm) (iY xs) ?_))
  have HGX:Hid ((w1.alloc (.cells (am xs) 23)).heap[g]?=some (.cells (rc v 0 tl) T (0,0))):=O (by rw[bx _ _ _ (P_ (P_ HLT.out HB0.out.size) HB1.out.size),HB1.out.block _ (P_ HLT.out HB0.out.size)];exact HG0.out)
  have HZ1:Hid (((w1.alloc (.cells (am xs) 23)).setRow g (rc v er tl)).heap[w.heap.size]?=some (.cells (am z16) 23 (0,0))):=O (by
   have hsz:w.heap.size<W0.heap.size:=(Q_.1 HR0.out).1;rw[aj _ _ _ _ (by have := HLT.out;omega),bx _ _ _ (P_ hsz HB1.out.size),HB1.out.block _ hsz]
   exact HR0.out)
  go_wp2_with (first
   |(go_at_call 92;refine(dK g T tl v 0 false er _ HGX.out).mono ?_;rw[G_ ⟨rfl,rfl⟩,G_ ⟨rfl,rfl⟩,V_ HP2.out];rintro e2 w2 ⟨rfl,hw2⟩;rw[hw2];clear hw2)
   |(refine zd z16 w.heap.size _ HZ1.out rfl (.tmp 4) rfl rfl ?_)
   |(refine vV z16 rfl (.tmp 4) (.tmp 30) rfl w.heap.size rfl rfl _ _ HZ1.out (aF _) ?_))
  have HG:=O (fv (am z16) (bg (sF (.cells (am xs) 23) (dT (grownB g HB0.out) HB1.out)) (aD _ g (rc v er tl))) (A_ w.heap.size));refine g_ (eo rfl _ _ w.heap.size _ rfl (qQ _ _ z16 _ (setRow_heap _ _ _ _ _ _ HZ1.out))) rfl ?_;refine⟨v,by rw[HP3.out],?_,by rw[HP4.out];exact fun _ h=>h,HG.out⟩;rw[HP5.out];unfold RV;rw[aj _ _ _ _ (by have := HLT.out;omega)];exact setRow_heap _ _ _ _ _ _ HGX.out
 ·subst p1
  have HP3:=O p3;have HP4:=O p4;have HP5:=O p5;obtain⟨vs,hs,hrs,a3,nr,c3,rfl⟩:=qV H2.out (bz rest).2.1 (Gu rest p2);generalize bz rest=d at HGET p2 HP3 HP4 hs hrs;obtain⟨xs,u,er⟩:=d;simp only at p2 HGET HP3 HP4 hs hrs;subst p2;have HRS3:=O hrs;clear hrs;rw[hvf] at hs;clear p3 p4 p5 h1 hW0;have HVF:=O hvf;clear hvf
  go_enter func135,ntmps135
  go_upto_region 1 with fail
  rw[←HW.out]
  go_upto_region 4 with (first
   |(go_at_call 136;refine HGET.out.mono ?_;rintro e1 w1 ⟨rfl,hb1⟩;have HB1:=O hb1;clear hb1)
   |(refine aH (am xs) 23 rfl (.tmp 5) (.tmp 21) rfl _ rfl rfl rfl (by rw[aF];exact cC) ((aF _).trans (aF _).symm) (iY xs) ?_))
  have HGX:Hid ((w1.alloc (.cells (am xs) 23)).heap[g]?=some (.cells (rc v 0 tl) T (0,0))):=O (by rw[bx _ _ _ (P_ (P_ HLT.out HB0.out.size) HB1.out.size),HB1.out.block _ (P_ HLT.out HB0.out.size)];exact HG0.out);have HX5:Hid ((w1.alloc (.cells (am xs) 23)).heap[w1.heap.size]?=some (.cells (am xs) 23 (0,0))):=O (al _ _ _ rfl);have hszW:w.heap.size<W0.heap.size:=(Q_.1 HR0.out).1;have HSZW:=O hszW
  have HZX:Hid ((w1.alloc (.cells (am xs) 23)).heap[w.heap.size]?=some (.cells (am z16) 23 (0,0))):=O (by
   rw[bx _ _ _ (P_ hszW HB1.out.size),HB1.out.block _ hszW]
   exact HR0.out)
  have HLT1:Hid (g<w1.heap.size):=O (P_ (P_ HLT.out HB0.out.size) HB1.out.size);have HWX:=O (sF (.cells (am xs) 23) (dT (grownB g HB0.out) HB1.out));clear hszW
  go_upto_region 6 with (go_at_call 92;refine(dK g T tl v 0 true 0 _ HGX.out).mono ?_;rw[H_ (fun h=>by cases h.2),H_ (fun h=>by cases h.2),decide_eq_true rfl];rintro e2 w2 ⟨rfl,hw2⟩;rw[hw2];clear hw2)
  generalize w1.alloc (.cells (am xs) 23)=wx at HGX HX5 HZX HWX ⊢
  have d0:wx.cell? ⟨g,0,none⟩=some v:=by rw[e_ _ _ _ _ _ _ HGX.out];exact s9 v 0 tl
  rw[HVF.out] at d0;have f0:=frozen_of_row _ _ 0 _ _ HGX.out;have HW3:Hid (wx.setCell ⟨g,0,none⟩ (.slice a3 nr c3)=wx.setRow g (rc (.slice a3 nr c3) 0 tl)):=O (by rw[au _ _ _ _ _ _ _ HGX.out,tJ])
  go_upto_region 7 with fail
  rw[HW3.out];have HX6:Hid ((wx.setRow g (rc (.slice a3 nr c3) 0 tl)).heap[w1.heap.size]?=some (.cells (am xs) 23 (0,0))):=O (by rw[aj _ _ _ _ (by have := HLT1.out;omega)];exact HX5.out);have HZ6:Hid ((wx.setRow g (rc (.slice a3 nr c3) 0 tl)).heap[w.heap.size]?=some (.cells (am z16) 23 (0,0))):=O (by rw[aj _ _ _ _ (by have := HLT.out;omega)];exact HZX.out)
  go_wp2_with (first
   |(refine zd xs w1.heap.size _ HX6.out rfl (.tmp 5) rfl rfl ?_)
   |(refine vV xs rfl (.tmp 4) (.tmp 40) rfl w.heap.size rfl rfl _ _ HZ6.out (aF _) ?_))
  have HG:=O (fv (am xs) (bg HWX.out (aD _ g (rc (.slice a3 nr c3) 0 tl))) (A_ w.heap.size));refine g_ (eo rfl _ _ w.heap.size _ rfl (qQ _ _ xs _ (setRow_heap _ _ _ _ _ _ HZ6.out))) rfl ?_;refine⟨.slice a3 nr c3,by rw[HP3.out],?_,by rw[HP4.out];exact HRS3.out,HG.out⟩;rw[HP5.out];unfold RV;rw[aj _ _ _ _ (by have := HLT.out;omega)];exact setRow_heap _ _ _ _ _ _ HGX.out
end
section
open Go.RowKit Go.Shelf
def zB:BK:=⟨z16,0,0,0,0,z16,[]⟩
attribute [local semireducible] bc
theorem uq (b:BK) (u:Value) (x:Int):(bc b u).setIfInBounds 16 (.int .i64 x)=bc { b with ep:=x } u:=rfl
theorem ur (b:BK) (u:Value) (x:Int):(bc b u).setIfInBounds 17 (.int .i64 x)=bc { b with num:=x } u:=rfl
theorem IH (b:BK) (u:Value) (x:Int):(bc b u).setIfInBounds 18 (.int .i64 x)=bc { b with fw:=x } u:=rfl
theorem II (b:BK) (u:Value) (x:Int):(bc b u).setIfInBounds 19 (.int .i64 x)=bc { b with tm:=x } u:=rfl
theorem IJ (b:BK) (u:Value) (x:List UInt8):(bc b u).setIfInBounds 36 (.string ⟨x.toArray⟩)=bc { b with mo:=x } u:=rfl
theorem us (b:BK) (u x:Value):(bc b u).setIfInBounds 37 x=bc b x:=rfl
theorem FQ (b:BK) (u:Value) (d:List UInt8):((bc b u).toList.take (0+0)++(am d).toList++(bc b u).toList.drop (0+0+(am d).toList.length)).toArray=bc { b with dom:=d } u:=rfl
theorem FR (b:BK) (u:Value) (d:List UInt8):((bc b u).toList.take (20+0)++(am d).toList++(bc b u).toList.drop (20+0+(am d).toList.length)).toArray=bc { b with pol:=d } u:=rfl
theorem M1:(prog.info? 47).map (·.zero)=some (some (.agg (bc zB (.slice none 0 0)))):=by kernel_rfl
theorem dl (b:BK) (a:Option Addr) (n c:Nat):(bc b (.slice a n c)).all (·.oneCell')=true:=by
 have h1:∀d i,(aq d i).oneCell'=true:=fun _ _=>rfl;have h2:∀k,(Value.int .i64 k).oneCell'=true:=fun _=>rfl;have h3:∀s,(Value.string s).oneCell'=true:=fun _=>rfl;have h4:(Value.slice a n c).oneCell'=true:=rfl;unfold bc
 simp[h1,h2,h3,h4]
attribute [local irreducible] bc
theorem fh (w:World):(zeroValue 47).run prog w = .ok (.agg (bc zB (.slice none 0 0))) w:=by
 have h:=M1;generalize bc zB (.slice none 0 0)=L at h ⊢
 cases hq:prog.info? 47 with
 | none=>rw[hq] at h;cases h
 | some i =>
   rw[hq] at h
   simp at h
   simp[zeroValue,typeInfo,hq,h]
theorem l9 (w:World) (g o:Nat) (T:TypeId) (ty:TypeId) (cs cells:Array Value) (hg:w.heap[g]?=some (.cells cs T (0,0))) (hi:(prog.info? ty).map (·.size)=some cells.size) (h1:cells.all (·.oneCell')=true) (hs:o+cells.size≤cs.size) :
  (storeVar ty ⟨g,o,none⟩ (.agg cells)).run prog w = .ok () (w.setRow g (cs.toList.take (o+0)++cells.toList++cs.toList.drop (o+0+cells.toList.length)).toArray):=by
 have := run_storeCells_at (P:=prog) g o T cells.toList 0 cs w hg (by simpa using hs) (fun v hv=>(Array.all_eq_true_iff_forall_mem.1 h1) v (by simpa using hv))
 cases hq:prog.info? ty with
 | none=>simp[hq] at hi
 | some i =>
   have hs:cells.size=i.size:=by simp[hq] at hi;omega
   simp only[Nat.add_zero] at this
   simp[storeVar,sizeOf,typeInfo,hq,Value.cells,hs,this]
theorem bW {ops:Array Oper} {rest:List Oper} {o:Oper} {a:Act} {w w':World} {Q:Exit→Act→World→Prop} (hgd:o.guard=none) (ty:TypeId) (x y:Operand) (ho:o.op = .store ty x y)
  (p:Addr) (v:Value) (hx:a.eval x = .pointer (some p)) (hy:a.eval y=v) (hr:(storeVar ty p v).run prog w = .ok () w')
  (h:wpList prog ops Q rest (a.put o.dst undef) w'):wpList prog ops Q (o::rest) a w :=
 wpList_plain hgd fun _ hK=>by
  unfold Oper.wp execOp;simp only[ho,hx,hy,Instr.storeAt,Instr.sureAddr,Sem.run_bind,Sem.run_pure,Result.andThen_ok,hr];exact hK _ _ h
theorem DF (b:BK) (u:Value) (d:List UInt8) (g:Nat) (hg:w.heap[g]?=some (.cells (bc b u) 47 (0,0))) (hgd:o.guard=none) (x y:Operand) (ho:o.op = .store 23 x y)
  (hx:a.eval x = .pointer (some ⟨g,0,none⟩)) (hy:a.eval y = .agg (am d))
  (h:wpList prog ops Q rest (a.put o.dst undef) (w.setRow g (bc { b with dom:=d } u))):wpList prog ops Q (o::rest) a w:=by
 have hr:=l9 w g 0 47 23 (bc b u) (am d) hg (by rw[aF];exact cC) (iY d) (by rw[aF,aC];decide);rw[FQ] at hr;exact bW hgd _ x y ho _ _ hx hy hr h
theorem TS (b:BK) (u:Value) (d:List UInt8) (g:Nat) (hg:w.heap[g]?=some (.cells (bc b u) 47 (0,0))) (hgd:o.guard=none) (x y:Operand) (ho:o.op = .store 23 x y)
  (hx:a.eval x = .pointer (some ⟨g,20,none⟩)) (hy:a.eval y = .agg (am d))
  (h:wpList prog ops Q rest (a.put o.dst undef) (w.setRow g (bc { b with pol:=d } u))):wpList prog ops Q (o::rest) a w:=by
 have hr:=l9 w g 20 47 23 (bc b u) (am d) hg (by rw[aF];exact cC) (iY d) (by rw[aF,aC];decide);rw[FR] at hr;exact bW hgd _ x y ho _ _ hx hy hr h
theorem aX (w:World) (g:Nat) (b:BK) (u:Value) (T:TypeId) (hg:w.heap[g]?=some (.cells (bc b u) T (0,0))):(loadVar 47 ⟨g,0,none⟩).run prog w = .ok (.agg (bc b u)) w :=
 run_loadVar_row w g T 47 (bc b u) (0,0) _ hg underlying47 rfl (by rw[aC];exact dU)
theorem Ph (v:Value) (e:Int) (h0 h1:List UInt8):(rc v e (some h0)).setIfInBounds 2 (.string ⟨h1.toArray⟩)=rc v e (some h1):=by unfold rc tlc;simp
theorem Tr (v:Value) (e:Int) (h:List UInt8):(rc v e (some h))[2]?=some (.string ⟨h.toArray⟩):=rfl
end
end
end Go.Proofs.YtmfiaadjdbemnaaGreatDoor
