/- Contracts and lemmas. No condition. -/
import Derived.Test.YtmfiaadjdbemnaaGreatDoorLMg10
import Derived.Test.YtmfiaadjdbemnaaGreatDoorLMg09
set_option maxRecDepth 100000
set_option maxHeartbeats 8000000
set_option linter.unusedSimpArgs false
set_option linter.unusedVariables false
namespace Go.Proofs.YtmfiaadjdbemnaaGreatDoor
open Go.Proofs.Tryz
section
open Go.RowKit Go.Shelf
attribute [local irreducible] Calls ci eU blE opE opB opK pkB
theorem Cm (blob:List UInt8) (l:List SH) (v:Value) (w:World) (hk:cA w) (hv:RdE eH w v l) (hl:blob.length≤100000) :
  Calls prog 22 #[.string ⟨blob.toArray⟩,v] w fun e w'=>∃va vn vc,e = .returned (.tuple #[.agg (bc (ulB blob l) (.slice va vn vc)),.int .i64 (ulE blob l)])∧RdK w' (.slice va vn vc) (ulK blob l)∧Below w.heap.size w w':=by
 have hz:=fh;obtain⟨W0,hW0⟩:∃W0,W0=w.alloc (.cells (bc zB (.slice none 0 0)) 47):=⟨_,rfl⟩;have HW:=O hW0
 have HX:Hid (∀y,Below W0.heap.size W0 y→y.heap[w.heap.size]?=some (.cells (bc zB ah) 47 (0,0))∧Below w.heap.size w y):=O (fun y hy=>by
  rw[hW0] at hy
  exact⟨aa (heap_alloc_new _ _) hy,cJ _ _ hy⟩)
 have HPK:=O (fun (u:World)=>K5 blob u (M_ hl (by decide)));have HCB:=O (fun (u:World) (h:Below w.heap.size w u)=>R9 l v u (hv.on h));have HOP:=O (fun (u:World) (h:Below w.heap.size w u)=>KO (eU l) blob u (hk.on h) hl);have HB0:=O (HX.out W0 (O_ _ _)).2;obtain⟨va,vc,rfl,_,_,_⟩:=hv;clear hk hl hW0
 rcases yp blob l with⟨h1,e1,e2,e3⟩|⟨h1,h2,e1,e2,e3⟩|⟨h1,h2,e1,e2,e3⟩
 ·rw[e1,e2,e3]
  have i1:(blE blob == 0)=false:=by rw[U_];exact h1
  generalize blE blob=be at HPK i1 ⊢;generalize pkB blob=pb at HPK;clear h1 e1 e2 e3 HCB HOP
  go_enter func22,ntmps22
  go_upto_region 1 with fail
  rw[←HW.out]
  try dsimp only[Act.put]
  go_wp2_with (first
   |(go_at_call 46;refine(HPK.out _).mono ?_;rintro e x1 ⟨rfl,hx1⟩;have HX1:=O hx1;clear hx1)
   |(refine aH (bc pb ah) 47 rfl (.tmp 6) (.tmp 13) rfl _ rfl rfl rfl (dX _ _) (iA _ _ _ _) (dl _ _ _ _) ?_)
   |(refine yF rfl rfl ?_)
   |(have hxy:=HX.out _ (HX1.out.trans (((O_ x1.heap.size x1).alloc (A_ _) (.cells (bc pb ah) 47)).mono HX1.out.size));refine aM (T:=47) (bc zB ah) (dX _ _) rfl (.tmp 4) (.tmp 17) rfl w.heap.size (bc zB ah) rfl rfl (dl _ _ _ _) (iA _ _ _ _) hxy.1 ?_;intro w7 hge7 hoe7 hbe7;have HE7:Hid (w7.heap[w.heap.size]?=some (.cells (bc zB ah) 47 (0,0))∧Below w.heap.size w w7):=(O ⟨hge7,hxy.2.trans (hbe7 _ (A_ _))⟩);clear hge7 hoe7 hbe7 hxy))
  refine g_ (aA rfl _ _ w.heap.size _ rfl (aX _ _ _ _ _ HE7.out.1)) rfl ?_;exact⟨_,_,_,rfl,RdK.nil _,HE7.out.2⟩
 ·rw[e1,e2,e3]
  have i1:(blE blob == 0)=true:=by rw[beq_iff_eq];exact h1
  have i2:(ci l == 0)=false:=by rw[U_];exact h2
  rw[h1] at HPK;generalize pkB blob=pb at HPK;generalize ci l=ce at HCB i2 ⊢;generalize eU l=cm at HCB;clear i1 h1 h2 e1 e2 e3 HOP
  go_enter func22,ntmps22
  go_upto_region 1 with fail
  rw[←HW.out]
  try dsimp only[Act.put]
  go_wp2_with (first
   |(go_at_call 46;refine(HPK.out _).mono ?_;rintro e x1 ⟨rfl,hx1⟩;have HX1:Hid (Below W0.heap.size W0 (x1.alloc (.cells (bc pb ah) 47))):=(O (hx1.trans (((O_ x1.heap.size x1).alloc (A_ _) (.cells (bc pb ah) 47)).mono hx1.size)));clear hx1)
   |(refine aH (bc pb ah) 47 rfl (.tmp 6) (.tmp 13) rfl _ rfl rfl rfl (dX _ _) (iA _ _ _ _) (dl _ _ _ _) ?_)
   |(go_at_call 47;refine(HCB.out _ (HX.out _ HX1.out).2).mono ?_;rintro e x2 ⟨rfl,hx2⟩;have HX2:=O (HX.out _ (HX1.out.trans (hx2.mono HX1.out.size)));clear hx2)
   |(refine yF rfl rfl ?_)
   |(refine aM (T:=47) (bc zB ah) (dX _ _) rfl (.tmp 4) (.tmp 26) rfl w.heap.size (bc zB ah) rfl rfl (dl _ _ _ _) (iA _ _ _ _) HX2.out.1 ?_;intro w7 hge7 hoe7 hbe7;have HE7:Hid (w7.heap[w.heap.size]?=some (.cells (bc zB ah) 47 (0,0))∧Below w.heap.size w w7):=(O ⟨hge7,HX2.out.2.trans (hbe7 _ (A_ _))⟩);clear hge7 hoe7 hbe7))
  refine g_ (aA rfl _ _ w.heap.size _ rfl (aX _ _ _ _ _ HE7.out.1)) rfl ?_;exact⟨_,_,_,rfl,RdK.nil _,HE7.out.2⟩
 ·rw[e1,e2,e3]
  rw[h1] at HPK;rw[h2] at HCB;generalize pkB blob=pb at HPK;generalize eU l=cm at HCB HOP ⊢;generalize opE cm blob=oe at HOP ⊢;generalize opB cm blob=ob at HOP ⊢;generalize opK cm blob=ok at HOP ⊢;clear h1 h2 e1 e2 e3
  go_enter func22,ntmps22
  go_upto_region 1 with fail
  rw[←HW.out]
  try dsimp only[Act.put]
  go_wp2_with (first
   |(go_at_call 46;refine(HPK.out _).mono ?_;rintro e x1 ⟨rfl,hx1⟩;have HX1:Hid (Below W0.heap.size W0 (x1.alloc (.cells (bc pb ah) 47))):=(O (hx1.trans (((O_ x1.heap.size x1).alloc (A_ _) (.cells (bc pb ah) 47)).mono hx1.size)));clear hx1)
   |(refine aH (bc pb ah) 47 rfl (.tmp 6) (.tmp 13) rfl _ rfl rfl rfl (dX _ _) (iA _ _ _ _) (dl _ _ _ _) ?_)
   |(go_at_call 47;refine(HCB.out _ (HX.out _ HX1.out).2).mono ?_;rintro e x2 ⟨rfl,hx2⟩;have HX2:=O (HX1.out.trans (hx2.mono HX1.out.size));clear hx2)
   |(go_at_call 48;refine(HOP.out _ (HX.out _ HX2.out).2).mono ?_;rintro e x3 ⟨ka,kc,rfl,hrk,hx3⟩;have HX3:=O (HX.out _ (HX2.out.trans (hx3.mono HX2.out.size)));have HRK:=O hrk;clear hx3 hrk)
   |(refine aM (T:=47) (bc ob (.slice ka ok.length kc)) (dX _ _) rfl (.tmp 4) (.tmp 31) rfl w.heap.size (bc zB ah) rfl rfl (dl _ _ _ _) (iA _ _ _ _) HX3.out.1 ?_;intro w7 hge7 hoe7 hbe7;have HE7:Hid (w7.heap[w.heap.size]?=some (.cells (bc ob (.slice ka ok.length kc)) 47 (0,0))∧Below w.heap.size w w7):=(O ⟨hge7,HX3.out.2.trans (hbe7 _ (A_ _))⟩);have HO7:=O (HRK.out.offBk HX3.out.1 hoe7 (hbe7 0 (N_ _)).size);clear hge7 hoe7 hbe7))
  refine g_ (aA rfl _ _ w.heap.size _ rfl (aX _ _ _ _ _ HE7.out.1)) rfl ?_;exact⟨_,_,_,rfl,HO7.out,HE7.out.2⟩
end
end Go.Proofs.YtmfiaadjdbemnaaGreatDoor
