/- Contracts and lemmas. No condition. -/
import Derived.Test.YtmfiaadjdbemnaaGreatDoorSB21
set_option maxRecDepth 100000
set_option maxHeartbeats 8000000
set_option linter.unusedSimpArgs false
set_option linter.unusedVariables false
namespace Go.Proofs.YtmfiaadjdbemnaaGreatDoor
open Tryz
section
open Go.RowKit Go.Shelf
def pkB (blob:List UInt8):BK:=if blE blob=0 then blB blob else zB
attribute [local irreducible] Calls rc am aI
theorem O9 (blob:List UInt8) (w:World) (hl:blob.length≤800000) :
  Calls prog 43 #[.string ⟨blob.toArray⟩] w fun en w'=>en = .returned (.tuple #[.agg (bc (pkB blob) ah),.int .i64 (blE blob)])∧Below w.heap.size w w':=by
 have hz:=fh;have HL:=O hl;obtain⟨W0,hW0⟩:∃W0,W0=w.alloc (.cells (bc zB (.slice none 0 0)) 47):=⟨_,rfl⟩;have HW:=O hW0;have HB0:Hid (Below w.heap.size w W0):=O (by rw[hW0];exact(O_ _ _).alloc (A_ _) _);have HK0:Hid (W0.heap[w.heap.size]?=some (.cells (bc zB ah) 47 (0,0))):=O (by rw[hW0];exact al _ _ _ rfl);have hcv:=cw W0 blob;have HSB:=O (bU W0 blob);have HSR:=O (fo W0 blob (by unfold maxLen;omega));generalize Lib.bytesWorld W0 5 ⟨blob.toArray⟩=ws at hcv HSB HSR;clear hl hW0
 go_enter func43,ntmps43
 go_upto_region 1 with fail
 rw[←HW.out]
 go_upto_region 2 with fail
 have HX1:Hid (RV (ws.alloc (.cells #[.slice (some ⟨W0.heap.size,0,none⟩) blob.length (grownCap W0 blob.length 0 5),.int .i64 0,.string ⟨#[]⟩] 154)) ws.heap.size 154 (some []) (.slice (some ⟨W0.heap.size,0,none⟩) blob.length (grownCap W0 blob.length 0 5)) 0):=O (by unfold RV;rw[Fg];exact al _ _ _ rfl);have HA1:=O ((O_ ws.heap.size ws).alloc (A_ _) (.cells #[.slice (some ⟨W0.heap.size,0,none⟩) blob.length (grownCap W0 blob.length 0 5),.int .i64 0,.string ⟨#[]⟩] 154));have HGX:Hid (w.heap.size<ws.heap.size):=O (P_ (Q_.1 HK0.out).1 HSB.out.size);generalize ws.alloc (.cells #[.slice (some ⟨W0.heap.size,0,none⟩) blob.length (grownCap W0 blob.length 0 5),.int .i64 0,.string ⟨#[]⟩] 154)=w1 at HX1 HA1 ⊢;generalize hvb:(Value.slice (some ⟨W0.heap.size,0,none⟩) blob.length (grownCap W0 blob.length 0 5))=vb at HX1 HSR;have HB1:Hid (Below W0.heap.size W0 w1):=O (HSB.out.trans (HA1.out.mono HSB.out.size));have HK1:Hid (w1.heap[w.heap.size]?=some (.cells (bc zB ah) 47 (0,0))):=O (by rw[HB1.out.block _ (Q_.1 HK0.out).1];exact HK0.out);have HRB:=O (HSR.out.on HA1.out);generalize hgx:ws.heap.size=g at HX1 HGX;clear hcv hgx hvb;have HG1:=O HX1.out.lt;have C4:=O (K4 g [] blob vb w1 HX1.out HRB.out (by have := HL.out;omega));have EPB:Hid (pkB blob=if blE blob=0 then blB blob else zB):=O rfl;have hbB:hdB (rdV [] aL blob 0) (rdX aL blob 0)=blB blob:=rfl;have hbE:hdX (rdV [] aL blob 0) (rdX aL blob 0)=blE blob:=rfl;rw[hbB,hbE] at C4;clear hbB hbE;generalize hbb:blB blob=b at C4 EPB;generalize hee:blE blob=ee at C4 EPB;have HEE:=O hee;generalize rdV [] aL blob 0=hdr at C4;generalize rdR aL blob 0=rr at C4;clear hbb hee
 go_upto_if 18 with (first
  |(go_at_call 85;refine C4.out.mono ?_;rintro en w2 ⟨v2,rfl,hr2,hp2,hg2⟩;have HX2:=O hr2;have HG12:=O hg2;clear hr2 hp2 hg2)
  |(refine aH (bc b ah) 47 rfl (.tmp 5) (.tmp 12) rfl _ rfl rfl rfl (by rw[aC];exact dU) (by rw[aC,aC]) (dl _ _ _ _) ?_;have c29:(w2.alloc (.cells (bc b ah) 47)).cell? ⟨g,1,none⟩=some (.int .i64 ee):=(by rw[e_ _ _ _ _ _ _ (HX2.out.on ((O_ _ _).alloc (A_ _) _))];exact gy _ ee (some hdr))))
 have HA2:=O ((O_ w2.heap.size w2).alloc (A_ _) (.cells (bc b ah) 47));have HX3:=O (HX2.out.on HA2.out);have HBK3:Hid ((w2.alloc (.cells (bc b ah) 47)).heap[w2.heap.size]?=some (.cells (bc b ah) 47 (0,0))):=O (al _ _ _ rfl);have HK2:=O (fC HK1.out HG12.out (by have := HGX.out;omega));have HK3:Hid ((w2.alloc (.cells (bc b ah) 47)).heap[w.heap.size]?=some (.cells (bc zB ah) 47 (0,0))):=O (by rw[HA2.out.block _ (Q_.1 HK2.out).1];exact HK2.out)
 have HBW:Hid (Below w.heap.size w (w2.alloc (.cells (bc b ah) 47))):=O (by
  have q1:=HB0.out.trans (HB1.out.mono HB0.out.size);have q2:=q1.trans (iV HG12.out (Nat.le_of_lt HGX.out) HG1.out)
  exact q2.trans (HA2.out.mono q2.size))
 generalize w2.alloc (.cells (bc b ah) 47)=w3 at HX3 HBK3 HK3 HBW c29 ⊢;generalize hgb:w2.heap.size=gb at HBK3;clear hgb c29 HA2 HK2;have HGW:Hid (w.heap.size<g):=HGX
 by_cases he:ee=0
 ·subst he
  have EO2:Hid (pkB blob=b):=O (by rw[EPB.out,G_ rfl]);have k3:=gV w3 w.heap.size b zB (.slice none 0 0) none 0 0 HK3.out
  go_wp2_with (refine cH b (.slice none 0 0) rfl (.tmp 5) rfl gb rfl _ HBK3.out ?_)
  refine g_ (aA rfl _ _ w.heap.size _ rfl (aX _ _ b ah _ (setRow_heap _ _ _ _ _ _ HK3.out))) rfl ?_;exact⟨by rw[EO2.out,HEE.out];rfl,HBW.out.trans (aK (A_ _))⟩
 ·have i2:(ee != 0)=true:=by simpa using he
  have EO2:Hid (pkB blob=zB):=O (by rw[EPB.out,H_ he]);clear he;go_wp2
  have k1:w3.drew.cell? ⟨g,1,none⟩=some (.int .i64 ee):=by rw[e_ _ _ _ _ _ _ (show w3.drew.heap[g]? = _ from HX3.out)];exact gy _ ee _
  have k2:(w3.drew.setRow w.heap.size (bc zB (.slice none 0 0))).cell? ⟨g,1,none⟩=some (.int .i64 ee):=by rw[e_ _ _ _ _ _ _ (show (w3.drew.setRow w.heap.size (bc zB (.slice none 0 0))).heap[g]? = _ from(aj _ _ _ _ (by have := HGW.out;omega)).trans HX3.out)];exact gy _ ee _
  have k3:=gV w3.drew w.heap.size zB zB (.slice none 0 0) none 0 0 HK3.out
  go_region
  all_goals go_wp2
  all_goals (refine g_ (aA rfl _ _ w.heap.size _ rfl (aX _ _ zB ah _ (setRow_heap _ _ _ _ _ _ HK3.out))) rfl ?_)
  all_goals (exact⟨by rw[EO2.out,HEE.out];rfl,HBW.out.drew.trans (aK (A_ _))⟩)
end
section
open Go.RowKit Go.Shelf
theorem jO (d:List UInt8):((am d).all fun u=>u.oneCell')=true:=iY d
attribute [local irreducible] Calls am
attribute [local irreducible] kc aE aB dZ fV kN
end
end Go.Proofs.YtmfiaadjdbemnaaGreatDoor
