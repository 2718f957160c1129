/- Contracts and lemmas. No condition. -/
import Derived.Test.YtmfiaadjdbemnaaGreatDoorSB32
import Derived.Test.YtmfiaadjdbemnaaGreatDoorLAny04
import Derived.Test.YtmfiaadjdbemnaaGreatDoorLAny05
set_option maxRecDepth 100000
set_option maxHeartbeats 8000000
namespace Go.Proofs.YtmfiaadjdbemnaaGreatDoor
section
open Go.RowKit Go.Shelf
attribute [local irreducible] Calls
theorem T4 (nx:Int) (v:Value) (l:List K) (w:World) (hv:RdK w v l):Calls Tryz.prog 40 #[.agg (tbA nx v)] w fun e w'=>e = .returned (.bool (aP nx l))∧Below w.heap.size w w':=Ab nx v l w hv
attribute [local irreducible] shc shA
def oC (nx:Int) (tl:List K) (b:BK) (bl:List K):Bool:=decide (tl.length≤12) && (decide (b.mo.length≤100) && (decide (bl.length≤12) && (bl.all (fun k=>decide (k.val.length≤100)) && aP nx tl)))
attribute [local irreducible] tbA aP
theorem EG (nx:Int) (vt:Value) (tl:List K) (b:BK) (v:Value) (l:List K) (w:World) (ht:RdK w vt tl) (hv:RdK w v l) :
  Calls Tryz.prog 17 #[.agg (tbA nx vt),.agg (bc b v)] w fun e w'=>e = .returned (.bool (oC nx tl b l))∧Below w.heap.size w w':=by
 have hlen:=hv.len;unfold maxLen at hlen;have hlen2:=ht.len;unfold maxLen at hlen2;obtain⟨va,vc,rfl,_,_,_⟩:=id hv;obtain⟨ta,tc,rfl,_,_,_⟩:=id ht;obtain⟨W0,hW0⟩:∃W0,W0=(w.alloc (.cells (tbA nx (.slice ta tl.length tc)) 45)).alloc (.cells (bc b (.slice va l.length vc)) 47):=⟨_,rfl⟩;have HW:=O hW0;have HBE:Hid (Below w.heap.size w W0):=O (by rw[hW0];exact dm _ _ _ (Oo _ _));have HR1:Hid (W0.heap[w.heap.size+1]?=some (.cells (bc b (.slice va l.length vc)) 47 (0,0))):=O (by rw[hW0];exact eR _ _ _);have HR0:Hid (W0.heap[w.heap.size]?=some (.cells (tbA nx (.slice ta tl.length tc)) 45 (0,0))):=O (by rw[hW0];exact eP _ _ _);have HV:Hid (RdK W0 (.slice va l.length vc) l):=O (hv.on HBE.out);have HT:=O (T4 nx (.slice ta tl.length tc) tl W0 (ht.on HBE.out))
 have a1:W0.cell? ⟨w.heap.size,1,none⟩=some (.slice ta tl.length tc):=by rw[cell_of_row _ _ _ _ _ _ HR0.out];unfold tbA;rfl
 have a36:W0.cell? ⟨w.heap.size+1,36,none⟩=some (.string ⟨b.mo.toArray⟩):=by rw[cell_of_row _ _ _ _ _ _ HR1.out];exact uo _ _
 have a37:W0.cell? ⟨w.heap.size+1,37,none⟩=some (.slice va l.length vc):=by rw[cell_of_row _ _ _ _ _ _ HR1.out];exact iU _ _
 have hcs:(¬tl.length≤12∧oC nx tl b l=false)∨(tl.length≤12∧¬b.mo.length≤100∧oC nx tl b l=false)∨(tl.length≤12∧b.mo.length≤100∧¬l.length≤12∧oC nx tl b l=false) ∨
   (tl.length≤12∧b.mo.length≤100∧l.length≤12∧oC nx tl b l=(l.all (fun k=>decide (k.val.length≤100)) && aP nx tl)):=by
  unfold oC
  by_cases h1:tl.length≤12
  ·by_cases h2:b.mo.length≤100
   ·by_cases h3:l.length≤12
    ·simp[h1,h2,h3]
    ·simp[h1,h2,h3]
   ·simp[h1,h2]
  ·simp[h1]
 have HCS:=O hcs;clear hv ht hW0 hcs
 rcases HCS.out with⟨h1,hr⟩|⟨h1,h2,hr⟩|⟨h1,h2,h3,hr⟩|⟨h1,h2,h3,hr⟩
 case inr.inr.inr =>
  have i1:¬(12:Int)<tl.length:=by omega
  have i2:¬(100:Int)<b.mo.length:=by omega
  have i3:¬(12:Int)<l.length:=by omega
  have HF:=O hr;clear hr h1 h2 h3 HCS
  go_enter Tryz.func17,Tryz.ntmps17
  go_upto_region 1 with fail
  rw[←HW.out]
  try dsimp only[Act.put]
  go_wp2
  go_loopw [5] (fun o wr=>∃i:Nat,i≤l.length∧o = .int .i64 i∧Hid (∀j,j<i→(ae l j).val.length≤100)∧wr=W0) (fun o _=>l.length-(intOf o).toNat)
  case atStart=>exact⟨0,Nat.zero_le _,rfl,O (fun j hj=>absurd hj (by omega)),rfl⟩
  case round =>
   obtain⟨i,hi,rfl,hno,hwr⟩:=hrel;rw[hwr];clear hwr
   by_cases hlt:i<l.length
   ·obtain⟨bb,off,rfl,hb1,aO⟩:=(HV.out.cells) (by omega)
    obtain⟨d0,d1,d2,d3,d4,d5,d6,d7,d8⟩:=aO i hlt
    have j1:(i:Int)<l.length:=by omega
    have HK:=O hlt;have HNO:=hno;clear aO hno
    by_cases hq:(ae l i).val.length≤100
    ·have j2:¬(100:Int)<(ae l i).val.length:=by omega
     have HQ:=O hq;clear hq;go_wp2;go_roundw
     case rel=>exact⟨i+1,HK.out,by go_num,O (fun j hj=>by
      by_cases e:j=i
      ·subst e;exact HQ.out
      ·exact HNO.out j (by omega)),by first |exact rfl|exact trivial⟩
     case measure=>have := HK.out;simp[intOf];omega
    ·have j2:(100:Int)<(ae l i).val.length:=by omega
     have HRES:Hid (oC nx tl b l=false):=O (by
      rw[HF.out]
      have : l.all (fun k=>decide (k.val.length≤100))=false:=by
       rw[List.all_eq_false];refine⟨ae l i,?_,by simpa using hq⟩;rw[az l i hlt];exact List.getElem_mem hlt
      rw[this]
      rfl)
     clear hq hlt;go_wp2;go_ret;exact⟨by rw[HRES.out];rfl,HBE.out⟩
   ·have j1:(l.length:Int)≤i:=by omega
    have HA:Hid (oC nx tl b l=aP nx tl):=O (by
     rw[HF.out]
     have : l.all (fun k=>decide (k.val.length≤100))=true:=by
      rw[List.all_eq_true];intro k hk;obtain⟨j,hj,rfl⟩:=List.mem_iff_getElem.1 hk;have := hno.out j (by omega);rw[az l j hj] at this
      simpa using this
     rw[this,Bool.true_and])
    clear hno hlt hi
    go_wp2_with (first
     |(refine dw nx (.slice ta tl.length tc) rfl (.tmp 2) rfl w.heap.size rfl _ HR0.out ?_)
     |(go_at_call 40;refine HT.out.mono ?_;rintro e x1 ⟨rfl,hx1⟩;have HX:=O (HBE.out.trans (hx1.mono HBE.out.size));clear hx1))
    go_ret;exact⟨by rw[HA.out];rfl,HX.out⟩
 ·have HF:=O hr
  have i1:(12:Int)<tl.length:=by omega
  clear hr h1 HCS
  go_enter Tryz.func17,Tryz.ntmps17
  go_upto_region 1 with fail
  rw[←HW.out]
  try dsimp only[Act.put]
  go_wp2;go_ret;exact⟨by rw[HF.out];rfl,HBE.out⟩
 ·have HF:=O hr
  have i1:¬(12:Int)<tl.length:=by omega
  have i2:(100:Int)<b.mo.length:=by omega
  clear hr h1 h2 HCS
  go_enter Tryz.func17,Tryz.ntmps17
  go_upto_region 1 with fail
  rw[←HW.out]
  try dsimp only[Act.put]
  go_wp2;go_ret;exact⟨by rw[HF.out];rfl,HBE.out⟩
 ·have HF:=O hr
  have i1:¬(12:Int)<tl.length:=by omega
  have i2:¬(100:Int)<b.mo.length:=by omega
  have i3:(12:Int)<l.length:=by omega
  clear hr h1 h2 h3 HCS
  go_enter Tryz.func17,Tryz.ntmps17
  go_upto_region 1 with fail
  rw[←HW.out]
  try dsimp only[Act.put]
  go_wp2;go_ret;exact⟨by rw[HF.out];rfl,HBE.out⟩
end
end Go.Proofs.YtmfiaadjdbemnaaGreatDoor
