/- Contracts and lemmas. No condition. -/
import Derived.Test.YtmfiaadjdbemnaaGreatDoorLAny01
import Derived.Test.YtmfiaadjdbemnaaGreatDoorLAny02
import Derived.Test.YtmfiaadjdbemnaaGreatDoorSB34
set_option maxRecDepth 100000
set_option maxHeartbeats 8000000
set_option linter.unusedSimpArgs false
set_option linter.unusedVariables false
namespace Go.Proofs.YtmfiaadjdbemnaaGreatDoor
open Go.Proofs.Tryz
section
open Go.RowKit
theorem NR:ci []=1:=by unfold ci eO qu;simp
open Go.RowKit Go.Shelf
def Ax (n:Nat) (ks:List Nat) (p:UInt8):List Nat:=if p.toNat % n∈ks then ks else ks++[p.toNat % n]
def gG (n:Nat) (ps:List UInt8):List Nat:=ps.foldl (Ax n) []
theorem Gi (n:Nat) (ps:List UInt8) (j:Nat) (h:j<ps.length):gG n (ps.take (j+1))=Ax n (gG n (ps.take j)) (byteAt ps j):=by
 have e:byteAt ps j=ps[j]:=by simp[byteAt,h]
 unfold gG;rw[List.take_succ_eq_append_getElem h,List.foldl_append,e]
 rfl
theorem ti (n:Nat) (hn:0<n) (ps:List UInt8):(gG n ps).Nodup∧∀k∈gG n ps,k<n:=by
 have H : ∀ (ps : List UInt8) (ks : List Nat), (ks.Nodup ∧ ∀ k ∈ ks, k < n) → ((ps.foldl (Ax n) ks).Nodup ∧ ∀ k ∈ ps.foldl (Ax n) ks, k < n) := by
  intro ps
  induction ps with
  | nil=>intro ks h;exact h
  | cons p r ih =>
    intro ks h;refine ih _ ?_;unfold Ax
    by_cases hm:p.toNat % n∈ks
    ·rw[G_ hm];exact h
    ·rw[H_ hm]
     refine⟨?_,fun k hk => ?_⟩
     ·rw[List.nodup_append]
      refine⟨h.1,by simp,?_⟩;intro a ha b hb e;simp only[List.mem_singleton] at hb;subst hb e;exact hm ha
     ·rcases List.mem_append.1 hk with h1|h1
      ·exact h.2 k h1
      ·simp only[List.mem_singleton] at h1
       rw[h1];exact Nat.mod_lt _ hn
 exact H ps [] ⟨by simp,by simp⟩
theorem qe (n:Nat) (ps:List UInt8):(gG n ps).length≤ps.length:=by
 have H:∀(ps:List UInt8) (ks:List Nat),(ps.foldl (Ax n) ks).length≤ks.length+ps.length:=by
  intro ps
  induction ps with
  | nil=>intro ks;exact A_ _
  | cons p r ih =>
    intro ks;refine M_ (ih _) ?_;unfold Ax
    split <;> simp <;> omega
 have h:=H ps [];rw[List.length_nil,a_] at h;exact h
def pK (n:Nat) (ks:List Nat):List Bool:=(List.range n).map fun j=>decide (j∈ks)
theorem Mp (n:Nat):pK n []=List.replicate n false:=by
 apply List.ext_getElem (by simp[pK])
 intro i h1 h2
 simp[pK]
theorem Qc (n:Nat) (ks:List Nat) (k:Nat) (h:k<n):(pK n ks)[k]?=some (decide (k∈ks)):=by simp[pK,h]
theorem Mq (n:Nat) (ks:List Nat) (k:Nat):(pK n ks).set k true=pK n (ks++[k]):=by
 apply List.ext_getElem (by simp[pK])
 intro i h1 h2;rw[List.getElem_set]
 by_cases e:k=i
 ·subst e;simp[pK]
 ·rw[H_ e]
  have e':¬i=k:=fun h=>e h.symm
  simp[pK,e']
def ubs (l:List Bool):Array Value:=(l.map Value.bool).toArray
structure UAt (w:World) (g:Nat) (l:List Bool):Prop where
 lt:g<w.heap.size
 cells:w.heap[g]?=some (.cells (ubs l) 4 (0,0))
theorem UAt.keep {w w':World} {g:Nat} {l:List Bool} (h:UAt w g l) (ho:w'.heap[g]? = w.heap[g]?) (hs:w.heap.size≤w'.heap.size):UAt w' g l :=
 ⟨P_ h.lt hs,by rw[ho];exact h.cells⟩
theorem UAt.at {w:World} {g:Nat} {l:List Bool} (h:UAt w g l) (i:Nat) (b:Bool) (hi:l[i]?=some b):w.cell? ⟨g,i,none⟩=some (.bool b):=by
 rw[e_ _ _ _ _ _ _ h.cells]
 simp[ubs,hi]
theorem UAt.free {w:World} {g:Nat} {l:List Bool} (h:UAt w g l) (k:Nat):w.frozen? ⟨g,k,none⟩=false:=by
 simp[World.frozen?,h.cells]
theorem UAt.set {w:World} {g:Nat} {l:List Bool} (h:UAt w g l) (k:Nat) (x:Bool):UAt (w.setCell ⟨g,k,none⟩ (.bool x)) g (l.set k x):=by
 refine⟨by rw[Fld.setCell_row _ _ _ _ _ _ _ h.cells];simpa [World.setRow] using h.lt,?_⟩;rw[Fld.setCell_row _ _ _ _ _ _ _ h.cells,setRow_heap _ _ _ _ _ _ h.cells]
 simp[ubs,List.map_set]
theorem GM:(prog.info? 4).map (fun i=>(i.zero,i.size,i.bytes))=some (some (.bool false),1,1):=by kernel_rfl
theorem KC {w:World} {ops:Array Oper} {rest:List Oper} {o:Oper} {a:Act} {Q:Exit→Act→World→Prop} (hgd:o.guard=none) (l c:Operand) (hop:o.op=Op.makeSlice 127 l c)
  (n:Nat) (hl:a.eval l = .int .i64 (n:Int)) (hc:a.eval c = .int .i64 (n:Int)) (hn:n≤1000000000)
  (h:∀w',UAt w' w.heap.size (List.replicate n false)→Below w.heap.size w w'→wpList prog ops Q rest (a.put o.dst (.slice (some ⟨w.heap.size,0,none⟩) n n)) w'):wpList prog ops Q (o::rest) a w:=by
 obtain⟨i0,hi,hz0,hz1,hz2⟩:=info_parts GM;refine wpList_make_full w hgd l c 127 hop w.heap.size 4 i0 (.bool false) 1 underlying127 hi hz0 hz1 .i64 .i64 n n n hl hc rfl rfl (by rw[hz2];omega) (by unfold maxLen;omega) (A_ _) ?_;intro w' h1 h2;refine h w' ?_ ((O_ _ w).grown h2 (A_ _) (fun k hk=>by cases hk))
 rcases h1.2 with⟨e,_⟩|⟨g,cap,cur,e,_,hg,h3,_,h5,h6⟩
 ·cases e
 ·simp only[Value.slice.injEq,Option.some.injEq,Addr.mk.injEq,and_true,true_and] at e
  obtain⟨e1,e2⟩:=e;subst e1 e2
  have hcur:cur=ubs (List.replicate n false):=by
   apply Array.ext'
   rw[Y_ (by rw[Array.length_toList,h5];exact A_ _)] at h6;rw[h6]
   apply List.ext_getElem (by simp[madeCells,ubs])
   intro i h7 h8
   simp[madeCells,ubs,Value.cells]
   rw[Nat.mod_one]
   rfl
  rw[hcur] at hg;exact⟨(Q_.1 hg).1,hg⟩
theorem OZ (w:World) (s:SH):RdE eH (w.alloc (.cells (shA s) 103)) (.slice (some ⟨w.heap.size,0,none⟩) 1 1) [s]:=bP w s oI
attribute [local irreducible] Calls shc shA
theorem Je (l:List SH) (ps:List UInt8) (v va:Value) (w:World) (hv:RdE eH w v l) (hp:RdE eB w va ps) (h1:1≤l.length) (h2:l.length≤1000) (h3:ps.length≤1000) :
  Calls prog 30 #[v,va] w fun e w'=>∃v',e = .returned v'∧ap eH w' w.heap.size v' ((gG l.length ps).map fun k=>l.getD k zSH)∧Below w.heap.size w w':=by
 have HV:=O hv;have HP:=O hp;have HL:=O (show 1≤l.length∧l.length≤1000∧ps.length≤1000 from⟨h1,h2,h3⟩);have HCK:=O (fun qs=>ti l.length (by omega) qs)
 have i1:(0:Int)<l.length:=by omega
 have i2:(l.length:Int)≤1000:=by omega
 have i3:(ps.length:Int)≤1000:=by omega
 have i0:((l.length:Int) == 0)=false:=by rw[U_];omega
 obtain⟨a,cap,rfl,_,_,_⟩:=hv;obtain⟨a2,cap2,rfl,_,_,_⟩:=hp;obtain⟨b,off,rfl,hbl,hcw⟩:=dA HV.out (by omega);have HRW:Hid (∀k (hk:k<l.length) y,Below w.heap.size w y→y.rangeAt b (off+k*19) (shc l[k])):=O (fun k hk y hy i x hx=>by rw[hy.cell (p:=⟨b,_,none⟩) hbl];exact(hcw k hk).1 i x hx);clear h1 h2 h3 hbl hcw
 go_enter func30,ntmps30
 go_upto_region 3 with (at_make;refine KC rfl _ _ rfl l.length rfl rfl ?hm1 ?hm2)
 case hm1=>have := HL.out;omega
 case hm2 =>
  intro w8 hat hb8;have HB8:=O hb8;have HAT:Hid (UAt w8 w.heap.size (pK l.length [])):=O (by rw[Mp];exact hat);have HSZ:Hid (w.heap.size+1≤w8.heap.size):=O hat.lt;clear hat hb8;go_wp2
  go_loopw [5,7] (fun o i wr=>∃j:Nat,j≤ps.length∧i = .int .i64 j∧Hid (ap eH wr (w.heap.size+1) o ((gG l.length (ps.take j)).map fun k=>l.getD k zSH))∧Hid (UAt wr w.heap.size (pK l.length (gG l.length (ps.take j))))∧Hid (Below w.heap.size w wr)∧Hid (w.heap.size+1≤wr.heap.size)) (fun _ i _=>ps.length-(intOf i).toNat)
  case atStart=>exact⟨0,N_ _,rfl,O (ap.nil _ _),O HAT.out,HB8,HSZ⟩
  case round =>
   clear HB8 HAT HSZ;obtain⟨j,hj,rfl,hown,hu,hb,hsz⟩:=hrel
   rename World=>wo
   by_cases hlt:j<ps.length
   ·have k1:(j:Int)<ps.length:=by omega
    have HJ:=O hlt;have HT:=O (Gi l.length ps j hlt);have HKO:=O (HCK.out (ps.take j)).2;have HKL:=O (qe l.length (ps.take j));obtain⟨b2,off2,e2,_,hc2⟩:=fp (HP.out.on hb.out) (by omega)
    cases e2
    have c2:=hc2 j hlt;clear hc2;generalize byteAt ps j=p at HT c2;have hpn:p.toNat % l.length<l.length:=Nat.mod_lt _ (by have := HL.out;omega);have HR:=O (HRW.out _ hpn)
    have hm:Int.tmod (B8 p) (l.length:Int)=((p.toNat % l.length:Nat):Int):=by
     unfold B8;rw[Int.tmod_eq_emod_of_nonneg (by omega)]
     rfl
    have HGD:Hid (l.getD (p.toNat % l.length) zSH=l[p.toNat % l.length]):=O (by simp[I_,hpn]);unfold Ax at HT;generalize l[p.toNat % l.length]=s at HR HGD;generalize p.toNat % l.length=k at HT hpn hm HR HGD
    have hk1:(k:Int)<l.length:=by omega
    have hk0:(0:Int)≤k:=by omega
    generalize gG l.length (ps.take j)=ks at hown hu HT HKO HKL;have cu:=hu.out.at k _ (Qc l.length ks k hpn);have fu:=hu.out.free k;clear hj hlt
    by_cases hmem:k∈ks
    ·rw[G_ hmem] at HT
     rw[decide_eq_true hmem] at cu;go_wp2;go_roundw
     case rel=>exact⟨j+1,HJ.out,by go_num,O (by rw[HT.out];exact hown.out),O (by rw[HT.out];exact hu.out),hb,hsz⟩
     case measure=>have := HJ.out;simp[intOf];omega
    ·rw[H_ hmem] at HT
     rw[V_ hmem] at cu;have HU2:Hid (UAt (wo.setCell ⟨w.heap.size,k,none⟩ (.bool true)) w.heap.size (pK l.length (ks++[k]))):=O (by rw[←Mq];exact hu.out.set k true);have HO2:Hid (ap eH (wo.setCell ⟨w.heap.size,k,none⟩ (.bool true)) (w.heap.size+1) u5 (ks.map fun k=>l.getD k zSH)):=O (hown.out.but (g:=w.heap.size) (hown.out.neOld (Nat.lt_succ_self _)) (fun q hq=>kR (Ne.symm hq)));have HB2:Hid (Below w.heap.size w (wo.setCell ⟨w.heap.size,k,none⟩ (.bool true))):=O (hb.out.setCell (A_ _) _);have HZ2:Hid (w.heap.size+1≤(wo.setCell ⟨w.heap.size,k,none⟩ (.bool true)).heap.size):=O HU2.out.lt
     go_upto_region 9 with fail
     generalize wo.setCell ⟨w.heap.size,k,none⟩ (.bool true)=w4 at HU2 HO2 HB2 HZ2 ⊢;have HR4:=O (HR.out _ HB2.out);clear hown hu hb hsz cu fu HR;have HBA:Hid (Below w4.heap.size w4 (w4.alloc (.cells (shA s) 103))):=O ((O_ _ _).alloc (A_ _) _)
     go_wp2_with (first
      |(refine vq s b (off+k*19) (.tmp 42) rfl HR4.out rfl rfl ?_)
      |(refine IV s rfl (.tmp 43) rfl rfl ?_)
      |(at_builtin;(refine br oI rfl (.tmp 39) (.tmp 44) rfl (w.heap.size+1) _ _ rfl (HO2.out.on HBA.out) _ [s] rfl (OZ w4 s) (by rw[List.length_map];have := HL.out;have := HKL.out;rw[b_] at this;simp;omega) (M_ HZ2.out HBA.out.size) ?_;intro v3 w3 ho3 hg3 _;have HO3:=O ho3;have HG3:=O hg3;clear ho3 hg3)))
     have HB3:Hid (Below w.heap.size w w3):=O ((HB2.out.trans (HBA.out.mono (Nat.le_of_succ_le HZ2.out))).grown HG3.out (M_ (Nat.le_of_succ_le HZ2.out) HBA.out.size) (fun k hk2=>Nat.le_of_succ_le (HO2.out.lt k hk2).1));have HB4:Hid (Below (w.heap.size+1) w4 w3):=O ((HBA.out.mono HZ2.out).grown HG3.out (M_ HZ2.out HBA.out.size) (fun k hk2=>(HO2.out.lt k hk2).1));go_roundw
     case rel=>exact⟨j+1,HJ.out,by go_num,O (by rw[HT.out,List.map_append];simp only[List.map_cons,List.map_nil];rw[HGD.out];exact HO3.out),O (by rw[HT.out];exact HU2.out.keep (HB4.out.block _ (Nat.lt_succ_self _)) HB4.out.size),HB3,O (M_ HZ2.out HB4.out.size)⟩
     case measure=>have := HJ.out;simp[intOf];omega
   ·have he:j=ps.length:=by omega
    have k1:¬(j:Int)<ps.length:=by omega
    have HF:Hid (ap eH wo (w.heap.size+1) u5 ((gG l.length ps).map fun k=>l.getD k zSH)):=O (by have := hown.out;rwa [he,List.take_length] at this);clear he hlt hj hown hu;go_wp2;go_ret;exact⟨_,rfl,HF.out.mono (Nat.le_succ _),hb.out⟩
end
section
open Go.RowKit Go.Shelf
attribute [local irreducible] Calls
theorem T4 (nx:Int) (v:Value) (l:List K) (w:World) (hv:RdK w v l):Calls prog 40 #[.agg (tbA nx v)] w fun e w'=>e = .returned (.bool (aP nx l))∧Below w.heap.size w w':=Ab nx v l w hv
attribute [local irreducible] shc shA
def oC (nx:Int) (tl:List K) (b:BK) (bl:List K):Bool:=decide (tl.length≤12) && (decide (b.mo.length≤100) && (decide (bl.length≤12) && (bl.all (fun k=>decide (k.val.length≤100)) && aP nx tl)))
attribute [local irreducible] tbA aP
theorem EG (nx:Int) (vt:Value) (tl:List K) (b:BK) (v:Value) (l:List K) (w:World) (ht:RdK w vt tl) (hv:RdK w v l) :
  Calls prog 17 #[.agg (tbA nx vt),.agg (bc b v)] w fun e w'=>e = .returned (.bool (oC nx tl b l))∧Below w.heap.size w w':=by
 have hlen:=hv.len;unfold maxLen at hlen;have hlen2:=ht.len;unfold maxLen at hlen2;obtain⟨va,vc,rfl,_,_,_⟩:=id hv;obtain⟨ta,tc,rfl,_,_,_⟩:=id ht;obtain⟨W0,hW0⟩:∃W0,W0=(w.alloc (.cells (tbA nx (.slice ta tl.length tc)) 45)).alloc (.cells (bc b (.slice va l.length vc)) 47):=⟨_,rfl⟩;have HW:=O hW0;have HBE:Hid (Below w.heap.size w W0):=O (by rw[hW0];exact dm _ _ _ (O_ _ _));have HR1:Hid (W0.heap[w.heap.size+1]?=some (.cells (bc b (.slice va l.length vc)) 47 (0,0))):=O (by rw[hW0];exact eR _ _ _);have HR0:Hid (W0.heap[w.heap.size]?=some (.cells (tbA nx (.slice ta tl.length tc)) 45 (0,0))):=O (by rw[hW0];exact eP _ _ _);have HV:Hid (RdK W0 (.slice va l.length vc) l):=O (hv.on HBE.out);have HT:=O (T4 nx (.slice ta tl.length tc) tl W0 (ht.on HBE.out))
 have a1:W0.cell? ⟨w.heap.size,1,none⟩=some (.slice ta tl.length tc):=by rw[e_ _ _ _ _ _ _ HR0.out];unfold tbA;rfl
 have a36:W0.cell? ⟨w.heap.size+1,36,none⟩=some (.string ⟨b.mo.toArray⟩):=by rw[e_ _ _ _ _ _ _ HR1.out];exact uo _ _
 have a37:W0.cell? ⟨w.heap.size+1,37,none⟩=some (.slice va l.length vc):=by rw[e_ _ _ _ _ _ _ HR1.out];exact iU _ _
 have hcs:(¬tl.length≤12∧oC nx tl b l=false)∨(tl.length≤12∧¬b.mo.length≤100∧oC nx tl b l=false)∨(tl.length≤12∧b.mo.length≤100∧¬l.length≤12∧oC nx tl b l=false) ∨
   (tl.length≤12∧b.mo.length≤100∧l.length≤12∧oC nx tl b l=(l.all (fun k=>decide (k.val.length≤100)) && aP nx tl)):=by
  unfold oC
  by_cases h1:tl.length≤12
  ·by_cases h2:b.mo.length≤100
   ·by_cases h3:l.length≤12
    ·simp[h1,h2,h3]
    ·simp[h1,h2,h3]
   ·simp[h1,h2]
  ·simp[h1]
 have HCS:=O hcs;clear hv ht hW0 hcs
 rcases HCS.out with⟨h1,hr⟩|⟨h1,h2,hr⟩|⟨h1,h2,h3,hr⟩|⟨h1,h2,h3,hr⟩
 case inr.inr.inr =>
  have i1:¬(12:Int)<tl.length:=by omega
  have i2:¬(100:Int)<b.mo.length:=by omega
  have i3:¬(12:Int)<l.length:=by omega
  have HF:=O hr;clear hr h1 h2 h3 HCS
  go_enter func17,ntmps17
  go_upto_region 1 with fail
  rw[←HW.out]
  try dsimp only[Act.put]
  go_wp2
  go_loopw [5] (fun o wr=>∃i:Nat,i≤l.length∧o = .int .i64 i∧Hid (∀j,j<i→(ae l j).val.length≤100)∧wr=W0) (fun o _=>l.length-(intOf o).toNat)
  case atStart=>exact⟨0,N_ _,rfl,O (fun j hj=>absurd hj (by omega)),rfl⟩
  case round =>
   obtain⟨i,hi,rfl,hno,hwr⟩:=hrel;rw[hwr];clear hwr
   by_cases hlt:i<l.length
   ·obtain⟨bb,off,rfl,hb1,aO⟩:=(HV.out.cells) (by omega)
    obtain⟨d0,d1,d2,d3,d4,d5,d6,d7,d8⟩:=aO i hlt
    have j1:(i:Int)<l.length:=by omega
    have HK:=O hlt;have HNO:=hno;clear aO hno
    by_cases hq:(ae l i).val.length≤100
    ·have j2:¬(100:Int)<(ae l i).val.length:=by omega
     have HQ:=O hq;clear hq;go_wp2;go_roundw
     case rel=>exact⟨i+1,HK.out,by go_num,O (fun j hj=>by
      by_cases e:j=i
      ·subst e;exact HQ.out
      ·exact HNO.out j (by omega)),by first |exact rfl|exact trivial⟩
     case measure=>have := HK.out;simp[intOf];omega
    ·have j2:(100:Int)<(ae l i).val.length:=by omega
     have HRES:Hid (oC nx tl b l=false):=O (by
      rw[HF.out]
      have : l.all (fun k=>decide (k.val.length≤100))=false:=by
       rw[List.all_eq_false];refine⟨ae l i,?_,by simpa using hq⟩;rw[az l i hlt];exact List.getElem_mem hlt
      rw[this]
      rfl)
     clear hq hlt;go_wp2;go_ret;exact⟨by rw[HRES.out];rfl,HBE.out⟩
   ·have j1:(l.length:Int)≤i:=by omega
    have HA:Hid (oC nx tl b l=aP nx tl):=O (by
     rw[HF.out]
     have : l.all (fun k=>decide (k.val.length≤100))=true:=by
      rw[List.all_eq_true];intro k hk;obtain⟨j,hj,rfl⟩:=List.mem_iff_getElem.1 hk;have := hno.out j (by omega);rw[az l j hj] at this
      simpa using this
     rw[this,Bool.true_and])
    clear hno hlt hi
    go_wp2_with (first
     |(refine dw nx (.slice ta tl.length tc) rfl (.tmp 2) rfl w.heap.size rfl _ HR0.out ?_)
     |(go_at_call 40;refine HT.out.mono ?_;rintro e x1 ⟨rfl,hx1⟩;have HX:=O (HBE.out.trans (hx1.mono HBE.out.size));clear hx1))
    go_ret;exact⟨by rw[HA.out];rfl,HX.out⟩
 ·have HF:=O hr
  have i1:(12:Int)<tl.length:=by omega
  clear hr h1 HCS
  go_enter func17,ntmps17
  go_upto_region 1 with fail
  rw[←HW.out]
  try dsimp only[Act.put]
  go_wp2;go_ret;exact⟨by rw[HF.out];rfl,HBE.out⟩
 ·have HF:=O hr
  have i1:¬(12:Int)<tl.length:=by omega
  have i2:(100:Int)<b.mo.length:=by omega
  clear hr h1 h2 HCS
  go_enter func17,ntmps17
  go_upto_region 1 with fail
  rw[←HW.out]
  try dsimp only[Act.put]
  go_wp2;go_ret;exact⟨by rw[HF.out];rfl,HBE.out⟩
 ·have HF:=O hr
  have i1:¬(12:Int)<tl.length:=by omega
  have i2:¬(100:Int)<b.mo.length:=by omega
  have i3:(12:Int)<l.length:=by omega
  clear hr h1 h2 h3 HCS
  go_enter func17,ntmps17
  go_upto_region 1 with fail
  rw[←HW.out]
  try dsimp only[Act.put]
  go_wp2;go_ret;exact⟨by rw[HF.out];rfl,HBE.out⟩
end
section
open Go.RowKit
theorem FW:prog.built 47 []=some (bc zB ah):=by kernel_rfl
theorem lD {ops:Array Oper} {rest:List Oper} {o:Oper} {a:Act} {w:World} {Q:Exit→Act→World→Prop} (hgd:Region.wanted o (yielded ops a.tmps)=true) (ho:o.op = .build 47 #[])
  (h:wpList prog ops Q rest (a.put o.dst (.agg (bc zB ah))) w):wpList prog ops Q (o::rest) a w :=
 wpList_step fun K hK=>by
  rw[G_ hgd];have hr:=run_build (P:=prog) w 47 #[] _ FW;unfold Oper.wp execOp;simp only[ho,List.map_toArray,List.map_nil,hr,Sem.run_bind,Sem.run_pure,Result.andThen_ok];exact hK _ _ h
theorem Iy (s:List UInt8) (m n:Nat) (hn:0<n) (ps:List UInt8):((gG n ps).map fun k=>(fdP s m (List.range n)).getD k zSH)=fdP s m (gG n ps):=by
 unfold fdP d9
 apply List.map_congr_left
 intro k hk;have h:=(ti n hn ps).2 k hk
 simp[I_,h]
theorem RD (s:List UInt8) (q p:Nat) (ps:List UInt8) (hp:p<16) (hq:q≤p) (hl:ps.length≤40) (h:(gG (p+1) ps).length<q+1):ci (fdP s q (gG (p+1) ps))≠0:=by
 have h1:=ti (p+1) (by omega) ps;have h2:=qe (p+1) ps
 rcases Nat.eq_zero_or_pos (gG (p+1) ps).length with h0|h0
 ·rw[List.length_eq_zero_iff.1 h0,show fdP s q []=[] from rfl,NR]
  decide
 ·rw[JO s q _ h1.1 (fun k hk=>by have := h1.2 k hk;omega) (by omega) (by omega) h0 h]
  decide
theorem Ix (s:List UInt8) (q p:Nat) (ps:List UInt8) (hp:p<16) (hq:q≤p) (hl:ps.length≤40) (h:q+1≤(gG (p+1) ps).length):ci (fdP s q (gG (p+1) ps))=0∧eU (fdP s q (gG (p+1) ps))=nxV s:=by
 have h1:=ti (p+1) (by omega) ps;have h2:=qe (p+1) ps;exact xl s q _ h1.1 (fun k hk=>by have := h1.2 k hk;omega) (by omega) (by omega) h
def bE (s:List UInt8):DO:=⟨ofP 12 [iz,nxV s],nxV (nxS s),0,0⟩
theorem D6 (s:List UInt8) (q p:Nat) (hp:p<16) (hq:q≤p):cP s (1+(q:Int)) (1+(p:Int))=⟨bE s,fdP (nxS s) q (List.range (p+1)),nxS (nxS (nxS s)),0⟩:=by
 have h:kO (1+(q:Int)) (1+(p:Int))=true:=by
  unfold kO;simp only[T_,decide_eq_true_eq]
  omega
 rw[tB _ _ _ h,show (1+(q:Int)-1).toNat=q by omega,show (1+(p:Int)).toNat=p+1 by omega]
 rfl
theorem FO (s:List UInt8):(bE s).mach:=⟨tE _ _,by show okI 0;unfold okI;decide,by show okI 0;unfold okI;decide⟩
theorem lC (s:List UInt8):bD (bE s)=true:=by unfold bE bD;simp[cL]
theorem Cu (s:List UInt8) {nx:Int} {l:List K} (h:aP nx l=true):ch (bE s).key (cG (bE s) sb) l=true∧dbE (bE s) sb l=0∧dbX (bE s) sb l=bX (bE s).key (cG (bE s) sb) l∧dbD (bE s) sb l={ bE s with bk:=0+1 } :=
 Ee (lC s) (by show (0:Int)≠2147483647;decide) (yD h).1 (yD h).2 (zR h)
theorem kT (s:List UInt8):(cG (bE s) sb).mach:=⟨tE _ _,rfl,by intro x hx;simp[cG,bE,sb,zB] at hx;rcases hx with rfl|rfl|rfl|rfl;all_goals (unfold okI;decide),by show 1≤maxLen;unfold maxLen;decide⟩
theorem Iw (s:List UInt8) (q p:Nat) (hp:p<16) (hq:q≤p) (hs:s.length≤100) (w:World) (hk:KAt w) :
  Calls prog 10 #[.agg (ag s),.int .i64 (1+(q:Int)),.int .i64 (1+(p:Int))] w fun e w'=>∃a c,e = .returned (.tuple #[.agg (doA (bE s)),.slice a (p+1:Nat) c,.agg (ag (nxS (nxS (nxS s)))),.int .i64 0])∧RdE eH w' (.slice a (p+1:Nat) c) (fdP (nxS s) q (List.range (p+1)))∧Below w.heap.size w w':=by
 have h:=xN s (1+(q:Int)) (1+(p:Int)) w hk (by omega);rw[D6 s q p hp hq] at h;refine h.mono fun e w' ⟨v,he,ho,hb⟩ => ?_;have hr:=ho.rd;obtain⟨a,c,hv,_⟩:=id hr;rw[jq,List.length_range] at hv;subst hv;exact⟨a,c,he,hr,hb⟩
theorem Np (s:List UInt8) (nx:Int) (l:List K) (h:aP nx l=true) (v:Value) (w:World) (hk:KAt w) (hv:RdK w v l) (hn:cQ l) :
  Calls prog 19 #[.agg (doA (bE s)),.agg (tbA nx v),.agg (bc sb ah)] w fun e w'=>e = .returned (.tuple #[.agg (doA { bE s with bk:=0+1 }),.string ⟨(bX (bE s).key (cG (bE s) sb) l).toArray⟩,.int .i64 0])∧Below w.heap.size w w':=by
 have h2:=pV (bE s) sb nx v none 0 0 l w hk hv (FO s) mg hn;obtain⟨_,e1,e2,e3⟩:=Cu s h;rw[e1,e2,e3] at h2;exact h2
theorem Nq (s:List UInt8) (q p:Nat) (hp:p<16) (ps:List UInt8) (hl:ps.length≤40) (v va:Value) (w:World) (hv:RdE eH w v (fdP s q (List.range (p+1)))) (hp2:RdE eB w va ps) :
  Calls prog 30 #[v,va] w fun e w'=>∃a c,e = .returned (.slice a (gG (p+1) ps).length c)∧RdE eH w' (.slice a (gG (p+1) ps).length c) (fdP s q (gG (p+1) ps))∧Below w.heap.size w w':=by
 have hlen:(fdP s q (List.range (p+1))).length=p+1:=by rw[jq,List.length_range]
 have h:=Je _ ps v va w hv hp2 (by rw[hlen];omega) (by rw[hlen];omega) (by omega);rw[hlen,Iy s q (p+1) (by omega) ps] at h;refine h.mono fun e w' ⟨v',he,ho,hb⟩ => ?_;have hr:=ho.rd;obtain⟨a,c,hv2,_⟩:=id hr;rw[jq] at hv2;subst hv2;exact⟨a,c,he,hr,hb⟩
theorem IA (s:List UInt8) (nx:Int) (l:List K) (h:aP nx l=true) (P:List SH) (hc:ci P≠0) (v:Value) (w:World) (hk:KAt w) (hv:RdE eH w v P) :
  Calls prog 21 #[.string ⟨(bX (bE s).key (cG (bE s) sb) l).toArray⟩,v] w fun e w'=>∃b a c g,e = .returned (.tuple #[.agg (bc b (.slice a 0 c)),.int .i64 g])∧(g != 0)=true∧RdK w' (.slice a 0 c) []∧Below w.heap.size w w':=by
 obtain⟨o1,_⟩:=Cu s h;have h2:=j6 _ P v w hk hv (M_ (lf _ _ _ (kT s) o1) (by decide));obtain⟨e1,e2⟩:=Rp (kT s) o1 hc;rw[e1,e2] at h2;refine h2.mono fun e w' ⟨va,vn,vc,he,hr,hb⟩ => ?_;obtain⟨a,c,hv2,_⟩:=id hr
 cases hv2
 exact⟨_,_,_,_,he,by rw[bne_iff_ne];exact hc,hr,hb⟩
theorem IB (s:List UInt8) (nx:Int) (l:List K) (h:aP nx l=true) (hn:cQ l) (P:List SH) (hc:ci P=0) (hp:eU P=(bE s).key) (v:Value) (w:World) (hk:KAt w) (hv:RdE eH w v P) :
  Calls prog 21 #[.string ⟨(bX (bE s).key (cG (bE s) sb) l).toArray⟩,v] w fun e w'=>∃a c,e = .returned (.tuple #[.agg (bc (cG (bE s) sb) (.slice a l.length c)),.int .i64 0])∧RdK w' (.slice a l.length c) l∧Below w.heap.size w w':=by
 obtain⟨o1,_⟩:=Cu s h;have h2:=j6 _ P v w hk hv (M_ (lf _ _ _ (kT s) o1) (by decide));obtain⟨e1,e2,e3⟩:=qZ (kT s) hn o1 hc hp;rw[e1,e2,e3] at h2;refine h2.mono fun e w' ⟨va,vn,vc,he,hr,hb⟩ => ?_;obtain⟨a,c,hv2,_⟩:=id hr
 cases hv2
 exact⟨_,_,he,hr,hb⟩
theorem Iz (nx:Int) (v u:Value) (l:List K) (w:World) (hv:RdK w v l) (hu:RdK w u l) :
  Calls prog 26 #[.agg (tbA nx v),.agg (tbA nx u)] w fun e w'=>e = .returned (.bool true)∧Below w.heap.size w w':=by
 have h:=Rh nx nx v u l l w hv hu;rw[show decide (nx=nx∧l=l)=true by simp] at h;exact h
theorem uU {nx:Int} {l:List K} {b:BK} {m:List K} (h:oC nx l b m=true):aP nx l=true:=by
 unfold oC at h;simp only[T_] at h;exact h.2.2.2.2
theorem D5 (nx:Int) (v:Value) (l:List K) (w:World) (hv:RdK w v l):Calls prog 17 #[.agg (tbA nx v),.agg (bc zB ah)] w fun e w'=>e = .returned (.bool (oC nx l zB []))∧Below w.heap.size w w' :=
 EG nx v l zB ah [] w hv (RdK.nil w)
theorem Nt (s:List UInt8) (q p:Nat) (ps:List UInt8) (hp:p<16) (hq:q≤p) (hl:ps.length≤40) (h:q+1≤(gG (p+1) ps).length):eU (fdP (nxS s) q (gG (p+1) ps))=(bE s).key:=(Ix (nxS s) q p ps hp hq hl h).2
theorem RC (s:List UInt8):(bE s).id=(cG (bE s) sb).dom:=rfl
theorem Ns (s:List UInt8):(cG (bE s) sb).num=1:=rfl
theorem DL (n:Int) (v:Value) : #[.int .i64 n,v]=tbA n v:=rfl
theorem WY (n:Int) (v:Value):(tbA n v)[0]?=some (.int .i64 n):=rfl
open Go.RowKit
theorem mh {ops:Array Oper} {rest:List Oper} {o:Oper} {a:Act} {w:World} {Q:Exit→Act→World→Prop} (b:BinOp) (T T':TypeId) (x y:Operand) (v1 v2 v:Value) (ho:o.op = .binOp b T x y T') (hgd:Region.wanted o (yielded ops a.tmps)=true) (hx:a.eval x=v1) (hy:a.eval y=v2) (hg:∀w,(eqGuard b T x y v1 v2).run prog w = .ok () w) (hr:∀w,(binOp b T v1 v2).run prog w = .ok v w)
  (h:wpList prog ops Q rest (a.put o.dst v) w):wpList prog ops Q (o::rest) a w :=
 wpList_step fun K hK=>by
  rw[G_ hgd];unfold Oper.wp execOp;simp only[ho,hx,hy,hg,hr,Sem.run_bind,Sem.run_pure,Result.andThen_ok];exact hK _ _ h
theorem xi (m n:Tmp) (x y:Array Value) (w:World):(eqGuard .eql 23 (.tmp m) (.tmp n) (.agg x) (.agg y)).run prog w = .ok () w:=by kernel_rfl
end
end Go.Proofs.YtmfiaadjdbemnaaGreatDoor
