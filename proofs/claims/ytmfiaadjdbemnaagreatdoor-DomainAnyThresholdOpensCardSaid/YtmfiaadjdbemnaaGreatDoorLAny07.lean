/- Contracts and lemmas. No condition. -/
import Derived.Test.YtmfiaadjdbemnaaGreatDoorLAny06
set_option maxRecDepth 100000
set_option maxHeartbeats 8000000
namespace Go.Proofs.YtmfiaadjdbemnaaGreatDoor
section
open Go.RowKit Go.Shelf
def Ax (n:Nat) (ks:List Nat) (p:UInt8):List Nat:=if p.toNat % n∈ks then ks else ks++[p.toNat % n]
def gG (n:Nat) (ps:List UInt8):List Nat:=ps.foldl (Ax n) []
theorem Gi (n:Nat) (ps:List UInt8) (j:Nat) (h:j<ps.length):gG n (ps.take (j+1))=Ax n (gG n (ps.take j)) (byteAt ps j):=by
 have e:byteAt ps j=ps[j]:=by simp[byteAt,h]
 unfold gG;rw[List.take_succ_eq_append_getElem h,List.foldl_append,e]
 rfl
theorem ti (n:Nat) (hn:0<n) (ps:List UInt8):(gG n ps).Nodup∧∀k∈gG n ps,k<n:=by
 have H : ∀ (ps : List UInt8) (ks : List Nat), (ks.Nodup ∧ ∀ k ∈ ks, k < n) → ((ps.foldl (Ax n) ks).Nodup ∧ ∀ k ∈ ps.foldl (Ax n) ks, k < n) := by
  intro ps
  induction ps with
  | nil=>intro ks h;exact h
  | cons p r ih =>
    intro ks h;refine ih _ ?_;unfold Ax
    by_cases hm:p.toNat % n∈ks
    ·rw[if_pos hm];exact h
    ·rw[if_neg hm]
     refine⟨?_,fun k hk => ?_⟩
     ·rw[List.nodup_append]
      refine⟨h.1,by simp,?_⟩;intro a ha b hb e;simp only[List.mem_singleton] at hb;subst hb e;exact hm ha
     ·rcases List.mem_append.1 hk with h1|h1
      ·exact h.2 k h1
      ·simp only[List.mem_singleton] at h1
       rw[h1];exact Nat.mod_lt _ hn
 exact H ps [] ⟨by simp,by simp⟩
theorem qe (n:Nat) (ps:List UInt8):(gG n ps).length≤ps.length:=by
 have H:∀(ps:List UInt8) (ks:List Nat),(ps.foldl (Ax n) ks).length≤ks.length+ps.length:=by
  intro ps
  induction ps with
  | nil=>intro ks;exact Nat.le_refl _
  | cons p r ih =>
    intro ks;refine Nat.le_trans (ih _) ?_;unfold Ax
    split <;> simp <;> omega
 have h:=H ps [];rw[List.length_nil,Nat.zero_add] at h;exact h
def pK (n:Nat) (ks:List Nat):List Bool:=(List.range n).map fun j=>decide (j∈ks)
theorem Mp (n:Nat):pK n []=List.replicate n false:=by
 apply List.ext_getElem (by simp[pK])
 intro i h1 h2
 simp[pK]
theorem Qc (n:Nat) (ks:List Nat) (k:Nat) (h:k<n):(pK n ks)[k]?=some (decide (k∈ks)):=by simp[pK,h]
theorem Mq (n:Nat) (ks:List Nat) (k:Nat):(pK n ks).set k true=pK n (ks++[k]):=by
 apply List.ext_getElem (by simp[pK])
 intro i h1 h2;rw[List.getElem_set]
 by_cases e:k=i
 ·subst e;simp[pK]
 ·rw[if_neg e]
  have e':¬i=k:=fun h=>e h.symm
  simp[pK,e']
def ubs (l:List Bool):Array Value:=(l.map Value.bool).toArray
structure UAt (w:World) (g:Nat) (l:List Bool):Prop where
 lt:g<w.heap.size
 cells:w.heap[g]?=some (.cells (ubs l) 4 (0,0))
theorem UAt.keep {w w':World} {g:Nat} {l:List Bool} (h:UAt w g l) (ho:w'.heap[g]? = w.heap[g]?) (hs:w.heap.size≤w'.heap.size):UAt w' g l :=
 ⟨Nat.lt_of_lt_of_le h.lt hs,by rw[ho];exact h.cells⟩
theorem UAt.at {w:World} {g:Nat} {l:List Bool} (h:UAt w g l) (i:Nat) (b:Bool) (hi:l[i]?=some b):w.cell? ⟨g,i,none⟩=some (.bool b):=by
 rw[cell_of_row _ _ _ _ _ _ h.cells]
 simp[ubs,hi]
theorem UAt.free {w:World} {g:Nat} {l:List Bool} (h:UAt w g l) (k:Nat):w.frozen? ⟨g,k,none⟩=false:=by
 simp[World.frozen?,h.cells]
theorem UAt.set {w:World} {g:Nat} {l:List Bool} (h:UAt w g l) (k:Nat) (x:Bool):UAt (w.setCell ⟨g,k,none⟩ (.bool x)) g (l.set k x):=by
 refine⟨by rw[Fld.setCell_row _ _ _ _ _ _ _ h.cells];simpa [World.setRow] using h.lt,?_⟩;rw[Fld.setCell_row _ _ _ _ _ _ _ h.cells,setRow_heap _ _ _ _ _ _ h.cells]
 simp[ubs,List.map_set]
theorem GM:(Tryz.prog.info? 4).map (fun i=>(i.zero,i.size,i.bytes))=some (some (.bool false),1,1):=by kernel_rfl
theorem KC {w:World} {ops:Array Oper} {rest:List Oper} {o:Oper} {a:Act} {Q:Exit→Act→World→Prop} (hgd:o.guard=none) (l c:Operand) (hop:o.op=Op.makeSlice 127 l c)
  (n:Nat) (hl:a.eval l = .int .i64 (n:Int)) (hc:a.eval c = .int .i64 (n:Int)) (hn:n≤1000000000)
  (h:∀w',UAt w' w.heap.size (List.replicate n false)→Below w.heap.size w w'→wpList Tryz.prog ops Q rest (a.put o.dst (.slice (some ⟨w.heap.size,0,none⟩) n n)) w'):wpList Tryz.prog ops Q (o::rest) a w:=by
 obtain⟨i0,hi,hz0,hz1,hz2⟩:=info_parts GM;refine wpList_make_full w hgd l c 127 hop w.heap.size 4 i0 (.bool false) 1 Tryz.underlying127 hi hz0 hz1 .i64 .i64 n n n hl hc rfl rfl (by rw[hz2];omega) (by unfold maxLen;omega) (Nat.le_refl _) ?_;intro w' h1 h2;refine h w' ?_ ((Oo _ w).grown h2 (Nat.le_refl _) (fun k hk=>by cases hk))
 rcases h1.2 with⟨e,_⟩|⟨g,cap,cur,e,_,hg,h3,_,h5,h6⟩
 ·cases e
 ·simp only[Value.slice.injEq,Option.some.injEq,Addr.mk.injEq,and_true,true_and] at e
  obtain⟨e1,e2⟩:=e;subst e1 e2
  have hcur:cur=ubs (List.replicate n false):=by
   apply Array.ext'
   rw[List.take_of_length_le (by rw[Array.length_toList,h5];exact Nat.le_refl _)] at h6;rw[h6]
   apply List.ext_getElem (by simp[madeCells,ubs])
   intro i h7 h8
   simp[madeCells,ubs,Value.cells]
   rw[Nat.mod_one]
   rfl
  rw[hcur] at hg;exact⟨(Array.getElem?_eq_some_iff.1 hg).1,hg⟩
theorem OZ (w:World) (s:SH):RdE eH (w.alloc (.cells (shA s) 103)) (.slice (some ⟨w.heap.size,0,none⟩) 1 1) [s]:=bP w s oI
attribute [local irreducible] Calls shc shA
theorem Je (l:List SH) (ps:List UInt8) (v va:Value) (w:World) (hv:RdE eH w v l) (hp:RdE eB w va ps) (h1:1≤l.length) (h2:l.length≤1000) (h3:ps.length≤1000) :
  Calls Tryz.prog 30 #[v,va] w fun e w'=>∃v',e = .returned v'∧ap eH w' w.heap.size v' ((gG l.length ps).map fun k=>l.getD k zSH)∧Below w.heap.size w w':=by
 have HV:=O hv;have HP:=O hp;have HL:=O (show 1≤l.length∧l.length≤1000∧ps.length≤1000 from⟨h1,h2,h3⟩);have HCK:=O (fun qs=>ti l.length (by omega) qs)
 have i1:(0:Int)<l.length:=by omega
 have i2:(l.length:Int)≤1000:=by omega
 have i3:(ps.length:Int)≤1000:=by omega
 have i0:((l.length:Int) == 0)=false:=by rw[beq_eq_false_iff_ne];omega
 obtain⟨a,cap,rfl,_,_,_⟩:=hv;obtain⟨a2,cap2,rfl,_,_,_⟩:=hp;obtain⟨b,off,rfl,hbl,hcw⟩:=dA HV.out (by omega);have HRW:Hid (∀k (hk:k<l.length) y,Below w.heap.size w y→y.rangeAt b (off+k*19) (shc l[k])):=O (fun k hk y hy i x hx=>by rw[hy.cell (p:=⟨b,_,none⟩) hbl];exact(hcw k hk).1 i x hx);clear h1 h2 h3 hbl hcw
 go_enter Tryz.func30,Tryz.ntmps30
 go_upto_region 3 with (at_make;refine KC rfl _ _ rfl l.length rfl rfl ?hm1 ?hm2)
 case hm1=>have := HL.out;omega
 case hm2 =>
  intro w8 hat hb8;have HB8:=O hb8;have HAT:Hid (UAt w8 w.heap.size (pK l.length [])):=O (by rw[Mp];exact hat);have HSZ:Hid (w.heap.size+1≤w8.heap.size):=O hat.lt;clear hat hb8;go_wp2
  go_loopw [5,7] (fun o i wr=>∃j:Nat,j≤ps.length∧i = .int .i64 j∧Hid (ap eH wr (w.heap.size+1) o ((gG l.length (ps.take j)).map fun k=>l.getD k zSH))∧Hid (UAt wr w.heap.size (pK l.length (gG l.length (ps.take j))))∧Hid (Below w.heap.size w wr)∧Hid (w.heap.size+1≤wr.heap.size)) (fun _ i _=>ps.length-(intOf i).toNat)
  case atStart=>exact⟨0,Nat.zero_le _,rfl,O (ap.nil _ _),O HAT.out,HB8,HSZ⟩
  case round =>
   clear HB8 HAT HSZ;obtain⟨j,hj,rfl,hown,hu,hb,hsz⟩:=hrel
   rename World=>wo
   by_cases hlt:j<ps.length
   ·have k1:(j:Int)<ps.length:=by omega
    have HJ:=O hlt;have HT:=O (Gi l.length ps j hlt);have HKO:=O (HCK.out (ps.take j)).2;have HKL:=O (qe l.length (ps.take j));obtain⟨b2,off2,e2,_,hc2⟩:=fp (HP.out.on hb.out) (by omega)
    cases e2
    have c2:=hc2 j hlt;clear hc2;generalize byteAt ps j=p at HT c2;have hpn:p.toNat % l.length<l.length:=Nat.mod_lt _ (by have := HL.out;omega);have HR:=O (HRW.out _ hpn)
    have hm:Int.tmod (B8 p) (l.length:Int)=((p.toNat % l.length:Nat):Int):=by
     unfold B8;rw[Int.tmod_eq_emod_of_nonneg (by omega)]
     rfl
    have HGD:Hid (l.getD (p.toNat % l.length) zSH=l[p.toNat % l.length]):=O (by simp[List.getD_eq_getElem?_getD,hpn]);unfold Ax at HT;generalize l[p.toNat % l.length]=s at HR HGD;generalize p.toNat % l.length=k at HT hpn hm HR HGD
    have hk1:(k:Int)<l.length:=by omega
    have hk0:(0:Int)≤k:=by omega
    generalize gG l.length (ps.take j)=ks at hown hu HT HKO HKL;have cu:=hu.out.at k _ (Qc l.length ks k hpn);have fu:=hu.out.free k;clear hj hlt
    by_cases hmem:k∈ks
    ·rw[if_pos hmem] at HT
     rw[decide_eq_true hmem] at cu;go_wp2;go_roundw
     case rel=>exact⟨j+1,HJ.out,by go_num,O (by rw[HT.out];exact hown.out),O (by rw[HT.out];exact hu.out),hb,hsz⟩
     case measure=>have := HJ.out;simp[intOf];omega
    ·rw[if_neg hmem] at HT
     rw[decide_eq_false hmem] at cu;have HU2:Hid (UAt (wo.setCell ⟨w.heap.size,k,none⟩ (.bool true)) w.heap.size (pK l.length (ks++[k]))):=O (by rw[←Mq];exact hu.out.set k true);have HO2:Hid (ap eH (wo.setCell ⟨w.heap.size,k,none⟩ (.bool true)) (w.heap.size+1) u5 (ks.map fun k=>l.getD k zSH)):=O (hown.out.but (g:=w.heap.size) (hown.out.neOld (Nat.lt_succ_self _)) (fun q hq=>kR (Ne.symm hq)));have HB2:Hid (Below w.heap.size w (wo.setCell ⟨w.heap.size,k,none⟩ (.bool true))):=O (hb.out.setCell (Nat.le_refl _) _);have HZ2:Hid (w.heap.size+1≤(wo.setCell ⟨w.heap.size,k,none⟩ (.bool true)).heap.size):=O HU2.out.lt
     go_upto_region 9 with fail
     generalize wo.setCell ⟨w.heap.size,k,none⟩ (.bool true)=w4 at HU2 HO2 HB2 HZ2 ⊢;have HR4:=O (HR.out _ HB2.out);clear hown hu hb hsz cu fu HR;have HBA:Hid (Below w4.heap.size w4 (w4.alloc (.cells (shA s) 103))):=O ((Oo _ _).alloc (Nat.le_refl _) _)
     go_wp2_with (first
      |(refine vq s b (off+k*19) (.tmp 42) rfl HR4.out rfl rfl ?_)
      |(refine IV s rfl (.tmp 43) rfl rfl ?_)
      |(at_builtin;(refine br oI rfl (.tmp 39) (.tmp 44) rfl (w.heap.size+1) _ _ rfl (HO2.out.on HBA.out) _ [s] rfl (OZ w4 s) (by rw[List.length_map];have := HL.out;have := HKL.out;rw[List.length_take] at this;simp;omega) (Nat.le_trans HZ2.out HBA.out.size) ?_;intro v3 w3 ho3 hg3 _;have HO3:=O ho3;have HG3:=O hg3;clear ho3 hg3)))
     have HB3:Hid (Below w.heap.size w w3):=O ((HB2.out.trans (HBA.out.mono (Nat.le_of_succ_le HZ2.out))).grown HG3.out (Nat.le_trans (Nat.le_of_succ_le HZ2.out) HBA.out.size) (fun k hk2=>Nat.le_of_succ_le (HO2.out.lt k hk2).1));have HB4:Hid (Below (w.heap.size+1) w4 w3):=O ((HBA.out.mono HZ2.out).grown HG3.out (Nat.le_trans HZ2.out HBA.out.size) (fun k hk2=>(HO2.out.lt k hk2).1));go_roundw
     case rel=>exact⟨j+1,HJ.out,by go_num,O (by rw[HT.out,List.map_append];simp only[List.map_cons,List.map_nil];rw[HGD.out];exact HO3.out),O (by rw[HT.out];exact HU2.out.keep (HB4.out.block _ (Nat.lt_succ_self _)) HB4.out.size),HB3,O (Nat.le_trans HZ2.out HB4.out.size)⟩
     case measure=>have := HJ.out;simp[intOf];omega
   ·have he:j=ps.length:=by omega
    have k1:¬(j:Int)<ps.length:=by omega
    have HF:Hid (ap eH wo (w.heap.size+1) u5 ((gG l.length ps).map fun k=>l.getD k zSH)):=O (by have := hown.out;rwa [he,List.take_length] at this);clear he hlt hj hown hu;go_wp2;go_ret;exact⟨_,rfl,HF.out.mono (Nat.le_succ _),hb.out⟩
end
end Go.Proofs.YtmfiaadjdbemnaaGreatDoor
