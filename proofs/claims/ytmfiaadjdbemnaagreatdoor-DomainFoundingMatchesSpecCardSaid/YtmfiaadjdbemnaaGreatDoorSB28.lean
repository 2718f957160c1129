/- Contracts and lemmas. No condition. -/
import Derived.Test.YtmfiaadjdbemnaaGreatDoorSB25
set_option maxRecDepth 100000
set_option maxHeartbeats 8000000
namespace Go.Proofs.YtmfiaadjdbemnaaGreatDoor
section
open Go.RowKit Go.Shelf
theorem vQ (s:SH):(shc s)[16]?=some (.int .i64 s.need):=by kernel_rfl
theorem jU (s:SH):(shc s)[17]?=some (.int .i64 s.idx):=by kernel_rfl
theorem pG (s:SH):(shc s)[18]?=some (.string ⟨s.data.toArray⟩):=by kernel_rfl
theorem cU (s:SH) (i:Nat):(shA s)[i]? = (shc s)[i]? := by simp[shA]
theorem dA {w:World} {a:Option Addr} {n cap:Nat} {l:List SH} (h:RdE eH w (.slice a n cap) l) (h0:0<l.length):∃b off,a=some ⟨b,off,none⟩∧b<w.heap.size∧∀j (hj:j<l.length),w.rangeAt b (off+j*19) (shc l[j])∧w.cell? ⟨b,off+j*19+16,none⟩=some (.int .i64 l[j].need)∧w.cell? ⟨b,off+j*19+17,none⟩=some (.int .i64 l[j].idx)∧w.cell? ⟨b,off+j*19+18,none⟩=some (.string ⟨l[j].data.toArray⟩):=by
 obtain⟨b,off,e,hb,hc⟩:=h.cell oI h0;refine⟨b,off,e,hb,fun j hj => ?_⟩;have hc2:∀i,i<19→w.cell? ⟨b,off+j*19+i,none⟩=(shc l[j])[i]? := fun i hi=>hc j hj i hi;refine⟨?_,by rw[hc2 16 (by decide)];exact vQ _,by rw[hc2 17 (by decide)];exact jU _,by rw[hc2 18 (by decide)];exact pG _⟩;intro i x hx
 have hi:i<19:=by
  have := (List.getElem?_eq_some_iff.1 hx).1
  rwa [qT] at this
 rw[hc2 i hi];exact hx
theorem vq {ops:Array Oper} {rest:List Oper} {o:Oper} {a:Act} {w:World} {Q:Exit→Act→World→Prop} (s:SH) (g off:Nat) (x:Operand) (ho:o.op = .load 103 x) (hc:w.rangeAt g off (shc s))
  (hx:a.eval x = .pointer (some ⟨g,off,none⟩)) (hgd:o.guard=none)
  (h:wpList Tryz.prog ops Q rest (a.put o.dst (.agg (shA s))) w):wpList Tryz.prog ops Q (o::rest) a w :=
 wpList_plain hgd fun _ hK=>wp_load_mid _ x ho g off hx (shc s) _ hc Tryz.underlying103 rfl (by rw[qT];exact js) (hK _ _ h)
theorem oA (w:World):(zeroValue 103).run Tryz.prog w = .ok (.agg (shA zSH)) w:=by
 have h:=Cs;generalize shA zSH=L at h ⊢
 cases hq:Tryz.prog.info? 103 with
 | none=>rw[hq] at h;cases h
 | some i =>
   rw[hq] at h
   simp at h
   simp[zeroValue,typeInfo,hq,h]
theorem Uc (l:List SH) (q k:Nat) (h:k<l.length):byteAt (ysP l q) k=byteAt l[k].data q:=by
 unfold ysP byteAt
 simp[h]
attribute [local irreducible] Calls shc shA
theorem Jl (l : List SH) (x : UInt8) (d p1 p2 cap : Nat) (a : Option Addr) (vx : Value) (u : World) (c1 : u.cell? ⟨p1, 0, none⟩ = some (.slice a l.length cap)) (c2 : u.cell? ⟨p2, 0, none⟩ = some vx)
  (hv:RdE eH u (.slice a l.length cap) l) (hx:RdE eB u vx (xsP l)) (hok:Fld.okX (xsP l)=true) (hd:∀s∈l,s.data.length=d) (h1:1≤l.length) (h2:l.length≤16) (h3:d≤64) :
  Calls Tryz.prog 141 #[.int .u8 (B8 x),.pointer (some ⟨p1,0,none⟩),.pointer (some ⟨p2,0,none⟩)] u fun e u'=>e = .returned (.string ⟨(eW l d x).toArray⟩)∧Below u.heap.size u u':=by
 obtain⟨b,off,rfl,hb,hc⟩:=dA hv (by omega);have HC:Hid (∀y,Below u.heap.size u y→y.cell? ⟨p1,0,none⟩=some (.slice (some ⟨b,off,none⟩) l.length cap)∧y.cell? ⟨p2,0,none⟩=some vx∧RdE eB y vx (xsP l)∧∀j (hj:j<l.length),y.rangeAt b (off+j*19) (shc l[j])∧y.cell? ⟨b,off+j*19+18,none⟩=some (.string ⟨l[j].data.toArray⟩)):=O (fun y hy=>⟨aQ hy c1,aQ hy c2,hx.on hy,fun j hj=>⟨fun i v hi=>aQ hy ((hc j hj).1 i v hi),aQ hy (hc j hj).2.2.2⟩⟩);have HD:Hid (∀j (hj:j<l.length),l[j].data.length=d):=O (fun j hj=>hd _ (List.getElem_mem hj));have HOK:=O hok;have HL:=O (show 1≤l.length∧l.length≤16∧d≤64 from⟨h1,h2,h3⟩);have c4:=aQ (Oo _ _) (hc 0 h1).2.2.2;rw[Nat.zero_mul,Nat.add_zero] at c4;have hd0:(l[0]'h1).data.length=d:=hd _ (List.getElem_mem h1);generalize l[0]'h1=s0 at c4 hd0
 have i1:(1:Int)≤l.length:=by omega
 have i2:(l.length:Int)≤16:=by omega
 have i3:(d:Int)≤64:=by omega
 have hzs:=oA;clear hc hx hok hd hv h1 h2 h3 hb
 go_enter Tryz.func141,Tryz.ntmps141
 go_wp2_with (at_make;refine Fld.mk_full rfl _ _ rfl d rfl rfl ?hm1 ?hm2)
 case hm1=>omega
 case hm2 =>
  intro w1 hat1 hb1;have HAT1:Hid (Fld.BAt w1 u.heap.size (mz l d x 0)):=O (by rw[CM];exact hat1);have HB1:=O hb1;clear hat1 hb1 c1 c2 c4;go_wp2
  go_loopw [18] (fun i wr=>∃q:Nat,q≤d∧i = .int .i64 q∧Hid (Fld.BAt wr u.heap.size (mz l d x q))∧Hid (Below u.heap.size u wr)) (fun i _=>d-(intOf i).toNat)
  case atStart=>exact⟨0,Nat.zero_le _,rfl,HAT1,HB1⟩
  case round =>
   obtain⟨q,hq,rfl,hat,hb⟩:=hrel
   rename World=>wo
   have HQ:=O (HC.out _ hb.out)
   by_cases hlt:q<d
   ·have q1:(q:Int)<d:=by omega
    have HQL:=O hlt;have c1:=HQ.out.1;clear hlt hq
    go_wp2_with (at_make;refine Fld.mk_full rfl _ _ rfl l.length rfl rfl ?hn1 ?hn2)
    case hn1=>have := HL.out;omega
    case hn2 =>
     intro w2 hat2 hb2;have HAT2:Hid (Fld.BAt w2 wo.heap.size (iC (ysP l q) 0)):=O (by rw[pi,jy];exact hat2);have HB2:=O hb2;have c1b:=aQ hb2 c1;clear hat2 hb2 c1;go_wp2
     go_loopw [26] (fun i wr=>∃k:Nat,k≤l.length∧i = .int .i64 k∧Hid (Fld.BAt wr wo.heap.size (iC (ysP l q) k))∧Hid (Below wo.heap.size wo wr)) (fun i _=>l.length-(intOf i).toNat)
     case atStart=>exact⟨0,Nat.zero_le _,rfl,HAT2,HB2⟩
     case round =>
      obtain⟨k,hk,rfl,hatk,hbk⟩:=hrel;have HBK:Hid (Below u.heap.size u wr):=O (hb.out.trans (hbk.out.mono hb.out.size));have HK:=O (HC.out _ HBK.out)
      by_cases hlt:k<l.length
      ·have k1:(k:Int)<l.length:=by omega
       have HKL:=O hlt;have HR:=O (HK.out.2.2.2 k hlt).1;have hdl:=HD.out k hlt;have HYS:=O (Uc l q k hlt);have HFS:=O (rD (ysP l q) k (by rw[jy];exact hlt));have HFL:=O (fq (ysP l q) k);generalize l[k]=s at HR hdl HYS;have HDL:=O hdl;clear hlt hk
       go_upto_region 9 with (first
        |(refine vq s b (off+k*19) (.tmp 29) rfl HR.out rfl rfl ?_)
        |(refine aH (shA s) 103 rfl (.tmp 9) (.tmp 30) rfl _ rfl rfl rfl (by rw[cX];exact js) (by rw[cX,cX]) (nZ _) ?_))
       have HA9:Hid (Below wr.heap.size wr (wr.alloc (.cells (shA s) 103))∧(wr.alloc (.cells (shA s) 103)).cell? ⟨wr.heap.size,18,none⟩=some (.string ⟨s.data.toArray⟩)):=O ⟨(Oo _ _).alloc (Nat.le_refl _) _,by rw[cell_of_row _ _ 18 _ _ _ (heap_alloc_new wr (.cells (shA s) 103)),cU];exact pG s⟩;generalize wr.alloc (.cells (shA s) 103)=w9 at HA9 ⊢;have c18:=HA9.out.2;have HAT9:Hid (Fld.BAt w9 wo.heap.size (iC (ysP l q) k)):=O (hatk.out.keep HA9.out.1 hatk.out.lt);have HB9:=O (hbk.out.trans (HA9.out.1.mono hbk.out.size));have c9:=HAT9.out.at k (by rw[HFL.out,jy];exact HKL.out);have f9:=HAT9.out.free k;simp only[Act.put];generalize wr.heap.size=g9 at c18 ⊢
       have hqs:q<s.data.length:=by rw[HDL.out];exact HQL.out
       have hqi:(q:Int)<s.data.length:=by omega
       clear HBK HK HA9;go_wp2;go_roundw
       case rel=>exact⟨k+1,HKL.out,by go_num,O (by rw[←HFS.out,HYS.out];exact HAT9.out.set k _),O (HB9.out.setCell (Nat.le_refl _) _)⟩
       case measure=>have := HKL.out;simp[intOf];omega
      ·have he:k=l.length:=by omega
       have k1:¬(k:Int)<l.length:=by omega
       have HY:Hid (Fld.BAt wr wo.heap.size (ysP l q)):=O (by have h:=hatk.out;rw[he,show l.length=(ysP l q).length from(jy l q).symm,rC] at h;exact h);have HATQ:Hid (Fld.BAt wr u.heap.size (mz l d x q)):=O (hat.out.keep hbk.out hat.out.lt);have HCS:=O (Gn l d x q HQL.out);have HCL:=O (gP l d x q);have c2:=HK.out.2.1;have HRY:Hid (RdE eB wr (.slice (some ⟨wo.heap.size,0,none⟩) l.length l.length) (ysP l q)):=O (by have h:=ui HY.out (by rw[jy];have := HL.out;omega);rwa [jy] at h);clear he hlt hk hatk
       go_wp2_with (go_at_call 142;refine(Fld.interp_c vx _ (xsP l) (ysP l q) x _ (rQ HK.out.2.2.1) (rQ HRY.out) HOK.out (by rw[kL,jy])).mono ?_;rintro e w9 ⟨rfl,hb9⟩;have HAT9:Hid (Fld.BAt w9 u.heap.size (mz l d x q)):=O (HATQ.out.keep hb9 HATQ.out.lt);have HB9:Hid (Below u.heap.size u w9):=O (HBK.out.trans (hb9.mono HBK.out.size));clear hb9;have c9:=HAT9.out.at q (by rw[HCL.out];exact HQL.out);have f9:=HAT9.out.free q)
       go_roundw
       case rel=>exact⟨q+1,HQL.out,by go_num,O (by rw[←HCS.out];exact HAT9.out.set q _),O (HB9.out.setCell (Nat.le_refl _) _)⟩
       case measure=>have := HQL.out;simp[intOf];omega
   ·have he:q=d:=by omega
    have q1:¬(q:Int)<d:=by omega
    have HF:Hid (Fld.BAt wo u.heap.size (eW l d x)):=O (by rw[←Gm,←he];rw[he] at hat ⊢;exact hat.out)
    have hcv:(convert 80 9 (.slice (some ⟨u.heap.size,0,none⟩) d d)).run Tryz.prog wo = .ok (.string ⟨(eW l d x).toArray⟩) wo:=by
     have h:=b6 (ui HF.out (by rw[hJ];have := HL.out;omega))
     rwa [hJ] at h
    clear he hlt hq hat
    go_wp2;go_ret;exact⟨rfl,hb.out⟩
end
section
open Go.RowKit Go.Shelf
theorem yP (l:List SH) (m:Nat):∀(j:Nat) (u:Value),(eH.flat (l.take m))[j]?=some u→(eH.flat l)[j]?=some u:=by
 intro j u h
 have e:eH.flat l=eH.flat (l.take m)++eH.flat (l.drop m):=by rw[←El.flat_append,List.take_append_drop]
 rw[e,List.getElem?_append_left (List.getElem?_eq_some_iff.1 h).1];exact h
theorem Ak {w:World} {a:Option Addr} {cap:Nat} {l:List SH} (h:RdE eH w (.slice a l.length cap) l) (m:Nat) (hm:m≤l.length):RdE eH w (.slice a m cap) (l.take m):=by
 obtain⟨a',c',e,h1,h2,h3⟩:=h
 cases e
 have hl:(l.take m).length=m:=by rw[List.length_take];omega
 refine⟨_,_,by rw[hl],by rw[hl];omega,h2,fun h0 => ?_⟩;obtain⟨b,off,e,hb,hc⟩:=h3 (by omega);exact⟨b,off,e,hb,fun j u hu=>hc j u (yP l m j u hu)⟩
def oH (w:World) (f:Value) (l:List SH):Prop:=∃(p1 p2:Nat) (a:Option Addr) (cap:Nat) (vx:Value),f = .func (.func 141) #[] #[.pointer (some ⟨p1,0,none⟩),.pointer (some ⟨p2,0,none⟩)] ∧
 w.cell? ⟨p1,0,none⟩=some (.slice a l.length cap)∧w.cell? ⟨p2,0,none⟩=some vx∧RdE eH w (.slice a l.length cap) l∧RdE eB w vx (xsP l)
theorem tR (s:SH) (h1:1≤s.idx) (h2:s.idx≤255):IntKind.u8.wrap s.idx=B8 (xb s):=by
 rw[IntKind.wrap_u8];unfold B8 xb;rw[UInt8.toNat_ofNat']
 omega
attribute [local irreducible] Calls shc shA
theorem Es (l:List SH) (m:Nat) (v:Value) (w:World) (hv:RdE eH w v l) (hm:(l.headD zS0).need=m) (h1:1≤m) (h2:m≤l.length) (h3:l.length≤255) (h4:m≤16) (hi:∀s∈l,1≤s.idx∧s.idx≤255) :
  Calls Tryz.prog 87 #[v] w fun e w'=>∃f,e = .returned f∧oH w' f (l.take m)∧Below w.heap.size w w':=by
 obtain⟨a0,cap,rfl,hcap,_,_⟩:=id hv;obtain⟨b,off,rfl,hb,hc⟩:=dA hv (by omega);obtain⟨s0,hs0⟩:∃s0,s0=l[0]'(by omega):=⟨_,rfl⟩
 have hm0:s0.need=m:=by rw[hs0,←hm];cases l with |nil=>simp at h2;omega|cons s r=>rfl
 have c16:=(hc 0 (by omega)).2.1;rw[←hs0,Nat.zero_mul,Nat.add_zero,hm0] at c16;obtain⟨W0,hW0⟩:∃W0,W0=w.alloc (.cells #[.slice (some ⟨b,off,none⟩) l.length cap] 28):=⟨_,rfl⟩;have HW:=O hW0
 have hlt:(l.take m).length=m:=by rw[List.length_take];omega
 have HX:Hid (∀u,Below W0.heap.size W0 u→u.heap[w.heap.size]?=some (.cells #[.slice (some ⟨b,off,none⟩) l.length cap] 28 (0,0))∧u.cell? ⟨b,off+16,none⟩=some (.int .i64 m)∧Below w.heap.size w u):=O (by
  intro u h;rw[hW0] at h;have h2:=cJ _ _ h
  exact⟨by rw[h.block _ (by simp)];exact al _ _ _ rfl,aQ h2 c16,h2⟩)
 have HZ:Hid (w.heap.size<W0.heap.size):=O (by rw[hW0];simp);have HV:=O (Ak hv m h2);have hge:∀j,j<m→∃hj:j<l.length,l.getD j zS0=l[j]:=fun j hj=>⟨by omega,by simp[show j<l.length by omega]⟩;have HS:Hid (∀j,j<m→∀u,Below w.heap.size w u→u.rangeAt b (off+j*19) (shc (l.getD j zS0))):=O (fun j hj u hu i x hx=>by obtain⟨h,e⟩:=hge j hj;rw[e] at hx;exact aQ hu ((hc j h).1 i x hx));have HI:Hid (∀j,j<m→1≤(l.getD j zS0).idx∧(l.getD j zS0).idx≤255):=O (fun j hj=>by obtain⟨h,e⟩:=hge j hj;rw[e];exact hi _ (List.getElem_mem h));have HXS:Hid (∀j,j<m→byteAt (xsP (l.take m)) j=xb (l.getD j zS0)):=O (fun j hj=>by obtain⟨h,e⟩:=hge j hj;rw[e];unfold xsP byteAt;simp[hj,h]);have HM:=O (show 1≤m∧m≤16∧m≤l.length∧l.length≤255∧l.length≤cap from⟨h1,h4,h2,h3,hcap⟩)
 have hXL:(xsP (l.take m)).length=m:=by rw[kL];exact hlt
 have HXL:=O hXL;have HTL:=O hlt;have hzs:=oA
 have i1:(1:Int)≤m:=by omega
 have i2:(m:Int)≤16:=by omega
 have i3:(m:Int)≤l.length:=by omega
 have i4:(l.length:Int)≤cap:=by omega
 have i5:(1:Int)≤l.length:=by omega
 clear hge hv hm h1 h2 h3 h4 hi hb hc hs0 hm0 c16 hW0 hlt hXL hcap
 go_enter Tryz.func87,Tryz.ntmps87
 go_upto_region 1 with fail
 rw[←HW.out]
 try dsimp only[Act.put]
 refine aY 6 [[],[],[1],[2],[3],[0,4]] (SP.of [.eq (.slice (some ⟨b,off,none⟩) l.length cap),.eq (.slice (some ⟨b,off,none⟩) l.length cap),.eq (.pointer (some ⟨b,off,none⟩)),.eq (.pointer (some ⟨b,off+16,none⟩)),.eq (.int .i64 m),.eq (.slice (some ⟨b,off,none⟩) m cap)]) (fun _=>undef) ?h1 ?h2 ?h3 ?h4 ?h5 ?h6
 case h1=>kernel_rfl
 case h2=>kernel_rfl
 case h3=>kernel_rfl
 case h4 =>
  simp only[List.take_succ_cons,List.take_zero]
  repeat (first |exact trivial|refine⟨fun vals v=>by kernel_rfl,?_⟩)
 case h5 =>
  simp only[List.take_succ_cons,List.take_zero];refine⟨?_,?_,?_,?_,?_,?_,trivial⟩
  all_goals (intro wq hbq vals;simp only[Nat.reduceAdd,Nat.zero_add,List.getD_cons_succ,List.getD_cons_zero];have HQ:=O (HX.out wq hbq);clear hbq;repeat (first |refine ar ?_|refine aw rfl ?_);intro Q hQ;simp only[ay,upd,Act.put,List.setIfInBounds_toArray,List.set_cons_zero,List.set_cons_succ,Nat.reduceAdd,Nat.zero_add,Nat.reduceEqDiff,if_true,if_false,reduceIte])
  all_goals have c:=cell_of_row _ _ 0 _ _ _ HQ.out.1
  all_goals have c2:=HQ.out.2.1
  all_goals go_wp2
  all_goals exact ab hQ _ (by kernel_rfl) (Oo _ _) rfl
 case h6 =>
  intro wq hbq vals;have HQ:=O (HX.out wq hbq);have HQZ:Hid (w.heap.size<wq.heap.size):=O (Nat.lt_of_lt_of_le HZ.out hbq.size);clear hbq;rw[show List.range 6=[0,1,2,3,4,5] from by decide]
  repeat (first |refine ar ?_|refine aw rfl ?_)
  simp only[List.take_succ_cons,List.take_zero,List.drop_succ_cons,List.drop_zero];simp only[ay,upd,Act.put,List.setIfInBounds_toArray,List.set_cons_zero,List.set_cons_succ,Nat.reduceAdd,Nat.zero_add,Nat.reduceEqDiff,if_true,if_false,reduceIte];have c:=cell_of_row _ _ 0 _ _ _ HQ.out.1;have f:=frozen_of_row _ _ 0 _ _ HQ.out.1
  go_upto_region 2 with fail
  have HB2:Hid (Below w.heap.size w (wq.setCell ⟨w.heap.size,0,none⟩ (.slice (some ⟨b,off,none⟩) m cap))):=O (HQ.out.2.2.setCell (p:=⟨w.heap.size,0,none⟩) (Nat.le_refl _) _);have HC2:Hid ((wq.setCell ⟨w.heap.size,0,none⟩ (.slice (some ⟨b,off,none⟩) m cap)).cell? ⟨w.heap.size,0,none⟩=some (.slice (some ⟨b,off,none⟩) m cap)):=O (World.cell?_setCell_same' _ _ _ (by rw[c];rfl));clear c f HQ HQZ;generalize wq.setCell ⟨w.heap.size,0,none⟩ (.slice (some ⟨b,off,none⟩) m cap)=W2 at HB2 HC2 ⊢;have c:=HC2.out
  go_wp2_with (at_make;refine Fld.mk_full rfl _ _ rfl m rfl rfl ?hm1 ?hm2)
  case hm1=>have := HM.out;omega
  case hm2 =>
   intro w3 hat3 hb3;have HAT3:Hid (Fld.BAt w3 W2.heap.size (iC (xsP (l.take m)) 0)):=O (by rw[pi,HXL.out];exact hat3);have HB3:=O hb3;have c3:=aQ hb3 c;clear hat3 hb3 c
   go_upto_region 3 with fail
   have HA4:Hid (Below w3.heap.size w3 (w3.alloc (.cells #[.slice (some ⟨W2.heap.size,0,none⟩) m m] 80))∧(w3.alloc (.cells #[.slice (some ⟨W2.heap.size,0,none⟩) m m] 80)).heap[w3.heap.size]?=some (.cells #[.slice (some ⟨W2.heap.size,0,none⟩) m m] 80 (0,0))):=O ⟨(Oo _ _).alloc (Nat.le_refl _) _,heap_alloc_new _ _⟩;have HGX:Hid (W2.heap.size<w3.heap.size):=O HAT3.out.lt;generalize w3.alloc (.cells #[.slice (some ⟨W2.heap.size,0,none⟩) m m] 80)=W4 at HA4 ⊢;have c4:=aQ HA4.out.1 c3;have HAT4:=O (HAT3.out.keep HA4.out.1 HAT3.out.lt);have HB4:Hid (Below W2.heap.size W2 W4):=O (HB3.out.trans (HA4.out.1.mono HB3.out.size));have HG4:=O HA4.out.2;generalize w3.heap.size=gx at HGX HG4 ⊢;clear HA4 HAT3 HB3 c3;go_wp2
   go_loopw [17] (fun i wr=>∃k:Nat,k≤m∧i = .int .i64 k∧Hid (Fld.BAt wr W2.heap.size (iC (xsP (l.take m)) k))∧Hid (Below W2.heap.size W2 wr)∧Hid (wr.heap[gx]?=some (.cells #[.slice (some ⟨W2.heap.size,0,none⟩) m m] 80 (0,0)))) (fun i _=>m-(intOf i).toNat)
   case atStart=>exact⟨0,Nat.zero_le _,rfl,HAT4,HB4,HG4⟩
   case round =>
    obtain⟨k,hk,rfl,hat,hb,hg⟩:=hrel;have HBW:Hid (Below w.heap.size w wr):=O (HB2.out.trans (hb.out.mono HB2.out.size))
    by_cases hlt:k<m
    ·have k1:(k:Int)<m:=by omega
     have HKL:=O hlt;have HR:=O (HS.out k hlt wr HBW.out);have HIX:=O (HI.out k hlt);have HYS:=O (HXS.out k hlt);have HFS:=O (rD (xsP (l.take m)) k (by rw[HXL.out];exact hlt));have HFL:=O (fq (xsP (l.take m)) k);generalize l.getD k zS0=s at HR HIX HYS;have hw8:=tR s HIX.out.1 HIX.out.2
     have hm8:s.idx % 256=B8 (xb s):=by rw[←IntKind.wrap_u8];exact hw8
     clear hlt hk
     go_upto_region 6 with (first
      |(refine vq s b (off+k*19) (.tmp 20) rfl HR.out rfl rfl ?_)
      |(refine aH (shA s) 103 rfl (.tmp 5) (.tmp 21) rfl _ rfl rfl rfl (by rw[cX];exact js) (by rw[cX,cX]) (nZ _) ?_))
     have HA9:Hid (Below wr.heap.size wr (wr.alloc (.cells (shA s) 103))∧(wr.alloc (.cells (shA s) 103)).cell? ⟨wr.heap.size,17,none⟩=some (.int .i64 s.idx)):=O ⟨(Oo _ _).alloc (Nat.le_refl _) _,by rw[cell_of_row _ _ 17 _ _ _ (heap_alloc_new wr (.cells (shA s) 103)),cU];exact jU s⟩;generalize wr.alloc (.cells (shA s) 103)=w9 at HA9 ⊢;have c18:=HA9.out.2;have HAT9:=O (hat.out.keep HA9.out.1 hat.out.lt);have HB9:=O (hb.out.trans (HA9.out.1.mono hb.out.size));have HG9:Hid (w9.heap[gx]?=some (.cells #[.slice (some ⟨W2.heap.size,0,none⟩) m m] 80 (0,0))):=O (by rw[HA9.out.1.block _ (Array.getElem?_eq_some_iff.1 hg.out).1];exact hg.out);have cgx:=cell_of_row _ _ 0 _ _ _ HG9.out;have c9:=HAT9.out.at k (by rw[HFL.out,HXL.out];exact HKL.out);have f9:=HAT9.out.free k;simp only[Act.put];generalize wr.heap.size=g9 at c18 ⊢;clear HBW HA9 HR hg hat hb;go_wp2;go_roundw
     case rel=>exact⟨k+1,HKL.out,by go_num,O (by rw[←HFS.out,HYS.out];exact HAT9.out.set k _),O (HB9.out.setCell (Nat.le_refl _) _),O (by rw[Below.heap_setCell _ _ _ _ (by have := HGX.out;show gx≠W2.heap.size;omega)];exact HG9.out)⟩
     case measure=>have := HKL.out;simp[intOf];omega
    ·have he:k=m:=by omega
     have k1:¬(k:Int)<m:=by omega
     have HY:Hid (Fld.BAt wr W2.heap.size (xsP (l.take m))):=O (by have h:=hat.out;rw[he] at h;have e:=rC (xsP (l.take m));rw[HXL.out] at e;rw[e] at h;exact h);have HCUR:Hid (oH wr (.func (.func 141) #[] #[.pointer (some ⟨w.heap.size,0,none⟩),.pointer (some ⟨gx,0,none⟩)]) (l.take m)):=O ⟨w.heap.size,gx,some ⟨b,off,none⟩,cap,.slice (some ⟨W2.heap.size,0,none⟩) m m,rfl,by rw[HTL.out];exact aQ (hb.out.mono (Nat.le_refl _)) HC2.out,cell_of_row _ _ 0 _ _ _ hg.out,by rw[HTL.out];exact HV.out.on HBW.out,by have h:=ui HY.out (by rw[HXL.out];have := HM.out;omega);rwa [HXL.out] at h⟩
     clear he hlt hk hat
     go_wp2;go_ret;exact⟨_,rfl,HCUR.out,HBW.out⟩
end
section
open Go.RowKit Go.Shelf
attribute [local irreducible] Calls shc shA
theorem Od (l:List SH) (v:Value) (w:World) (hv:RdE eH w v l) (hok:qu l=false) :
  Calls Tryz.prog 140 #[v] w fun e w'=>e = .returned (.bool false)∧Below w.heap.size w w':=by
 obtain⟨a,cap,rfl,_,_,_⟩:=id hv
 by_cases h0:l.length=0
 ·have i0:(l.length:Int)=0:=by omega
  have i1:((l.length:Int) == 0)=true:=by rw[i0];rfl
  clear hv hok
  go_enter Tryz.func140,Tryz.ntmps140
  go_wp2;go_ret;exact⟨rfl,Oo _ _⟩
 ·obtain⟨b,off,rfl,hb,hc⟩:=dA hv (by omega)
  have c16:=(hc 0 (by omega)).2.1;have c18:=(hc 0 (by omega)).2.2.2;rw[Nat.zero_mul,Nat.add_zero] at c16 c18
  have hs:l.headD zS0=l[0]'(by omega):=by cases l with |nil=>simp at h0|cons s r=>rfl
  unfold qu at hok;rw[hs] at hok;generalize l[0]=s0 at c16 c18 hok
  have i0:((l.length:Int) == 0)=false:=by rw[beq_eq_false_iff_ne];omega
  have hcs:(255:Int)<l.length∨(¬(255:Int)<l.length∧(s0.need<1∨(¬s0.need<1∧(16<s0.need∨(¬16<s0.need∧¬((1:Int)≤s0.data.length∧(s0.data.length:Int)≤64)))))):=by
   simp only[Bool.and_eq_false_iff,decide_eq_false_iff_not] at hok
   omega
  have his:∀y:World,Calls Tryz.prog 107 #[.int .i64 (s0.data.length:Int)] y fun e w'=>e = .returned (.bool (decide ((1:Int)≤s0.data.length∧(s0.data.length:Int)≤64)))∧w'=y:=fun y=>by
   have h:=lR (s0.data.length:Int) y
   rwa [←Bool.decide_and] at h
  have HIS:=O his;have hp:0<l.length:=Nat.pos_of_ne_zero h0;have hp1:(1:Int)≤l.length:=Int.ofNat_le.2 hp;clear hv hok hc hs his h0 hb
  go_enter Tryz.func140,Tryz.ntmps140
  rcases hcs with h1|⟨h1,h2|⟨h2,h3|⟨h3,h4⟩⟩⟩
  all_goals
   try rw[decide_eq_false h4] at HIS
   go_wp2_with (go_at_call 107;refine(HIS.out _).mono ?_;rintro e x1 ⟨rfl,rfl⟩)
   go_ret;exact⟨rfl,Oo _ _⟩
end
section
open Go.RowKit Go.Shelf
theorem dy {ops:Array Oper} {C:World→Prop} {Q:Act→Prop} {a:Act} {o:Oper} {rest:List Oper} (d:List UInt8) (g off:Nat) (x:Operand) (hC:∀w',C w'→w'.rangeAt g off (am d).toList) (ho:o.op = .load 23 x)
  (hx:a.eval x = .pointer (some ⟨g,off,none⟩)) (hw:Region.wanted o (yielded ops a.tmps)=true)
  (h:wpQuiet Tryz.prog ops C Q rest (a.put o.dst (.agg (am d)))):wpQuiet Tryz.prog ops C Q (o::rest) a:=by
 unfold wpQuiet;rw[if_pos hw];refine⟨.agg (am d),fun w' hw' => ?_,h⟩;have hl:(loadVar 23 ⟨g,off,none⟩).run Tryz.prog w' = .ok (.agg (am d)) w':=run_loadVar_mid w' g off _ (am d).toList _ (hC w' hw') Tryz.underlying23 rfl cC;unfold Oper.quietAt execOp;simp only[ho,hx,Instr.loadAt,Instr.sureAddr,Sem.run_bind,Sem.run_pure,Result.andThen_ok,hl];exact⟨rfl,rfl⟩
theorem zH (s:SH):∀(i:Nat) (x:Value),(am s.set).toList[i]?=some x→(shc s)[i]?=some x:=by
 intro i x h;unfold shc;rw[List.getElem?_append_left (List.getElem?_eq_some_iff.1 h).1];exact h
theorem x9 {w:World} {b off:Nat} {s:SH} (h:w.rangeAt b off (shc s)):w.rangeAt b off (am s.set).toList:=fun i x hx=>h i x (zH s i x hx)
theorem uV (a:SH) (p:List UInt8) (s:SH):(dEq s.set a.set=false∧kf a p s=false)∨(dEq s.set a.set=true∧s.need≠a.need∧kf a p s=false)∨(dEq s.set a.set=true∧s.need=a.need∧s.data.length≠a.data.length∧kf a p s=false) ∨
  (dEq s.set a.set=true∧s.need=a.need∧s.data.length=a.data.length∧s.idx<1∧kf a p s=false)∨(dEq s.set a.set=true∧s.need=a.need∧s.data.length=a.data.length∧¬s.idx<1∧255<s.idx∧kf a p s=false) ∨
  (dEq s.set a.set=true∧s.need=a.need∧s.data.length=a.data.length∧¬s.idx<1∧¬255<s.idx∧xb s∈p∧kf a p s=false) ∨
  (dEq s.set a.set=true∧s.need=a.need∧s.data.length=a.data.length∧¬s.idx<1∧¬255<s.idx∧xb s ∉ p∧kf a p s=true):=by
 unfold kf
 cases h1:dEq s.set a.set
 ·simp
 by_cases h2:s.need=a.need
 ·by_cases h3:s.data.length=a.data.length
  ·by_cases h4:s.idx<1
   ·have : ¬1≤s.idx:=by omega
    simp[h2,h3,h4,this]
   ·have g4:1≤s.idx:=by omega
    by_cases h5:255<s.idx
    ·have : ¬s.idx≤255:=by omega
     simp[h2,h3,h4,h5,this]
    ·have g5:s.idx≤255:=by omega
     by_cases h6:xb s∈p
     ·simp[h2,h3,h4,h5,h6]
     ·simp[h2,h3,h4,h5,h6,g4,g5]
  ·simp[h2,h3]
 ·simp[h2]
open Go.RowKit Go.Shelf
theorem oV {l:List SH} (h:qu l=true):1≤l.length∧l.length≤255∧1≤(l.headD zS0).need∧(l.headD zS0).need≤16∧1≤(l.headD zS0).data.length∧(l.headD zS0).data.length≤64:=by
 simp only[qu,Bool.and_eq_true,decide_eq_true_eq] at h;obtain⟨⟨⟨⟨⟨h1,h2⟩,h3⟩,h4⟩,h5⟩,h6⟩:=h;exact⟨h1,h2,h3,h4,h5,h6⟩
theorem wA (l:List SH) (k:Nat) (h:k<l.length):xsP (l.take (k+1))=xsP (l.take k)++[xb l[k]]:=by
 unfold xsP;rw[List.take_succ_eq_append_getElem h,List.map_append]
 rfl
theorem Ag (s:SH) (n:Nat) (h:s.idx=n) (h2:n≤255):(xb s).toNat=n:=by
 unfold xb;rw[h,Int.toNat_natCast,UInt8.toNat_ofNat']
 omega
attribute [local irreducible] Calls shc shA
theorem Oe (l:List SH) (v:Value) (w:World) (hv:RdE eH w v l) (hok:qu l=true) :
  Calls Tryz.prog 140 #[v] w fun e w'=>e = .returned (.bool (kd (l.headD zS0) [] l))∧Below w.heap.size w w':=by
 obtain⟨h1,h2,h3,h4,h5,h6⟩:=oV hok;obtain⟨a,cap,rfl,_,_,_⟩:=id hv;obtain⟨b,off,rfl,hb,hc⟩:=dA hv h1;have c16:=(hc 0 h1).2.1;have c18:=(hc 0 h1).2.2.2;have hr0:=(hc 0 h1).1;rw[Nat.zero_mul,Nat.add_zero] at c16 c18 hr0
 have hs:l.headD zS0=l[0]:=by cases l with |nil=>simp at h1|cons s r=>rfl
 rw[hs] at h3 h4 h5 h6 ⊢;generalize l[0]=s0 at c16 c18 hr0 h3 h4 h5 h6 ⊢;have HC:Hid (∀y,Below w.heap.size w y→y.cell? ⟨b,off+16,none⟩=some (.int .i64 s0.need)∧y.cell? ⟨b,off+18,none⟩=some (.string ⟨s0.data.toArray⟩)∧y.rangeAt b off (am s0.set).toList∧∀j (hj:j<l.length),y.rangeAt b (off+j*19) (shc l[j])):=O (fun y hy=>⟨aQ hy c16,aQ hy c18,x9 (fun i x hx=>aQ hy (hr0 i x hx)),fun j hj i x hx=>aQ hy ((hc j hj).1 i x hx)⟩);have hz:=Fld.zero_seen;have hzs:=oA
 have i0:((l.length:Int) == 0)=false:=by rw[beq_eq_false_iff_ne];omega
 have i1:(l.length:Int)≤255:=by omega
 have i2:(1:Int)≤l.length:=by omega
 have i3:(1:Int)≤s0.data.length:=by omega
 have i4:(s0.data.length:Int)≤64:=by omega
 have HL:=O h1;clear hv hok hc hs hb hr0
 go_enter Tryz.func140,Tryz.ntmps140
 have HIS:=O (fun (n:Int) (y:World)=>lR n y)
 go_upto_region 4 with (go_at_call 107;refine(HIS.out _ _).mono ?_;rintro e x1 ⟨rfl,hx⟩;replace hx:=hx.symm;subst hx)
 have HSN:Hid ((w.alloc (.cells (Fld.trow (Fld.seenB [])) 233)).heap[w.heap.size]?=some (.cells (Fld.trow (Fld.seenB (xsP (l.take 0)))) 233 (0,0))∧Below w.heap.size w (w.alloc (.cells (Fld.trow (Fld.seenB [])) 233))):=O ⟨heap_alloc_new _ _,(Oo _ _).alloc (Nat.le_refl _) _⟩;go_wp2
 go_loopw [39] (fun i wr=>∃k:Nat,k≤l.length∧i = .int .i64 k∧Hid (kd s0 (xsP (l.take k)) (l.drop k)=kd s0 [] l)∧Hid (wr.heap[w.heap.size]?=some (.cells (Fld.trow (Fld.seenB (xsP (l.take k)))) 233 (0,0)))∧Hid (Below w.heap.size w wr)) (fun i _=>l.length-(intOf i).toNat)
 case atStart=>exact⟨0,Nat.zero_le _,rfl,O rfl,O HSN.out.1,O HSN.out.2⟩
 case round =>
  obtain⟨k,hk,rfl,hfit,hsn,hb⟩:=hrel;have HQ:=O (HC.out _ hb.out)
  by_cases hlt:k<l.length
  ·have k1:(k:Int)<l.length:=by omega
   have HKL:=O hlt;have HR:=O (HQ.out.2.2.2 k hlt);have HXT:=O (wA l k hlt);have HDR:Hid (kd s0 [] l=(kf s0 (xsP (l.take k)) l[k] && kd s0 (xsP (l.take k)++[xb l[k]]) (l.drop (k+1)))):=O (by rw[←hfit.out,List.drop_eq_getElem_cons hlt];rfl);generalize l[k]=s at HR HXT HDR;generalize xsP (l.take k)=pr at HDR HXT hsn;clear hlt hk hfit
   go_upto_region 7 with (first
    |(refine vq s b (off+k*19) (.tmp 41) rfl HR.out rfl rfl ?_)
    |(refine aH (shA s) 103 rfl (.tmp 5) (.tmp 42) rfl _ rfl rfl rfl (by rw[cX];exact js) (by rw[cX,cX]) (nZ _) ?_))
   have HA9:Hid (Below wr.heap.size wr (wr.alloc (.cells (shA s) 103))∧(wr.alloc (.cells (shA s) 103)).heap[wr.heap.size]?=some (.cells (shA s) 103 (0,0))):=O ⟨(Oo _ _).alloc (Nat.le_refl _) _,heap_alloc_new _ _⟩;simp only[Act.put];generalize wr.alloc (.cells (shA s) 103)=w9 at HA9 ⊢;have HB9:Hid (Below w.heap.size w w9):=O (hb.out.trans (HA9.out.1.mono hb.out.size));have HSN9:Hid (w9.heap[w.heap.size]?=some (.cells (Fld.trow (Fld.seenB pr)) 233 (0,0))):=O (by rw[HA9.out.1.block _ (Array.getElem?_eq_some_iff.1 hsn.out).1];exact hsn.out);have HQ9:=O (HC.out _ HB9.out);have HG9:=O HA9.out.2;generalize wr.heap.size=g9 at HG9 ⊢
   have d16:w9.cell? ⟨g9,1+15,none⟩=some (.int .i64 s.need):=by rw[cell_of_row _ _ 16 _ _ _ HG9.out,cU];exact vQ s
   have e16:w9.cell? ⟨g9,16,none⟩=some (.int .i64 s.need):=d16
   have e18:w9.cell? ⟨g9,18,none⟩=some (.string ⟨s.data.toArray⟩):=by rw[cell_of_row _ _ 18 _ _ _ HG9.out,cU];exact pG s
   have HRS:Hid (w9.rangeAt g9 0 (am s.set).toList):=O (fun i x hx=>by rw[cell_of_row _ _ _ _ _ _ HG9.out,cU,Nat.zero_add];exact zH s i x hx);have f16:=HQ9.out.1;have f18:=HQ9.out.2.1;have hneq:=fun w=>sO s.set s0.set w;clear d16 HA9 hsn hb HQ HR c16 c18
   rcases uV s0 pr s with⟨hd,hft⟩|⟨hd,h2,hft⟩|⟨hd,h2,h3,hft⟩|⟨hd,h2,h3,h4,hft⟩|⟨hd,h2,h3,h4,h5,hft⟩|⟨hd,h2,h3,h4,h5,h6,hft⟩|⟨hd,h2,h3,h4,h5,h6,hft⟩
   ·rw[hd] at hneq
    have e17:w9.cell? ⟨g9,17,none⟩=some (.int .i64 s.idx):=by rw[cell_of_row _ _ 17 _ _ _ HG9.out,cU];exact jU s
    first |refine fR (by kernel_rfl) (by kernel_rfl) ?_|refine fG (by kernel_rfl) (by kernel_rfl) ?_
    go_big_quiet_step (fail)
    (refine dy s.set g9 0 (.tmp 43) (fun w' ⟨u,e⟩=>by rw[e];exact HRS.out) ?_ ?_ ?_ ?_;exact rfl;exact rfl;exact rfl;simp only[Act.put,List.setIfInBounds_toArray,List.set_cons_zero,List.set_cons_succ])
    go_big_quiet_step (fail)
    go_big_quiet_step (fail)
    go_big_quiet_step (fail)
    (refine dy s0.set b off (.tmp 47) (fun w' ⟨u,e⟩=>by rw[e];exact HQ9.out.2.2.1) ?_ ?_ ?_ ?_;exact rfl;exact rfl;exact rfl;simp only[Act.put,List.setIfInBounds_toArray,List.set_cons_zero,List.set_cons_succ])
    repeat (go_big_quiet_step (fail))
    refine wpQuiet_nil ?_;rintro _ ⟨nq,rfl⟩;go_wp2;go_ret;exact⟨by rw[HDR.out,hft];rfl,ak nq HB9.out⟩
   ·rw[hd] at hneq
    have g2:(s.need != s0.need)=true:=by rw[bne_iff_ne];exact h2
    have e17:w9.cell? ⟨g9,17,none⟩=some (.int .i64 s.idx):=by rw[cell_of_row _ _ 17 _ _ _ HG9.out,cU];exact jU s
    first |refine fR (by kernel_rfl) (by kernel_rfl) ?_|refine fG (by kernel_rfl) (by kernel_rfl) ?_
    go_big_quiet_step (fail)
    (refine dy s.set g9 0 (.tmp 43) (fun w' ⟨u,e⟩=>by rw[e];exact HRS.out) ?_ ?_ ?_ ?_;exact rfl;exact rfl;exact rfl;simp only[Act.put,List.setIfInBounds_toArray,List.set_cons_zero,List.set_cons_succ])
    go_big_quiet_step (fail)
    go_big_quiet_step (fail)
    go_big_quiet_step (fail)
    (refine dy s0.set b off (.tmp 47) (fun w' ⟨u,e⟩=>by rw[e];exact HQ9.out.2.2.1) ?_ ?_ ?_ ?_;exact rfl;exact rfl;exact rfl;simp only[Act.put,List.setIfInBounds_toArray,List.set_cons_zero,List.set_cons_succ])
    repeat (go_big_quiet_step (fail))
    refine wpQuiet_nil ?_;rintro _ ⟨nq,rfl⟩;go_wp2;go_ret;exact⟨by rw[HDR.out,hft];rfl,ak nq HB9.out⟩
   ·rw[hd] at hneq
    have g2:(s.need != s0.need)=false:=by rw[h2];simp
    have g3:((s.data.length:Int) != (s0.data.length:Int))=true:=by rw[bne_iff_ne];omega
    have e17:w9.cell? ⟨g9,17,none⟩=some (.int .i64 s.idx):=by rw[cell_of_row _ _ 17 _ _ _ HG9.out,cU];exact jU s
    first |refine fR (by kernel_rfl) (by kernel_rfl) ?_|refine fG (by kernel_rfl) (by kernel_rfl) ?_
    go_big_quiet_step (fail)
    (refine dy s.set g9 0 (.tmp 43) (fun w' ⟨u,e⟩=>by rw[e];exact HRS.out) ?_ ?_ ?_ ?_;exact rfl;exact rfl;exact rfl;simp only[Act.put,List.setIfInBounds_toArray,List.set_cons_zero,List.set_cons_succ])
    go_big_quiet_step (fail)
    go_big_quiet_step (fail)
    go_big_quiet_step (fail)
    (refine dy s0.set b off (.tmp 47) (fun w' ⟨u,e⟩=>by rw[e];exact HQ9.out.2.2.1) ?_ ?_ ?_ ?_;exact rfl;exact rfl;exact rfl;simp only[Act.put,List.setIfInBounds_toArray,List.set_cons_zero,List.set_cons_succ])
    repeat (go_big_quiet_step (fail))
    refine wpQuiet_nil ?_;rintro _ ⟨nq,rfl⟩;go_wp2;go_ret;exact⟨by rw[HDR.out,hft];rfl,ak nq HB9.out⟩
   ·rw[hd] at hneq
    have g2:(s.need != s0.need)=false:=by rw[h2];simp
    have g3:((s.data.length:Int) != (s0.data.length:Int))=false:=by rw[h3];simp
    have e17:w9.cell? ⟨g9,17,none⟩=some (.int .i64 s.idx):=by rw[cell_of_row _ _ 17 _ _ _ HG9.out,cU];exact jU s
    first |refine fR (by kernel_rfl) (by kernel_rfl) ?_|refine fG (by kernel_rfl) (by kernel_rfl) ?_
    go_big_quiet_step (fail)
    (refine dy s.set g9 0 (.tmp 43) (fun w' ⟨u,e⟩=>by rw[e];exact HRS.out) ?_ ?_ ?_ ?_;exact rfl;exact rfl;exact rfl;simp only[Act.put,List.setIfInBounds_toArray,List.set_cons_zero,List.set_cons_succ])
    go_big_quiet_step (fail)
    go_big_quiet_step (fail)
    go_big_quiet_step (fail)
    (refine dy s0.set b off (.tmp 47) (fun w' ⟨u,e⟩=>by rw[e];exact HQ9.out.2.2.1) ?_ ?_ ?_ ?_;exact rfl;exact rfl;exact rfl;simp only[Act.put,List.setIfInBounds_toArray,List.set_cons_zero,List.set_cons_succ])
    repeat (go_big_quiet_step (fail))
    refine wpQuiet_nil ?_;rintro _ ⟨nq,rfl⟩;go_wp2;go_ret;exact⟨by rw[HDR.out,hft];rfl,ak nq HB9.out⟩
   ·rw[hd] at hneq
    have g2:(s.need != s0.need)=false:=by rw[h2];simp
    have g3:((s.data.length:Int) != (s0.data.length:Int))=false:=by rw[h3];simp
    have e17:w9.cell? ⟨g9,17,none⟩=some (.int .i64 s.idx):=by rw[cell_of_row _ _ 17 _ _ _ HG9.out,cU];exact jU s
    first |refine fR (by kernel_rfl) (by kernel_rfl) ?_|refine fG (by kernel_rfl) (by kernel_rfl) ?_
    go_big_quiet_step (fail)
    (refine dy s.set g9 0 (.tmp 43) (fun w' ⟨u,e⟩=>by rw[e];exact HRS.out) ?_ ?_ ?_ ?_;exact rfl;exact rfl;exact rfl;simp only[Act.put,List.setIfInBounds_toArray,List.set_cons_zero,List.set_cons_succ])
    go_big_quiet_step (fail)
    go_big_quiet_step (fail)
    go_big_quiet_step (fail)
    (refine dy s0.set b off (.tmp 47) (fun w' ⟨u,e⟩=>by rw[e];exact HQ9.out.2.2.1) ?_ ?_ ?_ ?_;exact rfl;exact rfl;exact rfl;simp only[Act.put,List.setIfInBounds_toArray,List.set_cons_zero,List.set_cons_succ])
    repeat (go_big_quiet_step (fail))
    refine wpQuiet_nil ?_;rintro _ ⟨nq,rfl⟩;go_wp2;go_ret;exact⟨by rw[HDR.out,hft];rfl,ak nq HB9.out⟩
   ·rw[hd] at hneq
    have g2:(s.need != s0.need)=false:=by rw[h2];simp
    have g3:((s.data.length:Int) != (s0.data.length:Int))=false:=by rw[h3];simp
    obtain⟨ix,hix⟩:∃ix:Nat,s.idx=(ix:Int):=⟨s.idx.toNat,by omega⟩;have hxn:(xb s).toNat=ix:=Ag s ix hix (by omega);have HXN:=O hxn
    have c17:w9.cell? ⟨w.heap.size,ix,none⟩=some (.bool (decide (xb s∈pr))):=by
     rw[cell_of_row _ _ _ _ _ _ HSN9.out,←hxn,Fld.trow_get _ _ (by rw[Fld.seen_len];exact(xb s).toNat_lt),Fld.seen_at]
    have x1:(1:Int)≤ix:=by omega
    have x2:(ix:Int)≤255:=by omega
    have x3:ix<256:=by omega
    rw[decide_eq_true h6] at c17
    have e17:w9.cell? ⟨g9,17,none⟩=some (.int .i64 s.idx):=by rw[cell_of_row _ _ 17 _ _ _ HG9.out,cU];exact jU s
    rw[hix] at e17 h4 h5;clear hxn
    first |refine fR (by kernel_rfl) (by kernel_rfl) ?_|refine fG (by kernel_rfl) (by kernel_rfl) ?_
    go_big_quiet_step (fail)
    (refine dy s.set g9 0 (.tmp 43) (fun w' ⟨u,e⟩=>by rw[e];exact HRS.out) ?_ ?_ ?_ ?_;exact rfl;exact rfl;exact rfl;simp only[Act.put,List.setIfInBounds_toArray,List.set_cons_zero,List.set_cons_succ])
    go_big_quiet_step (fail)
    go_big_quiet_step (fail)
    go_big_quiet_step (fail)
    (refine dy s0.set b off (.tmp 47) (fun w' ⟨u,e⟩=>by rw[e];exact HQ9.out.2.2.1) ?_ ?_ ?_ ?_;exact rfl;exact rfl;exact rfl;simp only[Act.put,List.setIfInBounds_toArray,List.set_cons_zero,List.set_cons_succ])
    repeat (go_big_quiet_step (fail))
    refine wpQuiet_nil ?_;rintro _ ⟨nq,rfl⟩;go_wp2;go_ret;exact⟨by rw[HDR.out,hft];rfl,ak nq HB9.out⟩
   ·rw[hd] at hneq
    have g2:(s.need != s0.need)=false:=by rw[h2];simp
    have g3:((s.data.length:Int) != (s0.data.length:Int))=false:=by rw[h3];simp
    obtain⟨ix,hix⟩:∃ix:Nat,s.idx=(ix:Int):=⟨s.idx.toNat,by omega⟩;have hxn:(xb s).toNat=ix:=Ag s ix hix (by omega);have HXN:=O hxn
    have c17:w9.cell? ⟨w.heap.size,ix,none⟩=some (.bool (decide (xb s∈pr))):=by
     rw[cell_of_row _ _ _ _ _ _ HSN9.out,←hxn,Fld.trow_get _ _ (by rw[Fld.seen_len];exact(xb s).toNat_lt),Fld.seen_at]
    have x1:(1:Int)≤ix:=by omega
    have x2:(ix:Int)≤255:=by omega
    have x3:ix<256:=by omega
    rw[decide_eq_false h6] at c17
    have e17:w9.cell? ⟨g9,17,none⟩=some (.int .i64 s.idx):=by rw[cell_of_row _ _ 17 _ _ _ HG9.out,cU];exact jU s
    rw[hix] at e17 h4 h5;clear hxn
    first |refine fR (by kernel_rfl) (by kernel_rfl) ?_|refine fG (by kernel_rfl) (by kernel_rfl) ?_
    go_big_quiet_step (fail)
    (refine dy s.set g9 0 (.tmp 43) (fun w' ⟨u,e⟩=>by rw[e];exact HRS.out) ?_ ?_ ?_ ?_;exact rfl;exact rfl;exact rfl;simp only[Act.put,List.setIfInBounds_toArray,List.set_cons_zero,List.set_cons_succ])
    go_big_quiet_step (fail)
    go_big_quiet_step (fail)
    go_big_quiet_step (fail)
    (refine dy s0.set b off (.tmp 47) (fun w' ⟨u,e⟩=>by rw[e];exact HQ9.out.2.2.1) ?_ ?_ ?_ ?_;exact rfl;exact rfl;exact rfl;simp only[Act.put,List.setIfInBounds_toArray,List.set_cons_zero,List.set_cons_succ])
    repeat (go_big_quiet_step (fail))
    refine wpQuiet_nil ?_;rintro _ ⟨nq,rfl⟩;have f17:=frozen_of_row _ _ ix _ _ HSN9.out;have HST:Hid (w9.setCell ⟨w.heap.size,ix,none⟩ (.bool true)=w9.setRow w.heap.size (Fld.trow (Fld.seenB (pr++[xb s])))):=O (by rw[au _ _ _ _ _ _ _ HSN9.out,Fld.trow_set,←HXN.out,Fld.seen_set]);go_wp2;simp only[HST.out];go_roundw
    case rel=>exact⟨k+1,HKL.out,by go_num,O (by rw[HXT.out,HDR.out,hft,Bool.true_and]),O (by rw[HXT.out];exact setRow_heap _ _ _ _ _ _ HSN9.out),O (ak nq (HB9.out.trans (aK (Nat.le_refl _))))⟩
    case measure=>have := HKL.out;simp[intOf];omega
  ·have he:k=l.length:=by omega
   have k1:¬(k:Int)<l.length:=by omega
   have HF:Hid (kd s0 [] l=true):=O (by rw[←hfit.out,he,List.drop_length];rfl);clear he hlt hk hfit;go_wp2;go_ret;exact⟨by rw[HF.out];rfl,hb.out⟩
end
end Go.Proofs.YtmfiaadjdbemnaaGreatDoor
