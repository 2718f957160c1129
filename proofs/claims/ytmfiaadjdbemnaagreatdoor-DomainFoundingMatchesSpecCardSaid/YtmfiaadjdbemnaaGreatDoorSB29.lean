/- Contracts and lemmas. No condition. -/
import Derived.Test.YtmfiaadjdbemnaaGreatDoorSB28
set_option maxRecDepth 100000
set_option maxHeartbeats 8000000
namespace Go.Proofs.YtmfiaadjdbemnaaGreatDoor
section
open Go.RowKit Go.Shelf
theorem C6 (l:List SH) (v:Value) (w:World) (hv:RdE eH w v l) :
  Calls Tryz.prog 140 #[v] w fun e w'=>e = .returned (.bool (eO l))∧Below w.heap.size w w':=by
 cases h:qu l with
 | false=>rw[show eO l=false by unfold eO;rw[h];rfl];exact Od l v w hv h
 | true=>rw[show eO l=kd (l.headD zS0) [] l by unfold eO;rw[h];rfl];exact Oe l v w hv h
structure oO (l:List SH) (m d:Nat):Prop where
 h1:1≤m
 h2:m≤16
 hn:(l.headD zS0).need=m
 d1:1≤d
 d2:d≤64
 hd:Gv l=d
 len:l.length≤255
 pos:1≤l.length
 idx:∀s∈l,1≤s.idx∧s.idx≤255
 dat:∀s∈l,s.data.length=d
 nod:(xsP l).Nodup
theorem oW {l:List SH} (h:eO l=true):∃m d,oO l m d:=by
 unfold eO at h;rw[Bool.and_eq_true] at h;obtain⟨g1,g2,g3,g4,g5,g6⟩:=oV h.1;obtain⟨n1,n2⟩:=A0 _ l [] h.2 (fun _ _=>trivial) List.nodup_nil;refine⟨(l.headD zS0).need.toNat,Gv l,⟨by omega,by omega,by omega,g5,g6,rfl,g2,g1,fun s hs=>(n2 s hs).2,fun s hs=>(n2 s hs).1,by simpa using n1⟩⟩
theorem Ii (l:List SH) (m:Nat):xsP (l.take m)=(xsP l).take m:=by unfold xsP;rw[List.map_take]
theorem oO.okX {l:List SH} {m d:Nat} (h:oO l m d) (hm:m≤l.length):Fld.okX (xsP (l.take m))=true:=by
 have h1:=h.h1;have h2:=h.h2;unfold Fld.okX;simp only[Bool.and_eq_true,decide_eq_true_eq];refine⟨⟨?_,?_⟩,?_⟩
 ·rw[kL,List.length_take];omega
 ·rw[kL,List.length_take];omega
 ·rw[Ii];exact h.nod.sublist (List.take_sublist _ _)
theorem th {l:List SH} (h:eO l=false):ci l=1:=by unfold ci;rw[h];rfl
theorem ux {l:List SH} {m d:Nat} (h:eO l=true) (hF:oO l m d) (hlt:l.length<m):ci l=16:=by
 unfold ci;rw[if_pos h,hF.hn,if_pos (by omega)]
theorem uy {l:List SH} {m d:Nat} (h:eO l=true) (hF:oO l m d) (hm:m≤l.length):ci l=if (l.drop m).all (fun s=>decide (eW (l.take m) d (xb s)=s.data)) then 0 else 7:=by
 unfold ci Ia;rw[if_pos h,hF.hn,if_neg (by omega),Int.toNat_natCast,hF.hd]
theorem NN {l:List SH} {m d:Nat} (h:eO l=true) (hF:oO l m d) (hm:m≤l.length) (ha:∀j (hj:j<(l.drop m).length),eW (l.take m) d (xb (l.drop m)[j])=(l.drop m)[j].data):ci l=0:=by
 rw[uy h hF hm,if_pos];rw[List.all_eq_true];intro s hs;obtain⟨j,hj,rfl⟩:=List.mem_iff_getElem.1 hs;exact decide_eq_true (ha j hj)
theorem NP {l:List SH} {m d:Nat} (h:eO l=true) (hF:oO l m d) (hm:m≤l.length) (j:Nat) (hj:j<(l.drop m).length) (hb:eW (l.take m) d (xb (l.drop m)[j])≠(l.drop m)[j].data):ci l=7:=by
 rw[uy h hF hm,if_neg];rw[List.all_eq_true];intro hq;exact hb (of_decide_eq_true (hq _ (List.getElem_mem hj)))
theorem LU {α:Type} {E:El α} {w:World} {a:Option Addr} {cap:Nat} {l:List α} (hE:E.OK) (hv:RdE E w (.slice a l.length cap) l) (i:Nat) (hi:i≤l.length):RdE E w (sliced a i l.length cap E.c) (l.drop i):=by
 obtain⟨a',cap',e,h1,h2,h3⟩:=hv
 cases e
 have hl:(l.drop i).length=l.length-i:=List.length_drop;refine⟨_,cap-i,by rw[hl];rfl,by rw[hl];omega,by omega,fun h0 => ?_⟩;rw[hl] at h0;obtain⟨bb,off,rfl,hlt,hc⟩:=h3 (by omega)
 have hne:¬cap=i:=by omega
 rw[if_neg hne]
 have gX:(⟨bb,off,none⟩:Addr).add (i*E.c)=⟨bb,off+i*E.c,none⟩:=by unfold Addr.add;simp
 refine⟨bb,off+i*E.c,by rw[Option.map_some,gX],hlt,fun k u hu => ?_⟩
 have hf:E.flat l=E.flat (l.take i)++E.flat (l.drop i):=by rw[←El.flat_append,List.take_append_drop]
 have hlen:(E.flat (l.take i)).length=i*E.c:=by rw[El.flat_len hE,List.length_take,Nat.min_eq_left hi]
 have := hc (i*E.c+k) u (by rw[hf,List.getElem?_append_right (by omega),hlen,show i*E.c+k-i*E.c=k by omega];exact hu)
 rwa [←Nat.add_assoc] at this
theorem TH (w:World):(sizeOf (Tryz.prog.elem 28)).run Tryz.prog w = .ok 19 w:=by kernel_rfl
theorem Qb:Tryz.prog.underlying 28=some (.slice (Tryz.prog.elem 28)):=by kernel_rfl
theorem Fu {w:World} {a:Option Addr} {cap:Nat} {l:List SH} (hv:RdE eH w (.slice a l.length cap) l) (i:Nat) (hi:i≤l.length) :
  ∃a' cap',(∀y:World,(Instr.slice 28 (.slice a l.length cap) (some (.int .i64 i)) none none).run Tryz.prog y = .ok (.slice a' (l.drop i).length cap') y)∧RdE eH w (.slice a' (l.drop i).length cap') (l.drop i):=by
 obtain⟨a0,c0,e0,h1,h2,_⟩:=id hv
 cases e0
 have h:=LU oI hv i hi;obtain⟨a',cap',e,_⟩:=id h;refine⟨a',cap',fun y => ?_,by rw[←e];exact h⟩;rw[run_slice_l y _ a _ cap Qb .i64 _ (by omega) (by omega),TH,←e]
 simp[Result.andThen]
 rfl
def Ip (lt : List SH) (d : Nat) (f : Value) (u : World) : Prop := ∃ p1 p2 : Nat, f = .func (.func 141) #[] #[.pointer (some ⟨p1, 0, none⟩), .pointer (some ⟨p2, 0, none⟩)] ∧
    ∀(x:UInt8) (y:World),Below u.heap.size u y→Calls Tryz.prog 141 #[.int .u8 (B8 x),.pointer (some ⟨p1,0,none⟩),.pointer (some ⟨p2,0,none⟩)] y fun e y'=>e = .returned (.string ⟨(eW lt d x).toArray⟩)∧Below y.heap.size y y'
theorem AC {l:List SH} {m d:Nat} {f:Value} {u:World} (hF:oO l m d) (hm:m≤l.length) (hc:oH u f (l.take m)):Ip (l.take m) d f u:=by
 obtain⟨p1,p2,a,cap,vx,rfl,h1,h2,h3,h4⟩:=hc;have g1:=hF.h1;have g2:=hF.h2
 have hl:(l.take m).length=m:=by rw[List.length_take];omega
 exact⟨p1,p2,rfl,fun x y hy=>Jl (l.take m) x d p1 p2 cap a vx y (aQ hy h1) (aQ hy h2) (h3.on hy) (h4.on hy) (hF.okX hm) (fun s hs=>hF.dat s (List.mem_of_mem_take hs)) (by omega) (by omega) hF.d2⟩
theorem RR (l:List SH) (v:Value) (w:World) (hv:RdE eH w v l) (hok:eO l=false) :
  Calls Tryz.prog 86 #[v] w fun e w'=>e = .returned (.int .i64 1)∧Below w.heap.size w w':=by
 have h:=C6 l v w hv;rw[hok] at h;have HFT:=O h;clear h hv hok
 go_enter Tryz.func86,Tryz.ntmps86
 go_wp2
 go_step3
 go_wp2_with (go_at_call 140;refine HFT.out.mono ?_;rintro e w1 ⟨rfl,hb1⟩;have HB1:=O hb1;clear hb1)
 rw[Exit.noGoto_ret];go_ret;exact⟨rfl,HB1.out⟩
attribute [local irreducible] Calls shc shA
theorem RT (l:List SH) (m d:Nat) (v:Value) (w:World) (hv:RdE eH w v l) (hok:eO l=true) (hF:oO l m d) (hm:l.length<m) :
  Calls Tryz.prog 86 #[v] w fun e w'=>e = .returned (.int .i64 16)∧Below w.heap.size w w':=by
 have h:=C6 l v w hv;rw[hok] at h;have HFT:=O h;obtain⟨a,cap,rfl,hcap,_,_⟩:=id hv;obtain⟨b,off,rfl,hb,hc⟩:=dA hv hF.pos;have c16:=(hc 0 hF.pos).2.1
 have hs:l.headD zS0=l[0]'hF.pos:=by have := hF.pos;cases l with |nil=>simp at this|cons s r=>rfl
 rw[Nat.zero_mul,Nat.add_zero,←hs,hF.hn] at c16;have HC:Hid (∀y,Below w.heap.size w y→y.cell? ⟨b,off+16,none⟩=some (.int .i64 m)):=O (fun y hy=>aQ hy c16);have hp:0<l.length:=hF.pos;have i1:(1:Int)≤l.length:=Int.ofNat_le.2 hp
 have i2:(l.length:Int)<m:=by omega
 have i3:(m:Int)≤16:=by have := hF.h2;omega
 clear h hv hok hc hs c16 hb hF hcap
 go_enter Tryz.func86,Tryz.ntmps86
 go_wp2
 go_step3
 go_wp2_with (go_at_call 140;refine HFT.out.mono ?_;rintro e w1 ⟨rfl,hb1⟩;have HB1:=O hb1;have c16:=HC.out _ hb1;clear hb1)
 rw[Exit.noGoto_ret];go_ret;exact⟨rfl,HB1.out⟩
theorem RU (l:List SH) (m d:Nat) (v:Value) (w:World) (hv:RdE eH w v l) (hok:eO l=true) (hF:oO l m d) (hm:m≤l.length) :
  Calls Tryz.prog 86 #[v] w fun e w'=>e = .returned (.int .i64 (ci l))∧Below w.heap.size w w':=by
 have h:=C6 l v w hv;rw[hok] at h;have HFT:=O h;obtain⟨a,cap,rfl,hcap,_,_⟩:=id hv;obtain⟨a3,cap3,hsl,hv3⟩:=Fu hv m hm;obtain⟨b,off,rfl,hb,hc⟩:=dA hv hF.pos;have c16:=(hc 0 hF.pos).2.1
 have hs:l.headD zS0=l[0]'hF.pos:=by have := hF.pos;cases l with |nil=>simp at this|cons s r=>rfl
 rw[Nat.zero_mul,Nat.add_zero,←hs,hF.hn] at c16;have HC:Hid (∀y,Below w.heap.size w y→y.cell? ⟨b,off+16,none⟩=some (.int .i64 m)∧RdE eH y (.slice a3 (l.drop m).length cap3) (l.drop m)):=O (fun y hy=>⟨aQ hy c16,hv3.on hy⟩);have HCV:Hid (∀y,Below w.heap.size w y→Calls Tryz.prog 87 #[.slice (some ⟨b,off,none⟩) l.length cap] y fun e w'=>∃f,e = .returned f∧oH w' f (l.take m)∧Below y.heap.size y w'):=O (fun y hy=>Es l m _ y (hv.on hy) hF.hn hF.h1 hm hF.len hF.h2 hF.idx);have HCC:Hid (∀(f:Value) (u:World),oH u f (l.take m)→Ip (l.take m) d f u):=O (fun f u hc=>AC hF hm hc);have HALL:=O (NN hok hF hm);have HBAD:=O (NP hok hF hm);have HIX:Hid (∀j (hj:j<(l.drop m).length),1≤(l.drop m)[j].idx∧(l.drop m)[j].idx≤255):=O (fun j hj=>hF.idx _ (List.mem_of_mem_drop (List.getElem_mem hj)));have hp:0<l.length:=hF.pos;have i1:(1:Int)≤l.length:=Int.ofNat_le.2 hp
 have i2:¬(l.length:Int)<m:=by omega
 have i3:(m:Int)≤16:=by have := hF.h2;omega
 have hrl:(l.drop m).length≤255:=by have := hF.len;rw[List.length_drop];omega
 have i4:((l.drop m).length:Int)≤255:=by omega
 have hzs:=oA;clear h hv hok hc hs c16 hb hF hcap hv3;generalize l.drop m=r at *;generalize ci l=res at *;generalize l.take m=lt at *
 go_enter Tryz.func86,Tryz.ntmps86
 go_wp2
 go_step3
 go_wp2_with (first
  |(go_at_call 140;refine HFT.out.mono ?_;rintro e w1 ⟨rfl,hb1⟩;have HB1:=O hb1;have c16:=(HC.out _ hb1).1;clear hb1)
  |(go_at_call 87;refine(HCV.out _ HB1.out).mono ?_;rintro e w2 ⟨f,rfl,hcur,hb2⟩;have HB2:=O (HB1.out.trans (hb2.mono HB1.out.size));obtain⟨p1,p2,rfl,hcc⟩:=HCC.out _ _ hcur;have HCU:=O hcc;clear hcc hcur hb2;have c16:=(HC.out _ HB2.out).1))
 go_step3
 go_wp2
 go_loopw [4,26] (fun e i wr=>e = .int .i64 0∧∃k:Nat,k≤r.length∧i = .int .i64 k∧Hid (∀j (hj:j<r.length),j<k→eW lt d (xb r[j])=r[j].data)∧Hid (Below w2.heap.size w2 wr)) (fun _ i _=>r.length-(intOf i).toNat)
 case atStart=>exact⟨rfl,0,Nat.zero_le _,rfl,O (fun j _ hj=>absurd hj (by omega)),O (Oo _ _)⟩
 case round =>
  obtain⟨rfl,k,hk,rfl,hno,hb⟩:=hrel;have HBW:Hid (Below w.heap.size w wr):=O (HB2.out.trans (hb.out.mono HB2.out.size))
  by_cases hlt:k<r.length
  ·have k1:(k:Int)<r.length:=by omega
   have HKL:=O hlt;obtain⟨b3,off3,rfl,hb3,hc3⟩:=dA (HC.out wr HBW.out).2 (by omega);have HR3:=O (hc3 k hlt).1;have HIXK:=O (HIX.out k hlt);have HBD:=O (HBAD.out k hlt)
   have HNX:Hid (eW lt d (xb r[k])=r[k].data→∀j (hj:j<r.length),j<k+1→eW lt d (xb r[j])=r[j].data):=O (fun he j hj hj2=>by
    by_cases e:j=k
    ·subst e;exact he
    ·exact hno.out j hj (by omega))
   generalize r[k]=s at HR3 HIXK HBD HNX;have hw8:=tR s HIXK.out.1 HIXK.out.2
   have hm8:s.idx % 256=B8 (xb s):=by rw[←IntKind.wrap_u8];exact hw8
   clear hc3 hlt hk hb3 hno
   go_upto_region 9 with (first
    |(refine vq s b3 (off3+k*19) (.tmp 28) rfl HR3.out rfl rfl ?_)
    |(refine aH (shA s) 103 rfl (.tmp 6) (.tmp 29) rfl _ rfl rfl rfl (by rw[cX];exact js) (by rw[cX,cX]) (nZ _) ?_))
   have HA9:Hid (Below wr.heap.size wr (wr.alloc (.cells (shA s) 103))∧(wr.alloc (.cells (shA s) 103)).heap[wr.heap.size]?=some (.cells (shA s) 103 (0,0))):=O ⟨(Oo _ _).alloc (Nat.le_refl _) _,heap_alloc_new _ _⟩;simp only[Act.put];generalize wr.alloc (.cells (shA s) 103)=w9 at HA9 ⊢;have HG9:=O HA9.out.2;have HB9:Hid (Below w2.heap.size w2 w9):=O (hb.out.trans (HA9.out.1.mono hb.out.size));generalize wr.heap.size=g9 at HG9 ⊢;have HX:Hid (∀y,Below w9.heap.size w9 y→y.cell? ⟨g9,17,none⟩=some (.int .i64 s.idx)∧y.cell? ⟨g9,18,none⟩=some (.string ⟨s.data.toArray⟩)∧Below w2.heap.size w2 y):=O (fun y hy=>⟨aQ hy (by rw[cell_of_row _ _ 17 _ _ _ HG9.out,cU];exact jU s),aQ hy (by rw[cell_of_row _ _ 18 _ _ _ HG9.out,cU];exact pG s),HB9.out.trans (hy.mono HB9.out.size)⟩);have HCK:=O (HCU.out (xb s));generalize eW lt d (xb s)=cu at HCK HBD HNX;clear HA9 HG9 HR3 hb c16;refine aY 7 [[],[],[1],[2],[0,3],[],[5]] (SP.of [.eq (.func (.func 141) #[] #[.pointer (some ⟨p1,0,none⟩),.pointer (some ⟨p2,0,none⟩)]),.eq (.pointer (some ⟨g9,17,none⟩)),.eq (.int .i64 s.idx),.eq (.int .u8 (B8 (xb s))),.eq (.string ⟨cu.toArray⟩),.eq (.pointer (some ⟨g9,18,none⟩)),.eq (.string ⟨s.data.toArray⟩)]) (fun i=>([u30,u31,u32,u33,u34,u35,u36]:List Value).getD i undef) ?h1 ?h2 ?h3 ?h4 ?h5 ?h6
   case h1=>kernel_rfl
   case h2=>kernel_rfl
   case h3=>kernel_rfl
   case h4 =>
    simp only[List.take_succ_cons,List.take_zero]
    repeat (first |exact trivial|refine⟨fun vals v=>by kernel_rfl,?_⟩)
   case h5 =>
    simp only[List.take_succ_cons,List.take_zero];refine⟨?_,?_,?_,?_,?_,?_,?_,trivial⟩
    all_goals (intro wq hbq vals;simp only[Nat.reduceAdd,Nat.zero_add,List.getD_cons_succ,List.getD_cons_zero];have HQ:=O (HX.out wq hbq);clear hbq;repeat (first |refine ar ?_|refine aw rfl ?_);intro Q hQ;simp only[ay,upd,Act.put,List.setIfInBounds_toArray,List.set_cons_zero,List.set_cons_succ,Nat.reduceAdd,Nat.zero_add,Nat.reduceEqDiff,if_true,if_false,reduceIte])
    case refine_3 =>
     have c:=HQ.out.1;go_wp2;exact ab hQ _ (by kernel_rfl) (Oo _ _) rfl
    case refine_7 =>
     have c:=HQ.out.2.1;go_wp2;exact ab hQ _ (by kernel_rfl) (Oo _ _) rfl
    case refine_5 =>
     go_wp2_with (go_at_call 141;refine(HCK.out _ HQ.out.2.2).mono ?_;rintro e x1 ⟨rfl,hx1⟩)
     exact ab hQ _ (by kernel_rfl) hx1 rfl
    all_goals go_wp2
    all_goals exact ab hQ _ (by kernel_rfl) (Oo _ _) rfl
   case h6 =>
    intro wq hbq vals;have HQ:=O (HX.out wq hbq);clear hbq;rw[show List.range 7=[0,1,2,3,4,5,6] from by decide]
    repeat (first |refine ar ?_|refine aw rfl ?_)
    simp only[List.take_succ_cons,List.take_zero,List.drop_succ_cons,List.drop_zero];simp only[ay,upd,Act.put,List.setIfInBounds_toArray,List.set_cons_zero,List.set_cons_succ,Nat.reduceAdd,Nat.zero_add,Nat.reduceEqDiff,if_true,if_false,reduceIte]
    by_cases hq:cu=s.data
    ·have HN:=O (HNX.out hq)
     have hs1:(cu == s.data)=true:=by rw[hq];simp
     clear hq;go_wp2;go_roundw
     case rel=>exact⟨rfl,k+1,HKL.out,by go_num,HN,O HQ.out.2.2⟩
     case measure=>have := HKL.out;simp[intOf];omega
    ·have HN:=O (HBD.out hq)
     have hs1:(cu == s.data)=false:=by rw[beq_eq_false_iff_ne];exact hq
     clear hq;go_wp2;rw[Exit.noGoto_ret];go_ret;exact⟨by rw[HN.out];rfl,HB2.out.trans (HQ.out.2.2.mono HB2.out.size)⟩
  ·have he:k=r.length:=by omega
   have k1:¬(k:Int)<r.length:=by omega
   have HF:Hid (res=0):=O (HALL.out (fun j hj=>hno.out j hj (by omega)));clear he hlt hk hno;go_wp2
   try rw[Exit.noGoto_ret]
   go_ret;exact⟨by rw[HF.out];rfl,HBW.out⟩
end
section
open Go.RowKit Go.Shelf
theorem Vy (l:List SH) (v:Value) (w:World) (hv:RdE eH w v l) :
  Calls Tryz.prog 86 #[v] w fun e w'=>e = .returned (.int .i64 (ci l))∧Below w.heap.size w w':=by
 cases h:eO l with
 | false=>rw[th h];exact RR l v w hv h
 | true =>
   obtain⟨m,d,hF⟩:=oW h
   by_cases hm:m≤l.length
   ·exact RU l m d v w hv h hF hm
   ·rw[ux h hF (by omega)];exact RT l m d v w hv h hF (by omega)
theorem uz {l:List SH} (h:ci l=0):eO l=true∧∃m d,oO l m d∧m≤l.length∧eU l=eW (l.take m) d 0:=by
 cases hf:eO l with
 | false=>rw[th hf] at h;cases h
 | true =>
   obtain⟨m,d,hF⟩:=oW hf
   by_cases hm:m≤l.length
   ·refine⟨rfl,m,d,hF,hm,?_⟩
    unfold eU Ia;rw[if_pos h,hF.hn,hF.hd,Int.toNat_natCast]
   ·rw[ux hf hF (by omega)] at h;cases h
attribute [local irreducible] Calls shc shA
theorem R3 (l:List SH) (v:Value) (w:World) (hv:RdE eH w v l) :
  Calls Tryz.prog 44 #[v] w fun e w'=>e = .returned (.tuple #[.string ⟨(eU l).toArray⟩,.int .i64 (ci l)])∧Below w.heap.size w w':=by
 have HCK:=O (Vy l v w hv)
 by_cases h0:ci l=0
 ·obtain⟨hf,m,d,hF,hm,he⟩:=uz h0
  have HCV:Hid (∀y,Below w.heap.size w y→Calls Tryz.prog 87 #[v] y fun e w'=>∃f,e = .returned f∧oH w' f (l.take m)∧Below y.heap.size y w'):=O (fun y hy=>Es l m _ y (hv.on hy) hF.hn hF.h1 hm hF.len hF.h2 hF.idx);have HCC:Hid (∀(f:Value) (u:World),oH u f (l.take m)→Ip (l.take m) d f u):=O (fun f u hc=>AC hF hm hc);rw[h0] at HCK;rw[he,h0];obtain⟨va,vc,rfl,_,_,_⟩:=hv;clear hf hF hm he h0
  go_enter Tryz.func44,Tryz.ntmps44
  go_wp2_with (first
   |(go_at_call 86;refine HCK.out.mono ?_;rintro e w1 ⟨rfl,hb1⟩;have HB1:=O hb1;clear hb1)
   |(go_at_call 87;refine(HCV.out _ HB1.out).mono ?_;rintro e w2 ⟨f,rfl,hcur,hb2⟩;have HB2:=O (HB1.out.trans (hb2.mono HB1.out.size));obtain⟨p1,p2,rfl,hcc⟩:=HCC.out _ _ hcur;have hcc2:=hcc 0 w2 (Oo _ _);rw[show B8 0=0 from rfl] at hcc2;have HCU:=O hcc2;clear hcc hcc2 hcur hb2)
   |(go_at_call 141;refine HCU.out.mono ?_;rintro e w3 ⟨rfl,hb3⟩;have HB3:=O (HB2.out.trans (hb3.mono HB2.out.size));clear hb3))
  go_ret2
  exact⟨rfl,HB3.out⟩
 ·have hc:eU l=[]:=by unfold eU;rw[if_neg h0]
  rw[hc]
  have h1:(ci l == 0)=false:=by rw[beq_eq_false_iff_ne];exact h0
  obtain⟨va,vc,rfl,_,_,_⟩:=hv;generalize ci l=res at HCK h1 h0 ⊢;clear hc h0
  go_enter Tryz.func44,Tryz.ntmps44
  go_wp2_with (go_at_call 86;refine HCK.out.mono ?_;rintro e w1 ⟨rfl,hb1⟩;have HB1:=O hb1;clear hb1)
  go_ret2
  exact⟨rfl,HB1.out⟩
end
end Go.Proofs.YtmfiaadjdbemnaaGreatDoor
