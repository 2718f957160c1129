/- Contracts and lemmas. No condition. -/
import Derived.Test.YtmfiaadjdbemnaaGreatDoorSB06
import Derived.Test.YtmfiaadjdbemnaaGreatDoorSB07
import Derived.Lib.AppendZeros
set_option maxRecDepth 100000
set_option maxHeartbeats 8000000
namespace Go.Proofs.YtmfiaadjdbemnaaGreatDoor
section
open Go.RowKit
theorem pH (w:World):(sizeOf (Tryz.prog.elem 80)).run Tryz.prog w = .ok 1 w:=by kernel_rfl
theorem mm:Tryz.prog.underlying 80=some (.slice (Tryz.prog.elem 80)):=by kernel_rfl
theorem jV {w:World} {a:Option Addr} {cap:Nat} {b:List UInt8} (hv:RdE eB w (.slice a b.length cap) b) (i j:Nat) (hij:i≤j) (hj:j≤b.length) :
  RdE eB w (sliced a i j cap 1) ((b.drop i).take (j-i)):=by
 obtain⟨a',cap',e,h1,h2,h3⟩:=hv
 cases e
 have hl:((b.drop i).take (j-i)).length=j-i:=by rw[List.length_take,List.length_drop];omega
 refine⟨_,cap-i,by rw[hl];rfl,by rw[hl];omega,by omega,fun h0 => ?_⟩;rw[hl] at h0;obtain⟨bb,off,rfl,hlt,hc⟩:=h3 (by omega)
 have hne:¬cap=i:=by omega
 rw[if_neg hne]
 have gX:(⟨bb,off,none⟩:Addr).add (i*1)=⟨bb,off+i,none⟩:=by unfold Addr.add;simp
 refine⟨bb,off+i,by rw[Option.map_some,gX],hlt,fun k u hu => ?_⟩;rw[mU] at hu
 have hk:k<j-i:=by have := (List.getElem?_eq_some_iff.1 hu).1;rw[iP,hl] at this;exact this
 have := hc (i+k) u (by
  rw[mU,←hu];unfold bcs
  rw[List.getElem?_map,List.getElem?_map,List.getElem?_take,if_pos hk,List.getElem?_drop])
 rwa [←Nat.add_assoc] at this
theorem LQ {w:World} {v:Value} {b:List UInt8} (hv:RdE eB w v b) (i j:Nat) (hij:i≤j) (hj:j≤b.length) :
  ∃v',(Instr.slice 80 v (some (.int .i64 i)) (some (.int .i64 j)) none).run Tryz.prog w = .ok v' w∧RdE eB w v' ((b.drop i).take (j-i)):=by
 have hv2:=hv;obtain⟨a,cap,rfl,h1,h2,h3⟩:=hv;refine⟨_,?_,jV hv2 i j hij hj⟩;rw[run_slice_lh w _ a _ cap mm .i64 .i64 _ _ (by omega) (by omega) (by omega),pH]
 simp[Result.andThen]
theorem Fv {w:World} {v:Value} {b:List UInt8} (hv:RdE eB w v b) (i:Nat) (hi:i≤b.length) :
  ∃v',(Instr.slice 80 v (some (.int .i64 i)) none none).run Tryz.prog w = .ok v' w∧RdE eB w v' (b.drop i):=by
 have hv2:=hv;obtain⟨a,cap,rfl,h1,h2,h3⟩:=hv;have h:=jV hv2 i b.length hi (Nat.le_refl _);rw[List.take_of_length_le (by rw[List.length_drop];exact Nat.le_refl _)] at h;refine⟨_,?_,h⟩;rw[run_slice_l w _ a _ cap mm .i64 _ (by omega) (by omega),pH]
 simp[Result.andThen]
theorem PH {w:World} {v:Value} {b:List UInt8} (hv:RdE eB w v b) (j:Nat) (hj:j≤b.length) :
  ∃v',(Instr.slice 80 v none (some (.int .i64 j)) none).run Tryz.prog w = .ok v' w∧RdE eB w v' (b.take j):=by
 have hv2:=hv;obtain⟨a,cap,rfl,h1,h2,h3⟩:=hv;have h:=jV hv2 0 j (Nat.zero_le _) hj;rw[List.drop_zero,Nat.sub_zero] at h;refine⟨_,?_,h⟩;rw[run_slice_h w _ a _ cap mm .i64 _ (by omega) (by omega),pH]
 simp[Result.andThen]
theorem V7 {w:World} {v:Value} {b:List UInt8} (hv:RdE eB w v b) (T:TypeId):(Builtin.len_ #[80] T #[v]).run Tryz.prog w = .ok (.int .i64 b.length) w:=by
 obtain⟨a,cap,rfl,h1,h2,h3⟩:=hv
 kernel_rfl
attribute [local irreducible] Calls
theorem yL (v:Value) (b:List UInt8) (w:World) (hv:RdE eB w v b) :
  Calls Tryz.prog 144 #[v,.int .i64 1] w fun e w'=>e = .returned (il (dG b 1))∧w'=w:=by
 have HG:=O (Ba v b w hv);have hlen:=hv.len;unfold maxLen at hlen;have HU:=O (jA b);have HP:=O (oT b 1);have HZ:=O (ql b);obtain⟨a,cap,rfl,hcap,hcm,_⟩:=hv;generalize aZ b=d at HG HU HP HZ;obtain⟨n,u,er⟩:=d;simp only at HP HU HZ
 rcases HP.out with⟨h1,h2⟩|⟨h1,h2,h3⟩|⟨h1,h2,h3,h4⟩|⟨h1,h2,h3,h4⟩
 ·have HR:=O h2
  have HE:=O (HZ.out h1);obtain⟨rfl,rfl⟩:=HE.out;clear h2 HP HE HZ
  go_enter Tryz.func144,Tryz.ntmps144
  go_wp2_with (go_at_call 174;refine HG.out.mono ?_;rintro e w1 ⟨rfl,hw1⟩;rw[hw1];clear hw1;simp only[il])
  go_ret3
  exact⟨by rw[HR.out];rfl,rfl⟩
 ·subst h1
  have HR:=O h3;clear h3 HP HZ
  go_enter Tryz.func144,Tryz.ntmps144
  go_wp2_with (go_at_call 174;refine HG.out.mono ?_;rintro e w1 ⟨rfl,hw1⟩;rw[hw1];clear hw1;simp only[il])
  go_ret3
  exact⟨by rw[HR.out];rfl,rfl⟩
 ·subst h1
  have HR:=O h4;have hu:=(HU.out rfl).1
  have hu':(u:Int)≤b.length:=by omega
  have i3:¬n≤(b.length:Int)-u:=by rw[Nat.div_one] at h3;omega
  clear h3 h4 HP hu HZ
  go_enter Tryz.func144,Tryz.ntmps144
  go_wp2_with (go_at_call 174;refine HG.out.mono ?_;rintro e w1 ⟨rfl,hw1⟩;rw[hw1];clear hw1;simp only[il])
  go_ret3
  exact⟨by rw[HR.out];rfl,rfl⟩
 ·subst h1
  have HR:=O h4;have hu:=(HU.out rfl).1
  have hu':(u:Int)≤b.length:=by omega
  have i3:n≤(b.length:Int)-u:=by rw[Nat.div_one] at h3;omega
  clear h3 h4 HP hu HZ
  go_enter Tryz.func144,Tryz.ntmps144
  go_wp2_with (go_at_call 174;refine HG.out.mono ?_;rintro e w1 ⟨rfl,hw1⟩;rw[hw1];clear hw1;simp only[il])
  go_ret3
  exact⟨by rw[HR.out];rfl,rfl⟩
def mH (x:List UInt8 × Nat × Int):Value := .tuple #[.string ⟨x.1.toArray⟩,.int .i64 x.2.1,.int .i64 x.2.2]
theorem uG (b:List UInt8):((dG b 1).2.2≠0∧aL b=([],0,(dG b 1).2.2))∨((dG b 1).2.2=0∧aL b=((b.drop (dG b 1).2.1).take (dG b 1).1.toNat,(dG b 1).2.1+(dG b 1).1.toNat,0)):=by
 unfold aL
 by_cases h:(dG b 1).2.2=0
 ·exact .inr ⟨h,if_neg (fun e=>e h)⟩
 ·exact .inl ⟨h,if_pos h⟩
theorem uX (v:Value) (b:List UInt8) (w:World) (hv:RdE eB w v b) :
  Calls Tryz.prog 134 #[v] w fun e w'=>e = .returned (mH (aL b))∧w'=w:=by
 have HG:=O (yL v b w hv);have hlen:=hv.len;unfold maxLen at hlen;have HU:=O (iQ b);have HP:=O (uG b);have HV:=O hv;generalize dG b 1=d at HG HU HP;obtain⟨n,u,er⟩:=d;simp only at HP HU;clear hv
 rcases HP.out with⟨h1,h2⟩|⟨h1,h2⟩
 ·have HR:=O h2
  clear h2 HP
  go_enter Tryz.func134,Tryz.ntmps134
  go_wp2_with (go_at_call 144;refine HG.out.mono ?_;rintro e w1 ⟨rfl,hw1⟩;rw[hw1];clear hw1;simp only[il])
  go_ret3
  exact⟨by rw[HR.out];rfl,rfl⟩
 ·subst h1
  have HR:=O h2;obtain⟨_,k2,k3,_⟩:=HU.out rfl;obtain⟨m,rfl⟩:∃m:Nat,n=(m:Int):=⟨n.toNat,by omega⟩;rw[Int.toNat_natCast] at HR k3;obtain⟨vs,hsl,hrs⟩:=LQ HV.out u (u+m) (by omega) k3;rw[show u+m-u=m by omega] at hrs;have hcv:=b6 hrs;generalize (b.drop u).take m=t at HR hcv
  have ha:(u:Int)+(m:Int)≤b.length:=by omega
  have hs:=hsl;rw[Int.natCast_add] at hs;clear h2 HP k2 k3 hsl hrs
  go_enter Tryz.func134,Tryz.ntmps134
  go_wp2_with (go_at_call 144;refine HG.out.mono ?_;rintro e w1 ⟨rfl,hw1⟩;rw[hw1];clear hw1;simp only[il])
  go_ret3
  exact⟨by rw[HR.out];rfl,rfl⟩
end
section
open Go.RowKit
attribute [local irreducible] Calls
theorem S4 (v:Value) (b:List UInt8) (pos g0 g1:Nat) (w:World) (hv:RdE eB w v b) (h0:w.cell? ⟨g0,0,none⟩=some v) (h1:w.heap[g1]?=some (.cells #[.int .i64 pos] 3 (0,0))) (hp:pos≤b.length) :
  Calls Tryz.prog 186 #[.pointer (some ⟨g0,0,none⟩),.pointer (some ⟨g1,0,none⟩)] w fun e w'=>e = .returned (.tuple #[.int .i64 (aZ (b.drop pos)).1,.int .i64 ((pos+(aZ (b.drop pos)).2.1:Nat):Int),.int .i64 (aZ (b.drop pos)).2.2]) ∧
   ∃n,w'=(w.setCell ⟨g1,0,none⟩ (.int .i64 ((pos+(aZ (b.drop pos)).2.1:Nat):Int))).drewN n:=by
 obtain⟨vs,hs,hrs⟩:=Fv hv pos hp;have HG:=O (Ba vs _ w hrs);have hlen:=hv.len;unfold maxLen at hlen
 have hu:pos+(aZ (b.drop pos)).2.1≤b.length:=by
  by_cases h:(aZ (b.drop pos)).2.2=0
  ·have := (jA _ h).1
   rw[List.length_drop] at this
   omega
  ·rw[(ql _ h).2];exact hp
 have c1:w.cell? ⟨g1,0,none⟩=some (.int .i64 pos):=cell_of_row _ _ _ _ _ _ h1;have f1:=frozen_of_row _ _ 0 _ _ h1;have HH1:=O h1;generalize aZ (b.drop pos)=d at HG hu ⊢;obtain⟨n,u,er⟩:=d;simp only at hu
 have hpi:(pos:Int)≤b.length:=by omega
 have hui:(pos:Int)+(u:Int)≤b.length:=by omega
 have hp0:(0:Int)≤pos:=by omega
 have hu0:(0:Int)≤(pos:Int)+u:=by omega
 have hli:(b.length:Int)≤9223372036854775807:=by omega
 have c2:(w.setCell ⟨g1,0,none⟩ (.int .i64 ((pos:Int)+u))).cell? ⟨g1,0,none⟩=some (.int .i64 ((pos:Int)+u)):=by
  rw[au _ _ _ _ _ _ _ h1];exact cell_of_row _ _ _ _ _ _ (setRow_heap _ _ _ _ _ _ h1)
 clear hp hu hv hrs h1
 go_enter Tryz.func186,Tryz.ntmps186
 go_upto_region 3 with (go_at_call 174;refine HG.out.mono ?_;rintro e w1 ⟨rfl,hw1⟩;rw[hw1];clear hw1;simp only[il])
 try dsimp only[Act.put]
 refine fG (by kernel_rfl) (by kernel_rfl) ?_
 repeat (go_big_quiet_step (fail))
 refine wpQuiet_nil ?_;rintro _ ⟨nq,rfl⟩;go_wp2
 go_ret3
 exact⟨rfl,nq,rfl⟩
theorem Lj (a:Option Addr) (n cap:Nat) (pos:Int) (w:World) :
  Calls Tryz.prog 172 #[.slice a n cap,.int .i64 pos] w fun e w'=>e = .returned (.func (.func 186) #[] #[.pointer (some ⟨w.heap.size,0,none⟩),.pointer (some ⟨w.heap.size+1,0,none⟩)]) ∧
   w'=(w.alloc (.cells #[.slice a n cap] 80)).alloc (.cells #[.int .i64 pos] 3):=by
 have hmf:∀(fn:Fn) (first cap:Array Value) (w:World),(Instr.makeFunc fn first cap).run Tryz.prog w = .ok (.func fn first cap) w:=fun _ _ _ _=>rfl
 go_enter Tryz.func172,Tryz.ntmps172
 go_wp2;go_ret;exact⟨rfl,rfl⟩
theorem Eo {w w':World} {g:Nat} (h:w'.heap[g]? = w.heap[g]?) (o:Nat):w'.cell? ⟨g,o,none⟩=w.cell? ⟨g,o,none⟩:=by
 unfold World.cell?;simp only[h]
structure GW (w:World) (v:Value) (pos:Nat) (out:Value) (acc:List Int) (wr:World):Prop where
 c0:wr.cell? ⟨w.heap.size,0,none⟩=some v
 c1:wr.heap[w.heap.size+1]?=some (.cells #[.int .i64 pos] 3 (0,0))
 own:ap eI wr (w.heap.size+2) out acc
 below:Below w.heap.size w wr
theorem GW.start (w:World) (v:Value) (pos:Nat):GW w v pos (.slice none 0 0) [] ((w.alloc (.cells #[v] 80)).alloc (.cells #[.int .i64 pos] 3)) :=
 ⟨by rw[cell_of_row _ _ _ _ _ _ (show ((w.alloc (.cells #[v] 80)).alloc (.cells #[.int .i64 pos] 3)).heap[w.heap.size]?=some (.cells #[v] 80 (0,0)) by rw[bx _ _ _ (by simp),al _ _ _ rfl])];rfl,al _ _ _ (by simp),ap.nil _ _,((Oo _ _).alloc (Nat.le_refl _) _).alloc (by simp) _⟩
theorem GW.next {w wr:World} {v out:Value} {pos:Nat} {acc:List Int} (h:GW w v pos out acc wr) (p2 n:Nat):GW w v p2 out acc ((wr.setCell ⟨w.heap.size+1,0,none⟩ (.int .i64 p2)).drewN n):=by
 have e:=au wr (w.heap.size+1) 0 _ _ _ (Value.int .i64 p2) h.c1;have hne:=h.own.neOld (g:=w.heap.size+1) (by omega);refine⟨?_,?_,?_,?_⟩
 ·refine(Eo ?_ 0).trans h.c0
  exact kR (by omega)
 ·show (wr.setCell ⟨w.heap.size+1,0,none⟩ (.int .i64 p2)).heap[w.heap.size+1]? = _
  rw[e];exact setRow_heap _ _ _ _ _ _ h.c1
 ·exact(h.own.setNe hne).on (ak n (Oo _ _))
 ·refine ak n ?_
  rw[e];exact h.below.trans (aK (by omega))
theorem GW.app {w wr w':World} {v out out':Value} {pos:Nat} {acc:List Int} (h:GW w v pos out acc wr) (x:Int) (ho:ap eI w' (w.heap.size+2) out' (acc++[x]))
  (hg:(wr.alloc (.cells #[.int .i64 x] 3)).grownBy w' out.ownBlock):GW w v pos out' (acc++[x]) w':=by
 have hA:=((Oo wr.heap.size wr).alloc (Nat.le_refl _) (.cells #[.int .i64 x] 3));have hb1:(wr.alloc (.cells #[.int .i64 x] 3)).heap[w.heap.size+1]? = wr.heap[w.heap.size+1]? := hA.block _ (Array.getElem?_eq_some_iff.1 h.c1).1;have hsz:w.heap.size+1<wr.heap.size:=(Array.getElem?_eq_some_iff.1 h.c1).1;have hb0:(wr.alloc (.cells #[.int .i64 x] 3)).heap[w.heap.size]? = wr.heap[w.heap.size]? := hA.block _ (by omega);have hown:=h.own.on hA;have hk:∀k,k<w.heap.size+2→w'.heap[k]? = (wr.alloc (.cells #[.int .i64 x] 3)).heap[k]? := fun k hk=>hg.block k (by simp;omega) (fun e=>absurd e.symm (hown.neOld (by omega)));refine⟨?_,?_,ho,?_⟩
 ·refine(Eo ?_ 0).trans h.c0
  rw[hk _ (by omega),hb0]
 ·rw[hk _ (by omega),hb1];exact h.c1
 ·have h2:Below (w.heap.size+2) (wr.alloc (.cells #[.int .i64 x] 3)) w':=(Oo _ _).grown hg (by simp;omega) (fun k hk2=>(hown.lt k hk2).1)
  exact(h.below.alloc (by omega) _).trans (h2.mono (by omega))
theorem GF (v:Value) (b:List UInt8) (w:World) (hv:RdE eB w v b) (hl:b.length≤900000) :
  Calls Tryz.prog 138 #[v] w fun e w'=>∃v',e = .returned (.tuple #[v',.int .i64 (aB b).2.1,.int .i64 (aB b).2.2])∧ap eI w' w.heap.size v' (aB b).1∧Below w.heap.size w w':=by
 have HG:=O (yL v b w hv);have HL:=O hl;have HU:=O (iQ b);have HV:=O hv;have HD:Hid (aB b=j8 aZ b):=O rfl;unfold j8 at HD;generalize dG b 1=d at HG HU HD;obtain⟨n,u,er⟩:=d;simp only at HU HD
 by_cases h1:er=0
 ·subst h1
  obtain⟨_,k2,k3,k4⟩:=HU.out rfl;obtain⟨m,rfl⟩:∃m:Nat,n=(m:Int):=⟨n.toNat,by omega⟩;rw[Int.toNat_natCast] at HD k3;rw[if_neg (fun e=>e rfl)] at HD
  have hmi:(m:Int)≤900000:=by omega
  have K3:=O k3;obtain⟨a,cap,rfl,_,_,_⟩:=hv;clear k2 k3 k4
  go_enter Tryz.func138,Tryz.ntmps138
  go_wp2_with (first
   |(go_at_call 144;refine HG.out.mono ?_;rintro e w1 ⟨rfl,hw1⟩;rw[hw1];clear hw1;simp only[il])
   |(go_at_call 172;refine(Lj _ _ _ _ _).mono ?_;rintro e w2 ⟨rfl,hw2⟩;rw[hw2];clear hw2))
  go_loopw [26,9,6] (fun i out pv wr=>∃(j pos:Nat) (acc:List Int),j≤m∧i = .int .i64 j∧pv = .int .i64 pos∧pos≤b.length∧acc.length=j∧Hid (fS aZ b m u []=fS aZ b (m-j) pos acc)∧GW w (.slice a b.length cap) pos out acc wr) (fun i _ _ _=>m-(intOf i).toNat)
  case atStart=>exact⟨0,u,[],Nat.zero_le _,rfl,rfl,by have := K3.out;omega,rfl,O rfl,GW.start _ _ _⟩
  case round =>
   obtain⟨j,pos,acc,hj,rfl,rfl,hpos,hacc,hdec,hgw⟩:=hrel
   by_cases hlt:j<m
   ·have j1:(j:Int)<m:=by omega
    have HN:=O (S4 (.slice a b.length cap) b pos w.heap.size (w.heap.size+1) wr (HV.out.on (hgw.below)) hgw.c0 hgw.c1 hpos)
    have HS:Hid (fS aZ b (m-j) pos acc=if (aZ (b.drop pos)).2.2≠0 then ([],0,(aZ (b.drop pos)).2.2) else fS aZ b (m-(j+1)) (pos+(aZ (b.drop pos)).2.1) (acc++[(aZ (b.drop pos)).1])):=O (by
     obtain⟨k,hk⟩:∃k,m-j=k+1:=⟨m-j-1,by omega⟩
     rw[hk,show m-(j+1)=k by omega,fS])
    have HUS:=O (jA (b.drop pos));generalize aZ (b.drop pos)=dd at HN HS HUS;obtain⟨nn,uu,ee⟩:=dd;simp only at HN HS HUS;have HGW:=O hgw;have HACC:=O hacc;have HJ:=O hlt;have HPOS:=O hpos;clear hgw hacc hlt hpos
    by_cases h2:ee=0
    ·subst h2
     clear hj
     go_wp2_with (first
      |(go_at_call 186;refine HN.out.mono ?_;rintro e w2 ⟨rfl,nq,hw2⟩;have HG2:Hid (GW w (.slice a b.length cap) (pos+uu) _ acc w2):=(O (by rw[hw2];exact HGW.out.next _ _));clear hw2)
      |(at_builtin;go_loud (refine br iB rfl (.tmp 37) (.tmp 39) rfl (w.heap.size+2) _ acc rfl (HG2.out.own.on ((Oo _ _).alloc (Nat.le_refl _) _)) (.slice (some ⟨w2.heap.size,0,none⟩) 1 1) [nn] rfl (bP w2 nn iB) (by rw[HACC.out];have := HJ.out;simp;omega) (by have := (Array.getElem?_eq_some_iff.1 HG2.out.c1).1;simp;omega) ?_);intro v3 w3 ho3 hg3 _;have HG3:Hid (GW w (.slice a b.length cap) (pos+uu) v3 (acc++[nn]) w3):=(O (HG2.out.app nn ho3 hg3));clear ho3 hg3))
     go_roundw
     case rel=>exact⟨j+1,pos+uu,acc++[nn],by have := HJ.out;omega,by go_num,rfl,by have := (HUS.out (by first |exact rfl|exact trivial)).1;rw[List.length_drop] at this;have := HPOS.out;omega,by rw[List.length_append,HACC.out];rfl,O (by rw[hdec.out,HS.out];rfl),HG3.out⟩
     case measure=>have := HJ.out;simp[intOf];omega
    ·have h3:(ee != 0)=true:=by simpa using h2
     have H2:=O h2;clear h2 hj
     go_wp2_with (go_at_call 186;refine HN.out.mono ?_;rintro e w2 ⟨rfl,nq,hw2⟩;have HG2:Hid (GW w (.slice a b.length cap) (pos+uu) _ acc w2):=(O (by rw[hw2];exact HGW.out.next _ _));clear hw2)
     go_ret3
     have HE:aB b=([],0,ee):=by rw[HD.out,hdec.out,HS.out,if_pos H2.out]
     exact⟨_,by rw[HE];rfl,by rw[HE];exact ap.nil _ _,HG2.out.below⟩
   ·have he:m-j=0:=by omega
    have j1:¬(j:Int)<m:=by omega
    have HE:Hid (aB b=(acc,pos,0)):=O (by rw[HD.out,hdec.out,he];rfl);have HGW:=O hgw;clear he hlt hj hacc hgw hpos;go_wp2
    go_ret3
    exact⟨_,by rw[HE.out];rfl,by rw[HE.out];exact HGW.out.own.mono (by omega),HGW.out.below⟩
 ·have h3:(er != 0)=true:=by simpa using h1
  rw[if_pos h1] at HD;clear h1 hv
  go_enter Tryz.func138,Tryz.ntmps138
  go_wp2_with (go_at_call 144;refine HG.out.mono ?_;rintro e w1 ⟨rfl,hw1⟩;rw[hw1];clear hw1;simp only[il])
  go_ret3
  exact⟨_,by rw[HD.out];rfl,by rw[HD.out];exact ap.nil _ _,Oo _ _⟩
end
section
open Go.RowKit
theorem wW (b:List UInt8) (h:(aL b).2.2=0):(aL b).2.1≤b.length:=(hI.used b h).1
attribute [local irreducible] Calls
theorem yW (v:Value) (b:List UInt8) (w:World) (hv:RdE eB w v b) (hl:b.length≤900000) :
  Calls Tryz.prog 90 #[v] w fun e w'=>∃v',e = .returned (.tuple #[v',.int .i64 (aE b).2.1,.int .i64 (aE b).2.2])∧ap eS w' w.heap.size v' (aE b).1∧Below w.heap.size w w':=by
 have HG:=O (yL v b w hv);have HL:=O hl;have HU:=O (iQ b);have HV:=O hv;have HD:Hid (aE b=j8 aL b):=O rfl;unfold j8 at HD;generalize dG b 1=d at HG HU HD;obtain⟨n,u,er⟩:=d;simp only at HU HD
 by_cases h1:er=0
 ·subst h1
  obtain⟨_,k2,k3,k4⟩:=HU.out rfl;obtain⟨m,rfl⟩:∃m:Nat,n=(m:Int):=⟨n.toNat,by omega⟩;rw[Int.toNat_natCast] at HD k3;rw[if_neg (fun e=>e rfl)] at HD
  have hmi:(m:Int)≤900000:=by omega
  have K3:=O k3;have HMI:=O hmi
  have hbi:(b.length:Int)≤900000:=by omega
  clear k2 k3 k4 hv
  go_enter Tryz.func90,Tryz.ntmps90
  go_wp2_with (go_at_call 144;refine HG.out.mono ?_;rintro e w1 ⟨rfl,hw1⟩;rw[hw1];clear hw1;simp only[il])
  go_loopw [22,8,6] (fun i out pv wr=>∃(j pos:Nat) (acc:List (List UInt8)),j≤m∧i = .int .i64 j∧pv = .int .i64 pos∧pos≤b.length∧acc.length=j∧Hid (fS aL b m u []=fS aL b (m-j) pos acc)∧ap eS wr w.heap.size out acc∧Below w.heap.size w wr) (fun i _ _ _=>m-(intOf i).toNat)
  case atStart=>exact⟨0,u,[],Nat.zero_le _,rfl,rfl,by have := K3.out;omega,rfl,O rfl,ap.nil _ _,Oo _ _⟩
  case round =>
   obtain⟨j,pos,acc,hj,rfl,rfl,hpos,hacc,hdec,hown,hb⟩:=hrel
   by_cases hlt:j<m
   ·have j1:(j:Int)<m:=by omega
    obtain⟨vs,hs,hrs⟩:=Fv (HV.out.on hb) pos hpos;have HN:=O (uX vs _ wr hrs)
    have HS:Hid (fS aL b (m-j) pos acc=if (aL (b.drop pos)).2.2≠0 then ([],0,(aL (b.drop pos)).2.2) else fS aL b (m-(j+1)) (pos+(aL (b.drop pos)).2.1) (acc++[(aL (b.drop pos)).1])):=O (by
     obtain⟨k,hk⟩:∃k,m-j=k+1:=⟨m-j-1,by omega⟩
     rw[hk,show m-(j+1)=k by omega,fS])
    have hus:(aL (b.drop pos)).2.2=0→pos+(aL (b.drop pos)).2.1≤b.length:=by
     intro h;have := wW _ h;rw[List.length_drop] at this
     omega
    have HUS:=O hus;generalize aL (b.drop pos)=dd at HN HS HUS;obtain⟨nn,uu,ee⟩:=dd;simp only at HN HS HUS;have HOWN:=O hown;have HB:=O hb;have HACC:=O hacc;have HJ:=O hlt;clear hown hb hacc hlt hpos hrs hus
    by_cases h2:ee=0
    ·subst h2
     have hpu:(pos:Int)+uu≤b.length:=by have := HUS.out rfl;omega
     have hpu0:(0:Int)≤(pos:Int)+uu:=by omega
     clear hj
     go_wp2_with (first
      |(go_at_call 134;refine HN.out.mono ?_;rintro e w2 ⟨rfl,hw2⟩;rw[hw2];clear hw2;simp only[mH])
      |(at_builtin;go_loud ((refine br AO rfl (.tmp 35) (.tmp 37) rfl w.heap.size _ acc rfl (HOWN.out.on ((Oo _ _).alloc (Nat.le_refl _) _)) (.slice (some ⟨wr.heap.size,0,none⟩) 1 1) [nn] rfl (bP wr nn AO) (by rw[HACC.out];have := HJ.out;have := HMI.out;simp;omega) (by have := HB.out.size;simp;omega) ?_;intro v3 w3 ho3 hg3 _;have HO3:=O ho3;have HB3:Hid (Below w.heap.size w w3):=(O ((HB.out.alloc HB.out.size _).grown hg3 (by have := HB.out.size;simp;omega) (fun k hk2=>(HOWN.out.lt k hk2).1)));clear ho3 hg3))))
     go_roundw
     case rel=>exact⟨j+1,pos+uu,acc++[nn],by have := HJ.out;omega,by go_num,by rw[Int.natCast_add],by omega,by rw[List.length_append,HACC.out];rfl,O (by rw[hdec.out,HS.out];rfl),HO3.out,HB3.out⟩
     case measure=>have := HJ.out;simp[intOf];omega
    ·have h3:(ee != 0)=true:=by simpa using h2
     have H2:=O h2;clear h2 hj
     go_wp2_with (go_at_call 134;refine HN.out.mono ?_;rintro e w2 ⟨rfl,hw2⟩;rw[hw2];clear hw2;simp only[mH])
     go_ret3
     have HE:aE b=([],0,ee):=by rw[HD.out,hdec.out,HS.out,if_pos H2.out]
     exact⟨_,by rw[HE];rfl,by rw[HE];exact ap.nil _ _,HB.out⟩
   ·have he:m-j=0:=by omega
    have j1:¬(j:Int)<m:=by omega
    have HE:Hid (aE b=(acc,pos,0)):=O (by rw[HD.out,hdec.out,he];rfl);have HOWN:=O hown;have HB:=O hb;clear he hlt hj hacc hown hb hpos;go_wp2
    go_ret3
    exact⟨_,by rw[HE.out];rfl,by rw[HE.out];exact HOWN.out,HB.out⟩
 ·have h3:(er != 0)=true:=by simpa using h1
  rw[if_pos h1] at HD;clear h1 hv
  go_enter Tryz.func90,Tryz.ntmps90
  go_wp2_with (go_at_call 144;refine HG.out.mono ?_;rintro e w1 ⟨rfl,hw1⟩;rw[hw1];clear hw1;simp only[il])
  go_ret3
  exact⟨_,by rw[HD.out];rfl,by rw[HD.out];exact ap.nil _ _,Oo _ _⟩
end
section
open Go.RowKit
theorem kU {α:Type} (enc:α→List UInt8) (l:List α) (j:Nat) (h:j<l.length):ea enc (l.take (j+1))=ea enc (l.take j)++enc l[j]:=by
 rw[List.take_add_one,List.getElem?_eq_getElem h];exact Gh enc l[j] (l.take j)
theorem Jb {α:Type} (enc:α→List UInt8) (l m:List α):ea enc (l++m)=ea enc l++ea enc m:=by unfold ea;simp
theorem hG {α:Type} (enc:α→List UInt8) (l:List α) (j:Nat):(ea enc (l.take j)).length≤(ea enc l).length:=by
 conv=>rhs;rw[←List.take_append_drop j l,Jb,List.length_append]
 omega
theorem iE {w:World} {a:Option Addr} {n cap:Nat} {l:List Int} (h:RdE eI w (.slice a n cap) l):0<l.length→∃b off,a=some ⟨b,off,none⟩∧b<w.heap.size∧∀j (hj:j<l.length),w.cell? ⟨b,off+j,none⟩=some (.int .i64 l[j]):=by
 obtain⟨a',c',e,_,_,h3⟩:=h
 cases e
 intro h0;obtain⟨b,off,rfl,hlt,hc⟩:=h3 h0;exact⟨b,off,rfl,hlt,fun j hj=>hc j _ (by rw[JQ,List.getElem?_map,List.getElem?_eq_getElem hj];rfl)⟩
theorem dQ {w:World} {a:Option Addr} {n cap:Nat} {l:List (List UInt8)} (h:RdE eS w (.slice a n cap) l):0<l.length→∃b off,a=some ⟨b,off,none⟩∧b<w.heap.size∧∀j (hj:j<l.length),w.cell? ⟨b,off+j,none⟩=some (.string ⟨l[j].toArray⟩):=by
 obtain⟨a',c',e,_,_,h3⟩:=h
 cases e
 intro h0;obtain⟨b,off,rfl,hlt,hc⟩:=h3 h0;exact⟨b,off,rfl,hlt,fun j hj=>hc j _ (by rw[A5,List.getElem?_map,List.getElem?_eq_getElem hj];rfl)⟩
attribute [local irreducible] Calls bF aV
theorem Kd (v:Value) (l:List Int) (w:World) (hv:RdE eI w v l) (hok:∀x∈l,okI x) (hl:(cd l).length≤900000) (hn:l.length≤900000) :
  Calls Tryz.prog 119 #[v] w fun e w'=>∃v',e = .returned v'∧ap eB w' w.heap.size v' (cd l)∧Below w.heap.size w w':=by
 have HV:=O hv;have HL:=O hl;have HOK:=O hok
 have hni:(l.length:Int)≤900000:=by omega
 have HN:=O hn;have hE:cd l=bF l.length++ea bF l:=rfl;have HE:=O hE;obtain⟨a,cap,rfl,_,_,_⟩:=hv;clear hl hok hE hn
 go_enter Tryz.func119,Tryz.ntmps119
 go_wp2_with (go_at_call 112;refine(ES (l.length:Int) (by omega) (by have := HN.out;omega) _).mono ?_;rintro e w1 ⟨v1,rfl,ho1,hb1⟩;have HO1:=O ho1;have HB1:=O hb1;clear ho1 hb1)
 go_loopw [11,3] (fun i o wr=>∃j:Nat,j≤l.length∧i = .int .i64 j∧Hid (ap eB wr w.heap.size o (bF l.length++ea bF (l.take j)))∧Hid (Below w.heap.size w wr)) (fun i _ _=>l.length-(intOf i).toNat)
 case atStart=>exact⟨0,Nat.zero_le _,rfl,O (by rw[List.take_zero,fj,List.append_nil];exact HO1.out),HB1⟩
 case round =>
  obtain⟨j,hj,rfl,hown,hb⟩:=hrel
  by_cases hlt:j<l.length
  ·have j1:(j:Int)<l.length:=by omega
   obtain⟨bb,off,rfl,hbl,aO⟩:=iE (HV.out.on hb.out) (by omega);have cj:=aO j hlt;have hx:=HOK.out l[j] (List.getElem_mem hlt);have HT:=O (kU bF l j hlt)
   have hle:(bF (l.length:Int)++(ea bF (l.take j)++bF l[j])).length≤900000:=by
    rw[←HT.out];have h1:=HL.out;rw[HE.out,List.length_append] at h1;have := hG bF l (j+1);rw[List.length_append]
    omega
   generalize l[j]=x at cj hx HT hle;have HX:=O hx;have HLE:=O hle;have HJ:=O hlt;clear aO hx hlt hle
   go_wp2_with (first
    |(go_at_call 112;refine(ES x HX.out.1 HX.out.2 _).mono ?_;rintro e w2 ⟨v2,rfl,ho2,hb2⟩;have HO2:=O ho2;have HB2:=O hb2;clear ho2 hb2)
    |(at_builtin;refine br aN rfl (.tmp 15) (.tmp 17) rfl w.heap.size _ _ rfl (hown.out.on HB2.out) _ (bF x) rfl HO2.out.rd (by have := HLE.out;rw[List.length_append,List.length_append] at this;rw[List.length_append];omega) (Nat.le_trans hb.out.size HB2.out.size) ?_;intro v3 w3 ho3 hg3 _;have HO3:=O ho3;have HB3:Hid (Below w.heap.size w w3):=(O ((hb.out.trans (HB2.out.mono hb.out.size)).grown hg3 (Nat.le_trans hb.out.size HB2.out.size) (fun k hk2=>(hown.out.lt k hk2).1)));clear ho3 hg3))
   go_roundw
   case rel=>exact⟨j+1,HJ.out,by go_num,O (by rw[HT.out,←List.append_assoc];exact HO3.out),HB3⟩
   case measure=>have := HJ.out;simp[intOf];omega
  ·have he:j=l.length:=by omega
   have j1:(l.length:Int)≤j:=by omega
   have HF:Hid (bF l.length++ea bF (l.take j)=cd l):=O (by rw[he,List.take_length];rfl);clear he hlt hj;go_wp2;go_ret;exact⟨_,rfl,by rw[←HF.out];exact hown.out,hb.out⟩
theorem yn (v:Value) (l:List (List UInt8)) (w:World) (hv:RdE eS w v l) (hl:(eN l).length≤900000) (hn:l.length≤900000) :
  Calls Tryz.prog 123 #[v] w fun e w'=>∃v',e = .returned v'∧ap eB w' w.heap.size v' (eN l)∧Below w.heap.size w w':=by
 have HV:=O hv;have HL:=O hl
 have hni:(l.length:Int)≤900000:=by omega
 have HN:=O hn;have hE:eN l=bF l.length++ea aV l:=rfl;have HE:=O hE;obtain⟨a,cap,rfl,_,_,_⟩:=hv;clear hl hE hn
 go_enter Tryz.func123,Tryz.ntmps123
 go_wp2_with (go_at_call 112;refine(ES (l.length:Int) (by omega) (by have := HN.out;omega) _).mono ?_;rintro e w1 ⟨v1,rfl,ho1,hb1⟩;have HO1:=O ho1;have HB1:=O hb1;clear ho1 hb1)
 go_loopw [11,3] (fun i o wr=>∃j:Nat,j≤l.length∧i = .int .i64 j∧Hid (ap eB wr w.heap.size o (bF l.length++ea aV (l.take j)))∧Hid (Below w.heap.size w wr)) (fun i _ _=>l.length-(intOf i).toNat)
 case atStart=>exact⟨0,Nat.zero_le _,rfl,O (by rw[List.take_zero,fj,List.append_nil];exact HO1.out),HB1⟩
 case round =>
  obtain⟨j,hj,rfl,hown,hb⟩:=hrel
  by_cases hlt:j<l.length
  ·have j1:(j:Int)<l.length:=by omega
   obtain⟨bb,off,rfl,hbl,aO⟩:=dQ (HV.out.on hb.out) (by omega);have cj:=aO j hlt;have HT:=O (kU aV l j hlt)
   have hle:(bF (l.length:Int)++(ea aV (l.take j)++aV l[j])).length≤900000:=by
    rw[←HT.out];have h1:=HL.out;rw[HE.out,List.length_append] at h1;have := hG aV l (j+1);rw[List.length_append]
    omega
   have hxl:l[j].length≤(aV l[j]).length:=by unfold aV;rw[List.length_append];omega
   generalize l[j]=x at cj HT hle hxl;have HLE:=O hle;have HXL:=O hxl;have HJ:=O hlt;clear aO hlt hle hxl
   go_wp2_with (first
    |(go_at_call 68;refine(lG x _ (by have h1:=HLE.out;have h2:=HXL.out;rw[List.length_append,List.length_append] at h1;omega)).mono ?_;rintro e w2 ⟨v2,rfl,ho2,hb2⟩;have HO2:=O ho2;have HB2:=O hb2;clear ho2 hb2)
    |(at_builtin;refine br aN rfl (.tmp 15) (.tmp 17) rfl w.heap.size _ _ rfl (hown.out.on HB2.out) _ (aV x) rfl HO2.out.rd (by have := HLE.out;rw[List.length_append,List.length_append] at this;rw[List.length_append];omega) (Nat.le_trans hb.out.size HB2.out.size) ?_;intro v3 w3 ho3 hg3 _;have HO3:=O ho3;have HB3:Hid (Below w.heap.size w w3):=(O ((hb.out.trans (HB2.out.mono hb.out.size)).grown hg3 (Nat.le_trans hb.out.size HB2.out.size) (fun k hk2=>(hown.out.lt k hk2).1)));clear ho3 hg3))
   go_roundw
   case rel=>exact⟨j+1,HJ.out,by go_num,O (by rw[HT.out,←List.append_assoc];exact HO3.out),HB3⟩
   case measure=>have := HJ.out;simp[intOf];omega
  ·have he:j=l.length:=by omega
   have j1:(l.length:Int)≤j:=by omega
   have HF:Hid (bF l.length++ea aV (l.take j)=eN l):=O (by rw[he,List.take_length];rfl);clear he hlt hj;go_wp2;go_ret;exact⟨_,rfl,by rw[←HF.out];exact hown.out,hb.out⟩
end
section
open Go.RowKit
theorem Ou:(Tryz.prog.info? 5).map (fun i=>(i.zero,i.size,i.bytes))=some (some (.int .u8 0),1,1):=by kernel_rfl
theorem wB (z:Array Value) (n:Nat):(Builtin.zeroCells z n).size=n*z.size:=by unfold Builtin.zeroCells;simp
attribute [local irreducible] Calls
theorem Sk (n:Nat) (h0:0<n) (hn:n≤1000000) (w:World) :
  Calls Tryz.prog 166 #[.slice none 0 0,.int .i64 n] w fun e w'=>∃v',e = .returned v'∧ap eB w' w.heap.size v' []∧Below w.heap.size w w':=by
 have hi1:=Ou
 cases hi:Tryz.prog.info? 5 with
 | none=>rw[hi] at hi1;cases hi1
 | some i =>
   rw[hi] at hi1;simp only[Option.map_some,Option.some.injEq,Prod.mk.injEq] at hi1;obtain⟨hz,hs,hb⟩:=hi1;have hrun:=fun ty (wx:World)=>Lib.run_append_nil_zeros (P:=Tryz.prog) wx 80 3 ty 5 i (.int .u8 0) .i64 .i64 Tryz.underlying80 Tryz.underlying3 hi hz n h0 (by omega) (by omega) (by rw[hb];omega);have HRUN:=O hrun
   have i1:¬(n:Int)<0:=by omega
   have i2:(0:Int)<n:=by omega
   have i3:(n:Int)≤1000000:=by omega
   have H0:=O h0;have HN:=O hn;clear hrun hi hz hs hb h0 hn
   go_enter Tryz.func166,Tryz.ntmps166
   go_wp2_with (at_builtin;refine Lib.wpList_append_run _ rfl (.tmp 20) (.tmp 21) 80 3 rfl _ _ rfl rfl _ _ (HRUN.out _ _) ?_;have hge:=grownCap_ge w n 0 5;have hle:=grownCap_le_maxLen w n 0 5 (by have := HN.out;unfold maxLen;omega);generalize hgc:grownCap w n 0 5=cap at hge hle;have HGE:=O hge;have HLE:=O hle;clear hge hle;have c0:¬cap=0:=(by have := HGE.out;have := H0.out;omega);have c1:(0:Int)≤cap:=(by omega))
   go_ret;refine⟨_,rfl,⟨by simp[El.flat],.inr ⟨w.heap.size,cap,_,rfl,Nat.le_refl _,heap_alloc_new _ _,Nat.zero_le _,HLE.out,?_,by simp[El.flat]⟩⟩,((Oo _ _).alloc (Nat.le_refl _) _).drew⟩;rw[Array.size_append,wB,wB];have := HGE.out
   simp
   omega
theorem xq (xs:List (List UInt8)) (j:Nat) (h:j<xs.length):(xs.take (j+1)).flatten=(xs.take j).flatten++xs[j]:=by
 rw[List.take_add_one,List.getElem?_eq_getElem h]
 show (xs.take j++[xs[j]]).flatten=_
 rw[List.flatten_append,List.flatten_cons,List.flatten_nil,List.append_nil]
theorem qv (xs:List (List UInt8)) (j:Nat):(xs.take j).flatten.length≤xs.flatten.length:=by
 conv=>rhs;rw[←List.take_append_drop j xs,List.flatten_append,List.length_append]
 omega
theorem Jh (bk cap:Nat) (xs:List (List UInt8)) (w:World) (hc:∀j (h:j<xs.length),∃v,w.cell? ⟨bk,j,none⟩=some v∧RdE eB w v xs[j]) (hbk:bk<w.heap.size) (hn:xs.length≤100) (hpos:0<xs.flatten.length) (hl:xs.flatten.length≤900000) :
  Calls Tryz.prog 118 #[.slice (some ⟨bk,0,none⟩) xs.length cap] w fun e w'=>∃v',e = .returned v'∧ap eB w' w.heap.size v' xs.flatten∧Below w.heap.size w w':=by
 have HC:=O hc;have HL:=O hl;have HP:=O hpos
 have hni:(xs.length:Int)≤100:=by omega
 clear hc hl hpos hn
 go_enter Tryz.func118,Tryz.ntmps118
 go_wp2
 go_loopw [11,3] (fun i s wr=>∃j:Nat,j≤xs.length∧i = .int .i64 j∧s = .int .i64 ((xs.take j).flatten.length:Nat)∧wr=w) (fun i _ _=>xs.length-(intOf i).toNat)
 case atStart=>exact⟨0,Nat.zero_le _,rfl,rfl,rfl⟩
 case round =>
  obtain⟨j,hj,rfl,rfl,hwr⟩:=hrel;rw[hwr];clear hwr
  by_cases hlt:j<xs.length
  ·have j1:(j:Int)<xs.length:=by omega
   obtain⟨v,cj,hv⟩:=HC.out j hlt;have HT:=O (congrArg List.length (xq xs j hlt));have hle:=qv xs (j+1);rw[HT.out] at hle;have h9:=HL.out;generalize xs[j]=x at hv HT hle;generalize (xs.take j).flatten=y at HT hle ⊢;rw[List.length_append] at HT hle
   have hs:(y.length:Int)+x.length≤900000:=by omega
   have hs0:¬(y.length:Int)+x.length<0:=by omega
   have HJ:=O hlt;obtain⟨a,c,rfl,_,_,_⟩:=hv;clear hlt hle h9;go_wp2;go_roundw
   case rel=>exact⟨j+1,HJ.out,by go_num,by rw[HT.out,Int.natCast_add],by first |exact rfl|exact trivial⟩
   case measure=>have := HJ.out;simp[intOf];omega
  ·have he:j=xs.length:=by omega
   have j1:(xs.length:Int)≤j:=by omega
   have HF:Hid ((xs.take j).flatten=xs.flatten):=O (by rw[he,List.take_length]);rw[HF.out];obtain⟨N,hN⟩:∃N,N=xs.flatten.length:=⟨_,rfl⟩;rw[←hN];have HNN:=O hN;clear he hlt hj hN
   go_wp2_with (go_at_call 166;refine(Sk N (by rw[HNN.out];exact HP.out) (by rw[HNN.out];have := HL.out;omega) _).mono ?_;rintro e w1 ⟨v1,rfl,ho1,hb1⟩;have HO1:=O ho1;have HB1:=O hb1;clear ho1 hb1)
   go_loopw [27,6] (fun i o wr=>∃k:Nat,k≤xs.length∧i = .int .i64 k∧Hid (ap eB wr w.heap.size o (xs.take k).flatten)∧Hid (Below w.heap.size w wr)) (fun i _ _=>xs.length-(intOf i).toNat)
   case atStart=>exact⟨0,Nat.zero_le _,rfl,HO1,HB1⟩
   case round =>
    obtain⟨k,hk,rfl,hown,hb⟩:=hrel
    by_cases hlt:k<xs.length
    ·have k1:(k:Int)<xs.length:=by omega
     obtain⟨v,cj,hv⟩:=HC.out k hlt;have HV:=O (hv.on hb.out)
     have ck:wr.cell? ⟨bk,k,none⟩=some v:=by rw[hb.out.cell (p:=⟨bk,k,none⟩) hbk];exact cj
     have HT:=O (xq xs k hlt);have hle:=qv xs (k+1);rw[HT.out,List.length_append] at hle;have HLE:=O (Nat.le_trans hle HL.out);generalize xs[k]=x at hv HT HLE HV;have HJ:=O hlt;clear hlt hle cj hv
     go_wp2_with (at_builtin;refine br aN rfl (.tmp 31) (.tmp 32) rfl w.heap.size _ _ rfl hown.out _ x rfl HV.out (by have := HLE.out;omega) hb.out.size ?_;intro v3 w3 ho3 hg3 _;have HO3:=O ho3;have HB3:Hid (Below w.heap.size w w3):=(O (hb.out.grown hg3 hb.out.size (fun k hk2=>(hown.out.lt k hk2).1)));clear ho3 hg3)
     go_roundw
     case rel=>exact⟨k+1,HJ.out,by go_num,O (by rw[HT.out];exact HO3.out),HB3⟩
     case measure=>have := HJ.out;simp[intOf];omega
    ·have he2:k=xs.length:=by omega
     have k1:(xs.length:Int)≤k:=by omega
     have HF2:Hid ((xs.take k).flatten=xs.flatten):=O (by rw[he2,List.take_length]);clear he2 hlt hk;go_wp2;go_ret;exact⟨_,rfl,by rw[←HF2.out];exact hown.out,hb.out⟩
end
end Go.Proofs.YtmfiaadjdbemnaaGreatDoor
