/- Contracts and lemmas. No condition. -/
import Derived.Test.YtmfiaadjdbemnaaGreatDoorSB16
import Derived.Test.YtmfiaadjdbemnaaGreatDoorSB14
set_option maxRecDepth 100000
set_option maxHeartbeats 8000000
namespace Go.Proofs.YtmfiaadjdbemnaaGreatDoor
section
open Go.RowKit Go.Shelf
theorem b7.neOld {w:World} {ai:Nat} {v:Value} {l:List K} (h:b7 w ai v l) {g:Nat} (hg:g<ai):v.ownBlock≠some g:=fun e=>by have := (World.ownsRow.lt h g e).1;omega
theorem b7.on {w w':World} {ai:Nat} {v:Value} {l:List K} (h:b7 w ai v l) (hb:Below w.heap.size w w'):b7 w' ai v l:=h.keep hb (Nat.le_refl _)
theorem b7.grown {w w':World} {ai:Nat} {v:Value} {l:List K} {row:Option Nat} (h:b7 w ai v l) (hg:w.grownBy w' row) (hne:∀g,row=some g→v.ownBlock≠some g):b7 w' ai v l:=by
 refine World.ownsRow.kept h hg ?_
 cases hv:v.ownBlock with
 | none=>exact .inl rfl
 | some g=>exact .inr fun e=>hne g e.symm (by rw[hv])
theorem b7.mono {w:World} {ai base':Nat} {v:Value} {l:List K} (h:b7 w ai v l) (hb:base'≤ai):b7 w base' v l:=World.ownsRow.mono h hb
open Go.RowKit
abbrev q8 (a b c d e f g h:UInt32):Array Value := #[.int .u32 (W32 a),.int .u32 (W32 b),.int .u32 (W32 c),.int .u32 (W32 d),.int .u32 (W32 e),.int .u32 (W32 f),.int .u32 (W32 g),.int .u32 (W32 h)]
attribute [local irreducible] Calls brow row sha gj
end
section
open Go.RowKit
def SP.ownR (B:Nat) (l:List UInt8):SP := .pred (fun v w=>ap eB w B v l) (fun _ _ _ hb h=>h.on hb)
@[go_sem] theorem Yd (x:UInt8):IntKind.i64.wrap (B8 x)=B8 x:=by rw[IntKind.wrap_i64];have := jZ x;have := kI x;omega
@[go_sem] theorem Yf (x:UInt8):wrap64 (B8 x)=B8 x:=by have := jZ x;have := kI x;unfold wrap64;omega
attribute [local irreducible] Calls vOf bF aZ
end
section
open Go.RowKit Go.Shelf
def vL:List UInt8:=[118,97,108,117,101]
def sL:List UInt8:=[115,101,101,100]
def nxV (s:List UInt8):List UInt8:=aJ s vL
def nxS (s:List UInt8):List UInt8:=aJ s sL
theorem cL (s:List UInt8):(nxV s).length=32:=cE _ _
theorem im (s:List UInt8):(nxS s).length=32:=cE _ _
def ag (s:List UInt8):Array Value := #[.string ⟨s.toArray⟩]
theorem aa {W W':World} {g:Nat} {X:Obj} (h:W.heap[g]?=some X) (hb:Below W.heap.size W W'):W'.heap[g]?=some X:=by
 rw[hb.block _ (Array.getElem?_eq_some_iff.1 h).1];exact h
theorem eP (w:World) (A B:Obj):((w.alloc A).alloc B).heap[w.heap.size]?=some A:=by
 rw[((Oo (w.alloc A).heap.size _).alloc (Nat.le_refl _) B).block _ (by simp)];exact heap_alloc_new _ _
theorem eR (w:World) (A B:Obj):((w.alloc A).alloc B).heap[w.heap.size+1]?=some B:=by
 have h:=heap_alloc_new (w.alloc A) B
 simpa using h
theorem aS (s:List UInt8):((ag s).all fun u=>u.oneCell')=true:=by simp[ag,Value.oneCell']
theorem iS {fn:Func} {p t:Tmp} {ty:TypeId} (h:fn.results = #[.tmp t,.cell p ty]) (tmps:Array Value) (w:World) (g:Nat) (x:Value)
  (hp:tmps.getD p undef = .pointer (some ⟨g,0,none⟩)) (hld:(loadVar ty ⟨g,0,none⟩).run Tryz.prog w = .ok x w) :
  (results fn tmps).run Tryz.prog w = .ok (.tuple #[tmps.getD t undef,x]) w:=by
 have hp':tmps[p]?.getD undef = .pointer (some ⟨g,0,none⟩):=by simpa using hp
 simp[results,h,hp',asAddr,hld]
attribute [local irreducible] Calls aJ
theorem M8:(Tryz.prog.info? 30).map (·.zero)=some (some (.agg (ag []))):=by kernel_rfl
theorem fi (w:World):(zeroValue 30).run Tryz.prog w = .ok (.agg (ag [])) w:=by
 have h:=M8;generalize ag []=L at h ⊢
 cases hq:Tryz.prog.info? 30 with
 | none=>rw[hq] at h;cases h
 | some i =>
   rw[hq] at h
   simp at h
   simp[zeroValue,typeInfo,hq,h]
theorem cS:(Tryz.prog.info? 30).map (·.size)=some 1:=by kernel_rfl
theorem I4 (s:List UInt8):Tryz.prog.built 30 [(0,.string ⟨s.toArray⟩)]=some (ag s):=by kernel_rfl
theorem fD (w:World) (g:Nat) (s:List UInt8) (T:TypeId) (hg:w.heap[g]?=some (.cells (ag s) T (0,0))):(loadVar 30 ⟨g,0,none⟩).run Tryz.prog w = .ok (.agg (ag s)) w :=
 run_loadVar_row w g T 30 (ag s) (0,0) _ hg Tryz.underlying30 rfl cS
theorem oS {ops:Array Oper} {rest:List Oper} {o:Oper} {a:Act} {w:World} {Q:Exit→Act→World→Prop} (s:List UInt8) (hgd:Region.wanted o (yielded ops a.tmps)=true) (x:Operand) (ho:o.op = .build 30 #[(0,x)]) (hx:a.eval x = .string ⟨s.toArray⟩)
  (h:wpList Tryz.prog ops Q rest (a.put o.dst (.agg (ag s))) w):wpList Tryz.prog ops Q (o::rest) a w :=
 wpList_step fun K hK=>by
  rw[if_pos hgd];have hr:=run_build (P:=Tryz.prog) w 30 #[(0,.string ⟨s.toArray⟩)] _ (I4 s);unfold Oper.wp execOp;simp only[ho,List.map_toArray,List.map_cons,List.map_nil,hx,hr,Sem.run_bind,Sem.run_pure,Result.andThen_ok];exact hK _ _ h
theorem tC (s:List UInt8) (w:World) (hk:KAt w) (hl:s.length≤1000000) :
  Calls Tryz.prog 33 #[.agg (ag s)] w fun e w'=>e = .returned (.tuple #[.string ⟨(nxV s).toArray⟩,.agg (ag (nxS s))])∧Below w.heap.size w w':=by
 have hz:=fi;have HL:=O hl;obtain⟨W0,hW0⟩:∃W0,W0=(w.alloc (.cells (ag s) 30)).alloc (.cells (ag []) 30):=⟨_,rfl⟩;have HW:=O hW0
 have HX:Hid (∀u,Below W0.heap.size W0 u→u.heap[w.heap.size]?=some (.cells (ag s) 30 (0,0))∧u.heap[w.heap.size+1]?=some (.cells (ag []) 30 (0,0))∧Below w.heap.size w u∧KAt u):=O (by
  intro u h;rw[hW0] at h;have h2:=dm _ _ _ h
  exact⟨by rw[h.block _ (by simp;omega)];exact eP _ _ _,by rw[h.block _ (by simp)];exact eR _ _ _,h2,hk.on h2⟩)
 have HV:Hid (aJ s vL=nxV s):=O rfl;have HS:Hid (aJ s sL=nxS s):=O rfl;have HD:=O (fun (l:List UInt8) (hl2:l.length≤1000) (y:World) (a:KAt y)=>uH s l y a (by omega) hl2);clear hW0 hk hl
 go_enter Tryz.func33,Tryz.ntmps33
 go_upto_region 1 with fail
 rw[←HW.out]
 try dsimp only[Act.put]
 refine aY 8 [[],[0],[1],[],[3],[4],[5],[2]] (SP.of [.eq (.pointer (some ⟨w.heap.size,0,none⟩)),.eq (.string ⟨s.toArray⟩),.eq (.string ⟨(nxV s).toArray⟩),.eq (.pointer (some ⟨w.heap.size,0,none⟩)),.eq (.string ⟨s.toArray⟩),.eq (.string ⟨(nxS s).toArray⟩),.eq (.agg (ag (nxS s))),.eq (.string ⟨(nxV s).toArray⟩)]) (fun i=>([undef,undef,undef,undef,undef,undef,undef,.string ⟨#[]⟩]:List Value).getD i undef) ?h1 ?h2 ?h3 ?h4 ?h5 ?h6
 case h1=>kernel_rfl
 case h2=>kernel_rfl
 case h3=>kernel_rfl
 case h4 =>
  simp only[List.take_succ_cons,List.take_zero]
  repeat (first |exact trivial|refine⟨fun vals v=>by kernel_rfl,?_⟩)
 case h5 =>
  simp only[List.take_succ_cons,List.take_zero];refine⟨?_,?_,?_,?_,?_,?_,?_,?_,trivial⟩
  all_goals (intro wq hbq vals;simp only[Nat.reduceAdd,Nat.zero_add,List.getD_cons_succ,List.getD_cons_zero];have HQ:=O (HX.out wq hbq);clear hbq;repeat (first |refine ar ?_|refine aw rfl ?_);intro Q hQ;simp only[ay,upd,Act.put,List.setIfInBounds_toArray,List.set_cons_zero,List.set_cons_succ,Nat.reduceAdd,Nat.zero_add,Nat.reduceEqDiff,if_true,if_false,reduceIte])
  case refine_3 =>
   go_wp2_with (go_at_call 64;refine(HD.out vL (by decide) _ HQ.out.2.2.2).mono ?_;rintro e x1 ⟨rfl,hx1⟩;rw[HV.out])
   exact ab hQ _ (by kernel_rfl) hx1 rfl
  case refine_6 =>
   go_wp2_with (go_at_call 64;refine(HD.out sL (by decide) _ HQ.out.2.2.2).mono ?_;rintro e x1 ⟨rfl,hx1⟩;rw[HS.out])
   exact ab hQ _ (by kernel_rfl) hx1 rfl
  case refine_7 =>
   go_wp2_with (refine oS (nxS s) rfl (.tmp 9) rfl rfl ?_)
   exact ab hQ _ (by kernel_rfl) (Oo _ _) rfl
  case refine_2 =>
   have c:wq.cell? ⟨w.heap.size,0,none⟩=some (.string ⟨s.toArray⟩):=cell_of_row _ _ _ _ _ _ HQ.out.1;go_wp2;exact ab hQ _ (by kernel_rfl) (Oo _ _) rfl
  case refine_5 =>
   have c:wq.cell? ⟨w.heap.size,0,none⟩=some (.string ⟨s.toArray⟩):=cell_of_row _ _ _ _ _ _ HQ.out.1;go_wp2;exact ab hQ _ (by kernel_rfl) (Oo _ _) rfl
  all_goals go_wp2
  all_goals exact ab hQ _ (by kernel_rfl) (Oo _ _) rfl
 case h6 =>
  intro wq hbq vals;rw[show List.range 8=[0,1,2,3,4,5,6,7] from by decide]
  repeat (first |refine ar ?_|refine aw rfl ?_)
  simp only[List.take_succ_cons,List.take_zero,List.drop_succ_cons,List.drop_zero];simp only[ay,upd,Act.put,List.setIfInBounds_toArray,List.set_cons_zero,List.set_cons_succ,Nat.reduceAdd,Nat.zero_add,Nat.reduceEqDiff,if_true,if_false,reduceIte];have HQ:=O (HX.out wq hbq);clear hbq
  go_wp2_with (refine aM (T:=30) (ag (nxS s)) cS rfl (.tmp 3) (.tmp 10) rfl (w.heap.size+1) (ag []) rfl rfl (aS _) rfl HQ.out.2.1 ?_;intro we hge hoe hbe)
  refine bodyPost_ret (iS rfl _ _ (w.heap.size+1) _ rfl (fD _ _ (nxS s) _ hge)) rfl ?_;exact⟨rfl,HQ.out.2.2.1.trans (hbe _ (by omega))⟩
end
section
namespace Fld
open Go.RowKit F6
def yZ (xs ys:List UInt8) (x:UInt8) (k:Nat):UInt8:=ms ((List.range k).map fun i=>mul (wt xs x i) (byteAt ys i))
theorem xE (xs ys:List UInt8) (x:UInt8):yZ xs ys x 0=0:=rfl
theorem xD (xs ys:List UInt8) (x:UInt8) (k:Nat):yZ xs ys x (k+1)=yZ xs ys x k ^^^ mul (wt xs x k) (byteAt ys k):=by
 simp only[yZ,List.range_succ,List.map_append,kM]
 simp[ms]
theorem Bm (xs ys:List UInt8) (x:UInt8):yZ xs ys x xs.length=interp xs ys x:=rfl
attribute [local irreducible] mul ev pp wt wts yZ interp
end Fld
end
section
namespace Fld
open Go.RowKit F6
attribute [local irreducible] mul ev pp wt wts
theorem Tk (g:Nat) (v:Value) (xs:List UInt8) (i:Nat) (x:UInt8) (w:World) (hg:w.cell? ⟨g,0,none⟩=some v) (hv:RdB w v xs) (hi:i<xs.length) :
  Calls Tryz.prog 188 #[.int .i64 i,.int .u8 (B8 x),.pointer (some ⟨g,0,none⟩)] w fun e w'=>e = .returned (.int .u8 (B8 (pp xs i x xs.length)))∧w'=w:=by
 obtain⟨a,cap,rfl,hl,hcap,hcells⟩:=hv;unfold maxLen at hcap;obtain⟨b,off,rfl,hbl,hc⟩:=hcells (by omega)
 go_enter Tryz.func188,Tryz.ntmps188
 go_wp2
 go_loop [6,11] (fun p j=>∃k:Nat,k≤xs.length∧j = .int .i64 k∧p = .int .u8 (B8 (pp xs i x k))) (fun _ j=>xs.length-(intOf j).toNat)
 case atStart=>exact⟨0,Nat.zero_le _,rfl,by rw[zo];rfl⟩
 case round =>
  obtain⟨k,hk,rfl,rfl⟩:=hrel
  by_cases hlt:k<xs.length
  ·have c1:=hc k hlt
   have i1:(k:Int)<xs.length:=by omega
   have HK:=O hlt
   by_cases hki:k=i
   ·have s1:=zm xs i x hi
    have S1:=O s1
    have hne:((k:Int) == i)=true:=by rw[beq_iff_eq];omega
    have HKI:=O hki;clear s1 hki;go_wp2
    go_round
    case rel=>exact⟨k+1,HK.out,by go_num,by rw[HKI.out,S1.out]⟩
    case measure=>have := HK.out;simp[intOf];omega
   ·have s1:=zn xs i x k hlt hki
    have S1:=O s1
    have hne:((k:Int) == i)=false:=by rw[beq_eq_false_iff_ne];omega
    clear s1 hki
    go_wp2_with (go_at_call 156;refine(xK _ _ _).mono ?_;rintro e _ ⟨rfl,rfl⟩)
    go_round
    case rel=>exact⟨k+1,HK.out,by go_num,by rw[S1.out]⟩
    case measure=>have := HK.out;simp[intOf];omega
  ·have he:k=xs.length:=by omega
   have HE:=O he
   have i1:(xs.length:Int)≤k:=by omega
   clear he;go_wp2;go_ret;exact⟨by rw[HE.out];rfl,rfl⟩
end Fld
end
section
namespace Fld
open Go.RowKit
structure BAt (w:World) (g:Nat) (l:List UInt8):Prop where
 lt:g<w.heap.size
 cells:w.heap[g]?=some (.cells (brow l) 5 (0,0))
theorem BAt.keep {w w':World} {g:Nat} {l:List UInt8} (h:BAt w g l) {B:Nat} (hb:Below B w w') (hB:g<B):BAt w' g l :=
 ⟨Nat.lt_of_lt_of_le h.lt hb.size,by rw[hb.block _ hB];exact h.cells⟩
theorem BAt.drew {w:World} {g:Nat} {l:List UInt8} (n:Nat) (h:BAt w g l):BAt (w.drewN n) g l :=
 h.keep (B:=w.heap.size) (ak n (Oo _ _)) h.lt
theorem BAt.at {w:World} {g:Nat} {l:List UInt8} (h:BAt w g l) (i:Nat) (hi:i<l.length):w.cell? ⟨g,i,none⟩=some (.int .u8 (B8 (byteAt l i))):=by
 rw[cell_of_row _ _ _ _ _ _ h.cells,As _ _ hi]
theorem BAt.own {w:World} {g ai:Nat} {l:List UInt8} (h:BAt w g l) (hb:ai≤g) (hl:l.length≤maxLen):cR w ai (.slice (some ⟨g,0,none⟩) l.length l.length) l :=
 ⟨by simp[bv],.inr ⟨g,l.length,brow l,rfl,hb,h.cells,Nat.le_refl _,hl,by simp[brow],by simp only[brow,bv,Nat.mul_one];exact List.take_of_length_le (by simp)⟩⟩
theorem setCell_row (w:World) (g i:Nat) (cs:Array Value) (T:TypeId) (fr:Nat × Nat) (v:Value) (h:w.heap[g]?=some (.cells cs T fr)):w.setCell ⟨g,i,none⟩ v=w.setRow g (cs.setIfInBounds i v):=by
 unfold World.setCell World.setRow;simp only[World.mk.injEq,and_true]
 apply Array.ext_getElem?
 intro j;simp only[Array.getElem?_modify]
 by_cases h':g=j
 ·subst h'
  simp[h]
 ·simp[h']
theorem BAt.free {w:World} {g:Nat} {l:List UInt8} (h:BAt w g l) (k:Nat):w.frozen? ⟨g,k,none⟩=false:=by
 simp[World.frozen?,h.cells]
theorem BAt.set {w:World} {g:Nat} {l:List UInt8} (h:BAt w g l) (k:Nat) (x:UInt8):BAt (w.setCell ⟨g,k,none⟩ (.int .u8 (B8 x))) g (l.set k x):=by
 refine⟨by rw[setCell_row _ _ _ _ _ _ _ h.cells];simpa [World.setRow] using h.lt,?_⟩;rw[setCell_row _ _ _ _ _ _ _ h.cells,setRow_heap _ _ _ _ _ _ h.cells,qd]
theorem mk_full {w:World} {ops:Array Oper} {rest:List Oper} {o:Oper} {a:Act} {Q:Exit→Act→World→Prop} (hgd:o.guard=none) (l c:Operand) (hop:o.op=Op.makeSlice 80 l c)
  (n:Nat) (hl:a.eval l = .int .i64 (n:Int)) (hc:a.eval c = .int .i64 (n:Int)) (hn:n≤1000000000)
  (h:∀w',BAt w' w.heap.size (List.replicate n 0)→Below w.heap.size w w'→wpList Tryz.prog ops Q rest (a.put o.dst (.slice (some ⟨w.heap.size,0,none⟩) n n)) w'):wpList Tryz.prog ops Q (o::rest) a w:=by
 obtain⟨i0,hi,hz0,hz1,hz2⟩:=info_parts sH;refine wpList_make_full w hgd l c 80 hop w.heap.size 5 i0 (.int .u8 0) 1 Tryz.underlying80 hi hz0 hz1 .i64 .i64 n n n hl hc rfl rfl (by rw[hz2];omega) (by unfold maxLen;omega) (Nat.le_refl _) ?_;intro w' h1 h2;refine h w' ?_ ((Oo _ w).grown h2 (Nat.le_refl _) (fun k hk=>by cases hk))
 rcases h1.2 with⟨e,_⟩|⟨g,cap,cur,e,_,hg,h3,_,h5,h6⟩
 ·cases e
 ·simp only[Value.slice.injEq,Option.some.injEq,Addr.mk.injEq,and_true,true_and] at e
  obtain⟨e1,e2⟩:=e;subst e1 e2
  have hcur:cur=brow (List.replicate n 0):=by
   apply Array.ext'
   rw[List.take_of_length_le (by rw[Array.length_toList,h5];exact Nat.le_refl _)] at h6;rw[h6]
   apply List.ext_getElem (by simp[madeCells,brow])
   intro i h7 h8
   simp[madeCells,brow,Value.cells]
   rw[Nat.mod_one]
   rfl
  rw[hcur] at hg;exact⟨(Array.getElem?_eq_some_iff.1 hg).1,hg⟩
end Fld
end
section
namespace Fld
open Go.RowKit F6
def mD (xs:List UInt8) (x:UInt8) (k:Nat):List UInt8:=wts xs x k++List.replicate (xs.length-k) 0
theorem DV (xs:List UInt8) (x:UInt8):mD xs x 0=List.replicate xs.length 0:=by simp[mD,wts]
theorem Ie (xs:List UInt8) (x:UInt8):mD xs x xs.length=wts xs x xs.length:=by simp[mD]
theorem Ig (xs:List UInt8) (x:UInt8) (k:Nat) (h:k≤xs.length):(mD xs x k).length=xs.length:=by simp[mD,rm];omega
theorem Ih (xs:List UInt8) (x:UInt8) (k:Nat) (h:k<xs.length):(mD xs x k).set k (wt xs x k)=mD xs x (k+1):=by
 have e:xs.length-k=(xs.length-(k+1))+1:=by omega
 rw[mD,e,List.replicate_succ,List.set_append]
 simp[rm,mD,Cq]
theorem IU {w w1:World} {v:Value} {T:TypeId} (hb:Below (w.alloc (.cells #[v] T)).heap.size (w.alloc (.cells #[v] T)) w1):w1.cell? ⟨w.heap.size,0,none⟩=some v:=by
 rw[hb.cell (p:=⟨w.heap.size,0,none⟩) (by simp),cell_of_row _ _ _ _ _ _ (heap_alloc_new _ _)]
 rfl
attribute [local irreducible] mul ev pp wt wts mD
theorem JV {w:World} {b off n cap:Nat} {l:List UInt8} (h:RdB w (.slice (some ⟨b,off,none⟩) n cap) l) (i:Nat) (hi:i<l.length):w.cell? ⟨b,off+i,none⟩=some (.int .u8 (B8 (byteAt l i))):=by
 obtain⟨a,c,e,_,_,hc⟩:=h;obtain⟨b2,off2,rfl,_,hc⟩:=hc (by omega);simp only[Value.slice.injEq,Option.some.injEq,Addr.mk.injEq,and_true] at e;obtain⟨⟨rfl,rfl⟩,_,_⟩:=e;exact hc i hi
theorem yr (v:Value) (xs:List UInt8) (x:UInt8) (w:World) (hv:RdB w v xs) (hok:okX xs=true) :
  Calls Tryz.prog 173 #[v,.int .u8 (B8 x)] w fun e w'=>∃u,e = .returned (.tuple #[u,.int .i64 0])∧cR w' w.heap.size u (wts xs x xs.length)∧Below w.heap.size w w':=by
 obtain⟨hnd,hl1,hl2⟩:=nQ hok;have HND:=O hnd;have hmf:∀(fn:Fn) (first cap:Array Value) (w:World),(Instr.makeFunc fn first cap).run Tryz.prog w = .ok (.func fn first cap) w:=fun _ _ _ _=>rfl;have hv2:RdB (w.alloc (.cells #[v] 80)) v xs:=hv.keep ((Oo _ _).alloc (Nat.le_refl _) _) (Nat.le_refl _);have HV:=O hv2;have hdist:=fun w' hv=>uJ v xs w' hv;rw[hok] at hdist;have HD:=O hdist;clear hok hnd hdist hv2;obtain⟨a,cap,rfl,hl,hcap,hcells⟩:=hv;unfold maxLen at hcap;obtain⟨b,off,rfl,hbl,hc⟩:=hcells (by omega);clear hcells
 go_enter Tryz.func173,Tryz.ntmps173
 go_wp2_with (first
  |(go_at_call 187;refine(HD.out _ HV.out).mono ?_;rintro e w1 ⟨rfl,hb1⟩;have hbox:=IU hb1)
  |(at_make;refine mk_full rfl _ _ rfl xs.length rfl rfl ?hm1 ?hm2))
 case hm1=>omega
 case hm2 =>
  intro w2 hat hb2
  have hbox2:w2.cell? ⟨w.heap.size,0,none⟩=some (.slice (some ⟨b,off,none⟩) xs.length cap):=by
   rw[hb2.cell (p:=⟨w.heap.size,0,none⟩) (World.block_lt_of_cell? _ _ hbox)];exact hbox
  go_wp2
  have hvr2:∀w3,Below w1.heap.size w2 w3→RdB w3 (.slice (some ⟨b,off,none⟩) xs.length cap) xs:=by
   intro w3 hb3;have h1:=(HV.out.keep hb1 (Nat.le_refl _)).keep hb2 (Nat.le_refl _);refine⟨_,cap,rfl,hl,by unfold maxLen;omega,fun _=>⟨b,off,rfl,?_,?_⟩⟩
   ·have h4:=hb1.size
    have h5:=hb2.size;have h6:=hb3.size;simp only[World.size_alloc] at h4
    show b<w3.heap.size
    omega
   ·intro i hi
    have hb1s:=hb1.size;simp only[World.size_alloc] at hb1s;rw[hb3.cell (p:=⟨b,off+i,none⟩) (by show b<_;omega),hb2.cell (p:=⟨b,off+i,none⟩) (by show b<_;omega),hb1.cell (p:=⟨b,off+i,none⟩) (by show b<_;simp;omega)];rw[((Oo w.heap.size w).alloc (Nat.le_refl _) (.cells #[.slice (some ⟨b,off,none⟩) xs.length cap] 80)).cell (p:=⟨b,off+i,none⟩) hbl];exact hc i hi
  have hbw:Below w.heap.size w w2:=((Oo _ _).alloc (Nat.le_refl _) _).trans ((hb1.mono (by simp)).trans (hb2.mono (by have := hb1.size;simp only[World.size_alloc] at this;omega)));have hs1:w.heap.size<w1.heap.size:=World.block_lt_of_cell? _ _ hbox;have HH:=O hvr2;clear hvr2
  go_loopw [19] (fun i wr=>∃k:Nat,k≤xs.length∧i = .int .i64 k∧BAt wr w1.heap.size (mD xs x k)∧Below w1.heap.size w2 wr) (fun i _=>xs.length-(intOf i).toNat)
  case atStart=>exact⟨0,Nat.zero_le _,rfl,by rw[DV];exact hat,Oo _ _⟩
  case round =>
   clear hat
   obtain⟨k,hk,rfl,hat,hb⟩:=hrel;have hwl:=Ig xs x k hk
   by_cases hlt:k<xs.length
   ·have hvr:=HH.out wr hb
    have hboxr:wr.cell? ⟨w.heap.size,0,none⟩=some (.slice (some ⟨b,off,none⟩) xs.length cap):=by
     rw[hb.cell (p:=⟨w.heap.size,0,none⟩) hs1];exact hbox2
    have cx:=JV hvr k hlt;have hne:=Rc xs k HND.out hlt;have hpw:=Rd xs k x;have hst:=Ih xs x k hlt
    have i1:(k:Int)<xs.length:=by omega
    have HK:=O hlt;have HP:=O hpw;have HS:=O hst;have HVR:=O hvr;have hz:=hat.lt;clear hpw hst hvr
    go_wp2_with (first
     |(go_at_call 188;refine(Tk _ _ xs k _ _ hboxr HVR.out HK.out).mono ?_;rintro e _ ⟨rfl,rfl⟩)
     |(go_at_call 189;refine(VD _ _ hne _).mono ?_;rintro e w4 ⟨rfl,hb4⟩;rw[HP.out];have hat4:=hat.keep hb4 hz;have c4:=hat4.at k (by rw[hwl];exact HK.out);have f4:=hat4.free k))
    go_roundw
    case rel=>exact⟨k+1,HK.out,by go_num,by rw[←HS.out];exact hat4.set k _,(hb.trans (hb4.mono (by omega))).setCell (Nat.le_refl _) _⟩
    case measure=>have := HK.out;simp[intOf];omega
   ·have he:k=xs.length:=by omega
    have HE:=O he
    have i1:(xs.length:Int)≤k:=by omega
    have ho:=hat.own (ai:=w.heap.size) (by omega) (by rw[hwl];unfold maxLen;omega);rw[hwl] at ho;clear he;go_wp2
    go_ret2
    refine⟨_,rfl,?_,hbw.trans (hb.mono (by omega))⟩;have ho2:=ho;rw[HE.out,Ie] at ho2;rw[HE.out];exact ho2
end Fld
end
section
namespace Fld
open Go.RowKit F6
attribute [local irreducible] mul ev pp wt wts yZ interp
theorem interp_c (v u:Value) (xs ys:List UInt8) (x:UInt8) (w:World) (hv:RdB w v xs) (hu:RdB w u ys) (hok:okX xs=true) (hl:xs.length=ys.length) :
  Calls Tryz.prog 142 #[v,u,.int .u8 (B8 x)] w fun e w'=>e = .returned (.tuple #[.int .u8 (B8 (interp xs ys x)),.int .i64 0])∧Below w.heap.size w w':=by
 obtain⟨hnd,hl1,hl2⟩:=nQ hok;have hwt:=fun w' hv=>yr v xs x w' hv hok;have HWT:=O hwt;have HV:=O hv;have HU:=O hu;clear hok hnd hwt;obtain⟨a,cap,rfl,_,_,_⟩:=hv;obtain⟨a2,cap2,rfl,_,_,hcells2⟩:=hu;obtain⟨b2,off2,rfl,hb2,hc2⟩:=hcells2 (by omega);have hwl:=rm xs x xs.length
 have hne:((xs.length:Int) == ys.length)=true:=by rw[beq_iff_eq];omega
 have hne2:((xs.length:Int) != ys.length)=false:=by rw[bne,hne];rfl
 have HWL:=O hwl;have HL:=O hl;clear hcells2 hwl hl
 go_enter Tryz.func142,Tryz.ntmps142
 go_wp2_with (go_at_call 173;refine(HWT.out _ HV.out).mono ?_;rintro e w1 ⟨q,rfl,ho,hb⟩;obtain⟨qa,qcap,rfl,_,_,hq⟩:=ho.opened HWL.out)
 obtain⟨g,rfl,hg1,hg2,hqc⟩:=hq (by omega);have hbs:=hb.size;clear hq
 go_loopw [10,30] (fun o i wr=>∃k:Nat,k≤xs.length∧i = .int .i64 k∧o = .int .u8 (B8 (yZ xs ys x k))∧∃n,wr=w1.drewN n) (fun _ i _=>xs.length-(intOf i).toNat)
 case atStart=>exact⟨0,Nat.zero_le _,rfl,by rw[xE];rfl,0,rfl⟩
 case round =>
  obtain⟨k,hk,rfl,rfl,n,rfl⟩:=hrel
  by_cases hlt:k<xs.length
  ·have c1:=hqc k hlt
   have c2:w1.cell? ⟨b2,off2+k,none⟩=some (.int .u8 (B8 (byteAt ys k))):=by rw[hb.cell (p:=⟨b2,off2+k,none⟩) hb2];exact hc2 k (by have := HL.out;omega)
   have i1:(k:Int)<xs.length:=by omega
   have i2:(k:Int)<ys.length:=by have := HL.out;omega
   have i3:k<ys.length:=by have := HL.out;omega
   have hs:=xD xs ys x k;have HS:=O hs;have HK:=O hlt;clear hs
   go_wp2_with (go_at_call 156;refine(xK _ _ _).mono ?_;rintro e _ ⟨rfl,rfl⟩)
   go_roundw
   case rel=>exact⟨k+1,HK.out,by go_num,by rw[HS.out];try rw[ME xs x xs.length k HK.out],_,rfl⟩
   case measure=>have := HK.out;simp[intOf];omega
  ·have he:k=xs.length:=by omega
   have HE:=O he
   have i1:(xs.length:Int)≤k:=by omega
   have i2:(ys.length:Int)≤k:=by have := HL.out;omega
   clear he;go_wp2
   go_ret2
   exact⟨by rw[HE.out,Bm];rfl,ak _ hb⟩
end Fld
end
end Go.Proofs.YtmfiaadjdbemnaaGreatDoor
