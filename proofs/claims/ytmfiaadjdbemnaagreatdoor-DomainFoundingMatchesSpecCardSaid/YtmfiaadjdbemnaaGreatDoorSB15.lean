/- Contracts and lemmas. No condition. -/
import Derived.Test.YtmfiaadjdbemnaaGreatDoorSB14
set_option maxRecDepth 100000
set_option maxHeartbeats 8000000
namespace Go.Proofs.YtmfiaadjdbemnaaGreatDoor
section
open Go.RowKit Go.Shelf
def tlc:Option (List UInt8)→List Value
 | none=>[]
 | some h=>[.string ⟨h.toArray⟩]
def rc (v:Value) (e:Int) (tl:Option (List UInt8)):Array Value:=(v :: .int .i64 e::tlc tl).toArray
theorem s9 (v:Value) (e:Int) (tl:Option (List UInt8)):(rc v e tl)[0]?=some v:=rfl
theorem gy (v:Value) (e:Int) (tl:Option (List UInt8)):(rc v e tl)[1]?=some (.int .i64 e):=rfl
theorem tJ (v v':Value) (e:Int) (tl:Option (List UInt8)):(rc v e tl).setIfInBounds 0 v'=rc v' e tl:=by unfold rc;simp
theorem jx (v:Value) (e e':Int) (tl:Option (List UInt8)):(rc v e tl).setIfInBounds 1 (.int .i64 e')=rc v e' tl:=by unfold rc;simp
def RS (w:World) (g:Nat) (T:TypeId) (tl:Option (List UInt8)) (rest:List UInt8) (e:Int):Prop :=
 ∃v,w.heap[g]?=some (.cells (rc v e tl) T (0,0))∧RdE eB w v rest
theorem Lf {a:Option Addr} {n c:Nat} {e:Int} {tl:Option (List UInt8)} (j:Nat) (x:UInt8):(rc (.slice a n c) e tl)[j]? ≠ some (.int .u8 (B8 x)):=by
 intro h;unfold rc at h;rw[List.getElem?_toArray] at h;have hm:=List.mem_of_getElem? h
 cases tl <;> simp[tlc] at hm
theorem RdE.grownK {α:Type} {E:El α} (hE:E.OK) {w w':World} {v:Value} {l:List α} {g:Nat} {cs:Array Value} {T:TypeId} {fr:Nat × Nat} (h:RdE E w v l) (hg:w.grownBy w' (some g)) (aO:w.heap[g]?=some (.cells cs T fr))
  (hno:∀x∈l,∀(j:Nat) (u:Value),(E.cf x)[0]?=some u→cs[j]? ≠ some u):RdE E w' v l:=by
 obtain⟨a,cap,rfl,h1,h2,h3⟩:=h;refine⟨a,cap,rfl,h1,h2,fun h0 => ?_⟩;obtain⟨b,off,rfl,hlt,hc⟩:=h3 h0
 have hne:b≠g:=by
  intro e;subst e;have h4:=El.flat_at hE l 0 0 h0 hE.pos
  have h5:0<(E.cf l[0]).length:=by rw[hE.len];exact hE.pos
  rw[List.getElem?_eq_getElem h5] at h4;have h6:=hc _ _ h4;rw[cell_of_row _ _ _ _ _ _ aO] at h6;exact hno l[0] (List.getElem_mem h0) _ _ (List.getElem?_eq_getElem h5) h6
 exact⟨b,off,rfl,Nat.lt_of_lt_of_le hlt hg.size,fun j u hu=>by
  rw[World.cell?_of_block (a:=⟨b,off+j,none⟩) (hg.block b hlt (fun e=>hne (Option.some.inj e)))]
  exact hc j u hu⟩
theorem bg {w w1 w2:World} {g:Nat} (h1:w.grownBy w1 (some g)) (h2:w1.grownBy w2 (some g)):w.grownBy w2 (some g) :=
 ⟨h2.os.trans h1.os,h2.tape.trans h1.tape,h2.output.trans h1.output,Nat.le_trans h1.size h2.size,fun k hk hne=>(h2.block k (Nat.lt_of_lt_of_le hk h1.size) hne).trans (h1.block k hk hne)⟩
theorem grownB {w w1:World} (g:Nat) (h:Below w.heap.size w w1):w.grownBy w1 (some g):=⟨h.os,h.tape,h.output,h.size,fun k hk _=>h.block k hk⟩
theorem iV {w w1:World} {g B:Nat} (h:w.grownBy w1 (some g)) (hB:B≤g) (hs:g<w.heap.size):Below B w w1:=⟨h.os,h.tape,h.output,h.size,fun k hk=>h.block k (by omega) (fun e=>by cases e;omega)⟩
theorem aD (w:World) (g:Nat) (cs:Array Value):w.grownBy (w.setRow g cs) (some g) :=
 ⟨rfl,rfl,rfl,(aK (B:=g) (Nat.le_refl _)).size,fun k _ hne=>aj _ _ _ _ (fun e=>hne (by rw[e]))⟩
theorem kE (w:World) (g:Nat) (cs:Array Value):(w.setRow g cs).heap.size=w.heap.size:=by unfold World.setRow;simp
attribute [local irreducible] Calls rc
theorem dK (g:Nat) (T:TypeId) (tl:Option (List UInt8)) (v:Value) (e:Int) (ok:Bool) (e2:Int) (w:World) (h1:w.heap[g]?=some (.cells (rc v e tl) T (0,0))) :
  Calls Tryz.prog 92 #[.pointer (some ⟨g,0,none⟩),.bool ok,.int .i64 e2] w fun en w'=>en = .returned (.bool (decide ((if e=0∧ok=false then e2 else e)=0)))∧w'=if e=0∧ok=false then w.setRow g (rc v e2 tl) else w:=by
 have c1:w.cell? ⟨g,1,none⟩=some (.int .i64 e):=by rw[cell_of_row _ _ _ _ _ _ h1];exact gy v e tl
 have f1:=frozen_of_row _ _ 1 _ _ h1;have H1:=O h1
 by_cases he:e=0
 ·subst he
  cases ok with
  | true =>
    have hif:(if (0:Int)=0∧true=false then e2 else 0)=0:=by simp
    have hif2:(if (0:Int)=0∧true=false then w.setRow g (rc v e2 tl) else w)=w:=by simp
    rw[hif,hif2];clear h1 hif hif2
    go_enter Tryz.func92,Tryz.ntmps92
    go_wp2;go_ret;exact⟨rfl,rfl⟩
  | false =>
    have hif:(if (0:Int)=0∧false=false then e2 else 0)=e2:=by simp
    have hif2:(if (0:Int)=0∧false=false then w.setRow g (rc v e2 tl) else w)=w.setRow g (rc v e2 tl):=by simp
    rw[hif,hif2];have HR:Hid (w.setCell ⟨g,1,none⟩ (.int .i64 e2)=w.setRow g (rc v e2 tl)):=O (by rw[au _ _ _ _ _ _ _ h1,jx])
    have c2:(w.setRow g (rc v e2 tl)).cell? ⟨g,1,none⟩=some (.int .i64 e2):=by rw[cell_of_row _ _ _ _ _ _ (setRow_heap _ _ _ _ _ _ h1)];exact gy v e2 tl
    rw[←HR.out] at c2;clear h1 hif hif2
    by_cases h20:e2=0
    ·subst h20
     go_enter Tryz.func92,Tryz.ntmps92
     go_wp2;go_ret;rw[HR.out];exact⟨rfl,rfl⟩
    ·have i1:(e2 == 0)=false:=by simpa using h20
     have HD:Hid (decide (e2=0)=false):=O (decide_eq_false h20)
     go_enter Tryz.func92,Tryz.ntmps92
     go_wp2;go_ret;rw[HR.out];exact⟨by rw[HD.out];rfl,rfl⟩
 ·have hif:(if e=0∧ok=false then e2 else e)=e:=by rw[if_neg (fun h=>he h.1)]
  have hif2:(if e=0∧ok=false then w.setRow g (rc v e2 tl) else w)=w:=by rw[if_neg (fun h=>he h.1)]
  rw[hif,hif2]
  have i1:(e == 0)=false:=by simpa using he
  have HD:Hid (decide (e=0)=false):=O (decide_eq_false he);clear h1 hif hif2
  go_enter Tryz.func92,Tryz.ntmps92
  go_wp2;go_ret;exact⟨by rw[HD.out];rfl,rfl⟩
end
section
open Go.RowKit Go.Shelf
def z16:List UInt8:=List.replicate 16 0
def bz (b:List UInt8):List UInt8 × Nat × Int:=if b.length<16 then (z16,0,5) else (b.take 16,16,0)
theorem cy {fn:Func} {p t u:Tmp} {ty:TypeId} (h:fn.results = #[.cell p ty,.tmp t,.tmp u]) (tmps:Array Value) (w:World) (g:Nat) (x:Value)
  (hp:tmps.getD p undef = .pointer (some ⟨g,0,none⟩)) (hld:(loadVar ty ⟨g,0,none⟩).run Tryz.prog w = .ok x w) :
  (results fn tmps).run Tryz.prog w = .ok (.tuple #[x,tmps.getD t undef,tmps.getD u undef]) w:=by
 have hp':tmps[p]?.getD undef = .pointer (some ⟨g,0,none⟩):=by simpa using hp
 simp[results,h,hp',asAddr,hld]
theorem aA {fn:Func} {p t:Tmp} {ty:TypeId} (h:fn.results = #[.cell p ty,.tmp t]) (tmps:Array Value) (w:World) (g:Nat) (x:Value)
  (hp:tmps.getD p undef = .pointer (some ⟨g,0,none⟩)) (hld:(loadVar ty ⟨g,0,none⟩).run Tryz.prog w = .ok x w) :
  (results fn tmps).run Tryz.prog w = .ok (.tuple #[x,tmps.getD t undef]) w:=by
 have hp':tmps[p]?.getD undef = .pointer (some ⟨g,0,none⟩):=by simpa using hp
 simp[results,h,hp',asAddr,hld]
theorem aF (d:List UInt8):(am d).size=16:=rfl
theorem iY (d:List UInt8):(am d).all (·.oneCell')=true:=by
 have h1:∀d i,(aq d i).oneCell'=true:=fun _ _=>rfl;unfold am
 simp[h1]
theorem nK (d:List UInt8) (j:Nat) (u:Value) (h:(am d).toList[j]?=some u):j<16∧u=aq d j:=by
 have e:am d=((List.range 16).map (aq d)).toArray:=rfl;rw[e] at h
 simp at h
 obtain⟨k,hk,rfl⟩:=h;rw[List.getElem?_eq_some_iff] at hk;obtain⟨h1,h2⟩:=hk
 simp at h1 h2
 exact⟨h1,by rw[h2]⟩
theorem Ik:(Tryz.prog.info? 23).map (·.zero)=some (some (.agg (am z16))):=by kernel_rfl
theorem ja (w:World):(zeroValue 23).run Tryz.prog w = .ok (.agg (am z16)) w:=by
 have h:=Ik;generalize am z16=L at h ⊢
 cases hq:Tryz.prog.info? 23 with
 | none=>rw[hq] at h;cases h
 | some i =>
   rw[hq] at h
   simp at h
   simp[zeroValue,typeInfo,hq,h]
theorem qQ (w:World) (g:Nat) (d:List UInt8) (T:TypeId) (hg:w.heap[g]?=some (.cells (am d) T (0,0))):(loadVar 23 ⟨g,0,none⟩).run Tryz.prog w = .ok (.agg (am d)) w :=
 run_loadVar_row w g T 23 (am d) (0,0) _ hg Tryz.underlying23 rfl (by rw[aF];exact cC)
theorem vV {ops:Array Oper} {rest:List Oper} {o:Oper} {a:Act} {w:World} {Q:Exit→Act→World→Prop} (d:List UInt8) (hgd:o.guard=none) (x y:Operand) (ho:o.op = .store 23 x y)
  (g:Nat) (hx:a.eval x = .pointer (some ⟨g,0,none⟩)) (hy:a.eval y = .agg (am d)) (T:TypeId) (old:Array Value) (hg:w.heap[g]?=some (.cells old T (0,0))) (hold:old.size=16)
  (h:wpList Tryz.prog ops Q rest (a.put o.dst undef) (w.setRow g (am d))):wpList Tryz.prog ops Q (o::rest) a w :=
 wpList_store_row hgd _ x y ho g (am d) hx hy T old hg (by rw[aF];exact cC) (by rw[aF,hold]) (iY d) h
theorem Li {w:World} {bb off cap:Nat} {b:List UInt8} (hv:RdE eB w (.slice (some ⟨bb,off,none⟩) b.length cap) b) (hb:b.length=16):w.rangeAt bb off (am b).toList:=by
 obtain⟨b2,off2,e,_,hc⟩:=fp hv (by omega)
 cases e
 intro j u hu;obtain⟨h1,rfl⟩:=nK b j u hu;exact hc j (by omega)
theorem uE (b:List UInt8) (i:Nat) (h:i<16):aq (b.take 16) i=aq b i:=by
 unfold aq byteAt;rw[List.getD_eq_getElem?_getD,List.getD_eq_getElem?_getD,List.getElem?_take,if_pos h]
theorem D9 (p:Addr) (c:Nat) (w:World):(Instr.arrayAt 23 (.slice (some p) 16 c)).run Tryz.prog w = .ok (.pointer (some p)) w:=by
 kernel_rfl
attribute [local irreducible] Calls am
theorem Jt (v:Value) (b:List UInt8) (w:World) (hv:RdE eB w v b) :
  Calls Tryz.prog 136 #[v] w fun e w'=>e = .returned (.tuple #[.agg (am (bz b).1),.int .i64 (bz b).2.1,.int .i64 (bz b).2.2])∧Below w.heap.size w w':=by
 have hz:=ja;have har:=D9;have HR0:Hid ((w.alloc (.cells (am z16) 23)).heap[w.heap.size]?=some (.cells (am z16) 23 (0,0))):=O (al _ _ _ rfl);have HB0:Hid (Below w.heap.size w (w.alloc (.cells (am z16) 23))):=O ((Oo _ _).alloc (Nat.le_refl _) _);have HV:=O (hv.alloc (.cells (am z16) 23));have hlen:=V7 HV.out 3
 by_cases h:b.length<16
 ·have HD:Hid (bz b=(z16,0,5)):=O (if_pos h)
  have i1:(b.length:Int)<16:=by omega
  obtain⟨a,cap,rfl,_,_,_⟩:=hv;clear h hlen
  go_enter Tryz.func136,Tryz.ntmps136
  go_wp2_with (first
   |(refine wpList_load_row rfl 23 (.tmp 2) rfl w.heap.size rfl _ (am z16) (0,0) _ HR0.out Tryz.underlying23 rfl (by rw[aF];exact cC) ?_)
   |(refine vV z16 rfl (.tmp 2) (.tmp 8) rfl w.heap.size rfl rfl _ _ HR0.out (aF _) ?_))
  refine bodyPost_ret (cy rfl _ _ w.heap.size _ rfl (qQ _ _ z16 _ (al _ _ _ rfl))) rfl ?_;exact⟨by rw[HD.out];rfl,(Oo _ _).alloc (Nat.le_refl _) _⟩
 ·have HD:Hid (bz b=(b.take 16,16,0)):=O (if_neg h)
  have i1:¬(b.length:Int)<16:=by omega
  have hl16:(b.take 16).length=16:=by rw[List.length_take];omega
  obtain⟨vs,hs,hrs⟩:=PH HV.out 16 (by omega);have hrs2:=hrs;obtain⟨a2,cap2,rfl,hc2,_,hx2⟩:=hrs;obtain⟨bb,off,rfl,hbl,_⟩:=hx2 (by omega);have HRG:=O (Li hrs2 hl16);rw[hl16] at hs hc2;have hs':(Instr.slice 80 v none (some (.int .i64 16)) none).run Tryz.prog (w.alloc (.cells (am z16) 23)) = .ok (.slice (some ⟨bb,off,none⟩) 16 cap2) (w.alloc (.cells (am z16) 23)):=hs;obtain⟨a,cap,hvf,_,_,_⟩:=hv;have HDD:Hid (am (b.take 16)=am (bz b).1):=O (by rw[HD.out]);rw[hvf] at hs' hlen ⊢;clear h hlen hs hrs2 hl16 hx2
  go_enter Tryz.func136,Tryz.ntmps136
  go_wp2_with (first
   |(refine Dh (b.take 16) bb off HRG.out rfl (.tmp 11) rfl rfl ?_)
   |(refine vV (b.take 16) rfl (.tmp 2) (.tmp 12) rfl w.heap.size rfl rfl _ _ HR0.out (aF _) ?_))
  refine bodyPost_ret (cy rfl _ _ w.heap.size _ rfl (qQ _ _ (b.take 16) _ (al _ _ _ rfl))) rfl ?_;exact⟨by rw[HD.out];rfl,(Oo _ _).alloc (Nat.le_refl _) _⟩
end
section
open Go.RowKit Go.Shelf
section
variable {α:Type}
def rdV (z:α) (dec:List UInt8→α × Nat × Int) (rest:List UInt8) (e:Int):α:=if e≠0∨(dec rest).2.2≠0 then z else (dec rest).1
def rdR (dec:List UInt8→α × Nat × Int) (rest:List UInt8) (e:Int):List UInt8:=if e≠0∨(dec rest).2.2≠0 then rest else rest.drop (dec rest).2.1
def rdX (dec:List UInt8→α × Nat × Int) (rest:List UInt8) (e:Int):Int:=if e≠0 then e else (dec rest).2.2
theorem fM (z:α) (dec:List UInt8→α × Nat × Int) (rest:List UInt8) (e:Int):(e≠0∧rdV z dec rest e=z∧rdR dec rest e=rest∧rdX dec rest e=e) ∨
  (e=0∧(dec rest).2.2≠0∧rdV z dec rest e=z∧rdR dec rest e=rest∧rdX dec rest e=(dec rest).2.2) ∨
  (e=0∧(dec rest).2.2=0∧rdV z dec rest e=(dec rest).1∧rdR dec rest e=rest.drop (dec rest).2.1∧rdX dec rest e=0):=by
 unfold rdV rdR rdX
 by_cases h:e=0
 ·by_cases h2:(dec rest).2.2=0
  ·exact .inr (.inr ⟨h,h2,by simp[h,h2],by simp[h,h2],by simp[h,h2]⟩)
  ·exact .inr (.inl ⟨h,h2,by simp[h,h2],by simp[h,h2],by simp[h]⟩)
 ·exact .inl ⟨h,by simp[h],by simp[h],by simp[h]⟩
def whX (dec:List UInt8→α × Nat × Int) (rest:List UInt8) (e:Int):Int:=if rdX dec rest e=0∧(decide ((rdR dec rest e).length=0))=false then 6 else rdX dec rest e
theorem kB (dec:List UInt8→α × Nat × Int) (rest:List UInt8) (e:Int):(rdR dec rest e).length≤rest.length:=by
 unfold rdR
 split
 ·exact Nat.le_refl _
 ·rw[List.length_drop];omega
end
theorem RS.noB {w:World} {g:Nat} {T:TypeId} {tl:Option (List UInt8)} {rest:List UInt8} {e:Int} (h:RS w g T tl rest e) {w':World} (hg:w.grownBy w' (some g)) {v:Value} {b:List UInt8} (hv:RdE eB w v b):RdE eB w' v b:=by
 obtain⟨v2,h1,a,c,rfl,_⟩:=h;refine hv.grownK aN hg h1 ?_;intro x _ j u hu
 simp at hu
 subst hu;exact Lf j x
theorem iK (w:World) (r:Option Nat):w.grownBy w r:=⟨rfl,rfl,rfl,Nat.le_refl _,fun _ _ _=>rfl⟩
theorem qV {w:World} {v:Value} {b:List UInt8} (hv:RdE eB w v b) (i:Nat) (hi:i≤b.length) :
  ∃v',(∀wx,(Instr.slice 80 v (some (.int .i64 i)) none none).run Tryz.prog wx = .ok v' wx)∧(∀u,RdE eB u v b→RdE eB u v' (b.drop i))∧∃a n c,v' = .slice a n c:=by
 obtain⟨a,cap,rfl,h1,h2,h3⟩:=hv;refine⟨sliced a i b.length cap 1,?_,?_,_,_,_,rfl⟩
 ·intro wx
  rw[run_slice_l wx _ a _ cap mm .i64 _ (by omega) (by omega),pH]
  simp[Result.andThen]
 ·intro u hu
  have h:=jV hu i b.length hi (Nat.le_refl _)
  rwa [List.take_of_length_le (by rw[List.length_drop];exact Nat.le_refl _)] at h
def wC (v:Value) (rest:List UInt8) (v':Value) (rest':List UInt8):Prop:=∀u,RdE eB u v rest→RdE eB u v' rest'
def RV (w:World) (g:Nat) (T:TypeId) (tl:Option (List UInt8)) (v:Value) (e:Int):Prop:=w.heap[g]?=some (.cells (rc v e tl) T (0,0))
theorem RV.lt {w:World} {g:Nat} {T:TypeId} {tl:Option (List UInt8)} {v:Value} {e:Int} (h:RV w g T tl v e):g<w.heap.size:=(Array.getElem?_eq_some_iff.1 h).1
theorem RV.on {w w':World} {g:Nat} {T:TypeId} {tl:Option (List UInt8)} {v:Value} {e:Int} (h:RV w g T tl v e) (hb:Below w.heap.size w w'):RV w' g T tl v e:=by
 unfold RV;rw[hb.block _ h.lt];exact h
theorem RV.noB {w:World} {g:Nat} {T:TypeId} {tl:Option (List UInt8)} {v:Value} {rest:List UInt8} {e:Int} (h:RV w g T tl v e) (h2:RdE eB w v rest) {w':World} (hg:w.grownBy w' (some g)) {x:Value} {b:List UInt8} (hv:RdE eB w x b):RdE eB w' x b :=
 RS.noB ⟨v,h,h2⟩ hg hv
theorem gp {w w':World} {g:Nat} {T:TypeId} {tl:Option (List UInt8)} {v:Value} {e e2:Int} {ok:Bool} (h:RV w g T tl v e) (hw:w'=if e=0∧ok=false then w.setRow g (rc v e2 tl) else w):RV w' g T tl v (if e=0∧ok=false then e2 else e):=by
 rw[hw]
 split
 ·exact setRow_heap _ _ _ _ _ _ h
 ·exact h
theorem gm {w w':World} {g:Nat} {tl:Option (List UInt8)} {v:Value} {e e2:Int} {ok:Bool} (hw:w'=if e=0∧ok=false then w.setRow g (rc v e2 tl) else w):w.grownBy w' (some g):=by
 rw[hw]
 split
 ·exact aD _ _ _
 ·exact iK _ _
attribute [local irreducible] Calls rc am
theorem Fl (g:Nat) (T:TypeId) (tl:Option (List UInt8)) (v:Value) (rest:List UInt8) (e:Int) (w:World) (h1:RV w g T tl v e) (h2:RdE eB w v rest) (hl:rest.length≤900000) :
  Calls Tryz.prog 133 #[.pointer (some ⟨g,0,none⟩),.func (.func 134) #[] #[]] w fun en w'=>∃x v',en = .returned x∧x = .string ⟨(rdV [] aL rest e).toArray⟩∧RV w' g T tl v' (rdX aL rest e)∧wC v rest v' (rdR aL rest e)∧w.grownBy w' (some g):=by
 have H1:=O h1;have H2:=O h2;have HL:=O hl;have HLT:=O h1.lt
 have c0:w.cell? ⟨g,0,none⟩=some v:=by rw[cell_of_row _ _ _ _ _ _ h1];exact s9 v e tl
 have c1:w.cell? ⟨g,1,none⟩=some (.int .i64 e):=by rw[cell_of_row _ _ _ _ _ _ h1];exact gy v e tl
 have HGET:=O (uX v rest w h2);obtain⟨ad,cap,hvf,_,_,_⟩:=h2;have HVF:=O hvf;clear hvf
 rcases fM [] aL rest e with⟨p1,p2,p3,p4⟩|⟨p1,p2,p3,p4,p5⟩|⟨p1,p2,p3,p4,p5⟩
 ·have HP2:=O p2
  have HP3:=O p3;have HP4:=O p4
  have i1:(e != 0)=true:=by simpa using p1
  clear p1 p2 p3 p4 h1 hl
  go_enter Tryz.func133,Tryz.ntmps133
  go_wp2;go_ret;exact⟨_,v,rfl,by rw[HP2.out];exact rfl,by rw[HP4.out];exact H1.out,by rw[HP3.out];exact fun _ h=>h,iK _ _⟩
 ·subst p1
  have HP3:=O p3;have HP4:=O p4;have HP5:=O p5;generalize aL rest=d at HGET p2 HP5;obtain⟨xs,u,er⟩:=d;simp only at p2 HGET HP5
  have i1:(er == 0)=false:=by simpa using p2
  have HP2:=O p2;clear p2 p3 p4 p5 h1 hl
  go_enter Tryz.func133,Tryz.ntmps133
  go_wp2_with (first
   |(go_at_call 134;refine HGET.out.mono ?_;rintro e1 w1 ⟨rfl,hw1⟩;have HB1:Hid (Below w.heap.size w w1):=(O (by rw[hw1];exact Oo _ _));clear hw1;simp only[mH])
   |(go_at_call 92;refine(dK g T tl v 0 false er _ (H1.out.on HB1.out)).mono ?_;rw[if_pos ⟨rfl,rfl⟩,if_pos ⟨rfl,rfl⟩,decide_eq_false HP2.out];rintro e2 w2 ⟨rfl,hw2⟩;have HR2:Hid (RV w2 g T tl v er):=(O (by rw[hw2];exact setRow_heap _ _ _ _ _ _ (H1.out.on HB1.out)));have HG2:Hid (w.grownBy w2 (some g)):=(O (by rw[hw2];exact bg (grownB g HB1.out) (aD _ _ _)));clear hw2))
  go_ret;exact⟨_,v,rfl,by rw[HP3.out];exact rfl,by rw[HP5.out];exact HR2.out,by rw[HP4.out];exact fun _ h=>h,HG2.out⟩
 ·subst p1
  have HP3:=O p3;have HP4:=O p4;have HP5:=O p5;have HUS:=O (hI.used rest p2).1;generalize aL rest=d at HGET p2 HP3 HP4 HUS;obtain⟨xs,u,er⟩:=d;simp only at p2 HGET HP3 HP4 HUS;subst p2;clear p3 p4 p5 h1 hl
  go_enter Tryz.func133,Tryz.ntmps133
  go_upto_region 6 with (first
   |(go_at_call 134;refine HGET.out.mono ?_;rintro e1 w1 ⟨rfl,hw1⟩;have HB1:Hid (Below w.heap.size w w1):=(O (by rw[hw1];exact Oo _ _));clear hw1;simp only[mH])
   |(go_at_call 92;refine(dK g T tl v 0 true 0 _ (H1.out.on HB1.out)).mono ?_;rw[if_neg (fun h=>by cases h.2),if_neg (fun h=>by cases h.2),decide_eq_true rfl];rintro e2 w2 ⟨rfl,hw2⟩;rw[hw2];clear hw2))
  have HK1:Hid (RV w1 g T tl v 0):=O (H1.out.on HB1.out)
  have d0:w1.cell? ⟨g,0,none⟩=some v:=by rw[cell_of_row _ _ _ _ _ _ HK1.out];exact s9 v 0 tl
  have f0:=frozen_of_row _ _ 0 _ _ HK1.out;rw[HVF.out] at d0;obtain⟨vs,hs,hp,a3,n3,c3,rfl⟩:=qV H2.out u HUS.out;rw[HVF.out] at hs;have HPT:=O hp;have HW3:Hid (w1.setCell ⟨g,0,none⟩ (.slice a3 n3 c3)=w1.setRow g (rc (.slice a3 n3 c3) 0 tl)):=O (by rw[au _ _ _ _ _ _ _ HK1.out,tJ]);clear hp;go_wp2;go_ret;rw[HW3.out];refine⟨_,.slice a3 n3 c3,rfl,by rw[HP3.out];exact rfl,by rw[HP5.out];exact setRow_heap _ _ _ _ _ _ HK1.out,by rw[HP4.out];exact HPT.out,bg (grownB g HB1.out) (aD _ _ _)⟩
theorem MA (g:Nat) (T:TypeId) (tl:Option (List UInt8)) (v:Value) (rest:List UInt8) (e:Int) (w:World) (h1:RV w g T tl v e) (h2:RdE eB w v rest) (hl:rest.length≤900000) :
  Calls Tryz.prog 139 #[.pointer (some ⟨g,0,none⟩),.func (.func 134) #[] #[]] w fun en w'=>∃x v',en = .returned x∧x = .string ⟨(rdV [] aL rest e).toArray⟩∧RV w' g T tl v' (whX aL rest e)∧wC v rest v' (rdR aL rest e)∧w.grownBy w' (some g):=by
 have HLT:=O h1.lt;have H1:=O h1;have H2:=O h2;have HCALL:=O (Fl g T tl v rest e w h1 h2 hl);have HWX:Hid (whX aL rest e=if rdX aL rest e=0∧(decide ((rdR aL rest e).length=0))=false then 6 else rdX aL rest e):=O rfl;generalize rdR aL rest e=rr at HWX HCALL ⊢;generalize rdX aL rest e=ex at HWX HCALL;generalize rdV [] aL rest e=rv at HCALL ⊢;clear h1 h2
 go_enter Tryz.func139,Tryz.ntmps139
 go_upto_region 2 with (go_at_call 133;refine HCALL.out.mono ?_;rintro e1 w1 ⟨_,v1,rfl,rfl,hr1,hp1,hg1⟩;have HR1:=O hr1;have HPT1:=O hp1;have HG1:=O hg1;clear hr1 hg1 hp1)
 have d0:w1.cell? ⟨g,0,none⟩=some v1:=by rw[cell_of_row _ _ _ _ _ _ HR1.out];exact s9 v1 ex tl
 have HRD1:=O (HPT1.out w1 (H1.out.noB H2.out HG1.out H2.out));obtain⟨a2,c2,rfl,_,_,_⟩:=HRD1.out;have HN:Hid ((((rr.length:Int) == 0)=decide (rr.length=0))):=O (by by_cases h0:rr.length=0 <;> simp[h0])
 go_wp2_with (go_at_call 92;rw[HN.out];refine(dK g T tl _ ex (decide (rr.length=0)) 6 _ HR1.out).mono ?_;rw[←HWX.out];rintro e2 w2 ⟨rfl,hw2⟩;have HR2:Hid (RV w2 g T tl _ _):=(O (gp HR1.out hw2));have HG12:=O (gm hw2);have HG2:=O (bg HG1.out HG12.out);clear hw2)
 go_ret;exact⟨_,_,rfl,rfl,by rw[HWX.out];exact HR2.out,HPT1.out,HG2.out⟩
theorem Fk (g:Nat) (T:TypeId) (tl:Option (List UInt8)) (v:Value) (rest:List UInt8) (e:Int) (w:World) (h1:RV w g T tl v e) (h2:RdE eB w v rest) (hl:rest.length≤900000) :
  Calls Tryz.prog 137 #[.pointer (some ⟨g,0,none⟩),.func (.func 138) #[] #[]] w fun en w'=>∃x v',en = .returned x∧ap eI w' w.heap.size x (rdV [] aB rest e)∧RV w' g T tl v' (rdX aB rest e)∧wC v rest v' (rdR aB rest e)∧w.grownBy w' (some g):=by
 have H1:=O h1;have H2:=O h2;have HL:=O hl;have HLT:=O h1.lt
 have c0:w.cell? ⟨g,0,none⟩=some v:=by rw[cell_of_row _ _ _ _ _ _ h1];exact s9 v e tl
 have c1:w.cell? ⟨g,1,none⟩=some (.int .i64 e):=by rw[cell_of_row _ _ _ _ _ _ h1];exact gy v e tl
 have HGET:=O (GF v rest w h2 hl);obtain⟨ad,cap,hvf,_,_,_⟩:=h2;have HVF:=O hvf;clear hvf
 rcases fM [] aB rest e with⟨p1,p2,p3,p4⟩|⟨p1,p2,p3,p4,p5⟩|⟨p1,p2,p3,p4,p5⟩
 ·have HP2:=O p2
  have HP3:=O p3;have HP4:=O p4
  have i1:(e != 0)=true:=by simpa using p1
  clear p1 p2 p3 p4 h1 hl
  go_enter Tryz.func137,Tryz.ntmps137
  go_wp2;go_ret;exact⟨_,v,rfl,by rw[HP2.out];exact ap.nil _ _,by rw[HP4.out];exact H1.out,by rw[HP3.out];exact fun _ h=>h,iK _ _⟩
 ·subst p1
  have HP3:=O p3;have HP4:=O p4;have HP5:=O p5;generalize aB rest=d at HGET p2 HP5;obtain⟨xs,u,er⟩:=d;simp only at p2 HGET HP5
  have i1:(er == 0)=false:=by simpa using p2
  have HP2:=O p2;clear p2 p3 p4 p5 h1 hl
  go_enter Tryz.func137,Tryz.ntmps137
  go_wp2_with (first
   |(go_at_call 138;refine HGET.out.mono ?_;rintro e1 w1 ⟨x1,rfl,ho1,hb1⟩;have HO1:=O ho1;have HB1:=O hb1;obtain⟨xa,xc,rfl,_,_,_⟩:=ho1.rd;clear ho1 hb1)
   |(go_at_call 92;refine(dK g T tl v 0 false er _ (H1.out.on HB1.out)).mono ?_;rw[if_pos ⟨rfl,rfl⟩,if_pos ⟨rfl,rfl⟩,decide_eq_false HP2.out];rintro e2 w2 ⟨rfl,hw2⟩;have HR2:Hid (RV w2 g T tl v er):=(O (by rw[hw2];exact setRow_heap _ _ _ _ _ _ (H1.out.on HB1.out)));have HG2:Hid (w.grownBy w2 (some g)):=(O (by rw[hw2];exact bg (grownB g HB1.out) (aD _ _ _)));clear hw2))
  go_ret;exact⟨_,v,rfl,by rw[HP3.out];exact ap.nil _ _,by rw[HP5.out];exact HR2.out,by rw[HP4.out];exact fun _ h=>h,HG2.out⟩
 ·subst p1
  have HP3:=O p3;have HP4:=O p4;have HP5:=O p5;have HUS:=O (ko.used rest p2).1;generalize aB rest=d at HGET p2 HP3 HP4 HUS;obtain⟨xs,u,er⟩:=d;simp only at p2 HGET HP3 HP4 HUS;subst p2;clear p3 p4 p5 h1 hl
  go_enter Tryz.func137,Tryz.ntmps137
  go_upto_region 6 with (first
   |(go_at_call 138;refine HGET.out.mono ?_;rintro e1 w1 ⟨x1,rfl,ho1,hb1⟩;have HO1:=O ho1;have HB1:=O hb1;obtain⟨xa,xc,rfl,_,_,_⟩:=ho1.rd;clear ho1 hb1)
   |(go_at_call 92;refine(dK g T tl v 0 true 0 _ (H1.out.on HB1.out)).mono ?_;rw[if_neg (fun h=>by cases h.2),if_neg (fun h=>by cases h.2),decide_eq_true rfl];rintro e2 w2 ⟨rfl,hw2⟩;rw[hw2];clear hw2))
  have HK1:Hid (RV w1 g T tl v 0):=O (H1.out.on HB1.out)
  have d0:w1.cell? ⟨g,0,none⟩=some v:=by rw[cell_of_row _ _ _ _ _ _ HK1.out];exact s9 v 0 tl
  have f0:=frozen_of_row _ _ 0 _ _ HK1.out;rw[HVF.out] at d0;obtain⟨vs,hs,hp,a3,n3,c3,rfl⟩:=qV H2.out u HUS.out;rw[HVF.out] at hs;have HPT:=O hp;have HW3:Hid (w1.setCell ⟨g,0,none⟩ (.slice a3 n3 c3)=w1.setRow g (rc (.slice a3 n3 c3) 0 tl)):=O (by rw[au _ _ _ _ _ _ _ HK1.out,tJ]);clear hp;go_wp2;go_ret;rw[HW3.out];refine⟨_,.slice a3 n3 c3,rfl,by rw[HP3.out];exact HO1.out.grown (aD _ _ _) (fun g2 hg2=>by cases hg2;exact HO1.out.neOld HLT.out),by rw[HP5.out];exact setRow_heap _ _ _ _ _ _ HK1.out,by rw[HP4.out];exact HPT.out,bg (grownB g HB1.out) (aD _ _ _)⟩
theorem Mz (g:Nat) (T:TypeId) (tl:Option (List UInt8)) (v:Value) (rest:List UInt8) (e:Int) (w:World) (h1:RV w g T tl v e) (h2:RdE eB w v rest) (hl:rest.length≤900000) :
  Calls Tryz.prog 145 #[.pointer (some ⟨g,0,none⟩),.func (.func 138) #[] #[]] w fun en w'=>∃x v',en = .returned x∧ap eI w' w.heap.size x (rdV [] aB rest e)∧RV w' g T tl v' (whX aB rest e)∧wC v rest v' (rdR aB rest e)∧w.grownBy w' (some g):=by
 have HLT:=O h1.lt;have H1:=O h1;have H2:=O h2;have HCALL:=O (Fk g T tl v rest e w h1 h2 hl);have HWX:Hid (whX aB rest e=if rdX aB rest e=0∧(decide ((rdR aB rest e).length=0))=false then 6 else rdX aB rest e):=O rfl;generalize rdR aB rest e=rr at HWX HCALL ⊢;generalize rdX aB rest e=ex at HWX HCALL;generalize rdV [] aB rest e=rv at HCALL ⊢;clear h1 h2
 go_enter Tryz.func145,Tryz.ntmps145
 go_upto_region 2 with (go_at_call 137;refine HCALL.out.mono ?_;rintro e1 w1 ⟨x1,v1,rfl,ho1,hr1,hp1,hg1⟩;have HO1:=O ho1;have HR1:=O hr1;have HPT1:=O hp1;have HG1:=O hg1;obtain⟨xa,xc,rfl,_,_,_⟩:=ho1.rd;clear ho1 hr1 hg1 hp1)
 have d0:w1.cell? ⟨g,0,none⟩=some v1:=by rw[cell_of_row _ _ _ _ _ _ HR1.out];exact s9 v1 ex tl
 have HRD1:=O (HPT1.out w1 (H1.out.noB H2.out HG1.out H2.out));obtain⟨a2,c2,rfl,_,_,_⟩:=HRD1.out;have HN:Hid ((((rr.length:Int) == 0)=decide (rr.length=0))):=O (by by_cases h0:rr.length=0 <;> simp[h0])
 go_wp2_with (go_at_call 92;rw[HN.out];refine(dK g T tl _ ex (decide (rr.length=0)) 6 _ HR1.out).mono ?_;rw[←HWX.out];rintro e2 w2 ⟨rfl,hw2⟩;have HR2:Hid (RV w2 g T tl _ _):=(O (gp HR1.out hw2));have HG12:=O (gm hw2);have HG2:=O (bg HG1.out HG12.out);clear hw2)
 go_ret;exact⟨_,_,rfl,HO1.out.grown HG12.out (fun g2 hg2=>by cases hg2;exact HO1.out.neOld HLT.out),by rw[HWX.out];exact HR2.out,HPT1.out,HG2.out⟩
theorem Pj (g:Nat) (T:TypeId) (tl:Option (List UInt8)) (v:Value) (rest:List UInt8) (e:Int) (w:World) (h1:RV w g T tl v e) (h2:RdE eB w v rest) (hl:rest.length≤900000) :
  Calls Tryz.prog 143 #[.pointer (some ⟨g,0,none⟩),.func (.func 90) #[] #[]] w fun en w'=>∃x v',en = .returned x∧ap eS w' w.heap.size x (rdV [] aE rest e)∧RV w' g T tl v' (rdX aE rest e)∧wC v rest v' (rdR aE rest e)∧w.grownBy w' (some g):=by
 have H1:=O h1;have H2:=O h2;have HL:=O hl;have HLT:=O h1.lt
 have c0:w.cell? ⟨g,0,none⟩=some v:=by rw[cell_of_row _ _ _ _ _ _ h1];exact s9 v e tl
 have c1:w.cell? ⟨g,1,none⟩=some (.int .i64 e):=by rw[cell_of_row _ _ _ _ _ _ h1];exact gy v e tl
 have HGET:=O (yW v rest w h2 hl);obtain⟨ad,cap,hvf,_,_,_⟩:=h2;have HVF:=O hvf;clear hvf
 rcases fM [] aE rest e with⟨p1,p2,p3,p4⟩|⟨p1,p2,p3,p4,p5⟩|⟨p1,p2,p3,p4,p5⟩
 ·have HP2:=O p2
  have HP3:=O p3;have HP4:=O p4
  have i1:(e != 0)=true:=by simpa using p1
  clear p1 p2 p3 p4 h1 hl
  go_enter Tryz.func143,Tryz.ntmps143
  go_wp2;go_ret;exact⟨_,v,rfl,by rw[HP2.out];exact ap.nil _ _,by rw[HP4.out];exact H1.out,by rw[HP3.out];exact fun _ h=>h,iK _ _⟩
 ·subst p1
  have HP3:=O p3;have HP4:=O p4;have HP5:=O p5;generalize aE rest=d at HGET p2 HP5;obtain⟨xs,u,er⟩:=d;simp only at p2 HGET HP5
  have i1:(er == 0)=false:=by simpa using p2
  have HP2:=O p2;clear p2 p3 p4 p5 h1 hl
  go_enter Tryz.func143,Tryz.ntmps143
  go_wp2_with (first
   |(go_at_call 90;refine HGET.out.mono ?_;rintro e1 w1 ⟨x1,rfl,ho1,hb1⟩;have HO1:=O ho1;have HB1:=O hb1;obtain⟨xa,xc,rfl,_,_,_⟩:=ho1.rd;clear ho1 hb1)
   |(go_at_call 92;refine(dK g T tl v 0 false er _ (H1.out.on HB1.out)).mono ?_;rw[if_pos ⟨rfl,rfl⟩,if_pos ⟨rfl,rfl⟩,decide_eq_false HP2.out];rintro e2 w2 ⟨rfl,hw2⟩;have HR2:Hid (RV w2 g T tl v er):=(O (by rw[hw2];exact setRow_heap _ _ _ _ _ _ (H1.out.on HB1.out)));have HG2:Hid (w.grownBy w2 (some g)):=(O (by rw[hw2];exact bg (grownB g HB1.out) (aD _ _ _)));clear hw2))
  go_ret;exact⟨_,v,rfl,by rw[HP3.out];exact ap.nil _ _,by rw[HP5.out];exact HR2.out,by rw[HP4.out];exact fun _ h=>h,HG2.out⟩
 ·subst p1
  have HP3:=O p3;have HP4:=O p4;have HP5:=O p5;have HUS:=O (lI.used rest p2).1;generalize aE rest=d at HGET p2 HP3 HP4 HUS;obtain⟨xs,u,er⟩:=d;simp only at p2 HGET HP3 HP4 HUS;subst p2;clear p3 p4 p5 h1 hl
  go_enter Tryz.func143,Tryz.ntmps143
  go_upto_region 6 with (first
   |(go_at_call 90;refine HGET.out.mono ?_;rintro e1 w1 ⟨x1,rfl,ho1,hb1⟩;have HO1:=O ho1;have HB1:=O hb1;obtain⟨xa,xc,rfl,_,_,_⟩:=ho1.rd;clear ho1 hb1)
   |(go_at_call 92;refine(dK g T tl v 0 true 0 _ (H1.out.on HB1.out)).mono ?_;rw[if_neg (fun h=>by cases h.2),if_neg (fun h=>by cases h.2),decide_eq_true rfl];rintro e2 w2 ⟨rfl,hw2⟩;rw[hw2];clear hw2))
  have HK1:Hid (RV w1 g T tl v 0):=O (H1.out.on HB1.out)
  have d0:w1.cell? ⟨g,0,none⟩=some v:=by rw[cell_of_row _ _ _ _ _ _ HK1.out];exact s9 v 0 tl
  have f0:=frozen_of_row _ _ 0 _ _ HK1.out;rw[HVF.out] at d0;obtain⟨vs,hs,hp,a3,n3,c3,rfl⟩:=qV H2.out u HUS.out;rw[HVF.out] at hs;have HPT:=O hp;have HW3:Hid (w1.setCell ⟨g,0,none⟩ (.slice a3 n3 c3)=w1.setRow g (rc (.slice a3 n3 c3) 0 tl)):=O (by rw[au _ _ _ _ _ _ _ HK1.out,tJ]);clear hp;go_wp2;go_ret;rw[HW3.out];refine⟨_,.slice a3 n3 c3,rfl,by rw[HP3.out];exact HO1.out.grown (aD _ _ _) (fun g2 hg2=>by cases hg2;exact HO1.out.neOld HLT.out),by rw[HP5.out];exact setRow_heap _ _ _ _ _ _ HK1.out,by rw[HP4.out];exact HPT.out,bg (grownB g HB1.out) (aD _ _ _)⟩
theorem Co (g:Nat) (T:TypeId) (tl:Option (List UInt8)) (v:Value) (rest:List UInt8) (e:Int) (w:World) (h1:RV w g T tl v e) (h2:RdE eB w v rest) (hl:rest.length≤900000) :
  Calls Tryz.prog 89 #[.pointer (some ⟨g,0,none⟩),.func (.func 90) #[] #[]] w fun en w'=>∃x v',en = .returned x∧ap eS w' w.heap.size x (rdV [] aE rest e)∧RV w' g T tl v' (whX aE rest e)∧wC v rest v' (rdR aE rest e)∧w.grownBy w' (some g):=by
 have HLT:=O h1.lt;have H1:=O h1;have H2:=O h2;have HCALL:=O (Pj g T tl v rest e w h1 h2 hl);have HWX:Hid (whX aE rest e=if rdX aE rest e=0∧(decide ((rdR aE rest e).length=0))=false then 6 else rdX aE rest e):=O rfl;generalize rdR aE rest e=rr at HWX HCALL ⊢;generalize rdX aE rest e=ex at HWX HCALL;generalize rdV [] aE rest e=rv at HCALL ⊢;clear h1 h2
 go_enter Tryz.func89,Tryz.ntmps89
 go_upto_region 2 with (go_at_call 143;refine HCALL.out.mono ?_;rintro e1 w1 ⟨x1,v1,rfl,ho1,hr1,hp1,hg1⟩;have HO1:=O ho1;have HR1:=O hr1;have HPT1:=O hp1;have HG1:=O hg1;obtain⟨xa,xc,rfl,_,_,_⟩:=ho1.rd;clear ho1 hr1 hg1 hp1)
 have d0:w1.cell? ⟨g,0,none⟩=some v1:=by rw[cell_of_row _ _ _ _ _ _ HR1.out];exact s9 v1 ex tl
 have HRD1:=O (HPT1.out w1 (H1.out.noB H2.out HG1.out H2.out));obtain⟨a2,c2,rfl,_,_,_⟩:=HRD1.out;have HN:Hid ((((rr.length:Int) == 0)=decide (rr.length=0))):=O (by by_cases h0:rr.length=0 <;> simp[h0])
 go_wp2_with (go_at_call 92;rw[HN.out];refine(dK g T tl _ ex (decide (rr.length=0)) 6 _ HR1.out).mono ?_;rw[←HWX.out];rintro e2 w2 ⟨rfl,hw2⟩;have HR2:Hid (RV w2 g T tl _ _):=(O (gp HR1.out hw2));have HG12:=O (gm hw2);have HG2:=O (bg HG1.out HG12.out);clear hw2)
 go_ret;exact⟨_,_,rfl,HO1.out.grown HG12.out (fun g2 hg2=>by cases hg2;exact HO1.out.neOld HLT.out),by rw[HWX.out];exact HR2.out,HPT1.out,HG2.out⟩
end
end Go.Proofs.YtmfiaadjdbemnaaGreatDoor
