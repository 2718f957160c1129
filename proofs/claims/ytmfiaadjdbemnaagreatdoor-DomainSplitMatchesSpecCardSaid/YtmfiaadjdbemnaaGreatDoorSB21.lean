/- Contracts and lemmas. No condition. -/
import Derived.Test.YtmfiaadjdbemnaaGreatDoorSB16
import Derived.Test.YtmfiaadjdbemnaaGreatDoorSB20
set_option maxRecDepth 100000
set_option maxHeartbeats 8000000
set_option linter.unusedSimpArgs false
set_option linter.unusedVariables false
namespace Go.Proofs.YtmfiaadjdbemnaaGreatDoor
open Tryz
section
open Go.RowKit Go.Shelf
def b5 (ss:List (List UInt8)) (e:Int):List K × Int:=ss.foldl (fun p s=>(p.1++[fV s p.2],dZ s p.2)) ([],e)
theorem Da (ss:List (List UInt8)) (s:List UInt8) (e:Int):b5 (ss++[s]) e=((b5 ss e).1++[fV s (b5 ss e).2],dZ s (b5 ss e).2):=by unfold b5;rw[List.foldl_append];rfl
theorem oY (ss:List (List UInt8)) (j:Nat) (h:j<ss.length) (e:Int):b5 (ss.take (j+1)) e=((b5 (ss.take j) e).1++[fV ss[j] (b5 (ss.take j) e).2],dZ ss[j] (b5 (ss.take j) e).2):=by
 rw[List.take_add_one,K_ h];exact Da _ _ _
theorem C7 (ss:List (List UInt8)):∀(acc:List K) (e:Int),(ss.foldl (fun p s=>(p.1++[fV s p.2],dZ s p.2)) (acc,e)).1.length=acc.length+ss.length:=by
 induction ss with
 | nil=>intro acc e;rfl
 | cons s ss ih=>intro acc e;rw[List.foldl_cons,ih,E_,Z_];simp;omega
theorem xr (ss:List (List UInt8)) (e:Int):(b5 ss e).1.length=ss.length:=by
 unfold b5;rw[C7]
 simp
def ctK (t:List UInt8):List K:=(b5 (rdV [] aE t 0) (whX aE t 0)).1
def ctE (t:List UInt8):Int:=(b5 (rdV [] aE t 0) (whX aE t 0)).2
def blH (blob:List UInt8):List UInt8:=rdV [] aL blob 0
def blB (blob:List UInt8):BK:=hdB (blH blob) (rdX aL blob 0)
def blE (blob:List UInt8):Int:=hdX (blH blob) (rdX aL blob 0)
def blT (dk blob:List UInt8):List UInt8:=gU (aJ dk bkL) (blH blob) (rdR aL blob 0)
def blO (dk blob:List UInt8):Int:=eG (aJ dk bkL) (blH blob) (rdR aL blob 0)
def opE (dk blob:List UInt8):Int :=
 if dk.length=32 then (if blE blob=0 then (if blO dk blob=0 then (if ctE (blT dk blob)=0∧aI (blB blob) (ctK (blT dk blob))=false then 6 else ctE (blT dk blob)) else blO dk blob) else blE blob) else 1
def opB (dk blob:List UInt8):BK:=if opE dk blob=0 then blB blob else zB
def opK (dk blob:List UInt8):List K:=if opE dk blob=0 then ctK (blT dk blob) else []
theorem yJ:prog.built 47 []=some (bc zB ah):=by kernel_rfl
attribute [local irreducible] Calls rc am aI aJ gU eG
theorem xU (dk blob:List UInt8) (w:World) (h:¬dk.length=32) :
  Calls prog 45 #[.string ⟨dk.toArray⟩,.string ⟨blob.toArray⟩] w fun en w'=>en = .returned (.tuple #[.agg (bc zB ah),.int .i64 1])∧Below w.heap.size w w':=by
 have hz:=fh
 have i1:((dk.length:Int) != 32)=true:=by simp;omega
 have HK0:Hid ((w.alloc (.cells (bc zB ah) 47)).heap[w.heap.size]?=some (.cells (bc zB ah) 47 (0,0))):=O (al _ _ _ rfl);clear h
 go_enter func45,ntmps45
 go_wp2_with (first
  |(refine wpList_build rfl 47 #[] rfl (by simp only[List.map_toArray,List.map_nil];rw[yJ];rfl) ?_;simp only[List.map_toArray,List.map_nil];rw[yJ];simp only[Option.getD_some])
  |(refine wpList_store_row rfl 47 (.tmp 4) (.tmp 16) rfl w.heap.size (bc zB ah) rfl rfl _ _ HK0.out (by rw[aC];exact dU) rfl (dl _ _ _ _) ?_))
 refine g_ (aA rfl _ _ w.heap.size _ rfl (aX _ _ zB ah _ HK0.out)) rfl ?_;exact⟨rfl,(O_ _ _).alloc (A_ _) _⟩
theorem Fg (v:Value) (e:Int) (h:List UInt8):rc v e (some h) = #[v,.int .i64 e,.string ⟨h.toArray⟩]:=by unfold rc tlc;rfl
theorem gV (w:World) (g:Nat) (b b0:BK) (u0:Value) (a:Option Addr) (n c:Nat) (hg:w.heap[g]?=some (.cells (bc b0 u0) 47 (0,0))):(storeCells ⟨g,0,none⟩ (bc b (.slice a n c)).toList).run prog w = .ok () (w.setRow g (bc b (.slice a n c))):=by
 have h1:(bc b (.slice a n c)).toList.length=38:=by rw[Array.length_toList];exact aC _ _
 have h2:(bc b0 u0).toList.length=38:=by rw[Array.length_toList];exact aC _ _
 have h:=run_storeCells_at (P:=prog) g 0 47 (bc b (.slice a n c)).toList 0 (bc b0 u0) w hg (by rw[h1,aC];decide) (fun v hv=>(Array.all_eq_true_iff_forall_mem.1 (dl b a n c)) v (by simpa using hv));rw[h1,Nat.add_zero,c_,a_,List.drop_eq_nil_of_le (by omega),List.nil_append,List.append_nil,Array.toArray_toList] at h;exact h
theorem xT (key ad t:List UInt8):(gU key ad t).length≤t.length:=by
 unfold gU
 split
 ·unfold jn
  split
  ·show (eX _ _ _).length≤_
   rw[lz];unfold bC;rw[b_,S_]
   omega
  ·exact N_ _
 ·exact N_ _
theorem SO (hdr:List UInt8) (e:Int):(hdB hdr e).mo.length≤hdr.length:=by
 unfold hdB;exact M_ (jT _ _) (M_ (kB _ _ _) (M_ (kB _ _ _) (kB _ _ _)))
theorem Pi (p:List UInt8) (e:Int):∀x∈rdV [] aB p e,okI x:=by
 rcases fM [] aB p e with⟨_,p3,_⟩|⟨_,_,p3,_⟩|⟨_,p2,p3,_⟩
 ·rw[p3];intro x hx;cases hx
 ·rw[p3];intro x hx;cases hx
 ·rw[p3]
  exact(ko.back p _ _ (show aB p=((aB p).1,(aB p).2.1,0) by rw[←p2])).2.2.1
theorem QZ:okI 0:=by unfold okI;omega
theorem Ok (l:List Int) (h:∀x∈l,okI x) (j:Nat):okI (l.getD j 0):=by
 rw[I_]
 cases hq:l[j]? with
 | none=>exact QZ
 | some x=>exact h x (List.mem_of_getElem? hq)
theorem Lc (b:Bool):okI (oG b):=by cases b <;> (unfold oG okI;simp)
theorem Kh (s:List UInt8) (e:Int):∀x∈bO (fV s e),okI x:=by
 unfold fV
 split
 ·unfold mkK bO
  have h:=Pi ((rdV [] aE s e).getD 0 []) 0;intro x hx;simp only[List.mem_cons,List.not_mem_nil,or_false] at hx
  rcases hx with rfl|rfl|rfl|rfl|rfl|rfl|rfl|rfl <;> first |exact Ok _ h _|exact Lc _
 ·unfold zK bO
  intro x hx;simp only[List.mem_cons,List.not_mem_nil,or_false] at hx
  rcases hx with rfl|rfl|rfl|rfl|rfl|rfl|rfl|rfl <;> first |exact QZ|exact Lc _
theorem rB (ss:List (List UInt8)) (e:Int):∀k∈(b5 ss e).1,∀x∈bO k,okI x:=by
 have h:∀(ss:List (List UInt8)) (acc:List K) (e:Int),(∀k∈acc,∀x∈bO k,okI x)→∀k∈(ss.foldl (fun p s=>(p.1++[fV s p.2],dZ s p.2)) (acc,e)).1,∀x∈bO k,okI x:=by
  intro ss
  induction ss with
  | nil=>intro acc e h;exact h
  | cons s ss ih =>
    intro acc e h;rw[List.foldl_cons];refine ih _ _ ?_;intro k hk
    rcases List.mem_append.1 hk with hk|hk
    ·exact h k hk
    ·rw[List.mem_singleton.1 hk];exact Kh s e
 exact h ss [] e (by intro k hk;cases hk)
theorem zh {l:List K} (h:∀k∈l,∀x∈bO k,okI x):cQ l:=fun i hi=>by rw[az l i hi];exact h _ (List.getElem_mem hi)
theorem gF (w:World):RdK w ah []:=⟨none,0,rfl,A_ _,by unfold maxLen;omega,fun h=>absurd h (by simp)⟩
structure OL (wL:World) (gb gc:Nat) (b:BK) (vc:Value) (x:World) (ks:List K) (e:Int):Prop where
 bk:∃vk,x.heap[gb]?=some (.cells (bc b vk) 47 (0,0))∧b7 x wL.heap.size vk ks
 rv:RV x gc 152 none vc e
 keep:∀k,k<wL.heap.size→k≠gb→k≠gc→x.heap[k]? = wL.heap[k]?
 os:x.os=wL.os
 tape:x.tape=wL.tape
 output:x.output=wL.output
 size:wL.heap.size≤x.heap.size
 ne:gb≠gc
 gb:gb<wL.heap.size
 gc:gc<wL.heap.size
theorem BU (s:List UInt8) (e:Int):(rdV [] aE s e).length≤s.length:=by
 rcases fM [] aE s e with⟨_,p3,_⟩|⟨_,_,p3,_⟩|⟨_,p2,p3,_⟩
 ·rw[p3];exact N_ _
 ·rw[p3];exact N_ _
 ·rw[p3]
  have h3:=congrArg List.length (tn hI s _ _ (show j8 aL s=((aE s).1,(aE s).2.1,0) by rw[←p2];rfl)).1
  have hge:(aE s).1.length≤(ea aV (aE s).1).length:=by
   generalize (aE s).1=l
   induction l with
   | nil=>exact N_ _
   | cons x l ih=>rw[eL,E_,Z_];have := AR x;omega
  unfold kX at h3;rw[E_,E_] at h3
  omega
theorem Tv {w:World} {g:Nat} {km:K} {T:TypeId} (hg:w.heap[g]?=some (.cells (kc km) T (0,0))):RdK w (.slice (some ⟨g,0,none⟩) 1 1) [km] :=
 ⟨_,1,rfl,A_ _,by unfold maxLen;omega,fun _=>⟨g,0,rfl,(Q_.1 hg).1,fun j hj i hi=>by
  have : j=0:=by simpa using hj
  subst this;rw[e_ _ _ _ _ _ _ hg]
  simp[ae]⟩⟩
def SPG.key (gc:Nat) (km:K):SPG (fun x y:World=>x.grownBy y (some gc)) := .pred (fun x w=>∃g1,x = .slice (some ⟨g1,0,none⟩) 1 1∧gc<g1∧w.heap[g1]?=some (.cells (kc km) 86 (0,0)))
 (fun _ _ _ hb ⟨g1,h1,h2,h3⟩=>⟨g1,h1,h2,fC h3 hb (by omega)⟩)
theorem OX {wL wr wq w7:World} {gb gc:Nat} {b:BK} {vc vk v7:Value} {ks ks2:List K} {e e2:Int} (h:OL wL gb gc b vc wr ks e) (hg:wr.grownBy wq (some gc)) (hv:RV wq gc 152 none vc e2) (hb:Below wL.heap.size wq w7)
  (hr:w7.heap[gb]?=some (.cells (bc b vk) 47 (0,0))) (ho:b7 w7 wL.heap.size v7 ks2):OL wL gb gc b vc (w7.setRow gb (bc b v7)) ks2 e2:=by
 refine⟨⟨v7,setRow_heap _ _ _ _ _ _ hr,?_⟩,?_,?_,?_,?_,?_,?_,h.ne,h.gb,h.gc⟩
 ·exact ho.grown (aD _ _ _) (fun g2 hg2=>by cases hg2;exact ho.neOld h.gb)
 ·unfold RV
  rw[aj _ _ _ _ (fun e=>h.ne e.symm),hb.block _ h.gc];exact hv
 ·intro k hk h1 h2
  rw[aj _ _ _ _ h1,hb.block _ hk,hg.block k (P_ hk h.size) (fun e=>h2 (Option.some.inj e))];exact h.keep k hk h1 h2
 ·exact(hb.os.trans hg.os).trans h.os
 ·exact(hb.tape.trans hg.tape).trans h.tape
 ·exact(hb.output.trans hg.output).trans h.output
 ·rw[kE];exact M_ (M_ h.size hg.size) hb.size
theorem KJ {w wL wr:World} {gb gc:Nat} {b:BK} {vc:Value} {ks:List K} {e:Int} (h:OL wL gb gc b vc wr ks e) (hw:Below w.heap.size w wL) (h1:w.heap.size≤gb) (h2:w.heap.size≤gc):Below w.heap.size w wr :=
 ⟨h.os.trans hw.os,h.tape.trans hw.tape,h.output.trans hw.output,M_ hw.size h.size,fun k hk=>(h.keep k (P_ hk hw.size) (by omega) (by omega)).trans (hw.block k hk)⟩
theorem Ej (dk blob : List UInt8) (w : World) (hk : KAt w) (h32 : dk.length = 32) (hl : blob.length ≤ 800000) :
  Calls prog 45 #[.string ⟨dk.toArray⟩,.string ⟨blob.toArray⟩] w fun en w'=>∃vk,en = .returned (.tuple #[.agg (bc (opB dk blob) vk),.int .i64 (opE dk blob)])∧RdK w' vk (opK dk blob)∧Below w.heap.size w w':=by
 have hz:=fh
 have i1:((dk.length:Int) != 32)=false:=by rw[h32];rfl
 have HL:=O hl;have H32:=O h32;have HKA:=O hk;obtain⟨W0,hW0⟩:∃W0,W0=w.alloc (.cells (bc zB (.slice none 0 0)) 47):=⟨_,rfl⟩;have HW:=O hW0;have HB0:Hid (Below w.heap.size w W0):=O (by rw[hW0];exact(O_ _ _).alloc (A_ _) _);have HK0:Hid (W0.heap[w.heap.size]?=some (.cells (bc zB ah) 47 (0,0))):=O (by rw[hW0];exact al _ _ _ rfl);have hcv:=cw W0 blob;have HSB:=O (bU W0 blob);have HSR:=O (fo W0 blob (by unfold maxLen;omega));generalize Lib.bytesWorld W0 5 ⟨blob.toArray⟩=ws at hcv HSB HSR;clear hk h32 hl hW0
 go_enter func45,ntmps45
 go_upto_region 1 with fail
 rw[←HW.out]
 go_upto_region 4 with fail
 have HX1:Hid (RV (ws.alloc (.cells #[.slice (some ⟨W0.heap.size,0,none⟩) blob.length (grownCap W0 blob.length 0 5),.int .i64 0,.string ⟨#[]⟩] 154)) ws.heap.size 154 (some []) (.slice (some ⟨W0.heap.size,0,none⟩) blob.length (grownCap W0 blob.length 0 5)) 0):=O (by unfold RV;rw[Fg];exact al _ _ _ rfl);have HA1:=O ((O_ ws.heap.size ws).alloc (A_ _) (.cells #[.slice (some ⟨W0.heap.size,0,none⟩) blob.length (grownCap W0 blob.length 0 5),.int .i64 0,.string ⟨#[]⟩] 154));have HGX:Hid (w.heap.size<ws.heap.size):=O (P_ (Q_.1 HK0.out).1 HSB.out.size);generalize ws.alloc (.cells #[.slice (some ⟨W0.heap.size,0,none⟩) blob.length (grownCap W0 blob.length 0 5),.int .i64 0,.string ⟨#[]⟩] 154)=w1 at HX1 HA1 ⊢;generalize hvb:(Value.slice (some ⟨W0.heap.size,0,none⟩) blob.length (grownCap W0 blob.length 0 5))=vb at HX1 HSR;have HB1:Hid (Below W0.heap.size W0 w1):=O (HSB.out.trans (HA1.out.mono HSB.out.size));have HK1:Hid (w1.heap[w.heap.size]?=some (.cells (bc zB ah) 47 (0,0))):=O (by rw[HB1.out.block _ (Q_.1 HK0.out).1];exact HK0.out);have HRB:=O (HSR.out.on HA1.out);generalize hgx:ws.heap.size=g at HX1 HGX;clear hcv hgx hvb;have HG1:=O HX1.out.lt;have C4:=O (K4 g [] blob vb w1 HX1.out HRB.out (by have := HL.out;omega));have HMOL:Hid ((blB blob).mo.length≤800000):=O (M_ (SO _ _) (M_ (jT blob 0) HL.out));have HRR:=O (kB aL blob 0);have HHD:=O (jT blob 0);have EOE:Hid (opE dk blob=if blE blob=0 then (if blO dk blob=0 then (if ctE (blT dk blob)=0∧aI (blB blob) (ctK (blT dk blob))=false then 6 else ctE (blT dk blob)) else blO dk blob) else blE blob):=O (by unfold opE;rw[G_ H32.out]);have EOB:Hid (opB dk blob=if opE dk blob=0 then blB blob else zB):=O rfl;have EOK:Hid (opK dk blob=if opE dk blob=0 then ctK (blT dk blob) else []):=O rfl;have EBT:Hid (blT dk blob=gU (aJ dk bkL) (blH blob) (rdR aL blob 0)):=O rfl;have EBO:Hid (blO dk blob=eG (aJ dk bkL) (blH blob) (rdR aL blob 0)):=O rfl;have hbB:hdB (rdV [] aL blob 0) (rdX aL blob 0)=blB blob:=rfl;have hbE:hdX (rdV [] aL blob 0) (rdX aL blob 0)=blE blob:=rfl;have hbH:rdV [] aL blob 0=blH blob:=rfl;rw[hbB,hbE,hbH] at C4;rw[hbH] at HHD;clear hbB hbE hbH;generalize blB blob=b at C4 HMOL EOE EOB;generalize blE blob=ee at C4 EOE;generalize blH blob=hdr at C4 EBT EBO HHD;generalize rdR aL blob 0=rr at C4 EBT EBO HRR
 go_upto_if 29 with (first
  |(go_at_call 85;refine C4.out.mono ?_;rintro en w2 ⟨v2,rfl,hr2,hp2,hg2⟩;have HX2:=O hr2;have HP2:=O hp2;have HG12:=O hg2;clear hr2 hp2 hg2)
  |(refine aH (bc b ah) 47 rfl (.tmp 7) (.tmp 23) rfl _ rfl rfl rfl (by rw[aC];exact dU) (by rw[aC,aC]) (dl _ _ _ _) ?_;have c29:(w2.alloc (.cells (bc b ah) 47)).cell? ⟨g,1,none⟩=some (.int .i64 ee):=(by rw[e_ _ _ _ _ _ _ (HX2.out.on ((O_ _ _).alloc (A_ _) _))];exact gy _ ee (some hdr))))
 have HA2:=O ((O_ w2.heap.size w2).alloc (A_ _) (.cells (bc b ah) 47));have HX3:=O (HX2.out.on HA2.out);have HBK3:Hid ((w2.alloc (.cells (bc b ah) 47)).heap[w2.heap.size]?=some (.cells (bc b ah) 47 (0,0))):=O (al _ _ _ rfl);have HK2:=O (fC HK1.out HG12.out (by have := HGX.out;omega));have HK3:Hid ((w2.alloc (.cells (bc b ah) 47)).heap[w.heap.size]?=some (.cells (bc zB ah) 47 (0,0))):=O (by rw[HA2.out.block _ (Q_.1 HK2.out).1];exact HK2.out);have HGB:Hid (g<w2.heap.size):=O HX2.out.lt
 have HBW:Hid (Below w.heap.size w (w2.alloc (.cells (bc b ah) 47))):=O (by
  have q1:=HB0.out.trans (HB1.out.mono HB0.out.size);have q2:=q1.trans (iV HG12.out (Nat.le_of_lt HGX.out) HG1.out)
  exact q2.trans (HA2.out.mono q2.size))
 have HRR3:Hid (RdE eB (w2.alloc (.cells (bc b ah) 47)) v2 rr):=O ((HP2.out w2 (HX1.out.noB HRB.out HG12.out HRB.out)).on HA2.out);generalize w2.alloc (.cells (bc b ah) 47)=w3 at HX3 HBK3 HK3 HBW HRR3 c29 ⊢;generalize hgb:w2.heap.size=gb at HBK3 HGB;clear hgb c29 HA2 HK2;have HGW:Hid (w.heap.size<g):=HGX
 by_cases he:ee=0
 ·subst he
  have EO4:Hid (opE dk blob=if blO dk blob=0 then (if ctE (blT dk blob)=0∧aI b (ctK (blT dk blob))=false then 6 else ctE (blT dk blob)) else blO dk blob):=O (by rw[EOE.out,G_ rfl]);clear EOE;have hdl:(aJ dk bkL).length=32:=cE dk bkL;have HDL:=O hdl;obtain⟨va,vc2,hv2,_,_,_⟩:=HRR3.out;obtain⟨vn,hvn⟩:∃n,n=rr.length:=⟨_,rfl⟩;rw[←hvn] at hv2;subst hv2;have HKA3:=O (HKA.out.on HBW.out);generalize hdp:aJ dk bkL=dp at EBT EBO HDL;have HDP:=O hdp;have HOL:=O (xT dp hdr rr);generalize hot:gU dp hdr rr=t at EBT HOL;generalize hoe:eG dp hdr rr=oe at EBO;have HOT:=O hot;have HOE:=O hoe;generalize blT dk blob=bt at EBT EO4 EOK;generalize blO dk blob=bo at EBO EO4;have HCX:Hid ((convert 80 9 (.slice va vn vc2)).run prog w3 = .ok (.string ⟨rr.toArray⟩) w3):=O (b6 HRR3.out);clear hdl hdp hot hoe hvn
  go_upto_region 7 with fail
  try dsimp only[Act.put]
  refine aY 17 [[],[0],[],[2],[3],[4],[],[6],[7],[8],[9],[10],[1,5,11],[12],[13],[13],[14]]
   (SP.of [.eq (.string ⟨dk.toArray⟩),.eq (.string ⟨dp.toArray⟩),.eq (.pointer (some ⟨g,0,none⟩)),.eq (.pointer (some ⟨g,0,none⟩)),.eq (.pointer (some ⟨g,2,none⟩)),.eq (.string ⟨hdr.toArray⟩),.eq (.pointer (some ⟨g,0,none⟩)),.eq (.pointer (some ⟨g,0,none⟩)),.eq (.pointer (some ⟨g,0,none⟩)),.eq (.pointer (some ⟨g,0,none⟩)),.eq (.slice va vn vc2),.eq (.string ⟨rr.toArray⟩),
    .eq (.tuple #[.string ⟨t.toArray⟩,.int .i64 oe]),.eq (.tuple #[.string ⟨t.toArray⟩,.int .i64 oe]),.eq (.string ⟨t.toArray⟩),.eq (.int .i64 oe),.eq (.string ⟨t.toArray⟩)]) (fun _=>undef) ?q1 ?q2 ?q3 ?q4 ?q5 ?q6
  case q1=>kernel_rfl
  case q2=>kernel_rfl
  case q3=>kernel_rfl
  case q4 =>
   simp only[F_,c_]
   repeat (first |exact trivial|refine⟨fun vals v=>by kernel_rfl,?_⟩)
  case q5 =>
   simp only[F_,c_];refine⟨?_,?_,?_,?_,?_,?_,?_,?_,?_,?_,?_,?_,?_,?_,?_,?_,?_,trivial⟩
   all_goals (intro wq hbq vals;simp only[Nat.reduceAdd,a_,X_,W_];repeat (first |refine ar ?_|refine aw rfl ?_);have HBQ:=O hbq;have HXQ:=O (HX3.out.on hbq);clear hbq;intro Q hQ;simp only[ay,upd,Act.put,B_,C_,D_,Nat.reduceAdd,a_,Nat.reduceEqDiff,if_true,if_false,reduceIte])
   case refine_2 =>
    go_wp2_with (go_at_call 64;refine(uH dk bkL _ (HKA3.out.on HBQ.out) (by rw[H32.out];decide) (by decide)).mono ?_;rintro e x1 ⟨rfl,hx1⟩;rw[HDP.out])
    exact ab hQ _ (by kernel_rfl) hx1 rfl
   case refine_6 =>
    have c2:wq.cell? ⟨g,2,none⟩=some (.string ⟨hdr.toArray⟩):=by rw[e_ _ _ _ _ _ _ HXQ.out];exact Tr _ 0 hdr
    go_wp2;exact ab hQ _ (by kernel_rfl) (O_ _ _) rfl
   case refine_11 =>
    have c0:wq.cell? ⟨g,0,none⟩=some (.slice va vn vc2):=by rw[e_ _ _ _ _ _ _ HXQ.out];exact s9 _ 0 (some hdr)
    go_wp2;exact ab hQ _ (by kernel_rfl) (O_ _ _) rfl
   case refine_12 =>
    have hcvq:(convert 80 9 (.slice va vn vc2)).run prog wq = .ok (.string ⟨rr.toArray⟩) wq:=b6 (HRR3.out.on HBQ.out);go_wp2;exact ab hQ _ (by kernel_rfl) (O_ _ _) rfl
   case refine_13 =>
    go_wp2_with (go_at_call 88;refine(Tf dp hdr rr _ (HKA3.out.on HBQ.out)).mono ?_;rintro e x1 ⟨rfl,hx1⟩;rw[HOT.out,HOE.out])
    exact ab hQ _ (by kernel_rfl) hx1 rfl
   all_goals go_wp2
   all_goals exact ab hQ _ (by kernel_rfl) (O_ _ _) rfl
  case q6 =>
   intro w4 hb4 vals;rw[show List.range 17=[0,1,2,3,4,5,6,7,8,9,10,11,12,13,14,15,16] from by decide]
   repeat (first |refine ar ?_|refine aw rfl ?_)
   simp only[F_,c_,J_,L_];simp only[ay,upd,Act.put,B_,C_,D_,Nat.reduceAdd,a_,Nat.reduceEqDiff,if_true,if_false,reduceIte];have HX4:=O (HX3.out.on hb4);have HBK4:Hid (w4.heap[gb]?=some (.cells (bc b ah) 47 (0,0))):=O (by rw[hb4.block _ (Q_.1 HBK3.out).1];exact HBK3.out);have HK4:Hid (w4.heap[w.heap.size]?=some (.cells (bc zB ah) 47 (0,0))):=O (by rw[hb4.block _ (Q_.1 HK3.out).1];exact HK3.out);have HBW4:=O (HBW.out.trans (hb4.mono HBW.out.size));clear hb4 HCX
   by_cases ho0:oe=0
   ·subst ho0
    have EO5:Hid (opE dk blob=if ctE t=0∧aI b (ctK t)=false then 6 else ctE t):=O (by rw[EO4.out,EBO.out,G_ rfl,EBT.out]);have EOK2:Hid (opK dk blob=if opE dk blob=0 then ctK t else []):=O (by rw[EOK.out,EBT.out]);clear EO4 EOK EBT EBO HOT HOE HDP;have HTL:Hid (t.length≤800000):=O (M_ HOL.out (M_ HRR.out HL.out));have hcv4:=cw w4 t;have HSB4:=O (bU w4 t);have HSR4:=O (fo w4 t (by have := HTL.out;unfold maxLen;omega));generalize Lib.bytesWorld w4 5 ⟨t.toArray⟩=ws4 at hcv4 HSB4 HSR4
    go_upto_region 11 with fail
    have HX5:Hid (RV (ws4.alloc (.cells #[.slice (some ⟨w4.heap.size,0,none⟩) t.length (grownCap w4 t.length 0 5),.int .i64 0] 152)) ws4.heap.size 152 none (.slice (some ⟨w4.heap.size,0,none⟩) t.length (grownCap w4 t.length 0 5)) 0):=O (by unfold RV;rw[tI];exact al _ _ _ rfl);have HA5:=O ((O_ ws4.heap.size ws4).alloc (A_ _) (.cells #[.slice (some ⟨w4.heap.size,0,none⟩) t.length (grownCap w4 t.length 0 5),.int .i64 0] 152));have HGC:Hid (gb<ws4.heap.size):=O (P_ (Q_.1 HBK4.out).1 HSB4.out.size);generalize ws4.alloc (.cells #[.slice (some ⟨w4.heap.size,0,none⟩) t.length (grownCap w4 t.length 0 5),.int .i64 0] 152)=w5 at HX5 HA5 ⊢;generalize (Value.slice (some ⟨w4.heap.size,0,none⟩) t.length (grownCap w4 t.length 0 5))=vt at HX5 HSR4;have HB45:Hid (Below w4.heap.size w4 w5):=O (HSB4.out.trans (HA5.out.mono HSB4.out.size));have HBK5:Hid (w5.heap[gb]?=some (.cells (bc b ah) 47 (0,0))):=O (by rw[HB45.out.block _ (Q_.1 HBK4.out).1];exact HBK4.out);have HK5:Hid (w5.heap[w.heap.size]?=some (.cells (bc zB ah) 47 (0,0))):=O (by rw[HB45.out.block _ (Q_.1 HK4.out).1];exact HK4.out);have HBW5:=O (HBW4.out.trans (HB45.out.mono HBW4.out.size));have HRT:=O (HSR4.out.on HA5.out);generalize hgc:ws4.heap.size=gc at HX5 HGC;clear hcv4 hgc;have HGC5:=O HX5.out.lt;have C11:=O (Co gc 152 none vt t 0 w5 HX5.out HRT.out (by have := HTL.out;omega));have HPS:=O (fun x h=>M_ (qM t 0 x h) HTL.out);have EK:Hid (ctK t=(b5 (rdV [] aE t 0) (whX aE t 0)).1):=O rfl;have EE:Hid (ctE t=(b5 (rdV [] aE t 0) (whX aE t 0)).2):=O rfl;have HPN:Hid ((rdV [] aE t 0).length≤800000):=O (M_ (BU t 0) HTL.out);generalize rdV [] aE t 0=ps at C11 HPS EK EE HPN;generalize rdR aE t 0=rr5 at C11;generalize whX aE t 0=pe at C11 EK EE
    have hpni:(ps.length:Int)≤800000:=by have := HPN.out;omega
    go_wp2_with (go_at_call 89;refine C11.out.mono ?_;rintro en w6 ⟨x6,v6,rfl,ho6,hr6,hp6,hg6⟩;have HO6:=O ho6;have HX6:=O hr6;have HG56:=O hg6;obtain⟨pa,pc6,rfl,_,_,_⟩:=ho6.rd;clear hr6 hp6 hg6 ho6)
    have HBK6:=O (fC HBK5.out HG56.out (by have := HGC.out;omega));have HK6:=O (fC HK5.out HG56.out (by have := HGB.out;have := HGC.out;have := HGW.out;omega));have HBW6:=O (HBW5.out.trans (iV HG56.out (by have := HGB.out;have := HGC.out;have := HGW.out;omega) HGC5.out))
    go_loopw [63] (fun i wr=>∃j:Nat,j≤ps.length∧i = .int .i64 j∧Hid (OL w6 gb gc b v6 wr (b5 (ps.take j) pe).1 (b5 (ps.take j) pe).2)) (fun i _=>ps.length-(intOf i).toNat)
    case atStart=>exact⟨0,N_ _,rfl,O ⟨⟨ah,HBK6.out,b7.nil _ _⟩,HX6.out,fun _ _ _ _=>rfl,rfl,rfl,rfl,A_ _,by have := HGC.out;omega,(Q_.1 HBK6.out).1,HX6.out.lt⟩⟩
    case round =>
     obtain⟨j,hj,rfl,hol⟩:=hrel
     by_cases hlt:j<ps.length
     ·have j1:(j:Int)<ps.length:=by omega
      obtain⟨bp,op,rfl,hbp,aO⟩:=dQ HO6.out.rd (by omega);have hpo:w5.heap.size≤bp:=(HO6.out.lt bp rfl).1
      have cj:wr.cell? ⟨bp,op+j,none⟩=some (.string ⟨ps[j].toArray⟩):=by
       rw[World.cell?_of_block (a:=⟨bp,op+j,none⟩) (hol.out.keep bp hbp (by have := HGC.out;have := HGC5.out;omega) (by have := HGC5.out;omega))];exact aO j hlt
      have HT:=O (oY ps j hlt pe);have HSL:Hid (ps[j].length≤900000):=O (by have := HPS.out ps[j] (List.getElem_mem hlt);omega);have HKL:Hid ((b5 (ps.take j) pe).1.length≤800000):=O (by rw[xr,b_];have := HPN.out;omega);have HJ:=O hlt;have HOLD:=hol;generalize ps[j]=s at cj HT HSL;generalize (b5 (ps.take j) pe).1=ks at HT HKL hol HOLD;generalize (b5 (ps.take j) pe).2=ek at HT hol HOLD;obtain⟨vk,hbk,hown⟩:=hol.out.bk;have HOWN:=O hown;have HBKR:=O hbk;obtain⟨ka,kcp,hvk,_,_,_⟩:=hown.rd;have hvkl:∃kl,kl=ks.length:=⟨_,rfl⟩;obtain⟨kl,hkl⟩:=hvkl;rw[←hkl] at hvk;subst hvk;have HRVR:Hid (RV wr gc 152 none v6 ek):=O hol.out.rv;have HCK:=O (fun (wd:World) (h:RV wd gc 152 none v6 ek)=>V0 gc 152 none v6 ek s wd h HSL.out);generalize fV s ek=km at HT HCK;generalize dZ s ek=ek2 at HT HCK
      have c37:wr.drew.cell? ⟨gb,37,none⟩=some (.slice ka kl kcp):=by rw[e_ _ _ _ _ _ _ (show wr.drew.heap[gb]? = _ from HBKR.out)];exact iU _ _
      clear aO hpo hbp hlt hj hol hown hbk hkl
      go_upto_region 14 with fail
      try dsimp only[Act.put]
      refine sU (Rl:=fun x y=>x.grownBy y (some gc)) (E0:=fun x y=>Below x.heap.size x y) (J:=fun d x=>wr.grownBy x (some gc)∧RV x gc 152 none v6 (if d=true then ek2 else ek)) 4
       ⟨fun a b h=>grownB gc h,fun d a b h hb=>⟨dT h.1 hb,h.2.on hb⟩⟩ 6 (by decide) [[],[0],[],[],[2,3],[4]]
       (SPG.of [.eq (.pointer (some ⟨gb,37,none⟩)),.eq (.slice ka kl kcp),.eq (.pointer (some ⟨gc,0,none⟩)),.eq (.string ⟨s.toArray⟩),.eq (kv km),SPG.key gc km]) (fun i=>[u67,u68,u69,u70,u71,u72].getD i undef) ?p1 ?p2 ?p3 ?p4 ?p5 ?p6 ?p7
      case p1=>kernel_rfl
      case p2=>kernel_rfl
      case p3=>kernel_rfl
      case p4 =>
       simp only[F_,c_]
       repeat (first |exact trivial|refine⟨fun vals v=>by kernel_rfl,?_⟩)
      case p5=>exact⟨dT (iK _ _) ((O_ _ _).drew),by rw[H_ (by decide)];exact HRVR.out⟩
      case p6 =>
       simp only[F_,c_];refine⟨?_,?_,?_,?_,?_,?_,trivial⟩
       all_goals (intro d wq hd hJq vals;simp only[Nat.reduceAdd,a_,X_,W_];repeat (first |refine lM ?_|refine ft rfl ?_);intro Q hQ;simp only[ay,upd,Act.put,B_,C_,D_,Nat.reduceAdd,a_,Nat.reduceEqDiff,if_true,if_false,reduceIte])
       case refine_2 =>
        have c37q:wq.cell? ⟨gb,37,none⟩=some (.slice ka kl kcp):=by
         rw[World.cell?_of_block (a:=⟨gb,37,none⟩) (hJq.1.block gb (Q_.1 HBKR.out).1 (fun e=>HOLD.out.ne (Option.some.inj e)))];exact c37
        clear hJq hd;go_wp2;exact fN hQ _ (by kernel_rfl) (qo (by decide) (O_ _ _)) rfl
       case refine_5 =>
        rw[hd rfl] at hJq;have HJ1:=O hJq.1;have HJ2:Hid (RV wq gc 152 none v6 ek):=O (by have := hJq.2;rwa [H_ (by decide)] at this);clear hJq hd
        go_wp2_with (go_at_call 91;refine(HCK.out wq HJ2.out).mono ?_;rintro en wk ⟨rfl,hrv,hgr⟩)
        exact fN hQ _ (by kernel_rfl) (Ez hgr ⟨bg HJ1.out hgr,by rw[G_ rfl];exact hrv⟩) rfl
       case refine_6 =>
        have HJ1:=O hJq.1;have HGCQ:Hid (gc<wq.heap.size):=O hJq.2.lt;clear hJq hd;unfold kv kc;go_wp2;exact fN hQ _ (by kernel_rfl) (qo (by decide) ((O_ _ _).alloc (A_ _) _)) ⟨wq.heap.size,rfl,HGCQ.out,al _ _ _ rfl⟩
       all_goals clear hJq hd
       all_goals go_wp2
       all_goals exact fN hQ _ (by kernel_rfl) (qo (by decide) (O_ _ _)) rfl
      case p7 =>
       intro wq hJq vals;rw[show List.range 6=[0,1,2,3,4,5] from by decide];refine ft rfl (ft rfl (ft rfl (ft rfl (ft rfl (Bc rfl ?_)))));rintro _ ⟨g1,rfl,hg1,hg1r⟩;refine lM ?_;simp only[F_,c_,J_,L_];simp only[ay,upd,Act.put,B_,C_,D_,Nat.reduceAdd,a_,Nat.reduceEqDiff,if_true,if_false,reduceIte];have HGRQ:=O hJq.1;have HRVQ:Hid (RV wq gc 152 none v6 ek2):=O (by have := hJq.2;rwa [G_ rfl] at this);have HNW:Hid (RdK wq (.slice (some ⟨g1,0,none⟩) 1 1) [km]):=O (Tv hg1r);have HOWQ:Hid (b7 wq w6.heap.size (.slice ka kl kcp) ks):=O (HOWN.out.grown HGRQ.out (fun g2 hg2=>by cases hg2;exact HOWN.out.neOld HOLD.out.gc));have HSZQ:Hid (w6.heap.size≤wq.heap.size):=O (M_ HOLD.out.size HGRQ.out.size);have HBKQ:=O (fC HBKR.out HGRQ.out HOLD.out.ne);clear hJq hg1 hg1r c37
       go_upto_region 15 with (at_builtin;refine wO rfl (.tmp 68) (.tmp 72) rfl w6.heap.size _ ks rfl HOWQ.out _ [km] rfl HNW.out (by have := HKL.out;simp;omega) HSZQ.out ?_;intro v7 w7 ho7 hb7;have HO7:=O ho7;have HB7:=O hb7;have hR7:w7.heap[gb]?=some (.cells (bc b (.slice ka kl kcp)) 47 (0,0)):=(by rw[hb7.block _ HOLD.out.gb];exact HBKQ.out);have HR7:=O hR7;have c37b:w7.cell? ⟨gb,37,none⟩=some (.slice ka kl kcp):=(by rw[e_ _ _ _ _ _ _ hR7];exact iU _ _);have f37b:=frozen_of_row _ _ 37 _ _ hR7;obtain⟨k7a,k7c,hv7,_,_,_⟩:=ho7.rd;obtain⟨k7l,hk7⟩:∃n,n=(ks++[km]).length:=⟨_,rfl⟩;rw[←hk7] at hv7;subst hv7;clear ho7 hb7 hR7 hk7)
       have HW8:Hid (w7.setCell ⟨gb,37,none⟩ (.slice k7a k7l k7c)=w7.setRow gb (bc b (.slice k7a k7l k7c))):=O (by rw[au _ _ _ _ _ _ _ HR7.out,us]);rw[HW8.out];have HOL8:Hid (OL w6 gb gc b v6 (w7.setRow gb (bc b (.slice k7a k7l k7c))) (ks++[km]) ek2):=O (OX HOLD.out HGRQ.out HRVQ.out HB7.out HR7.out HO7.out);clear c37b f37b;generalize w7.setRow gb (bc b (.slice k7a k7l k7c))=w8 at HOL8 ⊢;go_wp2;go_roundw
       case rel=>exact⟨j+1,HJ.out,by go_num,O (by rw[HT.out];exact HOL8.out)⟩
       case measure=>have := HJ.out;simp[intOf];omega
     ·have hjl:j=ps.length:=by omega
      have j1:(ps.length:Int)≤j:=by omega
      have HFK:Hid (b5 (ps.take j) pe=(ctK t,ctE t)):=O (by rw[hjl,List.take_length,EK.out,EE.out]);have HNK:Hid (cQ (ctK t)):=O (by rw[EK.out];exact zh (rB ps pe));have HOLF:Hid (OL w6 gb gc b v6 wr (ctK t) (ctE t)):=O (by have := hol.out;rwa [HFK.out] at this);generalize ctK t=ks at HOLF HNK EO5 EOK2 EK HFK;generalize ctE t=ek at HOLF EO5 EE HFK;obtain⟨vk,hbk,hown⟩:=HOLF.out.bk;have HOWN:=O hown;have HBKR:=O hbk;obtain⟨ka,kcp,hvk,_,_,_⟩:=hown.rd;obtain⟨kl,hkl⟩:∃kl,kl=ks.length:=⟨_,rfl⟩;rw[←hkl] at hvk;subst hvk;have HBWR:Hid (Below w.heap.size w wr):=O (KJ HOLF.out HBW6.out (by have := HGB.out;have := HGW.out;omega) (by have := HGC.out;have := HGB.out;have := HGW.out;omega));have HKR:Hid (wr.heap[w.heap.size]?=some (.cells (bc zB ah) 47 (0,0))):=O (by rw[HOLF.out.keep _ (Q_.1 HK6.out).1 (by have := HGB.out;have := HGW.out;omega) (by have := HGC.out;have := HGB.out;have := HGW.out;omega)];exact HK6.out);have C16:=O (rf b (.slice ka kl kcp) ks wr hown.rd HNK.out.wf (by have := HMOL.out;unfold maxLen;omega));generalize hva:aI b ks=va at C16;have EVA:=O hva;generalize he6:(if ek=0∧va=false then 6 else ek)=e6;have E6:=O he6;have EO6:Hid (opE dk blob=e6):=O (by rw[EO5.out,hva];exact he6);clear hva he6 hbk hown hkl hjl hlt hj hol
      go_upto_if 80 with (first
       |(refine cH b (.slice ka kl kcp) rfl (.tmp 7) rfl gb rfl _ HBKR.out ?_)
       |(go_at_call 76;refine C16.out.mono ?_;rintro en wa ⟨rfl,hba⟩;have HBA:=O hba;have HRVA:=O (HOLF.out.rv.on hba);clear hba)
       |(go_at_call 92;refine(dK gc _ none _ ek va 6 _ HRVA.out).mono ?_;rintro en wb ⟨rfl,hwb⟩;have HGB2:=O (gm hwb);have HRVB:=O (gp HRVA.out hwb);rw[E6.out] at HRVB;clear hwb;rw[E6.out]))
      have HBKA:Hid (wa.heap[gb]?=some (.cells (bc b (.slice ka kl kcp)) 47 (0,0))):=O (by rw[HBA.out.block _ (Q_.1 HBKR.out).1];exact HBKR.out);have HBKB:=O (fC HBKA.out HGB2.out HOLF.out.ne);have HKA2:Hid (wa.heap[w.heap.size]?=some (.cells (bc zB ah) 47 (0,0))):=O (by rw[HBA.out.block _ (Q_.1 HKR.out).1];exact HKR.out);have HKB:=O (fC HKA2.out HGB2.out (by have := HGC.out;have := HGB.out;have := HGW.out;omega));have HBWA:=O (HBWR.out.trans (HBA.out.mono HBWR.out.size));have HBWB:=O (HBWA.out.trans (iV HGB2.out (by have := HGC.out;have := HGB.out;have := HGW.out;omega) HRVA.out.lt));have HOWA:=O (HOWN.out.on HBA.out);have HOWB:Hid (b7 wb w6.heap.size (.slice ka kl kcp) ks):=O (HOWA.out.grown HGB2.out (fun g2 hg2=>by cases hg2;exact HOWA.out.neOld HOLF.out.gc));have HGWC:Hid (w.heap.size<gc):=O (by have := HGC.out;have := HGB.out;have := HGW.out;omega);generalize hdc:decide (e6=0)=dc
      cases dc with
      | true =>
        have h60:e6=0:=of_decide_eq_true hdc;have EO2:Hid (opB dk blob=b):=O (by rw[EOB.out,EO6.out,G_ h60]);have EO3:Hid (opK dk blob=ks):=O (by rw[EOK2.out,EO6.out,G_ h60]);have HBF:Hid (w.heap.size<w6.heap.size):=O (Q_.1 HK6.out).1;have H60:=O h60;clear h60 hdc;have k3:=gV wb w.heap.size b zB (.slice none 0 0) ka kl kcp HKB.out
        go_wp2_with (refine cH b (.slice ka kl kcp) rfl (.tmp 7) rfl gb rfl _ HBKB.out ?_)
        refine g_ (aA rfl _ _ w.heap.size _ rfl (aX _ _ b (.slice ka kl kcp) _ (setRow_heap _ _ _ _ _ _ HKB.out))) rfl ?_;refine⟨.slice ka kl kcp,by rw[EO6.out,EO2.out,H60.out];rfl,?_,HBWB.out.trans (aK (A_ _))⟩;rw[EO3.out];exact(HOWB.out.grown (aD _ _ _) (fun g2 hg2=>by cases hg2;exact HOWB.out.neOld HBF.out)).rd
      | false =>
        have h60:¬e6=0:=of_decide_eq_false hdc;have EO2:Hid (opB dk blob=zB):=O (by rw[EOB.out,EO6.out,H_ h60]);have EO3:Hid (opK dk blob=[]):=O (by rw[EOK2.out,EO6.out,H_ h60]);have HGW2:=HGWC;clear h60 hdc;go_wp2
        have k1:wb.drew.cell? ⟨gc,1,none⟩=some (.int .i64 e6):=by rw[e_ _ _ _ _ _ _ (show wb.drew.heap[gc]? = _ from HRVB.out)];exact gy _ e6 _
        have k2:(wb.drew.setRow w.heap.size (bc zB (.slice none 0 0))).cell? ⟨gc,1,none⟩=some (.int .i64 e6):=by rw[e_ _ _ _ _ _ _ (show (wb.drew.setRow w.heap.size (bc zB (.slice none 0 0))).heap[gc]? = _ from(aj _ _ _ _ (by have := HGWC.out;omega)).trans HRVB.out)];exact gy _ e6 _
        have k3:=gV wb.drew w.heap.size zB zB (.slice none 0 0) none 0 0 HKB.out
        go_region
        all_goals go_wp2
        all_goals (refine g_ (aA rfl _ _ w.heap.size _ rfl (aX _ _ zB ah _ (setRow_heap _ _ _ _ _ _ HKB.out))) rfl ?_)
        all_goals (refine⟨ah,by rw[EO6.out,EO2.out];rfl,by rw[EO3.out];exact gF _,HBWB.out.drew.trans (aK (A_ _))⟩)
   ·have i3:(oe != 0)=true:=by simpa using ho0
    have EO1:Hid (opE dk blob=oe):=O (by rw[EO4.out,EBO.out,H_ ho0]);have EO2:Hid (opB dk blob=zB):=O (by rw[EOB.out,EO1.out,H_ ho0]);have EO3:Hid (opK dk blob=[]):=O (by rw[EOK.out,EO1.out,H_ ho0]);clear ho0;have k3:=gV w4 w.heap.size zB zB (.slice none 0 0) none 0 0 HK4.out;go_wp2;refine g_ (aA rfl _ _ w.heap.size _ rfl (aX _ _ zB ah _ (setRow_heap _ _ _ _ _ _ HK4.out))) rfl ?_;refine⟨ah,by rw[EO1.out,EO2.out];rfl,by rw[EO3.out];exact gF _,HBW4.out.trans (aK (A_ _))⟩
 ·have i2:(ee != 0)=true:=by simpa using he
  have EO1:Hid (opE dk blob=ee):=O (by rw[EOE.out,H_ he]);have EO2:Hid (opB dk blob=zB):=O (by rw[EOB.out,EO1.out,H_ he]);have EO3:Hid (opK dk blob=[]):=O (by rw[EOK.out,EO1.out,H_ he]);clear he;go_wp2
  have k1:w3.drew.cell? ⟨g,1,none⟩=some (.int .i64 ee):=by rw[e_ _ _ _ _ _ _ (show w3.drew.heap[g]? = _ from HX3.out)];exact gy _ ee _
  have k2:(w3.drew.setRow w.heap.size (bc zB (.slice none 0 0))).cell? ⟨g,1,none⟩=some (.int .i64 ee):=by rw[e_ _ _ _ _ _ _ (show (w3.drew.setRow w.heap.size (bc zB (.slice none 0 0))).heap[g]? = _ from(aj _ _ _ _ (by have := HGW.out;omega)).trans HX3.out)];exact gy _ ee _
  have k3:=gV w3.drew w.heap.size zB zB (.slice none 0 0) none 0 0 HK3.out
  go_region
  all_goals go_wp2
  all_goals (refine g_ (aA rfl _ _ w.heap.size _ rfl (aX _ _ zB ah _ (setRow_heap _ _ _ _ _ _ HK3.out))) rfl ?_)
  all_goals (refine⟨ah,by rw[EO1.out,EO2.out];rfl,by rw[EO3.out];exact gF _,HBW.out.drew.trans (aK (A_ _))⟩)
end
section
open Go.RowKit Go.Shelf
section
variable {α:Type} {okp:α→Prop} {enc:α→List UInt8} {dec:List UInt8→α × Nat × Int}
theorem zt (hc:kg okp enc dec) (z x:α) (hx:okp x) (r:List UInt8):rdV z dec (enc x++r) 0=x∧rdR dec (enc x++r) 0=r∧rdX dec (enc x++r) 0=0:=by
 have h:=hc.rt x hx r;unfold rdV rdR rdX;rw[h]
 simp
theorem Ae (hc:kg okp enc dec) (z x:α) (hx:okp x):rdV z dec (enc x) 0=x∧whX dec (enc x) 0=0:=by
 obtain⟨h1,h2,h3⟩:=zt hc z x hx [];rw[List.append_nil] at h1 h2 h3;refine⟨h1,?_⟩;unfold whX;rw[h2,h3]
 simp
theorem zq (hc:kg okp enc dec) (z:α) (r:List UInt8) (e:Int) (h:rdX dec r e=0):e=0∧r=enc (rdV z dec r e)++rdR dec r e∧okp (rdV z dec r e):=by
 rcases fM z dec r e with⟨p1,_,_,p4⟩|⟨_,p2,_,_,p5⟩|⟨p1,p2,p3,p4,_⟩
 ·rw[p4] at h;exact absurd h p1
 ·rw[p5] at h;exact absurd h p2
 ·obtain⟨k1,k2,k3⟩:=hc.back r (dec r).1 (dec r).2.1 (by rw[←p2])
  rw[p3,p4];exact⟨p1,k1,k3⟩
theorem tQ (hc:kg okp enc dec) (z:α) (r:List UInt8) (e:Int) (h:whX dec r e=0):e=0∧r=enc (rdV z dec r e)∧okp (rdV z dec r e):=by
 unfold whX at h
 split at h
 ·cases h
 ·rename_i hn
  obtain⟨h1,h2,h3⟩:=zq hc z r e h
  have h4:rdR dec r e=[]:=by
   apply List.length_eq_zero_iff.1
   exact Decidable.of_not_not (fun hq=>hn ⟨h,V_ hq⟩)
  rw[h4,List.append_nil] at h2;exact⟨h1,h2,h3⟩
end
theorem Fh (d r:List UInt8) (hd:d.length=16):rdV z16 bz (d++r) 0=d∧rdR bz (d++r) 0=r∧rdX bz (d++r) 0=0:=by
 have h:bz (d++r)=(d,16,0):=by
  unfold bz;rw[H_ (by rw[E_];omega),←hd,List.take_left]
 unfold rdV rdR rdX;rw[h]
 simp
 rw[←hd,List.drop_left]
theorem BT (r:List UInt8) (e:Int) (h:rdX bz r e=0):e=0∧r=rdV z16 bz r e++rdR bz r e∧(rdV z16 bz r e).length=16:=by
 rcases fM z16 bz r e with⟨p1,_,_,p4⟩|⟨_,p2,_,_,p5⟩|⟨p1,p2,p3,p4,_⟩
 ·rw[p4] at h;exact absurd h p1
 ·rw[p5] at h;exact absurd h p2
 ·rw[p3,p4]
  unfold bz at p2 ⊢
  split at p2
  ·cases p2
  ·rename_i hl
   rw[H_ hl];exact⟨p1,(List.take_append_drop 16 r).symm,by show (r.take 16).length=16;rw[b_];omega⟩
theorem Oi (l:List Int) (h:l.length=4):l=[l.getD 0 0,l.getD 1 0,l.getD 2 0,l.getD 3 0]:=by
 match l,h with
 | [a,b,c,d],_=>rfl
theorem Jz (l:List Int) (h:l.length=8):l=[l.getD 0 0,l.getD 1 0,l.getD 2 0,l.getD 3 0,l.getD 4 0,l.getD 5 0,l.getD 6 0,l.getD 7 0]:=by
 match l,h with
 | [a,b,c,d,e,f,g,i],_=>rfl
theorem wv {b:BK} {l:List K} (h:aI b l=true):aI b []=true:=by
 unfold aI eY at h ⊢;simp only[T_,decide_eq_true_eq] at h ⊢;refine⟨⟨h.1.1,by simp⟩,by simp⟩
theorem JW (b:BK) (hb:b.mach) (hm:b.mo.length≤800000):hdB (bh b) 0=b∧hdX (bh b) 0=(if aI b []=false then 6 else 0):=by
 obtain⟨a1,a2,a3⟩:=Fh b.dom (cd [b.ep,b.num,b.fw,b.tm]++(b.pol++aV b.mo)) hb.dom;obtain⟨c1,c2,c3⟩:=zt ko [] [b.ep,b.num,b.fw,b.tm] ⟨hb.nums,by simp⟩ (b.pol++aV b.mo);obtain⟨d1,d2,d3⟩:=Fh b.pol (aV b.mo) hb.pol;obtain⟨e1,e2⟩:=Ae hI [] b.mo (show okS b.mo by unfold okS;omega)
 have hE:hdE (bh b) 0=0:=by
  unfold hdE bh;simp only[a2,a3,c1,c3]
  simp
 have hB:hdB (bh b) 0=b:=by
  unfold hdB;simp only[hE];unfold bh;simp only[a1,a2,a3,c1,c2,d1,d2,d3,e1,if_true]
  rfl
 refine⟨hB,?_⟩;unfold hdX;simp only[hB,hE];unfold bh;simp only[a2,a3,c2,d2,d3,e2]
 simp
theorem Ol (hdr:List UInt8) (e:Int) (h:hdX hdr e=0):e=0∧bh (hdB hdr e)=hdr∧aI (hdB hdr e) []=true∧(hdB hdr e).dom.length=16∧(hdB hdr e).pol.length=16∧∀x∈[(hdB hdr e).ep,(hdB hdr e).num,(hdB hdr e).fw,(hdB hdr e).tm],okI x:=by
 unfold hdX at h;simp only at h
 split at h
 ·cases h
 ·rename_i hn
  obtain⟨k1,k2,k3⟩:=tQ hI [] _ _ h
  have hv:aI (hdB hdr e) []=true:=by
   cases hq:aI (hdB hdr e) []
   ·exact absurd ⟨h,hq⟩ hn
   ·rfl
  obtain⟨d1,d2,d3⟩:=BT _ _ k1;have hE:=d1;have hE2:=d1;unfold hdE at hE2;simp only at hE2
  split at hE2
  ·cases hE2
  ·rename_i hn2
   obtain⟨c1,c2,c3⟩:=zq ko [] _ _ hE2;obtain⟨a1,a2,a3⟩:=BT _ _ c1;have hl4:(rdV [] aB (rdR bz hdr e) (rdX bz hdr e)).length=4:=Decidable.of_not_not (fun hq=>hn2 ⟨hE2,V_ hq⟩)
   have hB:hdB hdr e={ setN { zB with dom:=rdV z16 bz hdr e } (rdV [] aB (rdR bz hdr e) (rdX bz hdr e)) with pol:=rdV z16 bz (rdR aB (rdR bz hdr e) (rdX bz hdr e)) (hdE hdr e),mo:=rdV [] aL (rdR bz (rdR aB (rdR bz hdr e) (rdX bz hdr e)) (hdE hdr e)) (rdX bz (rdR aB (rdR bz hdr e) (rdX bz hdr e)) (hdE hdr e)) }:=by
    unfold hdB;simp only[hE,if_true]
   generalize rdV [] aL (rdR bz (rdR aB (rdR bz hdr e) (rdX bz hdr e)) (hdE hdr e)) (rdX bz (rdR aB (rdR bz hdr e) (rdX bz hdr e)) (hdE hdr e))=mo at k2 k3 hB;generalize rdR bz (rdR aB (rdR bz hdr e) (rdX bz hdr e)) (hdE hdr e)=r3 at k2 d2;generalize rdV z16 bz (rdR aB (rdR bz hdr e) (rdX bz hdr e)) (hdE hdr e)=pol at d2 d3 hB;generalize rdR aB (rdR bz hdr e) (rdX bz hdr e)=r2 at d2 c2;generalize rdV [] aB (rdR bz hdr e) (rdX bz hdr e)=l at c2 c3 hl4 hB;generalize rdR bz hdr e=r1 at c2 a2;generalize rdV z16 bz hdr e=dom at a2 a3 hB;have h4:=Oi l hl4;refine⟨a1,?_,hv,?_,?_,?_⟩
   ·rw[hB]
    unfold bh setN;simp only;rw[←h4,a2,c2,d2,k2]
   ·rw[hB];exact a3
   ·rw[hB];exact d3
   ·rw[hB]
    unfold setN;simp only;rw[←h4];exact c3.1
theorem Qd (b:Bool):win (oG b) 0 1=true:=by cases b <;> decide
theorem Oz (k:K) (hk:∀x∈bO k,okI x) (hv:k.val.length≤800000):dZ (bG k) 0=0∧fV (bG k) 0=k:=by
 have hi8:=uO k;obtain⟨a1,a2⟩:=Ae lI [] [cd (bO k),k.val] ⟨by intro x hx;simp only[List.mem_cons,List.not_mem_nil,or_false] at hx;unfold okS;rcases hx with rfl|rfl <;> omega,by simp⟩;obtain⟨c1,c2⟩:=Ae ko [] (bO k) ⟨hk,by unfold bO;simp⟩
 have h1:kE1 (bG k) 0=0:=by
  unfold kE1 bG;rw[a1,a2]
  simp
 have h2:kE2 (cd (bO k))=0:=by
  unfold kE2;rw[c1,c2];unfold bO
  simp
 have h3:kN (cd (bO k))=0:=by
  unfold kN;rw[h2,c1,H_];intro hq;have h:=hq.2;unfold bO at h;rw[show (([k.id,k.ty,k.uses,k.start,k.fin,k.ver,k.par,oG k.raw]:List Int).getD 7 0)=oG k.raw from rfl,Qd] at h
  cases h
 have hE:dZ (bG k) 0=0:=by
  unfold dZ;rw[h1,G_ rfl]
  show kN ((rdV [] aE (eN [cd (bO k),k.val]) 0).getD 0 [])=0
  rw[a1];exact h3
 refine⟨hE,?_⟩;unfold fV;rw[hE,G_ rfl]
 show mkK (rdV [] aB ((rdV [] aE (eN [cd (bO k),k.val]) 0).getD 0 []) 0) ((rdV [] aE (eN [cd (bO k),k.val]) 0).getD 1 [])=k
 rw[a1]
 show mkK (rdV [] aB (cd (bO k)) 0) k.val=k
 rw[c1];unfold mkK bO
 cases k with
 | mk id ty val uses start fin ver par raw=>cases raw <;> rfl
theorem EW (s:List UInt8) (e:Int) (he:e≠0):dZ s e=e:=by
 have h1:kE1 s e=e:=by
  rcases fM [] aE s e with⟨p1,p2,p3,p4⟩|⟨p1,_⟩|⟨p1,_⟩
  ·have hw:whX aE s e=e:=by unfold whX;rw[p4,H_ (fun h=>he h.1)]
   unfold kE1;rw[hw,H_ (fun h=>he h.1)]
  ·exact absurd p1 he
  ·exact absurd p1 he
 unfold dZ;rw[h1,H_ he]
theorem Ki (s:List UInt8) (e:Int) (h:dZ s e=0):e=0∧bG (fV s e)=s:=by
 have h0:e=0:=Decidable.of_not_not (fun hq=>hq (by rw[←h,EW s e hq]));subst h0;refine⟨rfl,?_⟩;have hE:=h;unfold dZ at h
 split at h
 ·rename_i hk1
  unfold kE1 at hk1
  split at hk1
  ·cases hk1
  ·rename_i hn1
   obtain⟨_,a2,a3⟩:=tQ lI [] s 0 hk1;have hl2:(rdV [] aE s 0).length=2:=Decidable.of_not_not (fun hq=>hn1 ⟨hk1,V_ hq⟩)
   have h2:∀l:List (List UInt8),l.length=2→l=[l.getD 0 [],l.getD 1 []]:=by
    intro l hl
    match l,hl with
    | [a,b],_=>rfl
   have h3:=h2 _ hl2;unfold kN at h
   split at h
   ·cases h
   ·rename_i hn3
    have hk2:=h;unfold kE2 at hk2
    split at hk2
    ·cases hk2
    ·rename_i hn2
     obtain⟨_,c2,c3⟩:=tQ ko [] _ 0 hk2;unfold fV;rw[hE,G_ rfl];generalize (rdV [] aE s 0).getD 1 []=p1 at h3 ⊢;generalize (rdV [] aE s 0).getD 0 []=p0 at h3 c2 c3 hn2 hn3 hk2 h ⊢;have hl8:(rdV [] aB p0 0).length=8:=Decidable.of_not_not (fun hq=>hn2 ⟨hk2,V_ hq⟩)
     have hw:win ((rdV [] aB p0 0).getD 7 0) 0 1=true:=by
      cases hq:win ((rdV [] aB p0 0).getD 7 0) 0 1
      ·exact absurd ⟨h,hq⟩ hn3
      ·rfl
     generalize rdV [] aB p0 0=l at c2 hl8 hw ⊢;have h8:=Jz l hl8
     have h7:oG (l.getD 7 0 == 1)=l.getD 7 0:=by
      rw[kJ] at hw;unfold oG
      by_cases hq:l.getD 7 0=1
      ·rw[hq];rfl
      ·have : l.getD 7 0=0:=by omega
       rw[this];rfl
     have hn:bO (mkK l p1)=l:=by
      unfold bO mkK;simp only;rw[h7];exact h8.symm
     unfold bG;rw[hn,←c2]
     show eN [p0,p1]=s
     rw[←h3];exact a2.symm
 ·rename_i hk1
  exact absurd h hk1
theorem jP (s:List UInt8) (ss:List (List UInt8)) (e:Int):b5 (s::ss) e=(fV s e::(b5 ss (dZ s e)).1,(b5 ss (dZ s e)).2):=by
 have hg:∀(ss:List (List UInt8)) (acc:List K) (e:Int),ss.foldl (fun p s=>(p.1++[fV s p.2],dZ s p.2)) (acc,e)=(acc++(b5 ss e).1,(b5 ss e).2):=by
  intro ss
  induction ss with
  | nil=>intro acc e;simp[b5]
  | cons s ss ih =>
    intro acc e;unfold b5;rw[List.foldl_cons,List.foldl_cons,ih,ih]
    simp
 unfold b5;rw[List.foldl_cons];exact hg ss [fV s e] (dZ s e)
theorem JS (l:List K) (h:∀k∈l,(∀x∈bO k,okI x)∧k.val.length≤800000):b5 (l.map bG) 0=(l,0):=by
 induction l with
 | nil=>rfl
 | cons k l ih =>
   obtain⟨h1,h2⟩:=Oz k (h k (by simp)).1 (h k (by simp)).2;rw[List.map_cons,jP,h1,h2,ih (fun k hk=>h k (by simp[hk]))]
theorem GD (ss:List (List UInt8)):∀e,(b5 ss e).2=0→e=0∧((b5 ss e).1).map bG=ss:=by
 induction ss with
 | nil=>intro e h;exact⟨h,rfl⟩
 | cons s ss ih =>
   intro e h;rw[jP] at h ⊢;obtain⟨h1,h2⟩:=ih _ h;obtain⟨h3,h4⟩:=Ki s e h1;refine⟨h3,?_⟩;rw[List.map_cons,h4,h2]
theorem Sb (l:List K) (h:∀k∈l,(∀x∈bO k,okI x)∧k.val.length≤800000) (hl:l.length≤800000):ctK (b9 l)=l∧ctE (b9 l)=0:=by
 obtain⟨a1,a2⟩:=Ae lI [] (l.map bG) ⟨by
  intro x hx;obtain⟨k,hk,rfl⟩:=List.mem_map.1 hx;have := lK k;have := (h k hk).2;unfold okS
  omega,by rw[List.length_map];omega⟩
 have hf:=JS l h;unfold ctK ctE b9;rw[a1,a2,hf];exact⟨rfl,rfl⟩
theorem NX (t:List UInt8) (h:ctE t=0):b9 (ctK t)=t:=by
 unfold ctE at h;obtain⟨h1,h2⟩:=GD _ _ h;obtain⟨_,h4,_⟩:=tQ lI [] t 0 h1;unfold b9 ctK;rw[h2];exact h4.symm
theorem Ps (dk:List UInt8) (b:BK) (l:List K) (hb:b.mach) (hn:cQ l) (h:ch dk b l=true):opE dk (bX dk b l)=0∧opB dk (bX dk b l)=b∧opK dk (bX dk b l)=l:=by
 have h2:dk.length=32∧aI b l=true:=by unfold ch at h;simpa using h
 obtain⟨h32,hval⟩:=h2;obtain⟨m1,m2,m3⟩:=iO hval;obtain⟨hl1,hl2⟩:=jC b (hb.wf (by omega));have hcl:=nI hval;obtain⟨a1,a2,a3⟩:=zt hI [] (bh b) (show okS (bh b) by unfold okS;omega) (bQ (aJ dk bkL) (bh b) (b9 l));have hH:blH (bX dk b l)=bh b:=a1;have hR:rdR aL (bX dk b l) 0=bQ (aJ dk bkL) (bh b) (b9 l):=a2;have hX:rdX aL (bX dk b l) 0=0:=a3;obtain⟨c1,c2⟩:=JW b hb (by omega)
 have hB:blB (bX dk b l)=b:=by unfold blB;rw[hH,hX,c1]
 have hE:blE (bX dk b l)=0:=by
  unfold blE;rw[hH,hX,c2,wv hval]
  rfl
 have hsE:fF (aJ dk bkL) (bh b) (b9 l)=0:=by
  unfold fF;rw[G_ (cE _ _),H_ (by omega)]
 have hsX:eu (aJ dk bkL) (bh b) (b9 l)=bQ (aJ dk bkL) (bh b) (b9 l):=by
  unfold eu;rw[G_ ⟨cE _ _,by omega⟩]
 obtain⟨o1,o2,_⟩:=Dg (aJ dk bkL) (bh b) (b9 l) hsE;rw[hsX] at o1 o2
 have hT:blT dk (bX dk b l)=b9 l:=by unfold blT;rw[hH,hR,o1]
 have hO:blO dk (bX dk b l)=0:=by unfold blO;rw[hH,hR,o2]
 obtain⟨e1,e2⟩:=Sb l (by
  intro k hk;obtain⟨i,hi,rfl⟩:=List.mem_iff_getElem.1 hk;have q1:=hn i hi;have q2:=pM (pL hval i hi);rw[az l i hi] at q1 q2
  exact⟨q1,by omega⟩) (by omega)
 have hop:opE dk (bX dk b l)=0:=by
  unfold opE;rw[G_ h32,G_ hE,G_ hO,hT,hB,e1,e2,hval]
  rfl
 refine⟨hop,?_,?_⟩
 ·unfold opB;rw[G_ hop,hB]
 ·unfold opK;rw[G_ hop,hT,e1]
theorem Fs (dk blob : List UInt8) (h : opE dk blob = 0) : ch dk (opB dk blob) (opK dk blob) = true ∧ bX dk (opB dk blob) (opK dk blob) = blob ∧ (opB dk blob).dom.length = 16 ∧ (opB dk blob).pol.length = 16 ∧ (∀ x ∈ [(opB dk blob).ep, (opB dk blob).num, (opB dk blob).fw, (opB dk blob).tm], okI x) := by
 have hop:=h;unfold opE at h
 split at h
 ·rename_i h32
  split at h
  ·rename_i hE
   split at h
   ·rename_i hO
    split at h
    ·cases h
    ·rename_i hn
     have hv:aI (blB blob) (ctK (blT dk blob))=true:=by
      cases hq:aI (blB blob) (ctK (blT dk blob))
      ·exact absurd ⟨h,hq⟩ hn
      ·rfl
     have hB:opB dk blob=blB blob:=by unfold opB;rw[G_ hop]
     have hK:opK dk blob=ctK (blT dk blob):=by unfold opK;rw[G_ hop]
     have hE2:=hE;unfold blE at hE2;obtain⟨x1,x2,_,x4,x5,x6⟩:=Ol _ _ hE2;obtain⟨_,y2,_⟩:=zq hI [] blob 0 x1;have hc:=NX _ h;have hdl:=cE dk bkL
     have hrr : rdR aL blob 0 = bQ (aJ dk bkL) (blH blob) (blT dk blob) := by
      have hO2:=hO;unfold blO eG at hO2;rw[G_ hdl] at hO2
      split at hO2
      ·cases hO2
      ·rename_i q2
       split at hO2
       ·cases hO2
       ·rename_i q3
        split at hO2
        ·rename_i q4
         obtain⟨x,hx⟩:=Option.isSome_iff_exists.1 q4
         have hT:blT dk blob=x:=by
          unfold blT gU;rw[G_ ⟨hdl,q2,q3⟩,hx]
          rfl
         rw[hT];exact yk _ _ _ _ (by omega) hx
        ·cases hO2
     have hhd:bh (blB blob)=blH blob:=x2;rw[hB,hK];refine⟨by unfold ch;rw[decide_eq_true h32,hv];rfl,?_,x4,x5,x6⟩;unfold bX;rw[hhd,hc,←hrr];exact y2.symm
   ·rename_i hO;exact absurd h hO
  ·rename_i hE;exact absurd h hE
 ·cases h
end
end Go.Proofs.YtmfiaadjdbemnaaGreatDoor
