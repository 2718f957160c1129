/- Contracts and lemmas. No condition. -/
import Derived.Test.YtmfiaadjdbemnaaGreatDoorLFound06
import Derived.Test.YtmfiaadjdbemnaaGreatDoorLFound07
import Derived.Test.YtmfiaadjdbemnaaGreatDoorSB30
set_option maxRecDepth 100000
set_option maxHeartbeats 8000000
set_option linter.unusedSimpArgs false
set_option linter.unusedVariables false
namespace Go.Proofs.YtmfiaadjdbemnaaGreatDoor
open Go.Proofs.Tryz
section
open Go.RowKit Go.Shelf
attribute [local irreducible] Calls am brow stv sg zst sha aV
theorem G1 (c:UInt8) (t:Int) (ht:t=B8 c) (v:Value) (l:List (List UInt8)) (w:World) (hv:RdE eS w v l) (hl:(ofM c l).length≤900000) (hn:l.length≤1000) :
  Calls prog 72 #[.int .i64 t,v] w fun e w'=>∃v',e = .returned v'∧ap eB w' w.heap.size v' (ofM c l)∧Below w.heap.size w w':=by
 have HL:=O hl;obtain⟨a,cap,rfl,_,_,_⟩:=id hv
 have hni:(l.length:Int)≤1000:=by omega
 have hw8:IntKind.u8.wrap t=B8 c:=by rw[ht];exact Xm c
 have hm8:t % 256=B8 c:=by rw[←IntKind.wrap_u8];exact hw8
 have HB0:Hid (Below w.heap.size w (w.alloc (.cells #[.int .u8 (B8 c)] 5))):=O ((O_ _ _).alloc (A_ _) _);have HO0:Hid (ap eB (w.alloc (.cells #[.int .u8 (B8 c)] 5)) w.heap.size (.slice (some ⟨w.heap.size,0,none⟩) 1 1) (ofM c (l.take 0))):=O ⟨rfl,.inr ⟨w.heap.size,1,_,rfl,A_ _,heap_alloc_new _ _,A_ _,by unfold maxLen;omega,rfl,rfl⟩⟩;have HV:=O hv;clear hl hn ht hv
 go_enter func72,ntmps72
 go_wp2
 go_loopw [6,5] (fun i o wr=>∃j:Nat,j≤l.length∧i = .int .i64 j∧Hid (ap eB wr w.heap.size o (ofM c (l.take j)))∧Hid (Below w.heap.size w wr)) (fun i _ _=>l.length-(intOf i).toNat)
 case atStart=>exact⟨0,N_ _,rfl,HO0,HB0⟩
 case round =>
  obtain⟨j,hj,rfl,hown,hb⟩:=hrel
  by_cases hlt:j<l.length
  ·have j1:(j:Int)<l.length:=by omega
   obtain⟨bb,off,rfl,hbl,aO⟩:=dQ (HV.out.on hb.out) (by omega);have cj:=aO j hlt;have HN:=O (Bz c l j hlt);have hml:=qH c l (j+1);rw[HN.out,E_] at hml
   have hxl:l[j].length≤(aV l[j]).length:=by unfold aV;rw[E_];omega
   generalize l[j]=x at cj HN hml hxl;generalize ofM c (l.take j)=M at hown HN hml;have HML:Hid (M.length+(aV x).length≤900000∧x.length≤900000):=O (by have := HL.out;omega);have HJ:=O hlt;clear aO hlt hml hxl
   go_wp2_with (first
    |(go_at_call 84;refine(lH x _ HML.out.2).mono ?_;rintro e w2 ⟨v2,rfl,ho2,hb2⟩;have HO2:=O ho2;have HB2:=O hb2;clear ho2 hb2)
    |(at_builtin;refine br aN rfl (.tmp 16) (.tmp 21) rfl w.heap.size _ _ rfl (hown.out.on HB2.out) _ (aV x) rfl HO2.out.rd (by have := HML.out;omega) (M_ hb.out.size HB2.out.size) ?_;intro v3 w3 ho3 hg3 _;have HO3:=O ho3;have HB3:Hid (Below w.heap.size w w3):=(O ((hb.out.trans (HB2.out.mono hb.out.size)).grown hg3 (M_ hb.out.size HB2.out.size) (fun k hk2=>(hown.out.lt k hk2).1)));clear ho3 hg3))
   go_roundw
   case rel=>exact⟨j+1,HJ.out,by go_num,O (by rw[HN.out];exact HO3.out),HB3⟩
   case measure=>have := HJ.out;simp[intOf];omega
  ·have he:j=l.length:=by omega
   have j1:¬(j:Int)<l.length:=by omega
   have HF:Hid (ap eB wr w.heap.size u5 (ofM c l)):=O (by have h:=hown.out;rw[he,List.take_length] at h;exact h);clear he hlt hj hown;go_wp2;go_ret;exact⟨_,rfl,HF.out,hb.out⟩
theorem PG (v:Value) (m:List UInt8) (w:World) (hk:cA w) (hv:RdE eB w v m) (hl:m.length≤400000) :
  Calls prog 71 #[v] w fun e w'=>e = .returned (.agg (am ((sha m).take 16)))∧Below w.heap.size w w':=by
 have hz:=ja;have hz3:=oy;obtain⟨a,cap,rfl,_,_,_⟩:=id hv;obtain⟨W0,hW0⟩:∃W0,W0=w.alloc (.cells (am z16) 23):=⟨_,rfl⟩;have HW:=O hW0
 have HX:Hid (∀u,Below W0.heap.size W0 u→u.heap[w.heap.size]?=some (.cells (am z16) 23 (0,0))∧Below w.heap.size w u):=O (by
  intro u h;rw[hW0] at h
  exact⟨by rw[h.block _ (by simp)];exact al _ _ _ rfl,cJ _ _ h⟩)
 have HSM:=O (FC (.slice a m.length cap) m W0 (by rw[hW0];exact hv.alloc _) (by rw[hW0];exact hk.on ((O_ _ _).alloc (A_ _) _)) hl);have HSL:=O (ew m);generalize sha m=sm at HSM HSL ⊢;have HZ:=O (uN sm);have HFU:=O (uM sm);clear hW0 hk hv hl
 go_enter func71,ntmps71
 go_upto_region 1 with fail
 rw[←HW.out]
 go_upto_region 2 with (first
  |(go_at_call 115;refine HSM.out.mono ?_;rintro e w1 ⟨rfl,hb1⟩;have HB1:=O hb1;clear hb1)
  |(refine aH (brow sm) 139 rfl (.tmp 3) (.tmp 7) rfl _ rfl rfl rfl (ir _ HSL.out) (by rw[bV,bV,HSL.out];rfl) (iW _) ?_))
 have HR3:Hid ((w1.alloc (.cells (brow sm) 139)).heap[w1.heap.size]?=some (.cells (brow sm) 139 (0,0))):=O (heap_alloc_new _ _);have HB3:Hid (Below W0.heap.size W0 (w1.alloc (.cells (brow sm) 139))):=O (HB1.out.alloc HB1.out.size _);generalize hw3:w1.alloc (.cells (brow sm) 139)=w3 at HR3 HB3 ⊢;generalize hg3:w1.heap.size=g3 at HR3 ⊢;clear hw3 hg3
 go_upto_region 3 with (first
  |(refine p8 rfl rfl ?_)
  |(refine aH (am z16) 23 rfl (.tmp 4) (.tmp 8) rfl _ rfl rfl rfl (by rw[aF];exact cC) (by rw[aF]) (jO _) ?_))
 have HR4:Hid ((w3.alloc (.cells (am z16) 23)).heap[w3.heap.size]?=some (.cells (am z16) 23 (0,0))):=O (heap_alloc_new _ _);have HA4:=O ((O_ w3.heap.size w3).alloc (A_ _) (.cells (am z16) 23));have HR34:=O (aa HR3.out HA4.out);have HB4:=O (HB3.out.trans (HA4.out.mono HB3.out.size));have HG34:Hid (g3<w3.heap.size):=O (Q_.1 HR3.out).1;have HG40:Hid (W0.heap.size≤w3.heap.size):=O HB3.out.size;generalize hw4:w3.alloc (.cells (am z16) 23)=w4 at HR4 HR34 HB4 ⊢;generalize hg4:w3.heap.size=g4 at HR4 HG34 HG40 ⊢;clear hw4 hg4 HA4;go_wp2
 go_loopw [5] (fun o wr=>∃j:Nat,j≤16∧o = .int .i64 j∧Hid (wr.heap[g4]?=some (.cells (mS sm j) 23 (0,0)))∧Hid (wr.heap[g3]?=some (.cells (brow sm) 139 (0,0)))∧Hid (Below W0.heap.size W0 wr)) (fun o _=>16-(intOf o).toNat)
 case atStart=>exact⟨0,N_ _,rfl,O (by rw[HZ.out];exact HR4.out),HR34,HB4⟩
 case round =>
  obtain⟨j,hj,rfl,hg,hr,hb⟩:=hrel
  by_cases hlt:j<16
  ·have j1:(j:Int)<16:=by omega
   have j2:(j:Int)<32:=by omega
   have j3:j<32:=by omega
   have cj:wr.cell? ⟨g3,j,none⟩=some (.int .u8 (B8 (byteAt sm j))):=by rw[e_ _ _ _ _ _ _ hr.out];exact nH sm j (by have := HSL.out;omega)
   have c9:wr.cell? ⟨g4,j,none⟩=some (.int .u8 0):=by rw[e_ _ _ _ _ _ _ hg.out];exact AL sm j hlt
   have f9:=frozen_of_row _ _ j _ _ hg.out;have HW4:Hid (wr.setCell ⟨g4,j,none⟩ (.int .u8 (B8 (byteAt sm j)))=wr.setRow g4 (mS sm (j+1))):=O (by rw[au _ _ _ _ _ _ _ hg.out,xg sm j hlt]);have HJ:=O hlt;clear hlt;go_wp2;go_roundw
   case rel=>exact⟨j+1,HJ.out,by go_num,O (by rw[HW4.out];exact setRow_heap _ _ _ _ _ _ hg.out),O (by rw[HW4.out,aj _ _ _ _ (by have := HG34.out;omega)];exact hr.out),O (by rw[HW4.out];exact hb.out.trans (aK HG40.out))⟩
   case measure=>have := HJ.out;simp[intOf];omega
  ·have he:j=16:=by omega
   have j1:¬(j:Int)<16:=by omega
   have HG:Hid (wr.heap[g4]?=some (.cells (am (sm.take 16)) 23 (0,0))):=O (by rw[←HFU.out,←he];exact hg.out);have HQ:=O (HX.out _ hb.out);clear he hlt hj hg
   go_wp2_with (first
    |(refine wpList_load_row rfl 23 (.tmp 4) rfl g4 rfl _ (am (sm.take 16)) (0,0) _ HG.out underlying23 rfl (by rw[aF];exact cC) ?_)
    |(refine aM (T:=23) (am (sm.take 16)) (by rw[aF];exact cC) rfl (.tmp 2) (.tmp 18) rfl w.heap.size (am z16) rfl rfl (jO _) (by rw[aF,aF]) HQ.out.1 ?_;intro we hge hoe hbe))
   refine g_ (results_cell_row rfl _ _ w.heap.size _ (am (sm.take 16)) (0,0) _ rfl hge underlying23 rfl (by rw[aF];exact cC)) rfl ?_;exact⟨rfl,HQ.out.2.trans (hbe _ (A_ _))⟩
theorem Wm (c:UInt8) (t:Int) (ht:t=B8 c) (v:Value) (l:List (List UInt8)) (w:World) (hk:cA w) (hv:RdE eS w v l) (hl:(ofM c l).length≤400000) (hn:l.length≤1000) :
  Calls prog 37 #[.int .i64 t,v] w fun e w'=>e = .returned (.agg (am (ofP c l)))∧Below w.heap.size w w':=by
 have hz:=ja;obtain⟨a,cap,rfl,_,_,_⟩:=id hv;obtain⟨W0,hW0⟩:∃W0,W0=w.alloc (.cells (am z16) 23):=⟨_,rfl⟩;have HW:=O hW0
 have HX:Hid (∀u,Below W0.heap.size W0 u→u.heap[w.heap.size]?=some (.cells (am z16) 23 (0,0))∧Below w.heap.size w u∧cA u):=O (by
  intro u h;rw[hW0] at h;have h2:=cJ _ _ h
  exact⟨by rw[h.block _ (by simp)];exact al _ _ _ rfl,h2,hk.on h2⟩)
 have HIN:=O (G1 c t ht (.slice a l.length cap) l W0 (by rw[hW0];exact hv.alloc _) (by omega) hn);have HSH:=O (fun (v:Value) (y:World) (a:cA y) (h:RdE eB y v (ofM c l))=>PG v (ofM c l) y a h hl);have HP:Hid ((sha (ofM c l)).take 16=ofP c l):=O rfl;rw[HP.out] at HSH;clear hW0 hk hv hl hn ht
 go_enter func37,ntmps37
 go_upto_region 1 with fail
 rw[←HW.out]
 go_wp2_with (first
  |(go_at_call 72;refine HIN.out.mono ?_;rintro e w1 ⟨v1,rfl,ho1,hb1⟩;have HO1:=O ho1;have HB1:=O hb1;clear ho1 hb1)
  |(go_at_call 71;refine(HSH.out _ _ (HX.out _ HB1.out).2.2 HO1.out.rd).mono ?_;rintro e w2 ⟨rfl,hb2⟩;have HB2:=O (HX.out _ (HB1.out.trans (hb2.mono HB1.out.size)));clear hb2)
  |(refine aM (T:=23) (am (ofP c l)) (by rw[aF];exact cC) rfl (.tmp 4) (.tmp 8) rfl w.heap.size (am z16) rfl rfl (jO _) (by rw[aF,aF]) HB2.out.1 ?_;intro we hge hoe hbe))
 refine g_ (results_cell_row rfl _ _ w.heap.size _ (am (ofP c l)) (0,0) _ rfl hge underlying23 rfl (by rw[aF];exact cC)) rfl ?_;exact⟨rfl,HB2.out.2.1.trans (hbe _ (A_ _))⟩
end
section
open Go.RowKit Go.Shelf
theorem Hb (sec st:List UInt8) (m i N:Nat) (h:(i+1)*m≤N):fK sec (st.take N) m i=fK sec st m i:=by
 unfold fK;rw[Nat.add_mul,Nat.one_mul] at h;rw[List.drop_take,List.take_take,Nat.min_eq_left (by omega)]
theorem Gs (sec st:List UInt8) (m k N:Nat) (h:sec.length*m≤N):fE sec (st.take N) m k=fE sec st m k:=by
 refine Fld.ext_at (by rw[dR,dR]) (fun j hj => ?_);rw[dR] at hj;rw[fE,fE,Fld.tab_at,Fld.tab_at,G_ hj,G_ hj,Hb _ _ _ _ _ (M_ (Nat.mul_le_mul_right m hj) h)]
theorem Cc (set sec st:List UInt8) (m n N:Nat) (h:sec.length*m≤N):dh set sec (st.take N) m n=dh set sec st m n:=by
 unfold dh shP;simp only[Gs sec st m _ N h]
theorem CO (sec st:List UInt8) (m k i:Nat) (h:i<sec.length):(fE sec st m k).take (i+1)=(fE sec st m k).take i++[F6.ev (fK sec st m i) (UInt8.ofNat k)]:=by
 have h1:i<(fE sec st m k).length:=by rw[dR];exact h
 rw[List.take_succ_eq_append_getElem h1]
 congr 2
 have h2:byteAt (fE sec st m k) i=(fE sec st m k)[i]:=by simp[byteAt,h1]
 rw[←h2,fE,Fld.tab_at,G_ h]
theorem xY (sec st:List UInt8) (m i:Nat) (h:(i+1)*m≤st.length):(fK sec st m i).length=m+1:=by
 unfold fK;rw[Nat.add_mul,Nat.one_mul] at h;rw[Z_,b_,S_]
 omega
theorem Dv (sec st:List UInt8) (m i j:Nat) (h:(i+1)*m≤st.length) (hj:j<m):(fK sec st m i).take (j+1+1)=(fK sec st m i).take (j+1)++[byteAt st (i*m+j)]:=by
 have hl:=xY sec st m i h;rw[List.take_succ_eq_append_getElem (by omega)]
 congr 2
 rw[Nat.add_mul,Nat.one_mul] at h
 simp[fK,byteAt,show i*m+j<st.length by omega]
theorem Hc (sec st:List UInt8) (m i:Nat):(fK sec st m i).take (0+1)=[byteAt sec i]:=by simp[fK]
theorem mA {ops:Array Oper} {rest:List Oper} {o:Oper} {a:Act} {w:World} {Q:Exit→Act→World→Prop} (s:List UInt8)
  (hgd:Region.wanted o (yielded ops a.tmps)=true) (x:Operand) (ho:o.op = .load 34 x)
  (g:Nat) (hx:a.eval x = .pointer (some ⟨g,0,none⟩)) (T':TypeId) (hg:w.heap[g]?=some (.cells (ag s) T' (0,0)))
  (h:wpList prog ops Q rest (a.put o.dst (.agg (ag s))) w):wpList prog ops Q (o::rest) a w :=
 wpList_step fun K hK=>by
  rw[G_ hgd];exact wp_load_row _ x ho g hx _ (ag s) (0,0) _ hg underlying34 rfl qA (hK _ _ h)
theorem Ho (s:List UInt8) (k:Nat) (h:s.length≤400000):(sdN s k).length≤400000:=by
 cases k with
 | zero=>exact h
 | succ k=>simp only[sdN,im];omega
theorem Lx (s:List UInt8) (k:Nat):sdN s (k+1)=nxS (sdN s k):=rfl
theorem Ma (s:List UInt8) (k:Nat):stm s k++nxV (sdN s k)=stm s (k+1):=rfl
theorem Ta (w:World) (s:SH):RdE eH (w.alloc (.cells (shA s) 103)) (.slice (some ⟨w.heap.size,0,none⟩) 1 1) [s]:=bP w s oI
theorem ii (a:List UInt8):(prog.info? 34).map (·.size)=some (ag a).size:=qA
theorem qP (a b:List UInt8):(ag a).size=(ag b).size:=rfl
attribute [local irreducible] Calls shc shA ofP stm sdN ag fK fE F6.ev
theorem Lp (sec seed : List UInt8) (m n : Nat) (w : World) (hk : cA w) (h1 : 1 ≤ sec.length) (h2 : sec.length ≤ 64) (h3 : n ≤ 16) (h4 : m + 1 ≤ n) (h5 : seed.length = 32) :
  Calls prog 39 #[.string ⟨sec.toArray⟩,.int .i64 ((m:Int)+1),.int .i64 n,.string ⟨seed.toArray⟩] w fun e w'=>∃v,e = .returned (.tuple #[v,.int .i64 0])∧ap eH w' w.heap.size v (dh (ofP 3 [sec,seed]) sec (ez seed (sec.length*m)) m n)∧Below w.heap.size w w':=by
 have hz:=tW;have hzd:=ja;have hNB:sec.length*m≤64*16:=Nat.mul_le_mul h2 (by omega);have hRow:∀i,i<sec.length→(i+1)*m≤sec.length*m:=fun i hi=>Nat.mul_le_mul_right m hi;obtain⟨N,hN⟩:∃N:Nat,N=sec.length*m:=⟨_,rfl⟩;rw[←hN] at hNB hRow
 have hNi:(sec.length:Int)*(m:Int)=(N:Int):=by rw[hN];simp
 have HOFL:Hid ((ofM 3 [sec,seed]).length≤400000):=O (by
  have h7:=cg (sec.length:Int);have h8:=cg (seed.length:Int);unfold ofM;simp only[eL,fj,aV,Z_,E_,List.length_nil]
  omega)
 obtain⟨M,hM⟩:∃M:Nat,M=nOf N:=⟨_,rfl⟩;have HM:Hid (∀k:Nat,(k<M↔32*(k:Int)<N)):=O (fun k=>by rw[hM];unfold nOf;omega);have HMN:Hid (N≤32*M∧M≤33):=O (by rw[hM];unfold nOf;omega);have HCUT:Hid (∀set,dh set sec (ez seed (sec.length*m)) m n=dh set sec (stm seed M) m n):=O (fun set=>by rw[hM,hN];exact Cc _ _ _ _ _ _ (A_ _));have hlen0:(stm seed M).length=32*M:=kG seed M;have HROWS:Hid (∀i,i<sec.length→(i+1)*m≤(stm seed M).length):=O (fun i hi=>by rw[hlen0];exact M_ (hRow i hi) HMN.out.1);have HSL:Hid ((stm seed M).length≤1100):=O (by rw[hlen0];have := HMN.out.2;omega);have HK:=O hk;have HLEN:=O (show 1≤sec.length∧sec.length≤64∧n≤16∧m+1≤n∧seed.length=32 from⟨h1,h2,h3,h4,h5⟩)
 have i1:¬(sec.length:Int)<1:=by omega
 have i2:¬(64:Int)<sec.length:=by omega
 have i3:¬(16:Int)<n:=by omega
 have i4:¬(n:Int)<(m:Int)+1:=by omega
 have i5:((seed.length:Int) != 32)=false:=by rw[h5];rfl
 have i6:(m:Int)≤16:=by omega
 have i7:(N:Int)≤1024:=by omega
 have i8:¬(n:Int)<1:=by omega
 have i9:¬(m:Int)+1<1:=by omega
 have ia:(sec.length:Int)≤64:=by omega
 have ib:(1:Int)≤sec.length:=by omega
 have ic:(n:Int)≤16:=by omega
 clear hk h1 h2 h3 h4 hN hM hNB hRow hlen0
 go_enter func39,ntmps39
 go_upto_region 5 with (first
  |(refine yH seed rfl (.tmp 52) rfl rfl ?_)
  |(refine aH (ag seed) 34 rfl (.tmp 11) (.tmp 53) rfl _ rfl rfl rfl (ii _) (qP _ _) (aS _) ?_))
 simp only[Act.put];have HA9:Hid (Below w.heap.size w (w.alloc (.cells (ag seed) 34))∧(w.alloc (.cells (ag seed) 34)).heap[w.heap.size]?=some (.cells (ag (sdN seed 0)) 34 (0,0))):=O ⟨(O_ _ _).alloc (A_ _) _,by unfold sdN;exact heap_alloc_new _ _⟩;generalize w.alloc (.cells (ag seed) 34)=w9 at HA9 ⊢;go_wp2
 go_loopw [10,12] (fun st i wr=>∃k:Nat,k≤M∧i = .int .i64 k∧st = .string ⟨(stm seed k).toArray⟩∧Hid (wr.heap[w.heap.size]?=some (.cells (ag (sdN seed k)) 34 (0,0)))∧Hid (Below w.heap.size w wr)) (fun _ i _=>M-(intOf i).toNat)
 case atStart=>exact⟨0,N_ _,rfl,by unfold stm;rfl,O HA9.out.2,O HA9.out.1⟩
 case round =>
  obtain⟨k,hk,rfl,rfl,aO,hb⟩:=hrel
  have k33:(k:Int)≤33:=by have := HMN.out.2;omega
  rename World=>wo
  by_cases hlt:k<M
  ·have k1:32*(k:Int)<N:=(HM.out k).1 hlt
   have HKL:=O hlt;have HNX:Hid (∀y,Below w.heap.size w y→Calls prog 36 #[.agg (ag (sdN seed k))] y fun e w'=>e = .returned (.tuple #[.string ⟨(nxV (sdN seed k)).toArray⟩,.agg (ag (sdN seed (k+1)))])∧Below y.heap.size y w'):=O (fun y hy=>by rw[Lx];exact tD (sdN seed k) y (HK.out.on hy) (by have h:=Ho seed k (by have := HLEN.out;omega);exact h));have HST:Hid (stm seed k++nxV (sdN seed k)=stm seed (k+1)):=O (Ma seed k)
   have hsl1:(stm seed k).length≤1100:=by rw[kG];have := HMN.out;omega
   have hnl:=cL (sdN seed k);generalize hs1:sdN seed (k+1)=s1 at HNX;have HS1:=O hs1;generalize sdN seed k=s0 at HNX aO HST hnl;generalize nxV s0=nv at HNX HST hnl;generalize stm seed k=t0 at HST hsl1;clear hlt hk hs1
   go_upto_region 10 with (first
    |(refine mA s0 rfl (.tmp 11) rfl w.heap.size rfl _ aO.out ?_)
    |(go_at_call 36;refine(HNX.out _ hb.out).mono ?_;rintro e y1 ⟨rfl,hy1⟩;have HB1:Hid (Below w.heap.size w y1):=O (hb.out.trans (hy1.mono hb.out.size));have HR1:=O (aa aO.out hy1);clear hy1)
    |(refine aH (ag s1) 34 rfl (.tmp 14) (.tmp 68) rfl _ rfl rfl rfl (ii _) (qP _ _) (aS _) ?_))
   try simp only[Act.put]
   have HA2:Hid (Below y1.heap.size y1 (y1.alloc (.cells (ag s1) 34))∧(y1.alloc (.cells (ag s1) 34)).heap[y1.heap.size]?=some (.cells (ag s1) 34 (0,0))):=O ⟨(O_ _ _).alloc (A_ _) _,heap_alloc_new _ _⟩;generalize y1.alloc (.cells (ag s1) 34)=y2 at HA2 ⊢;have HB2:=O (HB1.out.trans (HA2.out.1.mono HB1.out.size));have HR2:=O (aa HR1.out HA2.out.1);have HG2:=O HA2.out.2;generalize y1.heap.size=g2 at HG2 ⊢;clear HA2 HR1 HB1
   go_wp2_with (first
    |(refine mA s1 rfl (.tmp 14) rfl g2 rfl _ HG2.out ?_)
    |(refine aM (T:=34) (ag s1) (ii _) rfl (.tmp 11) (.tmp 72) rfl w.heap.size (ag s0) rfl rfl (aS _) (qP _ _) HR2.out ?_;intro w7 hge7 hoe7 hbe7;have HB7:=O (HB2.out.trans (hbe7 _ (A_ _)));have HR7:=O hge7;clear hge7 hoe7 hbe7))
   go_roundw
   case rel=>exact⟨k+1,HKL.out,by go_num,by rw[←HST.out];try simp,O (by rw[HS1.out];exact HR7.out),HB7⟩
   case measure=>have := HKL.out;simp[intOf];omega
  ·have he : k = M := by omega
   have k1:¬32*(k:Int)<N:=fun h=>hlt ((HM.out k).2 h);subst he;generalize stm seed k=st at HROWS HSL HCUT ⊢;have HB0:=hb;clear hlt hk aO
   go_upto_region 12 with fail
   have HOF:Hid (∀(y:World) (v:Value),cA y→RdE eS y v [sec,seed]→Calls prog 37 #[.int .i64 3,v] y fun e w'=>e = .returned (.agg (am (ofP 3 [sec,seed])))∧Below y.heap.size y w'):=O (fun y v a h=>Wm 3 3 rfl v [sec,seed] y a h HOFL.out (by simp));generalize hdg:ofP 3 [sec,seed]=dg at HOF ⊢;have HDG:=O hdg;clear hdg;have HROW:Hid (RdE eS (wo.alloc (.cells #[.string ⟨sec.toArray⟩,.string ⟨seed.toArray⟩] 9)) (.slice (some ⟨wo.heap.size,0,none⟩) 2 2) [sec,seed]∧Below w.heap.size w (wo.alloc (.cells #[.string ⟨sec.toArray⟩,.string ⟨seed.toArray⟩] 9))):=O ⟨lq (E:=eS) (heap_alloc_new _ _) [sec,seed] rfl (by simp),HB0.out.alloc HB0.out.size _⟩
   go_upto_region 13 with (first
    |(go_at_call 37;refine(HOF.out _ _ (HK.out.on HROW.out.2) HROW.out.1).mono ?_;rintro e w6 ⟨rfl,hb6⟩;have HB6:=O (HROW.out.2.trans (hb6.mono HROW.out.2.size));clear hb6)
    |(refine aH (am dg) 23 rfl (.tmp 16) (.tmp 76) rfl _ rfl rfl rfl (by rw[aF];exact cC) (by rw[aF,aF]) (jO _) ?_))
   try simp only[Act.put]
   have HW7:Hid (Below w.heap.size w (w6.alloc (.cells (am dg) 23))∧(w6.alloc (.cells (am dg) 23)).heap[w6.heap.size]?=some (.cells (am dg) 23 (0,0))):=O ⟨HB6.out.alloc HB6.out.size _,heap_alloc_new _ _⟩;generalize w6.alloc (.cells (am dg) 23)=W7 at HW7 ⊢;generalize w6.heap.size=g12 at HW7 ⊢;clear HB6 HROW HOF HB0 hb;go_wp2
   go_loopw [15,17] (fun vo i wr=>∃j:Nat,j≤n∧i = .int .i64 ((j:Int)+1)∧Hid (ap eH wr W7.heap.size vo (dh dg sec st m j))∧Hid (Below W7.heap.size W7 wr)) (fun _ i _=>n+1-(intOf i).toNat)
   case atStart=>exact⟨0,N_ _,rfl,O (ap.nil _ _),O (O_ _ _)⟩
   case round =>
    obtain⟨j,hj,rfl,hown,hb⟩:=hrel
    rename World=>wp
    by_cases hlt:j<n
    ·have j1 : (j : Int) + 1 ≤ n := by omega
     have HJ:=O hlt;have HSS:=O (qS dg sec st m j);have HSZ:=O (sZ dg sec st m j)
     have hw8:IntKind.u8.wrap ((j:Int)+1)=B8 (UInt8.ofNat (j+1)):=by rw[IntKind.wrap_u8];unfold B8;have := HLEN.out;rw[UInt8.toNat_ofNat'];omega
     have hm8:((j:Int)+1) % 256=B8 (UInt8.ofNat (j+1)):=by rw[←IntKind.wrap_u8];exact hw8
     have HDT:=O (CO sec st m (j+1));generalize UInt8.ofNat (j+1)=kb at hw8 hm8 HDT;have HDL:=O (dR sec st m (j+1));clear hlt hj;go_wp2
     go_loopw [18,19] (fun vd i wr=>∃q:Nat,q≤sec.length∧i = .int .i64 q∧Hid (ap eB wr wp.heap.size vd ((fE sec st m (j+1)).take q))∧Hid (Below wp.heap.size wp wr)) (fun _ i _=>sec.length-(intOf i).toNat)
     case atStart=>exact⟨0,N_ _,rfl,O (ap.nil _ _),O (O_ _ _)⟩
     case round =>
      obtain⟨q,hq,rfl,hod,hbq⟩:=hrel
      rename World=>wq
      by_cases hlt:q<sec.length
      ·have q1:(q:Int)<sec.length:=by omega
       have HQL:=O hlt;have HPR:=O (HROWS.out q hlt);have HPL:=O (xY sec st m q HPR.out);have HPT:=O (fun r hr=>Dv sec st m q r HPR.out hr);have HP1:=O (Hc sec st m q);have HDQ:=O (HDT.out q hlt);obtain⟨a,ha⟩:∃a:Nat,a=q*m:=⟨_,rfl⟩;have HAI:Hid ((q:Int)*(m:Int)=(a:Int)):=O (by rw[ha];simp);have HAL:Hid (a+m≤st.length):=O (by rw[ha];have h:=HPR.out;rw[Nat.add_mul,Nat.one_mul] at h;exact h);rw[←ha] at HPT;generalize fK sec st m q=po at HPL HPT HP1 HDQ;have hqi:q<sec.length:=hlt;clear hlt hq ha;go_wp2;have HA1:Hid (ap eB (wq.alloc (.cells #[.int .u8 (B8 (byteAt sec q))] 5)) wq.heap.size (.slice (some ⟨wq.heap.size,0,none⟩) 1 1) (po.take (0+1))∧Below wq.heap.size wq (wq.alloc (.cells #[.int .u8 (B8 (byteAt sec q))] 5))):=O ⟨by rw[HP1.out];exact⟨rfl,.inr ⟨wq.heap.size,1,_,rfl,A_ _,al _ _ _ rfl,A_ _,by unfold maxLen;omega,rfl,rfl⟩⟩,(O_ _ _).alloc (A_ _) _⟩
       go_loopw [20,21] (fun vp i wr=>∃r:Nat,r≤m∧i = .int .i64 ((r:Int)+1)∧Hid (ap eB wr wq.heap.size vp (po.take (r+1)))∧Hid (Below wq.heap.size wq wr)) (fun _ i _=>m+1-(intOf i).toNat)
       case atStart=>exact⟨0,N_ _,rfl,O HA1.out.1,O HA1.out.2⟩
       case round =>
        obtain⟨r,hr,rfl,hop,hbr⟩:=hrel
        by_cases hlt:r<m
        ·have r1:(r:Int)+1<(m:Int)+1:=by omega
         have HRL:=O hlt;have HPTR:=O (HPT.out r hlt);have hai:=HAI.out
         have x1:a+r<st.length:=by have := HAL.out;omega
         have x2:(a:Int)+r<st.length:=by omega
         have x3:(a:Int)≤1100:=by have := HAL.out;have := HSL.out;omega
         have x4:(r:Int)≤16:=by omega
         have HX1:=O x1;have HPOL:Hid ((po.take (r+1)).length≤17):=O (by rw[b_];omega);clear hlt hr;have HA3:Hid (Below wr.heap.size wr (wr.alloc (.cells #[.int .u8 (B8 (byteAt st (a+r)))] 5))):=O ((O_ _ _).alloc (A_ _) _)
         go_wp2_with (at_builtin;go_loud (refine br aN rfl (.tmp 97) (.tmp 107) rfl wq.heap.size _ _ rfl (hop.out.on HA3.out) (.slice (some ⟨wr.heap.size,0,none⟩) 1 1) [byteAt st (a+r)] rfl (bP wr (byteAt st (a+r)) aN) (by have := HPOL.out;simp;omega) (M_ hbr.out.size HA3.out.size) ?_;intro v5 w5 ho5 hg5 hl5;have HO5:=O ho5;have HB5:Hid (Below wq.heap.size wq w5):=(O ((hbr.out.trans (HA3.out.mono hbr.out.size)).grown hg5 (M_ hbr.out.size HA3.out.size) (fun g hg=>(hop.out.lt g hg).1)));clear ho5 hg5 hl5))
         go_roundw
         case rel=>exact⟨r+1,HRL.out,by go_num,O (by rw[HPTR.out];exact HO5.out),HB5⟩
         case measure=>have := HRL.out;simp[intOf];omega
        ·have he:r=m:=by omega
         have r1:¬(r:Int)+1<(m:Int)+1:=by omega
         have HOP:Hid (ap eB wr wq.heap.size u20 po):=O (by have h:=hop.out;rwa [he,Y_ (by rw[HPL.out];exact A_ _)] at h);have HOD:=O (hod.out.on hbr.out);have HBR:Hid (Below wp.heap.size wp wr):=O (hbq.out.trans (hbr.out.mono hbq.out.size));have HEV:=O (Fld.eval_r u20 po kb wr (rQ HOP.out.rd));generalize F6.ev po kb=ev at HEV HDQ;have HA4:Hid (Below wr.heap.size wr (wr.alloc (.cells #[.int .u8 (B8 ev)] 5))):=O ((O_ _ _).alloc (A_ _) _);have HDLQ:Hid (((fE sec st m (j+1)).take q).length≤64):=O (by have := HLEN.out;rw[b_,HDL.out];omega);generalize (fE sec st m (j+1)).take q=dq at HOD HDQ HDLQ;have tok1:True:=trivial;clear he hlt hr hop
         go_wp2_with (first
          |(clear tok1;go_at_call 73;refine HEV.out.mono ?_;rintro e x1 ⟨rfl,hx1⟩;replace hx1:=hx1.symm;subst hx1)
          |(at_builtin;refine br aN rfl (.tmp 109) (.tmp 114) rfl wp.heap.size _ _ rfl (HOD.out.on HA4.out) (.slice (some ⟨wr.heap.size,0,none⟩) 1 1) [ev] rfl (bP wr ev aN) (by have := HDLQ.out;simp;omega) (M_ HBR.out.size HA4.out.size) ?_;intro v6 w6 ho6 hg6 hl6;have HO6:=O ho6;have HB6:Hid (Below wp.heap.size wp w6):=(O ((HBR.out.trans (HA4.out.mono HBR.out.size)).grown hg6 (M_ HBR.out.size HA4.out.size) (fun g hg=>(HOD.out.lt g hg).1)));clear ho6 hg6 hl6))
         go_roundw
         case rel=>exact⟨q+1,HQL.out,by go_num,O (by rw[HDQ.out];exact HO6.out),HB6⟩
         case measure=>have := HQL.out;simp[intOf];omega
      ·have he:q=sec.length:=by omega
       have q1:¬(q:Int)<sec.length:=by omega
       have HD:Hid (ap eB wq wp.heap.size u18 (fE sec st m (j+1))):=O (by have h:=hod.out;rwa [he,Y_ (by rw[HDL.out];exact A_ _)] at h);have hcv:(convert 80 9 u18).run prog wq = .ok (.string ⟨(fE sec st m (j+1)).toArray⟩) wq:=b6 HD.out.rd;have HOW:=O (hown.out.on hbq.out);have HBQ:Hid (Below W7.heap.size W7 wq):=O (hb.out.trans (hbq.out.mono hb.out.size));have HG12:=O (aa HW7.out.2 HBQ.out);have HBA:Hid (Below wq.heap.size wq (wq.alloc (.cells (shA (shP dg sec st m (j+1))) 103))):=O ((O_ _ _).alloc (A_ _) _);clear he hq hlt hod hown
       go_wp2_with (first
        |(refine wpList_load_row rfl 23 (.tmp 16) rfl g12 rfl _ (am dg) (0,0) _ HG12.out underlying23 rfl (by rw[aF];exact cC) ?_)
        |(refine IQ (shP dg sec st m (j+1)) rfl (.tmp 117) (.tmp 118) (.tmp 119) (.tmp 121) rfl rfl rfl rfl rfl ?_)
        |(refine IV (shP dg sec st m (j+1)) rfl (.tmp 122) rfl rfl ?_)
        |(at_builtin;refine br oI rfl (.tmp 116) (.tmp 123) rfl W7.heap.size _ _ rfl (HOW.out.on HBA.out) _ [shP dg sec st m (j+1)] rfl (Ta wq _) (by rw[HSZ.out];have := HLEN.out;have := HJ.out;simp;omega) (M_ HBQ.out.size HBA.out.size) ?_;intro v3 w3 ho3 hg3 _;have HO3:=O ho3;have HB3:Hid (Below W7.heap.size W7 w3):=(O ((HBQ.out.trans (HBA.out.mono HBQ.out.size)).grown hg3 (M_ HBQ.out.size HBA.out.size) (fun k hk2=>(HOW.out.lt k hk2).1)));clear ho3 hg3))
       go_roundw
       case rel=>exact⟨j+1,HJ.out,by go_num,O (by rw[HSS.out];exact HO3.out),HB3⟩
       case measure=>have := HJ.out;simp[intOf];omega
    ·have he:j=n:=by omega
     have j1:¬(j:Int)+1≤n:=by omega
     subst he;clear hlt hj;go_wp2
     go_ret2
     exact⟨_,rfl,by rw[HCUT.out,HDG.out];exact hown.out.mono HW7.out.1.size,HW7.out.1.trans (hb.out.mono HW7.out.1.size)⟩
end
section
open Go.RowKit Go.Shelf
attribute [local irreducible] Calls shc shA sha
theorem Hj (sec seed:List UInt8) (need n:Int) (w:World) (hok:od sec need n seed=false) :
  Calls prog 39 #[.string ⟨sec.toArray⟩,.int .i64 need,.int .i64 n,.string ⟨seed.toArray⟩] w fun e w'=>e = .returned (.tuple #[.slice none 0 0,.int .i64 1])∧Below w.heap.size w w':=by
 have hc:(sec.length:Int)<1∨(¬(sec.length:Int)<1∧((64:Int)<sec.length∨(¬(64:Int)<sec.length∧(n<1∨(¬n<1∧(16<n∨(¬16<n∧(need<1∨(¬need<1∧(n<need∨(¬n<need∧¬(seed.length:Int)=32))))))))))):=by
  simp only[od,Bool.and_eq_false_iff,decide_eq_false_iff_not] at hok
  omega
 clear hok
 go_enter func39,ntmps39
 rcases hc with h1|⟨h1,h2|⟨h2,h3|⟨h3,h4|⟨h4,h5|⟨h5,h6|⟨h6,h7⟩⟩⟩⟩⟩⟩
 case inr.inr.inr.inr.inr.inr =>
  have hs7:((seed.length:Int) != 32)=true:=by rw[bne_iff_ne];exact h7
  go_wp2
  go_ret2
  exact⟨rfl,O_ _ _⟩
 all_goals
  go_wp2
  go_ret2
  exact⟨rfl,O_ _ _⟩
theorem Ty (sec seed:List UInt8) (need n:Int) (w:World) (hk:cA w) (hsec:sec.length=32) (hseed:seed.length=32) :
  Calls prog 39 #[.string ⟨sec.toArray⟩,.int .i64 need,.int .i64 n,.string ⟨seed.toArray⟩] w fun e w'=>∃v,e = .returned (.tuple #[v,.int .i64 (if kO need n then 0 else 1)]) ∧
   ap eH w' w.heap.size v (if kO need n then dh (ofP 3 [sec,seed]) sec (ez seed (32*(need-1).toNat)) (need-1).toNat n.toNat else [])∧Below w.heap.size w w':=by
 cases h:kO need n with
 | false =>
   refine(Hj sec seed need n w (by rw[vU _ _ _ _ hsec hseed];exact h)).mono ?_;rintro e w' ⟨rfl,hb⟩;exact⟨_,rfl,ap.nil _ _,hb⟩
 | true =>
   have h':=h;simp only[kO,T_,decide_eq_true_eq] at h';obtain⟨⟨⟨h1,h2⟩,h3⟩,h4⟩:=h'
   have e1:need=(((need-1).toNat:Nat):Int)+1:=by omega
   have e2:n=((n.toNat:Nat):Int):=by omega
   have h5:=Lp sec seed (need-1).toNat n.toNat w hk (by omega) (by omega) (by omega) (by omega) hseed;rw[←e1,←e2,hsec] at h5;refine h5.mono ?_;rintro e w' ⟨v,rfl,ho,hb⟩;exact⟨v,rfl,ho,hb⟩
end
end Go.Proofs.YtmfiaadjdbemnaaGreatDoor
