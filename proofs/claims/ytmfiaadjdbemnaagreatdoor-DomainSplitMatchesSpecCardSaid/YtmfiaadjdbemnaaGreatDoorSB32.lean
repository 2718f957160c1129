/- Contracts and lemmas. No condition. -/
import Derived.Test.YtmfiaadjdbemnaaGreatDoorSB31
set_option maxRecDepth 100000
set_option maxHeartbeats 8000000
set_option linter.unusedSimpArgs false
set_option linter.unusedVariables false
namespace Go.Proofs.YtmfiaadjdbemnaaGreatDoor
open Tryz
section
open Go.RowKit
def d9 (set sec st:List UInt8) (m:Nat) (ks:List Nat):List SH:=ks.map fun k=>shP set sec st m (k+1)
theorem jD (set sec st:List UInt8) (m:Nat) (ks:List Nat):(d9 set sec st m ks).length=ks.length:=by simp[d9]
theorem MH (set sec st:List UInt8) (m k:Nat):xb (shP set sec st m k)=UInt8.ofNat k:=by simp[xb,shP]
theorem xR {a b:Nat} (ha:a<256) (hb:b<256) (h:UInt8.ofNat a=UInt8.ofNat b):a=b:=by
 have := congrArg UInt8.toNat h;simp only[UInt8.toNat_ofNat'] at this
 omega
theorem kV (x:List UInt8):dEq x x=true:=by unfold dEq;simp
theorem xn (set sec st:List UInt8) (m j:Nat):∀(ks:List Nat) (p:List Nat),(p++ks).Nodup→(∀k∈p++ks,k<16)→kd (shP set sec st m j) (p.map fun k=>UInt8.ofNat (k+1)) (d9 set sec st m ks)=true
 | [],p,_,_=>rfl
 | k :: r, p, hn, hk => by
   have e:d9 set sec st m (k::r)=shP set sec st m (k+1)::d9 set sec st m r:=rfl;rw[e,kd,T_]
   constructor
   ·have hx:¬xb (shP set sec st m (k+1))∈p.map fun k=>UInt8.ofNat (k+1):=by
     rw[MH];intro h;obtain⟨q,hq,hh⟩:=List.mem_map.1 h;have h1:=hk q (by simp[hq]);have h2:=hk k (by simp);have h3:=xR (by omega) (by omega) hh
     have h4:q=k:=by omega
     subst h4;rw[List.nodup_append] at hn;exact hn.2.2 q hq q (by simp) rfl
    have h2:=hk k (by simp);simp only[kf,T_,Bool.not_eq_true',decide_eq_true_eq,decide_eq_false_iff_not];refine⟨⟨⟨⟨⟨kV _,rfl⟩,by rw[shP,shP,dR,dR]⟩,?_⟩,?_⟩,hx⟩
    ·show (1:Int)≤((k+1:Nat):Int);omega
    ·show ((k+1:Nat):Int)≤255;omega
   ·have h2:=xn set sec st m j r (p++[k]) (by simpa using hn) (by simpa using hk)
    rw[List.map_append,List.map_singleton] at h2;rw[MH];exact h2
theorem xo (set sec st:List UInt8) (m:Nat) (ks:List Nat) (hn:ks.Nodup) (hk:∀k∈ks,k<16) (h0:1≤ks.length) (h1:ks.length≤255) (hm:m+1≤16) (hs:1≤sec.length) (hs2:sec.length≤64):eO (d9 set sec st m ks)=true:=by
 obtain⟨k,r,rfl⟩:∃k r,ks=k::r:=by
  cases ks with
  | nil=>simp at h0
  | cons k r=>exact⟨k,r,rfl⟩
 have e:d9 set sec st m (k::r)=shP set sec st m (k+1)::d9 set sec st m r:=rfl;have hf:=xn set sec st m (k+1) (k::r) [] (by simpa using hn) (by simpa using hk);unfold eO;rw[T_];refine⟨?_,?_⟩
 ·unfold qu
  have hl:=jD set sec st m (k::r);rw[hl];rw[e,List.headD_cons];simp only[T_,decide_eq_true_eq];refine⟨⟨⟨⟨⟨h0,h1⟩,?_⟩,?_⟩,by rw[shP,dR];exact hs⟩,by rw[shP,dR];exact hs2⟩
  ·show (1:Int)≤(m:Int)+1;omega
  ·show (m:Int)+1≤16;omega
 ·rw[e,List.headD_cons,←e]
  exact hf
theorem GJ (set sec st:List UInt8) (m:Nat) (ks:List Nat) (h0:1≤ks.length):∃k,(d9 set sec st m ks).headD zS0=shP set sec st m (k+1):=by
 cases ks with
 | nil=>simp at h0
 | cons k r=>exact⟨k,rfl⟩
theorem FK (set sec st:List UInt8) (m:Nat) (ks:List Nat):xsP (d9 set sec st m ks)=ks.map fun k=>UInt8.ofNat (k+1):=by
 simp only[xsP,d9,List.map_map]
 congr 1
theorem Jk (set sec st:List UInt8) (m:Nat) (ks:List Nat) (hn:ks.Nodup) (hk:∀k∈ks,k<16) (hl:ks.length=m+1) (hst:sec.length*m≤st.length) (x:UInt8) :
  eW (d9 set sec st m ks) sec.length x=Fld.tab sec.length fun i=>F6.ev (fK sec st m i) x:=by
 have hnx:(xsP (d9 set sec st m ks)).Nodup:=by
  rw[FK,List.nodup_iff_pairwise_ne,List.pairwise_map];rw[List.nodup_iff_pairwise_ne] at hn;refine List.Pairwise.imp_of_mem ?_ hn;intro a b ha hb hne h;have h1:=hk a ha;have h2:=hk b hb;have h3:=xR (by omega) (by omega) h;exact hne (by omega)
 refine Fld.ext_at (by rw[hJ,Fld.tab_len]) (fun i hi => ?_);rw[hJ] at hi;rw[eW,Fld.tab_at,Fld.tab_at,G_ hi,G_ hi];refine F6.interp_poly _ _ hnx ?_ _ ?_ x
 ·rw[kL,jD,hl]
  unfold fK;rw[Z_,b_,S_];have : (i+1)*m≤sec.length*m:=Nat.mul_le_mul_right _ hi;rw[Nat.succ_mul] at this
  omega
 ·intro j hj
  rw[kL,jD] at hj
  have e1:(xsP (d9 set sec st m ks)).getD j 0=UInt8.ofNat (ks[j]+1):=by
   rw[FK]
   simp[I_,hj]
  have e2:(ysP (d9 set sec st m ks) i).getD j 0=byteAt (fE sec st m (ks[j]+1)) i:=by
   simp[ysP,d9,I_,hj,shP]
  rw[e1,e2,fE,Fld.tab_at,G_ hi]
theorem Cn (set sec st:List UInt8) (m:Nat) (ks:List Nat) (h0:1≤ks.length):Ia (d9 set sec st m ks)=d9 set sec st m (ks.take (m+1))∧Gv (d9 set sec st m ks)=sec.length∧((d9 set sec st m ks).headD zS0).need=(m:Int)+1:=by
 obtain⟨k,hk⟩:=GJ set sec st m ks h0;unfold Ia Gv;rw[hk];refine⟨?_,dR _ _ _ _,rfl⟩
 have : ((shP set sec st m (k+1)).need).toNat=m+1:=by simp[shP]
 rw[this]
 simp[d9]
theorem NQ (set sec st:List UInt8) (m:Nat) (ks:List Nat) (hn:ks.Nodup) (hk:∀k∈ks,k<16) (h0:1≤ks.length) (h1:ks.length≤255) (hm:m+1≤16) (hs:1≤sec.length) (hs2:sec.length≤64) (hf:ks.length<m+1):ci (d9 set sec st m ks)=16:=by
 unfold ci;rw[G_ (xo set sec st m ks hn hk h0 h1 hm hs hs2),(Cn set sec st m ks h0).2.2,jD,G_ (by omega)]
theorem Jg (set sec st:List UInt8) (m:Nat) (ks:List Nat) (hn:ks.Nodup) (hk:∀k∈ks,k<16) (h1:ks.length≤255) (hm:m+1≤16) (hs:1≤sec.length) (hs2:sec.length≤64) (hf:m+1≤ks.length) (hst:sec.length*m≤st.length):ci (d9 set sec st m ks)=0∧eU (d9 set sec st m ks)=sec:=by
 obtain⟨u1,u2,u3⟩:=Cn set sec st m ks (by omega);have hc:=Jk set sec st m (ks.take (m+1)) (hn.sublist (List.take_sublist _ _)) (fun k h=>hk k (List.mem_of_mem_take h)) (by rw[b_];omega) hst
 have h0:ci (d9 set sec st m ks)=0:=by
  unfold ci;rw[G_ (xo set sec st m ks hn hk (by omega) h1 hm hs hs2),u3,jD,H_ (by omega),G_];rw[List.all_eq_true];intro s hs3;rw[decide_eq_true_eq,u1,u2,hc];have hs4:=List.mem_of_mem_drop hs3;obtain⟨k,_,rfl⟩:=List.mem_map.1 hs4;rw[MH]
  rfl
 refine⟨h0,?_⟩;unfold eU;rw[G_ h0,u1,u2,hc];refine Fld.ext_at (Fld.tab_len _ _) (fun i hi => ?_);rw[Fld.tab_len] at hi;rw[Fld.tab_at,G_ hi];unfold fK F6.ev
 simp[F6.zero_mul,F6.mul_zero,F6.xor_zero]
open Go.RowKit
theorem Ci {nx:Int} {l:List K} (h:aP nx l=true):∀j,j<l.length→∀i,i<j→(ae l i).id<(ae l j).id:=by
 obtain⟨_,_,_,hk⟩:=(cN nx l).1 h;intro j
 induction j with
 | zero=>intro _ i hi;omega
 | succ j ih =>
   intro hj i hi;have h1:=((jS _ _ _).1 (hk (j+1) hj)).2.1;rw[gQ] at h1
   by_cases e:i=j
   ·subst e;exact h1
   ·have := ih (by omega) i (by omega)
    omega
theorem P7 {nx:Int} {l:List K} (h:aP nx l=true):∀j,j<l.length→0<(ae l j).id:=by
 obtain⟨_,_,_,hk⟩:=(cN nx l).1 h;intro j hj;have h0:=((jS _ _ _).1 (hk 0 (by omega))).2.1;rw[gR] at h0
 by_cases e:j=0
 ·subst e;exact h0
 ·have := Ci h j hj 0 (by omega)
  omega
theorem P6 {nx:Int} {l:List K} (h:aP nx l=true):∀k∈l,bf k=true∧0<k.id∧k.id<nx∧k.par<nx:=by
 intro k hk;obtain⟨j,hj,rfl⟩:=List.mem_iff_getElem.1 hk;obtain⟨_,_,_,ho⟩:=(cN nx l).1 h;have h1:=(jS _ _ _).1 (ho j hj);have h2:=P7 h j hj;rw[az l j hj] at h1 h2;exact⟨h1.1,h2,h1.2.2.1,h1.2.2.2⟩
theorem zR {nx:Int} {l:List K} (h:aP nx l=true):l.Pairwise (fun a b=>a.id<b.id):=by
 rw[List.pairwise_iff_getElem];intro i j hi hj hij;have := Ci h j hj i hij
 rwa [az l i hi,az l j hj] at this
theorem Ic {b:BK} {l:List K} (hh:eY b l=true) (hm:∀k∈l,bf k=true∧0<k.id∧k.id≤2147483647) (hp:l.Pairwise (fun a b=>a.id<b.id)):aI b l=true:=by
 unfold aI;rw[hh,Bool.true_and,List.all_eq_true];intro i hi;have hlt:i<l.length:=List.mem_range.1 hi;obtain⟨h1,h2,h3⟩:=hm (ae l i) (by rw[az l i hlt];exact List.getElem_mem hlt)
 have h4:cv l i<(ae l i).id:=by
  unfold cv
  by_cases e:i=0
  ·rw[G_ e];exact h2
  ·rw[H_ e,az l i hlt,az l (i-1) (by omega)]
   exact List.pairwise_iff_getElem.1 hp (i-1) i (by omega) hlt (by omega)
 unfold okB;rw[h1,decide_eq_true h4,decide_eq_true h3]
 rfl
theorem lW (dk:List UInt8) (b:BK) (l:List K) (hb:b.mach) (h:ch dk b l=true) :
  blH (bX dk b l)=bh b∧rdR aL (bX dk b l) 0=bQ (aJ dk bkL) (bh b) (b9 l)∧blB (bX dk b l)=b∧blE (bX dk b l)=0:=by
 have h2:dk.length=32∧aI b l=true:=by unfold ch at h;simpa using h
 obtain⟨h32,hval⟩:=h2;obtain⟨m1,m2,m3⟩:=iO hval;obtain⟨hl1,hl2⟩:=jC b (hb.wf (by omega));obtain⟨a1,a2,a3⟩:=zt hI [] (bh b) (show okS (bh b) by unfold okS;omega) (bQ (aJ dk bkL) (bh b) (b9 l));have hH:blH (bX dk b l)=bh b:=a1;have hR:rdR aL (bX dk b l) 0=bQ (aJ dk bkL) (bh b) (b9 l):=a2;have hX:rdX aL (bX dk b l) 0=0:=a3;obtain⟨c1,c2⟩:=JW b hb (by omega)
 have hB:blB (bX dk b l)=b:=by unfold blB;rw[hH,hX,c1]
 have hE:blE (bX dk b l)=0:=by
  unfold blE;rw[hH,hX,c2,wv hval]
  rfl
 exact⟨hH,hR,hB,hE⟩
theorem lf (dk:List UInt8) (b:BK) (l:List K) (hb:b.mach) (h:ch dk b l=true):(bX dk b l).length≤700000:=by
 have h2:dk.length=32∧aI b l=true:=by unfold ch at h;simpa using h
 obtain⟨h32,hval⟩:=h2;obtain⟨m1,m2,m3⟩:=iO hval;obtain⟨hl1,hl2⟩:=jC b (hb.wf (by omega));have hcl:=nI hval
 have hsE:fF (aJ dk bkL) (bh b) (b9 l)=0:=by
  unfold fF;rw[G_ (cE _ _),H_ (by omega)]
 have hsX:eu (aJ dk bkL) (bh b) (b9 l)=bQ (aJ dk bkL) (bh b) (b9 l):=by
  unfold eu;rw[G_ ⟨cE _ _,by omega⟩]
 obtain⟨_,_,o3⟩:=Dg (aJ dk bkL) (bh b) (b9 l) hsE;rw[hsX] at o3;have he:=cW (bh b);unfold bX;rw[E_,o3]
 omega
theorem G4 (ok dk:List UInt8) (b:BK) (l:List K) (hb:b.mach) (h:ch dk b l=true) (h32:ok.length=32)
  (hne:eG (aJ ok bkL) (bh b) (bQ (aJ dk bkL) (bh b) (b9 l))≠0) :
  opE ok (bX dk b l)=eG (aJ ok bkL) (bh b) (bQ (aJ dk bkL) (bh b) (b9 l)):=by
 obtain⟨p1,p2,p3,p4⟩:=lW dk b l hb h
 have hO:blO ok (bX dk b l)=eG (aJ ok bkL) (bh b) (bQ (aJ dk bkL) (bh b) (b9 l)):=by unfold blO;rw[p1,p2]
 unfold opE;rw[G_ h32,G_ p4,hO,H_ hne]
theorem qZ {dk:List UInt8} {b:BK} {l:List K} {P:List SH} (hb:b.mach) (hn:cQ l) (h:ch dk b l=true) (hc:ci P=0) (hp:eU P=dk):ulE (bX dk b l) P=0∧ulB (bX dk b l) P=b∧ulK (bX dk b l) P=l:=by
 obtain⟨p1,p2,p3,p4⟩:=lW dk b l hb h;obtain⟨o1,o2,o3⟩:=Ps dk b l hb hn h
 have e:ulE (bX dk b l) P=0:=by unfold ulE;rw[G_ p4,G_ hc,hp];exact o1
 refine⟨e,?_,?_⟩
 ·unfold ulB;rw[G_ e,hp];exact o2
 ·unfold ulK;rw[G_ e,hp];exact o3
theorem Rp {dk:List UInt8} {b:BK} {l:List K} {P:List SH} (hb:b.mach) (h:ch dk b l=true) (hc:ci P≠0):ulE (bX dk b l) P=ci P∧ulK (bX dk b l) P=[]:=by
 obtain⟨p1,p2,p3,p4⟩:=lW dk b l hb h
 have e:ulE (bX dk b l) P=ci P:=by unfold ulE;rw[G_ p4,H_ hc]
 exact⟨e,by unfold ulK;rw[H_ (by rw[e];exact hc)]⟩
theorem Mo {dk:List UInt8} {b:BK} {l:List K} {P:List SH} (hb:b.mach) (h:ch dk b l=true) (hc:ci P=0) (h32:(eU P).length=32) (hne:eG (aJ (eU P) bkL) (bh b) (bQ (aJ dk bkL) (bh b) (b9 l))≠0) :
  ulE (bX dk b l) P=eG (aJ (eU P) bkL) (bh b) (bQ (aJ dk bkL) (bh b) (b9 l)):=by
 obtain⟨p1,p2,p3,p4⟩:=lW dk b l hb h;unfold ulE;rw[G_ p4,G_ hc];exact G4 (eU P) dk b l hb h h32 hne
def fdP (s:List UInt8) (m:Nat) (ks:List Nat):List SH:=d9 (ofP 3 [nxV s,nxV (nxS s)]) (nxV s) (ez (nxV (nxS s)) (32*m)) m ks
theorem JL (s:List UInt8) (m n:Nat):fdL s m n=fdP s m (List.range n):=by
 unfold fdL fdP d9 dh
 rfl
theorem jq (s:List UInt8) (m:Nat) (ks:List Nat):(fdP s m ks).length=ks.length:=jD _ _ _ _ _
theorem JM (s:List UInt8) (m:Nat) (ks:List Nat) (i:Nat):(fdP s m ks).drop i=fdP s m (ks.drop i):=by unfold fdP d9;rw[List.map_drop]
theorem JN (s:List UInt8) (m:Nat) (ks:List Nat) (i:Nat):(fdP s m ks).take i=fdP s m (ks.take i):=by unfold fdP d9;rw[List.map_take]
theorem xl (s:List UInt8) (m:Nat) (ks:List Nat) (hn:ks.Nodup) (hk:∀k∈ks,k<16) (hm:m+1≤16) (hl:ks.length≤255) (hf:m+1≤ks.length):ci (fdP s m ks)=0∧eU (fdP s m ks)=nxV s :=
 Jg _ _ _ _ _ hn hk hl hm (by rw[cL];decide) (by rw[cL];decide) hf (by rw[cL,uw];exact A_ _)
theorem JO (s:List UInt8) (m:Nat) (ks:List Nat) (hn:ks.Nodup) (hk:∀k∈ks,k<16) (hm:m+1≤16) (hl:ks.length≤255) (h0:1≤ks.length) (hf:ks.length<m+1):ci (fdP s m ks)=16 :=
 NQ _ _ _ _ _ hn hk h0 hl hm (by rw[cL];decide) (by rw[cL];decide) hf
theorem tB (s:List UInt8) (need n:Int) (h:kO need n=true):cP s need n=⟨⟨ofP 12 [iz,nxV s],nxV (nxS s),0,0⟩,fdP (nxS s) (need-1).toNat (List.range n.toNat),nxS (nxS (nxS s)),0⟩:=by
 unfold cP fB;rw[G_ h,JL]
 rfl
theorem OQ (s:List UInt8) (need n:Int) (h:kO need n=false):cP s need n=zF 1:=by
 unfold cP fB;rw[h]
 rfl
def sb:BK:={ zB with mo:=[109] }
theorem mg:sb.mach:=⟨rfl,rfl,by intro x hx;simp[sb,zB] at hx;rcases hx with rfl|rfl|rfl|rfl;all_goals (unfold okI;decide),by show 1≤maxLen;unfold maxLen;decide⟩
theorem Ee {d:DO} (hv:bD d=true) (hb:d.bk≠2147483647) {l:List K} (hl:l.length≤4096) (hm:∀k∈l,bf k=true∧0<k.id∧k.id≤2147483647) (hp:l.Pairwise (fun a b=>a.id<b.id)):ch d.key (cG d sb) l=true∧dbE d sb l=0∧dbX d sb l=bX d.key (cG d sb) l∧dbD d sb l={ d with bk:=d.bk+1 }:=by
 have hvp:=jG hv
 have hok:ch d.key (cG d sb) l=true:=by
  unfold ch;rw[decide_eq_true hvp.1,Bool.true_and];refine Ic ?_ hm hp;unfold eY cG sb zB;simp only[T_,decide_eq_true_eq,kJ]
  refine⟨⟨⟨⟨⟨⟨?_,?_⟩,?_⟩,?_⟩,?_⟩,?_⟩,?_⟩ <;> first |omega|(constructor <;> omega)|simp
 have he:dbE d sb l=0:=by
  unfold dbE;rw[G_ hv,H_ hb];unfold jm;rw[G_ hok]
 exact⟨hok,he,by unfold dbX;rw[G_ he],by unfold dbD;rw[G_ he]⟩
theorem yD {nx:Int} {tl:List K} (h:aP nx tl=true):tl.length≤4096∧∀k∈tl,bf k=true∧0<k.id∧k.id≤2147483647:=by
 have hnx:=((cN nx tl).1 h).2.2.1;have hl:=((cN nx tl).1 h).1;refine⟨hl,fun k hk => ?_⟩;obtain⟨a,b,c,_⟩:=P6 h k hk;exact⟨a,b,by omega⟩
open Go.RowKit
def sk (n:Int) (c:UInt8):K:=⟨n,0,List.replicate 32 c,0,0,9,1,0,false⟩
def sT:List K:=[sk 1 1,sk 2 2]
def sS:List UInt8:=nxS [115]
def sN:List UInt8:=nxS (nxS sS)
def sK1:List UInt8:=[118,152,64,194,179,172,36,107,250,27,13,245,71,183,37,253,244,241,126,27,187,70,157,127,114,206,119,225,110,90,45,247]
def sK2:List UInt8:=[165,107,205,212,164,121,44,158,202,94,64,101,224,70,200,243,8,159,148,204,103,152,204,175,53,82,4,141,138,55,120,254]
def sI1:List UInt8:=[15,73,44,35,230,138,3,96,23,30,121,42,127,23,169,237]
def sHd:List UInt8:=[15,73,44,35,230,138,3,96,23,30,121,42,127,23,169,237,129,4,128,129,1,128,128,0,0,0,0,0,0,0,0,0,0,0,0,0,0,0,0,129,1,109]
def sCt:List UInt8:=[129,2,129,51,129,2,129,13,129,8,129,1,128,128,128,129,9,129,1,128,128,129,32,1,1,1,1,1,1,1,1,1,1,1,1,1,1,1,1,1,1,1,1,1,1,1,1,1,1,1,1,1,1,1,1,129,51,129,2,129,13,129,8,129,2,128,128,128,129,9,129,1,128,128,129,32,2,2,2,2,2,2,2,2,2,2,2,2,2,2,2,2,2,2,2,2,2,2,2,2,2,2,2,2,2,2,2,2]
def sV1:List UInt8:=[2,247,167,131,123,251,209,125,126,236,214,200,162,189,248,209,178,49,168,246,86,246,225,80,196,94,188,194,101,135,211,80]
def sV2:List UInt8:=[3,17,122,81,97,185,3,119,227,233,76,159,152,85,46,246,55,234,4,9,32,20,79,229,25,103,8,45,15,94,239,74]
def sM1:List UInt8:=[67,73,200,99,208,2,234,156,122,12,177,211,151,150,0,117,10,29,52,149,171,142,174,239,215,140,33,126,250,40,253,164]
def sE1:List UInt8:=[116,240,82,202,198,4,195,63,255,49,30,144,230,30,135,29,243,170,173,251,121,61,247,50,175,225,194,71,254,90,195,94]
def sN1:List UInt8:=[191,61,189,37,236,152,112,183,173,250,206,249]
def sC1:List UInt8:=[50,18,231,168,114,250,14,65,186,104,69,90,194,4,153,224,91,129,212,178,197,141,237,123,46,133,188,100,254,225,158,11,176,174,156,55,110,100,205,12,53,121,239,95,7,216,154,173,232,227,118,223,47,115,31,42,191,63,175,215,236,176,233,68,1,161,38,231,145,40,131,34,22,249,112,255,6,240,41,120,170,234,13,87,135,76,179,73,45,171,166,76,254,112,68,245,133,203,129,139,219,248,106,100,137,226,250,6]
def sG1:List UInt8:=[241,254,86,118,221,28,7,189,183,103,36,218,57,31,51,32]
def sM2:List UInt8:=[188,133,169,71,200,220,171,67,181,146,225,106,159,165,47,193,85,106,45,78,211,242,209,43,54,159,229,14,146,203,45,255]
def sG2:List UInt8:=[134,172,8,121,220,203,216,238,105,90,176,18,209,151,72,83]
set_option maxRecDepth 100000
theorem lK1:nxV sS=sK1:=by decide +kernel
theorem lK2:nxV sN=sK2:=by decide +kernel
theorem lI1:ofP 12 [iz,nxV [115]]=sI1:=by decide +kernel
theorem lI2:dEq (ofP 12 [iz,sK2]) sI1=false:=by decide +kernel
theorem YP:(sK2 == sK1)=false:=by decide +kernel
theorem lHd:bh ⟨sI1,0,1,0,0,z16,[109]⟩=sHd:=by decide +kernel
theorem lCt:b9 sT=sCt:=by decide +kernel
theorem lV1:aJ sK1 bkL=sV1:=by decide +kernel
theorem lV2:aJ sK2 bkL=sV2:=by decide +kernel
theorem lM1:cO sV1=sM1:=by decide +kernel
theorem lE1:fH sV1=sE1:=by decide +kernel
theorem lN1:bm sM1 sHd sCt=sN1:=by decide +kernel
theorem lC1:eX sE1 sN1 sCt=sC1:=by decide +kernel
theorem lG1:jj sM1 sN1 sHd sC1=sG1:=by decide +kernel
theorem lM2:cO sV2=sM2:=by decide +kernel
theorem lG2:jj sM2 sN1 sHd sC1=sG2:=by decide +kernel
theorem lSl:bQ sV1 sHd sCt=sN1++(sC1++sG1):=by unfold bQ;rw[lM1,lN1,lE1,lC1,lG1]
theorem lE:eG (aJ sK2 bkL) (bh ⟨sI1,0,1,0,0,z16,[109]⟩) (bQ (aJ sK1 bkL) (bh ⟨sI1,0,1,0,0,z16,[109]⟩) (b9 sT))=8:=by
 rw[lV1,lV2,lHd,lCt,lSl];unfold eG jn;rw[lM2,show bN (sN1++(sC1++sG1))=sN1 by decide +kernel,show bC (sN1++(sC1++sG1))=sC1 by decide +kernel,show bT (sN1++(sC1++sG1))=sG1 by decide +kernel,lG2]
 decide +kernel
open Go.RowKit
set_option maxRecDepth 100000
def sD1:DO:=⟨sI1,sK1,0,0⟩
theorem WG:cP [115] 2 3=⟨sD1,fdP sS 1 (List.range 3),sN,0⟩:=by
 rw[tB _ _ _ (by decide),lI1,show nxV (nxS [115])=sK1 from lK1]
 rfl
theorem jE:bD sD1=true:=by decide +kernel
theorem Ca:sD1.mach:=⟨by decide,by unfold okI;decide,by unfold okI;decide⟩
theorem Lw:aP 3 sT=true:=by decide +kernel
theorem vM:cQ sT:=by
 intro i hi x hx
 have h:∀j,j<2→∀y∈bO (ae sT j),okI y:=by unfold okI;decide +kernel
 exact h i hi x hx
def sX:List UInt8:=bX sK1 (cG sD1 sb) sT
theorem sW:ch sK1 (cG sD1 sb) sT=true∧dbE sD1 sb sT=0∧dbX sD1 sb sT=sX∧dbD sD1 sb sT=⟨sI1,sK1,0,1⟩:=by
 obtain⟨h1,h2⟩:=yD Lw;exact Ee (d:=sD1) jE (by decide) h1 h2 (zR Lw)
theorem qR:(cG sD1 sb).mach:=nG Ca mg jE (by decide)
theorem zG:sX.length≤700000:=lf _ _ _ qR sW.1
theorem sU1:ulE sX (fdP sS 1 [1,2])=0∧ulB sX (fdP sS 1 [1,2])=cG sD1 sb∧ulK sX (fdP sS 1 [1,2])=sT:=by
 obtain⟨h1,h2⟩:=xl sS 1 [1,2] (by decide) (by decide) (by decide) (by decide) (by decide);exact qZ qR vM sW.1 h1 (h2.trans lK1)
theorem sU0:ulE sX (fdP sS 1 [0])=16:=by
 have h1:=JO sS 1 [0] (by decide) (by decide) (by decide) (by decide) (by decide) (by decide);exact((Rp (l:=sT) qR sW.1 (by rw[h1];decide)).1).trans h1
theorem WM:mG sD1 sN 1 1=⟨⟨sI1,sK2,1,0⟩,fdP sN 0 [0],nxS (nxS sN),0⟩:=by
 unfold mG fB;rw[G_ jE,H_ (by decide),G_ (by decide),JL,lK2]
 rfl
theorem sUR:ulE sX (fdP sN 0 [0])=8:=by
 obtain⟨h1,h2⟩:=xl sN 0 [0] (by decide) (by decide) (by decide) (by decide) (by decide);have h3:eU (fdP sN 0 [0])=sK2:=h2.trans lK2;have h:=Mo (P:=fdP sN 0 [0]) qR sW.1 h1 (by rw[h3];decide) (by rw[h3];exact fun e=>by have := lE.symm.trans e;cases this);rw[h3] at h;exact h.trans lE
def sD2:DO:=⟨ofP 12 [iz,sK2],nxV (nxS sN),0,0⟩
theorem TA:cP sN 1 2=⟨sD2,fdP (nxS sN) 0 (List.range 2),nxS (nxS (nxS sN)),0⟩:=by
 rw[tB _ _ _ (by decide),lK2]
 rfl
theorem yj:bD sD2=true:=by unfold bD sD2;simp[cL]
theorem Ls:sD2.mach:=⟨tE _ _,by unfold okI sD2;decide,by unfold okI sD2;decide⟩
theorem Pu:cQ [sk 1 1]:=by
 intro i hi x hx
 have h:∀j,j<1→∀y∈bO (ae [sk 1 1] j),okI y:=by unfold okI;decide +kernel
 exact h i hi x hx
def sX2:List UInt8:=bX sD2.key (cG sD2 sb) [sk 1 1]
theorem vK:ch sD2.key (cG sD2 sb) [sk 1 1]=true∧dbE sD2 sb [sk 1 1]=0∧dbX sD2 sb [sk 1 1]=sX2∧dbD sD2 sb [sk 1 1]={ sD2 with bk:=1 } :=
 Ee (d:=sD2) yj (by decide) (by decide) (by decide +kernel) (by decide +kernel)
theorem WJ:dN 3 sT [1] sb sN 1 2=⟨3,[sk 2 2],{ sD2 with bk:=1 },fdP (nxS sN) 0 (List.range 2),sX2,[1],nxS (nxS (nxS sN)),0⟩:=by
 unfold dN
 have e1:bJ [1] sT=[sk 1 1]:=by decide +kernel
 have e2:kF [1] sT=[sk 2 2]:=by decide +kernel
 rw[e1,e2,TA,vK.2.1,vK.2.2.1,vK.2.2.2];rw[G_ (by decide),H_ (by decide),G_ rfl,G_ rfl]
theorem WK:dN 3 sT [] sb sN 1 2=zP 1:=se rfl
theorem B9:(cG sD2 sb).mach:=nG Ls mg yj (by decide)
theorem Pv:sX2.length≤700000:=lf _ _ _ B9 vK.1
theorem WI:∃k,jw sD1 1 [] z16 0 sX2 (fdP (nxS sN) 0 (List.range 2))=⟨2,[k],[1],0⟩:=by
 obtain⟨h1,h2⟩:=xl (nxS sN) 0 (List.range 2) (by decide) (by decide) (by decide) (by decide) (by decide);obtain⟨u1,u2,u3⟩:=qZ (P:=fdP (nxS sN) 0 (List.range 2)) B9 Pu vK.1 h1 h2;refine⟨aW (aU (sk 1 1) 0) 1,?_⟩;have u1':ulE sX2 (fdP (nxS sN) 0 (List.range 2))=0:=u1;have u2':ulB sX2 (fdP (nxS sN) 0 (List.range 2))=cG sD2 sb:=u2;have u3':ulK sX2 (fdP (nxS sN) 0 (List.range 2))=[sk 1 1]:=u3;unfold jw;rw[G_ jE,u1',G_ rfl,u2',u3'];rw[show (cG sD2 sb).dom=ofP 12 [iz,sK2] from rfl,show sD1.id=sI1 from rfl,lI2,H_ (by decide),G_ (by decide +kernel)]
 rfl
theorem WN:jw sD1 3 sT z16 0 sX (fdP sS 1 (List.range 3))=zM 12:=by
 obtain⟨h1,h2⟩:=xl sS 1 (List.range 3) (by decide) (by decide) (by decide) (by decide) (by decide);obtain⟨u1,u2,u3⟩:=qZ (P:=fdP sS 1 (List.range 3)) qR vM sW.1 h1 (h2.trans lK1);have u1':ulE sX (fdP sS 1 (List.range 3))=0:=u1;have u2':ulB sX (fdP sS 1 (List.range 3))=cG sD1 sb:=u2;unfold jw;rw[G_ jE,u1',G_ rfl,u2',show (cG sD1 sb).dom=sD1.id from rfl,G_ (kV _)]
theorem WO:cP [115] 3 2=zF 1:=OQ _ _ _ (by decide)
open Go.RowKit Go.Shelf
attribute [local irreducible] Calls
theorem TB (v u:Value) (l m:List Int) (w:World) (hv:RdE eI w v l) (hu:RdE eI w u m) (hlm:l=m) :
  Calls prog 27 #[v,u] w fun e w'=>e = .returned (.bool true)∧Below w.heap.size w w':=by
 subst hlm;have HV:=O hv;have HU:=O hu;obtain⟨a,cap,rfl,hml2,hml,_⟩:=hv;obtain⟨a2,cap2,rfl,_,_,_⟩:=hu;unfold maxLen at hml
 have hne2:((l.length:Int) != l.length)=false:=by rw[bne,beq_self_eq_true];rfl
 go_enter func27,ntmps27
 go_wp2
 go_loopw [5] (fun o wr=>∃i:Nat,i≤l.length∧o = .int .i64 i∧∃n,wr=w.drewN n) (fun o _=>l.length-(intOf o).toNat)
 case atStart=>exact⟨0,N_ _,rfl,0,rfl⟩
 case round =>
  obtain⟨i,hi,rfl,n,rfl⟩:=hrel
  by_cases hlt:i<l.length
  ·obtain⟨b,off,rfl,_,aO⟩:=fW HV.out (by omega)
   obtain⟨b2,off2,rfl,_,hrow2⟩:=fW HU.out (by omega);have d1:=aO i hlt;have d2:=hrow2 i hlt;generalize l[i]=z at d1 d2
   have i1:(i:Int)<l.length:=by omega
   have HK:=O hlt
   have q1:(z != z)=false:=by simp
   clear aO hrow2 hlt;go_wp2
   first |refine fR (by kernel_rfl) (by kernel_rfl) ?_|refine fG (by kernel_rfl) (by kernel_rfl) ?_
   repeat (go_big_quiet_step (fail))
   refine h_ ?_;rintro _ ⟨nq,rfl⟩;go_wp2;go_roundw
   case rel=>exact⟨i+1,HK.out,by go_num,_,rfl⟩
   case measure=>have := HK.out;simp[intOf];omega
  ·have i1:(l.length:Int)≤i:=by omega
   clear hlt;go_wp2;go_ret;exact⟨rfl,ak _ (O_ _ _)⟩
theorem Pn (c:UInt8) (n k:Nat) (hk:k<n):(iC (List.replicate n c) k).set k c=iC (List.replicate n c) (k+1):=by
 have h:=rD (List.replicate n c) k (by simpa using hk)
 have e:byteAt (List.replicate n c) k=c:=by simp[byteAt,I_,hk]
 rwa [e] at h
theorem Pm (c:UInt8) (n:Nat):iC (List.replicate n c) n=List.replicate n c:=by
 have h:=rC (List.replicate n c)
 rwa [List.length_replicate] at h
theorem yq (c:UInt8) (w:World):Calls prog 32 #[.int .u8 (B8 c)] w fun e w'=>e = .returned (.string ⟨(List.replicate 32 c).toArray⟩)∧Below w.heap.size w w':=by
 go_enter func32,ntmps32
 go_wp2_with (at_make;refine Fld.mk_full rfl _ _ rfl 32 rfl rfl ?hm1 ?hm2)
 case hm1=>decide
 case hm2 =>
  intro w1 hat1 hb1;have HAT:Hid (Fld.BAt w1 w.heap.size (iC (List.replicate 32 c) 0)):=O (by rw[pi,List.length_replicate];exact hat1);have HB:=O hb1;clear hat1 hb1;go_wp2
  go_loopw [4] (fun i wr=>∃q:Nat,q≤32∧i = .int .i64 q∧Hid (Fld.BAt wr w.heap.size (iC (List.replicate 32 c) q))∧Hid (Below w.heap.size w wr)) (fun i _=>32-(intOf i).toNat)
  case atStart=>exact⟨0,N_ _,rfl,HAT,HB⟩
  case round =>
   obtain⟨q,hq,rfl,hat,hb⟩:=hrel
   by_cases hlt:q<32
   ·have q1:(q:Int)<32:=by omega
    have HQL:=O hlt;have HS:=O (Pn c 32 q hlt);have HFL:=O (fq (List.replicate 32 c) q);have c9:=hat.out.at q (by rw[HFL.out,List.length_replicate];exact hlt);have f9:=hat.out.free q;clear hlt hq;go_wp2;go_roundw
    case rel=>exact⟨q+1,HQL.out,by go_num,O (by rw[←HS.out];exact hat.out.set q _),O (hb.out.setCell (A_ _) _)⟩
    case measure=>have := HQL.out;simp[intOf];omega
   ·have he:q=32:=by omega
    have q1:¬(q:Int)<32:=by omega
    have HF:Hid (Fld.BAt wr w.heap.size (List.replicate 32 c)):=O (by have h:=hat.out;rwa [he,Pm] at h)
    have hcv:(convert 80 9 (.slice (some ⟨w.heap.size,0,none⟩) 32 32)).run prog wr = .ok (.string ⟨(List.replicate 32 c).toArray⟩) wr:=by
     have h:=b6 (ui HF.out (by simp))
     rwa [List.length_replicate] at h
    clear he hlt hq hat
    go_wp2;go_ret;exact⟨rfl,hb.out⟩
attribute [local irreducible] shc shA
attribute [local irreducible] tbA aP
end
end Go.Proofs.YtmfiaadjdbemnaaGreatDoor
