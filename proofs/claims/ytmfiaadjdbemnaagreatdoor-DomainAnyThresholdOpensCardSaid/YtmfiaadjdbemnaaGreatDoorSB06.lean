/- Contracts and lemmas. No condition. -/
import Derived.Test.YtmfiaadjdbemnaaGreatDoorSB05
import Derived.Deep.CutBlock
import Derived.Laws.Bits64b
import Derived.Lib.Zigzag
import Derived.WalkMore
set_option maxRecDepth 100000
set_option maxHeartbeats 8000000
namespace Go.Proofs.YtmfiaadjdbemnaaGreatDoor
section
open Go.RowKit
theorem O4 (m:Nat) (c:UInt8) (h:m<72057594037927936):bits .or .u64 ((m:Int)*256) (B8 c)=((256*m+c.toNat:Nat):Int):=by
 have hc:=c.toNat_lt
 have e:(m:Int)*256=((256*m:Nat):Int):=by omega
 unfold B8;rw[e,bits_or_u64_nat _ _ (by omega) (by omega)];have h1:=Nat.two_pow_add_eq_or_of_lt (i:=8) (b:=c.toNat) (by omega) m;rw[show (2:Nat) ^ 8*m=256*m by omega] at h1;rw[h1]
theorem oQ (r:List UInt8) (f:UInt8) (j:Nat) (hj:j<r.length):dB ((r.take (j+1)).map (· ^^^ f))=256*dB ((r.take j).map (· ^^^ f))+(byteAt r j ^^^ f).toNat:=by
 rw[List.take_add_one,List.getElem?_eq_getElem hj,List.map_append]
 show dB (_++[r[j] ^^^ f])=_
 rw[jI]
 congr 2
 unfold byteAt
 simp[List.getElem?_eq_getElem hj]
theorem wE (r:List UInt8) (f:UInt8) (j:Nat) (hj:j<8):dB ((r.take j).map (· ^^^ f))<72057594037927936:=by
 refine Nat.lt_of_lt_of_le (mN _) ?_
 have : ((r.take j).map (· ^^^ f)).length≤7:=by rw[List.length_map,List.length_take];omega
 exact Nat.le_trans (Nat.pow_le_pow_right (by decide) this) (by decide)
open Go.RowKit
def dG (b:List UInt8) (size:Nat):Int × Nat × Int :=
 if (aZ b).2.2≠0 then aZ b
 else if (aZ b).1<0 then ((aZ b).1,(aZ b).2.1,6)
 else if (((b.length-(aZ b).2.1) / size:Nat):Int)<(aZ b).1 then ((aZ b).1,(aZ b).2.1,5)
 else aZ b
def aL (b:List UInt8):List UInt8 × Nat × Int :=
 if (dG b 1).2.2≠0 then ([],0,(dG b 1).2.2) else ((b.drop (dG b 1).2.1).take (dG b 1).1.toNat,(dG b 1).2.1+(dG b 1).1.toNat,0)
section
variable {α:Type}
def fS (dec:List UInt8→α × Nat × Int) (b:List UInt8):Nat→Nat→List α→List α × Nat × Int
 | 0,pos,acc=>(acc,pos,0)
 | n+1,pos,acc=>if (dec (b.drop pos)).2.2≠0 then ([],0,(dec (b.drop pos)).2.2) else fS dec b n (pos+(dec (b.drop pos)).2.1) (acc++[(dec (b.drop pos)).1])
def j8 (dec:List UInt8→α × Nat × Int) (b:List UInt8):List α × Nat × Int :=
 if (dG b 1).2.2≠0 then ([],0,(dG b 1).2.2) else fS dec b (dG b 1).1.toNat (dG b 1).2.1 []
def ea (enc:α→List UInt8) (l:List α):List UInt8:=(l.map enc).flatten
def kX (enc:α→List UInt8) (l:List α):List UInt8:=bF l.length++ea enc l
theorem fj (enc:α→List UInt8):ea enc []=[]:=rfl
theorem eL (enc:α→List UInt8) (x:α) (l:List α):ea enc (x::l)=enc x++ea enc l:=by unfold ea;rw[List.map_cons,List.flatten_cons]
theorem Gh (enc:α→List UInt8) (x:α) (l:List α):ea enc (l++[x])=ea enc l++enc x:=by unfold ea;simp
structure kg (ok:α→Prop) (enc:α→List UInt8) (dec:List UInt8→α × Nat × Int):Prop where
 rt:∀x,ok x→∀r,dec (enc x++r)=(x,(enc x).length,0)
 back:∀b x u,dec b=(x,u,0)→b=enc x++b.drop u∧u=(enc x).length∧ok x
 pos:∀x,1≤(enc x).length
theorem JA (m:Nat) (f:UInt8):1≤(jg m f).length:=by rw[bZ];omega
theorem mT (n:Int):1≤(bF n).length:=by unfold bF;split <;> exact JA _ _
def okI (n:Int):Prop := -9223372036854775808≤n∧n<9223372036854775808
theorem CI:kg okI bF aZ:=⟨fun x h r=>uF x h.1 h.2 r,fun b x u h=>kp b x u h,mT⟩
theorem ql (b:List UInt8) (h:(aZ b).2.2≠0):(aZ b).1=0∧(aZ b).2.1=0:=by
 cases b with
 | nil=>exact⟨rfl,rfl⟩
 | cons c r =>
   rw[aZ] at h ⊢
   split
   ·exact⟨rfl,rfl⟩
   ·split
    ·exact⟨rfl,rfl⟩
    ·split
     ·exact⟨rfl,rfl⟩
     ·split
      ·exact⟨rfl,rfl⟩
      ·rename_i h1 h2 h3 h4
       rw[if_neg h1,if_neg h2,if_neg h3,if_neg h4] at h;exact absurd rfl h
theorem jA (b:List UInt8) (h:(aZ b).2.2=0):(aZ b).2.1≤b.length∧okI (aZ b).1:=by
 obtain⟨h1,h2,h3,h4⟩:=kp b (aZ b).1 (aZ b).2.1 (by rw[←h]);refine⟨?_,h3,h4⟩;have := congrArg List.length h1;rw[List.length_append,List.length_drop] at this
 omega
theorem oT (b:List UInt8) (size:Nat):((aZ b).2.2≠0∧dG b size=(0,0,(aZ b).2.2)) ∨
  ((aZ b).2.2=0∧(aZ b).1<0∧dG b size=((aZ b).1,(aZ b).2.1,6)) ∨
  ((aZ b).2.2=0∧¬(aZ b).1<0∧(((b.length-(aZ b).2.1) / size:Nat):Int)<(aZ b).1∧dG b size=((aZ b).1,(aZ b).2.1,5)) ∨
  ((aZ b).2.2=0∧¬(aZ b).1<0∧¬(((b.length-(aZ b).2.1) / size:Nat):Int)<(aZ b).1∧dG b size=((aZ b).1,(aZ b).2.1,0)):=by
 unfold dG
 by_cases h:(aZ b).2.2=0
 ·refine .inr ?_
  rw[if_neg (by rw[h];exact fun e=>e rfl)]
  by_cases h1:(aZ b).1<0
  ·exact .inl ⟨h,h1,by rw[if_pos h1]⟩
  ·rw[if_neg h1]
   by_cases h2:(((b.length-(aZ b).2.1) / size:Nat):Int)<(aZ b).1
   ·exact .inr (.inl ⟨h,h1,h2,by rw[if_pos h2]⟩)
   ·refine .inr (.inr ⟨h,h1,h2,?_⟩)
    rw[if_neg h2]
    conv=>rhs;rw[←h]
 ·refine .inl ⟨h,?_⟩
  rw[if_pos h];obtain⟨e1,e2⟩:=ql b h;rw[←e1,←e2]
theorem iQ (b:List UInt8) (h:(dG b 1).2.2=0):aZ b=((dG b 1).1,(dG b 1).2.1,0)∧0≤(dG b 1).1∧(dG b 1).2.1+(dG b 1).1.toNat≤b.length∧1≤(dG b 1).2.1:=by
 rcases oT b 1 with⟨h1,h2⟩|⟨h1,h2,h3⟩|⟨h1,h2,h3,h4⟩|⟨h1,h2,h3,h4⟩
 ·rw[h2] at h;exact absurd h h1
 ·rw[h3] at h;cases h
 ·rw[h4] at h;cases h
 ·rw[h4]
  have hu:=jA b h1;obtain⟨k1,k2,k3⟩:=kp b (aZ b).1 (aZ b).2.1 (by rw[←h1]);have := mT (aZ b).1;refine⟨by rw[←h1],by omega,?_,by show 1≤(aZ b).2.1;omega⟩
  show (aZ b).2.1+(aZ b).1.toNat≤b.length
  rw[Nat.div_one] at h3
  omega
theorem Az (n:Nat) (hn:n<9223372036854775808) (r:List UInt8) (hr:n≤r.length):dG (bF n++r) 1=((n:Int),(bF n).length,0):=by
 have h:=uF (n:Int) (by omega) (by omega) r;unfold dG;rw[h,if_neg (by exact fun e=>e rfl),if_neg (by show ¬((n:Int)<0);omega),if_neg]
 show ¬((((bF n++r).length-(bF n).length) / 1:Nat):Int)<n
 rw[Nat.div_one,List.length_append]
 omega
theorem Jr (s r:List UInt8) (hs:s.length<9223372036854775808):aL (aV s++r)=(s,(aV s).length,0):=by
 unfold aL
 have h:dG (aV s++r) 1=((s.length:Int),(bF s.length).length,0):=by
  unfold aV;rw[List.append_assoc];exact Az s.length hs _ (by rw[List.length_append];omega)
 rw[h,if_neg (by exact fun e=>e rfl)];unfold aV;rw[List.append_assoc,List.drop_left]
 show ((s++r).take ((s.length:Int).toNat),(bF s.length).length+(s.length:Int).toNat,(0:Int))=_
 rw[Int.toNat_natCast,List.take_left,List.length_append]
theorem Ew (b s:List UInt8) (u:Nat) (h:aL b=(s,u,0)):b=aV s++b.drop u∧u=(aV s).length∧u≤b.length∧s.length<9223372036854775808:=by
 unfold aL at h
 split at h
 ·rename_i hc
  simp only[Prod.mk.injEq] at h;exact absurd h.2.2 hc
 ·rename_i hc
  simp only[Prod.mk.injEq,and_true] at h;obtain⟨h1,h2⟩:=h;obtain⟨k1,k2,k3,_⟩:=iQ b (Decidable.of_not_not hc);obtain⟨d1,d2,d3,d4⟩:=kp b _ _ k1;generalize dG b 1=c at *
  have hl:s.length=c.1.toNat:=by rw[←h1,List.length_take,List.length_drop];omega
  have hi:bF (s.length:Int)=bF c.1:=by rw[hl,Int.toNat_of_nonneg k2]
  refine⟨?_,?_,by omega,by omega⟩
  ·unfold aV
   rw[hi,List.append_assoc,←h1,←h2,←List.drop_drop,List.take_append_drop];exact d1
  ·unfold aV
   rw[hi,List.length_append,hl,←d2,h2]
def okS (s:List UInt8):Prop:=s.length<9223372036854775808
theorem AR (s:List UInt8):1≤(aV s).length:=by unfold aV;rw[List.length_append];have := mT (s.length:Int);omega
theorem hI:kg okS aV aL:=⟨fun x h r=>Jr x r h,fun b x u h=>by have := Ew b x u h;exact⟨this.1,this.2.1,this.2.2.2⟩,AR⟩
variable {ok:α→Prop} {enc:α→List UInt8} {dec:List UInt8→α × Nat × Int}
theorem kg.used (hc:kg ok enc dec) (b:List UInt8) (h:(dec b).2.2=0):(dec b).2.1≤b.length∧1≤(dec b).2.1∧ok (dec b).1:=by
 obtain⟨h1,h2,h3⟩:=hc.back b (dec b).1 (dec b).2.1 (by rw[←h]);have := congrArg List.length h1;have hp:=hc.pos (dec b).1;rw[List.length_append,List.length_drop] at this;exact⟨by omega,by omega,h3⟩
theorem Jo (hc:kg ok enc dec) (l:List α):(∀x∈l,ok x)→∀(p r:List UInt8) (acc:List α),fS dec (p++(ea enc l++r)) l.length p.length acc=(acc++l,p.length+(ea enc l).length,0):=by
 induction l with
 | nil=>intro _ p r acc;simp[fS,fj]
 | cons x l ih =>
   intro hok p r acc;rw[List.length_cons,fS,List.drop_left,eL,List.append_assoc,hc.rt x (hok x (by simp)),if_neg (by exact fun e=>e rfl)]
   show fS dec (p++(enc x++(ea enc l++r))) l.length (p.length+(enc x).length) (acc++[x])=_
   have h:=ih (fun y hy=>hok y (by simp[hy])) (p++enc x) r (acc++[x]);rw[List.append_assoc,List.length_append] at h;rw[h,List.length_append]
   simp[Nat.add_assoc]
theorem AF (hc:kg ok enc dec) (l:List α) (hok:∀x∈l,ok x) (hl:l.length<9223372036854775808) (r:List UInt8):j8 dec (kX enc l++r)=(l,(kX enc l).length,0):=by
 have hge:l.length≤(ea enc l).length:=by
  clear hok hl
  induction l with
  | nil=>exact Nat.zero_le _
  | cons x l ih=>rw[eL,List.length_append,List.length_cons];have := hc.pos x;omega
 unfold j8
 have h:dG (kX enc l++r) 1=((l.length:Int),(bF l.length).length,0):=by
  unfold kX;rw[List.append_assoc];exact Az l.length hl _ (by rw[List.length_append];omega)
 rw[h,if_neg (by exact fun e=>e rfl)]
 show fS dec (kX enc l++r) (l.length:Int).toNat (bF l.length).length []=_
 unfold kX;rw[Int.toNat_natCast,List.append_assoc,Jo hc l hok,List.length_append,List.nil_append]
theorem yM (hc:kg ok enc dec) (b:List UInt8) (n:Nat):∀(pos:Nat) (acc l:List α) (u:Nat),pos≤b.length→fS dec b n pos acc=(l,u,0) →
  ∃l',l=acc++l'∧l'.length=n∧b.drop pos=ea enc l'++b.drop u∧u=pos+(ea enc l').length∧u≤b.length∧∀x∈l',ok x:=by
 induction n with
 | zero =>
   intro pos acc l u hp h;simp only[fS,Prod.mk.injEq,and_true] at h;obtain⟨rfl,rfl⟩:=h;exact⟨[],by simp,rfl,by simp[fj],by simp[fj],hp,by simp⟩
 | succ n ih =>
   intro pos acc l u hp h;rw[fS] at h
   split at h
   ·rename_i he
    simp only[Prod.mk.injEq] at h;exact absurd h.2.2 he
   ·rename_i he
    have h0:=Decidable.of_not_not he;obtain⟨k1,k2,k3⟩:=hc.back (b.drop pos) (dec (b.drop pos)).1 (dec (b.drop pos)).2.1 (by rw[←h0]);obtain⟨u1,u2,u3⟩:=hc.used (b.drop pos) h0;rw[List.length_drop] at u1;obtain⟨l',e1,e2,e3,e4,e5,e6⟩:=ih _ _ _ _ (by omega) h;generalize dec (b.drop pos)=y at *;refine⟨y.1::l',by rw[e1];simp,by rw[List.length_cons,e2],?_,?_,e5,?_⟩
    ·rw[eL,List.append_assoc,←e3,←List.drop_drop]
     exact k1
    ·rw[eL,List.length_append,←k2]
     omega
    ·intro x hx
     rcases List.mem_cons.1 hx with rfl|hx
     ·exact k3
     ·exact e6 x hx
theorem tn (hc:kg ok enc dec) (b:List UInt8) (l:List α) (u:Nat) (h:j8 dec b=(l,u,0)):b=kX enc l++b.drop u∧u=(kX enc l).length∧u≤b.length∧∀x∈l,ok x:=by
 unfold j8 at h
 split at h
 ·rename_i he
  simp only[Prod.mk.injEq] at h;exact absurd h.2.2 he
 ·rename_i he
  obtain⟨k1,k2,k3,_⟩:=iQ b (Decidable.of_not_not he);obtain⟨d1,d2,d3,d4⟩:=kp b _ _ k1;obtain⟨l',e1,e2,e3,e4,e5,e6⟩:=yM hc b _ _ _ _ _ (by omega) h;rw[List.nil_append] at e1;subst e1;generalize dG b 1=c at *
  have hi:bF (l.length:Int)=bF c.1:=by rw[e2,Int.toNat_of_nonneg k2]
  refine⟨?_,?_,e5,e6⟩
  ·unfold kX
   rw[hi,List.append_assoc,←e3];exact d1
  ·unfold kX
   rw[hi,List.length_append,←d2,e4]
end
def cd (l:List Int):List UInt8:=kX bF l
def aB (b:List UInt8):List Int × Nat × Int:=j8 aZ b
def eN (l:List (List UInt8)):List UInt8:=kX aV l
def aE (b:List UInt8):List (List UInt8) × Nat × Int:=j8 aL b
theorem xj (l:List Int):1≤(cd l).length:=by unfold cd kX;rw[List.length_append];have := mT (l.length:Int);omega
theorem Gy (l:List (List UInt8)):1≤(eN l).length:=by unfold eN kX;rw[List.length_append];have := mT (l.length:Int);omega
theorem ko:kg (fun l=>(∀x∈l,okI x)∧l.length<9223372036854775808) cd aB:=⟨fun x h r=>AF CI x h.1 h.2 r,fun b x u h=>by
 have := tn CI b x u h;refine⟨this.1,this.2.1,this.2.2.2,?_⟩;unfold aB j8 at h
 split at h
 ·rename_i he
  simp only[Prod.mk.injEq] at h;exact absurd h.2.2 he
 ·rename_i he
  obtain⟨k1,k2,k3,_⟩:=iQ b (Decidable.of_not_not he);obtain⟨d1,d2,d3,d4⟩:=kp b _ _ k1;obtain⟨l',e1,e2,_⟩:=yM CI b _ _ _ _ _ (by omega) h;rw[List.nil_append] at e1;subst e1
  omega,xj⟩
theorem lI:kg (fun l=>(∀x∈l,okS x)∧l.length<9223372036854775808) eN aE:=⟨fun x h r=>AF hI x h.1 h.2 r,fun b x u h=>by
 have := tn hI b x u h;refine⟨this.1,this.2.1,this.2.2.2,?_⟩;unfold aE j8 at h
 split at h
 ·rename_i he
  simp only[Prod.mk.injEq] at h;exact absurd h.2.2 he
 ·rename_i he
  obtain⟨k1,k2,k3,_⟩:=iQ b (Decidable.of_not_not he);obtain⟨d1,d2,d3,d4⟩:=kp b _ _ k1;obtain⟨l',e1,e2,_⟩:=yM hI b _ _ _ _ _ (by omega) h;rw[List.nil_append] at e1;subst e1
  omega,Gy⟩
end
section
open Go.RowKit
def il (x:Int × Nat × Int):Value := .tuple #[.int .i64 x.1,.int .i64 x.2.1,.int .i64 x.2.2]
def kOf (h:UInt8):Nat:=(h ^^^ bH h).toNat-128
def vOf (h:UInt8) (r:List UInt8):Nat:=dB ((r.take (kOf h)).map (· ^^^ bH h))
theorem jK (h:UInt8) (r:List UInt8):(8<kOf h∧aZ (h::r)=(0,0,6))∨(kOf h≤8∧r.length<kOf h∧aZ (h::r)=(0,0,5)) ∨
  (kOf h≤8∧kOf h≤r.length∧0<kOf h∧byteAt r 0 ^^^ bH h=0∧aZ (h::r)=(0,0,6)) ∨
  (kOf h≤8∧kOf h≤r.length∧(kOf h=0∨0<kOf h∧byteAt r 0 ^^^ bH h≠0)∧((9223372036854775808≤vOf h r∧aZ (h::r)=(0,0,6))∨(vOf h r<9223372036854775808∧aZ (h::r)=(if h.toNat<128 then -1-(vOf h r:Int) else (vOf h r:Int),kOf h+1,0)))):=by
 rw[aZ]
 by_cases h1:8<kOf h
 ·exact .inl ⟨h1,if_pos h1⟩
 ·rw[if_neg (show ¬ 8 < (h ^^^ bH h).toNat - 128 from h1)]
  by_cases h2:r.length<kOf h
  ·exact .inr (.inl ⟨by omega,h2,if_pos h2⟩)
  ·rw[if_neg (show ¬r.length<(h ^^^ bH h).toNat-128 from h2)]
   by_cases h3:0<kOf h∧byteAt r 0 ^^^ bH h=0
   ·exact .inr (.inr (.inl ⟨by omega,by omega,h3.1,h3.2,if_pos h3⟩))
   ·rw[if_neg (show ¬(0<(h ^^^ bH h).toNat-128∧byteAt r 0 ^^^ bH h=0) from h3)]
    refine .inr (.inr (.inr ⟨by omega,by omega,?_,?_⟩))
    ·rcases Nat.eq_zero_or_pos (kOf h) with h0|h0
     ·exact .inl h0
     ·exact .inr ⟨h0,fun e=>h3 ⟨h0,e⟩⟩
    ·by_cases h4:9223372036854775808≤vOf h r
     ·exact .inl ⟨h4,if_pos h4⟩
     ·exact .inr ⟨by omega,if_neg h4⟩
theorem Mu (h:UInt8) (r:List UInt8) (hk:kOf h≤8):vOf h r<18446744073709551616:=by
 refine Nat.lt_of_lt_of_le (mN _) ?_
 have : ((r.take (kOf h)).map (· ^^^ bH h)).length≤8:=by rw[List.length_map,List.length_take];omega
 exact Nat.le_trans (Nat.pow_le_pow_right (by decide) this) (by decide)
theorem Xp (m:Nat) (h:m<18446744073709551616):m ^^^ (2 ^ 64-1)=18446744073709551615-m:=by
 have h1:=Lib.xor_ones64 m h;rw[Nat.xor_comm] at h1
 omega
theorem Cr (m:Nat) (h:m<9223372036854775808):wrap64 (bits .xor .u64 IntKind.u64.max (m:Int)) = -1-(m:Int):=by
 have e2:IntKind.u64.max=((2 ^ 64-1:Nat):Int):=by decide
 rw[e2,bits_xor_u64_nat _ _ (by decide) (by omega),Nat.xor_comm,Xp m (by omega)];unfold wrap64
 omega
attribute [local irreducible] Calls vOf
theorem Ba (v : Value) (b : List UInt8) (w : World) (hv : RdE eB w v b) :
  Calls Tryz.prog 174 #[v] w fun e w'=>e = .returned (il (aZ b))∧w'=w:=by
 have HV:=O hv;obtain⟨a,cap,rfl,hcap,hcm,_⟩:=hv;unfold maxLen at hcm
 cases b with
 | nil =>
   go_enter Tryz.func174,Tryz.ntmps174
   go_wp2;refine⟨rfl,il (aZ []),by kernel_rfl,rfl,rfl⟩
 | cons h r =>
   obtain⟨bb,off,rfl,hbl,aO⟩:=fp HV.out (by simp);have HROW:=O aO;clear aO;have hc0:=HROW.out 0 (by simp);have e0:byteAt (h::r) 0=h:=rfl;rw[e0,Nat.add_zero] at hc0;have HGE:=O (EH h);have HP:=O (jK h r);have HF:=O (lL h);obtain⟨F,hF⟩:∃F,F=bH h:=⟨_,rfl⟩;have HFF:=O hF;clear hF e0
   go_enter Tryz.func174,Tryz.ntmps174
   go_upto_if 16 with fail
   go_cut [5,16] from 17 to 17 (fun f _ wc=>f = .int .u8 (B8 F)∧wc=w)
   case first =>
    rcases HF.out with⟨hc1,hc2⟩|⟨hc1,hc2⟩
    ·have i1:B8 h<128:=by unfold B8;omega
     have H2:Hid (F=255):=O (by rw[HFF.out,hc2]);clear hc1 hc2;go_wp2
     all_goals go_meet
     case rel=>exact⟨by rw[H2.out];rfl,rfl⟩
    ·have i1:¬B8 h<128:=by unfold B8;omega
     have H2:Hid (F=0):=O (by rw[HFF.out,hc2]);clear hc1 hc2;go_wp2
     all_goals go_meet
     case rel=>exact⟨by rw[H2.out];rfl,rfl⟩
   case rest =>
    obtain⟨rfl,hwc⟩:=hcut;rw[hwc];clear hwc
    have hkk:B8 (h ^^^ F)=128+(kOf h:Int):=by rw[HFF.out];unfold kOf B8;have := HGE.out;omega
    have hk0:(kOf h:Int)≤127:=by have h1:=(h ^^^ bH h).toNat_lt;unfold kOf;omega
    have HPX:=O HP.out;have HFC:=O HF.out;generalize hK:kOf h=K at hkk hk0 HPX;have HKK:=O hK;clear hK
    have e1:128+(K:Int)-128=K:=by omega
    rcases HPX.out with⟨p1,p2⟩|⟨p1,p2,p3⟩|⟨p1,p2,p3,p4,p5⟩|⟨p1,p2,p3,p4⟩
    ·have i1:(8:Int)<K:=by omega
     have HR:=O p2;clear p1 p2 HPX;go_wp2
     go_ret3
     exact⟨by rw[HR.out];rfl,rfl⟩
    ·have i1:(K:Int)≤8:=by omega
     have i2:(r.length:Int)+1≤K:=by omega
     have HR:=O p3;clear p1 p2 p3 HPX;go_wp2
     go_ret3
     exact⟨by rw[HR.out];rfl,rfl⟩
    ·have i1:(K:Int)≤8:=by omega
     have i2:¬(r.length:Int)+1≤K:=by omega
     have i3:(0:Int)<K:=by omega
     have i4:(1:Int)<r.length+1:=by omega
     have i5:1<r.length+1:=by omega
     have HR:=O p5;have hc1:=HROW.out 1 (by simp;omega);have e2:byteAt (h::r) 1=byteAt r 0:=rfl;rw[e2] at hc1;rw[←HFF.out] at p4
     have e3:bits .xor .u8 (B8 (byteAt r 0)) (B8 F)=0:=by rw[sj,p4];rfl
     clear p1 p2 p3 p4 p5 HPX e2;go_wp2
     go_ret3
     exact⟨by rw[HR.out];rfl,rfl⟩
    ·have i1 : (K : Int) ≤ 8 := by omega
     have i2:¬(r.length:Int)+1≤K:=by omega
     have HKL:Hid (K≤r.length):=O p2;have HK8:Hid (K≤8):=O p1;have HR:=O p4
     go_upto_region 11 with fail
     go_cut [32] from 33 to 42 (fun c wc=>c = .bool false∧wc=w)
     case first =>
      rcases p3 with h0|⟨h1,h2⟩
      ·have i3:¬(0:Int)<K:=by omega
       clear p1 p2 p4 HPX h0;go_wp2
       go_meet
       case rel=>exact⟨rfl,rfl⟩
      ·have i3:(0:Int)<K:=by omega
       have i4:(1:Int)<r.length+1:=by omega
       have i5:1<r.length+1:=by omega
       have hc1:=HROW.out 1 (by simp;omega);have e2:byteAt (h::r) 1=byteAt r 0:=rfl;rw[e2] at hc1;rw[←HFF.out] at h2;have e4:¬B8 (byteAt r 0 ^^^ F)=0:=fun e=>h2 (pJ e)
       have e5:(B8 (byteAt r 0 ^^^ F) == 0)=false:=by simpa using e4
       clear p1 p2 p4 HPX e2 h1 h2;go_wp2
       go_meet
       case rel=>exact⟨rfl,rfl⟩
     case rest =>
      obtain⟨rfl,hwc⟩:=hcut;rw[hwc];clear hwc p3 p4 HPX
      have i3:(K:Int)+1≤cap:=by simp at hcap;omega
      by_cases hcap1:cap=1
      ·subst hcap1
       have h0:K=0:=by omega
       clear h0;go_wp2
       go_loopw [48,7] (fun i v wr=>∃(j m:Nat),j≤K∧i = .int .i64 j∧v = .int .u64 m∧Hid (m=dB ((r.take j).map (· ^^^ F)))∧wr=w) (fun i _ _=>K-(intOf i).toNat)
       case atStart=>exact⟨0,0,Nat.zero_le _,rfl,rfl,O (by simp[dB]),rfl⟩
       case round =>
        obtain⟨j,m,hj,rfl,rfl,hm,rfl⟩:=hrel
        have hk1:K≤0:=by omega
        have HM:=hm;have b1:(if 9223372036854775808≤vOf h r then (1:Nat) else 0)=(if 9223372036854775808≤vOf h r then 1 else 0):=rfl;clear b1
        have hjk:j=K:=by omega
        subst hjk;have HV2:Hid (m=vOf h r):=O (by rw[HM.out];unfold vOf;rw[HKK.out,HFF.out]);have hml:=Mu h r (by rw[HKK.out];exact HK8.out);rw[←HV2.out] at hml
        have j1:¬(j:Int)<j:=by omega
        rcases HR.out with⟨q1,q2⟩|⟨q1,q2⟩
        ·have HQ:=O q2
         rw[←HV2.out] at q1
         have j2:(0:Int)<(m:Int) / 9223372036854775808:=by omega
         obtain⟨mi,hmi⟩:∃mi:Int,mi=(m:Int):=⟨_,rfl⟩;rw[←hmi] at j2 ⊢;clear q1 q2 hmi hm;go_wp2
         go_ret3
         exact⟨by rw[HQ.out];rfl,rfl⟩
        ·have HQ:=O q2
         rw[←HV2.out] at q1
         have j2:¬(0:Int)<(m:Int) / 9223372036854775808:=by omega
         have j3:(m:Int)<9223372036854775808:=by omega
         have j4:0≤(m:Int):=by omega
         obtain⟨mi,hmi⟩:∃mi:Int,mi=(m:Int):=⟨_,rfl⟩;rw[←hmi] at j2 j3 j4 ⊢;have HMI:=O hmi
         have j5:IntKind.i64.wrap mi=mi:=by rw[IntKind.wrap_i64];omega
         have J6:Hid (wrap64 (bits .xor .u64 IntKind.u64.max mi) = -1-mi):=O (by rw[hmi];exact Cr m (by omega));clear q1 q2 hmi hm
         rcases HFC.out with⟨hc1,hc2⟩|⟨hc1,hc2⟩
         ·have k1:(0:Int)<B8 F:=by rw[HFF.out,hc2];decide
          have HC1:=O hc1;clear hc1 hc2;go_wp2;rw[J6.out]
          go_ret3
          exact⟨by rw[HQ.out,if_pos HC1.out,←HV2.out,←HMI.out];rfl,rfl⟩
         ·have k1:¬(0:Int)<B8 F:=by rw[HFF.out,hc2];decide
          have HC1:=O hc1;clear hc1 hc2;go_wp2
          go_ret3
          exact⟨by rw[HQ.out,if_neg HC1.out,←HV2.out,←HMI.out];rfl,rfl⟩
      ·have yd:¬(cap:Int)=1:=by omega
       go_wp2
       go_loopw [48,7] (fun i v wr=>∃(j m:Nat),j≤K∧i = .int .i64 j∧v = .int .u64 m∧Hid (m=dB ((r.take j).map (· ^^^ F)))∧wr=w) (fun i _ _=>K-(intOf i).toNat)
       case atStart=>exact⟨0,0,Nat.zero_le _,rfl,rfl,O (by simp[dB]),rfl⟩
       case round =>
        obtain⟨j,m,hj,rfl,rfl,hm,rfl⟩:=hrel
        by_cases hlt:j<K
        ·have j1:(j:Int)<K:=by omega
         have hcj:=HROW.out (1+j) (by have := HKL.out;simp;omega)
         have e2:byteAt (h::r) (1+j)=byteAt r j:=by rw[Nat.add_comm];rfl
         rw[e2,←Nat.add_assoc] at hcj;have hm56:=wE r F j (by have := HK8.out;omega);have HST:=O (oQ r F j (by have := HKL.out;omega));rw[←hm.out] at hm56;have HM:=hm;obtain⟨mi,hmi⟩:∃mi:Int,mi=(m:Int):=⟨_,rfl⟩;have hor:=O4 m (byteAt r j ^^^ F) hm56;rw[←hmi] at hor ⊢
         have m1:mi<72057594037927936:=by omega
         have m2:0≤mi:=by omega
         have hwb:IntKind.u64.wrap (B8 (byteAt r j ^^^ F))=B8 (byteAt r j ^^^ F):=by rw[IntKind.wrap_u64];have := jZ (byteAt r j ^^^ F);have := kI (byteAt r j ^^^ F);omega
         have HOR:=O hor;clear hor;have HLT:=O hlt;clear hm hm56 e2 hmi hlt;go_wp2;go_roundw
         case rel=>exact⟨j+1,256*m+(byteAt r j ^^^ F).toNat,HLT.out,by go_num,by first |exact congrArg (Value.int .u64) HOR.out|(rw[hwb];exact congrArg (Value.int .u64) HOR.out),O (by rw[HST.out,←HM.out]),by first |exact rfl|exact trivial⟩
         case measure=>have := HLT.out;simp[intOf];omega
        ·have HNL:=O hlt
         clear hlt;have HM:=hm;have b1:(if 9223372036854775808≤vOf h r then (1:Nat) else 0)=(if 9223372036854775808≤vOf h r then 1 else 0):=rfl;clear b1
         have hjk:j=K:=by have := HNL.out;omega
         subst hjk;have HV2:Hid (m=vOf h r):=O (by rw[HM.out];unfold vOf;rw[HKK.out,HFF.out]);have hml:=Mu h r (by rw[HKK.out];exact HK8.out);rw[←HV2.out] at hml
         have j1:¬(j:Int)<j:=by omega
         rcases HR.out with⟨q1,q2⟩|⟨q1,q2⟩
         ·have HQ:=O q2
          rw[←HV2.out] at q1
          have j2:(0:Int)<(m:Int) / 9223372036854775808:=by omega
          obtain⟨mi,hmi⟩:∃mi:Int,mi=(m:Int):=⟨_,rfl⟩;rw[←hmi] at j2 ⊢;clear q1 q2 hmi hm;go_wp2
          go_ret3
          exact⟨by rw[HQ.out];rfl,rfl⟩
         ·have HQ:=O q2
          rw[←HV2.out] at q1
          have j2:¬(0:Int)<(m:Int) / 9223372036854775808:=by omega
          have j3:(m:Int)<9223372036854775808:=by omega
          have j4:0≤(m:Int):=by omega
          obtain⟨mi,hmi⟩:∃mi:Int,mi=(m:Int):=⟨_,rfl⟩;rw[←hmi] at j2 j3 j4 ⊢;have HMI:=O hmi
          have j5:IntKind.i64.wrap mi=mi:=by rw[IntKind.wrap_i64];omega
          have J6:Hid (wrap64 (bits .xor .u64 IntKind.u64.max mi) = -1-mi):=O (by rw[hmi];exact Cr m (by omega));clear q1 q2 hmi hm
          rcases HFC.out with⟨hc1,hc2⟩|⟨hc1,hc2⟩
          ·have k1:(0:Int)<B8 F:=by rw[HFF.out,hc2];decide
           have HC1:=O hc1;clear hc1 hc2;go_wp2;rw[J6.out]
           go_ret3
           exact⟨by rw[HQ.out,if_pos HC1.out,←HV2.out,←HMI.out];rfl,rfl⟩
          ·have k1:¬(0:Int)<B8 F:=by rw[HFF.out,hc2];decide
           have HC1:=O hc1;clear hc1 hc2;go_wp2
           go_ret3
           exact⟨by rw[HQ.out,if_neg HC1.out,←HV2.out,←HMI.out];rfl,rfl⟩
end
section
open Go.RowKit
abbrev eI:El Int:=⟨3,59,1,fun n=>[.int .i64 n]⟩
theorem iB:eI.OK:=⟨Tryz.underlying59,by kernel_rfl,fun _=>rfl,fun x u hu=>by simp at hu;rw[hu];rfl,by decide⟩
open Go.RowKit
abbrev eS:El (List UInt8):=⟨9,97,1,fun x=>[.string ⟨x.toArray⟩]⟩
theorem AO:eS.OK:=⟨Tryz.underlying97,by kernel_rfl,fun _=>rfl,fun x u hu=>by simp at hu;rw[hu];rfl,by decide⟩
theorem A5 (l:List (List UInt8)):eS.flat l=l.map (fun x=>Value.string ⟨x.toArray⟩):=by
 induction l with
 | nil=>rfl
 | cons x l ih=>rw[El.flat,ih];rfl
theorem JQ (l:List Int):eI.flat l=l.map (Value.int .i64):=by
 induction l with
 | nil=>rfl
 | cons x l ih=>rw[El.flat,ih];rfl
end
end Go.Proofs.YtmfiaadjdbemnaaGreatDoor
