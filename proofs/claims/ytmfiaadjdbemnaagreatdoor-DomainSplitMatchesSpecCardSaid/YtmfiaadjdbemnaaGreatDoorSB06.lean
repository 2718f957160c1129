/- Contracts and lemmas. No condition. -/
import Derived.Test.YtmfiaadjdbemnaaGreatDoorSB05
import Derived.Deep.CutBlock
import Derived.Laws.Bits64b
import Derived.OrdersHeld
import Derived.WalkMore
set_option linter.unusedSimpArgs false
set_option linter.unusedVariables false
namespace Go.Proofs.YtmfiaadjdbemnaaGreatDoor
section
open Go.RowKit
def bH (h:UInt8):UInt8:=if h.toNat<128 then 255 else 0
def dB (l:List UInt8):Nat:=l.foldl (fun m c=>256*m+c.toNat) 0
theorem jI (l:List UInt8) (c:UInt8):dB (l++[c])=256*dB l+c.toNat:=by
 unfold dB;rw[List.foldl_append]
 rfl
theorem vT {P:List UInt8→Prop} (h0:P []) (h1:∀l c,P l→P (l++[c])):∀l,P l:=by
 intro l
 have h:∀n,∀l:List UInt8,l.length=n→P l:=by
  intro n
  induction n with
  | zero=>intro l hl;rw[List.length_eq_zero_iff.1 hl];exact h0
  | succ n ih =>
    intro l hl
    have hne:l≠[]:=by intro e;rw[e] at hl;simp at hl
    rw[←List.dropLast_concat_getLast hne];exact h1 _ _ (ih _ (by rw[List.length_dropLast];omega))
 exact h _ l rfl
theorem mN (l:List UInt8):dB l<256 ^ l.length:=by
 induction l using vT with
 | h0=>simp[dB]
 | h1 l c ih =>
   rw[jI,E_,List.length_singleton,Nat.pow_succ];have := c.toNat_lt
   omega
theorem Ao (m k:Nat):beN m (k+1)=beN (m / 256) k++[UInt8.ofNat m]:=by
 unfold beN;rw[List.range_succ,List.map_append]
 congr 1
 ·apply List.map_congr_left
  intro i hi;have hi:=List.mem_range.1 hi;rw[show k+1-1-i=(k-1-i)+1 by omega,Nat.pow_succ,Nat.mul_comm,←Nat.div_div_eq_div_mul]
 ·simp
theorem wR (k:Nat):∀m,m<256 ^ k→dB (beN m k)=m:=by
 induction k with
 | zero=>intro m h;simp at h;subst h;rfl
 | succ k ih =>
   intro m h;rw[Ao,jI,ih _ (by rw[Nat.pow_succ] at h;omega)];rw[UInt8.toNat_ofNat']
   omega
theorem FT (l:List UInt8):beN (dB l) l.length=l:=by
 induction l using vT with
 | h0=>rfl
 | h1 l c ih =>
   rw[E_,List.length_singleton,Ao,jI];have hc:=c.toNat_lt;rw[show (256*dB l+c.toNat) / 256=dB l by omega,ih]
   congr 2
   apply UInt8.toNat_inj.1
   rw[UInt8.toNat_ofNat']
   omega
theorem wD (c:UInt8) (l:List UInt8) (hc:c≠0):256 ^ l.length≤dB (c::l):=by
 induction l using vT with
 | h0 =>
   have h:c.toNat≠0:=fun e=>hc (UInt8.toNat_inj.1 e)
   show 1≤256*0+c.toNat
   omega
 | h1 l d ih =>
   rw[←List.cons_append,jI,E_,List.length_singleton,Nat.pow_succ]
   omega
theorem KE (l:List UInt8) (hl:l.length≤8) (h:l=[]∨byteAt l 0≠0):nb (dB l)=l.length:=by
 refine nh _ _ hl (mN l) ?_
 cases l with
 | nil=>exact .inl rfl
 | cons c t =>
   refine .inr ?_
   have hc:c≠0:=by
    rcases h with h|h
    ·cases h
    ·exact h
   exact wD c t hc
def aZ (b:List UInt8):Int × Nat × Int :=
 match b with
 | []=>(0,0,5)
 | h :: r =>
   if 8<(h ^^^ bH h).toNat-128 then (0,0,6)
   else if r.length<(h ^^^ bH h).toNat-128 then (0,0,5)
   else if 0<(h ^^^ bH h).toNat-128∧byteAt r 0 ^^^ bH h=0 then (0,0,6)
   else if 9223372036854775808≤dB ((r.take ((h ^^^ bH h).toNat-128)).map (· ^^^ bH h)) then (0,0,6)
   else (if h.toNat<128 then -1-(dB ((r.take ((h ^^^ bH h).toNat-128)).map (· ^^^ bH h)):Int) else (dB ((r.take ((h ^^^ bH h).toNat-128)).map (· ^^^ bH h)):Int),(h ^^^ bH h).toNat-128+1,0)
theorem ro (a f:UInt8):a ^^^ f ^^^ f=a:=by
 rw[UInt8.xor_assoc,UInt8.xor_self,UInt8.xor_zero]
theorem Kw (l:List UInt8) (f:UInt8):(l.map (· ^^^ f)).map (· ^^^ f)=l:=by
 rw[List.map_map]
 conv=>rhs;rw[←List.map_id l]
 apply List.map_congr_left
 intro a _;exact ro a f
theorem Dc (k:Nat) (hk:k≤8) (f:UInt8) (hf:f=0∨f=255):bH (UInt8.ofNat (128+k) ^^^ f)=f∧((UInt8.ofNat (128+k) ^^^ f) ^^^ f).toNat-128=k∧((UInt8.ofNat (128+k) ^^^ f).toNat<128↔f=255):=by
 rcases hf with rfl|rfl <;> rcases (by omega:k=0∨k=1∨k=2∨k=3∨k=4∨k=5∨k=6∨k=7∨k=8) with rfl|rfl|rfl|rfl|rfl|rfl|rfl|rfl|rfl <;> decide
theorem IL (m:Nat) (h:0<nb m) (hm:m<18446744073709551616):byteAt (beN m (nb m)) 0≠0:=by
 intro e;have h1:=wR (nb m) m (QS m hm);have h2:=(Wj m).resolve_left (by omega);have hl:=td m (nb m)
 cases hb:beN m (nb m) with
 | nil=>rw[hb] at hl;simp at hl;omega
 | cons c t =>
   rw[hb] at e h1 hl;have hc:c=0:=e;subst hc;have : dB ((0:UInt8)::t)=dB t:=rfl;rw[this] at h1;have h3:=mN t;rw[Z_] at hl;rw[show nb m-1=t.length by omega] at h2
   omega
theorem AG (m:Nat) (f:UInt8) (hf:f=0∨f=255) (hm:m<9223372036854775808) (r:List UInt8):aZ (jg m f++r)=(if f=255 then -1-(m:Int) else (m:Int),(jg m f).length,0):=by
 have hk:=lh m;obtain⟨h1,h2,h3⟩:=Dc (nb m) hk f hf;have hlen:=bZ m f;unfold jg at hlen ⊢;rw[List.cons_append,aZ,h1,h2]
 have hl:((beN m (nb m)).map (· ^^^ f)).length=nb m:=by rw[List.length_map,td]
 have ht:(((beN m (nb m)).map (· ^^^ f)++r).take (nb m)).map (· ^^^ f)=beN m (nb m):=by
  rw[List.take_append_of_le_length (by omega),Y_ (by omega),Kw]
 have hv:=wR (nb m) m (QS m (by omega));rw[ht,hv,hlen,H_ (by omega),H_ (by rw[E_];omega),H_,H_ (by omega)]
 ·by_cases hff:f=255
  ·rw[G_ (h3.2 hff),G_ hff,Nat.add_comm]
  ·rw[H_ (fun e=>hff (h3.1 e)),H_ hff,Nat.add_comm]
 ·rintro⟨hp,he⟩
  have hb:byteAt ((beN m (nb m)).map (· ^^^ f)++r) 0=byteAt (beN m (nb m)) 0 ^^^ f:=by
   cases hbe:beN m (nb m) with
   | nil=>have := td m (nb m);rw[hbe] at this;simp at this;omega
   | cons c t=>rfl
  rw[hb,ro] at he;exact IL m hp (by omega) he
theorem uF (n:Int) (hlo : -9223372036854775808≤n) (hhi:n<9223372036854775808) (r:List UInt8):aZ (bF n++r)=(n,(bF n).length,0):=by
 unfold bF
 by_cases h:0≤n
 ·rw[G_ h,AG _ _ (.inl rfl) (by omega)]
  have : ¬(0:UInt8)=255:=by decide
  rw[H_ this,Int.toNat_of_nonneg h]
 ·rw[H_ h,AG _ _ (.inr rfl) (by omega),G_ rfl]
  congr 1
  omega
theorem lL (h:UInt8):(h.toNat<128∧bH h=255)∨(¬h.toNat<128∧bH h=0):=by
 unfold bH
 by_cases hh:h.toNat<128
 ·exact .inl ⟨hh,G_ hh⟩
 ·exact .inr ⟨hh,H_ hh⟩
theorem EH (h:UInt8):128≤(h ^^^ bH h).toNat:=by
 have : ∀x:Fin 256,128≤(UInt8.ofNat x.val ^^^ bH (UInt8.ofNat x.val)).toNat:=by decide +kernel
 have := this ⟨h.toNat,h.toNat_lt⟩
 simpa using this
theorem kp (b : List UInt8) (n : Int) (u : Nat) (h : aZ b = (n, u, 0)) : b = bF n ++ b.drop u ∧ u = (bF n).length ∧ -9223372036854775808 ≤ n ∧ n < 9223372036854775808 := by
 cases b with
 | nil=>simp[aZ] at h
 | cons c r =>
   rw[aZ] at h;have hge:=EH c;have hcx:(c ^^^ bH c) ^^^ bH c=c:=ro _ _;generalize hk:(c ^^^ bH c).toNat-128=k at h
   split at h
   ·simp at h
   ·rename_i h1
    split at h
    ·simp at h
    ·rename_i h2
     split at h
     ·simp at h
     ·rename_i h3
      split at h
      ·simp at h
      ·rename_i h4
       simp only[Prod.mk.injEq,and_true] at h;obtain⟨hn,hu⟩:=h
       have hl:((r.take k).map (· ^^^ bH c)).length=k:=by rw[List.length_map,b_];omega
       have hnb:nb (dB ((r.take k).map (· ^^^ bH c)))=k:=by
        rw[KE _ (by omega),hl]
        rcases Nat.eq_zero_or_pos k with h0|h0
        ·exact .inl (List.length_eq_zero_iff.1 (by rw[hl,h0]))
        ·refine .inr fun e=>h3 ⟨h0,?_⟩
         cases r with
         | nil=>simp at h2;omega
         | cons d t =>
           obtain⟨k',rfl⟩:∃k',k=k'+1:=⟨k-1,by omega⟩;exact e
       have hbe:=FT ((r.take k).map (· ^^^ bH c));rw[hl] at hbe
       have hhead:UInt8.ofNat (128+k)=c ^^^ bH c:=by
        apply UInt8.toNat_inj.1
        rw[UInt8.toNat_ofNat'];have := (c ^^^ bH c).toNat_lt
        omega
       have henc:jg (dB ((r.take k).map (· ^^^ bH c))) (bH c)=c::r.take k:=by
        unfold jg;rw[hnb,hbe,Kw,hhead,hcx]
       have hb:c::r=(c::r.take k)++(c::r).drop (k+1):=by
        rw[J_,List.cons_append,List.take_append_drop]
       have hvl:=mN ((r.take k).map (· ^^^ bH c));generalize dB ((r.take k).map (· ^^^ bH c))=v at h4 hn henc;clear hnb hbe hhead hvl
       rcases lL c with⟨hc1,hc2⟩|⟨hc1,hc2⟩
       ·rw[G_ hc1] at hn
        have he:bF n=c::r.take k:=by
         unfold bF;rw[H_ (by omega),←henc,hc2,show (-1-n).toNat=v by omega]
        refine⟨by rw[he,←hu];exact hb,by rw[he,←hu,Z_,b_];omega,by omega,by omega⟩
       ·rw[H_ hc1] at hn
        have he:bF n=c::r.take k:=by
         unfold bF;rw[G_ (by omega),←henc,hc2,show n.toNat=v by omega]
        refine⟨by rw[he,←hu];exact hb,by rw[he,←hu,Z_,b_];omega,by omega,by omega⟩
open Go.RowKit
theorem O4 (m:Nat) (c:UInt8) (h:m<72057594037927936):bits .or .u64 ((m:Int)*256) (B8 c)=((256*m+c.toNat:Nat):Int):=by
 have hc:=c.toNat_lt
 have e:(m:Int)*256=((256*m:Nat):Int):=by omega
 unfold B8;rw[e,bits_or_u64_nat _ _ (by omega) (by omega)];have h1:=Nat.two_pow_add_eq_or_of_lt (i:=8) (b:=c.toNat) (by omega) m;rw[show (2:Nat) ^ 8*m=256*m by omega] at h1;rw[h1]
theorem oQ (r:List UInt8) (f:UInt8) (j:Nat) (hj:j<r.length):dB ((r.take (j+1)).map (· ^^^ f))=256*dB ((r.take j).map (· ^^^ f))+(byteAt r j ^^^ f).toNat:=by
 rw[List.take_add_one,K_ hj,List.map_append]
 show dB (_++[r[j] ^^^ f])=_
 rw[jI]
 congr 2
 unfold byteAt
 simp[K_ hj]
theorem wE (r:List UInt8) (f:UInt8) (j:Nat) (hj:j<8):dB ((r.take j).map (· ^^^ f))<72057594037927936:=by
 refine P_ (mN _) ?_
 have : ((r.take j).map (· ^^^ f)).length≤7:=by rw[List.length_map,b_];omega
 exact M_ (Nat.pow_le_pow_right (by decide) this) (by decide)
open Go.RowKit
def dG (b:List UInt8) (size:Nat):Int × Nat × Int :=
 if (aZ b).2.2≠0 then aZ b
 else if (aZ b).1<0 then ((aZ b).1,(aZ b).2.1,6)
 else if (((b.length-(aZ b).2.1) / size:Nat):Int)<(aZ b).1 then ((aZ b).1,(aZ b).2.1,5)
 else aZ b
def aL (b:List UInt8):List UInt8 × Nat × Int :=
 if (dG b 1).2.2≠0 then ([],0,(dG b 1).2.2) else ((b.drop (dG b 1).2.1).take (dG b 1).1.toNat,(dG b 1).2.1+(dG b 1).1.toNat,0)
section
variable {α:Type}
def fS (dec:List UInt8→α × Nat × Int) (b:List UInt8):Nat→Nat→List α→List α × Nat × Int
 | 0,pos,acc=>(acc,pos,0)
 | n+1,pos,acc=>if (dec (b.drop pos)).2.2≠0 then ([],0,(dec (b.drop pos)).2.2) else fS dec b n (pos+(dec (b.drop pos)).2.1) (acc++[(dec (b.drop pos)).1])
def j8 (dec:List UInt8→α × Nat × Int) (b:List UInt8):List α × Nat × Int :=
 if (dG b 1).2.2≠0 then ([],0,(dG b 1).2.2) else fS dec b (dG b 1).1.toNat (dG b 1).2.1 []
def ea (enc:α→List UInt8) (l:List α):List UInt8:=(l.map enc).flatten
def kX (enc:α→List UInt8) (l:List α):List UInt8:=bF l.length++ea enc l
theorem fj (enc:α→List UInt8):ea enc []=[]:=rfl
theorem eL (enc:α→List UInt8) (x:α) (l:List α):ea enc (x::l)=enc x++ea enc l:=by unfold ea;rw[List.map_cons,List.flatten_cons]
theorem Gh (enc:α→List UInt8) (x:α) (l:List α):ea enc (l++[x])=ea enc l++enc x:=by unfold ea;simp
structure kg (ok:α→Prop) (enc:α→List UInt8) (dec:List UInt8→α × Nat × Int):Prop where
 rt:∀x,ok x→∀r,dec (enc x++r)=(x,(enc x).length,0)
 back:∀b x u,dec b=(x,u,0)→b=enc x++b.drop u∧u=(enc x).length∧ok x
 pos:∀x,1≤(enc x).length
theorem JA (m:Nat) (f:UInt8):1≤(jg m f).length:=by rw[bZ];omega
theorem mT (n:Int):1≤(bF n).length:=by unfold bF;split <;> exact JA _ _
def okI (n:Int):Prop := -9223372036854775808≤n∧n<9223372036854775808
theorem CI:kg okI bF aZ:=⟨fun x h r=>uF x h.1 h.2 r,fun b x u h=>kp b x u h,mT⟩
theorem ql (b:List UInt8) (h:(aZ b).2.2≠0):(aZ b).1=0∧(aZ b).2.1=0:=by
 cases b with
 | nil=>exact⟨rfl,rfl⟩
 | cons c r =>
   rw[aZ] at h ⊢
   split
   ·exact⟨rfl,rfl⟩
   ·split
    ·exact⟨rfl,rfl⟩
    ·split
     ·exact⟨rfl,rfl⟩
     ·split
      ·exact⟨rfl,rfl⟩
      ·rename_i h1 h2 h3 h4
       rw[H_ h1,H_ h2,H_ h3,H_ h4] at h;exact absurd rfl h
theorem jA (b:List UInt8) (h:(aZ b).2.2=0):(aZ b).2.1≤b.length∧okI (aZ b).1:=by
 obtain⟨h1,h2,h3,h4⟩:=kp b (aZ b).1 (aZ b).2.1 (by rw[←h]);refine⟨?_,h3,h4⟩;have := congrArg List.length h1;rw[E_,S_] at this
 omega
theorem oT (b:List UInt8) (size:Nat):((aZ b).2.2≠0∧dG b size=(0,0,(aZ b).2.2)) ∨
  ((aZ b).2.2=0∧(aZ b).1<0∧dG b size=((aZ b).1,(aZ b).2.1,6)) ∨
  ((aZ b).2.2=0∧¬(aZ b).1<0∧(((b.length-(aZ b).2.1) / size:Nat):Int)<(aZ b).1∧dG b size=((aZ b).1,(aZ b).2.1,5)) ∨
  ((aZ b).2.2=0∧¬(aZ b).1<0∧¬(((b.length-(aZ b).2.1) / size:Nat):Int)<(aZ b).1∧dG b size=((aZ b).1,(aZ b).2.1,0)):=by
 unfold dG
 by_cases h:(aZ b).2.2=0
 ·refine .inr ?_
  rw[H_ (by rw[h];exact fun e=>e rfl)]
  by_cases h1:(aZ b).1<0
  ·exact .inl ⟨h,h1,by rw[G_ h1]⟩
  ·rw[H_ h1]
   by_cases h2:(((b.length-(aZ b).2.1) / size:Nat):Int)<(aZ b).1
   ·exact .inr (.inl ⟨h,h1,h2,by rw[G_ h2]⟩)
   ·refine .inr (.inr ⟨h,h1,h2,?_⟩)
    rw[H_ h2]
    conv=>rhs;rw[←h]
 ·refine .inl ⟨h,?_⟩
  rw[G_ h];obtain⟨e1,e2⟩:=ql b h;rw[←e1,←e2]
theorem iQ (b:List UInt8) (h:(dG b 1).2.2=0):aZ b=((dG b 1).1,(dG b 1).2.1,0)∧0≤(dG b 1).1∧(dG b 1).2.1+(dG b 1).1.toNat≤b.length∧1≤(dG b 1).2.1:=by
 rcases oT b 1 with⟨h1,h2⟩|⟨h1,h2,h3⟩|⟨h1,h2,h3,h4⟩|⟨h1,h2,h3,h4⟩
 ·rw[h2] at h;exact absurd h h1
 ·rw[h3] at h;cases h
 ·rw[h4] at h;cases h
 ·rw[h4]
  have hu:=jA b h1;obtain⟨k1,k2,k3⟩:=kp b (aZ b).1 (aZ b).2.1 (by rw[←h1]);have := mT (aZ b).1;refine⟨by rw[←h1],by omega,?_,by show 1≤(aZ b).2.1;omega⟩
  show (aZ b).2.1+(aZ b).1.toNat≤b.length
  rw[Nat.div_one] at h3
  omega
theorem Az (n:Nat) (hn:n<9223372036854775808) (r:List UInt8) (hr:n≤r.length):dG (bF n++r) 1=((n:Int),(bF n).length,0):=by
 have h:=uF (n:Int) (by omega) (by omega) r;unfold dG;rw[h,H_ (by exact fun e=>e rfl),H_ (by show ¬((n:Int)<0);omega),H_]
 show ¬((((bF n++r).length-(bF n).length) / 1:Nat):Int)<n
 rw[Nat.div_one,E_]
 omega
theorem Jr (s r:List UInt8) (hs:s.length<9223372036854775808):aL (aV s++r)=(s,(aV s).length,0):=by
 unfold aL
 have h:dG (aV s++r) 1=((s.length:Int),(bF s.length).length,0):=by
  unfold aV;rw[R_];exact Az s.length hs _ (by rw[E_];omega)
 rw[h,H_ (by exact fun e=>e rfl)];unfold aV;rw[R_,List.drop_left]
 show ((s++r).take ((s.length:Int).toNat),(bF s.length).length+(s.length:Int).toNat,(0:Int))=_
 rw[Int.toNat_natCast,List.take_left,E_]
theorem Ew (b s:List UInt8) (u:Nat) (h:aL b=(s,u,0)):b=aV s++b.drop u∧u=(aV s).length∧u≤b.length∧s.length<9223372036854775808:=by
 unfold aL at h
 split at h
 ·rename_i hc
  simp only[Prod.mk.injEq] at h;exact absurd h.2.2 hc
 ·rename_i hc
  simp only[Prod.mk.injEq,and_true] at h;obtain⟨h1,h2⟩:=h;obtain⟨k1,k2,k3,_⟩:=iQ b (Decidable.of_not_not hc);obtain⟨d1,d2,d3,d4⟩:=kp b _ _ k1;generalize dG b 1=c at *
  have hl:s.length=c.1.toNat:=by rw[←h1,b_,S_];omega
  have hi:bF (s.length:Int)=bF c.1:=by rw[hl,Int.toNat_of_nonneg k2]
  refine⟨?_,?_,by omega,by omega⟩
  ·unfold aV
   rw[hi,R_,←h1,←h2,←List.drop_drop,List.take_append_drop];exact d1
  ·unfold aV
   rw[hi,E_,hl,←d2,h2]
def okS (s:List UInt8):Prop:=s.length<9223372036854775808
theorem AR (s:List UInt8):1≤(aV s).length:=by unfold aV;rw[E_];have := mT (s.length:Int);omega
theorem hI:kg okS aV aL:=⟨fun x h r=>Jr x r h,fun b x u h=>by have := Ew b x u h;exact⟨this.1,this.2.1,this.2.2.2⟩,AR⟩
variable {ok:α→Prop} {enc:α→List UInt8} {dec:List UInt8→α × Nat × Int}
theorem kg.used (hc:kg ok enc dec) (b:List UInt8) (h:(dec b).2.2=0):(dec b).2.1≤b.length∧1≤(dec b).2.1∧ok (dec b).1:=by
 obtain⟨h1,h2,h3⟩:=hc.back b (dec b).1 (dec b).2.1 (by rw[←h]);have := congrArg List.length h1;have hp:=hc.pos (dec b).1;rw[E_,S_] at this;exact⟨by omega,by omega,h3⟩
theorem Jo (hc:kg ok enc dec) (l:List α):(∀x∈l,ok x)→∀(p r:List UInt8) (acc:List α),fS dec (p++(ea enc l++r)) l.length p.length acc=(acc++l,p.length+(ea enc l).length,0):=by
 induction l with
 | nil=>intro _ p r acc;simp[fS,fj]
 | cons x l ih =>
   intro hok p r acc;rw[Z_,fS,List.drop_left,eL,R_,hc.rt x (hok x (by simp)),H_ (by exact fun e=>e rfl)]
   show fS dec (p++(enc x++(ea enc l++r))) l.length (p.length+(enc x).length) (acc++[x])=_
   have h:=ih (fun y hy=>hok y (by simp[hy])) (p++enc x) r (acc++[x]);rw[R_,E_] at h;rw[h,E_]
   simp[Nat.add_assoc]
theorem AF (hc:kg ok enc dec) (l:List α) (hok:∀x∈l,ok x) (hl:l.length<9223372036854775808) (r:List UInt8):j8 dec (kX enc l++r)=(l,(kX enc l).length,0):=by
 have hge:l.length≤(ea enc l).length:=by
  clear hok hl
  induction l with
  | nil=>exact N_ _
  | cons x l ih=>rw[eL,E_,Z_];have := hc.pos x;omega
 unfold j8
 have h:dG (kX enc l++r) 1=((l.length:Int),(bF l.length).length,0):=by
  unfold kX;rw[R_];exact Az l.length hl _ (by rw[E_];omega)
 rw[h,H_ (by exact fun e=>e rfl)]
 show fS dec (kX enc l++r) (l.length:Int).toNat (bF l.length).length []=_
 unfold kX;rw[Int.toNat_natCast,R_,Jo hc l hok,E_,List.nil_append]
theorem yM (hc:kg ok enc dec) (b:List UInt8) (n:Nat):∀(pos:Nat) (acc l:List α) (u:Nat),pos≤b.length→fS dec b n pos acc=(l,u,0) →
  ∃l',l=acc++l'∧l'.length=n∧b.drop pos=ea enc l'++b.drop u∧u=pos+(ea enc l').length∧u≤b.length∧∀x∈l',ok x:=by
 induction n with
 | zero =>
   intro pos acc l u hp h;simp only[fS,Prod.mk.injEq,and_true] at h;obtain⟨rfl,rfl⟩:=h;exact⟨[],by simp,rfl,by simp[fj],by simp[fj],hp,by simp⟩
 | succ n ih =>
   intro pos acc l u hp h;rw[fS] at h
   split at h
   ·rename_i he
    simp only[Prod.mk.injEq] at h;exact absurd h.2.2 he
   ·rename_i he
    have h0:=Decidable.of_not_not he;obtain⟨k1,k2,k3⟩:=hc.back (b.drop pos) (dec (b.drop pos)).1 (dec (b.drop pos)).2.1 (by rw[←h0]);obtain⟨u1,u2,u3⟩:=hc.used (b.drop pos) h0;rw[S_] at u1;obtain⟨l',e1,e2,e3,e4,e5,e6⟩:=ih _ _ _ _ (by omega) h;generalize dec (b.drop pos)=y at *;refine⟨y.1::l',by rw[e1];simp,by rw[Z_,e2],?_,?_,e5,?_⟩
    ·rw[eL,R_,←e3,←List.drop_drop]
     exact k1
    ·rw[eL,E_,←k2]
     omega
    ·intro x hx
     rcases List.mem_cons.1 hx with rfl|hx
     ·exact k3
     ·exact e6 x hx
theorem tn (hc:kg ok enc dec) (b:List UInt8) (l:List α) (u:Nat) (h:j8 dec b=(l,u,0)):b=kX enc l++b.drop u∧u=(kX enc l).length∧u≤b.length∧∀x∈l,ok x:=by
 unfold j8 at h
 split at h
 ·rename_i he
  simp only[Prod.mk.injEq] at h;exact absurd h.2.2 he
 ·rename_i he
  obtain⟨k1,k2,k3,_⟩:=iQ b (Decidable.of_not_not he);obtain⟨d1,d2,d3,d4⟩:=kp b _ _ k1;obtain⟨l',e1,e2,e3,e4,e5,e6⟩:=yM hc b _ _ _ _ _ (by omega) h;rw[List.nil_append] at e1;subst e1;generalize dG b 1=c at *
  have hi:bF (l.length:Int)=bF c.1:=by rw[e2,Int.toNat_of_nonneg k2]
  refine⟨?_,?_,e5,e6⟩
  ·unfold kX
   rw[hi,R_,←e3];exact d1
  ·unfold kX
   rw[hi,E_,←d2,e4]
end
def cd (l:List Int):List UInt8:=kX bF l
def aB (b:List UInt8):List Int × Nat × Int:=j8 aZ b
def eN (l:List (List UInt8)):List UInt8:=kX aV l
def aE (b:List UInt8):List (List UInt8) × Nat × Int:=j8 aL b
theorem xj (l:List Int):1≤(cd l).length:=by unfold cd kX;rw[E_];have := mT (l.length:Int);omega
theorem Gy (l:List (List UInt8)):1≤(eN l).length:=by unfold eN kX;rw[E_];have := mT (l.length:Int);omega
theorem ko:kg (fun l=>(∀x∈l,okI x)∧l.length<9223372036854775808) cd aB:=⟨fun x h r=>AF CI x h.1 h.2 r,fun b x u h=>by
 have := tn CI b x u h;refine⟨this.1,this.2.1,this.2.2.2,?_⟩;unfold aB j8 at h
 split at h
 ·rename_i he
  simp only[Prod.mk.injEq] at h;exact absurd h.2.2 he
 ·rename_i he
  obtain⟨k1,k2,k3,_⟩:=iQ b (Decidable.of_not_not he);obtain⟨d1,d2,d3,d4⟩:=kp b _ _ k1;obtain⟨l',e1,e2,_⟩:=yM CI b _ _ _ _ _ (by omega) h;rw[List.nil_append] at e1;subst e1
  omega,xj⟩
theorem lI:kg (fun l=>(∀x∈l,okS x)∧l.length<9223372036854775808) eN aE:=⟨fun x h r=>AF hI x h.1 h.2 r,fun b x u h=>by
 have := tn hI b x u h;refine⟨this.1,this.2.1,this.2.2.2,?_⟩;unfold aE j8 at h
 split at h
 ·rename_i he
  simp only[Prod.mk.injEq] at h;exact absurd h.2.2 he
 ·rename_i he
  obtain⟨k1,k2,k3,_⟩:=iQ b (Decidable.of_not_not he);obtain⟨d1,d2,d3,d4⟩:=kp b _ _ k1;obtain⟨l',e1,e2,_⟩:=yM hI b _ _ _ _ _ (by omega) h;rw[List.nil_append] at e1;subst e1
  omega,Gy⟩
end
section
open Go.RowKit
variable {P:Program} {ops:Array Oper} {S:World→Prop}
def gu (P:Program) (ops:Array Oper) (S:World→Prop) (K:Act→Prop):List Oper→Act→Prop
 | [],a=>K a
 | o::rest,a=>∃v,YieldsIf P ops S o v a∧gu P ops S K rest (a.put o.dst v)
def ei (P:Program) (ops:Array Oper) (S:World→Prop) (Q:Exit→Act→World→Prop):List Oper→Act→World→Prop
 | [],a,w=>Q .normal a w
 | o::rest,a,w=>∀Q':Exit→Act→World→Prop,Hid (∀a' w',S w'→ei P ops S Q rest a' w'→Q' .normal a' w')→wpList P ops Q' [o] a w
def xB (ops:Array Oper) (n:Nat):Bool :=
 decide (n≤ops.size) && Region.noSelect ops && (List.range n).all (fun k=>(Region.ready .any ops (dH k (ops.size-k))).contains k && Region.free .any ops (dH k (ops.size-k)) k) &&
 (List.range (ops.size-n)).all (fun k=>Region.ready .any ops (dH (n+k) (ops.size-(n+k))) == [n+k]) && (Region.ready .any ops (dH ops.size 0)).isEmpty
theorem qx (k g:Nat) (hg:0<g):(dH k g).setIfInBounds k true=dH (k+1) (g-1):=by
 obtain⟨g,rfl⟩:∃g',g=g'+1:=⟨g-1,by omega⟩;unfold dH;rw[B_]
 congr 1
 rw[List.set_append_right _ _ (by simp),List.length_replicate,Nat.sub_self,List.replicate_succ,C_,List.replicate_succ',R_]
 rfl
theorem u6 {Q:Exit→Act→World→Prop} {n:Nat} (hB:xB ops n=true):∀(l:List Oper) (k:Nat) (a:Act) (w:World),n≤k→k+l.length=ops.size→(∀j,l[j]? = ops[k+j]?)→ei P ops S Q l a w→wpAnyH P .any ops Q S l.length (dH k (ops.size-k)) a w:=by
 simp only[xB,T_,decide_eq_true_eq] at hB;obtain⟨⟨⟨⟨hn,hsel⟩,hh⟩,ht⟩,hd⟩:=hB;intro l
 induction l with
 | nil =>
   intro k a w hk hl hj h
   have e:k=ops.size:=by simpa using hl
   subst e;rw[Nat.sub_self];exact⟨List.isEmpty_iff.1 hd,h⟩
 | cons o l ih =>
   intro k a w hk hl hj h
   have hlt:k<ops.size:=by simp only[Z_] at hl;omega
   have ho:ops[k]?=some o:=by simpa using (hj 0).symm
   have h1:=List.all_eq_true.1 ht (k-n) (List.mem_range.2 (by omega));rw[show n+(k-n)=k by omega,beq_iff_eq] at h1;refine wpAnyH_all h1 (by simp) (fun i hi => ?_)
   have e:i=k:=by simpa using hi
   subst e;refine iw ho (h _ (O (fun a' w' hS hT => ?_)));refine⟨hS,?_⟩;rw[qx _ _ (by omega),show ops.size-i-1=ops.size-(i+1) by omega];refine ih (i+1) a' w' (by omega) (by simp only[Z_] at hl;omega) (fun j => ?_) hT;have := hj (j+1)
   simpa [Nat.add_assoc,Nat.add_comm 1 j] using this
theorem uZ {Q:Exit→Act→World→Prop} {n:Nat} (hB:xB ops n=true) (hQ:∀c (a:Act) d v w,Q (.panic c) (a.put d v) w→Q (.panic c) a w) (w:World) (hS:S w) (hlen:n≤ops.size) :
  ∀(l:List Oper) (k:Nat) (a:Act),k+l.length=n→(∀j,j<l.length→l[j]? = ops[k+j]?)→gu P ops S (fun a'=>ei P ops S Q (ops.toList.drop n) a' w) l a→wpAnyH P .any ops Q S (ops.size-k) (dH k (ops.size-k)) a w:=by
 have hB':=hB;simp only[xB,T_,decide_eq_true_eq] at hB;obtain⟨⟨⟨⟨hn,hsel⟩,hh⟩,ht⟩,hd⟩:=hB;intro l
 induction l with
 | nil =>
   intro k a hk hj h
   have e:k=n:=by simpa using hk
   subst e
   have hl:(ops.toList.drop k).length=ops.size-k:=by simp
   have := u6 (P:=P) (S:=S) (Q:=Q) hB' (ops.toList.drop k) k a w (A_ _) (by rw[hl];omega) (fun j=>by rw[List.getElem?_drop];simp) h
   rwa [hl] at this
 | cons o l ih =>
   intro k a hk hj h;obtain⟨v,hy,h2⟩:=h
   have hkn:k<n:=by simp only[Z_] at hk;omega
   have ho:ops[k]?=some o:=by simpa using (hj 0 (by simp)).symm
   have h1:=List.all_eq_true.1 hh k (List.mem_range.2 hkn);rw[T_] at h1;rw[show ops.size-k=(ops.size-(k+1))+1 by omega];refine wpAnyH_take ho hsel (by have := h1.2;rwa [show ops.size-k=(ops.size-(k+1))+1 by omega] at this) (by have := h1.1;rwa [show ops.size-k=(ops.size-(k+1))+1 by omega] at this) (fun c a w=>hQ c a _ _ w) hy hS ?_;rw[qx _ _ (by omega),show ops.size-(k+1)+1-1=ops.size-(k+1) by omega];refine ih (k+1) _ (by simp only[Z_] at hk;omega) (fun j hj2 => ?_) h2;have := hj (j+1) (by simp;omega)
   simpa [Nat.add_assoc,Nat.add_comm 1 j] using this
theorem sR {id:Nat} {Q:Exit→Act→World→Prop} {a:Act} {w:World} {l:List Oper} (S:World→Prop) (n:Nat) (hQ:∀c (a:Act) d v w,Q (.panic c) (a.put d v) w→Q (.panic c) a w) (hm:P.follows .mixedOrders=true) (hB:xB l.toArray n=true) (hS:S w.drew)
  (h:gu P l.toArray S (fun a'=>ei P l.toArray S Q (l.drop n) a' w.drew) (l.take n) a):(Code.region id l.toArray true).wp P Q a w:=by
 refine wp_region_held (S:=S) hm ?_
 have hn:n≤l.length:=by
  have h:=hB;simp only[xB,T_,decide_eq_true_eq] at h
  simpa using h.1.1.1.1
 have := uZ (P:=P) (S:=S) (Q:=Q) hB hQ w.drew hS (by simpa using hn) (l.take n) 0 a (by simp;omega) (fun j hj=>by
  have : j<n:=by rw[b_] at hj;omega
  simp[this]) h
 have e:dH 0 (l.toArray.size-0)=Array.replicate l.toArray.size false:=by simp[dH]
 rw[e,Nat.sub_zero] at this;exact this
def vY (ops:Array Oper):Array Bool→List Nat→Bool
 | _,[]=>true
 | m,i::r=>(Region.ready .any ops m).contains i && Region.free .any ops m i && vY ops (m.setIfInBounds i true) r
def ni (ops:Array Oper):Array Bool→List Nat→Bool
 | m,[]=>(Region.ready .any ops m).isEmpty
 | m,i::r=>Region.ready .any ops m == [i] && ni ops (m.setIfInBounds i true) r
def r8 (m:Array Bool) (l:List Nat):Array Bool:=l.foldl (fun m i=>m.setIfInBounds i true) m
def cT (ops:Array Oper) (l:List Nat):List Oper:=l.filterMap fun i=>ops[i]?
def J0 (ops:Array Oper) (hs ts:List Nat):Bool :=
 Region.noSelect ops && vY ops (Array.replicate ops.size false) hs && ni ops (r8 (Array.replicate ops.size false) hs) ts && (hs.length+ts.length == ops.size)
theorem lO {Q:Exit→Act→World→Prop}:∀(l:List Nat) (m:Array Bool) (a:Act) (w:World),ni ops m l=true→ei P ops S Q (cT ops l) a w→wpAnyH P .any ops Q S l.length m a w
 | [],m,a,w,hB,h=>⟨List.isEmpty_iff.1 hB,h⟩
 | i :: l, m, a, w, hB, h => by
   unfold ni at hB;rw[T_,beq_iff_eq] at hB;obtain⟨h1,h2⟩:=hB;obtain⟨_,o,ho,_⟩:=mem_ready.1 (show i∈Region.ready .any ops m by rw[h1];simp);unfold cT at h;rw[List.filterMap_cons,ho] at h;refine wpAnyH_all h1 (by simp) (fun j hj => ?_)
   have e:j=i:=by simpa using hj
   subst e;refine iw ho (h _ (O (fun a' w' hS hT=>⟨hS,?_⟩)));exact lO l _ a' w' h2 hT
theorem qy {Q:Exit→Act→World→Prop} (hsel:Region.noSelect ops=true) (hQ:∀c (a:Act) d v w,Q (.panic c) (a.put d v) w→Q (.panic c) a w) (w:World) (hS:S w) (ts:List Nat) :
  ∀(l:List Nat) (m:Array Bool) (a:Act),vY ops m l=true→ni ops (r8 m l) ts=true→gu P ops S (fun a'=>ei P ops S Q (cT ops ts) a' w) (cT ops l) a→wpAnyH P .any ops Q S (l.length+ts.length) m a w
 | [], m, a, _, hT, h => by
   rw[List.length_nil,a_];exact lO ts m a w hT h
 | i :: l, m, a, hB, hT, h => by
   unfold vY at hB;rw[T_,T_] at hB;obtain⟨⟨h1,h2⟩,h3⟩:=hB
   have hr:i∈Region.ready .any ops m:=by simpa using h1
   obtain⟨_,o,ho,_⟩:=mem_ready.1 hr;unfold cT at h;rw[List.filterMap_cons,ho] at h;obtain⟨v,hy,hk⟩:=h;rw[Z_,show l.length+1+ts.length=(l.length+ts.length)+1 by omega];exact wpAnyH_take ho hsel h2 h1 (fun c a w=>hQ c a _ _ w) hy hS (qy hsel hQ w hS ts l _ _ h3 hT hk)
theorem fe {id:Nat} {Q:Exit→Act→World→Prop} {a:Act} {w:World} {l:List Oper} (S:World→Prop) (hs ts:List Nat) (hQ:∀c (a:Act) d v w,Q (.panic c) (a.put d v) w→Q (.panic c) a w) (hm:P.follows .mixedOrders=true) (hB:J0 l.toArray hs ts=true) (hS:S w.drew)
  (h:gu P l.toArray S (fun a'=>ei P l.toArray S Q (cT l.toArray ts) a' w.drew) (cT l.toArray hs) a):(Code.region id l.toArray true).wp P Q a w:=by
 refine wp_region_held (S:=S) hm ?_;simp only[J0,T_,beq_iff_eq] at hB;obtain⟨⟨⟨h1,h2⟩,h3⟩,h4⟩:=hB;have := qy h1 hQ w.drew hS ts hs _ a h2 h3 h;rw[h4] at this;exact this
theorem el {Q:Exit→Act→World→Prop} {a:Act} {w:World} (h:Q .normal a w):ei P ops S Q [] a w:=h
theorem my {o:Oper} {a:Act} {S:World→Prop} {ops:Array Oper} (cs:Array Value) (g:Nat) (T:TypeId) (x:Operand) (hw:Region.wanted o (yielded ops a.tmps)=true) (ho:o.op = .load T x) (hx:a.eval x = .pointer (some ⟨g,0,none⟩))
  (hr:∀w,S w→(loadVar T ⟨g,0,none⟩).run P w = .ok (.agg cs) w):YieldsIf P ops S o (.agg cs) a:=by
 refine .inl ⟨hw,fun w hS => ?_⟩;unfold execOp;simp only[ho,hx,Instr.loadAt,Instr.sureAddr,Sem.run_bind,Sem.run_pure,Result.andThen_ok,hr w hS]
theorem gC {o:Oper} {a:Act} {S:World→Prop} {ops:Array Oper} (v:Value) (b:Addr) (T:TypeId) (x:Operand) (hw:Region.wanted o (yielded ops a.tmps)=true) (ho:o.op = .load T x) (hx:a.eval x = .pointer (some b))
  (hr:∀w,S w→(loadVar T b).run P w = .ok v w):YieldsIf P ops S o v a:=by
 refine .inl ⟨hw,fun w hS => ?_⟩;unfold execOp;simp only[ho,hx,Instr.loadAt,Instr.sureAddr,Sem.run_bind,Sem.run_pure,Result.andThen_ok,hr w hS]
theorem aR {o:Oper} {a:Act} {S:World→Prop} {ops:Array Oper} (v:Value) (hw:Region.wanted o (yielded ops a.tmps)=true) (hr:∀w,S w→(execOp a.eval o).run P w = .ok (.value v) w):YieldsIf P ops S o v a := .inl ⟨hw,hr⟩
end
end Go.Proofs.YtmfiaadjdbemnaaGreatDoor
