/- Contracts and lemmas. No condition. -/

set_option linter.unusedSimpArgs false
set_option linter.unusedVariables false
namespace Go.Proofs.YtmfiaadjdbemnaaGreatDoor
section
namespace F6
abbrev B:=UInt8
def bit (b:B) (i:Nat):Bool:=b.toNat.testBit i
theorem Ed (a b:B) (i:Nat):bit (a ^^^ b) i=(bit a i != bit b i):=by
 simp only[bit,UInt8.toNat_xor,Nat.testBit_xor]
def xt (a:B):B:=(a <<< 1) ^^^ (if bit a 7 then 0x1d else 0)
def xts (a:B):Nat→B
 | 0=>a
 | n+1=>xt (xts a n)
def cY (a b:B):Nat→B
 | 0=>0
 | n+1=>cY a b n ^^^ (if bit b n then xts a n else 0)
def mul (a b:B):B:=cY a b 8
theorem xor_assoc (a b c:B):a ^^^ b ^^^ c=a ^^^ (b ^^^ c):=UInt8.xor_assoc a b c
theorem xor_comm (a b:B):a ^^^ b=b ^^^ a:=UInt8.xor_comm a b
theorem fy (a b c:B):a ^^^ (b ^^^ c)=b ^^^ (a ^^^ c):=by rw[←xor_assoc,xor_comm a b,xor_assoc]
theorem xor_self (a:B):a ^^^ a=0:=UInt8.xor_self
theorem xor_zero (a:B):a ^^^ 0=a:=UInt8.xor_zero
theorem zero_xor (a:B):0 ^^^ a=a:=UInt8.zero_xor
theorem nC {a b:B} (h:a ^^^ b=0):a=b:=by
 have : a ^^^ b ^^^ b=b:=by rw[h,zero_xor]
 rwa [xor_assoc,xor_self,xor_zero] at this
def Add (f:B→B):Prop:=∀a b,f (a ^^^ b)=f a ^^^ f b
theorem Add.zero {f:B→B} (h:Add f):f 0=0:=by
 have := h 0 0;rw[xor_self] at this;rw[this,xor_self]
theorem Add.ite {f:B→B} (h:Add f) (c:Bool) (e:B):f (if c then e else 0)=if c then f e else 0:=by cases c <;> simp[h.zero]
def ai (a:B):B :=
 (if bit a 0 then 1 else 0) ^^^ (if bit a 1 then 2 else 0) ^^^ (if bit a 2 then 4 else 0) ^^^ (if bit a 3 then 8 else 0) ^^^
 (if bit a 4 then 16 else 0) ^^^ (if bit a 5 then 32 else 0) ^^^ (if bit a 6 then 64 else 0) ^^^ (if bit a 7 then 128 else 0)
theorem ru {p:B→Prop} [∀a,Decidable (p a)] (h:(List.range 256).all (fun n=>decide (p (UInt8.ofNat n)))=true) (a:B):p a:=by
 have := List.all_eq_true.1 h a.toNat (by have := a.toNat_lt;simpa using this)
 simpa using this
theorem Nw (a:B):ai a=a:=ru (p:=fun a=>ai a=a) (by decide +kernel) a
theorem Add.ext {f g:B→B} (hf:Add f) (hg:Add g) (h0:f 1=g 1) (h1:f 2=g 2) (h2:f 4=g 4) (h3:f 8=g 8) (h4:f 16=g 16)
  (h5:f 32=g 32) (h6:f 64=g 64) (h7:f 128=g 128) (a:B):f a=g a:=by
 rw[←Nw a];unfold ai;simp only[hf _ _,hg _ _,hf.ite,hg.ite,h0,h1,h2,h3,h4,h5,h6,h7]
def wQ:List B:=[1,2,4,8,16,32,64,128]
theorem Add.ext' {f g:B→B} (hf:Add f) (hg:Add g) (h:∀e∈wQ,f e=g e) (a:B):f a=g a :=
 Add.ext hf hg (h _ (by decide)) (h _ (by decide)) (h _ (by decide)) (h _ (by decide)) (h _ (by decide)) (h _ (by decide)) (h _ (by decide)) (h _ (by decide)) a
theorem PF (a b:B):(a ^^^ b) <<< 1=a <<< 1 ^^^ b <<< 1:=by
 apply UInt8.toBitVec_inj.1
 simp[BitVec.shiftLeft_xor_distrib]
theorem T6:Add xt:=by
 intro a b;unfold xt;rw[PF,Ed]
 cases bit a 7 <;> cases bit b 7 <;> simp[xor_assoc,xor_comm,fy,xor_self,xor_zero,zero_xor]
theorem Qk (n:Nat):Add (fun a=>xts a n):=by
 induction n with
 | zero=>intro a b;rfl
 | succ n ih=>intro a b;show xt (xts (a ^^^ b) n)=_;rw[show xts (a ^^^ b) n=xts a n ^^^ xts b n from ih a b,T6];rfl
theorem Dl (b:B) (n:Nat):Add (fun a=>cY a b n):=by
 induction n with
 | zero=>intro a c;simp[cY,xor_self]
 | succ n ih =>
   intro a c
   show cY (a ^^^ c) b n ^^^ (if bit b n then xts (a ^^^ c) n else 0)=(cY a b n ^^^ (if bit b n then xts a n else 0)) ^^^ (cY c b n ^^^ (if bit b n then xts c n else 0))
   rw[show cY (a ^^^ c) b n=cY a b n ^^^ cY c b n from ih a c,show xts (a ^^^ c) n=xts a n ^^^ xts c n from Qk n a c]
   cases bit b n <;> simp[xor_assoc,fy,xor_zero]
theorem Bv (a:B) (n:Nat):Add (fun b=>cY a b n):=by
 induction n with
 | zero=>intro a c;simp[cY,xor_self]
 | succ n ih =>
   intro b c
   show cY a (b ^^^ c) n ^^^ (if bit (b ^^^ c) n then xts a n else 0)=(cY a b n ^^^ (if bit b n then xts a n else 0)) ^^^ (cY a c n ^^^ (if bit c n then xts a n else 0))
   rw[show cY a (b ^^^ c) n=cY a b n ^^^ cY a c n from ih b c,Ed]
   cases bit b n <;> cases bit c n <;> simp[xor_assoc,fy,xor_comm,xor_zero,zero_xor,xor_self]
theorem ik (a b c:B):mul (a ^^^ b) c=mul a c ^^^ mul b c:=Dl c 8 a b
theorem fx (a b c:B):mul a (b ^^^ c)=mul a b ^^^ mul a c:=Bv a 8 b c
theorem mul_zero (a:B):mul a 0=0:=(show Add (mul a) from fx a).zero
theorem zero_mul (a:B):mul 0 a=0:=(show Add (fun b=>mul b a) from fun b c=>ik b c a).zero
theorem pR {f g:B→B} (hf:Add f) (hg:Add g):Add (fun a=>f (g a)):=fun a b=>by show f (g (a ^^^ b))=_;rw[hg,hf]
theorem ud (c:B):Add (fun a=>mul a c):=fun a b=>ik a b c
theorem pS (c:B):Add (mul c):=fx c
theorem CJ:∀a∈wQ,∀b∈wQ,mul a b=mul b a:=by decide +kernel
theorem mul_comm (a b:B):mul a b=mul b a :=
 Add.ext' (f:=fun a=>mul a b) (g:=mul b) (ud b) (pS b) (fun e he=>Add.ext' (f:=mul e) (g:=fun b=>mul b e) (pS e) (ud e) (fun k hk=>CJ e he k hk) b) a
theorem Am:∀a∈wQ,∀b∈wQ,∀c∈wQ,mul (mul a b) c=mul a (mul b c):=by decide +kernel
theorem dS (a b c:B):mul (mul a b) c=mul a (mul b c) :=
 Add.ext' (f:=fun a=>mul (mul a b) c) (g:=fun a=>mul a (mul b c)) (pR (ud c) (ud b)) (ud _)
  (fun x hx=>Add.ext' (f:=fun b=>mul (mul x b) c) (g:=fun b=>mul x (mul b c)) (pR (ud c) (pS x)) (pR (pS x) (ud c))
   (fun y hy=>Add.ext' (f:=fun c=>mul (mul x y) c) (g:=fun c=>mul x (mul y c)) (pS _) (pR (pS x) (pS y)) (fun z hz=>Am x hx y hy z hz) c) b) a
theorem mul_one (a:B):mul a 1=a:=ru (p:=fun a=>mul a 1=a) (by decide +kernel) a
theorem one_mul (a:B):mul 1 a=a:=by rw[mul_comm,mul_one]
def sq (a:B):Nat→B
 | 0=>a
 | n+1=>mul (sq a n) (sq a n)
def sqp (a:B):Nat→B
 | 0=>1
 | n+1=>mul (sqp a n) (sq a (n+1))
def ku (a:B):B:=sqp a 7
theorem kz (a:B) (h:a≠0):mul a (ku a)=1 :=
 ru (p:=fun a=>a≠0→mul a (ku a)=1) (by decide +kernel) a h
def div (a b:B):B:=mul a (ku b)
theorem OJ (a b:B) (h:b≠0):div (mul a b) b=a:=by rw[div,dS,kz b h,mul_one]
theorem sM {a b:B} (h:mul a b=0):a=0∨b=0:=by
 by_cases hb:b=0
 ·exact .inr hb
 ·left;have := OJ a b hb;rw[h,div,zero_mul] at this;exact this.symm
theorem Bw {a b:B} (ha:a≠0) (hb:b≠0):mul a b≠0:=fun h=>(sM h).elim ha hb
theorem M2 (a:B):div 0 a=0:=by rw[div,zero_mul]
end F6
end
section
namespace F6
def ev:List B→B→B
 | [],_=>0
 | c::p,x=>c ^^^ mul x (ev p x)
def pr (l:List B) (x:B):B:=l.foldl (fun p y=>mul p (x ^^^ y)) 1
def prr:List B→B→B
 | [],_=>1
 | y::l,x=>mul (x ^^^ y) (prr l x)
theorem Pe (l:List B) (x a:B):l.foldl (fun p y=>mul p (x ^^^ y)) a=mul a (prr l x):=by
 induction l generalizing a with
 | nil=>simp[prr,mul_one]
 | cons y l ih=>rw[List.foldl_cons,ih,prr,dS]
theorem pr_eq (l:List B) (x:B):pr l x=prr l x:=by rw[pr,Pe,one_mul]
theorem BO {l:List B} {x:B} (h:x∈l):prr l x=0:=by
 induction l with
 | nil=>cases h
 | cons y l ih =>
   rcases List.mem_cons.1 h with rfl|h
   ·simp[prr,xor_self,zero_mul]
   ·simp[prr,ih h,mul_zero]
theorem zp {l:List B} {x:B} (h:x ∉ l):prr l x≠0:=by
 induction l with
 | nil=>simp[prr]
 | cons y l ih =>
   simp only[List.mem_cons,not_or] at h;exact Bw (fun e=>h.1 (nC e)) (ih h.2)
def wt (xs:List B) (x:B) (i:Nat):B:=div (pr (xs.eraseIdx i) x) (pr (xs.eraseIdx i) (xs.getD i 0))
def ms (l:List B):B:=l.foldr (· ^^^ ·) 0
theorem kM (l m:List B):ms (l++m)=ms l ^^^ ms m:=by
 induction l with
 | nil=>simp[ms,zero_xor]
 | cons a l ih=>simp only[ms,List.cons_append,List.foldr_cons] at *;rw[ih,xor_assoc]
def interp (xs ys:List B) (x:B):B:=ms ((List.range xs.length).map fun i=>mul (wt xs x i) (ys.getD i 0))
theorem rJ {xs:List B} (hn:xs.Nodup) {i j:Nat} (hi:i<xs.length) (hj:j<xs.length) (h:xs[i]=xs[j]):i=j:=by
 have key:=List.pairwise_iff_getElem.1 hn
 rcases Nat.lt_trichotomy i j with hl|hl|hl
 ·exact absurd h (key i j hi hj hl)
 ·exact hl
 ·exact absurd h.symm (key j i hj hi hl)
theorem pz (xs:List B) (i j:Nat) (hj:j<xs.length) (h:i≠j):xs.getD j 0∈xs.eraseIdx i:=by
 rw[List.mem_eraseIdx_iff_getElem];exact⟨j,hj,fun e=>h e.symm,by simp[List.getD_eq_getElem?_getD,hj]⟩
theorem lj (xs:List B) (hn:xs.Nodup) (i:Nat) (hi:i<xs.length):xs.getD i 0 ∉ xs.eraseIdx i:=by
 rw[List.mem_eraseIdx_iff_getElem];rintro⟨j,hj,hne,he⟩
 have e2:xs[j]=xs[i]:=by rw[he];simp[List.getD_eq_getElem?_getD,hi]
 exact hne (rJ hn hj hi e2)
theorem Qf (xs:List B) (hn:xs.Nodup) (i:Nat) (hi:i<xs.length):wt xs (xs.getD i 0) i=1:=by
 rw[wt,pr_eq,div,kz _ (zp (lj xs hn i hi))]
theorem MD (xs:List B) (i j:Nat) (hj:j<xs.length) (h:i≠j):wt xs (xs.getD j 0) i=0:=by
 rw[wt,pr_eq _ (xs.getD j 0),BO (pz xs i j hj h),M2]
theorem DW (n:Nat) (f:Nat→B) (j:Nat) (hj:j<n) (h:∀i,i<n→i≠j→f i=0):ms ((List.range n).map f)=f j:=by
 induction n with
 | zero=>omega
 | succ n ih =>
   rw[List.range_succ,List.map_append,kM]
   by_cases e:j=n
   ·subst e
    have : ms ((List.range j).map f)=0:=by
     have : ∀m,m≤j→ms ((List.range m).map f)=0:=by
      intro m
      induction m with
      | zero=>intro _;rfl
      | succ m ihm=>intro hm;rw[List.range_succ,List.map_append,kM,ihm (by omega)];simp[ms,h m (by omega) (by omega),xor_self]
     exact this j (Nat.le_refl _)
    rw[this];simp[ms,zero_xor,xor_zero]
   ·rw[ih (by omega) (fun i hi hne=>h i (by omega) hne)]
    simp[ms,h n (by omega) (fun e'=>e e'.symm),xor_zero]
theorem GN (xs ys:List B) (hn:xs.Nodup) (j:Nat) (hj:j<xs.length):interp xs ys (xs.getD j 0)=ys.getD j 0:=by
 rw[interp,DW _ _ j hj,Qf xs hn j hj,one_mul];intro i hi hne;rw[MD xs i j hj hne,zero_mul]
def dv:List B→B→List B
 | [],_=>[]
 | [_],_=>[]
 | _::d::p,a=>ev (d::p) a::dv (d::p) a
theorem GS (p:List B) (a:B):(dv p a).length=p.length-1:=by
 induction p with
 | nil=>rfl
 | cons c p ih =>
   cases p with
   | nil=>rfl
   | cons d p=>simp only[dv,List.length_cons] at *;omega
theorem oM (a b c:B):mul a (mul b c)=mul b (mul a c):=by rw[←dS,mul_comm a b,dS]
theorem VH (p:List B) (a x:B):ev p x ^^^ ev p a=mul (x ^^^ a) (ev (dv p a) x):=by
 induction p with
 | nil=>simp[ev,dv,mul_zero]
 | cons c p ih =>
   cases p with
   | nil=>simp[ev,dv,mul_zero,xor_self,xor_zero]
   | cons d p =>
     have e:mul x (ev (d::p) x) ^^^ mul a (ev (d::p) a)=mul x (ev (d::p) x ^^^ ev (d::p) a) ^^^ mul (x ^^^ a) (ev (d::p) a):=by
      rw[fx,ik];simp only[xor_assoc];rw[←xor_assoc (mul x (ev (d::p) a)) (mul x (ev (d::p) a)),xor_self,zero_xor]
     show (c ^^^ mul x (ev (d::p) x)) ^^^ (c ^^^ mul a (ev (d::p) a))=mul (x ^^^ a) (ev (d::p) a ^^^ mul x (ev (dv (d::p) a) x))
     have e0:(c ^^^ mul x (ev (d::p) x)) ^^^ (c ^^^ mul a (ev (d::p) a))=mul x (ev (d::p) x) ^^^ mul a (ev (d::p) a):=by
      simp only[xor_assoc,fy (mul x (ev (d::p) x))];rw[←xor_assoc,xor_self,zero_xor]
     rw[e0,e,ih,fx,oM x,xor_comm]
theorem DY (p:List B) (a:B) (h:∀c∈dv p a,c=0) (h0:ev p a=0):∀c∈p,c=0:=by
 induction p with
 | nil=>intro c hc;cases hc
 | cons c p ih =>
   cases p with
   | nil=>intro d hd;simp at hd;subst hd;simpa [ev,mul_zero,xor_zero] using h0
   | cons d p =>
     have h1:ev (d::p) a=0:=h _ (by simp[dv]);have h2:=ih (fun e he=>h e (by simp[dv,he])) h1
     have h3:c=0:=by
      have : c ^^^ mul a (ev (d::p) a)=0:=h0
      rwa [h1,mul_zero,xor_zero] at this
     intro e he
     rcases List.mem_cons.1 he with rfl|he
     ·exact h3
     ·exact h2 e he
theorem wK (rs:List B):∀(p:List B),rs.Nodup→p.length≤rs.length→(∀r∈rs,ev p r=0)→∀c∈p,c=0:=by
 induction rs with
 | nil=>intro p _ hl _ c hc;have : p=[]:=List.length_eq_zero_iff.1 (by simpa using hl);subst this;cases hc
 | cons r rs ih =>
   intro p hn hl hr;have hn':=List.nodup_cons.1 hn;refine DY p r (ih (dv p r) hn'.2 (by rw[GS];simp at hl;omega) (fun s hs => ?_)) (hr r (by simp));have e:=VH p r s;rw[hr s (by simp[hs]),hr r (by simp),xor_self] at e
   rcases sM e.symm with h|h
   ·exact absurd (nC h ▸ hs) hn'.1
   ·exact h
def mJ (p q:List B):List B:=List.zipWith (· ^^^ ·) p q
theorem tr (p q:List B) (h:p.length=q.length) (x:B):ev (mJ p q) x=ev p x ^^^ ev q x:=by
 induction p generalizing q with
 | nil => cases q with
   | nil=>simp[mJ,ev]
   | cons d q=>simp at h
 | cons c p ih =>
   cases q with
   | nil=>simp at h
   | cons d q =>
     have := ih q (by simpa using h);simp only[mJ,List.zipWith_cons_cons,ev] at *;rw[this,fx];simp only[xor_assoc,fy (mul x (ev p x))]
theorem CV (p q:List B) (h:p.length=q.length) (hz:∀c∈mJ p q,c=0):p=q:=by
 induction p generalizing q with
 | nil => cases q with
   | nil=>rfl
   | cons d q=>simp at h
 | cons c p ih =>
   cases q with
   | nil=>simp at h
   | cons d q =>
     simp only[mJ,List.zipWith_cons_cons,List.mem_cons,forall_eq_or_imp] at hz;rw[nC hz.1,ih q (by simpa using h) hz.2]
theorem TZ (xs p q:List B) (hn:xs.Nodup) (hp:p.length=xs.length) (hq:q.length=xs.length)
  (h:∀j,j<xs.length→ev p (xs.getD j 0)=ev q (xs.getD j 0)):p=q:=by
 refine CV p q (hp.trans hq.symm) (wK xs _ hn (by simp[mJ,hp,hq]) (fun r hr => ?_));obtain⟨j,hj,rfl⟩:=List.mem_iff_getElem.1 hr;have e:=h j hj;simp only[List.getD_eq_getElem?_getD,hj,List.getElem?_eq_getElem,Option.getD_some] at e;rw[tr _ _ (hp.trans hq.symm),e,xor_self]
def kH (p:List B) (a:B):List B:=mJ (0::p) (p.map (fun c=>mul c a)++[0])
theorem lV (p:List B) (a:B):(kH p a).length=p.length+1:=by simp[kH,mJ]
theorem uR (p:List B) (x:B):ev (p++[0]) x=ev p x:=by
 induction p with
 | nil=>simp[ev,mul_zero,xor_self]
 | cons c p ih=>simp[ev,ih]
theorem uS (p:List B) (f x:B):ev (p.map (fun c=>mul c f)) x=mul (ev p x) f:=by
 induction p with
 | nil=>simp[ev,zero_mul]
 | cons c p ih=>simp only[List.map_cons,ev];rw[ih,ik,dS]
theorem JF (p:List B) (a x:B):ev (kH p a) x=mul (x ^^^ a) (ev p x):=by
 rw[kH,tr _ _ (by simp),uR,uS,ik,mul_comm a]
 simp[ev,zero_xor]
def mk (l:List B):List B:=l.foldl kH [1]
theorem Br (l:List B) (p:List B):(l.foldl kH p).length=p.length+l.length:=by
 induction l generalizing p with
 | nil=>simp
 | cons a l ih=>rw[List.foldl_cons,ih,lV,List.length_cons];omega
theorem iL (l:List B):(mk l).length=l.length+1:=by rw[mk,Br];simp;omega
theorem N7 (l:List B) (p:List B) (x:B):ev (l.foldl kH p) x=mul (prr l x) (ev p x):=by
 induction l generalizing p with
 | nil=>simp[prr,one_mul]
 | cons a l ih=>rw[List.foldl_cons,ih,JF,prr,oM,dS]
theorem EC (l:List B) (x:B):ev (mk l) x=prr l x:=by
 rw[mk,N7];simp[ev,mul_zero,xor_zero,mul_one]
def lag (xs ys:List B):Nat→List B
 | 0=>List.replicate xs.length 0
 | k+1=>mJ (lag xs ys k) ((mk (xs.eraseIdx k)).map (fun c=>mul c (div (ys.getD k 0) (pr (xs.eraseIdx k) (xs.getD k 0)))))
def Gj (xs ys:List B):List B:=lag xs ys xs.length
theorem pw (xs ys:List B) (k:Nat) (hk:k≤xs.length):(lag xs ys k).length=xs.length:=by
 induction k with
 | zero=>simp[lag]
 | succ k ih =>
   simp only[lag,mJ,List.length_zipWith,List.length_map,iL,ih (by omega),List.length_eraseIdx];rw[if_pos (by omega)];omega
theorem yS (n:Nat) (x:B):ev (List.replicate n 0) x=0:=by
 induction n with
 | zero=>rfl
 | succ n ih=>simp[List.replicate_succ,ev,ih,mul_zero,xor_self]
theorem Se (xs ys:List B) (x:B) (k:Nat) (hk:k≤xs.length) :
  ev (lag xs ys k) x=ms ((List.range k).map fun i=>mul (wt xs x i) (ys.getD i 0)):=by
 induction k with
 | zero=>simp[lag,yS,ms]
 | succ k ih =>
   rw[lag,tr,ih (by omega),List.range_succ,List.map_append,kM,uS,EC]
   ·congr 1
    simp only[List.map_cons,List.map_nil,ms,List.foldr_cons,List.foldr_nil,xor_zero];rw[wt,←pr_eq,div,div,dS,mul_comm (ys.getD k 0)]
   ·rw[pw _ _ _ (by omega)]
    simp only[List.length_map,iL,List.length_eraseIdx];rw[if_pos (by omega)];omega
theorem EA (xs ys:List B) (x:B):ev (Gj xs ys) x=interp xs ys x:=Se xs ys x _ (Nat.le_refl _)
theorem Bq (xs ys:List B):(Gj xs ys).length=xs.length:=pw xs ys _ (Nat.le_refl _)
theorem NW (xs ys:List B) (hn:xs.Nodup) (j:Nat) (hj:j<xs.length):ev (Gj xs ys) (xs.getD j 0)=ys.getD j 0:=by
 rw[EA,GN xs ys hn j hj]
theorem sC (xs ys p:List B) (hn:xs.Nodup) (hp:p.length=xs.length) (h:∀j,j<xs.length→ev p (xs.getD j 0)=ys.getD j 0):p=Gj xs ys :=
 TZ xs p _ hn hp (Bq xs ys) (fun j hj=>by rw[h j hj,NW xs ys hn j hj])
theorem interp_poly (xs p:List B) (hn:xs.Nodup) (hp:p.length=xs.length) (ys:List B) (h:∀j,j<xs.length→ys.getD j 0=ev p (xs.getD j 0)) (x:B):interp xs ys x=ev p x:=by
 rw[←EA,←sC xs ys p hn hp (fun j hj=>(h j hj).symm)]
end F6
end
end Go.Proofs.YtmfiaadjdbemnaaGreatDoor
