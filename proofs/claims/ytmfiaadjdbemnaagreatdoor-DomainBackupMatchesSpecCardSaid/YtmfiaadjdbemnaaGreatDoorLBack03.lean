/- Contracts and lemmas. No condition. -/
import Derived.Test.YtmfiaadjdbemnaaGreatDoorLBack02
import Derived.Test.YtmfiaadjdbemnaaGreatDoorSB22
import Derived.Test.YtmfiaadjdbemnaaGreatDoorSB23
import Derived.Test.YtmfiaadjdbemnaaGreatDoorSB24
set_option maxRecDepth 100000
set_option maxHeartbeats 8000000
set_option linter.unusedSimpArgs false
set_option linter.unusedVariables false
namespace Go.Proofs.YtmfiaadjdbemnaaGreatDoor
open Tryz
section
open Go.RowKit
theorem MC (l:List UInt8) (hs:4≤l.length) (w:World) :
  Calls prog 184 #[.string ⟨l.toArray⟩] w fun e w'=>e = .returned (.int .u32 (W32 (C3.wordAt l 0)))∧∃n,w'=w.drewN n:=by
 have h0:0<l.length:=by omega
 have i1:(1:Int)<l.length:=by omega
 have i2:(2:Int)<l.length:=by omega
 have i3:(3:Int)<l.length:=by omega
 go_enter func184,ntmps184
 go_wp2
 go_quiet (fail)
 go_wp2;go_ret;exact⟨nT (C3.word_sum _ _ _ _),_,rfl⟩
theorem ym (key nonce:List UInt8) (ctr:UInt32) (hk:key.length=32) (hn:nonce.length=12) (w:World) :
  Calls prog 170 #[.string ⟨key.toArray⟩,.int .u32 (W32 ctr),.string ⟨nonce.toArray⟩] w fun e w'=>e = .returned (.tuple #[.agg (row (C3.state key ctr nonce)),.int .i64 0])∧Below w.heap.size w w':=by
 go_enter func170,ntmps170
 go_wp2
 go_loopw [9] (fun i wr=>∃k:Nat,k≤8∧i = .int .i64 k∧∃n,wr=((w.alloc (.cells sx 226)).alloc (.cells (row (C3.stK key 0 k)) 226)).drewN n) (fun i _=>8-(intOf i).toNat)
 case atStart=>exact⟨0,by omega,rfl,0,rfl⟩
 case round =>
  obtain⟨k,hk8,rfl,n,rfl⟩:=hrel;have hlen:=C3.length_stK key 0 k
  by_cases hlt:k<8
  ·have hb4:4+k<16:=by omega
   have hl4:4≤((key.drop (4*k)).take (32-4*k)).length:=by simp[hk];omega
   have hwd:C3.wordAt ((key.drop (4*k)).take (32-4*k)) 0=C3.wordAt key (4*k):=mp _ _ _ (by omega);have HW:=O hwd;clear hwd
   go_wp2_with (go_at_call 184;refine(MC _ hl4 _).mono ?_;rintro e w' ⟨rfl,nq,rfl⟩;rw[HW.out])
   go_roundw
   case rel=>exact⟨k+1,by omega,by go_num,_,rfl⟩
   case measure=>simp[intOf];omega
  ·have he:k=8:=by omega
   have HE:=O he;clear he;go_wp2
   go_loopw [10] (fun i wr=>∃k:Nat,k≤3∧i = .int .i64 k∧∃n,wr=((w.alloc (.cells sx 226)).alloc (.cells (row (C3.stN key ctr nonce k)) 226)).drewN n) (fun i _=>3-(intOf i).toNat)
   case atStart=>exact⟨0,by omega,rfl,n,by rw[HE.out,C3.stK_later];rfl⟩
   case round =>
    clear hk8 hlen hlt;obtain⟨k,hk8,rfl,n,rfl⟩:=hrel;have hlen:=C3.length_stN key ctr nonce k
    by_cases hlt:k<3
    ·have hb13:13+k<16:=by omega
     have hl4:4≤((nonce.drop (4*k)).take (12-4*k)).length:=by simp[hn];omega
     have hwd:C3.wordAt ((nonce.drop (4*k)).take (12-4*k)) 0=C3.wordAt nonce (4*k):=mp _ _ _ (by omega);have HW:=O hwd;clear hwd
     go_wp2_with (go_at_call 184;refine(MC _ hl4 _).mono ?_;rintro e w' ⟨rfl,nq,rfl⟩;rw[HW.out])
     go_roundw
     case rel=>exact⟨k+1,by omega,by go_num,_,rfl⟩
     case measure=>simp[intOf];omega
    ·have he:k=3:=by omega
     have HE:=O he;clear he
     go_wp2_with (first
      |(refine ng rfl (.tmp 8) rfl _ rfl _ 226 (dL _ _ _ _) hlen ?_)
      |(refine gN rfl (.tmp 6) (.tmp 50) rfl _ _ rfl rfl 226 _ (cF _ _ _ _) rfl hlen ?_))
     refine g_ (v := .tuple #[.agg (row _),_]) (BX rfl _ _ _ _ _ rfl (cF _ _ _ _) hlen) rfl ⟨by rw[HE.out];rfl,?_⟩;exact ak _ (((O_ _ _).alloc (A_ _) _).alloc (by simp) _)
open Go.RowKit
theorem cR.nil (w:World) (ai:Nat):cR w ai (.slice none 0 0) []:=World.ownsRow_nil w ai _ 1
attribute [local irreducible] C3.rounds C3.state C3.blockTo C3.bytes
end
section
open Go.RowKit Go.Shelf
structure PK where
 dom:List UInt8
 pol:List UInt8
 fw:Int
 num:Int
def pc (p:PK):Array Value := #[aq p.dom 0,aq p.dom 1,aq p.dom 2,aq p.dom 3,aq p.dom 4,aq p.dom 5,aq p.dom 6,aq p.dom 7,aq p.dom 8,aq p.dom 9,aq p.dom 10,aq p.dom 11,aq p.dom 12,aq p.dom 13,aq p.dom 14,aq p.dom 15,aq p.pol 0,aq p.pol 1,aq p.pol 2,aq p.pol 3,aq p.pol 4,aq p.pol 5,aq p.pol 6,aq p.pol 7,aq p.pol 8,aq p.pol 9,aq p.pol 10,aq p.pol 11,aq p.pol 12,aq p.pol 13,aq p.pol 14,aq p.pol 15,.int .i64 p.fw,.int .i64 p.num]
open Go.RowKit Go.Shelf
theorem tF (cs:Array Value) (off:Nat) (w:World):(part 23 cs off).run prog w = .ok (.agg (cs.extract off (off+16))) w:=by
 have h1:(isAgg 23).run prog w = .ok true w:=by simp[isAgg,run_underlying underlying23]
 have h2:(sizeOf 23).run prog w = .ok 16 w:=by
  cases hq:prog.info? 23 with
  | none=>have := cC;rw[hq] at this;cases this
  | some i=>have h1:=cC;rw[hq] at h1;simp at h1;simp[sizeOf,typeInfo,hq,h1]
 simp[part,h1,h2]
theorem kA (cs:Array Value) (off:Nat) (v:Value) (h:cs[off]?=some v) (w:World):(part 3 cs off).run prog w = .ok v w:=by
 have h1:(isAgg 3).run prog w = .ok false w:=by simp[isAgg,run_underlying underlying3]
 simp[part,h1,h]
theorem du (d:Nat) (xs ys:Array Value) (f:Field) (fs:List Field) (hn:f.name ≠ "_") (w:World) (a b:Value) (r:Bool) (h1:(part f.type xs f.offset).run prog w = .ok a w) (h2:(part f.type ys f.offset).run prog w = .ok b w)
  (h3:(Op.equalIn d f.type a b).run prog w = .ok r w):(Op.eqFields d xs ys (f::fs)).run prog w=if r=true then (Op.eqFields d xs ys fs).run prog w else .ok false w:=by
 simp only[Op.eqFields,hn,ne_eq,not_false_eq_true,if_true,Sem.run_bind,h1,h2,h3,Result.andThen_ok]
 cases r <;> rfl
open Go.RowKit Go.Shelf
theorem JP:(prog.fieldsOf 86).toList.map (fun f=>(f.name == "_",f.type,f.offset))=[(false,3,0),(false,3,1),(false,9,2),(false,3,3),(false,3,4),(false,3,5),(false,3,6),(false,3,7),(false,4,8)]:=by kernel_rfl
theorem pT (w:World):(isAgg 3).run prog w = .ok false w:=by simp[isAgg,run_underlying underlying3]
theorem U3 (w:World):(isAgg 9).run prog w = .ok false w:=by simp[isAgg,run_underlying underlying9]
theorem U2 (w:World):(isAgg 4).run prog w = .ok false w:=by simp[isAgg,run_underlying underlying4]
def kEq (a b:K):Bool:=(a.id == b.id) && ((a.ty == b.ty) && ((a.val == b.val) && ((a.uses == b.uses) && ((a.start == b.start) && ((a.fin == b.fin) && ((a.ver == b.ver) && ((a.par == b.par) && ((a.raw == b.raw)))))))))
theorem Ke (a b:K):kEq a b=decide (a=b):=by
 rw[Bool.eq_iff_iff];obtain⟨⟩:=a;obtain⟨⟩:=b
 simp[kEq]
theorem Fa (a b:K) (w:World):(binOp .neq 86 (.agg (kc a)) (.agg (kc b))).run prog w = .ok (.bool (!kEq a b)) w:=by
 rw[run_neq_struct]
 have ht:prog.underlying 86=some (.struct (prog.fieldsOf 86)):=by kernel_rfl
 have hp:prog.stoodInHeld 86=false:=by kernel_rfl
 rw[show (10000:Nat)=9999+1 from rfl,run_equalIn_struct w 9999 _ _ _ ht hp];have hf:=JP;generalize (prog.fieldsOf 86).toList=fs at hf
 rcases fs with _|⟨f0,_|⟨f1,_|⟨f2,_|⟨f3,_|⟨f4,_|⟨f5,_|⟨f6,_|⟨f7,_|⟨f8,_|⟨f9,fs⟩⟩⟩⟩⟩⟩⟩⟩⟩⟩
 case cons.cons.cons.cons.cons.cons.cons.cons.cons.nil =>
  simp only[List.map_cons,List.map_nil,List.cons.injEq,Prod.mk.injEq,and_true] at hf;obtain⟨⟨n0,t0,o0⟩,⟨n1,t1,o1⟩,⟨n2,t2,o2⟩,⟨n3,t3,o3⟩,⟨n4,t4,o4⟩,⟨n5,t5,o5⟩,⟨n6,t6,o6⟩,⟨n7,t7,o7⟩,⟨n8,t8,o8⟩⟩:=hf
  have m0:f0.name ≠ "_" := by simpa using n0
  have m1:f1.name ≠ "_" := by simpa using n1
  have m2:f2.name ≠ "_" := by simpa using n2
  have m3:f3.name ≠ "_" := by simpa using n3
  have m4:f4.name ≠ "_" := by simpa using n4
  have m5:f5.name ≠ "_" := by simpa using n5
  have m6:f6.name ≠ "_" := by simpa using n6
  have m7:f7.name ≠ "_" := by simpa using n7
  have m8:f8.name ≠ "_" := by simpa using n8
  have e0:(Op.equalIn 9999 3 (.int .i64 a.id) (.int .i64 b.id)).run prog w = .ok (a.id == b.id) w:=run_equalIn_int w 9998 _ _ _ _ _ underlying3;have e1:(Op.equalIn 9999 3 (.int .i64 a.ty) (.int .i64 b.ty)).run prog w = .ok (a.ty == b.ty) w:=run_equalIn_int w 9998 _ _ _ _ _ underlying3
  have e2:(Op.equalIn 9999 9 (.string ⟨a.val.toArray⟩) (.string ⟨b.val.toArray⟩)).run prog w = .ok (a.val == b.val) w:=by rw[run_equalIn_string w 9998 _ _ _ underlying9,qY]
  have e3:(Op.equalIn 9999 3 (.int .i64 a.uses) (.int .i64 b.uses)).run prog w = .ok (a.uses == b.uses) w:=run_equalIn_int w 9998 _ _ _ _ _ underlying3;have e4:(Op.equalIn 9999 3 (.int .i64 a.start) (.int .i64 b.start)).run prog w = .ok (a.start == b.start) w:=run_equalIn_int w 9998 _ _ _ _ _ underlying3;have e5:(Op.equalIn 9999 3 (.int .i64 a.fin) (.int .i64 b.fin)).run prog w = .ok (a.fin == b.fin) w:=run_equalIn_int w 9998 _ _ _ _ _ underlying3;have e6:(Op.equalIn 9999 3 (.int .i64 a.ver) (.int .i64 b.ver)).run prog w = .ok (a.ver == b.ver) w:=run_equalIn_int w 9998 _ _ _ _ _ underlying3;have e7:(Op.equalIn 9999 3 (.int .i64 a.par) (.int .i64 b.par)).run prog w = .ok (a.par == b.par) w:=run_equalIn_int w 9998 _ _ _ _ _ underlying3;have e8:(Op.equalIn 9999 4 (.bool a.raw) (.bool b.raw)).run prog w = .ok (a.raw == b.raw) w:=run_equalIn_bool w 9998 _ _ _ underlying4
  rw[du 9999 _ _ f0 _ m0 w (.int .i64 a.id) (.int .i64 b.id) (a.id == b.id) (by rw[t0,o0];simp[part,pT,kc]) (by rw[t0,o0];simp[part,pT,kc]) (by rw[t0];exact e0),
   du 9999 _ _ f1 _ m1 w (.int .i64 a.ty) (.int .i64 b.ty) (a.ty == b.ty) (by rw[t1,o1];simp[part,pT,kc]) (by rw[t1,o1];simp[part,pT,kc]) (by rw[t1];exact e1),
   du 9999 _ _ f2 _ m2 w (.string ⟨a.val.toArray⟩) (.string ⟨b.val.toArray⟩) (a.val == b.val) (by rw[t2,o2];simp[part,U3,kc]) (by rw[t2,o2];simp[part,U3,kc]) (by rw[t2];exact e2),
   du 9999 _ _ f3 _ m3 w (.int .i64 a.uses) (.int .i64 b.uses) (a.uses == b.uses) (by rw[t3,o3];simp[part,pT,kc]) (by rw[t3,o3];simp[part,pT,kc]) (by rw[t3];exact e3),
   du 9999 _ _ f4 _ m4 w (.int .i64 a.start) (.int .i64 b.start) (a.start == b.start) (by rw[t4,o4];simp[part,pT,kc]) (by rw[t4,o4];simp[part,pT,kc]) (by rw[t4];exact e4),
   du 9999 _ _ f5 _ m5 w (.int .i64 a.fin) (.int .i64 b.fin) (a.fin == b.fin) (by rw[t5,o5];simp[part,pT,kc]) (by rw[t5,o5];simp[part,pT,kc]) (by rw[t5];exact e5),
   du 9999 _ _ f6 _ m6 w (.int .i64 a.ver) (.int .i64 b.ver) (a.ver == b.ver) (by rw[t6,o6];simp[part,pT,kc]) (by rw[t6,o6];simp[part,pT,kc]) (by rw[t6];exact e6),
   du 9999 _ _ f7 _ m7 w (.int .i64 a.par) (.int .i64 b.par) (a.par == b.par) (by rw[t7,o7];simp[part,pT,kc]) (by rw[t7,o7];simp[part,pT,kc]) (by rw[t7];exact e7),
   du 9999 _ _ f8 _ m8 w (.bool a.raw) (.bool b.raw) (a.raw == b.raw) (by rw[t8,o8];simp[part,U2,kc]) (by rw[t8,o8];simp[part,U2,kc]) (by rw[t8];exact e8)]
  unfold kEq
  cases (a.id == b.id)
  ·rfl
  cases (a.ty == b.ty)
  ·rfl
  cases (a.val == b.val)
  ·rfl
  cases (a.uses == b.uses)
  ·rfl
  cases (a.start == b.start)
  ·rfl
  cases (a.fin == b.fin)
  ·rfl
  cases (a.ver == b.ver)
  ·rfl
  cases (a.par == b.par)
  ·rfl
  cases (a.raw == b.raw)
  ·rfl
  rfl
 all_goals simp at hf
open Go.RowKit Go.Shelf
theorem QF {l m:List K} (h:l.length=m.length) (h2:∀j,j<l.length→ae l j=ae m j):l=m:=by
 refine List.ext_getElem h (fun i h3 h4 => ?_);have := h2 i h3
 rwa [az l i h3,az m i h4] at this
attribute [local irreducible] Calls kEq
end
section
open Go.RowKit Go.Shelf
theorem mj (l:List K) (i:Nat) (h:i<l.length):l.take (i+1)=l.take i++[ae l i]:=by
 rw[az l i h];exact List.take_succ_eq_append_getElem h
theorem dC (l m:List K) (i:Nat) (h:i<l.length):ae (l++m) i=ae l i:=by
 rw[az _ _ (by rw[E_];omega),az _ _ h,List.getElem_append_left]
theorem pq (l m:List K) (i:Nat) (h:i<m.length):ae (l++m) (l.length+i)=ae m i:=by
 rw[az _ _ (by rw[E_];omega),az _ _ h,List.getElem_append_right (by omega)]
 simp
theorem pu (l:List K) (x:K):ae (l++[x]) l.length=x:=by
 have := pq l [x] 0 (by simp);rw[Nat.add_zero] at this;rw[this];rfl
open Go.RowKit Go.Shelf
section st
variable {α:Type} {dec:List UInt8→α × Nat × Int} {z:α} {rest:List UInt8} {e:Int}
theorem vD (he:e≠0):rdX dec rest e=e:=by unfold rdX;rw[G_ he]
theorem mC:rdX dec rest 0=(dec rest).2.2:=by unfold rdX;simp
theorem kC (h:(dec rest).2.2=0):rdV z dec rest 0=(dec rest).1:=by unfold rdV;simp[h]
theorem vC (h:(dec rest).2.2=0):rdR dec rest 0=rest.drop (dec rest).2.1:=by unfold rdR;simp[h]
theorem DU (he:e≠0):whX dec rest e=e:=by unfold whX;rw[vD he,H_ (fun h=>he h.1)]
theorem tP (h:(dec rest).2.2≠0):whX dec rest 0=(dec rest).2.2:=by unfold whX;rw[mC,H_ (fun h'=>h h'.1)]
theorem tO (h:(dec rest).2.2=0) (h2:(dec rest).2.1=rest.length):whX dec rest 0=0:=by
 unfold whX;rw[mC,vC h,h,h2,List.drop_length]
 simp
theorem rj (h:(dec rest).2.2=0) (h2:(dec rest).2.1<rest.length):whX dec rest 0=6:=by
 unfold whX
 have h3:¬(rest.drop (dec rest).2.1).length=0:=by rw[S_];omega
 rw[mC,vC h,h,V_ h3]
 simp
end st
theorem Ev {b:List UInt8} (h:b.length<16):bz b=(z16,0,5):=G_ h
theorem eM {b:List UInt8} (h:¬b.length<16):bz b=(b.take 16,16,0):=H_ h
theorem Sl {hdr:List UInt8} {e:Int} (he:e≠0):hdE hdr e=e:=by
 unfold hdE;simp only[vD he,he,false_and,if_false]
theorem Sm {hdr:List UInt8} {e:Int} (he:e≠0):hdX hdr e=e:=by
 unfold hdX;simp only[Sl he,vD he,DU he,he,false_and,if_false]
theorem GH (h:List UInt8):(h.length<16∧hdE h 0=5)∨(¬h.length<16∧(aB (h.drop 16)).2.2≠0∧hdE h 0=(aB (h.drop 16)).2.2) ∨
  (¬h.length<16∧(aB (h.drop 16)).2.2=0∧¬(aB (h.drop 16)).1.length=4∧hdE h 0=6)∨(¬h.length<16∧(aB (h.drop 16)).2.2=0∧(aB (h.drop 16)).1.length=4∧hdE h 0=0):=by
 by_cases h1:h.length<16
 ·refine .inl ⟨h1,?_⟩
  have e1:rdX bz h 0=5:=by rw[mC,Ev h1]
  unfold hdE;simp only[e1];rw[vD (by decide)]
  simp
 ·have e1:rdX bz h 0=0:=by rw[mC,eM h1]
  have e2:rdR bz h 0=h.drop 16:=by rw[vC (by rw[eM h1]),eM h1]
  by_cases h2:(aB (h.drop 16)).2.2=0
  ·have e3:rdV [] aB (h.drop 16) 0=(aB (h.drop 16)).1:=kC h2
   have hE:hdE h 0=if decide ((aB (h.drop 16)).1.length=4)=false then 6 else 0:=by
    unfold hdE;simp only[e1,e2,e3,mC,h2,true_and]
   by_cases h3:(aB (h.drop 16)).1.length=4
   ·exact .inr (.inr (.inr ⟨h1,h2,h3,by rw[hE,decide_eq_true h3];rfl⟩))
   ·exact .inr (.inr (.inl ⟨h1,h2,h3,by rw[hE,V_ h3];rfl⟩))
  ·refine .inr (.inl ⟨h1,h2,?_⟩)
   unfold hdE;simp only[e1,e2,mC,h2,false_and,if_false]
def Ap (h rest:List UInt8) (l:List Int) (mo:List UInt8):BK:=⟨h.take 16,l.getD 0 0,l.getD 1 0,l.getD 2 0,l.getD 3 0,rest.take 16,mo⟩
theorem GI (h rest:List UInt8) (hr:rest=(h.drop 16).drop (aB (h.drop 16)).2.1) (h1:¬h.length<16) (h2:(aB (h.drop 16)).2.2=0) (h3:hdE h 0=0) :
  (rest.length<16∧hdX h 0=5)∨(¬rest.length<16∧(aL (rest.drop 16)).2.2≠0∧hdX h 0=(aL (rest.drop 16)).2.2) ∨
  (¬rest.length<16∧(aL (rest.drop 16)).2.2=0∧(¬(aL (rest.drop 16)).2.1=rest.length-16)∧hdX h 0=6) ∨
  (¬rest.length<16∧(aL (rest.drop 16)).2.2=0∧(aL (rest.drop 16)).2.1=rest.length-16∧aI (Ap h rest (aB (h.drop 16)).1 (aL (rest.drop 16)).1) []=false∧hdX h 0=6) ∨
  (¬rest.length<16∧(aL (rest.drop 16)).2.2=0∧(aL (rest.drop 16)).2.1=rest.length-16∧aI (Ap h rest (aB (h.drop 16)).1 (aL (rest.drop 16)).1) []=true∧hdX h 0=0∧hdB h 0=Ap h rest (aB (h.drop 16)).1 (aL (rest.drop 16)).1):=by
 have e1:rdX bz h 0=0:=by rw[mC,eM h1]
 have e2:rdR bz h 0=h.drop 16:=by rw[vC (by rw[eM h1]),eM h1]
 have e0:rdV z16 bz h 0=h.take 16:=by rw[kC (by rw[eM h1]),eM h1]
 have e3:rdV [] aB (h.drop 16) 0=(aB (h.drop 16)).1:=kC h2
 have e4:rdR aB (h.drop 16) 0=rest:=by rw[vC h2,hr]
 by_cases h4:rest.length<16
 ·refine .inl ⟨h4,?_⟩
  have e5:rdX bz rest 0=5:=by rw[mC,Ev h4]
  unfold hdX;simp only[e1,e2,e4,h3,e5];rw[DU (by decide)]
  simp
 ·have e5:rdX bz rest 0=0:=by rw[mC,eM h4]
  have e6:rdR bz rest 0=rest.drop 16:=by rw[vC (by rw[eM h4]),eM h4]
  have e7:rdV z16 bz rest 0=rest.take 16:=by rw[kC (by rw[eM h4]),eM h4]
  have hX:hdX h 0=if whX aL (rest.drop 16) 0=0∧aI (hdB h 0) []=false then 6 else whX aL (rest.drop 16) 0:=by
   unfold hdX;simp only[e1,e2,e4,h3,e5,e6]
  by_cases h5:(aL (rest.drop 16)).2.2=0
  ·have e8:rdV [] aL (rest.drop 16) 0=(aL (rest.drop 16)).1:=kC h5
   have hB:hdB h 0=Ap h rest (aB (h.drop 16)).1 (aL (rest.drop 16)).1:=by
    unfold hdB;simp only[e0,e1,e2,e3,e4,h3,e5,e6,e7,e8,if_true]
    rfl
   have hu:=(hI.used _ h5).1;rw[S_] at hu
   by_cases h6:(aL (rest.drop 16)).2.1=rest.length-16
   ·have e9:whX aL (rest.drop 16) 0=0:=tO h5 (by rw[S_];exact h6)
    rw[hB,e9] at hX
    cases hv:aI (Ap h rest (aB (h.drop 16)).1 (aL (rest.drop 16)).1) [] with
    | false=>exact .inr (.inr (.inr (.inl ⟨h4,h5,h6,rfl,by rw[hX,hv];simp⟩)))
    | true=>exact .inr (.inr (.inr (.inr ⟨h4,h5,h6,rfl,by rw[hX,hv];simp,hB⟩)))
   ·have e9:whX aL (rest.drop 16) 0=6:=rj h5 (by rw[S_];omega)
    exact .inr (.inr (.inl ⟨h4,h5,h6,by rw[hX,e9];simp⟩))
  ·refine .inr (.inl ⟨h4,h5,?_⟩)
   rw[hX,tP h5,H_ (fun h'=>h5 h'.1)]
theorem Sn (h:List UInt8) (hq:hdE h 0≠0):hdX h 0=hdE h 0:=by
 unfold hdX;simp only[vD hq,DU hq,hq,false_and,if_false]
theorem IM {blob:List UInt8} (h:(aL blob).2.2≠0):blE blob=(aL blob).2.2:=by
 unfold blE;rw[mC,Sm h]
theorem Eg {blob:List UInt8} (h:(aL blob).2.2=0):blE blob=hdX (aL blob).1 0∧blB blob=hdB (aL blob).1 0∧blH blob=(aL blob).1∧rdR aL blob 0=blob.drop (aL blob).2.1:=by
 have e1:blH blob=(aL blob).1:=kC h;unfold blE blB;rw[e1,mC,h];exact⟨rfl,rfl,rfl,vC h⟩
theorem G3 (s:List UInt8):((aE s).2.2≠0∧dZ s 0=(aE s).2.2)∨((aE s).2.2=0∧¬(aE s).2.1=s.length∧dZ s 0=6)∨((aE s).2.2=0∧(aE s).2.1=s.length∧¬(aE s).1.length=2∧dZ s 0=6) ∨
  ((aE s).2.2=0∧(aE s).2.1=s.length∧(aE s).1.length=2∧dZ s 0=kN ((aE s).1.getD 0 [])∧(dZ s 0=0→fV s 0=mkK (rdV [] aB ((aE s).1.getD 0 []) 0) ((aE s).1.getD 1 []))):=by
 by_cases h1:(aE s).2.2=0
 ·have hu:=(lI.used _ h1).1
  have e1:rdV [] aE s 0=(aE s).1:=kC h1
  by_cases h2:(aE s).2.1=s.length
  ·have e2:whX aE s 0=0:=tO h1 h2
   by_cases h3:(aE s).1.length=2
   ·have e3:kE1 s 0=0:=by unfold kE1;rw[e2,e1,decide_eq_true h3];simp
    refine .inr (.inr (.inr ⟨h1,h2,h3,?_,?_⟩))
    ·unfold dZ;rw[e3,e1,G_ rfl]
    ·intro hk
     unfold fV;rw[hk,G_ rfl,e1]
   ·have e3:kE1 s 0=6:=by unfold kE1;rw[e2,e1,V_ h3];simp
    exact .inr (.inr (.inl ⟨h1,h2,h3,by unfold dZ;rw[e3];simp⟩))
  ·have e2:whX aE s 0=6:=rj h1 (by omega)
   have e3:kE1 s 0=6:=by unfold kE1;rw[e2];simp
   exact .inr (.inl ⟨h1,h2,by unfold dZ;rw[e3];simp⟩)
 ·have e2:whX aE s 0=(aE s).2.2:=tP h1
  have e3:kE1 s 0=(aE s).2.2:=by unfold kE1;rw[e2,H_ (fun h=>h1 h.1)]
  exact .inl ⟨h1,by unfold dZ;rw[e3,H_ h1]⟩
theorem Kg (p:List UInt8):((aB p).2.2≠0∧kN p=(aB p).2.2)∨((aB p).2.2=0∧¬(aB p).2.1=p.length∧kN p=6)∨((aB p).2.2=0∧(aB p).2.1=p.length∧¬(aB p).1.length=8∧kN p=6) ∨
  ((aB p).2.2=0∧(aB p).2.1=p.length∧(aB p).1.length=8∧¬((aB p).1.getD 7 0=0∨(aB p).1.getD 7 0=1)∧kN p=6) ∨
  ((aB p).2.2=0∧(aB p).2.1=p.length∧(aB p).1.length=8∧((aB p).1.getD 7 0=0∨(aB p).1.getD 7 0=1)∧kN p=0∧rdV [] aB p 0=(aB p).1):=by
 by_cases h1:(aB p).2.2=0
 ·have hu:=(ko.used _ h1).1
  have e1:rdV [] aB p 0=(aB p).1:=kC h1
  by_cases h2:(aB p).2.1=p.length
  ·have e2:whX aB p 0=0:=tO h1 h2
   by_cases h3:(aB p).1.length=8
   ·have e3:kE2 p=0:=by unfold kE2;rw[e2,e1,decide_eq_true h3];simp
    have hw:kN p=if win ((aB p).1.getD 7 0) 0 1=false then 6 else 0:=by unfold kN;rw[e3,e1];simp
    cases hq:win ((aB p).1.getD 7 0) 0 1 with
    | true =>
      have hq2:=(kJ _ _ _).1 hq;exact .inr (.inr (.inr (.inr ⟨h1,h2,h3,by omega,by rw[hw,hq];simp,e1⟩)))
    | false =>
      have hq2:¬(0≤(aB p).1.getD 7 0∧(aB p).1.getD 7 0≤1):=fun h=>by rw[(kJ _ _ _).2 h] at hq;cases hq
      exact .inr (.inr (.inr (.inl ⟨h1,h2,h3,by omega,by rw[hw,hq];simp⟩)))
   ·have e3:kE2 p=6:=by unfold kE2;rw[e2,e1,V_ h3];simp
    exact .inr (.inr (.inl ⟨h1,h2,h3,by unfold kN;rw[e3];simp⟩))
  ·have e2:whX aB p 0=6:=rj h1 (by omega)
   have e3:kE2 p=6:=by unfold kE2;rw[e2];simp
   exact .inr (.inl ⟨h1,h2,by unfold kN;rw[e3];simp⟩)
 ·have e2:whX aB p 0=(aB p).2.2:=tP h1
  have e3:kE2 p=(aB p).2.2:=by unfold kE2;rw[e2,H_ (fun h=>h1 h.1)]
  exact .inl ⟨h1,by unfold kN;rw[e3,H_ (fun h=>h1 h.1)]⟩
theorem oX (ss:List (List UInt8)):∀e,e≠0→(b5 ss e).2=e:=by
 induction ss with
 | nil=>intro e _;rfl
 | cons s ss ih =>
   intro e he;rw[jP]
   show (b5 ss (dZ s e)).2=e
   rw[EW s e he];exact ih e he
theorem GC (a:List (List UInt8)):∀(b:List (List UInt8)) (e:Int),(b5 (a++b) e).2=(b5 b (b5 a e).2).2:=by
 induction a with
 | nil=>intro b e;rfl
 | cons x a ih=>intro b e;rw[List.cons_append,jP,jP];exact ih b _
theorem A8 (ss:List (List UInt8)) (j:Nat) (hj:j<ss.length) (h0:(b5 (ss.take j) 0).2=0) (h1:dZ ss[j] 0≠0):(b5 ss 0).2=dZ ss[j] 0:=by
 have h2:(b5 (ss.take (j+1)) 0).2=dZ ss[j] 0:=by rw[oY ss j hj,h0]
 have h3:=GC (ss.take (j+1)) (ss.drop (j+1)) 0;rw[List.take_append_drop,h2,oX _ _ h1] at h3;exact h3
theorem Sc {t:List UInt8} (h:(aE t).2.2≠0):ctE t=(aE t).2.2:=by
 unfold ctE;rw[tP h,oX _ _ h]
theorem NY {t:List UInt8} (h:(aE t).2.2=0) (h2:¬(aE t).2.1=t.length):ctE t=6:=by
 have hu:=(lI.used _ h).1;unfold ctE;rw[rj h (by omega),oX _ _ (by decide)]
theorem Sa {t:List UInt8} (h:(aE t).2.2=0) (h2:(aE t).2.1=t.length):ctE t=(b5 (aE t).1 0).2∧ctK t=(b5 (aE t).1 0).1:=by
 have e1:rdV [] aE t 0=(aE t).1:=kC h;unfold ctE ctK;rw[tO h h2,e1];exact⟨rfl,rfl⟩
end
section
open Go.RowKit Go.Shelf
def kt (a b:BK) (n m:Nat):Bool:=dEq a.dom b.dom && ((a.ep == b.ep) && ((a.num == b.num) && ((a.fw == b.fw) && ((a.tm == b.tm) && (dEq a.pol b.pol && ((a.mo == b.mo) && ((n:Int) == (m:Int))))))))
def sY (a:BK) (l:List K) (b:BK) (m:List K):Bool:=kt a b l.length m.length && decide (l=m)
theorem Bf (a b:BK) (n m:Nat):(kt a b n m=false∧dEq a.dom b.dom=false)∨(kt a b n m=false∧dEq a.dom b.dom=true∧(a.ep == b.ep)=false)∨(kt a b n m=false∧dEq a.dom b.dom=true∧(a.ep == b.ep)=true∧(a.num == b.num)=false) ∨
  (kt a b n m=false∧dEq a.dom b.dom=true∧(a.ep == b.ep)=true∧(a.num == b.num)=true∧(a.fw == b.fw)=false)∨(kt a b n m=false∧dEq a.dom b.dom=true∧(a.ep == b.ep)=true∧(a.num == b.num)=true∧(a.fw == b.fw)=true∧(a.tm == b.tm)=false) ∨
  (kt a b n m=false∧dEq a.dom b.dom=true∧(a.ep == b.ep)=true∧(a.num == b.num)=true∧(a.fw == b.fw)=true∧(a.tm == b.tm)=true∧dEq a.pol b.pol=false) ∨
  (kt a b n m=false∧dEq a.dom b.dom=true∧(a.ep == b.ep)=true∧(a.num == b.num)=true∧(a.fw == b.fw)=true∧(a.tm == b.tm)=true∧dEq a.pol b.pol=true∧(a.mo == b.mo)=false) ∨
  (kt a b n m=false∧dEq a.dom b.dom=true∧(a.ep == b.ep)=true∧(a.num == b.num)=true∧(a.fw == b.fw)=true∧(a.tm == b.tm)=true∧dEq a.pol b.pol=true∧(a.mo == b.mo)=true∧((n:Int) == (m:Int))=false) ∨
  (kt a b n m=true∧dEq a.dom b.dom=true∧(a.ep == b.ep)=true∧(a.num == b.num)=true∧(a.fw == b.fw)=true∧(a.tm == b.tm)=true∧dEq a.pol b.pol=true∧(a.mo == b.mo)=true∧((n:Int) == (m:Int))=true):=by
 unfold kt
 cases dEq a.dom b.dom <;> cases (a.ep == b.ep) <;> cases (a.num == b.num) <;> cases (a.fw == b.fw) <;> cases (a.tm == b.tm) <;> cases dEq a.pol b.pol <;> cases (a.mo == b.mo) <;> cases ((n:Int) == (m:Int)) <;> simp
theorem yA {w:World} {g:Nat} {b:BK} {u:Value} {T:TypeId} (h:w.heap[g]?=some (.cells (bc b u) T (0,0))):w.rangeAt g 0 (am b.dom).toList:=by
 intro j x hx;obtain⟨h1,rfl⟩:=nK _ _ _ hx;rw[e_ _ _ _ _ _ _ h,a_];exact pW b u j h1
theorem yB {w:World} {g:Nat} {b:BK} {u:Value} {T:TypeId} (h:w.heap[g]?=some (.cells (bc b u) T (0,0))):w.rangeAt g 20 (am b.pol).toList:=by
 intro j x hx;obtain⟨h1,rfl⟩:=nK _ _ _ hx;rw[e_ _ _ _ _ _ _ h];exact mM b u j h1
theorem kw {ops:Array Oper} {rest:List Oper} {o:Oper} {a:Act} {w:World} {Q:Exit→Act→World→Prop} (d:List UInt8) (g off:Nat) (x:Operand) (ho:o.op = .load 23 x) (hc:w.rangeAt g off (am d).toList)
  (hx:a.eval x = .pointer (some ⟨g,off,none⟩)) (hgd:Region.wanted o (yielded ops a.tmps)=true)
  (h:wpList prog ops Q rest (a.put o.dst (.agg (am d))) w):wpList prog ops Q (o::rest) a w:=Dh d g off hc hgd x ho hx h
theorem cB {α:Type} [BEq α] {x y:α} {r:Bool} (h:(x == y)=r):(x != y) = !r:=by rw[bne,h]
attribute [local irreducible] Calls kEq am dEq sY kt
theorem TD (a b:BK) (v u:Value) (l m:List K) (w:World) (hv:RdK w v l) (hu:RdK w u m) :
  Calls prog 23 #[.agg (bc a v),.agg (bc b u)] w fun e w'=>e = .returned (.bool (sY a l b m))∧Below w.heap.size w w':=by
 have hlen:=hv.len;unfold maxLen at hlen;have hv9:=hv;have hu9:=hu;obtain⟨va,vc,rfl,_,_,_⟩:=hv9;obtain⟨ua,uc,rfl,_,_,_⟩:=hu9;obtain⟨W0,hW0⟩:∃W0,W0=(w.alloc (.cells (bc a (.slice va l.length vc)) 47)).alloc (.cells (bc b (.slice ua m.length uc)) 47):=⟨_,rfl⟩;have HW:=O hW0;have HBE:Hid (Below w.heap.size w W0):=O (by rw[hW0];exact((O_ _ _).alloc (A_ _) _).alloc (by simp) _);have HR1:Hid (W0.heap[w.heap.size]?=some (.cells (bc a (.slice va l.length vc)) 47 (0,0))):=O (by rw[hW0,bx _ _ _ (by simp)];exact al _ _ _ rfl);have HR2:Hid (W0.heap[w.heap.size+1]?=some (.cells (bc b (.slice ua m.length uc)) 47 (0,0))):=O (by rw[hW0];exact al _ _ _ (by simp));have HV:Hid (RdK W0 (.slice va l.length vc) l):=O (by rw[hW0];exact(hv.alloc _).alloc _);have HU:Hid (RdK W0 (.slice ua m.length uc) m):=O (by rw[hW0];exact(hu.alloc _).alloc _)
 have a16:W0.cell? ⟨w.heap.size,16,none⟩=some (.int .i64 a.ep):=by rw[e_ _ _ _ _ _ _ HR1.out];exact uj _ _
 have a17:W0.cell? ⟨w.heap.size,17,none⟩=some (.int .i64 a.num):=by rw[e_ _ _ _ _ _ _ HR1.out];exact sy _ _
 have a18:W0.cell? ⟨w.heap.size,18,none⟩=some (.int .i64 a.fw):=by rw[e_ _ _ _ _ _ _ HR1.out];exact ul _ _
 have a19:W0.cell? ⟨w.heap.size,19,none⟩=some (.int .i64 a.tm):=by rw[e_ _ _ _ _ _ _ HR1.out];exact um _ _
 have a36:W0.cell? ⟨w.heap.size,36,none⟩=some (.string ⟨a.mo.toArray⟩):=by rw[e_ _ _ _ _ _ _ HR1.out];exact uo _ _
 have a37:W0.cell? ⟨w.heap.size,37,none⟩=some (.slice va l.length vc):=by rw[e_ _ _ _ _ _ _ HR1.out];exact iU _ _
 have b16:W0.cell? ⟨w.heap.size+1,16,none⟩=some (.int .i64 b.ep):=by rw[e_ _ _ _ _ _ _ HR2.out];exact uj _ _
 have b17:W0.cell? ⟨w.heap.size+1,17,none⟩=some (.int .i64 b.num):=by rw[e_ _ _ _ _ _ _ HR2.out];exact sy _ _
 have b18:W0.cell? ⟨w.heap.size+1,18,none⟩=some (.int .i64 b.fw):=by rw[e_ _ _ _ _ _ _ HR2.out];exact ul _ _
 have b19:W0.cell? ⟨w.heap.size+1,19,none⟩=some (.int .i64 b.tm):=by rw[e_ _ _ _ _ _ _ HR2.out];exact um _ _
 have b36:W0.cell? ⟨w.heap.size+1,36,none⟩=some (.string ⟨b.mo.toArray⟩):=by rw[e_ _ _ _ _ _ _ HR2.out];exact uo _ _
 have b37:W0.cell? ⟨w.heap.size+1,37,none⟩=some (.slice ua m.length uc):=by rw[e_ _ _ _ _ _ _ HR2.out];exact iU _ _
 have HD1:=O (yA HR1.out);have HD2:=O (yA HR2.out);have HP1:=O (yB HR1.out);have HP2:=O (yB HR2.out);have hnd:=fun w'=>sO a.dom b.dom w';have hnp:=fun w'=>sO a.pol b.pol w';have HSB:Hid (sY a l b m=(kt a b l.length m.length && decide (l=m))):=O (by unfold sY;rfl);clear hv hu hW0
 rcases Bf a b l.length m.length with⟨hh,f1⟩|⟨hh,f1,f2⟩|⟨hh,f1,f2,f3⟩|⟨hh,f1,f2,f3,f4⟩|⟨hh,f1,f2,f3,f4,f5⟩|⟨hh,f1,f2,f3,f4,f5,f6⟩|⟨hh,f1,f2,f3,f4,f5,f6,f7⟩|⟨hh,f1,f2,f3,f4,f5,f6,f7,f8⟩|⟨hh,f1,f2,f3,f4,f5,f6,f7,f8⟩
 case inr.inr.inr.inr.inr.inr.inr.inr =>
  have HH:=O hh;rw[f1] at hnd;rw[f6] at hnp;have g2:=cB f2;have g3:=cB f3;have g4:=cB f4;have g5:=cB f5;have g7:=cB f7;have g8:=cB f8;have HL:Hid (l.length=m.length):=O (by have := f8;rw[beq_iff_eq] at this;omega);clear hh f1
  go_enter func23,ntmps23
  go_upto_region 1 with fail
  rw[←HW.out];have tok1:True:=trivial;have tok2:True:=trivial;have tok3:True:=trivial;have tok4:True:=trivial
  go_wp2_with (first
   |(clear tok1;refine db a.dom w.heap.size 0 (.tmp 6) ?_ HD1.out ?_ ?_ ?_;exact rfl;exact rfl;exact rfl)
   |(clear tok2;refine db b.dom (w.heap.size+1) 0 (.tmp 8) ?_ HD2.out ?_ ?_ ?_;exact rfl;exact rfl;exact rfl)
   |(clear tok3;refine kw a.pol w.heap.size 20 (.tmp 40) ?_ HP1.out ?_ ?_ ?_;exact rfl;exact rfl;kernel_rfl)
   |(clear tok4;refine kw b.pol (w.heap.size+1) 20 (.tmp 42) ?_ HP2.out ?_ ?_ ?_;exact rfl;exact rfl;kernel_rfl))
  go_loopw [5] (fun o wr=>∃i:Nat,i≤l.length∧o = .int .i64 i∧Hid (∀j,j<i→ae l j=ae m j)∧∃n,wr=W0.drewN n) (fun o _=>l.length-(intOf o).toNat)
  case atStart=>exact⟨0,N_ _,rfl,O (fun j hj=>absurd hj (by omega)),0,rfl⟩
  case round =>
   obtain⟨i,hi,rfl,hno,n,rfl⟩:=hrel;clear a16 a17 a18 a19 a36 b16 b17 b18 b19 b36 hnd hnp g2 g3 g4 g5 g7 g8 f2 f3 f4 f5 f6 f7 f8
   by_cases hlt:i<l.length
   ·obtain⟨bb,off,rfl,hb1,aO⟩:=(HV.out.cells) (by omega)
    obtain⟨b2,off2,rfl,hb2,hrow2⟩:=(HU.out.cells) (by have := HL.out;omega);have hneq:=fun w'=>Fa (ae l i) (ae m i) w';rw[Ke] at hneq;unfold kc at hneq;obtain⟨d0,d1,d2,d3,d4,d5,d6,d7,d8⟩:=aO i hlt;obtain⟨x0,x1,x2,x3,x4,x5,x6,x7,x8⟩:=hrow2 i (by have := HL.out;omega)
    have i1:(i:Int)<l.length:=by omega
    have i2:(i:Int)<m.length:=by have := HL.out;omega
    have i3:i<m.length:=by have := HL.out;omega
    have HK:=O hlt;have HNO:=hno;clear aO hrow2 hno
    by_cases hq:ae l i=ae m i
    ·rw[decide_eq_true hq] at hneq
     have HQ:=O hq;clear hq;go_wp2
     first |refine fR (by kernel_rfl) (by kernel_rfl) ?_|refine fG (by kernel_rfl) (by kernel_rfl) ?_
     repeat (go_big_quiet_step (fail))
     refine h_ ?_;rintro _ ⟨nq,rfl⟩;go_wp2;go_roundw
     case rel=>exact⟨i+1,HK.out,by go_num,O (fun j hj=>by
      by_cases e:j=i
      ·subst e;exact HQ.out
      ·exact HNO.out j (by omega)),_,rfl⟩
     case measure=>have := HK.out;simp[intOf];omega
    ·rw[V_ hq] at hneq
     have hres:sY a l b m=false:=by rw[HSB.out,V_ (fun e=>hq (by rw[e])),Bool.and_false]
     have HRES:=O hres;clear hq hres;go_wp2
     first |refine fR (by kernel_rfl) (by kernel_rfl) ?_|refine fG (by kernel_rfl) (by kernel_rfl) ?_
     repeat (go_big_quiet_step (fail))
     refine h_ ?_;rintro _ ⟨nq,rfl⟩;go_wp2;go_ret;exact⟨by rw[HRES.out];rfl,ak _ HBE.out⟩
   ·have i1:(l.length:Int)≤i:=by omega
    have hres:sY a l b m=true:=by
     rw[HSB.out,HH.out,decide_eq_true (QF HL.out (fun j hj=>hno.out j (by omega)))]
     rfl
    have HRES:=O hres;clear hno hres hlt hi;go_wp2;go_ret;exact⟨by rw[HRES.out];rfl,ak _ HBE.out⟩
 case inl =>
  have HH:=O hh;rw[f1] at hnd;clear hh f1
  go_enter func23,ntmps23
  go_upto_region 1 with fail
  rw[←HW.out];have tok1:True:=trivial;have tok2:True:=trivial;have tok3:True:=trivial;have tok4:True:=trivial
  go_wp2_with (first
   |(clear tok1;refine db a.dom w.heap.size 0 (.tmp 6) ?_ HD1.out ?_ ?_ ?_;exact rfl;exact rfl;exact rfl)
   |(clear tok2;refine db b.dom (w.heap.size+1) 0 (.tmp 8) ?_ HD2.out ?_ ?_ ?_;exact rfl;exact rfl;exact rfl))
  go_ret;exact⟨by rw[HSB.out,HH.out];rfl,HBE.out⟩
 case inr.inl =>
  have HH:=O hh;rw[f1] at hnd;have g2:=cB f2;clear hh f1
  go_enter func23,ntmps23
  go_upto_region 1 with fail
  rw[←HW.out];have tok1:True:=trivial;have tok2:True:=trivial;have tok3:True:=trivial;have tok4:True:=trivial
  go_wp2_with (first
   |(clear tok1;refine db a.dom w.heap.size 0 (.tmp 6) ?_ HD1.out ?_ ?_ ?_;exact rfl;exact rfl;exact rfl)
   |(clear tok2;refine db b.dom (w.heap.size+1) 0 (.tmp 8) ?_ HD2.out ?_ ?_ ?_;exact rfl;exact rfl;exact rfl))
  go_ret;exact⟨by rw[HSB.out,HH.out];rfl,HBE.out⟩
 case inr.inr.inl =>
  have HH:=O hh;rw[f1] at hnd;have g2:=cB f2;have g3:=cB f3;clear hh f1
  go_enter func23,ntmps23
  go_upto_region 1 with fail
  rw[←HW.out];have tok1:True:=trivial;have tok2:True:=trivial;have tok3:True:=trivial;have tok4:True:=trivial
  go_wp2_with (first
   |(clear tok1;refine db a.dom w.heap.size 0 (.tmp 6) ?_ HD1.out ?_ ?_ ?_;exact rfl;exact rfl;exact rfl)
   |(clear tok2;refine db b.dom (w.heap.size+1) 0 (.tmp 8) ?_ HD2.out ?_ ?_ ?_;exact rfl;exact rfl;exact rfl))
  go_ret;exact⟨by rw[HSB.out,HH.out];rfl,HBE.out⟩
 case inr.inr.inr.inl =>
  have HH:=O hh;rw[f1] at hnd;have g2:=cB f2;have g3:=cB f3;have g4:=cB f4;clear hh f1
  go_enter func23,ntmps23
  go_upto_region 1 with fail
  rw[←HW.out];have tok1:True:=trivial;have tok2:True:=trivial;have tok3:True:=trivial;have tok4:True:=trivial
  go_wp2_with (first
   |(clear tok1;refine db a.dom w.heap.size 0 (.tmp 6) ?_ HD1.out ?_ ?_ ?_;exact rfl;exact rfl;exact rfl)
   |(clear tok2;refine db b.dom (w.heap.size+1) 0 (.tmp 8) ?_ HD2.out ?_ ?_ ?_;exact rfl;exact rfl;exact rfl))
  go_ret;exact⟨by rw[HSB.out,HH.out];rfl,HBE.out⟩
 case inr.inr.inr.inr.inl =>
  have HH:=O hh;rw[f1] at hnd;have g2:=cB f2;have g3:=cB f3;have g4:=cB f4;have g5:=cB f5;clear hh f1
  go_enter func23,ntmps23
  go_upto_region 1 with fail
  rw[←HW.out];have tok1:True:=trivial;have tok2:True:=trivial;have tok3:True:=trivial;have tok4:True:=trivial
  go_wp2_with (first
   |(clear tok1;refine db a.dom w.heap.size 0 (.tmp 6) ?_ HD1.out ?_ ?_ ?_;exact rfl;exact rfl;exact rfl)
   |(clear tok2;refine db b.dom (w.heap.size+1) 0 (.tmp 8) ?_ HD2.out ?_ ?_ ?_;exact rfl;exact rfl;exact rfl))
  go_ret;exact⟨by rw[HSB.out,HH.out];rfl,HBE.out⟩
 case inr.inr.inr.inr.inr.inl =>
  have HH:=O hh;rw[f1] at hnd;rw[f6] at hnp;have g2:=cB f2;have g3:=cB f3;have g4:=cB f4;have g5:=cB f5;clear hh f1
  go_enter func23,ntmps23
  go_upto_region 1 with fail
  rw[←HW.out];have tok1:True:=trivial;have tok2:True:=trivial;have tok3:True:=trivial;have tok4:True:=trivial
  go_wp2_with (first
   |(clear tok1;refine db a.dom w.heap.size 0 (.tmp 6) ?_ HD1.out ?_ ?_ ?_;exact rfl;exact rfl;exact rfl)
   |(clear tok2;refine db b.dom (w.heap.size+1) 0 (.tmp 8) ?_ HD2.out ?_ ?_ ?_;exact rfl;exact rfl;exact rfl)
   |(clear tok3;refine kw a.pol w.heap.size 20 (.tmp 40) ?_ HP1.out ?_ ?_ ?_;exact rfl;exact rfl;kernel_rfl)
   |(clear tok4;refine kw b.pol (w.heap.size+1) 20 (.tmp 42) ?_ HP2.out ?_ ?_ ?_;exact rfl;exact rfl;kernel_rfl))
  go_ret;exact⟨by rw[HSB.out,HH.out];rfl,HBE.out⟩
 case inr.inr.inr.inr.inr.inr.inl =>
  have HH:=O hh;rw[f1] at hnd;rw[f6] at hnp;have g2:=cB f2;have g3:=cB f3;have g4:=cB f4;have g5:=cB f5;have g7:=cB f7;clear hh f1
  go_enter func23,ntmps23
  go_upto_region 1 with fail
  rw[←HW.out];have tok1:True:=trivial;have tok2:True:=trivial;have tok3:True:=trivial;have tok4:True:=trivial
  go_wp2_with (first
   |(clear tok1;refine db a.dom w.heap.size 0 (.tmp 6) ?_ HD1.out ?_ ?_ ?_;exact rfl;exact rfl;exact rfl)
   |(clear tok2;refine db b.dom (w.heap.size+1) 0 (.tmp 8) ?_ HD2.out ?_ ?_ ?_;exact rfl;exact rfl;exact rfl)
   |(clear tok3;refine kw a.pol w.heap.size 20 (.tmp 40) ?_ HP1.out ?_ ?_ ?_;exact rfl;exact rfl;kernel_rfl)
   |(clear tok4;refine kw b.pol (w.heap.size+1) 20 (.tmp 42) ?_ HP2.out ?_ ?_ ?_;exact rfl;exact rfl;kernel_rfl))
  go_ret;exact⟨by rw[HSB.out,HH.out];rfl,HBE.out⟩
 case inr.inr.inr.inr.inr.inr.inr.inl =>
  have HH:=O hh;rw[f1] at hnd;rw[f6] at hnp;have g2:=cB f2;have g3:=cB f3;have g4:=cB f4;have g5:=cB f5;have g7:=cB f7;have g8:=cB f8;clear hh f1
  go_enter func23,ntmps23
  go_upto_region 1 with fail
  rw[←HW.out];have tok1:True:=trivial;have tok2:True:=trivial;have tok3:True:=trivial;have tok4:True:=trivial
  go_wp2_with (first
   |(clear tok1;refine db a.dom w.heap.size 0 (.tmp 6) ?_ HD1.out ?_ ?_ ?_;exact rfl;exact rfl;exact rfl)
   |(clear tok2;refine db b.dom (w.heap.size+1) 0 (.tmp 8) ?_ HD2.out ?_ ?_ ?_;exact rfl;exact rfl;exact rfl)
   |(clear tok3;refine kw a.pol w.heap.size 20 (.tmp 40) ?_ HP1.out ?_ ?_ ?_;exact rfl;exact rfl;kernel_rfl)
   |(clear tok4;refine kw b.pol (w.heap.size+1) 20 (.tmp 42) ?_ HP2.out ?_ ?_ ?_;exact rfl;exact rfl;kernel_rfl))
  go_ret;exact⟨by rw[HSB.out,HH.out];rfl,HBE.out⟩
end
section
namespace Fld
open Go.RowKit
theorem uv (l:List UInt8):∀u∈bv l,u.oneCell'=true:=by
 intro u hu;obtain⟨b,_,rfl⟩:=List.mem_map.1 hu
 rfl
theorem D7 {w:World} {ops:Array Oper} {rest:List Oper} {o:Oper} {a:Act} {Q:Exit→Act→World→Prop} (hgd:o.guard=none) (s x:Operand)
  (ho:o.op = .call { callee := .builtin .append,args := #[s,x],argTypes := #[80,80] })
  (ai:Nat) (v:Value) (l:List UInt8) (hs:a.eval s=v) (hown:cR w ai v l) (ad:Addr) (m c:Nat) (news:List UInt8) (hx:a.eval x = .slice (some ad) m c) (hl:news.length=m)
  (hnews:∀j u,(bv news)[j]?=some u→w.cell? (ad.add j)=some u) (hsz:l.length+m≤1000000000) (hbase:ai≤w.heap.size)
  (h:∀v' w',cR w' ai v' (l++news)→Below ai w w'→wpList prog ops Q rest (a.put o.dst v') w'):wpList prog ops Q (o::rest) a w:=by
 obtain⟨i0,hi,hz0,hz1,hz2⟩:=info_parts sH
 refine wpList_append_own w hgd s x 80 ho ai 5 i0 (.int .u8 0) 1 1 underlying80 hi hz0 hz1 hz2 rfl (by decide) v l.length (bv l) hs hown ad m c (bv news) hx (by simp[bv,hl]) hnews (uv news)
  (by unfold maxLen;omega) (by omega) hbase ?_
 intro v' w' h1 h2 _;refine h v' w' ?_ ((O_ ai w).grown h2 hbase (fun k hk=>(hown.lt k hk).1));unfold cR;rw[E_,hl]
 have : bv (l++news)=bv l++bv news:=by simp[bv]
 rw[this];exact h1
theorem mR (w:World) (cs:Array Value) (T:TypeId) (j:Nat) (u:Value) (h:cs.toList[j]?=some u):(w.alloc (.cells cs T)).cell? ((⟨w.heap.size,0,none⟩:Addr).add j)=some u:=by
 have gX:(⟨w.heap.size,0,none⟩:Addr).add j=⟨w.heap.size,j,none⟩:=by unfold Addr.add;split <;> simp_all
 rw[gX,e_ _ _ j cs T (0,0) (heap_alloc_new w _),←Array.getElem?_toList];exact h
theorem cR.below {w w':World} {ai:Nat} {v:Value} {l:List UInt8} (h:cR w ai v l) (hb:Below w.heap.size w w'):cR w' ai v l:=by
 refine⟨h.1,?_⟩
 rcases h.2 with hn|⟨g,cap,cur,rfl,hg,hgg,r⟩
 ·exact .inl hn
 ·exact .inr ⟨g,cap,cur,rfl,hg,by rw[hb.block _ (Q_.1 hgg).1];exact hgg,r⟩
theorem cR.nil (w:World) (ai:Nat):cR w ai (.slice none 0 0) []:=World.ownsRow_nil w ai _ 1
theorem cR.drew {w:World} {ai:Nat} {v:Value} {l:List UInt8} (n:Nat) (h:cR w ai v l):cR (w.drewN n) ai v l:=h.below (ak n (O_ _ _))
end Fld
end
section
namespace Fld
open Go.RowKit F6
theorem MF (xs:List UInt8) (x:UInt8):wts xs x 0=[]:=rfl
attribute [local irreducible] mul ev pp wt wts
theorem yt (v:Value) (xs:List UInt8) (x:UInt8) (w:World) (hv:RdB w v xs) (hok:okX xs=true) :
  Calls prog 176 #[v,.int .u8 (B8 x)] w fun e w'=>∃u,e = .returned (.tuple #[u,.int .i64 0])∧cR w' w.heap.size u (wts xs x xs.length)∧Below w.heap.size w w':=by
 obtain⟨hnd,hl1,hl2⟩:=nQ hok;have HOK:=O hok;have HV:=O hv;have HND:=O hnd;obtain⟨a,cap,rfl,hl,hcap,hcells⟩:=hv;obtain⟨b,off,rfl,hbl,hc⟩:=hcells (by omega);clear hok hnd hcells
 go_enter func176,ntmps176
 go_wp2_with (go_at_call 190;refine(uK _ xs _ HV.out).mono ?_;rw[HOK.out];rintro e _ ⟨rfl,n0,rfl⟩)
 go_loopw [7,8] (fun u i wr=>∃k:Nat,k≤xs.length∧i = .int .i64 k∧cR wr w.heap.size u (wts xs x k)∧Below w.heap.size w wr) (fun _ i _=>xs.length-(intOf i).toNat)
 case atStart=>exact⟨0,N_ _,rfl,by rw[MF];exact cR.nil _ _,ak _ (O_ _ _)⟩
 case round =>
  obtain⟨i,hi,rfl,ho,hb⟩:=hrel
  by_cases hlt:i<xs.length
  ·have hii:(i:Int)<xs.length:=by omega
   have HI:=O hlt;go_wp2
   go_loopw [9,10,11] (fun up dn j ws=>∃k:Nat,k≤xs.length∧j = .int .i64 k∧up = .int .u8 (B8 (pp xs i x k))∧dn = .int .u8 (B8 (pp xs i (byteAt xs i) k))∧∃n,ws=wr.drewN n) (fun _ _ j _=>xs.length-(intOf j).toNat)
   case atStart=>exact⟨0,N_ _,rfl,by rw[zo];rfl,by rw[zo];rfl,0,rfl⟩
   case round =>
    obtain⟨k,hk,rfl,rfl,rfl,n,rfl⟩:=hrel;have hi:=HI.out
    by_cases hlt:k<xs.length
    ·have c1:wr.cell? ⟨b,off+i,none⟩=some (.int .u8 (B8 (byteAt xs i))):=by rw[hb.cell (p:=⟨b,off+i,none⟩) hbl];exact hc i hi
     have c2:wr.cell? ⟨b,off+k,none⟩=some (.int .u8 (B8 (byteAt xs k))):=by rw[hb.cell (p:=⟨b,off+k,none⟩) hbl];exact hc k hlt
     have i1:(i:Int)<xs.length:=by omega
     have i2:(k:Int)<xs.length:=by omega
     have HK:=O hlt
     by_cases hki:k=i
     ·have s1:=zm xs i x hi
      have s2:=zm xs i (byteAt xs i) hi;have S1:=O s1;have S2:=O s2
      have hne:((k:Int) == i)=true:=by rw[beq_iff_eq];omega
      have HKI:=O hki;clear s1 s2 hki;go_wp2;go_roundw
      case rel=>exact⟨k+1,HK.out,by go_num,by rw[HKI.out,S1.out],by rw[HKI.out,S2.out],_,rfl⟩
      case measure=>have := HK.out;simp[intOf];omega
     ·have s1:=zn xs i x k hlt hki
      have s2:=zn xs i (byteAt xs i) k hlt hki;have S1:=O s1;have S2:=O s2
      have hne:((k:Int) == i)=false:=by rw[U_];omega
      clear s1 s2 hki
      go_wp2_with (go_at_call 116;refine(xL _ _ _).mono ?_;rintro e _ ⟨rfl,rfl⟩)
      first |refine fR (by kernel_rfl) (by kernel_rfl) ?_|refine fG (by kernel_rfl) (by kernel_rfl) ?_
      repeat (go_big_quiet_step ((go_at_call 116;refine Calls.quiet_of_same (xL _ _ _))))
      refine h_ ?_;rintro _ ⟨nq,rfl⟩;go_wp2;go_roundw
      case rel=>exact⟨k+1,HK.out,by go_num,by rw[S1.out],by rw[S2.out],_,rfl⟩
      case measure=>have := HK.out;simp[intOf];omega
    ·have he:k=xs.length:=by omega
     have hp:=Rd xs i x;have hne:=Rc xs i HND.out hi;rw[←he] at hp hne;have hs:=Cq xs x i;have hz:w.heap.size≤wr.heap.size:=hb.size;have ho2:=ho.drew n;have hb2:=ak n hb;have hwl:=rm xs x i;have HP:=O hp;have HS:=O hs;have HW:=O hwl
     have hki:(xs.length:Int)≤k:=by omega
     clear hp hs hwl he
     go_wp2_with (first
      |(go_at_call 191;refine(VE _ _ hne _).mono ?_;rintro e _ ⟨rfl,rfl⟩;rw[HP.out])
      |(at_builtin;refine D7 rfl (.tmp 58) (.tmp 60) rfl w.heap.size _ _ rfl (cR.drew n (World.ownsRow.alloc ho _)) ⟨wr.heap.size,0,none⟩ 1 1 [wt xs x i] rfl rfl ?h1 ?h2 ?h3 ?h4))
     case h1 =>
      intro j u hj;exact mR _ _ _ _ _ hj
     case h2=>rw[HW.out];have := HI.out;omega
     case h3=>simp;omega
     case h4 =>
      intro v' w' ho' hb';go_wp2;go_roundw
      case rel=>exact⟨i+1,HI.out,by go_num,by rw[HS.out];exact ho',(ak n (hb.alloc hz _)).trans hb'⟩
      case measure=>have := HI.out;simp[intOf];omega
  ·have he:i=xs.length:=by omega
   have HE:=O he;clear he;go_wp2
   go_ret2
   exact⟨_,rfl,by rw[←HE.out];exact ho,hb⟩
end Fld
end
section
namespace Fld
open Go.RowKit F6
attribute [local irreducible] mul ev pp wt wts yZ interp
theorem interp_r (v u:Value) (xs ys:List UInt8) (x:UInt8) (w:World) (hv:RdB w v xs) (hu:RdB w u ys) (hok:okX xs=true) (hl:xs.length=ys.length) :
  Calls prog 148 #[v,u,.int .u8 (B8 x)] w fun e w'=>e = .returned (.tuple #[.int .u8 (B8 (interp xs ys x)),.int .i64 0])∧Below w.heap.size w w':=by
 obtain⟨hnd,hl1,hl2⟩:=nQ hok;have hwt:=fun w' hv=>yt v xs x w' hv hok;have HWT:=O hwt;have HV:=O hv;have HU:=O hu;clear hok hnd hwt;obtain⟨a,cap,rfl,_,_,_⟩:=hv;obtain⟨a2,cap2,rfl,_,_,hcells2⟩:=hu;obtain⟨b2,off2,rfl,hb2,hc2⟩:=hcells2 (by omega);have hwl:=rm xs x xs.length
 have hne:((xs.length:Int) == ys.length)=true:=by rw[beq_iff_eq];omega
 have HWL:=O hwl;have HL:=O hl;clear hcells2 hwl hl
 go_enter func148,ntmps148
 go_wp2_with (go_at_call 176;refine(HWT.out _ HV.out).mono ?_;rintro e w1 ⟨q,rfl,ho,hb⟩;obtain⟨qa,qcap,rfl,_,_,hq⟩:=ho.opened HWL.out)
 obtain⟨g,rfl,hg1,hg2,hqc⟩:=hq (by omega);have hbs:=hb.size;clear hq
 go_loopw [10,11] (fun o i wr=>∃k:Nat,k≤xs.length∧i = .int .i64 k∧o = .int .u8 (B8 (yZ xs ys x k))∧∃n,wr=w1.drewN n) (fun _ i _=>xs.length-(intOf i).toNat)
 case atStart=>exact⟨0,N_ _,rfl,by rw[xE];rfl,0,rfl⟩
 case round =>
  obtain⟨k,hk,rfl,rfl,n,rfl⟩:=hrel
  by_cases hlt:k<xs.length
  ·have c1:=hqc k hlt
   have c2:w1.cell? ⟨b2,off2+k,none⟩=some (.int .u8 (B8 (byteAt ys k))):=by rw[hb.cell (p:=⟨b2,off2+k,none⟩) hb2];exact hc2 k (by have := HL.out;omega)
   have i1:(k:Int)<xs.length:=by omega
   have i2:(k:Int)<ys.length:=by have := HL.out;omega
   have i3:k<ys.length:=by have := HL.out;omega
   have hs:=xD xs ys x k;have HS:=O hs;have HK:=O hlt;clear hs;go_wp2
   first |refine fR (by kernel_rfl) (by kernel_rfl) ?_|refine fG (by kernel_rfl) (by kernel_rfl) ?_
   repeat (go_big_quiet_step ((go_at_call 116;refine Calls.quiet_of_same (xL _ _ _))))
   refine h_ ?_;rintro _ ⟨nq,rfl⟩;go_wp2;go_roundw
   case rel=>exact⟨k+1,HK.out,by go_num,by rw[HS.out];try rw[ME xs x xs.length k HK.out],_,rfl⟩
   case measure=>have := HK.out;simp[intOf];omega
  ·have he:k=xs.length:=by omega
   have HE:=O he
   have i1:(xs.length:Int)≤k:=by omega
   clear he;go_wp2
   go_ret2
   exact⟨by rw[HE.out,Bm];rfl,ak _ hb⟩
end Fld
end
end Go.Proofs.YtmfiaadjdbemnaaGreatDoor
