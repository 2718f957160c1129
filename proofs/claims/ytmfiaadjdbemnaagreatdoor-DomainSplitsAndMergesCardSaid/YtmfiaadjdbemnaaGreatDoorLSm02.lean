/- Contracts and lemmas. No condition. -/
import Derived.Test.YtmfiaadjdbemnaaGreatDoorSB17
set_option maxRecDepth 100000
set_option maxHeartbeats 8000000
set_option linter.unusedSimpArgs false
set_option linter.unusedVariables false
namespace Go.Proofs.YtmfiaadjdbemnaaGreatDoor
open Go.Proofs.Tryz
section
open Go.RowKit
attribute [local irreducible] win Calls
theorem ov (k:K) (w:World):Calls prog 75 #[kv k] w fun e w'=>e = .returned (.bool (bf k))∧Below w.heap.size w w':=by
 unfold kv kc;have hb:=(O_ w.heap.size w).alloc (A_ _) (.cells #[.int .i64 k.id,.int .i64 k.ty,.string ⟨k.val.toArray⟩,.int .i64 k.uses,.int .i64 k.start,.int .i64 k.fin,.int .i64 k.ver,.int .i64 k.par,.bool k.raw] 86);have HB:=O hb;clear hb
 go_enter func75,ntmps75
 go_wp2_with (go_at_call 74;refine(Af _ _ _ _).mono ?_;rintro e _ ⟨rfl,rfl⟩)
 all_goals
  go_ret;refine⟨?_,HB.out⟩
  simp_all [bf,wu]
end
section
open Go.RowKit Go.Shelf
theorem G2 (nx:Int) (l:List K) (i:Nat):(oE nx l i=false∧bf (ae l i)=false)∨(oE nx l i=false∧bf (ae l i)=true∧(ae l i).id≤cv l i) ∨
  (oE nx l i=false∧bf (ae l i)=true∧¬(ae l i).id≤cv l i∧nx≤(ae l i).id) ∨
  (oE nx l i=false∧bf (ae l i)=true∧¬(ae l i).id≤cv l i∧¬nx≤(ae l i).id∧nx≤(ae l i).par) ∨
  (oE nx l i=true∧bf (ae l i)=true∧¬(ae l i).id≤cv l i∧¬nx≤(ae l i).id∧¬nx≤(ae l i).par):=by
 unfold oE
 by_cases h0:bf (ae l i)=true
 ·by_cases h1:(ae l i).id≤cv l i
  ·exact .inr (.inl ⟨by rw[V_ (by omega:¬cv l i<(ae l i).id)];simp,h0,h1⟩)
  ·by_cases h2:nx≤(ae l i).id
   ·exact .inr (.inr (.inl ⟨by rw[V_ (by omega:¬(ae l i).id<nx)];simp,h0,h1,h2⟩))
   ·by_cases h3:nx≤(ae l i).par
    ·exact .inr (.inr (.inr (.inl ⟨by rw[V_ (by omega:¬(ae l i).par<nx)];simp,h0,h1,h2,h3⟩)))
    ·exact .inr (.inr (.inr (.inr ⟨by rw[h0,decide_eq_true (by omega:cv l i<(ae l i).id),decide_eq_true (by omega:(ae l i).id<nx),decide_eq_true (by omega:(ae l i).par<nx)];rfl,h0,h1,h2,h3⟩)))
 ·have h0':bf (ae l i)=false:=by simpa using h0
  exact .inl ⟨by rw[h0'];rfl,h0'⟩
theorem ww (nx:Int) (l:List K) (i:Nat) (hi:i<l.length) (h:oE nx l i=false):aP nx l=false:=by
 have : (List.range l.length).all (oE nx l)=false:=by
  rw[List.all_eq_false];exact⟨i,List.mem_range.2 hi,by rw[h];decide⟩
 rw[aP,this];simp
theorem wJ (nx:Int) (l:List K) (h1:l.length≤4096) (h2:win nx 1 2147483647=true) (h:∀j,j<l.length→oE nx l j=true):aP nx l=true:=by
 have : (List.range l.length).all (oE nx l)=true:=List.all_eq_true.2 (fun i hi=>h i (List.mem_range.1 hi));rw[aP,this,h2,decide_eq_true h1];rfl
theorem zZ (nx:Int) (l:List K) (h1:¬l.length≤4096):aP nx l=false:=by rw[aP,V_ h1];rfl
theorem Aa (nx:Int) (l:List K) (h2:win nx 1 2147483647=false):aP nx l=false:=by rw[aP,h2];simp
attribute [local irreducible] Calls aP oE bf cv win
theorem Ab (nx : Int) (v : Value) (l : List K) (w : World) (hv : RdK w v l) :
  Calls prog 40 #[.agg #[.int .i64 nx,v]] w fun e w'=>e = .returned (.bool (aP nx l))∧Below w.heap.size w w':=by
 have hlen:=hv.len;unfold maxLen at hlen;obtain⟨W0,hW0⟩:∃W0,W0=w.alloc (.cells #[.int .i64 nx,v] 45):=⟨_,rfl⟩
 have hvw:RdK W0 v l:=by rw[hW0];exact hv.alloc _
 have hbx:∀w1,Below W0.heap.size W0 w1→w1.cell? ⟨w.heap.size,0,none⟩=some (.int .i64 nx)∧w1.cell? ⟨w.heap.size,1,none⟩=some v:=by
  intro w1 h;rw[hW0] at h;exact⟨gi _ _ _ h 0,gi _ _ _ h 1⟩
 have hbe:∀w1,Below W0.heap.size W0 w1→Below w.heap.size w w1:=by
  intro w1 h;rw[hW0] at h;exact cJ _ _ h
 have hsz:w.heap.size<W0.heap.size:=by rw[hW0];simp
 have HV:=O hvw;have HBX:=O hbx;have HBE:=O hbe;have HW:=O hW0;obtain⟨a,cap,rfl,_,_,_⟩:=hv;clear hW0 hvw hbx hbe
 by_cases hl1:l.length≤4096
 ·have j1 : ¬ (4096 : Int) < l.length := by omega
  cases hw2:win nx 1 2147483647 with
  | true =>
    have hwr:=fun w=>Af nx 1 2147483647 w;rw[hw2] at hwr;have HWR:=O hwr;have HT0:=O (fun i hi h=>ww nx l i hi h);have HT1:=O (wJ nx l hl1 hw2);clear hwr hw2
    go_enter func40,ntmps40
    go_wp2_with (go_at_call 74;refine(HWR.out _).mono ?_;rintro e wf ⟨rfl,hwf⟩;rw[hwf];clear hwf)
    go_loopw [3,4] (fun la o wr=>∃i:Nat,i≤l.length∧o = .int .i64 i∧la = .int .i64 (cv l i)∧Hid (∀j,j<i→oE nx l j=true)∧Below W0.heap.size W0 wr) (fun _ o _=>l.length-(intOf o).toNat)
    case atStart=>exact⟨0,N_ _,rfl,by rw[gR],O (fun j hj=>absurd hj (by omega)),by rw[←HW.out];exact O_ _ _⟩
    case round =>
     obtain⟨i,hi,rfl,rfl,hno,hb⟩:=hrel;obtain⟨t0,t1⟩:=HBX.out wr hb;have hbs:=hb.size
     have z0:w.heap.size<wr.heap.size:=by omega
     have z0':w.heap.size≠wr.heap.size:=by omega
     by_cases hlt:i<l.length
     ·obtain⟨bb,off,rfl,hbl,aO⟩:=((HV.out.on hb).cells) (by omega)
      obtain⟨d0,d1,d2,d3,d4,d5,d6,d7,d8⟩:=aO i hlt
      have i1:(i:Int)<l.length:=by omega
      have HK:=O hlt;have HNO:=hno;have HB:=O hb;have hval:=ov (ae l i) (wr.alloc (.cells (kc (ae l i)) 86))
      have hbx2:∀w1,Below (wr.alloc (.cells (kc (ae l i)) 86)).heap.size (wr.alloc (.cells (kc (ae l i)) 86)) w1 →
        w1.cell? ⟨wr.heap.size,0,none⟩=some (.int .i64 (ae l i).id)∧w1.cell? ⟨wr.heap.size,7,none⟩=some (.int .i64 (ae l i).par)∧w1.cell? ⟨w.heap.size,0,none⟩=some (.int .i64 nx)∧Below W0.heap.size W0 w1:=by
       intro w1 h;have h2:=HB.out.trans ((cJ _ _ h).mono hbs);exact⟨gi _ _ _ h 0,gi _ _ _ h 7,(HBX.out _ h2).1,h2⟩
      unfold kv at hval;unfold kc at hval hbx2;have HLS:=O (gQ l i);have HX2:=O hbx2;clear aO hb hno hbx2
      rcases G2 nx l i with⟨ho,h1⟩|⟨ho,h1,h2⟩|⟨ho,h1,h2,h3⟩|⟨ho,h1,h2,h3,h4⟩|⟨ho,h1,h2,h3,h4⟩
      case inr.inr.inr.inr =>
       rw[h1] at hval;have HVAL:=O hval;have HO:=O ho;clear hval h1 ho
       go_wp2_with (go_at_call 75;refine HVAL.out.mono ?_;rintro e w1 ⟨rfl,hb'⟩;obtain⟨e0,e7,n0,hbb⟩:=HX2.out _ hb';clear hb')
       go_roundw
       case rel=>exact⟨i+1,HK.out,by go_num,by rw[HLS.out],O (fun j hj=>by
        by_cases e:j=i
        ·subst e;exact HO.out
        ·exact HNO.out j (by omega)),hbb⟩
       case measure=>have := HK.out;simp[intOf];omega
      all_goals
       have HRES:=O (HT0.out i HK.out ho);rw[h1] at hval;have HVAL:=O hval;clear hval h1 ho
       go_wp2_with (go_at_call 75;refine HVAL.out.mono ?_;rintro e w1 ⟨rfl,hb'⟩;obtain⟨e0,e7,n0,hbb⟩:=HX2.out _ hb';clear hb')
       go_ret;exact⟨by rw[HRES.out];rfl,HBE.out _ hbb⟩
     ·have he:i=l.length:=by omega
      have i1:(l.length:Int)≤i:=by omega
      have HRES:=O (HT1.out (fun j hj=>hno.out j (by omega)));clear hno he;go_wp2;go_ret;exact⟨by rw[HRES.out];rfl,HBE.out _ hb⟩
  | false =>
    have hwr:=fun w=>Af nx 1 2147483647 w;rw[hw2] at hwr;have HWR:=O hwr;rw[Aa nx l hw2];clear hwr hw2
    go_enter func40,ntmps40
    go_wp2_with (go_at_call 74;refine(HWR.out _).mono ?_;rintro e wf ⟨rfl,hwf⟩;rw[hwf];clear hwf)
    go_ret;exact⟨rfl,HBE.out _ (by rw[←HW.out];exact O_ _ _)⟩
 ·have j1:(4096:Int)<l.length:=by omega
  rw[zZ nx l hl1]
  go_enter func40,ntmps40
  go_wp2;go_ret;exact⟨rfl,HBE.out _ (by rw[←HW.out];exact O_ _ _)⟩
end
section
open Go.RowKit Go.Shelf
theorem du (d:Nat) (xs ys:Array Value) (f:Field) (fs:List Field) (hn:f.name ≠ "_") (w:World) (a b:Value) (r:Bool) (h1:(part f.type xs f.offset).run prog w = .ok a w) (h2:(part f.type ys f.offset).run prog w = .ok b w)
  (h3:(Op.equalIn d f.type a b).run prog w = .ok r w):(Op.eqFields d xs ys (f::fs)).run prog w=if r=true then (Op.eqFields d xs ys fs).run prog w else .ok false w:=by
 simp only[Op.eqFields,hn,ne_eq,not_false_eq_true,if_true,Sem.run_bind,h1,h2,h3,Result.andThen_ok]
 cases r <;> rfl
open Go.RowKit Go.Shelf
theorem qi (x y:List UInt8):dEq x y=dEq y x:=by
 unfold dEq
 congr 1
 funext i
 exact Bool.beq_comm
attribute [local irreducible] am Calls aI dEq
end
section
open Go.RowKit Go.Shelf
theorem JP:(prog.fieldsOf 86).toList.map (fun f=>(f.name == "_",f.type,f.offset))=[(false,3,0),(false,3,1),(false,9,2),(false,3,3),(false,3,4),(false,3,5),(false,3,6),(false,3,7),(false,4,8)]:=by kernel_rfl
theorem pT (w:World):(isAgg 3).run prog w = .ok false w:=by simp[isAgg,run_underlying underlying3]
theorem U3 (w:World):(isAgg 9).run prog w = .ok false w:=by simp[isAgg,run_underlying underlying9]
theorem U2 (w:World):(isAgg 4).run prog w = .ok false w:=by simp[isAgg,run_underlying underlying4]
def kEq (a b:K):Bool:=(a.id == b.id) && ((a.ty == b.ty) && ((a.val == b.val) && ((a.uses == b.uses) && ((a.start == b.start) && ((a.fin == b.fin) && ((a.ver == b.ver) && ((a.par == b.par) && ((a.raw == b.raw)))))))))
theorem Ke (a b:K):kEq a b=decide (a=b):=by
 rw[Bool.eq_iff_iff];obtain⟨⟩:=a;obtain⟨⟩:=b
 simp[kEq]
theorem Fa (a b:K) (w:World):(binOp .neq 86 (.agg (kc a)) (.agg (kc b))).run prog w = .ok (.bool (!kEq a b)) w:=by
 rw[run_neq_struct]
 have ht:prog.underlying 86=some (.struct (prog.fieldsOf 86)):=by kernel_rfl
 have hp:prog.stoodInHeld 86=false:=by kernel_rfl
 rw[show (10000:Nat)=9999+1 from rfl,run_equalIn_struct w 9999 _ _ _ ht hp];have hf:=JP;generalize (prog.fieldsOf 86).toList=fs at hf
 rcases fs with _|⟨f0,_|⟨f1,_|⟨f2,_|⟨f3,_|⟨f4,_|⟨f5,_|⟨f6,_|⟨f7,_|⟨f8,_|⟨f9,fs⟩⟩⟩⟩⟩⟩⟩⟩⟩⟩
 case cons.cons.cons.cons.cons.cons.cons.cons.cons.nil =>
  simp only[List.map_cons,List.map_nil,List.cons.injEq,Prod.mk.injEq,and_true] at hf;obtain⟨⟨n0,t0,o0⟩,⟨n1,t1,o1⟩,⟨n2,t2,o2⟩,⟨n3,t3,o3⟩,⟨n4,t4,o4⟩,⟨n5,t5,o5⟩,⟨n6,t6,o6⟩,⟨n7,t7,o7⟩,⟨n8,t8,o8⟩⟩:=hf
  have m0:f0.name ≠ "_" := by simpa using n0
  have m1:f1.name ≠ "_" := by simpa using n1
  have m2:f2.name ≠ "_" := by simpa using n2
  have m3:f3.name ≠ "_" := by simpa using n3
  have m4:f4.name ≠ "_" := by simpa using n4
  have m5:f5.name ≠ "_" := by simpa using n5
  have m6:f6.name ≠ "_" := by simpa using n6
  have m7:f7.name ≠ "_" := by simpa using n7
  have m8:f8.name ≠ "_" := by simpa using n8
  have e0:(Op.equalIn 9999 3 (.int .i64 a.id) (.int .i64 b.id)).run prog w = .ok (a.id == b.id) w:=run_equalIn_int w 9998 _ _ _ _ _ underlying3;have e1:(Op.equalIn 9999 3 (.int .i64 a.ty) (.int .i64 b.ty)).run prog w = .ok (a.ty == b.ty) w:=run_equalIn_int w 9998 _ _ _ _ _ underlying3
  have e2:(Op.equalIn 9999 9 (.string ⟨a.val.toArray⟩) (.string ⟨b.val.toArray⟩)).run prog w = .ok (a.val == b.val) w:=by rw[run_equalIn_string w 9998 _ _ _ underlying9,qY]
  have e3:(Op.equalIn 9999 3 (.int .i64 a.uses) (.int .i64 b.uses)).run prog w = .ok (a.uses == b.uses) w:=run_equalIn_int w 9998 _ _ _ _ _ underlying3;have e4:(Op.equalIn 9999 3 (.int .i64 a.start) (.int .i64 b.start)).run prog w = .ok (a.start == b.start) w:=run_equalIn_int w 9998 _ _ _ _ _ underlying3;have e5:(Op.equalIn 9999 3 (.int .i64 a.fin) (.int .i64 b.fin)).run prog w = .ok (a.fin == b.fin) w:=run_equalIn_int w 9998 _ _ _ _ _ underlying3;have e6:(Op.equalIn 9999 3 (.int .i64 a.ver) (.int .i64 b.ver)).run prog w = .ok (a.ver == b.ver) w:=run_equalIn_int w 9998 _ _ _ _ _ underlying3;have e7:(Op.equalIn 9999 3 (.int .i64 a.par) (.int .i64 b.par)).run prog w = .ok (a.par == b.par) w:=run_equalIn_int w 9998 _ _ _ _ _ underlying3;have e8:(Op.equalIn 9999 4 (.bool a.raw) (.bool b.raw)).run prog w = .ok (a.raw == b.raw) w:=run_equalIn_bool w 9998 _ _ _ underlying4
  rw[du 9999 _ _ f0 _ m0 w (.int .i64 a.id) (.int .i64 b.id) (a.id == b.id) (by rw[t0,o0];simp[part,pT,kc]) (by rw[t0,o0];simp[part,pT,kc]) (by rw[t0];exact e0),
   du 9999 _ _ f1 _ m1 w (.int .i64 a.ty) (.int .i64 b.ty) (a.ty == b.ty) (by rw[t1,o1];simp[part,pT,kc]) (by rw[t1,o1];simp[part,pT,kc]) (by rw[t1];exact e1),
   du 9999 _ _ f2 _ m2 w (.string ⟨a.val.toArray⟩) (.string ⟨b.val.toArray⟩) (a.val == b.val) (by rw[t2,o2];simp[part,U3,kc]) (by rw[t2,o2];simp[part,U3,kc]) (by rw[t2];exact e2),
   du 9999 _ _ f3 _ m3 w (.int .i64 a.uses) (.int .i64 b.uses) (a.uses == b.uses) (by rw[t3,o3];simp[part,pT,kc]) (by rw[t3,o3];simp[part,pT,kc]) (by rw[t3];exact e3),
   du 9999 _ _ f4 _ m4 w (.int .i64 a.start) (.int .i64 b.start) (a.start == b.start) (by rw[t4,o4];simp[part,pT,kc]) (by rw[t4,o4];simp[part,pT,kc]) (by rw[t4];exact e4),
   du 9999 _ _ f5 _ m5 w (.int .i64 a.fin) (.int .i64 b.fin) (a.fin == b.fin) (by rw[t5,o5];simp[part,pT,kc]) (by rw[t5,o5];simp[part,pT,kc]) (by rw[t5];exact e5),
   du 9999 _ _ f6 _ m6 w (.int .i64 a.ver) (.int .i64 b.ver) (a.ver == b.ver) (by rw[t6,o6];simp[part,pT,kc]) (by rw[t6,o6];simp[part,pT,kc]) (by rw[t6];exact e6),
   du 9999 _ _ f7 _ m7 w (.int .i64 a.par) (.int .i64 b.par) (a.par == b.par) (by rw[t7,o7];simp[part,pT,kc]) (by rw[t7,o7];simp[part,pT,kc]) (by rw[t7];exact e7),
   du 9999 _ _ f8 _ m8 w (.bool a.raw) (.bool b.raw) (a.raw == b.raw) (by rw[t8,o8];simp[part,U2,kc]) (by rw[t8,o8];simp[part,U2,kc]) (by rw[t8];exact e8)]
  unfold kEq
  cases (a.id == b.id)
  ·rfl
  cases (a.ty == b.ty)
  ·rfl
  cases (a.val == b.val)
  ·rfl
  cases (a.uses == b.uses)
  ·rfl
  cases (a.start == b.start)
  ·rfl
  cases (a.fin == b.fin)
  ·rfl
  cases (a.ver == b.ver)
  ·rfl
  cases (a.par == b.par)
  ·rfl
  cases (a.raw == b.raw)
  ·rfl
  rfl
 all_goals simp at hf
open Go.RowKit Go.Shelf
theorem QF {l m:List K} (h:l.length=m.length) (h2:∀j,j<l.length→ae l j=ae m j):l=m:=by
 refine List.ext_getElem h (fun i h3 h4 => ?_);have := h2 i h3
 rwa [az l i h3,az m i h4] at this
attribute [local irreducible] Calls kEq
theorem Rh (n1 n2:Int) (v u:Value) (l m:List K) (w:World) (hv:RdK w v l) (hu:RdK w u m) :
  Calls prog 26 #[.agg #[.int .i64 n1,v],.agg #[.int .i64 n2,u]] w fun e w'=>e = .returned (.bool (decide (n1=n2∧l=m)))∧Below w.heap.size w w':=by
 have hlen:=hv.len;unfold maxLen at hlen;have hbe:∀(A B:Obj) (n:Nat),Below w.heap.size w (((w.alloc A).alloc B).drewN n):=fun A B n=>ak n (((O_ _ _).alloc (A_ _) A).alloc (by simp) B);have HBE:=O hbe;have HV:=O ((hv.alloc (.cells #[.int .i64 n1,v] 45)).alloc (.cells #[.int .i64 n2,u] 45));have HU:=O ((hu.alloc (.cells #[.int .i64 n1,v] 45)).alloc (.cells #[.int .i64 n2,u] 45));obtain⟨a,cap,rfl,_,_,_⟩:=hv;obtain⟨a2,cap2,rfl,_,_,_⟩:=hu;clear hbe
 by_cases hn:n1=n2
 ·have hnn : (n1 == n2) = true := by rw[hn]; simp
  have hnn2:(n1 != n2)=false:=by rw[bne,hnn];rfl
  have HN:=O hn
  by_cases hl:l.length=m.length
  ·have hne:((l.length:Int) == m.length)=true:=by rw[beq_iff_eq];omega
   have hne2:((l.length:Int) != m.length)=false:=by rw[bne,hne];rfl
   have HL:=O hl;clear hl hn
   go_enter func26,ntmps26
   go_wp2
   go_loopw [5] (fun o wr=>∃i:Nat,i≤l.length∧o = .int .i64 i∧Hid (∀j,j<i→ae l j=ae m j)∧∃n,wr=((w.alloc (.cells #[.int .i64 n1,.slice a l.length cap] 45)).alloc (.cells #[.int .i64 n2,.slice a2 m.length cap2] 45)).drewN n) (fun o _=>l.length-(intOf o).toNat)
   case atStart=>exact⟨0,N_ _,rfl,O (fun j hj=>absurd hj (by omega)),0,rfl⟩
   case round =>
    obtain⟨i,hi,rfl,hno,n,rfl⟩:=hrel
    by_cases hlt:i<l.length
    ·obtain⟨b,off,rfl,hb1,aO⟩:=(HV.out.cells) (by omega)
     obtain⟨b2,off2,rfl,hb2,hrow2⟩:=(HU.out.cells) (by have := HL.out;omega);have hneq:=fun w'=>Fa (ae l i) (ae m i) w';rw[Ke] at hneq;unfold kc at hneq;obtain⟨d0,d1,d2,d3,d4,d5,d6,d7,d8⟩:=aO i hlt;obtain⟨x0,x1,x2,x3,x4,x5,x6,x7,x8⟩:=hrow2 i (by have := HL.out;omega)
     have i1:(i:Int)<l.length:=by omega
     have i2:(i:Int)<m.length:=by have := HL.out;omega
     have i3:i<m.length:=by have := HL.out;omega
     have HK:=O hlt;have HNO:=hno;clear aO hrow2 hno
     by_cases hq:ae l i=ae m i
     ·rw[decide_eq_true hq] at hneq
      have HQ:=O hq;clear hq;go_wp2
      first |refine fR (by kernel_rfl) (by kernel_rfl) ?_|refine fG (by kernel_rfl) (by kernel_rfl) ?_
      repeat (go_big_quiet_step (fail))
      refine h_ ?_;rintro _ ⟨nq,rfl⟩;go_wp2;go_roundw
      case rel=>exact⟨i+1,HK.out,by go_num,O (fun j hj=>by
       by_cases e:j=i
       ·subst e;exact HQ.out
       ·exact HNO.out j (by omega)),_,rfl⟩
      case measure=>have := HK.out;simp[intOf];omega
     ·rw[V_ hq] at hneq
      have hres:decide (n1=n2∧l=m)=false:=V_ (fun e=>hq (by rw[e.2]));have HRES:=O hres;clear hq hres;go_wp2
      first |refine fR (by kernel_rfl) (by kernel_rfl) ?_|refine fG (by kernel_rfl) (by kernel_rfl) ?_
      repeat (go_big_quiet_step (fail))
      refine h_ ?_;rintro _ ⟨nq,rfl⟩;go_wp2;go_ret;exact⟨by rw[HRES.out];rfl,HBE.out _ _ _⟩
    ·have i1:(l.length:Int)≤i:=by omega
     have hres:decide (n1=n2∧l=m)=true:=decide_eq_true ⟨HN.out,QF HL.out (fun j hj=>hno.out j (by omega))⟩;have HRES:=O hres;clear hres hno;go_wp2;go_ret;exact⟨by rw[HRES.out];rfl,HBE.out _ _ _⟩
  ·have hne:((l.length:Int) == m.length)=false:=by rw[U_];omega
   have hne2:((l.length:Int) != m.length)=true:=by rw[bne,hne];rfl
   rw[V_ (fun e=>hl (by rw[e.2]))];clear hl hn
   go_enter func26,ntmps26
   go_wp2;go_ret;exact⟨rfl,HBE.out _ _ 0⟩
 ·have hnn:(n1 == n2)=false:=by rw[U_];exact hn
  have hnn2:(n1 != n2)=true:=by rw[bne,hnn];rfl
  rw[V_ (fun e=>hn e.1)];clear hn
  go_enter func26,ntmps26
  go_wp2;go_ret;exact⟨rfl,HBE.out _ _ 0⟩
end
section
open Go.RowKit Go.Shelf
theorem dC (l m:List K) (i:Nat) (h:i<l.length):ae (l++m) i=ae l i:=by
 rw[az _ _ (by rw[E_];omega),az _ _ h,List.getElem_append_left]
theorem pq (l m:List K) (i:Nat) (h:i<m.length):ae (l++m) (l.length+i)=ae m i:=by
 rw[az _ _ (by rw[E_];omega),az _ _ h,List.getElem_append_right (by omega)]
 simp
theorem pu (l:List K) (x:K):ae (l++[x]) l.length=x:=by
 have := pq l [x] 0 (by simp);rw[Nat.add_zero] at this;rw[this];rfl
end
end Go.Proofs.YtmfiaadjdbemnaaGreatDoor
