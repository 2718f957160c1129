/- Contracts and lemmas. No condition. -/
import Derived.Test.YtmfiaadjdbemnaaGreatDoorLSp05
set_option maxRecDepth 100000
set_option maxHeartbeats 8000000
set_option linter.unusedSimpArgs false
set_option linter.unusedVariables false
namespace Go.Proofs.YtmfiaadjdbemnaaGreatDoor
open Go.Proofs.Tryz
section
variable {ops:Array Oper} {rest:List Oper} {o:Oper} {a:Act} {w:World} {Q:Exit→Act→World→Prop}
section
open Go.RowKit Go.Shelf
theorem G2 (nx:Int) (l:List K) (i:Nat):(oE nx l i=false∧bf (ae l i)=false)∨(oE nx l i=false∧bf (ae l i)=true∧(ae l i).id≤cv l i) ∨
  (oE nx l i=false∧bf (ae l i)=true∧¬(ae l i).id≤cv l i∧nx≤(ae l i).id) ∨
  (oE nx l i=false∧bf (ae l i)=true∧¬(ae l i).id≤cv l i∧¬nx≤(ae l i).id∧nx≤(ae l i).par) ∨
  (oE nx l i=true∧bf (ae l i)=true∧¬(ae l i).id≤cv l i∧¬nx≤(ae l i).id∧¬nx≤(ae l i).par):=by
 unfold oE
 by_cases h0:bf (ae l i)=true
 ·by_cases h1:(ae l i).id≤cv l i
  ·exact .inr (.inl ⟨by rw[V_ (by omega:¬cv l i<(ae l i).id)];simp,h0,h1⟩)
  ·by_cases h2:nx≤(ae l i).id
   ·exact .inr (.inr (.inl ⟨by rw[V_ (by omega:¬(ae l i).id<nx)];simp,h0,h1,h2⟩))
   ·by_cases h3:nx≤(ae l i).par
    ·exact .inr (.inr (.inr (.inl ⟨by rw[V_ (by omega:¬(ae l i).par<nx)];simp,h0,h1,h2,h3⟩)))
    ·exact .inr (.inr (.inr (.inr ⟨by rw[h0,decide_eq_true (by omega:cv l i<(ae l i).id),decide_eq_true (by omega:(ae l i).id<nx),decide_eq_true (by omega:(ae l i).par<nx)];rfl,h0,h1,h2,h3⟩)))
 ·have h0':bf (ae l i)=false:=by simpa using h0
  exact .inl ⟨by rw[h0'];rfl,h0'⟩
theorem ww (nx:Int) (l:List K) (i:Nat) (hi:i<l.length) (h:oE nx l i=false):aP nx l=false:=by
 have : (List.range l.length).all (oE nx l)=false:=by
  rw[List.all_eq_false];exact⟨i,List.mem_range.2 hi,by rw[h];decide⟩
 rw[aP,this];simp
theorem wJ (nx:Int) (l:List K) (h1:l.length≤4096) (h2:win nx 1 2147483647=true) (h:∀j,j<l.length→oE nx l j=true):aP nx l=true:=by
 have : (List.range l.length).all (oE nx l)=true:=List.all_eq_true.2 (fun i hi=>h i (List.mem_range.1 hi));rw[aP,this,h2,decide_eq_true h1];rfl
theorem zZ (nx:Int) (l:List K) (h1:¬l.length≤4096):aP nx l=false:=by rw[aP,V_ h1];rfl
theorem Aa (nx:Int) (l:List K) (h2:win nx 1 2147483647=false):aP nx l=false:=by rw[aP,h2];simp
attribute [local irreducible] Calls aP oE bf cv win
theorem Ab (nx : Int) (v : Value) (l : List K) (w : World) (hv : RdK w v l) :
  Calls prog 40 #[.agg #[.int .i64 nx,v]] w fun e w'=>e = .returned (.bool (aP nx l))∧Below w.heap.size w w':=by
 have hlen:=hv.len;unfold maxLen at hlen;obtain⟨W0,hW0⟩:∃W0,W0=w.alloc (.cells #[.int .i64 nx,v] 45):=⟨_,rfl⟩
 have hvw:RdK W0 v l:=by rw[hW0];exact hv.alloc _
 have hbx:∀w1,Below W0.heap.size W0 w1→w1.cell? ⟨w.heap.size,0,none⟩=some (.int .i64 nx)∧w1.cell? ⟨w.heap.size,1,none⟩=some v:=by
  intro w1 h;rw[hW0] at h;exact⟨gi _ _ _ h 0,gi _ _ _ h 1⟩
 have hbe:∀w1,Below W0.heap.size W0 w1→Below w.heap.size w w1:=by
  intro w1 h;rw[hW0] at h;exact cJ _ _ h
 have hsz:w.heap.size<W0.heap.size:=by rw[hW0];simp
 have HV:=O hvw;have HBX:=O hbx;have HBE:=O hbe;have HW:=O hW0;obtain⟨a,cap,rfl,_,_,_⟩:=hv;clear hW0 hvw hbx hbe
 by_cases hl1:l.length≤4096
 ·have j1 : ¬ (4096 : Int) < l.length := by omega
  cases hw2:win nx 1 2147483647 with
  | true =>
    have hwr:=fun w=>Af nx 1 2147483647 w;rw[hw2] at hwr;have HWR:=O hwr;have HT0:=O (fun i hi h=>ww nx l i hi h);have HT1:=O (wJ nx l hl1 hw2);clear hwr hw2
    go_enter func40,ntmps40
    go_wp2_with (go_at_call 74;refine(HWR.out _).mono ?_;rintro e wf ⟨rfl,hwf⟩;rw[hwf];clear hwf)
    go_loopw [3,4] (fun la o wr=>∃i:Nat,i≤l.length∧o = .int .i64 i∧la = .int .i64 (cv l i)∧Hid (∀j,j<i→oE nx l j=true)∧Below W0.heap.size W0 wr) (fun _ o _=>l.length-(intOf o).toNat)
    case atStart=>exact⟨0,N_ _,rfl,by rw[gR],O (fun j hj=>absurd hj (by omega)),by rw[←HW.out];exact O_ _ _⟩
    case round =>
     obtain⟨i,hi,rfl,rfl,hno,hb⟩:=hrel;obtain⟨t0,t1⟩:=HBX.out wr hb;have hbs:=hb.size
     have z0:w.heap.size<wr.heap.size:=by omega
     have z0':w.heap.size≠wr.heap.size:=by omega
     by_cases hlt:i<l.length
     ·obtain⟨bb,off,rfl,hbl,aO⟩:=((HV.out.on hb).cells) (by omega)
      obtain⟨d0,d1,d2,d3,d4,d5,d6,d7,d8⟩:=aO i hlt
      have i1:(i:Int)<l.length:=by omega
      have HK:=O hlt;have HNO:=hno;have HB:=O hb;have hval:=ov (ae l i) (wr.alloc (.cells (kc (ae l i)) 86))
      have hbx2:∀w1,Below (wr.alloc (.cells (kc (ae l i)) 86)).heap.size (wr.alloc (.cells (kc (ae l i)) 86)) w1 →
        w1.cell? ⟨wr.heap.size,0,none⟩=some (.int .i64 (ae l i).id)∧w1.cell? ⟨wr.heap.size,7,none⟩=some (.int .i64 (ae l i).par)∧w1.cell? ⟨w.heap.size,0,none⟩=some (.int .i64 nx)∧Below W0.heap.size W0 w1:=by
       intro w1 h;have h2:=HB.out.trans ((cJ _ _ h).mono hbs);exact⟨gi _ _ _ h 0,gi _ _ _ h 7,(HBX.out _ h2).1,h2⟩
      unfold kv at hval;unfold kc at hval hbx2;have HLS:=O (gQ l i);have HX2:=O hbx2;clear aO hb hno hbx2
      rcases G2 nx l i with⟨ho,h1⟩|⟨ho,h1,h2⟩|⟨ho,h1,h2,h3⟩|⟨ho,h1,h2,h3,h4⟩|⟨ho,h1,h2,h3,h4⟩
      case inr.inr.inr.inr =>
       rw[h1] at hval;have HVAL:=O hval;have HO:=O ho;clear hval h1 ho
       go_wp2_with (go_at_call 75;refine HVAL.out.mono ?_;rintro e w1 ⟨rfl,hb'⟩;obtain⟨e0,e7,n0,hbb⟩:=HX2.out _ hb';clear hb')
       go_roundw
       case rel=>exact⟨i+1,HK.out,by go_num,by rw[HLS.out],O (fun j hj=>by
        by_cases e:j=i
        ·subst e;exact HO.out
        ·exact HNO.out j (by omega)),hbb⟩
       case measure=>have := HK.out;simp[intOf];omega
      all_goals
       have HRES:=O (HT0.out i HK.out ho);rw[h1] at hval;have HVAL:=O hval;clear hval h1 ho
       go_wp2_with (go_at_call 75;refine HVAL.out.mono ?_;rintro e w1 ⟨rfl,hb'⟩;obtain⟨e0,e7,n0,hbb⟩:=HX2.out _ hb';clear hb')
       go_ret;exact⟨by rw[HRES.out];rfl,HBE.out _ hbb⟩
     ·have he:i=l.length:=by omega
      have i1:(l.length:Int)≤i:=by omega
      have HRES:=O (HT1.out (fun j hj=>hno.out j (by omega)));clear hno he;go_wp2;go_ret;exact⟨by rw[HRES.out];rfl,HBE.out _ hb⟩
  | false =>
    have hwr:=fun w=>Af nx 1 2147483647 w;rw[hw2] at hwr;have HWR:=O hwr;rw[Aa nx l hw2];clear hwr hw2
    go_enter func40,ntmps40
    go_wp2_with (go_at_call 74;refine(HWR.out _).mono ?_;rintro e wf ⟨rfl,hwf⟩;rw[hwf];clear hwf)
    go_ret;exact⟨rfl,HBE.out _ (by rw[←HW.out];exact O_ _ _)⟩
 ·have j1:(4096:Int)<l.length:=by omega
  rw[zZ nx l hl1]
  go_enter func40,ntmps40
  go_wp2;go_ret;exact⟨rfl,HBE.out _ (by rw[←HW.out];exact O_ _ _)⟩
end
section
open Go.RowKit Go.Shelf
theorem JP:(prog.fieldsOf 86).toList.map (fun f=>(f.name == "_",f.type,f.offset))=[(false,3,0),(false,3,1),(false,9,2),(false,3,3),(false,3,4),(false,3,5),(false,3,6),(false,3,7),(false,4,8)]:=by kernel_rfl
theorem pT (w:World):(isAgg 3).run prog w = .ok false w:=by simp[isAgg,run_underlying underlying3]
theorem U3 (w:World):(isAgg 9).run prog w = .ok false w:=by simp[isAgg,run_underlying underlying9]
theorem U2 (w:World):(isAgg 4).run prog w = .ok false w:=by simp[isAgg,run_underlying underlying4]
def kEq (a b:K):Bool:=(a.id == b.id) && ((a.ty == b.ty) && ((a.val == b.val) && ((a.uses == b.uses) && ((a.start == b.start) && ((a.fin == b.fin) && ((a.ver == b.ver) && ((a.par == b.par) && ((a.raw == b.raw)))))))))
theorem Ke (a b:K):kEq a b=decide (a=b):=by
 rw[Bool.eq_iff_iff];obtain⟨⟩:=a;obtain⟨⟩:=b
 simp[kEq]
theorem Fa (a b:K) (w:World):(binOp .neq 86 (.agg (kc a)) (.agg (kc b))).run prog w = .ok (.bool (!kEq a b)) w:=by
 rw[run_neq_struct]
 have ht:prog.underlying 86=some (.struct (prog.fieldsOf 86)):=by kernel_rfl
 have hp:prog.stoodInHeld 86=false:=by kernel_rfl
 rw[show (10000:Nat)=9999+1 from rfl,run_equalIn_struct w 9999 _ _ _ ht hp];have hf:=JP;generalize (prog.fieldsOf 86).toList=fs at hf
 rcases fs with _|⟨f0,_|⟨f1,_|⟨f2,_|⟨f3,_|⟨f4,_|⟨f5,_|⟨f6,_|⟨f7,_|⟨f8,_|⟨f9,fs⟩⟩⟩⟩⟩⟩⟩⟩⟩⟩
 case cons.cons.cons.cons.cons.cons.cons.cons.cons.nil =>
  simp only[List.map_cons,List.map_nil,List.cons.injEq,Prod.mk.injEq,and_true] at hf;obtain⟨⟨n0,t0,o0⟩,⟨n1,t1,o1⟩,⟨n2,t2,o2⟩,⟨n3,t3,o3⟩,⟨n4,t4,o4⟩,⟨n5,t5,o5⟩,⟨n6,t6,o6⟩,⟨n7,t7,o7⟩,⟨n8,t8,o8⟩⟩:=hf
  have m0:f0.name ≠ "_" := by simpa using n0
  have m1:f1.name ≠ "_" := by simpa using n1
  have m2:f2.name ≠ "_" := by simpa using n2
  have m3:f3.name ≠ "_" := by simpa using n3
  have m4:f4.name ≠ "_" := by simpa using n4
  have m5:f5.name ≠ "_" := by simpa using n5
  have m6:f6.name ≠ "_" := by simpa using n6
  have m7:f7.name ≠ "_" := by simpa using n7
  have m8:f8.name ≠ "_" := by simpa using n8
  have e0:(Op.equalIn 9999 3 (.int .i64 a.id) (.int .i64 b.id)).run prog w = .ok (a.id == b.id) w:=run_equalIn_int w 9998 _ _ _ _ _ underlying3;have e1:(Op.equalIn 9999 3 (.int .i64 a.ty) (.int .i64 b.ty)).run prog w = .ok (a.ty == b.ty) w:=run_equalIn_int w 9998 _ _ _ _ _ underlying3
  have e2:(Op.equalIn 9999 9 (.string ⟨a.val.toArray⟩) (.string ⟨b.val.toArray⟩)).run prog w = .ok (a.val == b.val) w:=by rw[run_equalIn_string w 9998 _ _ _ underlying9,qY]
  have e3:(Op.equalIn 9999 3 (.int .i64 a.uses) (.int .i64 b.uses)).run prog w = .ok (a.uses == b.uses) w:=run_equalIn_int w 9998 _ _ _ _ _ underlying3;have e4:(Op.equalIn 9999 3 (.int .i64 a.start) (.int .i64 b.start)).run prog w = .ok (a.start == b.start) w:=run_equalIn_int w 9998 _ _ _ _ _ underlying3;have e5:(Op.equalIn 9999 3 (.int .i64 a.fin) (.int .i64 b.fin)).run prog w = .ok (a.fin == b.fin) w:=run_equalIn_int w 9998 _ _ _ _ _ underlying3;have e6:(Op.equalIn 9999 3 (.int .i64 a.ver) (.int .i64 b.ver)).run prog w = .ok (a.ver == b.ver) w:=run_equalIn_int w 9998 _ _ _ _ _ underlying3;have e7:(Op.equalIn 9999 3 (.int .i64 a.par) (.int .i64 b.par)).run prog w = .ok (a.par == b.par) w:=run_equalIn_int w 9998 _ _ _ _ _ underlying3;have e8:(Op.equalIn 9999 4 (.bool a.raw) (.bool b.raw)).run prog w = .ok (a.raw == b.raw) w:=run_equalIn_bool w 9998 _ _ _ underlying4
  rw[du 9999 _ _ f0 _ m0 w (.int .i64 a.id) (.int .i64 b.id) (a.id == b.id) (by rw[t0,o0];simp[part,pT,kc]) (by rw[t0,o0];simp[part,pT,kc]) (by rw[t0];exact e0),
   du 9999 _ _ f1 _ m1 w (.int .i64 a.ty) (.int .i64 b.ty) (a.ty == b.ty) (by rw[t1,o1];simp[part,pT,kc]) (by rw[t1,o1];simp[part,pT,kc]) (by rw[t1];exact e1),
   du 9999 _ _ f2 _ m2 w (.string ⟨a.val.toArray⟩) (.string ⟨b.val.toArray⟩) (a.val == b.val) (by rw[t2,o2];simp[part,U3,kc]) (by rw[t2,o2];simp[part,U3,kc]) (by rw[t2];exact e2),
   du 9999 _ _ f3 _ m3 w (.int .i64 a.uses) (.int .i64 b.uses) (a.uses == b.uses) (by rw[t3,o3];simp[part,pT,kc]) (by rw[t3,o3];simp[part,pT,kc]) (by rw[t3];exact e3),
   du 9999 _ _ f4 _ m4 w (.int .i64 a.start) (.int .i64 b.start) (a.start == b.start) (by rw[t4,o4];simp[part,pT,kc]) (by rw[t4,o4];simp[part,pT,kc]) (by rw[t4];exact e4),
   du 9999 _ _ f5 _ m5 w (.int .i64 a.fin) (.int .i64 b.fin) (a.fin == b.fin) (by rw[t5,o5];simp[part,pT,kc]) (by rw[t5,o5];simp[part,pT,kc]) (by rw[t5];exact e5),
   du 9999 _ _ f6 _ m6 w (.int .i64 a.ver) (.int .i64 b.ver) (a.ver == b.ver) (by rw[t6,o6];simp[part,pT,kc]) (by rw[t6,o6];simp[part,pT,kc]) (by rw[t6];exact e6),
   du 9999 _ _ f7 _ m7 w (.int .i64 a.par) (.int .i64 b.par) (a.par == b.par) (by rw[t7,o7];simp[part,pT,kc]) (by rw[t7,o7];simp[part,pT,kc]) (by rw[t7];exact e7),
   du 9999 _ _ f8 _ m8 w (.bool a.raw) (.bool b.raw) (a.raw == b.raw) (by rw[t8,o8];simp[part,U2,kc]) (by rw[t8,o8];simp[part,U2,kc]) (by rw[t8];exact e8)]
  unfold kEq
  cases (a.id == b.id)
  ·rfl
  cases (a.ty == b.ty)
  ·rfl
  cases (a.val == b.val)
  ·rfl
  cases (a.uses == b.uses)
  ·rfl
  cases (a.start == b.start)
  ·rfl
  cases (a.fin == b.fin)
  ·rfl
  cases (a.ver == b.ver)
  ·rfl
  cases (a.par == b.par)
  ·rfl
  cases (a.raw == b.raw)
  ·rfl
  rfl
 all_goals simp at hf
open Go.RowKit Go.Shelf
theorem QF {l m:List K} (h:l.length=m.length) (h2:∀j,j<l.length→ae l j=ae m j):l=m:=by
 refine List.ext_getElem h (fun i h3 h4 => ?_);have := h2 i h3
 rwa [az l i h3,az m i h4] at this
attribute [local irreducible] Calls kEq
theorem Rh (n1 n2:Int) (v u:Value) (l m:List K) (w:World) (hv:RdK w v l) (hu:RdK w u m) :
  Calls prog 26 #[.agg #[.int .i64 n1,v],.agg #[.int .i64 n2,u]] w fun e w'=>e = .returned (.bool (decide (n1=n2∧l=m)))∧Below w.heap.size w w':=by
 have hlen:=hv.len;unfold maxLen at hlen;have hbe:∀(A B:Obj) (n:Nat),Below w.heap.size w (((w.alloc A).alloc B).drewN n):=fun A B n=>ak n (((O_ _ _).alloc (A_ _) A).alloc (by simp) B);have HBE:=O hbe;have HV:=O ((hv.alloc (.cells #[.int .i64 n1,v] 45)).alloc (.cells #[.int .i64 n2,u] 45));have HU:=O ((hu.alloc (.cells #[.int .i64 n1,v] 45)).alloc (.cells #[.int .i64 n2,u] 45));obtain⟨a,cap,rfl,_,_,_⟩:=hv;obtain⟨a2,cap2,rfl,_,_,_⟩:=hu;clear hbe
 by_cases hn:n1=n2
 ·have hnn : (n1 == n2) = true := by rw[hn]; simp
  have hnn2:(n1 != n2)=false:=by rw[bne,hnn];rfl
  have HN:=O hn
  by_cases hl:l.length=m.length
  ·have hne:((l.length:Int) == m.length)=true:=by rw[beq_iff_eq];omega
   have hne2:((l.length:Int) != m.length)=false:=by rw[bne,hne];rfl
   have HL:=O hl;clear hl hn
   go_enter func26,ntmps26
   go_wp2
   go_loopw [5] (fun o wr=>∃i:Nat,i≤l.length∧o = .int .i64 i∧Hid (∀j,j<i→ae l j=ae m j)∧∃n,wr=((w.alloc (.cells #[.int .i64 n1,.slice a l.length cap] 45)).alloc (.cells #[.int .i64 n2,.slice a2 m.length cap2] 45)).drewN n) (fun o _=>l.length-(intOf o).toNat)
   case atStart=>exact⟨0,N_ _,rfl,O (fun j hj=>absurd hj (by omega)),0,rfl⟩
   case round =>
    obtain⟨i,hi,rfl,hno,n,rfl⟩:=hrel
    by_cases hlt:i<l.length
    ·obtain⟨b,off,rfl,hb1,aO⟩:=(HV.out.cells) (by omega)
     obtain⟨b2,off2,rfl,hb2,hrow2⟩:=(HU.out.cells) (by have := HL.out;omega);have hneq:=fun w'=>Fa (ae l i) (ae m i) w';rw[Ke] at hneq;unfold kc at hneq;obtain⟨d0,d1,d2,d3,d4,d5,d6,d7,d8⟩:=aO i hlt;obtain⟨x0,x1,x2,x3,x4,x5,x6,x7,x8⟩:=hrow2 i (by have := HL.out;omega)
     have i1:(i:Int)<l.length:=by omega
     have i2:(i:Int)<m.length:=by have := HL.out;omega
     have i3:i<m.length:=by have := HL.out;omega
     have HK:=O hlt;have HNO:=hno;clear aO hrow2 hno
     by_cases hq:ae l i=ae m i
     ·rw[decide_eq_true hq] at hneq
      have HQ:=O hq;clear hq;go_wp2
      first |refine fR (by kernel_rfl) (by kernel_rfl) ?_|refine fG (by kernel_rfl) (by kernel_rfl) ?_
      repeat (go_big_quiet_step (fail))
      refine h_ ?_;rintro _ ⟨nq,rfl⟩;go_wp2;go_roundw
      case rel=>exact⟨i+1,HK.out,by go_num,O (fun j hj=>by
       by_cases e:j=i
       ·subst e;exact HQ.out
       ·exact HNO.out j (by omega)),_,rfl⟩
      case measure=>have := HK.out;simp[intOf];omega
     ·rw[V_ hq] at hneq
      have hres:decide (n1=n2∧l=m)=false:=V_ (fun e=>hq (by rw[e.2]));have HRES:=O hres;clear hq hres;go_wp2
      first |refine fR (by kernel_rfl) (by kernel_rfl) ?_|refine fG (by kernel_rfl) (by kernel_rfl) ?_
      repeat (go_big_quiet_step (fail))
      refine h_ ?_;rintro _ ⟨nq,rfl⟩;go_wp2;go_ret;exact⟨by rw[HRES.out];rfl,HBE.out _ _ _⟩
    ·have i1:(l.length:Int)≤i:=by omega
     have hres:decide (n1=n2∧l=m)=true:=decide_eq_true ⟨HN.out,QF HL.out (fun j hj=>hno.out j (by omega))⟩;have HRES:=O hres;clear hres hno;go_wp2;go_ret;exact⟨by rw[HRES.out];rfl,HBE.out _ _ _⟩
  ·have hne:((l.length:Int) == m.length)=false:=by rw[U_];omega
   have hne2:((l.length:Int) != m.length)=true:=by rw[bne,hne];rfl
   rw[V_ (fun e=>hl (by rw[e.2]))];clear hl hn
   go_enter func26,ntmps26
   go_wp2;go_ret;exact⟨rfl,HBE.out _ _ 0⟩
 ·have hnn:(n1 == n2)=false:=by rw[U_];exact hn
  have hnn2:(n1 != n2)=true:=by rw[bne,hnn];rfl
  rw[V_ (fun e=>hn e.1)];clear hn
  go_enter func26,ntmps26
  go_wp2;go_ret;exact⟨rfl,HBE.out _ _ 0⟩
end
section
open Go.RowKit Go.Shelf
theorem J5:(prog.info? 125).map (·.size)=some 4:=by kernel_rfl
def ac (n:Int) (v:Value) (i e:Int):Array Value := #[.int .i64 n,v,.int .i64 i,.int .i64 e]
theorem Fp {fn:Func} {p:Tmp} (h:fn.results = #[.cell p 125]) (tmps:Array Value) (w:World) (g:Nat) (n i e:Int) (v:Value)
  (hp:tmps.getD p undef = .pointer (some ⟨g,0,none⟩)) (hg:w.heap[g]?=some (.cells (ac n v i e) 125 (0,0))):(results fn tmps).run prog w = .ok (.agg (ac n v i e)) w :=
 results_cell_row h tmps w g _ (ac n v i e) (0,0) _ hp hg underlying125 rfl J5
attribute [local irreducible] Calls bf
end
section
open Go.RowKit Go.Shelf
theorem DG {ops:Array Oper} {o:Oper} {a:Act} {w:World} {K:Act→World→Prop} {Q:Exit→Act→World→Prop} {E:Prop} (hgd:o.guard=none) (s x:Operand)
  (ho:o.op = .call { callee := .builtin .append,args := #[s,x],argTypes := #[43,43] })
  (ai:Nat) (v:Value) (l:List Go.Proofs.YtmfiaadjdbemnaaGreatDoor.K) (hs:a.eval s=v) (hown:b7 w ai v l) (ad:Addr) (m c:Nat) (news:List Go.Proofs.YtmfiaadjdbemnaaGreatDoor.K) (hx:a.eval x = .slice (some ad) m c) (hl:news.length=m) (hm:0<m)
  (hnews:RdK w (.slice (some ad) m c) news) (hsz:l.length+m≤1000000) (hbase:ai≤w.heap.size)
  (h:∀v' w',b7 w' ai v' (l++news)→Below ai w w'→K (a.put o.dst v') w') :
  if Region.wanted o (yielded ops a.tmps)=true then Oper.wp prog o a w K Q else E:=by
 obtain⟨i0,z0,hi,hz,hs9,hz9,hb0,hb1⟩:=yY
 refine step_append_lies w hgd s x 43 ho ai 86 i0 z0 9 i0.bytes underlying43 hi hz hs9 rfl hz9 (by decide) v l.length (dV l) hs hown ad m c (dV news) hx (by rw[k8,hl]) (hnews.flat ad rfl) (rH news) hm
  (by unfold maxLen;omega) (M_ (Nat.mul_le_mul hsz hb1) (by decide)) hbase w.heap.size rfl ?_
 intro g cap w' h1 h2 _ _;refine h _ w' ?_ ((O_ ai w).grown h2 hbase (fun k hk=>(World.ownsRow.lt hown k hk).1));unfold b7;rw[E_,hl,lS];exact h1
open Go.RowKit Go.Shelf
theorem dC (l m:List K) (i:Nat) (h:i<l.length):ae (l++m) i=ae l i:=by
 rw[az _ _ (by rw[E_];omega),az _ _ h,List.getElem_append_left]
theorem pq (l m:List K) (i:Nat) (h:i<m.length):ae (l++m) (l.length+i)=ae m i:=by
 rw[az _ _ (by rw[E_];omega),az _ _ h,List.getElem_append_right (by omega)]
 simp
theorem pu (l:List K) (x:K):ae (l++[x]) l.length=x:=by
 have := pq l [x] 0 (by simp);rw[Nat.add_zero] at this;rw[this];rfl
open Go.RowKit Go.Shelf
attribute [local irreducible] Calls bf
theorem G8 {w:World} {ai:Nat} {v:Value} {l:List K} (h:b7 w ai v l) (X:Obj):b7 (w.alloc X).drew ai v l :=
 (h.keep ((O_ w.heap.size w).alloc (A_ _) X) (A_ _)).keep (ak 1 (O_ (w.alloc X).heap.size (w.alloc X))) (A_ _)
theorem Cy {w:World} {B:Nat} (h:B≤w.heap.size) (X:Obj):B≤(w.alloc X).drew.heap.size:=by
 have : (w.alloc X).drew.heap.size=w.heap.size+1:=by simp
 omega
theorem st4 {w:World} {g:Nat} {T:TypeId} {n i e n0 i0 e0:Int} {v v0:Value} (h:w.heap[g]?=some (.cells (ac n0 v0 i0 e0) T (0,0))) :
  ((((w.setCell ⟨g,0,none⟩ (.int .i64 n)).setCell ⟨g,1,none⟩ v).setCell ⟨g,2,none⟩ (.int .i64 i)).setCell ⟨g,3,none⟩ (.int .i64 e)).heap[g]?=some (.cells (ac n v i e) T (0,0)):=by
 have h1:=setRow_heap w g _ ((ac n0 v0 i0 e0).setIfInBounds 0 (.int .i64 n)) _ _ h;rw[←de _ _ _ _ _ _ _ h] at h1;have h2:=setRow_heap _ g _ (((ac n0 v0 i0 e0).setIfInBounds 0 (.int .i64 n)).setIfInBounds 1 v) _ _ h1;rw[←de _ _ _ _ _ _ _ h1] at h2;have h3:=setRow_heap _ g _ ((((ac n0 v0 i0 e0).setIfInBounds 0 (.int .i64 n)).setIfInBounds 1 v).setIfInBounds 2 (.int .i64 i)) _ _ h2;rw[←de _ _ _ _ _ _ _ h2] at h3;have h4:=setRow_heap _ g _ (((((ac n0 v0 i0 e0).setIfInBounds 0 (.int .i64 n)).setIfInBounds 1 v).setIfInBounds 2 (.int .i64 i)).setIfInBounds 3 (.int .i64 e)) _ _ h3;rw[←de _ _ _ _ _ _ _ h3] at h4;exact h4
theorem pS (nx:Int) (v:Value) (l:List K) (k:K) (w:World) (hv:RdK w v l) (he:bL nx l k=0) (hl:l.length≤5000) (hnx:IntKind.i64.wrap (nx+1)=nx+1) :
  Calls prog 63 #[.agg #[.int .i64 nx,v],kv k] w fun e w'=>∃v',e = .returned (.agg (ac (nx+1) v' nx 0))∧b7 w' w.heap.size v' (l++[aW k nx])∧Below w.heap.size w w':=by
 have hval:=fun w=>ov k w;obtain⟨W0,hW0⟩:∃W0,W0=((w.alloc (.cells #[.int .i64 nx,v] 45)).alloc (.cells (kc k) 86)).alloc (.cells #[.int .i64 0,.slice none 0 0,.int .i64 0,.int .i64 0] 125):=⟨_,rfl⟩
 have hvw:RdK W0 v l:=by rw[hW0];exact((hv.alloc _).alloc _).alloc _
 have hbx:∀w1,Below W0.heap.size W0 w1→w1.cell? ⟨w.heap.size,0,none⟩=some (.int .i64 nx)∧w1.cell? ⟨w.heap.size,1,none⟩=some v∧di w1 (w.heap.size+1) k ∧
   w1.heap[w.heap.size+1+1]?=some (.cells (ac 0 (.slice none 0 0) 0 0) 125 (0,0))∧Below w.heap.size w w1:=by
  intro w1 h;rw[hW0] at h;have h1:Below ((w.alloc (.cells #[.int .i64 nx,v] 45)).alloc (.cells (kc k) 86)).heap.size ((w.alloc (.cells #[.int .i64 nx,v] 45)).alloc (.cells (kc k) 86)) w1:=cJ _ _ h;exact⟨mP _ _ _ _ h1 0,mP _ _ _ _ h1 1,(VV w _ k).on h1,by rw[h.block _ (by simp)];exact nP _ _ _ _,qC _ _ _ _ h⟩
 have HBX:=O hbx;have HW:=O hW0;have HV:=O hv;have hszW:Hid (w.heap.size+1+1<W0.heap.size):=O (by rw[hW0];simp);obtain⟨a,cap,rfl,_,_,_⟩:=hv;clear hW0 hbx hvw;unfold kv kc at hval ⊢;unfold kc at HW
 rcases fb nx l k with⟨h1,hr⟩|⟨h1,h2,hr⟩|⟨h1,h2,h3,hr⟩|⟨h1,h2,h3,h4,hr⟩|⟨h1,h2,h3,h4,hr⟩
 ·rw[hr] at he;cases he
 ·rw[hr] at he;cases he
 ·rw[hr] at he;cases he
 ·rw[hr] at he;cases he
 ·rw[h1] at hval
  clear h1 hr he
  go_enter func63,ntmps63
  go_wp2_with (first
   |(go_at_call 75;refine(hval _).mono ?_;rintro e w1 ⟨rfl,hb⟩;rw[←HW.out] at hb;obtain⟨n0,n1,hka,hg,hbb⟩:=HBX.out _ hb;have p0:w1.cell? ⟨w.heap.size+1,0,none⟩=some (.int .i64 k.id):=hka.cell 0;have p7:w1.cell? ⟨w.heap.size+1,7,none⟩=some (.int .i64 k.par):=hka.cell 7;have f0:=hka.free 0;have HG:=O hg;have HKA:=O hka;have HB1:=O hb;have HBB:=O hbb;clear hg hka hb hbb)
   |(at_builtin;refine wO rfl (.tmp 32) (.tmp 34) rfl W0.heap.size _ [] rfl (b7.nil _ _) _ l rfl (HV.out.on (HBB.out.setCell (by show w.heap.size≤w.heap.size+1;omega) _)) (by simp;omega) (by rw[fY];exact HB1.out.size) ?_;intro v1 w2 ho hb2))
  have hsz:=hszW.out;have hb1s:=HB1.out.size;have hw2s:=hb2.size;rw[fY] at hw2s;have y1:=EV HKA.out nx
  have y2:(w1.setCell ⟨w.heap.size+1,0,none⟩ (.int .i64 nx)).heap[w.heap.size+1+1]?=some (.cells (ac 0 (.slice none 0 0) 0 0) 125 (0,0)):=by
   rw[bA (by omega)];exact HG.out
  have y3:(w1.setCell ⟨w.heap.size+1,0,none⟩ (.int .i64 nx)).cell? ⟨w.heap.size,0,none⟩=some (.int .i64 nx):=by
   rw[((O_ (w.heap.size+1) w1).setCell (p:=⟨w.heap.size+1,0,none⟩) (A_ _) _).cell (p:=⟨w.heap.size,0,none⟩) (by show w.heap.size<_;omega)];exact n0
  have HF:Hid (∀w3,Below W0.heap.size (w1.setCell ⟨w.heap.size+1,0,none⟩ (.int .i64 nx)) w3→w3.cell? ⟨w.heap.size,0,none⟩=some (.int .i64 nx)∧di w3 (w.heap.size+1) (aW k nx)∧w3.heap[w.heap.size+1+1]?=some (.cells (ac 0 (.slice none 0 0) 0 0) 125 (0,0))) :=
   O (fun w3 h3=>⟨by rw[h3.cell (p:=⟨w.heap.size,0,none⟩) (by show w.heap.size<_;omega)];exact y3,y1.keep h3 (by omega),by rw[h3.block _ (by omega)];exact y2⟩)
  obtain⟨z0,zk,zr⟩:=HF.out w2 hb2;obtain⟨x0,x1,x2,x3,x4,x5,x6,x7,x8⟩:=zk.nine;simp only[a_] at x1 x2 x3 x4 x5 x6 x7 x8
  have l1:w.heap.size<w2.heap.size:=by omega
  have l2:w.heap.size+1<w2.heap.size:=by omega
  have l3:w.heap.size+1+1<w2.heap.size:=by omega
  have hz2:W0.heap.size≤w2.heap.size:=by omega
  have HB2:=O hb2;have HBE:Hid (∀w3,Below W0.heap.size (w1.setCell ⟨w.heap.size+1,0,none⟩ (.int .i64 nx)) w3→Below w.heap.size w w3):=O (fun w3 h3=>(HBB.out.setCell (p:=⟨w.heap.size+1,0,none⟩) (by show w.heap.size≤w.heap.size+1;omega) _).trans (h3.mono (by omega)))
  have hroom:l.length+1≤1000000:=by omega
  have HRM:=O hroom;clear hb2 y1 y2 y3 zk zr;have HS:Hid (∀w3,Below W0.heap.size (w1.setCell ⟨w.heap.size+1,0,none⟩ (.int .i64 nx)) w3→w3.cell? ⟨w.heap.size,0,none⟩=some (.int .i64 nx)∧s7 w3 (w.heap.size+1) 0 (aW k nx)):=O (fun w3 h3=>⟨(HF.out w3 h3).1,(HF.out w3 h3).2.1.nine⟩);unfold s7 at HS
  have ne1:w.heap.size+1+1≠w.heap.size:=by omega
  have ne2:w.heap.size≠w.heap.size+1+1:=by omega
  simp only[a_] at HS
  go_region_held3 (fun w'=>w'.cell? ⟨w.heap.size,0,none⟩=some (.int .i64 nx)∧w'.cell? ⟨w.heap.size+1,0,none⟩=some (.int .i64 (aW k nx).id)∧w'.cell? ⟨w.heap.size+1,1,none⟩=some (.int .i64 (aW k nx).ty)∧w'.cell? ⟨w.heap.size+1,2,none⟩=some (.string ⟨(aW k nx).val.toArray⟩) ∧
    w'.cell? ⟨w.heap.size+1,3,none⟩=some (.int .i64 (aW k nx).uses)∧w'.cell? ⟨w.heap.size+1,4,none⟩=some (.int .i64 (aW k nx).start)∧w'.cell? ⟨w.heap.size+1,5,none⟩=some (.int .i64 (aW k nx).fin) ∧
    w'.cell? ⟨w.heap.size+1,6,none⟩=some (.int .i64 (aW k nx).ver)∧w'.cell? ⟨w.heap.size+1,7,none⟩=some (.int .i64 (aW k nx).par)∧w'.cell? ⟨w.heap.size+1,8,none⟩=some (.bool (aW k nx).raw))
   (first
    | go_keep
    | exact HS.out _ HB2.out
    | exact HS.out _ (HB2.out.trans ((ak 1 ((O_ W0.heap.size w2).alloc hz2 _)).trans hb')))
   ((refine DG rfl (.tmp 39) (.tmp 41) rfl W0.heap.size _ l rfl (G8 ho _) ⟨w2.heap.size,0,none⟩ 1 1 [aW k nx] rfl rfl (by decide) (xS w2 (aW k nx)) HRM.out (Cy hz2 _) ?_;intro v' w' ho' hb';have HRD:=O ho';have hrd:=ho'.rd;clear ho';obtain⟨va,vcap,rfl,_,_,_⟩:=hrd;obtain⟨q0,qk,qr⟩:=HF.out w' (HB2.out.trans ((ak 1 ((O_ W0.heap.size w2).alloc hz2 _)).trans hb'));have HBF:=O (HBE.out w' (HB2.out.trans ((ak 1 ((O_ W0.heap.size w2).alloc hz2 _)).trans hb')));have r0:w'.cell? ⟨w.heap.size+1+1,0,none⟩=some (.int .i64 0):=e_ _ _ _ _ _ _ qr;have r1:w'.cell? ⟨w.heap.size+1+1,1,none⟩=some (.slice none 0 0):=e_ _ _ _ _ _ _ qr;have r2:w'.cell? ⟨w.heap.size+1+1,2,none⟩=some (.int .i64 0):=e_ _ _ _ _ _ _ qr;have r3:w'.cell? ⟨w.heap.size+1+1,3,none⟩=some (.int .i64 0):=e_ _ _ _ _ _ _ qr;have g0:=A9 qr 0;have g1:=A9 qr 1;have g2:=A9 qr 2;have g3:=A9 qr 3;have QR:=O qr;clear qr q0 qk))
  all_goals
   go_wp2
   (try simp only[Exit.inBlock,Exit.then])
   refine g_ (Fp rfl _ _ (w.heap.size+1+1) _ _ _ _ rfl (st4 QR.out)) rfl ?_;refine⟨_,rfl,?_,?_⟩
   ·have hs:=hszW.out
    exact xV (lm (lm (lm (lm HRD.out hs) hs) hs) hs) (by omega)
   ·have hle:w.heap.size≤w.heap.size+1+1:=by omega
    exact(((HBF.out.setCell (p:=⟨w.heap.size+1+1,0,none⟩) hle _).setCell (p:=⟨w.heap.size+1+1,1,none⟩) hle _).setCell (p:=⟨w.heap.size+1+1,2,none⟩) hle _).setCell (p:=⟨w.heap.size+1+1,3,none⟩) hle _
end
section
open Go.ChangeShapes Go.WideShapes Go.ChangeAt Go.RowKit Go.Deep
set_option maxRecDepth 10000
section fk
variable {H:Type} {enc:TypeId × Value→H} {w:World} {ai:Nat} {sp:Nat→Bool} {held:Bool}
theorem A6 {T:TypeId} {fs:Array Field} {fuel:Nat} {cs:List Value} {x:DataW H × List MemPlace} (ht:prog.underlying T=some (.struct fs)) (h:DataW.trod enc prog w ai sp held fuel T cs=some x) (i o:Nat)
  (hf:(fs.toList.map fun f=>(f.type,f.offset))[i]?=some (4,o)):∃b:Bool,cs[o]?=some (.bool b):=by
 obtain⟨n,y,hy⟩:=fld ht h i o 1 hf (by kernel_rfl);obtain⟨b,hb,_⟩:=DataW.trod_bool underlying4 hy;exact⟨b,CN hb⟩
theorem gB:prog.underlying 86=some (.struct (prog.fieldsOf 86)):=by kernel_rfl
theorem s5:prog.underlying 45=some (.struct (prog.fieldsOf 45)):=by kernel_rfl
theorem gW:prog.underlying 47=some (.struct (prog.fieldsOf 47)):=by kernel_rfl
theorem mE:((prog.fieldsOf 86).toList.map fun f=>(f.type,f.offset))=[(3,0),(3,1),(9,2),(3,3),(3,4),(3,5),(3,6),(3,7),(4,8)]:=by kernel_rfl
theorem Oj:((prog.fieldsOf 45).toList.map fun f=>(f.type,f.offset))=[(3,0),(43,1)]:=by kernel_rfl
theorem oD:((prog.fieldsOf 47).toList.map fun f=>(f.type,f.offset))=[(23,0),(3,16),(3,17),(3,18),(3,19),(23,20),(9,36),(43,37)]:=by kernel_rfl
theorem QO (l:List Value) (h:l.length=9):∃c0 c1 c2 c3 c4 c5 c6 c7 c8,l=[c0,c1,c2,c3,c4,c5,c6,c7,c8]:=by
 match l,h with
 | [c0,c1,c2,c3,c4,c5,c6,c7,c8],_=>exact⟨c0,c1,c2,c3,c4,c5,c6,c7,c8,rfl⟩
theorem Kt (l:List Value) (h:l.length=38):∃c0 c1 c2 c3 c4 c5 c6 c7 c8 c9 c10 c11 c12 c13 c14 c15 c16 c17 c18 c19 c20 c21 c22 c23 c24 c25 c26 c27 c28 c29 c30 c31 c32 c33 c34 c35 c36 c37,l=[c0,c1,c2,c3,c4,c5,c6,c7,c8,c9,c10,c11,c12,c13,c14,c15,c16,c17,c18,c19,c20,c21,c22,c23,c24,c25,c26,c27,c28,c29,c30,c31,c32,c33,c34,c35,c36,c37]:=by
 match l,h with
 | c0::c1::c2::c3::c4::c5::c6::c7::c8::c9::c10::c11::c12::c13::c14::c15::c16::c17::c18::c19::c20::c21::c22::c23::c24::c25::c26::c27::c28::c29::c30::c31::c32::c33::c34::c35::c36::c37::[],_=>exact⟨c0,c1,c2,c3,c4,c5,c6,c7,c8,c9,c10,c11,c12,c13,c14,c15,c16,c17,c18,c19,c20,c21,c22,c23,c24,c25,c26,c27,c28,c29,c30,c31,c32,c33,c34,c35,c36,c37,rfl⟩
theorem Ay {Q:Nat→K→Prop} (n:Nat) (h:∀i,i<n→∃c,Q i c):∃d:List K,d.length=n∧∀i,i<n→Q i (ae d i):=by
 induction n with
 | zero=>exact⟨[],rfl,fun i hi=>absurd hi (by omega)⟩
 | succ n ih =>
   obtain⟨d,hd,hq⟩:=ih (fun i hi=>h i (by omega));obtain⟨c,hc⟩:=h n (by omega);refine⟨d++[c],by simp[hd],fun i hi => ?_⟩
   by_cases e:i<n
   ·rw[dC _ _ _ (by omega)];exact hq i e
   ·obtain rfl:i=d.length:=by omega
    rw[pu,hd];exact hc
end fk
end
section
open Go.ChangeShapes Go.WideShapes Go.ChangeAt Go.RowKit Go.Deep
set_option maxRecDepth 10000
theorem YX {a b c d:Int} (ha:(Lit.int .i64 a).wf=true) (hb:(Lit.int .i64 b).wf=true) (hc:(Lit.int .i64 c).wf=true) (hd:(Lit.int .i64 d).wf=true):∀x∈[a,b,c,d],okI x:=by
 intro x hx;simp only[List.mem_cons,List.not_mem_nil,or_false] at hx
 rcases hx with rfl|rfl|rfl|rfl
 ·exact okN ha
 ·exact okN hb
 ·exact okN hc
 ·exact okN hd
theorem YZ {a b c d e f g:Int} {v:List UInt8} {r:Bool} (ha:(Lit.int .i64 a).wf=true) (hb:(Lit.int .i64 b).wf=true) (hc:(Lit.int .i64 c).wf=true) (hd:(Lit.int .i64 d).wf=true) (he:(Lit.int .i64 e).wf=true) (hf:(Lit.int .i64 f).wf=true) (hg:(Lit.int .i64 g).wf=true) :
  ∀x∈bO ⟨a,b,v,c,d,e,f,g,r⟩,okI x:=by
 intro x hx;unfold bO at hx;simp only[List.mem_cons,List.not_mem_nil,or_false] at hx
 rcases hx with rfl|rfl|rfl|rfl|rfl|rfl|rfl|rfl
 ·exact okN ha
 ·exact okN hb
 ·exact okN hc
 ·exact okN hd
 ·exact okN he
 ·exact okN hf
 ·exact okN hg
 ·unfold oG okI;split <;> omega
section
variable {H:Type} {enc:TypeId × Value→H} {w:World} {ai:Nat} {sp:Nat→Bool} {held:Bool}
theorem Oy {fuel:Nat} {cs:List Value} {x:DataW H × List MemPlace} (h:DataW.trod enc prog w ai sp held fuel 86 cs=some x):∃k:K,cs=(kc k).toList∧∀x∈bO k,okI x:=by
 have hl:=iR gB (c:=9) (by kernel_rfl) h;obtain⟨z0,e0,w0⟩:=bR gB h 0 0 (by rw[mE];rfl);obtain⟨z1,e1,w1⟩:=bR gB h 1 1 (by rw[mE];rfl);obtain⟨z2,e2,w2⟩:=kq gB h 2 2 (by rw[mE];rfl);obtain⟨z3,e3,w3⟩:=bR gB h 3 3 (by rw[mE];rfl);obtain⟨z4,e4,w4⟩:=bR gB h 4 4 (by rw[mE];rfl);obtain⟨z5,e5,w5⟩:=bR gB h 5 5 (by rw[mE];rfl);obtain⟨z6,e6,w6⟩:=bR gB h 6 6 (by rw[mE];rfl);obtain⟨z7,e7,w7⟩:=bR gB h 7 7 (by rw[mE];rfl);obtain⟨z8,e8⟩:=A6 gB h 8 8 (by rw[mE];rfl);refine⟨⟨z0,z1,z2,z3,z4,z5,z6,z7,z8⟩,?_,YZ w0 w1 w3 w4 w5 w6 w7⟩;obtain⟨c0,c1,c2,c3,c4,c5,c6,c7,c8,rfl⟩:=QO cs hl
 simp at e0 e1 e2 e3 e4 e5 e6 e7 e8
 subst e0 e1 e2 e3 e4 e5 e6 e7 e8
 rfl
theorem Bn {fuel:Nat} {v:Value} {x:DataW H × List MemPlace} (h:DataW.trod enc prog w ai sp held fuel 43 [v]=some x):∃l:List K,RdK w v l∧cQ l:=by
 rcases open_slice underlying43 h with⟨hcs,_⟩|⟨a,len,cap,m,n,D,Pl,hcs,_,hl,hm,hmm,_,hi⟩
 ·simp only[List.cons.injEq,and_true] at hcs
  subst hcs;exact⟨[],RdK.nil w,fun i hi=>absurd hi (by simp)⟩
 ·simp only[List.cons.injEq,and_true] at hcs
  subst hcs
  have hle:len≤m:=by rw[hmm];split <;> omega
  have hc:prog.cellsOf 86=9:=by kernel_rfl
  rw[hc] at hi
  obtain⟨l,hlen,hq⟩:=Ay (Q:=fun i k=>(∀j,j<9→w.cell? (a.add (i*9+j))=(kc k)[j]?)∧∀x∈bO k,okI x) len (fun i hil=>by
   obtain⟨cs',h1,h2⟩:=hi i (by omega);obtain⟨k,rfl,hwf⟩:=Oy h2;obtain⟨_,_,h3⟩:=World.cells?_some h1;refine⟨k,fun j hj => ?_,hwf⟩;have := h3 j hj
   rw[←Go.Deep.add_add,this,Array.getElem?_toList])
  refine⟨l,⟨some a,cap,by rw[hlen],by omega,hm,fun h0 => ?_⟩,fun i hil=>(hq i (by omega)).2⟩;obtain⟨b,off,spot⟩:=a;have h1:=(hq 0 (by omega)).1 0 (by omega);have hk0:(kc (ae l 0))[0]?=some (.int .i64 (ae l 0).id):=rfl;rw[hk0] at h1
  have hspot:spot=none:=by simpa [Addr.add] using World.cell?_spot h1
  subst hspot
  have gX:∀i,(⟨b,off,none⟩:Addr).add i=⟨b,off+i,none⟩:=by intro i;unfold Addr.add;split <;> simp_all
  refine⟨b,off,rfl,?_,fun j hj i hi9 => ?_⟩
  ·have := World.block_lt_of_cell? _ _ h1
   simpa [Addr.add] using this
  ·have := (hq j (by omega)).1 i hi9
   rw[gX,←Nat.add_assoc] at this;exact this
theorem si {fuel:Nat} {cs:List Value} {x:DataW H × List MemPlace} (h:DataW.trod enc prog w ai sp held fuel 45 cs=some x):∃(nx:Int) (v:Value) (l:List K),cs=[.int .i64 nx,v]∧(Lit.int .i64 nx).wf=true∧RdK w v l∧cQ l:=by
 have hl:=iR s5 (c:=2) (by kernel_rfl) h;obtain⟨z0,e0,w0⟩:=bR s5 h 0 0 (by rw[Oj];rfl);obtain⟨n,y,hy⟩:=fld s5 h 1 1 1 (by rw[Oj];rfl) (by kernel_rfl);obtain⟨c0,c1,rfl⟩:=E5 cs hl;obtain⟨l,hr,hw⟩:=Bn (v:=c1) hy
 simp at e0
 subst e0;exact⟨z0,c1,l,rfl,w0,hr,hw⟩
theorem uh {fuel:Nat} {cs:List Value} {x:DataW H × List MemPlace} (h:DataW.trod enc prog w ai sp held fuel 47 cs=some x):∃(b:BK) (v:Value) (l:List K),cs=(bc b v).toList∧b.mach∧RdK w v l∧cQ l:=by
 have hl:=iR gW (c:=38) (by kernel_rfl) h;obtain⟨n0,y0,h0⟩:=fld gW h 0 0 16 (by rw[oD];rfl) (by kernel_rfl);obtain⟨d0,f0,g0⟩:=qm h0;obtain⟨z1,e1,w1⟩:=bR gW h 1 16 (by rw[oD];rfl);obtain⟨z2,e2,w2⟩:=bR gW h 2 17 (by rw[oD];rfl);obtain⟨z3,e3,w3⟩:=bR gW h 3 18 (by rw[oD];rfl);obtain⟨z4,e4,w4⟩:=bR gW h 4 19 (by rw[oD];rfl);obtain⟨n5,y5,h5⟩:=fld gW h 5 20 16 (by rw[oD];rfl) (by kernel_rfl);obtain⟨d5,f5,g5⟩:=qm h5;obtain⟨z6,e6,w6⟩:=kq gW h 6 36 (by rw[oD];rfl);obtain⟨n7,y7,h7⟩:=fld gW h 7 37 1 (by rw[oD];rfl) (by kernel_rfl);clear h h0 h5;obtain⟨c0,c1,c2,c3,c4,c5,c6,c7,c8,c9,c10,c11,c12,c13,c14,c15,c16,c17,c18,c19,c20,c21,c22,c23,c24,c25,c26,c27,c28,c29,c30,c31,c32,c33,c34,c35,c36,c37,rfl⟩:=Kt cs hl;obtain⟨l,hr,hw⟩:=Bn (v:=c37) h7;refine⟨⟨d0,z1,z2,z3,z4,d5,z6⟩,c37,l,?_,⟨g0,g5,YX w1 w2 w3 w4,w6⟩,hr,hw⟩;unfold am at f0 f5
 simp at f0 f5 e1 e2 e3 e4 e6
 obtain⟨rfl,rfl,rfl,rfl,rfl,rfl,rfl,rfl,rfl,rfl,rfl,rfl,rfl,rfl,rfl,rfl⟩:=f0;obtain⟨rfl,rfl,rfl,rfl,rfl,rfl,rfl,rfl,rfl,rfl,rfl,rfl,rfl,rfl,rfl,rfl⟩:=f5;subst e1 e2 e3 e4 e6;unfold bc
 rfl
end
end
section
namespace F6
theorem pow_add (a:B) (m n:Nat):pow a (m+n)=mul (pow a m) (pow a n):=by
 induction n with
 | zero=>rw[Nat.add_zero,pow,mul_one]
 | succ n ih=>rw[←Nat.add_assoc,pow,ih,pow,dS]
end F6
end
section
namespace Fld
open Go.RowKit
theorem uv (l:List UInt8):∀u∈bv l,u.oneCell'=true:=by
 intro u hu;obtain⟨b,_,rfl⟩:=List.mem_map.1 hu
 rfl
theorem D7 {w:World} {ops:Array Oper} {rest:List Oper} {o:Oper} {a:Act} {Q:Exit→Act→World→Prop} (hgd:o.guard=none) (s x:Operand)
  (ho:o.op = .call { callee := .builtin .append,args := #[s,x],argTypes := #[80,80] })
  (ai:Nat) (v:Value) (l:List UInt8) (hs:a.eval s=v) (hown:cR w ai v l) (ad:Addr) (m c:Nat) (news:List UInt8) (hx:a.eval x = .slice (some ad) m c) (hl:news.length=m)
  (hnews:∀j u,(bv news)[j]?=some u→w.cell? (ad.add j)=some u) (hsz:l.length+m≤1000000000) (hbase:ai≤w.heap.size)
  (h:∀v' w',cR w' ai v' (l++news)→Below ai w w'→wpList prog ops Q rest (a.put o.dst v') w'):wpList prog ops Q (o::rest) a w:=by
 obtain⟨i0,hi,hz0,hz1,hz2⟩:=info_parts sH
 refine wpList_append_own w hgd s x 80 ho ai 5 i0 (.int .u8 0) 1 1 underlying80 hi hz0 hz1 hz2 rfl (by decide) v l.length (bv l) hs hown ad m c (bv news) hx (by simp[bv,hl]) hnews (uv news)
  (by unfold maxLen;omega) (by omega) hbase ?_
 intro v' w' h1 h2 _;refine h v' w' ?_ ((O_ ai w).grown h2 hbase (fun k hk=>(hown.lt k hk).1));unfold cR;rw[E_,hl]
 have : bv (l++news)=bv l++bv news:=by simp[bv]
 rw[this];exact h1
theorem mR (w:World) (cs:Array Value) (T:TypeId) (j:Nat) (u:Value) (h:cs.toList[j]?=some u):(w.alloc (.cells cs T)).cell? ((⟨w.heap.size,0,none⟩:Addr).add j)=some u:=by
 have gX:(⟨w.heap.size,0,none⟩:Addr).add j=⟨w.heap.size,j,none⟩:=by unfold Addr.add;split <;> simp_all
 rw[gX,e_ _ _ j cs T (0,0) (heap_alloc_new w _),←Array.getElem?_toList];exact h
theorem cR.below {w w':World} {ai:Nat} {v:Value} {l:List UInt8} (h:cR w ai v l) (hb:Below w.heap.size w w'):cR w' ai v l:=by
 refine⟨h.1,?_⟩
 rcases h.2 with hn|⟨g,cap,cur,rfl,hg,hgg,r⟩
 ·exact .inl hn
 ·exact .inr ⟨g,cap,cur,rfl,hg,by rw[hb.block _ (Q_.1 hgg).1];exact hgg,r⟩
theorem cR.nil (w:World) (ai:Nat):cR w ai (.slice none 0 0) []:=World.ownsRow_nil w ai _ 1
theorem cR.drew {w:World} {ai:Nat} {v:Value} {l:List UInt8} (n:Nat) (h:cR w ai v l):cR (w.drewN n) ai v l:=h.below (ak n (O_ _ _))
end Fld
end
section
open Go.ChangeShapes Go.WideShapes Go.ChangeAt Go.RowKit Go.Deep
set_option maxRecDepth 10000
section
variable {H:Type} {enc:TypeId × Value→H} {w:World} {ai:Nat} {sp:Nat→Bool} {held:Bool}
theorem Jd {α:Type} {Q:Nat→α→Prop} (n:Nat) (h:∀i,i<n→∃c,Q i c):∃d:List α,d.length=n∧∀i (hi:i<d.length),Q i d[i]:=by
 induction n with
 | zero=>exact⟨[],rfl,fun i hi=>absurd hi (by simp)⟩
 | succ n ih =>
   obtain⟨d,hd,hq⟩:=ih (fun i hi=>h i (by omega));obtain⟨c,hc⟩:=h n (by omega);refine⟨d++[c],by simp[hd],fun i hi => ?_⟩
   by_cases e:i<d.length
   ·rw[List.getElem_append_left e];exact hq i e
   ·obtain rfl:i=n:=by simp at hi;omega
    rw[List.getElem_append_right (by omega)]
    simpa using hc
theorem DE {α:Type} {E:El α} (hE:E.OK) (P:α→Prop) (hcells:prog.cellsOf E.T=E.c)
  (hel:∀fuel cs x,DataW.trod enc prog w ai sp held fuel E.T cs=some x→∃a,cs=E.cf a∧P a)
  {fuel:Nat} {v:Value} {x:DataW H × List MemPlace} (h:DataW.trod enc prog w ai sp held fuel E.S [v]=some x):∃l:List α,RdE E w v l∧∀a∈l,P a:=by
 rcases open_slice hE.und h with⟨hcs,_⟩|⟨a,len,cap,m,n,D,Pl,hcs,_,hl,hm,hmm,_,hi⟩
 ·simp only[List.cons.injEq,and_true] at hcs
  subst hcs;exact⟨[],RdE.nil w,fun i hi=>absurd hi (by simp)⟩
 ·simp only[List.cons.injEq,and_true] at hcs
  subst hcs
  have hle:len≤m:=by rw[hmm];split <;> omega
  rw[hcells] at hi
  obtain⟨l,hlen,hq⟩:=Jd (Q:=fun i k=>(∀j,j<E.c→w.cell? (a.add (i*E.c+j))=(E.cf k)[j]?)∧P k) len (fun i hil=>by
   obtain⟨cs',h1,h2⟩:=hi i (by omega);obtain⟨k,rfl,hp⟩:=hel _ _ _ h2;obtain⟨_,_,h3⟩:=World.cells?_some h1;refine⟨k,fun j hj => ?_,hp⟩;have := h3 j hj
   rw[←Go.Deep.add_add,this])
  refine⟨l,⟨some a,cap,by rw[hlen],by omega,hm,fun h0 => ?_⟩,fun y hy => ?_⟩
  ·obtain⟨b,off,spot⟩:=a
   have h1:=(hq 0 h0).1 0 hE.pos
   have hc0:0<(E.cf l[0]).length:=by rw[hE.len];exact hE.pos
   rw[K_ hc0] at h1
   have hspot:spot=none:=by simpa [Addr.add] using World.cell?_spot h1
   subst hspot
   have gX:∀i,(⟨b,off,none⟩:Addr).add i=⟨b,off+i,none⟩:=by intro i;unfold Addr.add;split <;> simp_all
   refine⟨b,off,rfl,?_,fun j u hu => ?_⟩
   ·have := World.block_lt_of_cell? _ _ h1
    simpa [Addr.add] using this
   ·have hj:j<l.length*E.c:=by
     have := (d_.1 hu).1
     rwa [El.flat_len hE] at this
    have hq1:j / E.c<l.length:=Nat.div_lt_of_lt_mul (by rw[Nat.mul_comm];exact hj);have hm1:j % E.c<E.c:=Nat.mod_lt _ hE.pos
    have hj2:j / E.c*E.c+j % E.c=j:=by rw[Nat.mul_comm];exact Nat.div_add_mod _ _
    have h5:=El.flat_at hE l (j / E.c) (j % E.c) hq1 hm1;rw[hj2,hu] at h5;have h6:=(hq (j / E.c) hq1).1 (j % E.c) hm1;rw[hj2,gX,←h5] at h6;exact h6
  ·obtain⟨i,hi2,rfl⟩:=List.mem_iff_getElem.1 hy
   exact(hq i hi2).2
theorem KH {fuel:Nat} {cs:List Value} {x:DataW H × List MemPlace} (h:DataW.trod enc prog w ai sp held fuel 3 cs=some x):∃z:Int,cs=eI.cf z∧okI z:=by
 obtain⟨z,hz,_,hw⟩:=DataW.trod_int underlying3 h;exact⟨z,hz,okN hw⟩
structure SH.mach (s:SH):Prop where
 set:s.set.length=16
 need:okI s.need
 idx:okI s.idx
theorem wU:prog.cellsOf 3=1:=by kernel_rfl
end
end
section
open Go.ChangeShapes Go.WideShapes Go.ChangeAt Go.RowKit Go.Deep
set_option maxRecDepth 10000
theorem ec (l:List Value) (a b:Nat):l.drop a=(l.drop a).take b++l.drop (a+b):=by rw[←List.drop_drop,List.take_append_drop]
theorem rK {l:List Value} {a:Nat} {v:Value} (h:l[a]?=some v):(l.drop a).take 1=[v]:=by
 obtain⟨hlt,e⟩:=d_.1 h;rw[List.drop_eq_getElem_cons hlt,e]
 rfl
theorem KL {l:List Value} {a:Nat} (h:a<l.length):∃v,(l.drop a).take 1=[v]:=⟨l[a],rK (K_ h)⟩
section
variable {H:Type} {enc:TypeId × Value→H} {w:World} {ai:Nat} {sp:Nat→Bool} {held:Bool}
theorem nA:prog.underlying 61=some (.struct (prog.fieldsOf 61)):=by kernel_rfl
theorem xw:((prog.fieldsOf 61).toList.map fun f=>(f.type,f.offset))=[(45,0),(59,2),(47,3),(9,41),(3,42),(3,43)]:=by kernel_rfl
theorem WP {fuel:Nat} {cs:List Value} {x:DataW H × List MemPlace} (h:DataW.trod enc prog w ai sp held fuel 61 cs=some x) :
  ∃(nx:Int) (v:Value) (tl:List K) (vi:Value) (ids:List Int) (b:BK) (u:Value) (bl:List K) (sd:List UInt8) (need n:Int),cs=siC nx v vi b u sd need n∧RdK w v tl∧cQ tl∧RdE eI w vi ids∧(∀z∈ids,okI z)∧b.mach∧RdK w u bl∧cQ bl∧sd.length≤maxLen∧okI need∧okI n:=by
 have hl:=iR nA (c:=44) (by kernel_rfl) h;obtain⟨n0,y0,h0⟩:=fld nA h 0 0 2 (by rw[xw];rfl) (by kernel_rfl);obtain⟨nx,v,tl,e0,_,g0,k0⟩:=si h0;obtain⟨n1,y1,h1⟩:=fld nA h 1 2 1 (by rw[xw];rfl) (by kernel_rfl);obtain⟨vi,e1⟩:=KL (l:=cs) (a:=2) (by omega);rw[e1] at h1;obtain⟨ids,g1,k1⟩:=DE iB okI wU (fun _ _ _ h=>KH h) h1;obtain⟨n2,y2,h2⟩:=fld nA h 2 3 38 (by rw[xw];rfl) (by kernel_rfl);obtain⟨b,u,bl,e2,g2,k2,l2⟩:=uh h2;obtain⟨sd,e3,g3⟩:=kq nA h 3 41 (by rw[xw];rfl);obtain⟨need,e4,g4⟩:=bR nA h 4 42 (by rw[xw];rfl);obtain⟨n,e5,g5⟩:=bR nA h 5 43 (by rw[xw];rfl);refine⟨nx,v,tl,vi,ids,b,u,bl,sd,need,n,?_,g0,k0,g1,k1,g2,k2,l2,g3,okN g4,okN g5⟩;have q:cs=cs.drop 0:=rfl;rw[q,ec cs 0 2,ec cs (0+2) 1,ec cs (0+2+1) 38,ec cs (0+2+1+38) 1,ec cs (0+2+1+38+1) 1,ec cs (0+2+1+38+1+1) 1];simp only[a_,Nat.reduceAdd];rw[e0,e1,e2,rK e3,rK e4,rK e5,List.drop_of_length_le (by omega),List.append_nil];unfold siC
 rfl
theorem XW {r:Reach} {b0:Nat} {v:Value} {dd:DataW H} {ps:List MemPlace} (hval:Value.okWide prog w r b0 61 v) (hd:DataW.Trod enc prog w ai sp held 61 v dd ps) :
  ∃(nx:Int) (q:Value) (tl:List K) (vi:Value) (ids:List Int) (b:BK) (u:Value) (bl:List K) (sd:List UInt8) (need n:Int),v = .agg (siC nx q vi b u sd need n).toArray∧RdK w q tl∧cQ tl∧RdE eI w vi ids∧(∀z∈ids,okI z)∧b.mach∧RdK w u bl∧cQ bl∧sd.length≤maxLen∧okI need∧okI n:=by
 obtain⟨cs,rfl,fuel,hf⟩:=mK nA hval hd;obtain⟨nx,q,tl,vi,ids,b,u,bl,sd,need,n,hcs,h1⟩:=WP hf;exact⟨nx,q,tl,vi,ids,b,u,bl,sd,need,n,by rw[oN hcs],h1⟩
end
end
section
open Go.RowKit Go.Shelf
def DJ (v u:Value):Prop:=∀g,v.ownBlock=some g→u.ownBlock≠some g
theorem DJ.symm {v u:Value} (h:DJ v u):DJ u v:=fun g h1 h2=>h g h2 h1
theorem DJ.left {β:Type} {F:El β} {w:World} {b:Nat} {v v' u:Value} {m:List β} (h:DJ v u) (ho:ap F w b u m) (hl:v'.ownBlock=v.ownBlock∨v'.ownBlock=some w.heap.size):DJ v' u:=by
 intro g h1 h2
 rcases hl with e|e
 ·exact h g (e ▸ h1) h2
 ·have := (ho.lt g h2).2
  rw[e] at h1
  cases h1
  omega
attribute [local irreducible] Calls shc shA eW xsP ysP F6.interp
end
section
open Go.RowKit Go.Shelf
structure CkW (l:List SH) (s0:SH) (b off g:Nat) (y:World):Prop where
 n:y.cell? ⟨g,16,none⟩=some (.int .i64 s0.need)
 t:y.cell? ⟨g,18,none⟩=some (.string ⟨s0.data.toArray⟩)
 d:y.rangeAt g 0 (am s0.set).toList
 a:∀j (hj:j<l.length),y.rangeAt b (off+j*19) (am l[j].set).toList∧y.cell? ⟨b,off+j*19+16,none⟩=some (.int .i64 l[j].need)∧y.cell? ⟨b,off+j*19+17,none⟩=some (.int .i64 l[j].idx)∧y.cell? ⟨b,off+j*19+18,none⟩=some (.string ⟨l[j].data.toArray⟩)
theorem CkW.on {l:List SH} {s0:SH} {b off g:Nat} {y z:World} (h:CkW l s0 b off g y) (hb:Below y.heap.size y z):CkW l s0 b off g z :=
 ⟨aQ hb h.n,aQ hb h.t,fun i x hx=>aQ hb (h.d i x hx),fun j hj=>⟨fun i x hx=>aQ hb ((h.a j hj).1 i x hx),aQ hb (h.a j hj).2.1,aQ hb (h.a j hj).2.2.1,aQ hb (h.a j hj).2.2.2⟩⟩
attribute [local irreducible] Calls shc shA ci kf eW
end
section
open Go.RowKit
def re:Except Int PS→Int
 | .ok _=>0
 | .error c=>c
open Go.RowKit Go.Shelf
structure tY (WL:World) (g6:Nat) (b:BK) (vk:Value) (ks:List K) (x:World):Prop where
 row:x.heap[g6]?=some (.cells (bc b vk) 47 (0,0))
 own:b7 x WL.heap.size vk ks
 grown:WL.grownBy x (some g6)
 lt:g6<WL.heap.size
theorem tY.on {WL:World} {g6:Nat} {b:BK} {vk:Value} {ks:List K} {x y:World} (h:tY WL g6 b vk ks x) (hb:Below x.heap.size x y):tY WL g6 b vk ks y :=
 ⟨by rw[hb.block _ (Q_.1 h.row).1];exact h.row,h.own.keep hb (A_ _),dT h.grown hb,h.lt⟩
theorem tY.app {WL:World} {g6:Nat} {b:BK} {vk vk':Value} {ks ks':List K} {x y:World} (h:tY WL g6 b vk ks x) (hb:Below WL.heap.size x y) (ho:b7 y WL.heap.size vk' ks'):tY WL g6 b vk' ks' (y.setRow g6 (bc b vk')):=by
 have aO:y.heap[g6]?=some (.cells (bc b vk) 47 (0,0)):=by rw[hb.block _ h.lt];exact h.row
 have hg:WL.grownBy y (some g6):=⟨hb.os.trans h.grown.os,hb.tape.trans h.grown.tape,hb.output.trans h.grown.output,M_ h.grown.size hb.size,fun k hk hne=>(hb.block k hk).trans (h.grown.block k hk hne)⟩;refine⟨setRow_heap _ _ _ _ _ _ aO,?_,bg hg (aD _ _ _),h.lt⟩;exact ho.grown (aD _ _ _) (fun g2 hg2=>by cases hg2;exact ho.neOld h.lt)
theorem tY.bel {w WL:World} {g6:Nat} {b:BK} {vk:Value} {ks:List K} {x:World} (h:tY WL g6 b vk ks x) (hw:Below w.heap.size w WL) (hg:w.heap.size≤g6):Below w.heap.size w x :=
 hw.trans (iV h.grown hg h.lt)
theorem tY.keep {WL:World} {g6:Nat} {b:BK} {vk:Value} {ks:List K} {x:World} (h:tY WL g6 b vk ks x) {g:Nat} {o:Obj} (hg:WL.heap[g]?=some o) (hne:g≠g6):x.heap[g]?=some o:=by
 rw[h.grown.block g (Q_.1 hg).1 (fun e=>hne (Option.some.inj e))];exact hg
attribute [local irreducible] Calls am aL aE blE blB pkB opE opB opK ctE ctK blT blO aI mac aV aJ gU eG kc
end
section
open Go.RowKit Go.Shelf
attribute [local irreducible] Calls
theorem T4 (nx:Int) (v:Value) (l:List K) (w:World) (hv:RdK w v l):Calls prog 40 #[.agg (tbA nx v)] w fun e w'=>e = .returned (.bool (aP nx l))∧Below w.heap.size w w':=Ab nx v l w hv
attribute [local irreducible] shc shA
def oC (nx:Int) (tl:List K) (b:BK) (bl:List K):Bool:=decide (tl.length≤12) && (decide (b.mo.length≤100) && (decide (bl.length≤12) && (bl.all (fun k=>decide (k.val.length≤100)) && aP nx tl)))
attribute [local irreducible] tbA aP
theorem EG (nx:Int) (vt:Value) (tl:List K) (b:BK) (v:Value) (l:List K) (w:World) (ht:RdK w vt tl) (hv:RdK w v l) :
  Calls prog 17 #[.agg (tbA nx vt),.agg (bc b v)] w fun e w'=>e = .returned (.bool (oC nx tl b l))∧Below w.heap.size w w':=by
 have hlen:=hv.len;unfold maxLen at hlen;have hlen2:=ht.len;unfold maxLen at hlen2;obtain⟨va,vc,rfl,_,_,_⟩:=id hv;obtain⟨ta,tc,rfl,_,_,_⟩:=id ht;obtain⟨W0,hW0⟩:∃W0,W0=(w.alloc (.cells (tbA nx (.slice ta tl.length tc)) 45)).alloc (.cells (bc b (.slice va l.length vc)) 47):=⟨_,rfl⟩;have HW:=O hW0;have HBE:Hid (Below w.heap.size w W0):=O (by rw[hW0];exact dm _ _ _ (O_ _ _));have HR1:Hid (W0.heap[w.heap.size+1]?=some (.cells (bc b (.slice va l.length vc)) 47 (0,0))):=O (by rw[hW0];exact eR _ _ _);have HR0:Hid (W0.heap[w.heap.size]?=some (.cells (tbA nx (.slice ta tl.length tc)) 45 (0,0))):=O (by rw[hW0];exact eP _ _ _);have HV:Hid (RdK W0 (.slice va l.length vc) l):=O (hv.on HBE.out);have HT:=O (T4 nx (.slice ta tl.length tc) tl W0 (ht.on HBE.out))
 have a1:W0.cell? ⟨w.heap.size,1,none⟩=some (.slice ta tl.length tc):=by rw[e_ _ _ _ _ _ _ HR0.out];unfold tbA;rfl
 have a36:W0.cell? ⟨w.heap.size+1,36,none⟩=some (.string ⟨b.mo.toArray⟩):=by rw[e_ _ _ _ _ _ _ HR1.out];exact uo _ _
 have a37:W0.cell? ⟨w.heap.size+1,37,none⟩=some (.slice va l.length vc):=by rw[e_ _ _ _ _ _ _ HR1.out];exact iU _ _
 have hcs:(¬tl.length≤12∧oC nx tl b l=false)∨(tl.length≤12∧¬b.mo.length≤100∧oC nx tl b l=false)∨(tl.length≤12∧b.mo.length≤100∧¬l.length≤12∧oC nx tl b l=false) ∨
   (tl.length≤12∧b.mo.length≤100∧l.length≤12∧oC nx tl b l=(l.all (fun k=>decide (k.val.length≤100)) && aP nx tl)):=by
  unfold oC
  by_cases h1:tl.length≤12
  ·by_cases h2:b.mo.length≤100
   ·by_cases h3:l.length≤12
    ·simp[h1,h2,h3]
    ·simp[h1,h2,h3]
   ·simp[h1,h2]
  ·simp[h1]
 have HCS:=O hcs;clear hv ht hW0 hcs
 rcases HCS.out with⟨h1,hr⟩|⟨h1,h2,hr⟩|⟨h1,h2,h3,hr⟩|⟨h1,h2,h3,hr⟩
 case inr.inr.inr =>
  have i1:¬(12:Int)<tl.length:=by omega
  have i2:¬(100:Int)<b.mo.length:=by omega
  have i3:¬(12:Int)<l.length:=by omega
  have HF:=O hr;clear hr h1 h2 h3 HCS
  go_enter func17,ntmps17
  go_upto_region 1 with fail
  rw[←HW.out]
  try dsimp only[Act.put]
  go_wp2
  go_loopw [5] (fun o wr=>∃i:Nat,i≤l.length∧o = .int .i64 i∧Hid (∀j,j<i→(ae l j).val.length≤100)∧wr=W0) (fun o _=>l.length-(intOf o).toNat)
  case atStart=>exact⟨0,N_ _,rfl,O (fun j hj=>absurd hj (by omega)),rfl⟩
  case round =>
   obtain⟨i,hi,rfl,hno,hwr⟩:=hrel;rw[hwr];clear hwr
   by_cases hlt:i<l.length
   ·obtain⟨bb,off,rfl,hb1,aO⟩:=(HV.out.cells) (by omega)
    obtain⟨d0,d1,d2,d3,d4,d5,d6,d7,d8⟩:=aO i hlt
    have j1:(i:Int)<l.length:=by omega
    have HK:=O hlt;have HNO:=hno;clear aO hno
    by_cases hq:(ae l i).val.length≤100
    ·have j2:¬(100:Int)<(ae l i).val.length:=by omega
     have HQ:=O hq;clear hq;go_wp2;go_roundw
     case rel=>exact⟨i+1,HK.out,by go_num,O (fun j hj=>by
      by_cases e:j=i
      ·subst e;exact HQ.out
      ·exact HNO.out j (by omega)),by first |exact rfl|exact trivial⟩
     case measure=>have := HK.out;simp[intOf];omega
    ·have j2:(100:Int)<(ae l i).val.length:=by omega
     have HRES:Hid (oC nx tl b l=false):=O (by
      rw[HF.out]
      have : l.all (fun k=>decide (k.val.length≤100))=false:=by
       rw[List.all_eq_false];refine⟨ae l i,?_,by simpa using hq⟩;rw[az l i hlt];exact List.getElem_mem hlt
      rw[this]
      rfl)
     clear hq hlt;go_wp2;go_ret;exact⟨by rw[HRES.out];rfl,HBE.out⟩
   ·have j1:(l.length:Int)≤i:=by omega
    have HA:Hid (oC nx tl b l=aP nx tl):=O (by
     rw[HF.out]
     have : l.all (fun k=>decide (k.val.length≤100))=true:=by
      rw[List.all_eq_true];intro k hk;obtain⟨j,hj,rfl⟩:=List.mem_iff_getElem.1 hk;have := hno.out j (by omega);rw[az l j hj] at this
      simpa using this
     rw[this,Bool.true_and])
    clear hno hlt hi
    go_wp2_with (first
     |(refine dw nx (.slice ta tl.length tc) rfl (.tmp 2) rfl w.heap.size rfl _ HR0.out ?_)
     |(go_at_call 40;refine HT.out.mono ?_;rintro e x1 ⟨rfl,hx1⟩;have HX:=O (HBE.out.trans (hx1.mono HBE.out.size));clear hx1))
    go_ret;exact⟨by rw[HA.out];rfl,HX.out⟩
 ·have HF:=O hr
  have i1:(12:Int)<tl.length:=by omega
  clear hr h1 HCS
  go_enter func17,ntmps17
  go_upto_region 1 with fail
  rw[←HW.out]
  try dsimp only[Act.put]
  go_wp2;go_ret;exact⟨by rw[HF.out];rfl,HBE.out⟩
 ·have HF:=O hr
  have i1:¬(12:Int)<tl.length:=by omega
  have i2:(100:Int)<b.mo.length:=by omega
  clear hr h1 h2 HCS
  go_enter func17,ntmps17
  go_upto_region 1 with fail
  rw[←HW.out]
  try dsimp only[Act.put]
  go_wp2;go_ret;exact⟨by rw[HF.out];rfl,HBE.out⟩
 ·have HF:=O hr
  have i1:¬(12:Int)<tl.length:=by omega
  have i2:¬(100:Int)<b.mo.length:=by omega
  have i3:(12:Int)<l.length:=by omega
  clear hr h1 h2 h3 HCS
  go_enter func17,ntmps17
  go_upto_region 1 with fail
  rw[←HW.out]
  try dsimp only[Act.put]
  go_wp2;go_ret;exact⟨by rw[HF.out];rfl,HBE.out⟩
end
section
open Go.RowKit
theorem YO (k:K) (n:Int):(kc k).setIfInBounds 0 (.int .i64 n)=kc (aW k n):=rfl
theorem SA (k:K) (n:Int):(kc k).setIfInBounds 7 (.int .i64 n)=kc (aU k n):=rfl
theorem Hk (y:World) (g i:Nat) (k k':K) (x:Int) (T:TypeId) (hg:y.heap[g]?=some (.cells (kc k) T (0,0))) (hi:i<9) (he:(kc k).setIfInBounds i (.int .i64 x)=kc k'):(storeVar 3 ⟨g,i,none⟩ (.int .i64 x)).run prog y = .ok () (y.setRow g (kc k')):=by
 have hs:(kc k).size=9:=rfl;rw[vJ y ⟨g,i,none⟩ x ((kc k)[i]'(by rw[hs];exact hi)) (by rw[e_ _ _ _ _ _ _ hg];simp[hs,hi]) (frozen_of_row _ _ i _ _ hg),au _ _ _ _ _ _ _ hg,he]
theorem mh (b:BinOp) (T T':TypeId) (x y:Operand) (v1 v2 v:Value) (ho:o.op = .binOp b T x y T') (hgd:Region.wanted o (yielded ops a.tmps)=true) (hx:a.eval x=v1) (hy:a.eval y=v2) (hg:∀w,(eqGuard b T x y v1 v2).run prog w = .ok () w) (hr:∀w,(binOp b T v1 v2).run prog w = .ok v w)
  (h:wpList prog ops Q rest (a.put o.dst v) w):wpList prog ops Q (o::rest) a w :=
 wpList_step fun K hK=>by
  rw[G_ hgd];unfold Oper.wp execOp;simp only[ho,hx,hy,hg,hr,Sem.run_bind,Sem.run_pure,Result.andThen_ok];exact hK _ _ h
theorem xi (m n:Tmp) (x y:Array Value) (w:World):(eqGuard .eql 23 (.tmp m) (.tmp n) (.agg x) (.agg y)).run prog w = .ok () w:=by kernel_rfl
theorem QY (m n:Tmp) (x y:Array Value) (w:World):(eqGuard .neq 23 (.tmp m) (.tmp n) (.agg x) (.agg y)).run prog w = .ok () w:=by kernel_rfl
theorem bS.new2 {J:World→Prop} (hs:bS J) {y ya yb:World} (h:J y) {g:Nat} {cs cs' ds ds':Array Value} {T U:TypeId} (hg:y.heap.size=g) (h0:ya.heap[g]?=some (.cells cs' T (0,0))) (ho:∀k,k≠g→ya.heap[k]? = ((y.alloc (.cells cs T)).alloc (.cells ds U)).heap[k]?) (hb:∀B,B≤g→Below B ((y.alloc (.cells cs T)).alloc (.cells ds U)) ya)
  (h1:yb.heap[g+1]?=some (.cells ds' U (0,0))) (ho1:∀k,k≠g+1→yb.heap[k]? = ya.heap[k]?) (hb1:∀B,B≤g+1→Below B ya yb):(J yb∧yb.heap[g]?=some (.cells cs' T (0,0)))∧yb.heap[g+1]?=some (.cells ds' U (0,0)):=by
 subst hg;exact⟨⟨hs.on y _ h (((dm y _ _ (O_ _ _)).trans (hb y.heap.size (A_ _))).trans (hb1 y.heap.size (by omega))),(ho1 _ (by omega)).trans h0⟩,h1⟩
open Go.RowKit Go.Shelf
def mgC (n:Int) (v vi:Value) (e:Int):Array Value := #[.int .i64 n,v,vi,.int .i64 e]
def zMG:Array Value:=mgC 0 ah ah 0
section
theorem Di (n:Int) (v:Value) (g:Nat) (x:Operand) (ho:o.op = .load 45 x) (hc:w.rangeAt g 0 (tbA n v).toList) (hx:a.eval x = .pointer (some ⟨g,0,none⟩)) (hgd:Region.wanted o (yielded ops a.tmps)=true)
  (h:wpList prog ops Q rest (a.put o.dst (.agg (tbA n v))) w):wpList prog ops Q (o::rest) a w :=
 wpList_step fun K hK=>by
  rw[G_ hgd];exact wp_load_mid _ x ho g 0 hx (tbA n v).toList _ hc underlying45 rfl qB (hK _ _ h)
end
structure MR (w:World) (d:DO) (g14:Nat) (b:BK) (bv:Value) (L:List K) (y:World):Prop where
 bw:Below w.heap.size w y
 r3:y.heap[w.heap.size+3]?=some (.cells zMG 77 (0,0))
 r14:y.heap[g14]?=some (.cells (bc b bv) 47 (0,0))
 lk:RdK y bv L
theorem MR.on {w y y':World} {d:DO} {g14:Nat} {b:BK} {bv:Value} {L:List K} (h:MR w d g14 b bv L y) (hb:Below y.heap.size y y'):MR w d g14 b bv L y' :=
 ⟨h.bw.trans (hb.mono h.bw.size),aa h.r3 hb,aa h.r14 hb,h.lk.on hb⟩
theorem MR.grown {w y y':World} {d:DO} {g14 B:Nat} {b:BK} {ba:Option Addr} {bn bd:Nat} {L:List K} {row:Option Nat} (h:MR w d g14 b (.slice ba bn bd) L y) (hg:y.grownBy y' row) (hB:∀q,row=some q→B≤q) (h0:w.heap.size≤B) (h3:w.heap.size+3<B) (h14:g14<B) (hlk:∀p,ba=some p→p.block<B) (hsz:B≤y.heap.size):MR w d g14 b (.slice ba bn bd) L y':=by
 have hb:Below B y y':=(O_ B y).grown hg hsz hB;refine⟨h.bw.trans (hb.mono h0),?_,?_,h.lk.grownB hg (fun p hp q hq => ?_)⟩
 ·rw[hb.block _ h3];exact h.r3
 ·rw[hb.block _ h14];exact h.r14
 ·have := hB q hq
  have := hlk p hp
  omega
theorem MR.set {w y:World} {d:DO} {g14 g:Nat} {b:BK} {bv:Value} {L:List K} {cs:Array Value} {T:TypeId} (h:MR w d g14 b bv L y) (hg:y.heap[g]?=some (.cells cs T (0,0))) (hn:nbC cs=true) (h3:w.heap.size+3<g) (h14:g14<g) {y':World} (ho:∀k,k≠g→y'.heap[k]? = y.heap[k]?) (hb:∀B,B≤g→Below B y y'):MR w d g14 b bv L y' :=
 ⟨h.bw.trans (hb _ (by omega)),(ho _ (by omega)).trans h.r3,(ho _ (by omega)).trans h.r14,h.lk.nb hg hn ho (hb 0 (N_ _)).size⟩
structure LR (w:World) (d:DO) (g14 g16 BW:Nat) (b:BK) (bv:Value) (L:List K) (m:MG) (ua:Option Addr) (uc:Nat) (ia:Option Addr) (ic:Nat) (y:World):Prop where
 mr:MR w d g14 b bv L y
 r16:y.heap[g16]?=some (.cells (mgC m.nx (.slice ua m.tl.length uc) (.slice ia m.ids.length ic) 0) 77 (0,0))
 tk:RdK y (.slice ua m.tl.length uc) m.tl
 ow:ap eI y BW (.slice ia m.ids.length ic) m.ids
 sz:BW≤y.heap.size
theorem LR.on {w y y':World} {d:DO} {g14 g16 BW:Nat} {b:BK} {bv:Value} {L:List K} {m:MG} {ua:Option Addr} {uc:Nat} {ia:Option Addr} {ic:Nat} (h:LR w d g14 g16 BW b bv L m ua uc ia ic y) (hb:Below y.heap.size y y'):LR w d g14 g16 BW b bv L m ua uc ia ic y' :=
 ⟨h.mr.on hb,aa h.r16 hb,h.tk.on hb,h.ow.on hb,M_ h.sz hb.size⟩
end
section
open Go.RowKit
theorem Iz (nx:Int) (v u:Value) (l:List K) (w:World) (hv:RdK w v l) (hu:RdK w u l) :
  Calls prog 26 #[.agg (tbA nx v),.agg (tbA nx u)] w fun e w'=>e = .returned (.bool true)∧Below w.heap.size w w':=by
 have h:=Rh nx nx v u l l w hv hu;rw[show decide (nx=nx∧l=l)=true by simp] at h;exact h
theorem uU {nx:Int} {l:List K} {b:BK} {m:List K} (h:oC nx l b m=true):aP nx l=true:=by
 unfold oC at h;simp only[T_] at h;exact h.2.2.2.2
open Go.RowKit
theorem AX {nx:Int} {l:List K} {b:BK} {m:List K} (h:oC nx l b m=true):l.length≤12:=by
 unfold oC at h;simp only[T_,decide_eq_true_eq] at h;exact h.1
open Go.RowKit
theorem mid_at (a b c:List Value) {n:Nat} (hn:a.length=n) (i:Nat) (x:Value) (h:b[i]?=some x):(a++(b++c))[n+i]?=some x:=by
 subst hn;rw[List.getElem?_append_right (by omega),Nat.add_sub_cancel_left,List.getElem?_append_left (d_.1 h).1,h]
theorem YT (n:Int) (v:Value) (g off:Nat) (x:Operand) (ho:o.op = .load 45 x) (hc:w.rangeAt g off (tbA n v).toList) (hx:a.eval x = .pointer (some ⟨g,off,none⟩)) (hgd:Region.wanted o (yielded ops a.tmps)=true)
  (h:wpList prog ops Q rest (a.put o.dst (.agg (tbA n v))) w):wpList prog ops Q (o::rest) a w :=
 wpList_step fun K hK=>by
  rw[G_ hgd];exact wp_load_mid _ x ho g off hx (tbA n v).toList _ hc underlying45 rfl qB (hK _ _ h)
theorem WQ (nx:Int) (v vi:Value) (b:BK) (u:Value) (sd:List UInt8) (need n:Int) :
  (∀i x,(tbA nx v).toList[i]?=some x→(siC nx v vi b u sd need n).toArray[0+i]?=some x)∧(∀i x,(bc b u).toList[i]?=some x→(siC nx v vi b u sd need n).toArray[3+i]?=some x) ∧
  (siC nx v vi b u sd need n).toArray[0]?=some (.int .i64 nx)∧(siC nx v vi b u sd need n).toArray[1]?=some v∧(siC nx v vi b u sd need n).toArray[2]?=some vi ∧
  ((bc b u).size=38→(siC nx v vi b u sd need n).toArray[41]?=some (.string ⟨sd.toArray⟩)∧(siC nx v vi b u sd need n).toArray[42]?=some (.int .i64 need)∧(siC nx v vi b u sd need n).toArray[43]?=some (.int .i64 n)):=by
 have a0:∀i x,[Value.int .i64 nx,v][i]?=some x→(siC nx v vi b u sd need n)[0+i]?=some x:=fun i x h=>mid_at [] _ _ rfl i x h
 have e1:siC nx v vi b u sd need n=[.int .i64 nx,v,vi]++((bc b u).toList++([.string ⟨sd.toArray⟩]++([.int .i64 need]++[.int .i64 n]))):=by unfold siC;simp
 have a1:∀i x,(bc b u).toList[i]?=some x→(siC nx v vi b u sd need n)[3+i]?=some x:=fun i x h=>by
  rw[e1];exact mid_at _ _ _ rfl i x h
 have e3:siC nx v vi b u sd need n=([.int .i64 nx,v,vi]++(bc b u).toList)++([.string ⟨sd.toArray⟩,.int .i64 need,.int .i64 n]++[]):=by unfold siC;simp
 simp only[List.getElem?_toArray];refine⟨a0,a1,rfl,rfl,rfl,fun hs => ?_⟩
 have a3:∀i x,[Value.string ⟨sd.toArray⟩,.int .i64 need,.int .i64 n][i]?=some x→(siC nx v vi b u sd need n)[41+i]?=some x:=fun i x h=>by
  rw[e3];exact mid_at _ _ _ (by simp[hs]) i x h
 exact⟨a3 0 _ rfl,a3 1 _ rfl,a3 2 _ rfl⟩
open Go.RowKit
theorem Tm (nx:Int) (vt:Value) (d:DO) (vs:Value) (x:List UInt8) (vg:Value):zPA.size=(ptA nx vt d vs x vg).size:=by rw[fL,nD]
end
end
end Go.Proofs.YtmfiaadjdbemnaaGreatDoor
