/- Contracts and lemmas. No condition. -/
import Derived.Test.YtmfiaadjdbemnaaGreatDoorLMg01
import Derived.Test.YtmfiaadjdbemnaaGreatDoorSB17
import Derived.Test.YtmfiaadjdbemnaaGreatDoorSB07
set_option maxRecDepth 100000
set_option maxHeartbeats 8000000
set_option linter.unusedSimpArgs false
set_option linter.unusedVariables false
namespace Go.Proofs.YtmfiaadjdbemnaaGreatDoor
open Go.Proofs.Tryz
section
open Go.RowKit
attribute [local irreducible] win Calls
theorem ov (k:K) (w:World):Calls prog 75 #[kv k] w fun e w'=>e = .returned (.bool (bf k))∧Below w.heap.size w w':=by
 unfold kv kc;have hb:=(O_ w.heap.size w).alloc (A_ _) (.cells #[.int .i64 k.id,.int .i64 k.ty,.string ⟨k.val.toArray⟩,.int .i64 k.uses,.int .i64 k.start,.int .i64 k.fin,.int .i64 k.ver,.int .i64 k.par,.bool k.raw] 86);have HB:=O hb;clear hb
 go_enter func75,ntmps75
 go_wp2_with (go_at_call 74;refine(Af _ _ _ _).mono ?_;rintro e _ ⟨rfl,rfl⟩)
 all_goals
  go_ret;refine⟨?_,HB.out⟩
  simp_all [bf,wu]
end
section
open Go.RowKit Go.Shelf
theorem G2 (nx:Int) (l:List K) (i:Nat):(oE nx l i=false∧bf (ae l i)=false)∨(oE nx l i=false∧bf (ae l i)=true∧(ae l i).id≤cv l i) ∨
  (oE nx l i=false∧bf (ae l i)=true∧¬(ae l i).id≤cv l i∧nx≤(ae l i).id) ∨
  (oE nx l i=false∧bf (ae l i)=true∧¬(ae l i).id≤cv l i∧¬nx≤(ae l i).id∧nx≤(ae l i).par) ∨
  (oE nx l i=true∧bf (ae l i)=true∧¬(ae l i).id≤cv l i∧¬nx≤(ae l i).id∧¬nx≤(ae l i).par):=by
 unfold oE
 by_cases h0:bf (ae l i)=true
 ·by_cases h1:(ae l i).id≤cv l i
  ·exact .inr (.inl ⟨by rw[V_ (by omega:¬cv l i<(ae l i).id)];simp,h0,h1⟩)
  ·by_cases h2:nx≤(ae l i).id
   ·exact .inr (.inr (.inl ⟨by rw[V_ (by omega:¬(ae l i).id<nx)];simp,h0,h1,h2⟩))
   ·by_cases h3:nx≤(ae l i).par
    ·exact .inr (.inr (.inr (.inl ⟨by rw[V_ (by omega:¬(ae l i).par<nx)];simp,h0,h1,h2,h3⟩)))
    ·exact .inr (.inr (.inr (.inr ⟨by rw[h0,decide_eq_true (by omega:cv l i<(ae l i).id),decide_eq_true (by omega:(ae l i).id<nx),decide_eq_true (by omega:(ae l i).par<nx)];rfl,h0,h1,h2,h3⟩)))
 ·have h0':bf (ae l i)=false:=by simpa using h0
  exact .inl ⟨by rw[h0'];rfl,h0'⟩
theorem ww (nx:Int) (l:List K) (i:Nat) (hi:i<l.length) (h:oE nx l i=false):aP nx l=false:=by
 have : (List.range l.length).all (oE nx l)=false:=by
  rw[List.all_eq_false];exact⟨i,List.mem_range.2 hi,by rw[h];decide⟩
 rw[aP,this];simp
theorem wJ (nx:Int) (l:List K) (h1:l.length≤4096) (h2:win nx 1 2147483647=true) (h:∀j,j<l.length→oE nx l j=true):aP nx l=true:=by
 have : (List.range l.length).all (oE nx l)=true:=List.all_eq_true.2 (fun i hi=>h i (List.mem_range.1 hi));rw[aP,this,h2,decide_eq_true h1];rfl
theorem zZ (nx:Int) (l:List K) (h1:¬l.length≤4096):aP nx l=false:=by rw[aP,V_ h1];rfl
theorem Aa (nx:Int) (l:List K) (h2:win nx 1 2147483647=false):aP nx l=false:=by rw[aP,h2];simp
attribute [local irreducible] Calls aP oE bf cv win
theorem Ab (nx : Int) (v : Value) (l : List K) (w : World) (hv : RdK w v l) :
  Calls prog 40 #[.agg #[.int .i64 nx,v]] w fun e w'=>e = .returned (.bool (aP nx l))∧Below w.heap.size w w':=by
 have hlen:=hv.len;unfold maxLen at hlen;obtain⟨W0,hW0⟩:∃W0,W0=w.alloc (.cells #[.int .i64 nx,v] 45):=⟨_,rfl⟩
 have hvw:RdK W0 v l:=by rw[hW0];exact hv.alloc _
 have hbx:∀w1,Below W0.heap.size W0 w1→w1.cell? ⟨w.heap.size,0,none⟩=some (.int .i64 nx)∧w1.cell? ⟨w.heap.size,1,none⟩=some v:=by
  intro w1 h;rw[hW0] at h;exact⟨gi _ _ _ h 0,gi _ _ _ h 1⟩
 have hbe:∀w1,Below W0.heap.size W0 w1→Below w.heap.size w w1:=by
  intro w1 h;rw[hW0] at h;exact cJ _ _ h
 have hsz:w.heap.size<W0.heap.size:=by rw[hW0];simp
 have HV:=O hvw;have HBX:=O hbx;have HBE:=O hbe;have HW:=O hW0;obtain⟨a,cap,rfl,_,_,_⟩:=hv;clear hW0 hvw hbx hbe
 by_cases hl1:l.length≤4096
 ·have j1 : ¬ (4096 : Int) < l.length := by omega
  cases hw2:win nx 1 2147483647 with
  | true =>
    have hwr:=fun w=>Af nx 1 2147483647 w;rw[hw2] at hwr;have HWR:=O hwr;have HT0:=O (fun i hi h=>ww nx l i hi h);have HT1:=O (wJ nx l hl1 hw2);clear hwr hw2
    go_enter func40,ntmps40
    go_wp2_with (go_at_call 74;refine(HWR.out _).mono ?_;rintro e wf ⟨rfl,hwf⟩;rw[hwf];clear hwf)
    go_loopw [3,4] (fun la o wr=>∃i:Nat,i≤l.length∧o = .int .i64 i∧la = .int .i64 (cv l i)∧Hid (∀j,j<i→oE nx l j=true)∧Below W0.heap.size W0 wr) (fun _ o _=>l.length-(intOf o).toNat)
    case atStart=>exact⟨0,N_ _,rfl,by rw[gR],O (fun j hj=>absurd hj (by omega)),by rw[←HW.out];exact O_ _ _⟩
    case round =>
     obtain⟨i,hi,rfl,rfl,hno,hb⟩:=hrel;obtain⟨t0,t1⟩:=HBX.out wr hb;have hbs:=hb.size
     have z0:w.heap.size<wr.heap.size:=by omega
     have z0':w.heap.size≠wr.heap.size:=by omega
     by_cases hlt:i<l.length
     ·obtain⟨bb,off,rfl,hbl,aO⟩:=((HV.out.on hb).cells) (by omega)
      obtain⟨d0,d1,d2,d3,d4,d5,d6,d7,d8⟩:=aO i hlt
      have i1:(i:Int)<l.length:=by omega
      have HK:=O hlt;have HNO:=hno;have HB:=O hb;have hval:=ov (ae l i) (wr.alloc (.cells (kc (ae l i)) 86))
      have hbx2:∀w1,Below (wr.alloc (.cells (kc (ae l i)) 86)).heap.size (wr.alloc (.cells (kc (ae l i)) 86)) w1 →
        w1.cell? ⟨wr.heap.size,0,none⟩=some (.int .i64 (ae l i).id)∧w1.cell? ⟨wr.heap.size,7,none⟩=some (.int .i64 (ae l i).par)∧w1.cell? ⟨w.heap.size,0,none⟩=some (.int .i64 nx)∧Below W0.heap.size W0 w1:=by
       intro w1 h;have h2:=HB.out.trans ((cJ _ _ h).mono hbs);exact⟨gi _ _ _ h 0,gi _ _ _ h 7,(HBX.out _ h2).1,h2⟩
      unfold kv at hval;unfold kc at hval hbx2;have HLS:=O (gQ l i);have HX2:=O hbx2;clear aO hb hno hbx2
      rcases G2 nx l i with⟨ho,h1⟩|⟨ho,h1,h2⟩|⟨ho,h1,h2,h3⟩|⟨ho,h1,h2,h3,h4⟩|⟨ho,h1,h2,h3,h4⟩
      case inr.inr.inr.inr =>
       rw[h1] at hval;have HVAL:=O hval;have HO:=O ho;clear hval h1 ho
       go_wp2_with (go_at_call 75;refine HVAL.out.mono ?_;rintro e w1 ⟨rfl,hb'⟩;obtain⟨e0,e7,n0,hbb⟩:=HX2.out _ hb';clear hb')
       go_roundw
       case rel=>exact⟨i+1,HK.out,by go_num,by rw[HLS.out],O (fun j hj=>by
        by_cases e:j=i
        ·subst e;exact HO.out
        ·exact HNO.out j (by omega)),hbb⟩
       case measure=>have := HK.out;simp[intOf];omega
      all_goals
       have HRES:=O (HT0.out i HK.out ho);rw[h1] at hval;have HVAL:=O hval;clear hval h1 ho
       go_wp2_with (go_at_call 75;refine HVAL.out.mono ?_;rintro e w1 ⟨rfl,hb'⟩;obtain⟨e0,e7,n0,hbb⟩:=HX2.out _ hb';clear hb')
       go_ret;exact⟨by rw[HRES.out];rfl,HBE.out _ hbb⟩
     ·have he:i=l.length:=by omega
      have i1:(l.length:Int)≤i:=by omega
      have HRES:=O (HT1.out (fun j hj=>hno.out j (by omega)));clear hno he;go_wp2;go_ret;exact⟨by rw[HRES.out];rfl,HBE.out _ hb⟩
  | false =>
    have hwr:=fun w=>Af nx 1 2147483647 w;rw[hw2] at hwr;have HWR:=O hwr;rw[Aa nx l hw2];clear hwr hw2
    go_enter func40,ntmps40
    go_wp2_with (go_at_call 74;refine(HWR.out _).mono ?_;rintro e wf ⟨rfl,hwf⟩;rw[hwf];clear hwf)
    go_ret;exact⟨rfl,HBE.out _ (by rw[←HW.out];exact O_ _ _)⟩
 ·have j1:(4096:Int)<l.length:=by omega
  rw[zZ nx l hl1]
  go_enter func40,ntmps40
  go_wp2;go_ret;exact⟨rfl,HBE.out _ (by rw[←HW.out];exact O_ _ _)⟩
end
section
open Go.RowKit Go.Shelf
attribute [local irreducible] Calls
theorem MB (n hi:Int) (w:World):Calls prog 124 #[.int .i64 n,.int .i64 hi] w fun e w'=>e = .returned (.bool (win n 0 hi))∧w'=w:=by
 unfold win
 by_cases h1:0≤n
 ·by_cases h2:n≤hi
  ·go_enter func124,ntmps124
   go_wp2;go_ret
   simp[h1,h2]
  ·go_enter func124,ntmps124
   go_wp2;go_ret
   simp[h1,h2]
 ·go_enter func124,ntmps124
  go_wp2;go_ret;refine⟨?_,rfl⟩;rw[V_ (by omega:¬0≤n)]
  rfl
end
section
open Go.RowKit Go.Shelf
theorem Be (b:BK) (l:List K) :
  (eY b l=true∧win b.ep 0 2147483647=true∧win b.num 0 2147483647=true∧win b.fw 0 2147483647=true∧win b.tm 0 1099511627776=true∧¬(b.mo.length:Int)<1∧¬12<(b.mo.length:Int)∧¬4096<(l.length:Int)) ∨
  (eY b l=false∧win b.ep 0 2147483647=false) ∨
  (eY b l=false∧win b.ep 0 2147483647=true∧win b.num 0 2147483647=false) ∨
  (eY b l=false∧win b.ep 0 2147483647=true∧win b.num 0 2147483647=true∧win b.fw 0 2147483647=false) ∨
  (eY b l=false∧win b.ep 0 2147483647=true∧win b.num 0 2147483647=true∧win b.fw 0 2147483647=true∧win b.tm 0 1099511627776=false) ∨
  (eY b l=false∧win b.ep 0 2147483647=true∧win b.num 0 2147483647=true∧win b.fw 0 2147483647=true∧win b.tm 0 1099511627776=true∧(b.mo.length:Int)<1) ∨
  (eY b l=false∧win b.ep 0 2147483647=true∧win b.num 0 2147483647=true∧win b.fw 0 2147483647=true∧win b.tm 0 1099511627776=true∧¬(b.mo.length:Int)<1∧12<(b.mo.length:Int)) ∨
  (eY b l=false∧win b.ep 0 2147483647=true∧win b.num 0 2147483647=true∧win b.fw 0 2147483647=true∧win b.tm 0 1099511627776=true∧¬(b.mo.length:Int)<1∧¬12<(b.mo.length:Int)∧4096<(l.length:Int)):=by
 unfold eY
 cases h1:win b.ep 0 2147483647
 ·simp
 cases h2:win b.num 0 2147483647
 ·simp
 cases h3:win b.fw 0 2147483647
 ·simp
 cases h4:win b.tm 0 1099511627776
 ·simp
 by_cases h5:(b.mo.length:Int)<1
 ·have : ¬1≤b.mo.length:=by omega
  simp[h5,this]
 by_cases h6:12<(b.mo.length:Int)
 ·have : ¬b.mo.length≤12:=by omega
  simp[h5,h6,this]
 by_cases h7:4096<(l.length:Int)
 ·have : ¬l.length≤4096:=by omega
  simp[h5,h6,h7,this]
 have a5:1≤b.mo.length:=by omega
 have a6:b.mo.length≤12:=by omega
 have a7:l.length≤4096:=by omega
 simp[h5,h6,h7,a5,a6,a7]
attribute [local irreducible] Calls aI okB bf cv win eY
theorem rg (b:BK) (u:Value) (l:List K) (w:World) (hv:RdK w u l) :
  Calls prog 80 #[.agg (bc b u)] w fun e w'=>e = .returned (.bool (aI b l))∧Below w.heap.size w w':=by
 have hlen:=hv.len;unfold maxLen at hlen;obtain⟨W0,hW0⟩:∃W0,W0=w.alloc (.cells (bc b u) 47):=⟨_,rfl⟩
 have hvw:RdK W0 u l:=by rw[hW0];exact hv.alloc _
 have hbx:∀w1,Below W0.heap.size W0 w1→w1.cell? ⟨w.heap.size,37,none⟩=some u:=by
  intro w1 h;rw[hW0] at h;rw[gi _ _ _ h 37];exact iU b u
 have hbe:∀w1,Below W0.heap.size W0 w1→Below w.heap.size w w1:=by
  intro w1 h;rw[hW0] at h;exact cJ _ _ h
 have hsz:w.heap.size<W0.heap.size:=by rw[hW0];simp
 have HV:=O hvw;have HBX:=O hbx;have HBE:=O hbe;have HW:=O hW0
 have hve:aI b l=(eY b l && (List.range l.length).all (okB l)):=by unfold aI;rfl
 rw[hve];obtain⟨a,cap,rfl,_,_,_⟩:=hv;clear hW0 hvw hbx hbe hve
 rcases Be b l with⟨hh,f1,f2,f3,f4,f5,f6,f7⟩|⟨hh,f1⟩|⟨hh,f1,f2⟩|⟨hh,f1,f2,f3⟩|⟨hh,f1,f2,f3,f4⟩|⟨hh,f1,f2,f3,f4,f5⟩|⟨hh,f1,f2,f3,f4,f5,f6⟩|⟨hh,f1,f2,f3,f4,f5,f6,f7⟩
 case inl =>
  rw[hh,Bool.true_and];have HT0:=O (fun i hi h=>uf l i hi h);have HT1:=O (wN l);clear hh
  go_enter func80,ntmps80
  go_wp2_with (go_at_call 124;refine(MB _ _ _).mono ?_;rintro e wf ⟨rfl,hwf⟩;rw[hwf];clear hwf)
  go_loopw [3,4] (fun la o wr=>∃i:Nat,i≤l.length∧o = .int .i64 i∧la = .int .i64 (cv l i)∧Hid (∀j,j<i→okB l j=true)∧Below W0.heap.size W0 wr) (fun _ o _=>l.length-(intOf o).toNat)
  case atStart=>exact⟨0,N_ _,rfl,by rw[gR],O (fun j hj=>absurd hj (by omega)),by rw[←HW.out];exact O_ _ _⟩
  case round =>
   obtain⟨i,hi,rfl,rfl,hno,hb⟩:=hrel;have t1:=HBX.out wr hb;have hbs:=hb.size
   by_cases hlt:i<l.length
   ·obtain⟨bb,off,rfl,hbl,aO⟩:=((HV.out.on hb).cells) (by omega)
    obtain⟨d0,d1,d2,d3,d4,d5,d6,d7,d8⟩:=aO i hlt
    have i1:(i:Int)<l.length:=by omega
    have HK:=O hlt;have HNO:=hno;have HB:=O hb;have hval:=ov (ae l i) wr
    have hbx2:∀w1,Below wr.heap.size wr w1→w1.cell? ⟨bb,off+i*9,none⟩=some (.int .i64 (ae l i).id)∧w1.cell? ⟨w.heap.size,37,none⟩=some (.slice (some ⟨bb,off,none⟩) l.length cap)∧Below W0.heap.size W0 w1:=by
     intro w1 h;have h2:=HB.out.trans (h.mono hbs);exact⟨by rw[h.cell (p:=⟨bb,off+i*9,none⟩) hbl];exact d0,HBX.out _ h2,h2⟩
    unfold kv kc at hval;have HLS:=O (gQ l i);have HX2:=O hbx2;clear aO hb hno hbx2
    rcases BA l i with⟨ho,h1⟩|⟨ho,h1,h2⟩|⟨ho,h1,h2,h3⟩|⟨ho,h1,h2,h3⟩
    case inr.inr.inr =>
     rw[h1] at hval;have HVAL:=O hval;have HO:=O ho;clear hval h1 ho
     go_wp2_with (go_at_call 75;refine HVAL.out.mono ?_;rintro e w1 ⟨rfl,hb'⟩;obtain⟨e0,n0,hbb⟩:=HX2.out _ hb';clear hb')
     go_roundw
     case rel=>exact⟨i+1,HK.out,by go_num,by rw[HLS.out],O (fun j hj=>by
      by_cases e:j=i
      ·subst e;exact HO.out
      ·exact HNO.out j (by omega)),hbb⟩
     case measure=>have := HK.out;simp[intOf];omega
    all_goals
     have HRES:=O (HT0.out i HK.out ho);rw[h1] at hval;have HVAL:=O hval;clear hval h1 ho
     go_wp2_with (go_at_call 75;refine HVAL.out.mono ?_;rintro e w1 ⟨rfl,hb'⟩;obtain⟨e0,n0,hbb⟩:=HX2.out _ hb';clear hb')
     go_ret;exact⟨by rw[HRES.out];rfl,HBE.out _ hbb⟩
   ·have he:i=l.length:=by omega
    have i1:(l.length:Int)≤i:=by omega
    have HRES:=O (HT1.out (fun j hj=>hno.out j (by omega)));clear hno he;go_wp2;go_ret;exact⟨by rw[HRES.out];rfl,HBE.out _ hb⟩
 all_goals
  rw[hh,Bool.false_and];clear hh
  go_enter func80,ntmps80
  go_wp2_with (go_at_call 124;refine(MB _ _ _).mono ?_;rintro e wf ⟨rfl,hwf⟩;rw[hwf];clear hwf)
  go_ret;exact⟨rfl,HBE.out _ (by rw[←HW.out];exact O_ _ _)⟩
end
section
open Go.RowKit Go.Shelf
theorem du (d:Nat) (xs ys:Array Value) (f:Field) (fs:List Field) (hn:f.name ≠ "_") (w:World) (a b:Value) (r:Bool) (h1:(part f.type xs f.offset).run prog w = .ok a w) (h2:(part f.type ys f.offset).run prog w = .ok b w)
  (h3:(Op.equalIn d f.type a b).run prog w = .ok r w):(Op.eqFields d xs ys (f::fs)).run prog w=if r=true then (Op.eqFields d xs ys fs).run prog w else .ok false w:=by
 simp only[Op.eqFields,hn,ne_eq,not_false_eq_true,if_true,Sem.run_bind,h1,h2,h3,Result.andThen_ok]
 cases r <;> rfl
open Go.RowKit Go.Shelf
theorem JP:(prog.fieldsOf 86).toList.map (fun f=>(f.name == "_",f.type,f.offset))=[(false,3,0),(false,3,1),(false,9,2),(false,3,3),(false,3,4),(false,3,5),(false,3,6),(false,3,7),(false,4,8)]:=by kernel_rfl
theorem pT (w:World):(isAgg 3).run prog w = .ok false w:=by simp[isAgg,run_underlying underlying3]
theorem U3 (w:World):(isAgg 9).run prog w = .ok false w:=by simp[isAgg,run_underlying underlying9]
theorem U2 (w:World):(isAgg 4).run prog w = .ok false w:=by simp[isAgg,run_underlying underlying4]
def kEq (a b:K):Bool:=(a.id == b.id) && ((a.ty == b.ty) && ((a.val == b.val) && ((a.uses == b.uses) && ((a.start == b.start) && ((a.fin == b.fin) && ((a.ver == b.ver) && ((a.par == b.par) && ((a.raw == b.raw)))))))))
theorem Ke (a b:K):kEq a b=decide (a=b):=by
 rw[Bool.eq_iff_iff];obtain⟨⟩:=a;obtain⟨⟩:=b
 simp[kEq]
theorem Fa (a b:K) (w:World):(binOp .neq 86 (.agg (kc a)) (.agg (kc b))).run prog w = .ok (.bool (!kEq a b)) w:=by
 rw[run_neq_struct]
 have ht:prog.underlying 86=some (.struct (prog.fieldsOf 86)):=by kernel_rfl
 have hp:prog.stoodInHeld 86=false:=by kernel_rfl
 rw[show (10000:Nat)=9999+1 from rfl,run_equalIn_struct w 9999 _ _ _ ht hp];have hf:=JP;generalize (prog.fieldsOf 86).toList=fs at hf
 rcases fs with _|⟨f0,_|⟨f1,_|⟨f2,_|⟨f3,_|⟨f4,_|⟨f5,_|⟨f6,_|⟨f7,_|⟨f8,_|⟨f9,fs⟩⟩⟩⟩⟩⟩⟩⟩⟩⟩
 case cons.cons.cons.cons.cons.cons.cons.cons.cons.nil =>
  simp only[List.map_cons,List.map_nil,List.cons.injEq,Prod.mk.injEq,and_true] at hf;obtain⟨⟨n0,t0,o0⟩,⟨n1,t1,o1⟩,⟨n2,t2,o2⟩,⟨n3,t3,o3⟩,⟨n4,t4,o4⟩,⟨n5,t5,o5⟩,⟨n6,t6,o6⟩,⟨n7,t7,o7⟩,⟨n8,t8,o8⟩⟩:=hf
  have m0:f0.name ≠ "_" := by simpa using n0
  have m1:f1.name ≠ "_" := by simpa using n1
  have m2:f2.name ≠ "_" := by simpa using n2
  have m3:f3.name ≠ "_" := by simpa using n3
  have m4:f4.name ≠ "_" := by simpa using n4
  have m5:f5.name ≠ "_" := by simpa using n5
  have m6:f6.name ≠ "_" := by simpa using n6
  have m7:f7.name ≠ "_" := by simpa using n7
  have m8:f8.name ≠ "_" := by simpa using n8
  have e0:(Op.equalIn 9999 3 (.int .i64 a.id) (.int .i64 b.id)).run prog w = .ok (a.id == b.id) w:=run_equalIn_int w 9998 _ _ _ _ _ underlying3;have e1:(Op.equalIn 9999 3 (.int .i64 a.ty) (.int .i64 b.ty)).run prog w = .ok (a.ty == b.ty) w:=run_equalIn_int w 9998 _ _ _ _ _ underlying3
  have e2:(Op.equalIn 9999 9 (.string ⟨a.val.toArray⟩) (.string ⟨b.val.toArray⟩)).run prog w = .ok (a.val == b.val) w:=by rw[run_equalIn_string w 9998 _ _ _ underlying9,qY]
  have e3:(Op.equalIn 9999 3 (.int .i64 a.uses) (.int .i64 b.uses)).run prog w = .ok (a.uses == b.uses) w:=run_equalIn_int w 9998 _ _ _ _ _ underlying3;have e4:(Op.equalIn 9999 3 (.int .i64 a.start) (.int .i64 b.start)).run prog w = .ok (a.start == b.start) w:=run_equalIn_int w 9998 _ _ _ _ _ underlying3;have e5:(Op.equalIn 9999 3 (.int .i64 a.fin) (.int .i64 b.fin)).run prog w = .ok (a.fin == b.fin) w:=run_equalIn_int w 9998 _ _ _ _ _ underlying3;have e6:(Op.equalIn 9999 3 (.int .i64 a.ver) (.int .i64 b.ver)).run prog w = .ok (a.ver == b.ver) w:=run_equalIn_int w 9998 _ _ _ _ _ underlying3;have e7:(Op.equalIn 9999 3 (.int .i64 a.par) (.int .i64 b.par)).run prog w = .ok (a.par == b.par) w:=run_equalIn_int w 9998 _ _ _ _ _ underlying3;have e8:(Op.equalIn 9999 4 (.bool a.raw) (.bool b.raw)).run prog w = .ok (a.raw == b.raw) w:=run_equalIn_bool w 9998 _ _ _ underlying4
  rw[du 9999 _ _ f0 _ m0 w (.int .i64 a.id) (.int .i64 b.id) (a.id == b.id) (by rw[t0,o0];simp[part,pT,kc]) (by rw[t0,o0];simp[part,pT,kc]) (by rw[t0];exact e0),
   du 9999 _ _ f1 _ m1 w (.int .i64 a.ty) (.int .i64 b.ty) (a.ty == b.ty) (by rw[t1,o1];simp[part,pT,kc]) (by rw[t1,o1];simp[part,pT,kc]) (by rw[t1];exact e1),
   du 9999 _ _ f2 _ m2 w (.string ⟨a.val.toArray⟩) (.string ⟨b.val.toArray⟩) (a.val == b.val) (by rw[t2,o2];simp[part,U3,kc]) (by rw[t2,o2];simp[part,U3,kc]) (by rw[t2];exact e2),
   du 9999 _ _ f3 _ m3 w (.int .i64 a.uses) (.int .i64 b.uses) (a.uses == b.uses) (by rw[t3,o3];simp[part,pT,kc]) (by rw[t3,o3];simp[part,pT,kc]) (by rw[t3];exact e3),
   du 9999 _ _ f4 _ m4 w (.int .i64 a.start) (.int .i64 b.start) (a.start == b.start) (by rw[t4,o4];simp[part,pT,kc]) (by rw[t4,o4];simp[part,pT,kc]) (by rw[t4];exact e4),
   du 9999 _ _ f5 _ m5 w (.int .i64 a.fin) (.int .i64 b.fin) (a.fin == b.fin) (by rw[t5,o5];simp[part,pT,kc]) (by rw[t5,o5];simp[part,pT,kc]) (by rw[t5];exact e5),
   du 9999 _ _ f6 _ m6 w (.int .i64 a.ver) (.int .i64 b.ver) (a.ver == b.ver) (by rw[t6,o6];simp[part,pT,kc]) (by rw[t6,o6];simp[part,pT,kc]) (by rw[t6];exact e6),
   du 9999 _ _ f7 _ m7 w (.int .i64 a.par) (.int .i64 b.par) (a.par == b.par) (by rw[t7,o7];simp[part,pT,kc]) (by rw[t7,o7];simp[part,pT,kc]) (by rw[t7];exact e7),
   du 9999 _ _ f8 _ m8 w (.bool a.raw) (.bool b.raw) (a.raw == b.raw) (by rw[t8,o8];simp[part,U2,kc]) (by rw[t8,o8];simp[part,U2,kc]) (by rw[t8];exact e8)]
  unfold kEq
  cases (a.id == b.id)
  ·rfl
  cases (a.ty == b.ty)
  ·rfl
  cases (a.val == b.val)
  ·rfl
  cases (a.uses == b.uses)
  ·rfl
  cases (a.start == b.start)
  ·rfl
  cases (a.fin == b.fin)
  ·rfl
  cases (a.ver == b.ver)
  ·rfl
  cases (a.par == b.par)
  ·rfl
  cases (a.raw == b.raw)
  ·rfl
  rfl
 all_goals simp at hf
open Go.RowKit Go.Shelf
theorem QF {l m:List K} (h:l.length=m.length) (h2:∀j,j<l.length→ae l j=ae m j):l=m:=by
 refine List.ext_getElem h (fun i h3 h4 => ?_);have := h2 i h3
 rwa [az l i h3,az m i h4] at this
attribute [local irreducible] Calls kEq
theorem Rh (n1 n2:Int) (v u:Value) (l m:List K) (w:World) (hv:RdK w v l) (hu:RdK w u m) :
  Calls prog 26 #[.agg #[.int .i64 n1,v],.agg #[.int .i64 n2,u]] w fun e w'=>e = .returned (.bool (decide (n1=n2∧l=m)))∧Below w.heap.size w w':=by
 have hlen:=hv.len;unfold maxLen at hlen;have hbe:∀(A B:Obj) (n:Nat),Below w.heap.size w (((w.alloc A).alloc B).drewN n):=fun A B n=>ak n (((O_ _ _).alloc (A_ _) A).alloc (by simp) B);have HBE:=O hbe;have HV:=O ((hv.alloc (.cells #[.int .i64 n1,v] 45)).alloc (.cells #[.int .i64 n2,u] 45));have HU:=O ((hu.alloc (.cells #[.int .i64 n1,v] 45)).alloc (.cells #[.int .i64 n2,u] 45));obtain⟨a,cap,rfl,_,_,_⟩:=hv;obtain⟨a2,cap2,rfl,_,_,_⟩:=hu;clear hbe
 by_cases hn:n1=n2
 ·have hnn : (n1 == n2) = true := by rw[hn]; simp
  have hnn2:(n1 != n2)=false:=by rw[bne,hnn];rfl
  have HN:=O hn
  by_cases hl:l.length=m.length
  ·have hne:((l.length:Int) == m.length)=true:=by rw[beq_iff_eq];omega
   have hne2:((l.length:Int) != m.length)=false:=by rw[bne,hne];rfl
   have HL:=O hl;clear hl hn
   go_enter func26,ntmps26
   go_wp2
   go_loopw [5] (fun o wr=>∃i:Nat,i≤l.length∧o = .int .i64 i∧Hid (∀j,j<i→ae l j=ae m j)∧∃n,wr=((w.alloc (.cells #[.int .i64 n1,.slice a l.length cap] 45)).alloc (.cells #[.int .i64 n2,.slice a2 m.length cap2] 45)).drewN n) (fun o _=>l.length-(intOf o).toNat)
   case atStart=>exact⟨0,N_ _,rfl,O (fun j hj=>absurd hj (by omega)),0,rfl⟩
   case round =>
    obtain⟨i,hi,rfl,hno,n,rfl⟩:=hrel
    by_cases hlt:i<l.length
    ·obtain⟨b,off,rfl,hb1,aO⟩:=(HV.out.cells) (by omega)
     obtain⟨b2,off2,rfl,hb2,hrow2⟩:=(HU.out.cells) (by have := HL.out;omega);have hneq:=fun w'=>Fa (ae l i) (ae m i) w';rw[Ke] at hneq;unfold kc at hneq;obtain⟨d0,d1,d2,d3,d4,d5,d6,d7,d8⟩:=aO i hlt;obtain⟨x0,x1,x2,x3,x4,x5,x6,x7,x8⟩:=hrow2 i (by have := HL.out;omega)
     have i1:(i:Int)<l.length:=by omega
     have i2:(i:Int)<m.length:=by have := HL.out;omega
     have i3:i<m.length:=by have := HL.out;omega
     have HK:=O hlt;have HNO:=hno;clear aO hrow2 hno
     by_cases hq:ae l i=ae m i
     ·rw[decide_eq_true hq] at hneq
      have HQ:=O hq;clear hq;go_wp2
      first |refine fR (by kernel_rfl) (by kernel_rfl) ?_|refine fG (by kernel_rfl) (by kernel_rfl) ?_
      repeat (go_big_quiet_step (fail))
      refine h_ ?_;rintro _ ⟨nq,rfl⟩;go_wp2;go_roundw
      case rel=>exact⟨i+1,HK.out,by go_num,O (fun j hj=>by
       by_cases e:j=i
       ·subst e;exact HQ.out
       ·exact HNO.out j (by omega)),_,rfl⟩
      case measure=>have := HK.out;simp[intOf];omega
     ·rw[V_ hq] at hneq
      have hres:decide (n1=n2∧l=m)=false:=V_ (fun e=>hq (by rw[e.2]));have HRES:=O hres;clear hq hres;go_wp2
      first |refine fR (by kernel_rfl) (by kernel_rfl) ?_|refine fG (by kernel_rfl) (by kernel_rfl) ?_
      repeat (go_big_quiet_step (fail))
      refine h_ ?_;rintro _ ⟨nq,rfl⟩;go_wp2;go_ret;exact⟨by rw[HRES.out];rfl,HBE.out _ _ _⟩
    ·have i1:(l.length:Int)≤i:=by omega
     have hres:decide (n1=n2∧l=m)=true:=decide_eq_true ⟨HN.out,QF HL.out (fun j hj=>hno.out j (by omega))⟩;have HRES:=O hres;clear hres hno;go_wp2;go_ret;exact⟨by rw[HRES.out];rfl,HBE.out _ _ _⟩
  ·have hne:((l.length:Int) == m.length)=false:=by rw[U_];omega
   have hne2:((l.length:Int) != m.length)=true:=by rw[bne,hne];rfl
   rw[V_ (fun e=>hl (by rw[e.2]))];clear hl hn
   go_enter func26,ntmps26
   go_wp2;go_ret;exact⟨rfl,HBE.out _ _ 0⟩
 ·have hnn:(n1 == n2)=false:=by rw[U_];exact hn
  have hnn2:(n1 != n2)=true:=by rw[bne,hnn];rfl
  rw[V_ (fun e=>hn e.1)];clear hn
  go_enter func26,ntmps26
  go_wp2;go_ret;exact⟨rfl,HBE.out _ _ 0⟩
end
section
open Go.RowKit Go.Shelf
theorem J5:(prog.info? 125).map (·.size)=some 4:=by kernel_rfl
theorem Dd {w:World} {g B:Nat} {cs:Array Value} (h:B≤g):Below B w (w.setRow g cs) :=
 ⟨rfl,rfl,rfl,by simp[World.setRow],fun k hk=>by
  unfold World.setRow;rw[Array.getElem?_modify]
  have : ¬g=k:=by omega
  simp[this]⟩
def ac (n:Int) (v:Value) (i e:Int):Array Value := #[.int .i64 n,v,.int .i64 i,.int .i64 e]
theorem L7 {ops:Array Oper} {rest:List Oper} {o:Oper} {a:Act} {w:World} {Q:Exit→Act→World→Prop} (hgd:o.guard=none) (x y:Operand) (ho:o.op = .store 125 x y)
  (g:Nat) (n i e n0 i0 e0:Int) (v v0:Value) (hx:a.eval x = .pointer (some ⟨g,0,none⟩)) (hy:a.eval y = .agg (ac n v i e)) (hv:v.oneCell'=true)
  (hg:w.heap[g]?=some (.cells (ac n0 v0 i0 e0) 125 (0,0)))
  (h:∀w',w'.heap[g]?=some (.cells (ac n v i e) 125 (0,0))→(∀B,B≤g→Below B w w')→wpList prog ops Q rest (a.put o.dst undef) w'):wpList prog ops Q (o::rest) a w:=by
 refine wpList_store_row hgd _ x y ho g (ac n v i e) hx hy _ _ hg J5 rfl ?_ (h _ (setRow_heap _ _ _ _ _ _ hg) (fun B hB=>Dd hB));have h1:∀k,(Value.int .i64 k).oneCell'=true:=fun k=>rfl
 simp[ac,h1,hv]
theorem Fp {fn:Func} {p:Tmp} (h:fn.results = #[.cell p 125]) (tmps:Array Value) (w:World) (g:Nat) (n i e:Int) (v:Value)
  (hp:tmps.getD p undef = .pointer (some ⟨g,0,none⟩)) (hg:w.heap[g]?=some (.cells (ac n v i e) 125 (0,0))):(results fn tmps).run prog w = .ok (.agg (ac n v i e)) w :=
 results_cell_row h tmps w g _ (ac n v i e) (0,0) _ hp hg underlying125 rfl J5
attribute [local irreducible] Calls bf
theorem RA (nx:Int) (v:Value) (l:List K) (k:K) (w:World) (hv:RdK w v l) (he:bL nx l k≠0) :
  Calls prog 63 #[.agg #[.int .i64 nx,v],kv k] w fun e w'=>e = .returned (.agg #[.int .i64 0,.slice none 0 0,.int .i64 0,.int .i64 (bL nx l k)])∧Below w.heap.size w w':=by
 have hval:=fun w=>ov k w;obtain⟨W0,hW0⟩:∃W0,W0=((w.alloc (.cells #[.int .i64 nx,v] 45)).alloc (.cells (kc k) 86)).alloc (.cells #[.int .i64 0,.slice none 0 0,.int .i64 0,.int .i64 0] 125):=⟨_,rfl⟩
 have hbx:∀w1,Below W0.heap.size W0 w1→w1.cell? ⟨w.heap.size,0,none⟩=some (.int .i64 nx)∧w1.cell? ⟨w.heap.size,1,none⟩=some v∧w1.cell? ⟨w.heap.size+1,7,none⟩=some (.int .i64 k.par) ∧
   w1.heap[w.heap.size+1+1]?=some (.cells #[.int .i64 0,.slice none 0 0,.int .i64 0,.int .i64 0] 125 (0,0))∧Below w.heap.size w w1:=by
  intro w1 h;rw[hW0] at h;have h1:Below ((w.alloc (.cells #[.int .i64 nx,v] 45)).alloc (.cells (kc k) 86)).heap.size ((w.alloc (.cells #[.int .i64 nx,v] 45)).alloc (.cells (kc k) 86)) w1:=cJ _ _ h;exact⟨mP _ _ _ _ h1 0,mP _ _ _ _ h1 1,Ek _ _ _ _ h1 7,by rw[h.block _ (by simp)];exact nP _ _ _ _,qC _ _ _ _ h⟩
 have HBX:=O hbx;have HW:=O hW0;obtain⟨a,cap,rfl,_,_,_⟩:=hv;clear hW0 hbx;unfold kv kc at hval ⊢;unfold kc at HW
 rcases fb nx l k with⟨h1,hr⟩|⟨h1,h2,hr⟩|⟨h1,h2,h3,hr⟩|⟨h1,h2,h3,h4,hr⟩|⟨h1,h2,h3,h4,hr⟩
 case inr.inr.inr.inr=>exact absurd hr he
 all_goals
  rw[h1] at hval;rw[hr];clear h1 hr he
  go_enter func63,ntmps63
  go_wp2_with (first
   |(go_at_call 75;refine(hval _).mono ?_;rintro e w1 ⟨rfl,hb⟩;rw[←HW.out] at hb;obtain⟨n0,n1,p7,hg,hbb⟩:=HBX.out _ hb;have HG:=O hg;clear hg)
   |(refine L7 rfl (.tmp 4) (.tmp 18) rfl _ 0 0 1 0 0 0 (.slice none 0 0) (.slice none 0 0) rfl rfl rfl HG.out ?_;intro w2 hg2 hb2)
   |(refine L7 rfl (.tmp 4) (.tmp 28) rfl _ 0 0 2 0 0 0 (.slice none 0 0) (.slice none 0 0) rfl rfl rfl HG.out ?_;intro w2 hg2 hb2))
  (try simp only[Exit.inBlock,Exit.then])
  refine g_ (Fp rfl _ _ (w.heap.size+1+1) _ _ _ _ rfl hg2) rfl ?_;exact⟨rfl,hbb.trans (hb2 _ (by omega))⟩
end
section
open Go.RowKit Go.Shelf
theorem DG {ops:Array Oper} {o:Oper} {a:Act} {w:World} {K:Act→World→Prop} {Q:Exit→Act→World→Prop} {E:Prop} (hgd:o.guard=none) (s x:Operand)
  (ho:o.op = .call { callee := .builtin .append,args := #[s,x],argTypes := #[43,43] })
  (ai:Nat) (v:Value) (l:List Go.Proofs.YtmfiaadjdbemnaaGreatDoor.K) (hs:a.eval s=v) (hown:b7 w ai v l) (ad:Addr) (m c:Nat) (news:List Go.Proofs.YtmfiaadjdbemnaaGreatDoor.K) (hx:a.eval x = .slice (some ad) m c) (hl:news.length=m) (hm:0<m)
  (hnews:RdK w (.slice (some ad) m c) news) (hsz:l.length+m≤1000000) (hbase:ai≤w.heap.size)
  (h:∀v' w',b7 w' ai v' (l++news)→Below ai w w'→K (a.put o.dst v') w') :
  if Region.wanted o (yielded ops a.tmps)=true then Oper.wp prog o a w K Q else E:=by
 obtain⟨i0,z0,hi,hz,hs9,hz9,hb0,hb1⟩:=yY
 refine step_append_lies w hgd s x 43 ho ai 86 i0 z0 9 i0.bytes underlying43 hi hz hs9 rfl hz9 (by decide) v l.length (dV l) hs hown ad m c (dV news) hx (by rw[k8,hl]) (hnews.flat ad rfl) (rH news) hm
  (by unfold maxLen;omega) (M_ (Nat.mul_le_mul hsz hb1) (by decide)) hbase w.heap.size rfl ?_
 intro g cap w' h1 h2 _ _;refine h _ w' ?_ ((O_ ai w).grown h2 hbase (fun k hk=>(World.ownsRow.lt hown k hk).1));unfold b7;rw[E_,hl,lS];exact h1
open Go.RowKit Go.Shelf
structure PS where
 nx:Int
 ks:List K
 ps:List (Int × Int)
 ids:List Int
theorem dC (l m:List K) (i:Nat) (h:i<l.length):ae (l++m) i=ae l i:=by
 rw[az _ _ (by rw[E_];omega),az _ _ h,List.getElem_append_left]
theorem pq (l m:List K) (i:Nat) (h:i<m.length):ae (l++m) (l.length+i)=ae m i:=by
 rw[az _ _ (by rw[E_];omega),az _ _ h,List.getElem_append_right (by omega)]
 simp
theorem pu (l:List K) (x:K):ae (l++[x]) l.length=x:=by
 have := pq l [x] 0 (by simp);rw[Nat.add_zero] at this;rw[this];rfl
open Go.RowKit Go.Shelf
attribute [local irreducible] Calls bf
theorem G8 {w:World} {ai:Nat} {v:Value} {l:List K} (h:b7 w ai v l) (X:Obj):b7 (w.alloc X).drew ai v l :=
 (h.keep ((O_ w.heap.size w).alloc (A_ _) X) (A_ _)).keep (ak 1 (O_ (w.alloc X).heap.size (w.alloc X))) (A_ _)
theorem Cy {w:World} {B:Nat} (h:B≤w.heap.size) (X:Obj):B≤(w.alloc X).drew.heap.size:=by
 have : (w.alloc X).drew.heap.size=w.heap.size+1:=by simp
 omega
theorem st4 {w:World} {g:Nat} {T:TypeId} {n i e n0 i0 e0:Int} {v v0:Value} (h:w.heap[g]?=some (.cells (ac n0 v0 i0 e0) T (0,0))) :
  ((((w.setCell ⟨g,0,none⟩ (.int .i64 n)).setCell ⟨g,1,none⟩ v).setCell ⟨g,2,none⟩ (.int .i64 i)).setCell ⟨g,3,none⟩ (.int .i64 e)).heap[g]?=some (.cells (ac n v i e) T (0,0)):=by
 have h1:=setRow_heap w g _ ((ac n0 v0 i0 e0).setIfInBounds 0 (.int .i64 n)) _ _ h;rw[←de _ _ _ _ _ _ _ h] at h1;have h2:=setRow_heap _ g _ (((ac n0 v0 i0 e0).setIfInBounds 0 (.int .i64 n)).setIfInBounds 1 v) _ _ h1;rw[←de _ _ _ _ _ _ _ h1] at h2;have h3:=setRow_heap _ g _ ((((ac n0 v0 i0 e0).setIfInBounds 0 (.int .i64 n)).setIfInBounds 1 v).setIfInBounds 2 (.int .i64 i)) _ _ h2;rw[←de _ _ _ _ _ _ _ h2] at h3;have h4:=setRow_heap _ g _ (((((ac n0 v0 i0 e0).setIfInBounds 0 (.int .i64 n)).setIfInBounds 1 v).setIfInBounds 2 (.int .i64 i)).setIfInBounds 3 (.int .i64 e)) _ _ h3;rw[←de _ _ _ _ _ _ _ h3] at h4;exact h4
theorem pS (nx:Int) (v:Value) (l:List K) (k:K) (w:World) (hv:RdK w v l) (he:bL nx l k=0) (hl:l.length≤5000) (hnx:IntKind.i64.wrap (nx+1)=nx+1) :
  Calls prog 63 #[.agg #[.int .i64 nx,v],kv k] w fun e w'=>∃v',e = .returned (.agg (ac (nx+1) v' nx 0))∧b7 w' w.heap.size v' (l++[aW k nx])∧Below w.heap.size w w':=by
 have hval:=fun w=>ov k w;obtain⟨W0,hW0⟩:∃W0,W0=((w.alloc (.cells #[.int .i64 nx,v] 45)).alloc (.cells (kc k) 86)).alloc (.cells #[.int .i64 0,.slice none 0 0,.int .i64 0,.int .i64 0] 125):=⟨_,rfl⟩
 have hvw:RdK W0 v l:=by rw[hW0];exact((hv.alloc _).alloc _).alloc _
 have hbx:∀w1,Below W0.heap.size W0 w1→w1.cell? ⟨w.heap.size,0,none⟩=some (.int .i64 nx)∧w1.cell? ⟨w.heap.size,1,none⟩=some v∧di w1 (w.heap.size+1) k ∧
   w1.heap[w.heap.size+1+1]?=some (.cells (ac 0 (.slice none 0 0) 0 0) 125 (0,0))∧Below w.heap.size w w1:=by
  intro w1 h;rw[hW0] at h;have h1:Below ((w.alloc (.cells #[.int .i64 nx,v] 45)).alloc (.cells (kc k) 86)).heap.size ((w.alloc (.cells #[.int .i64 nx,v] 45)).alloc (.cells (kc k) 86)) w1:=cJ _ _ h;exact⟨mP _ _ _ _ h1 0,mP _ _ _ _ h1 1,(VV w _ k).on h1,by rw[h.block _ (by simp)];exact nP _ _ _ _,qC _ _ _ _ h⟩
 have HBX:=O hbx;have HW:=O hW0;have HV:=O hv;have hszW:Hid (w.heap.size+1+1<W0.heap.size):=O (by rw[hW0];simp);obtain⟨a,cap,rfl,_,_,_⟩:=hv;clear hW0 hbx hvw;unfold kv kc at hval ⊢;unfold kc at HW
 rcases fb nx l k with⟨h1,hr⟩|⟨h1,h2,hr⟩|⟨h1,h2,h3,hr⟩|⟨h1,h2,h3,h4,hr⟩|⟨h1,h2,h3,h4,hr⟩
 ·rw[hr] at he;cases he
 ·rw[hr] at he;cases he
 ·rw[hr] at he;cases he
 ·rw[hr] at he;cases he
 ·rw[h1] at hval
  clear h1 hr he
  go_enter func63,ntmps63
  go_wp2_with (first
   |(go_at_call 75;refine(hval _).mono ?_;rintro e w1 ⟨rfl,hb⟩;rw[←HW.out] at hb;obtain⟨n0,n1,hka,hg,hbb⟩:=HBX.out _ hb;have p0:w1.cell? ⟨w.heap.size+1,0,none⟩=some (.int .i64 k.id):=hka.cell 0;have p7:w1.cell? ⟨w.heap.size+1,7,none⟩=some (.int .i64 k.par):=hka.cell 7;have f0:=hka.free 0;have HG:=O hg;have HKA:=O hka;have HB1:=O hb;have HBB:=O hbb;clear hg hka hb hbb)
   |(at_builtin;refine wO rfl (.tmp 32) (.tmp 34) rfl W0.heap.size _ [] rfl (b7.nil _ _) _ l rfl (HV.out.on (HBB.out.setCell (by show w.heap.size≤w.heap.size+1;omega) _)) (by simp;omega) (by rw[fY];exact HB1.out.size) ?_;intro v1 w2 ho hb2))
  have hsz:=hszW.out;have hb1s:=HB1.out.size;have hw2s:=hb2.size;rw[fY] at hw2s;have y1:=EV HKA.out nx
  have y2:(w1.setCell ⟨w.heap.size+1,0,none⟩ (.int .i64 nx)).heap[w.heap.size+1+1]?=some (.cells (ac 0 (.slice none 0 0) 0 0) 125 (0,0)):=by
   rw[bA (by omega)];exact HG.out
  have y3:(w1.setCell ⟨w.heap.size+1,0,none⟩ (.int .i64 nx)).cell? ⟨w.heap.size,0,none⟩=some (.int .i64 nx):=by
   rw[((O_ (w.heap.size+1) w1).setCell (p:=⟨w.heap.size+1,0,none⟩) (A_ _) _).cell (p:=⟨w.heap.size,0,none⟩) (by show w.heap.size<_;omega)];exact n0
  have HF:Hid (∀w3,Below W0.heap.size (w1.setCell ⟨w.heap.size+1,0,none⟩ (.int .i64 nx)) w3→w3.cell? ⟨w.heap.size,0,none⟩=some (.int .i64 nx)∧di w3 (w.heap.size+1) (aW k nx)∧w3.heap[w.heap.size+1+1]?=some (.cells (ac 0 (.slice none 0 0) 0 0) 125 (0,0))) :=
   O (fun w3 h3=>⟨by rw[h3.cell (p:=⟨w.heap.size,0,none⟩) (by show w.heap.size<_;omega)];exact y3,y1.keep h3 (by omega),by rw[h3.block _ (by omega)];exact y2⟩)
  obtain⟨z0,zk,zr⟩:=HF.out w2 hb2;obtain⟨x0,x1,x2,x3,x4,x5,x6,x7,x8⟩:=zk.nine;simp only[a_] at x1 x2 x3 x4 x5 x6 x7 x8
  have l1:w.heap.size<w2.heap.size:=by omega
  have l2:w.heap.size+1<w2.heap.size:=by omega
  have l3:w.heap.size+1+1<w2.heap.size:=by omega
  have hz2:W0.heap.size≤w2.heap.size:=by omega
  have HB2:=O hb2;have HBE:Hid (∀w3,Below W0.heap.size (w1.setCell ⟨w.heap.size+1,0,none⟩ (.int .i64 nx)) w3→Below w.heap.size w w3):=O (fun w3 h3=>(HBB.out.setCell (p:=⟨w.heap.size+1,0,none⟩) (by show w.heap.size≤w.heap.size+1;omega) _).trans (h3.mono (by omega)))
  have hroom:l.length+1≤1000000:=by omega
  have HRM:=O hroom;clear hb2 y1 y2 y3 zk zr;have HS:Hid (∀w3,Below W0.heap.size (w1.setCell ⟨w.heap.size+1,0,none⟩ (.int .i64 nx)) w3→w3.cell? ⟨w.heap.size,0,none⟩=some (.int .i64 nx)∧s7 w3 (w.heap.size+1) 0 (aW k nx)):=O (fun w3 h3=>⟨(HF.out w3 h3).1,(HF.out w3 h3).2.1.nine⟩);unfold s7 at HS
  have ne1:w.heap.size+1+1≠w.heap.size:=by omega
  have ne2:w.heap.size≠w.heap.size+1+1:=by omega
  simp only[a_] at HS
  go_region_held3 (fun w'=>w'.cell? ⟨w.heap.size,0,none⟩=some (.int .i64 nx)∧w'.cell? ⟨w.heap.size+1,0,none⟩=some (.int .i64 (aW k nx).id)∧w'.cell? ⟨w.heap.size+1,1,none⟩=some (.int .i64 (aW k nx).ty)∧w'.cell? ⟨w.heap.size+1,2,none⟩=some (.string ⟨(aW k nx).val.toArray⟩) ∧
    w'.cell? ⟨w.heap.size+1,3,none⟩=some (.int .i64 (aW k nx).uses)∧w'.cell? ⟨w.heap.size+1,4,none⟩=some (.int .i64 (aW k nx).start)∧w'.cell? ⟨w.heap.size+1,5,none⟩=some (.int .i64 (aW k nx).fin) ∧
    w'.cell? ⟨w.heap.size+1,6,none⟩=some (.int .i64 (aW k nx).ver)∧w'.cell? ⟨w.heap.size+1,7,none⟩=some (.int .i64 (aW k nx).par)∧w'.cell? ⟨w.heap.size+1,8,none⟩=some (.bool (aW k nx).raw))
   (first
    | go_keep
    | exact HS.out _ HB2.out
    | exact HS.out _ (HB2.out.trans ((ak 1 ((O_ W0.heap.size w2).alloc hz2 _)).trans hb')))
   ((refine DG rfl (.tmp 39) (.tmp 41) rfl W0.heap.size _ l rfl (G8 ho _) ⟨w2.heap.size,0,none⟩ 1 1 [aW k nx] rfl rfl (by decide) (xS w2 (aW k nx)) HRM.out (Cy hz2 _) ?_;intro v' w' ho' hb';have HRD:=O ho';have hrd:=ho'.rd;clear ho';obtain⟨va,vcap,rfl,_,_,_⟩:=hrd;obtain⟨q0,qk,qr⟩:=HF.out w' (HB2.out.trans ((ak 1 ((O_ W0.heap.size w2).alloc hz2 _)).trans hb'));have HBF:=O (HBE.out w' (HB2.out.trans ((ak 1 ((O_ W0.heap.size w2).alloc hz2 _)).trans hb')));have r0:w'.cell? ⟨w.heap.size+1+1,0,none⟩=some (.int .i64 0):=e_ _ _ _ _ _ _ qr;have r1:w'.cell? ⟨w.heap.size+1+1,1,none⟩=some (.slice none 0 0):=e_ _ _ _ _ _ _ qr;have r2:w'.cell? ⟨w.heap.size+1+1,2,none⟩=some (.int .i64 0):=e_ _ _ _ _ _ _ qr;have r3:w'.cell? ⟨w.heap.size+1+1,3,none⟩=some (.int .i64 0):=e_ _ _ _ _ _ _ qr;have g0:=A9 qr 0;have g1:=A9 qr 1;have g2:=A9 qr 2;have g3:=A9 qr 3;have QR:=O qr;clear qr q0 qk))
  all_goals
   go_wp2
   (try simp only[Exit.inBlock,Exit.then])
   refine g_ (Fp rfl _ _ (w.heap.size+1+1) _ _ _ _ rfl (st4 QR.out)) rfl ?_;refine⟨_,rfl,?_,?_⟩
   ·have hs:=hszW.out
    exact xV (lm (lm (lm (lm HRD.out hs) hs) hs) hs) (by omega)
   ·have hle:w.heap.size≤w.heap.size+1+1:=by omega
    exact(((HBF.out.setCell (p:=⟨w.heap.size+1+1,0,none⟩) hle _).setCell (p:=⟨w.heap.size+1+1,1,none⟩) hle _).setCell (p:=⟨w.heap.size+1+1,2,none⟩) hle _).setCell (p:=⟨w.heap.size+1+1,3,none⟩) hle _
end
section
open Go.RowKit
theorem MC (l:List UInt8) (hs:4≤l.length) (w:World) :
  Calls prog 184 #[.string ⟨l.toArray⟩] w fun e w'=>e = .returned (.int .u32 (W32 (C3.wordAt l 0)))∧∃n,w'=w.drewN n:=by
 have h0:0<l.length:=by omega
 have i1:(1:Int)<l.length:=by omega
 have i2:(2:Int)<l.length:=by omega
 have i3:(3:Int)<l.length:=by omega
 go_enter func184,ntmps184
 go_wp2
 go_quiet (fail)
 go_wp2;go_ret;exact⟨nT (C3.word_sum _ _ _ _),_,rfl⟩
theorem ym (key nonce:List UInt8) (ctr:UInt32) (hk:key.length=32) (hn:nonce.length=12) (w:World) :
  Calls prog 170 #[.string ⟨key.toArray⟩,.int .u32 (W32 ctr),.string ⟨nonce.toArray⟩] w fun e w'=>e = .returned (.tuple #[.agg (row (C3.state key ctr nonce)),.int .i64 0])∧Below w.heap.size w w':=by
 go_enter func170,ntmps170
 go_wp2
 go_loopw [9] (fun i wr=>∃k:Nat,k≤8∧i = .int .i64 k∧∃n,wr=((w.alloc (.cells sx 226)).alloc (.cells (row (C3.stK key 0 k)) 226)).drewN n) (fun i _=>8-(intOf i).toNat)
 case atStart=>exact⟨0,by omega,rfl,0,rfl⟩
 case round =>
  obtain⟨k,hk8,rfl,n,rfl⟩:=hrel;have hlen:=C3.length_stK key 0 k
  by_cases hlt:k<8
  ·have hb4:4+k<16:=by omega
   have hl4:4≤((key.drop (4*k)).take (32-4*k)).length:=by simp[hk];omega
   have hwd:C3.wordAt ((key.drop (4*k)).take (32-4*k)) 0=C3.wordAt key (4*k):=mp _ _ _ (by omega);have HW:=O hwd;clear hwd
   go_wp2_with (go_at_call 184;refine(MC _ hl4 _).mono ?_;rintro e w' ⟨rfl,nq,rfl⟩;rw[HW.out])
   go_roundw
   case rel=>exact⟨k+1,by omega,by go_num,_,rfl⟩
   case measure=>simp[intOf];omega
  ·have he:k=8:=by omega
   have HE:=O he;clear he;go_wp2
   go_loopw [10] (fun i wr=>∃k:Nat,k≤3∧i = .int .i64 k∧∃n,wr=((w.alloc (.cells sx 226)).alloc (.cells (row (C3.stN key ctr nonce k)) 226)).drewN n) (fun i _=>3-(intOf i).toNat)
   case atStart=>exact⟨0,by omega,rfl,n,by rw[HE.out,C3.stK_later];rfl⟩
   case round =>
    clear hk8 hlen hlt;obtain⟨k,hk8,rfl,n,rfl⟩:=hrel;have hlen:=C3.length_stN key ctr nonce k
    by_cases hlt:k<3
    ·have hb13:13+k<16:=by omega
     have hl4:4≤((nonce.drop (4*k)).take (12-4*k)).length:=by simp[hn];omega
     have hwd:C3.wordAt ((nonce.drop (4*k)).take (12-4*k)) 0=C3.wordAt nonce (4*k):=mp _ _ _ (by omega);have HW:=O hwd;clear hwd
     go_wp2_with (go_at_call 184;refine(MC _ hl4 _).mono ?_;rintro e w' ⟨rfl,nq,rfl⟩;rw[HW.out])
     go_roundw
     case rel=>exact⟨k+1,by omega,by go_num,_,rfl⟩
     case measure=>simp[intOf];omega
    ·have he:k=3:=by omega
     have HE:=O he;clear he
     go_wp2_with (first
      |(refine ng rfl (.tmp 8) rfl _ rfl _ 226 (dL _ _ _ _) hlen ?_)
      |(refine gN rfl (.tmp 6) (.tmp 50) rfl _ _ rfl rfl 226 _ (cF _ _ _ _) rfl hlen ?_))
     refine g_ (v := .tuple #[.agg (row _),_]) (BX rfl _ _ _ _ _ rfl (cF _ _ _ _) hlen) rfl ⟨by rw[HE.out];rfl,?_⟩;exact ak _ (((O_ _ _).alloc (A_ _) _).alloc (by simp) _)
end
end Go.Proofs.YtmfiaadjdbemnaaGreatDoor
