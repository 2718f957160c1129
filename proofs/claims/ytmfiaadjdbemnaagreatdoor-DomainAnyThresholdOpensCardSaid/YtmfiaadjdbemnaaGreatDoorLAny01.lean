/- Contracts and lemmas. No condition. -/
import Derived.Test.YtmfiaadjdbemnaaGreatDoorSB09
set_option maxRecDepth 100000
set_option maxHeartbeats 8000000
namespace Go.Proofs.YtmfiaadjdbemnaaGreatDoor
section
open Go.RowKit
attribute [local irreducible] win Calls
theorem ov (k:K) (w:World):Calls Tryz.prog 75 #[kv k] w fun e w'=>e = .returned (.bool (bf k))∧Below w.heap.size w w':=by
 unfold kv kc;have hb:=(Oo w.heap.size w).alloc (Nat.le_refl _) (.cells #[.int .i64 k.id,.int .i64 k.ty,.string ⟨k.val.toArray⟩,.int .i64 k.uses,.int .i64 k.start,.int .i64 k.fin,.int .i64 k.ver,.int .i64 k.par,.bool k.raw] 86);have HB:=O hb;clear hb
 go_enter Tryz.func75,Tryz.ntmps75
 go_wp2_with (go_at_call 74;refine(Af _ _ _ _).mono ?_;rintro e _ ⟨rfl,rfl⟩)
 all_goals
  go_ret;refine⟨?_,HB.out⟩
  simp_all [bf,wu]
end
section
open Go.RowKit Go.Shelf
theorem G2 (nx:Int) (l:List K) (i:Nat):(oE nx l i=false∧bf (ae l i)=false)∨(oE nx l i=false∧bf (ae l i)=true∧(ae l i).id≤cv l i) ∨
  (oE nx l i=false∧bf (ae l i)=true∧¬(ae l i).id≤cv l i∧nx≤(ae l i).id) ∨
  (oE nx l i=false∧bf (ae l i)=true∧¬(ae l i).id≤cv l i∧¬nx≤(ae l i).id∧nx≤(ae l i).par) ∨
  (oE nx l i=true∧bf (ae l i)=true∧¬(ae l i).id≤cv l i∧¬nx≤(ae l i).id∧¬nx≤(ae l i).par):=by
 unfold oE
 by_cases h0:bf (ae l i)=true
 ·by_cases h1:(ae l i).id≤cv l i
  ·exact .inr (.inl ⟨by rw[decide_eq_false (by omega:¬cv l i<(ae l i).id)];simp,h0,h1⟩)
  ·by_cases h2:nx≤(ae l i).id
   ·exact .inr (.inr (.inl ⟨by rw[decide_eq_false (by omega:¬(ae l i).id<nx)];simp,h0,h1,h2⟩))
   ·by_cases h3:nx≤(ae l i).par
    ·exact .inr (.inr (.inr (.inl ⟨by rw[decide_eq_false (by omega:¬(ae l i).par<nx)];simp,h0,h1,h2,h3⟩)))
    ·exact .inr (.inr (.inr (.inr ⟨by rw[h0,decide_eq_true (by omega:cv l i<(ae l i).id),decide_eq_true (by omega:(ae l i).id<nx),decide_eq_true (by omega:(ae l i).par<nx)];rfl,h0,h1,h2,h3⟩)))
 ·have h0':bf (ae l i)=false:=by simpa using h0
  exact .inl ⟨by rw[h0'];rfl,h0'⟩
theorem ww (nx:Int) (l:List K) (i:Nat) (hi:i<l.length) (h:oE nx l i=false):aP nx l=false:=by
 have : (List.range l.length).all (oE nx l)=false:=by
  rw[List.all_eq_false];exact⟨i,List.mem_range.2 hi,by rw[h];decide⟩
 rw[aP,this];simp
theorem wJ (nx:Int) (l:List K) (h1:l.length≤4096) (h2:win nx 1 2147483647=true) (h:∀j,j<l.length→oE nx l j=true):aP nx l=true:=by
 have : (List.range l.length).all (oE nx l)=true:=List.all_eq_true.2 (fun i hi=>h i (List.mem_range.1 hi));rw[aP,this,h2,decide_eq_true h1];rfl
theorem zZ (nx:Int) (l:List K) (h1:¬l.length≤4096):aP nx l=false:=by rw[aP,decide_eq_false h1];rfl
theorem Aa (nx:Int) (l:List K) (h2:win nx 1 2147483647=false):aP nx l=false:=by rw[aP,h2];simp
attribute [local irreducible] Calls aP oE bf cv win
theorem Ab (nx : Int) (v : Value) (l : List K) (w : World) (hv : RdK w v l) :
  Calls Tryz.prog 40 #[.agg #[.int .i64 nx,v]] w fun e w'=>e = .returned (.bool (aP nx l))∧Below w.heap.size w w':=by
 have hlen:=hv.len;unfold maxLen at hlen;obtain⟨W0,hW0⟩:∃W0,W0=w.alloc (.cells #[.int .i64 nx,v] 45):=⟨_,rfl⟩
 have hvw:RdK W0 v l:=by rw[hW0];exact hv.alloc _
 have hbx:∀w1,Below W0.heap.size W0 w1→w1.cell? ⟨w.heap.size,0,none⟩=some (.int .i64 nx)∧w1.cell? ⟨w.heap.size,1,none⟩=some v:=by
  intro w1 h;rw[hW0] at h;exact⟨gi _ _ _ h 0,gi _ _ _ h 1⟩
 have hbe:∀w1,Below W0.heap.size W0 w1→Below w.heap.size w w1:=by
  intro w1 h;rw[hW0] at h;exact cJ _ _ h
 have hsz:w.heap.size<W0.heap.size:=by rw[hW0];simp
 have HV:=O hvw;have HBX:=O hbx;have HBE:=O hbe;have HW:=O hW0;obtain⟨a,cap,rfl,_,_,_⟩:=hv;clear hW0 hvw hbx hbe
 by_cases hl1:l.length≤4096
 ·have j1 : ¬ (4096 : Int) < l.length := by omega
  cases hw2:win nx 1 2147483647 with
  | true =>
    have hwr:=fun w=>Af nx 1 2147483647 w;rw[hw2] at hwr;have HWR:=O hwr;have HT0:=O (fun i hi h=>ww nx l i hi h);have HT1:=O (wJ nx l hl1 hw2);clear hwr hw2
    go_enter Tryz.func40,Tryz.ntmps40
    go_wp2_with (go_at_call 74;refine(HWR.out _).mono ?_;rintro e wf ⟨rfl,hwf⟩;rw[hwf];clear hwf)
    go_loopw [3,4] (fun la o wr=>∃i:Nat,i≤l.length∧o = .int .i64 i∧la = .int .i64 (cv l i)∧Hid (∀j,j<i→oE nx l j=true)∧Below W0.heap.size W0 wr) (fun _ o _=>l.length-(intOf o).toNat)
    case atStart=>exact⟨0,Nat.zero_le _,rfl,by rw[gR],O (fun j hj=>absurd hj (by omega)),by rw[←HW.out];exact Oo _ _⟩
    case round =>
     obtain⟨i,hi,rfl,rfl,hno,hb⟩:=hrel;obtain⟨t0,t1⟩:=HBX.out wr hb;have hbs:=hb.size
     have z0:w.heap.size<wr.heap.size:=by omega
     have z0':w.heap.size≠wr.heap.size:=by omega
     by_cases hlt:i<l.length
     ·obtain⟨bb,off,rfl,hbl,aO⟩:=((HV.out.on hb).cells) (by omega)
      obtain⟨d0,d1,d2,d3,d4,d5,d6,d7,d8⟩:=aO i hlt
      have i1:(i:Int)<l.length:=by omega
      have HK:=O hlt;have HNO:=hno;have HB:=O hb;have hval:=ov (ae l i) (wr.alloc (.cells (kc (ae l i)) 86))
      have hbx2:∀w1,Below (wr.alloc (.cells (kc (ae l i)) 86)).heap.size (wr.alloc (.cells (kc (ae l i)) 86)) w1 →
        w1.cell? ⟨wr.heap.size,0,none⟩=some (.int .i64 (ae l i).id)∧w1.cell? ⟨wr.heap.size,7,none⟩=some (.int .i64 (ae l i).par)∧w1.cell? ⟨w.heap.size,0,none⟩=some (.int .i64 nx)∧Below W0.heap.size W0 w1:=by
       intro w1 h;have h2:=HB.out.trans ((cJ _ _ h).mono hbs);exact⟨gi _ _ _ h 0,gi _ _ _ h 7,(HBX.out _ h2).1,h2⟩
      unfold kv at hval;unfold kc at hval hbx2;have HLS:=O (gQ l i);have HX2:=O hbx2;clear aO hb hno hbx2
      rcases G2 nx l i with⟨ho,h1⟩|⟨ho,h1,h2⟩|⟨ho,h1,h2,h3⟩|⟨ho,h1,h2,h3,h4⟩|⟨ho,h1,h2,h3,h4⟩
      case inr.inr.inr.inr =>
       rw[h1] at hval;have HVAL:=O hval;have HO:=O ho;clear hval h1 ho
       go_wp2_with (go_at_call 75;refine HVAL.out.mono ?_;rintro e w1 ⟨rfl,hb'⟩;obtain⟨e0,e7,n0,hbb⟩:=HX2.out _ hb';clear hb')
       go_roundw
       case rel=>exact⟨i+1,HK.out,by go_num,by rw[HLS.out],O (fun j hj=>by
        by_cases e:j=i
        ·subst e;exact HO.out
        ·exact HNO.out j (by omega)),hbb⟩
       case measure=>have := HK.out;simp[intOf];omega
      all_goals
       have HRES:=O (HT0.out i HK.out ho);rw[h1] at hval;have HVAL:=O hval;clear hval h1 ho
       go_wp2_with (go_at_call 75;refine HVAL.out.mono ?_;rintro e w1 ⟨rfl,hb'⟩;obtain⟨e0,e7,n0,hbb⟩:=HX2.out _ hb';clear hb')
       go_ret;exact⟨by rw[HRES.out];rfl,HBE.out _ hbb⟩
     ·have he:i=l.length:=by omega
      have i1:(l.length:Int)≤i:=by omega
      have HRES:=O (HT1.out (fun j hj=>hno.out j (by omega)));clear hno he;go_wp2;go_ret;exact⟨by rw[HRES.out];rfl,HBE.out _ hb⟩
  | false =>
    have hwr:=fun w=>Af nx 1 2147483647 w;rw[hw2] at hwr;have HWR:=O hwr;rw[Aa nx l hw2];clear hwr hw2
    go_enter Tryz.func40,Tryz.ntmps40
    go_wp2_with (go_at_call 74;refine(HWR.out _).mono ?_;rintro e wf ⟨rfl,hwf⟩;rw[hwf];clear hwf)
    go_ret;exact⟨rfl,HBE.out _ (by rw[←HW.out];exact Oo _ _)⟩
 ·have j1:(4096:Int)<l.length:=by omega
  rw[zZ nx l hl1]
  go_enter Tryz.func40,Tryz.ntmps40
  go_wp2;go_ret;exact⟨rfl,HBE.out _ (by rw[←HW.out];exact Oo _ _)⟩
end
end Go.Proofs.YtmfiaadjdbemnaaGreatDoor
