/- Contracts and lemmas. No condition. -/
import Derived.Test.YtmfiaadjdbemnaaGreatDoorSB12
set_option maxRecDepth 100000
set_option maxHeartbeats 8000000
set_option linter.unusedSimpArgs false
set_option linter.unusedVariables false
namespace Go.Proofs.YtmfiaadjdbemnaaGreatDoor
open Tryz
section
namespace C3
theorem vS (x:UInt8) (n:Nat) (hn:n≤24):(sl x.toUInt32 n).toNat=x.toNat*2 ^ n:=by
 have h:(sl x.toUInt32 n).toNat=x.toNat*2 ^ n % 4294967296:=by
  show (x.toUInt32.toBitVec <<< n).toNat=_
  rw[BitVec.toNat_shiftLeft,Nat.shiftLeft_eq]
  have : x.toUInt32.toBitVec.toNat=x.toNat:=by simp
  rw[this]
 rw[h];have h1:=x.toNat_lt;have h2:2 ^ n≤2 ^ 24:=Nat.pow_le_pow_right (by omega) hn;have h3:x.toNat*2 ^ n≤255*2 ^ 24:=Nat.mul_le_mul (by omega) h2;exact Nat.mod_eq_of_lt (by omega)
theorem Dr (a b i:Nat) (h:a<2 ^ i):a ||| b*2 ^ i=a+b*2 ^ i:=by
 have := Nat.two_pow_add_eq_or_of_lt h b;rw[Nat.mul_comm] at this;rw[Nat.or_comm,←this,Nat.add_comm]
theorem word_sum (a b c d:UInt8):a.toUInt32+sl b.toUInt32 8+sl c.toUInt32 16+sl d.toUInt32 24=word a b c d:=by
 have ha:=a.toNat_lt;have hb:=b.toNat_lt;have hc:=c.toNat_lt;have hd:=d.toNat_lt
 apply UInt32.toNat_inj.1
 have e1:a.toUInt32.toNat=a.toNat:=by simp
 have o1:=Dr a.toNat b.toNat 8 (by omega);have o2:=Dr (a.toNat+b.toNat*2 ^ 8) c.toNat 16 (by omega);have o3:=Dr (a.toNat+b.toNat*2 ^ 8+c.toNat*2 ^ 16) d.toNat 24 (by omega);unfold word;simp only[UInt32.toNat_add,UInt32.toNat_or,vS b 8 (by omega),vS c 16 (by omega),vS d 24 (by omega),e1,o1,o2,o3]
 omega
theorem stK_later (key:List UInt8) (ctr:UInt32):(stK key 0 8).set 12 ctr=stK key ctr 8:=rfl
end C3
end
section
variable {P:Program} {ops:Array Oper} {md:Region.Mode} {C:World→Prop}
theorem Dw (C:World→Prop) {id:Nat} {Q:Exit→Act→World→Prop} {a:Act} {w:World} {l:List Oper} (hm:P.follows .mixedOrders=true) (hB:Region.lexB .any l.toArray=true)
  (hC:C w.drew) (h:wpQuiet P l.toArray C (fun a'=>∀w',C w'→Q .normal a' w') l a):(Code.region id l.toArray true).wp P Q a w :=
 wp_region_quiet (C:=C) hm hB hC (by simpa using h)
open Go.RowKit
theorem Nm {id:Nat} {Q:Exit→Act→World→Prop} {a:Act} {w:World} {l:List Oper} (hm:P.follows .mixedOrders=true) (hB:Region.lexB .any l.toArray=true)
  (h:wpQuiet P l.toArray (fun w'=>∃u:dj w,w'=u.now) (fun a'=>∀w',(∃u:dj w,w'=u.now)→Q .normal a' w') l a):(Code.region id l.toArray true).wp P Q a w :=
 Dw (fun w'=>∃u:dj w,w'=u.now) hm hB ⟨⟨w.drew,(O_ _ _).drew⟩,rfl⟩ h
end
section
open Go.RowKit
theorem qO (x:UInt32) (k:Int) (hk1:0≤k) (hk2:k<32) (w:World) :
  Calls prog 200 #[.int .u32 (W32 x),.int .i64 k] w fun e w'=>e = .returned (.int .u32 (W32 (C3.rotl x k.toNat)))∧∃n,w'=w.drewN n:=by
 obtain⟨n,rfl⟩:=Int.eq_ofNat_of_zero_le hk1;have e1:=jY x n;have e2:=iu x (32-n)
 go_enter func200,ntmps200
 go_wp2
 go_quiet (fail)
 go_wp2;go_ret;exact⟨nT rfl,_,rfl⟩
theorem BH (m:List UInt8):(gj m).length % 64=0:=by
 unfold gj kS be8;simp only[E_,List.length_replicate,List.length_map,List.length_range,List.length_singleton]
 omega
open Go.RowKit
variable {α:Type} {E:El α}
theorem yQ (w:World) (h0:E.c=E.c):ap E (w.alloc (.cells #[] E.T)) w.heap.size (.slice (some ⟨w.heap.size,0,none⟩) 0 0) [] :=
 ⟨by simp[El.flat],.inr ⟨w.heap.size,0,#[],rfl,A_ _,heap_alloc_new _ _,A_ _,by unfold maxLen;omega,by simp,by simp[El.flat]⟩⟩
end
section
open Go.RowKit
attribute [local irreducible] win Calls
theorem ov (k:K) (w:World):Calls prog 75 #[kv k] w fun e w'=>e = .returned (.bool (bf k))∧Below w.heap.size w w':=by
 unfold kv kc;have hb:=(O_ w.heap.size w).alloc (A_ _) (.cells #[.int .i64 k.id,.int .i64 k.ty,.string ⟨k.val.toArray⟩,.int .i64 k.uses,.int .i64 k.start,.int .i64 k.fin,.int .i64 k.ver,.int .i64 k.par,.bool k.raw] 86);have HB:=O hb;clear hb
 go_enter func75,ntmps75
 go_wp2_with (go_at_call 74;refine(Af _ _ _ _).mono ?_;rintro e _ ⟨rfl,rfl⟩)
 all_goals
  go_ret;refine⟨?_,HB.out⟩
  simp_all [bf,wu]
end
section
open Go.RowKit Go.Shelf
theorem G2 (nx:Int) (l:List K) (i:Nat):(oE nx l i=false∧bf (ae l i)=false)∨(oE nx l i=false∧bf (ae l i)=true∧(ae l i).id≤cv l i) ∨
  (oE nx l i=false∧bf (ae l i)=true∧¬(ae l i).id≤cv l i∧nx≤(ae l i).id) ∨
  (oE nx l i=false∧bf (ae l i)=true∧¬(ae l i).id≤cv l i∧¬nx≤(ae l i).id∧nx≤(ae l i).par) ∨
  (oE nx l i=true∧bf (ae l i)=true∧¬(ae l i).id≤cv l i∧¬nx≤(ae l i).id∧¬nx≤(ae l i).par):=by
 unfold oE
 by_cases h0:bf (ae l i)=true
 ·by_cases h1:(ae l i).id≤cv l i
  ·exact .inr (.inl ⟨by rw[V_ (by omega:¬cv l i<(ae l i).id)];simp,h0,h1⟩)
  ·by_cases h2:nx≤(ae l i).id
   ·exact .inr (.inr (.inl ⟨by rw[V_ (by omega:¬(ae l i).id<nx)];simp,h0,h1,h2⟩))
   ·by_cases h3:nx≤(ae l i).par
    ·exact .inr (.inr (.inr (.inl ⟨by rw[V_ (by omega:¬(ae l i).par<nx)];simp,h0,h1,h2,h3⟩)))
    ·exact .inr (.inr (.inr (.inr ⟨by rw[h0,decide_eq_true (by omega:cv l i<(ae l i).id),decide_eq_true (by omega:(ae l i).id<nx),decide_eq_true (by omega:(ae l i).par<nx)];rfl,h0,h1,h2,h3⟩)))
 ·have h0':bf (ae l i)=false:=by simpa using h0
  exact .inl ⟨by rw[h0'];rfl,h0'⟩
theorem ww (nx:Int) (l:List K) (i:Nat) (hi:i<l.length) (h:oE nx l i=false):aP nx l=false:=by
 have : (List.range l.length).all (oE nx l)=false:=by
  rw[List.all_eq_false];exact⟨i,List.mem_range.2 hi,by rw[h];decide⟩
 rw[aP,this];simp
theorem wJ (nx:Int) (l:List K) (h1:l.length≤4096) (h2:win nx 1 2147483647=true) (h:∀j,j<l.length→oE nx l j=true):aP nx l=true:=by
 have : (List.range l.length).all (oE nx l)=true:=List.all_eq_true.2 (fun i hi=>h i (List.mem_range.1 hi));rw[aP,this,h2,decide_eq_true h1];rfl
theorem zZ (nx:Int) (l:List K) (h1:¬l.length≤4096):aP nx l=false:=by rw[aP,V_ h1];rfl
theorem Aa (nx:Int) (l:List K) (h2:win nx 1 2147483647=false):aP nx l=false:=by rw[aP,h2];simp
attribute [local irreducible] Calls aP oE bf cv win
theorem Ab (nx : Int) (v : Value) (l : List K) (w : World) (hv : RdK w v l) :
  Calls prog 40 #[.agg #[.int .i64 nx,v]] w fun e w'=>e = .returned (.bool (aP nx l))∧Below w.heap.size w w':=by
 have hlen:=hv.len;unfold maxLen at hlen;obtain⟨W0,hW0⟩:∃W0,W0=w.alloc (.cells #[.int .i64 nx,v] 45):=⟨_,rfl⟩
 have hvw:RdK W0 v l:=by rw[hW0];exact hv.alloc _
 have hbx:∀w1,Below W0.heap.size W0 w1→w1.cell? ⟨w.heap.size,0,none⟩=some (.int .i64 nx)∧w1.cell? ⟨w.heap.size,1,none⟩=some v:=by
  intro w1 h;rw[hW0] at h;exact⟨gi _ _ _ h 0,gi _ _ _ h 1⟩
 have hbe:∀w1,Below W0.heap.size W0 w1→Below w.heap.size w w1:=by
  intro w1 h;rw[hW0] at h;exact cJ _ _ h
 have hsz:w.heap.size<W0.heap.size:=by rw[hW0];simp
 have HV:=O hvw;have HBX:=O hbx;have HBE:=O hbe;have HW:=O hW0;obtain⟨a,cap,rfl,_,_,_⟩:=hv;clear hW0 hvw hbx hbe
 by_cases hl1:l.length≤4096
 ·have j1 : ¬ (4096 : Int) < l.length := by omega
  cases hw2:win nx 1 2147483647 with
  | true =>
    have hwr:=fun w=>Af nx 1 2147483647 w;rw[hw2] at hwr;have HWR:=O hwr;have HT0:=O (fun i hi h=>ww nx l i hi h);have HT1:=O (wJ nx l hl1 hw2);clear hwr hw2
    go_enter func40,ntmps40
    go_wp2_with (go_at_call 74;refine(HWR.out _).mono ?_;rintro e wf ⟨rfl,hwf⟩;rw[hwf];clear hwf)
    go_loopw [3,4] (fun la o wr=>∃i:Nat,i≤l.length∧o = .int .i64 i∧la = .int .i64 (cv l i)∧Hid (∀j,j<i→oE nx l j=true)∧Below W0.heap.size W0 wr) (fun _ o _=>l.length-(intOf o).toNat)
    case atStart=>exact⟨0,N_ _,rfl,by rw[gR],O (fun j hj=>absurd hj (by omega)),by rw[←HW.out];exact O_ _ _⟩
    case round =>
     obtain⟨i,hi,rfl,rfl,hno,hb⟩:=hrel;obtain⟨t0,t1⟩:=HBX.out wr hb;have hbs:=hb.size
     have z0:w.heap.size<wr.heap.size:=by omega
     have z0':w.heap.size≠wr.heap.size:=by omega
     by_cases hlt:i<l.length
     ·obtain⟨bb,off,rfl,hbl,aO⟩:=((HV.out.on hb).cells) (by omega)
      obtain⟨d0,d1,d2,d3,d4,d5,d6,d7,d8⟩:=aO i hlt
      have i1:(i:Int)<l.length:=by omega
      have HK:=O hlt;have HNO:=hno;have HB:=O hb;have hval:=ov (ae l i) (wr.alloc (.cells (kc (ae l i)) 86))
      have hbx2:∀w1,Below (wr.alloc (.cells (kc (ae l i)) 86)).heap.size (wr.alloc (.cells (kc (ae l i)) 86)) w1 →
        w1.cell? ⟨wr.heap.size,0,none⟩=some (.int .i64 (ae l i).id)∧w1.cell? ⟨wr.heap.size,7,none⟩=some (.int .i64 (ae l i).par)∧w1.cell? ⟨w.heap.size,0,none⟩=some (.int .i64 nx)∧Below W0.heap.size W0 w1:=by
       intro w1 h;have h2:=HB.out.trans ((cJ _ _ h).mono hbs);exact⟨gi _ _ _ h 0,gi _ _ _ h 7,(HBX.out _ h2).1,h2⟩
      unfold kv at hval;unfold kc at hval hbx2;have HLS:=O (gQ l i);have HX2:=O hbx2;clear aO hb hno hbx2
      rcases G2 nx l i with⟨ho,h1⟩|⟨ho,h1,h2⟩|⟨ho,h1,h2,h3⟩|⟨ho,h1,h2,h3,h4⟩|⟨ho,h1,h2,h3,h4⟩
      case inr.inr.inr.inr =>
       rw[h1] at hval;have HVAL:=O hval;have HO:=O ho;clear hval h1 ho
       go_wp2_with (go_at_call 75;refine HVAL.out.mono ?_;rintro e w1 ⟨rfl,hb'⟩;obtain⟨e0,e7,n0,hbb⟩:=HX2.out _ hb';clear hb')
       go_roundw
       case rel=>exact⟨i+1,HK.out,by go_num,by rw[HLS.out],O (fun j hj=>by
        by_cases e:j=i
        ·subst e;exact HO.out
        ·exact HNO.out j (by omega)),hbb⟩
       case measure=>have := HK.out;simp[intOf];omega
      all_goals
       have HRES:=O (HT0.out i HK.out ho);rw[h1] at hval;have HVAL:=O hval;clear hval h1 ho
       go_wp2_with (go_at_call 75;refine HVAL.out.mono ?_;rintro e w1 ⟨rfl,hb'⟩;obtain⟨e0,e7,n0,hbb⟩:=HX2.out _ hb';clear hb')
       go_ret;exact⟨by rw[HRES.out];rfl,HBE.out _ hbb⟩
     ·have he:i=l.length:=by omega
      have i1:(l.length:Int)≤i:=by omega
      have HRES:=O (HT1.out (fun j hj=>hno.out j (by omega)));clear hno he;go_wp2;go_ret;exact⟨by rw[HRES.out];rfl,HBE.out _ hb⟩
  | false =>
    have hwr:=fun w=>Af nx 1 2147483647 w;rw[hw2] at hwr;have HWR:=O hwr;rw[Aa nx l hw2];clear hwr hw2
    go_enter func40,ntmps40
    go_wp2_with (go_at_call 74;refine(HWR.out _).mono ?_;rintro e wf ⟨rfl,hwf⟩;rw[hwf];clear hwf)
    go_ret;exact⟨rfl,HBE.out _ (by rw[←HW.out];exact O_ _ _)⟩
 ·have j1:(4096:Int)<l.length:=by omega
  rw[zZ nx l hl1]
  go_enter func40,ntmps40
  go_wp2;go_ret;exact⟨rfl,HBE.out _ (by rw[←HW.out];exact O_ _ _)⟩
end
section
open Go.RowKit
theorem BP (w:World) (s:List UInt32) (hl:s.length=16) (i j k l:Nat) (hi:i<16) (hj:j<16) (hk:k<16) (hl':l<16)
  (h1:¬i=j) (h2:¬i=k) (h3:¬i=l) (h4:¬j=k) (h5:¬j=l) (h6:¬k=l) :
  Calls prog 196 #[.agg (row s),.int .i64 i,.int .i64 j,.int .i64 k,.int .i64 l] w fun e w'=>e = .returned (.agg (row (C3.qset s i j k l)))∧Below w.heap.size w w':=by
 have hw:=Ad;have g1:¬j=i:=fun e=>h1 e.symm;have g2:¬k=i:=fun e=>h2 e.symm;have g3:¬l=i:=fun e=>h3 e.symm;have g4:¬k=j:=fun e=>h4 e.symm;have g5:¬l=j:=fun e=>h5 e.symm;have g6:¬l=k:=fun e=>h6 e.symm
 have bi:(i:Int)<16:=by omega
 have bj:(j:Int)<16:=by omega
 have bk:(k:Int)<16:=by omega
 have bl:(l:Int)<16:=by omega
 go_enter func196,ntmps196
 go_wp2
 first |refine dJ 9 (by kernel_rfl) (by kernel_rfl) ?_|refine dD 9 (by kernel_rfl) (by kernel_rfl) ?_
 simp only[F_,c_,J_,L_]
 repeat (quiet_step (fail))
 refine h_ ?_;rintro _ ⟨nq,rfl⟩;go_wp2
 first |refine dJ 10 (by kernel_rfl) (by kernel_rfl) ?_|refine dD 10 (by kernel_rfl) (by kernel_rfl) ?_
 simp only[F_,c_,J_,L_]
 repeat (quiet_step ((go_at_call 200;exact Calls.quiet_of (qO _ _ (by omega) (by omega) _))))
 refine h_ ?_;rintro _ ⟨nq,rfl⟩;go_wp2
 first |refine dJ 9 (by kernel_rfl) (by kernel_rfl) ?_|refine dD 9 (by kernel_rfl) (by kernel_rfl) ?_
 simp only[F_,c_,J_,L_]
 repeat (quiet_step (fail))
 refine h_ ?_;rintro _ ⟨nq,rfl⟩;go_wp2
 first |refine dJ 10 (by kernel_rfl) (by kernel_rfl) ?_|refine dD 10 (by kernel_rfl) (by kernel_rfl) ?_
 simp only[F_,c_,J_,L_]
 repeat (quiet_step ((go_at_call 200;exact Calls.quiet_of (qO _ _ (by omega) (by omega) _))))
 refine h_ ?_;rintro _ ⟨nq,rfl⟩;go_wp2
 first |refine dJ 9 (by kernel_rfl) (by kernel_rfl) ?_|refine dD 9 (by kernel_rfl) (by kernel_rfl) ?_
 simp only[F_,c_,J_,L_]
 repeat (quiet_step (fail))
 refine h_ ?_;rintro _ ⟨nq,rfl⟩;go_wp2
 first |refine dJ 10 (by kernel_rfl) (by kernel_rfl) ?_|refine dD 10 (by kernel_rfl) (by kernel_rfl) ?_
 simp only[F_,c_,J_,L_]
 repeat (quiet_step ((go_at_call 200;exact Calls.quiet_of (qO _ _ (by omega) (by omega) _))))
 refine h_ ?_;rintro _ ⟨nq,rfl⟩;go_wp2
 first |refine dJ 9 (by kernel_rfl) (by kernel_rfl) ?_|refine dD 9 (by kernel_rfl) (by kernel_rfl) ?_
 simp only[F_,c_,J_,L_]
 repeat (quiet_step (fail))
 refine h_ ?_;rintro _ ⟨nq,rfl⟩;go_wp2
 first |refine dJ 10 (by kernel_rfl) (by kernel_rfl) ?_|refine dD 10 (by kernel_rfl) (by kernel_rfl) ?_
 simp only[F_,c_,J_,L_]
 repeat (quiet_step ((go_at_call 200;exact Calls.quiet_of (qO _ _ (by omega) (by omega) _))))
 refine h_ ?_;rintro _ ⟨nq,rfl⟩;clear hw
 go_wp2_with (first
  |(refine ng rfl (.tmp 5) rfl _ rfl _ 226 (cF _ _ _ _) (by simp[hl]) ?_)
  |(refine gN rfl (.tmp 10) (.tmp 87) rfl _ _ rfl rfl 226 _ (dL _ _ _ _) rfl (by simp[hl]) ?_))
 refine g_ (v := .agg (row _)) (zv rfl _ _ _ _ _ rfl (setRow_heap _ _ _ _ _ _ (dL _ _ _ _)) (by simp[hl])) rfl ⟨?_,?_⟩
 ·rw[C3.set_chain _ _ _ _ _ h1 h2 h3 h4 h5 h6];rfl
 ·exact below_setRow (ak _ (((O_ _ _).alloc (A_ _) _).alloc (by simp) _)) (by omega) _
end
section
namespace F6
def pow (a:B):Nat→B
 | 0=>1
 | n+1=>mul (pow a n) a
theorem pow_add (a:B) (m n:Nat):pow a (m+n)=mul (pow a m) (pow a n):=by
 induction n with
 | zero=>rw[Nat.add_zero,pow,mul_one]
 | succ n ih=>rw[←Nat.add_assoc,pow,ih,pow,dS]
theorem TR (a:B) (n:Nat):sq a n=pow a (2 ^ n):=by
 induction n with
 | zero=>show a=mul 1 a;rw[one_mul]
 | succ n ih=>rw[sq,ih,←pow_add];congr 1;rw[Nat.pow_succ];omega
theorem PX (a:B) (n:Nat):sqp a n=pow a (2 ^ (n+1)-2):=by
 induction n with
 | zero=>rfl
 | succ n ih =>
   rw[sqp,ih,TR,←pow_add]
   congr 1
   have : 2 ^ (n+1)≥2:=by have := Nat.one_le_two_pow (n:=n);rw[Nat.pow_succ];omega
   rw[Nat.pow_succ 2 (n+1)];omega
theorem Bl (a:B):ku a=pow a 254:=PX a 7
end F6
end
section
namespace Fld
open F6
attribute [go_sem] Sr J2
theorem MO (x:UInt8) (h:bit x 7=true):(256:Int)≤2*B8 x∧bits .xor .i64 (2*B8 x) 285=B8 (xt x):=by
 obtain⟨h1,h2⟩:=MN x h;rw[Int.mul_comm];exact⟨by omega,h2⟩
theorem MQ (x:UInt8) (h:bit x 7=false):¬(256:Int)≤2*B8 x∧2*B8 x=B8 (xt x):=by
 obtain⟨h1,h2⟩:=MP x h;rw[Int.mul_comm];exact⟨by omega,h2⟩
theorem Nz (b:UInt8) (k:Nat):((B8 b / 2 ^ k).tmod 2 == 1)=bit b k:=by
 have e:B8 b / 2 ^ k=((b.toNat / 2 ^ k:Nat):Int):=by unfold B8;rw[Int.natCast_ediv,Int.natCast_pow];rfl
 have h:=CA b k;rw[sf] at h;rw[e,h,Int.tmod_eq_emod_of_nonneg (Int.natCast_nonneg _)];generalize b.toNat / 2 ^ k=n;rw[Bool.eq_iff_iff,beq_iff_eq,decide_eq_true_eq]
 omega
end Fld
end
section
namespace Fld
open Go.RowKit F6
theorem xL (a b:UInt8) (w:World) :
  Calls prog 116 #[.int .u8 (B8 a),.int .u8 (B8 b)] w fun e w'=>e = .returned (.int .u8 (B8 (mul a b)))∧w'=w:=by
 go_enter func116,ntmps116
 go_wp2
 go_loop [5,6,7] (fun p x i=>∃k:Nat,k≤8∧i = .int .i64 k∧x = .int .i64 (B8 (xts a k))∧p = .int .i64 (B8 (cY a b k))) (fun _ _ i=>8-(intOf i).toNat)
 case atStart=>exact⟨0,by omega,rfl,rfl,rfl⟩
 case round =>
  obtain⟨k,hk,rfl,rfl,rfl⟩:=hrel
  by_cases hlt:k<8
  ·have hb:=Nz b k
   have em:cY a b (k+1)=cY a b k ^^^ (if bit b k then xts a k else 0):=rfl;have ex:xts a (k+1)=xt (xts a k):=rfl;have HK:=O hlt;have EX:=O ex;clear ex
   cases hbit:bit b k
   ·rw[hbit] at hb em
    have em':cY a b (k+1)=cY a b k:=by rw[em];simp
    have EM:=O em';clear em em' hbit
    cases h7:bit (xts a k) 7
    ·obtain⟨x1,x2⟩:=MQ _ h7
     have X2:=O x2;clear x2 h7;go_wp2
     go_round
     case rel=>exact⟨k+1,HK.out,by go_num,by rw[X2.out,EP,EX.out],by rw[EM.out]⟩
     case measure=>have := HK.out;simp[intOf];omega
    ·obtain⟨x1,x2⟩:=MO _ h7
     clear h7;go_wp2
     go_round
     case rel=>exact⟨k+1,HK.out,by go_num,by rw[EX.out],by rw[EM.out]⟩
     case measure=>have := HK.out;simp[intOf];omega
   ·rw[hbit] at hb em
    have em':cY a b (k+1)=cY a b k ^^^ xts a k:=by rw[em];simp
    have EM:=O em';clear em em' hbit
    cases h7:bit (xts a k) 7
    ·obtain⟨x1,x2⟩:=MQ _ h7
     have X2:=O x2;clear x2 h7;go_wp2
     go_round
     case rel=>exact⟨k+1,HK.out,by go_num,by rw[X2.out,EP,EX.out],by rw[EM.out]⟩
     case measure=>have := HK.out;simp[intOf];omega
    ·obtain⟨x1,x2⟩:=MO _ h7
     clear h7;go_wp2
     go_round
     case rel=>exact⟨k+1,HK.out,by go_num,by rw[EX.out],by rw[EM.out]⟩
     case measure=>have := HK.out;simp[intOf];omega
  ·have he:k=8:=by omega
   have HE:=O he;clear he;go_wp2;go_ret;exact⟨by rw[HE.out];rfl,rfl⟩
end Fld
end
section
namespace Fld
open Go.RowKit F6
attribute [local irreducible] mul pow sq sqp
theorem rO (a:UInt8):pow a 0=1:=by unfold pow;rfl
theorem rN (a:UInt8) (n:Nat):pow a (n+1)=mul (pow a n) a:=by conv=>lhs;unfold pow
theorem VU (a:UInt8) (h:a≠0) (w:World) :
  Calls prog 198 #[.int .u8 (B8 a)] w fun e w'=>e = .returned (.tuple #[.int .u8 (B8 (ku a)),.int .i64 0])∧w'=w:=by
 have h0:(B8 a == 0)=false:=by rw[U_];intro e;exact h (pJ (by rw[e];rfl))
 rw[Bl]
 go_enter func198,ntmps198
 go_wp2
 go_loop [4,5] (fun p i=>∃k:Nat,k≤254∧i = .int .i64 k∧p = .int .u8 (B8 (pow a k))) (fun _ i=>254-(intOf i).toNat)
 case atStart=>exact⟨0,by omega,rfl,by rw[rO];rfl⟩
 case round =>
  obtain⟨k,hk,rfl,rfl⟩:=hrel
  by_cases hlt:k<254
  ·have hs:=rN a k
   have HS:=O hs;have HK:=O hlt;clear hs
   go_wp2_with (go_at_call 116;refine(xL _ _ _).mono ?_;rintro e _ ⟨rfl,rfl⟩)
   go_round
   case rel=>exact⟨k+1,HK.out,by go_num,by rw[HS.out]⟩
   case measure=>have := HK.out;simp[intOf];omega
  ·have he:k=254:=by omega
   have HE:=O he;clear he;go_wp2
   go_ret2
   exact⟨by rw[HE.out];rfl,rfl⟩
theorem VE (a b:UInt8) (h:b≠0) (w:World) :
  Calls prog 191 #[.int .u8 (B8 a),.int .u8 (B8 b)] w fun e w'=>e = .returned (.tuple #[.int .u8 (B8 (div a b)),.int .i64 0])∧w'=w:=by
 go_enter func191,ntmps191
 go_wp2_with (first
  |(go_at_call 198;refine(VU b h _).mono ?_;rintro e _ ⟨rfl,rfl⟩)
  |(go_at_call 116;refine(xL _ _ _).mono ?_;rintro e _ ⟨rfl,rfl⟩))
 go_ret2
 exact⟨rfl,rfl⟩
end Fld
end
end Go.Proofs.YtmfiaadjdbemnaaGreatDoor
