/- Contracts and lemmas. No condition. -/
import Derived.Test.YtmfiaadjdbemnaaGreatDoorSB01
set_option maxRecDepth 100000
set_option maxHeartbeats 8000000
set_option linter.unusedSimpArgs false
set_option linter.unusedVariables false
namespace Go.Proofs.YtmfiaadjdbemnaaGreatDoor
open Go.Proofs.Tryz
section
namespace C3
theorem vS (x:UInt8) (n:Nat) (hn:n≤24):(sl x.toUInt32 n).toNat=x.toNat*2 ^ n:=by
 have h:(sl x.toUInt32 n).toNat=x.toNat*2 ^ n % 4294967296:=by
  show (x.toUInt32.toBitVec <<< n).toNat=_
  rw[BitVec.toNat_shiftLeft,Nat.shiftLeft_eq]
  have : x.toUInt32.toBitVec.toNat=x.toNat:=by simp
  rw[this]
 rw[h];have h1:=x.toNat_lt;have h2:2 ^ n≤2 ^ 24:=Nat.pow_le_pow_right (by omega) hn;have h3:x.toNat*2 ^ n≤255*2 ^ 24:=Nat.mul_le_mul (by omega) h2;exact Nat.mod_eq_of_lt (by omega)
theorem Dr (a b i:Nat) (h:a<2 ^ i):a ||| b*2 ^ i=a+b*2 ^ i:=by
 have := Nat.two_pow_add_eq_or_of_lt h b;rw[Nat.mul_comm] at this;rw[Nat.or_comm,←this,Nat.add_comm]
theorem word_sum (a b c d:UInt8):a.toUInt32+sl b.toUInt32 8+sl c.toUInt32 16+sl d.toUInt32 24=word a b c d:=by
 have ha:=a.toNat_lt;have hb:=b.toNat_lt;have hc:=c.toNat_lt;have hd:=d.toNat_lt
 apply UInt32.toNat_inj.1
 have e1:a.toUInt32.toNat=a.toNat:=by simp
 have o1:=Dr a.toNat b.toNat 8 (by omega);have o2:=Dr (a.toNat+b.toNat*2 ^ 8) c.toNat 16 (by omega);have o3:=Dr (a.toNat+b.toNat*2 ^ 8+c.toNat*2 ^ 16) d.toNat 24 (by omega);unfold word;simp only[UInt32.toNat_add,UInt32.toNat_or,vS b 8 (by omega),vS c 16 (by omega),vS d 24 (by omega),e1,o1,o2,o3]
 omega
theorem stK_later (key:List UInt8) (ctr:UInt32):(stK key 0 8).set 12 ctr=stK key ctr 8:=rfl
end C3
end
section
open Go.RowKit
theorem qO (x:UInt32) (k:Int) (hk1:0≤k) (hk2:k<32) (w:World) :
  Calls prog 200 #[.int .u32 (W32 x),.int .i64 k] w fun e w'=>e = .returned (.int .u32 (W32 (C3.rotl x k.toNat)))∧∃n,w'=w.drewN n:=by
 obtain⟨n,rfl⟩:=Int.eq_ofNat_of_zero_le hk1;have e1:=jY x n;have e2:=iu x (32-n)
 go_enter func200,ntmps200
 go_wp2
 go_quiet (fail)
 go_wp2;go_ret;exact⟨nT rfl,_,rfl⟩
open Go.RowKit
theorem BP (w:World) (s:List UInt32) (hl:s.length=16) (i j k l:Nat) (hi:i<16) (hj:j<16) (hk:k<16) (hl':l<16)
  (h1:¬i=j) (h2:¬i=k) (h3:¬i=l) (h4:¬j=k) (h5:¬j=l) (h6:¬k=l) :
  Calls prog 196 #[.agg (row s),.int .i64 i,.int .i64 j,.int .i64 k,.int .i64 l] w fun e w'=>e = .returned (.agg (row (C3.qset s i j k l)))∧Below w.heap.size w w':=by
 have hw:=Ad;have g1:¬j=i:=fun e=>h1 e.symm;have g2:¬k=i:=fun e=>h2 e.symm;have g3:¬l=i:=fun e=>h3 e.symm;have g4:¬k=j:=fun e=>h4 e.symm;have g5:¬l=j:=fun e=>h5 e.symm;have g6:¬l=k:=fun e=>h6 e.symm
 have bi:(i:Int)<16:=by omega
 have bj:(j:Int)<16:=by omega
 have bk:(k:Int)<16:=by omega
 have bl:(l:Int)<16:=by omega
 go_enter func196,ntmps196
 go_wp2
 first |refine dJ 9 (by kernel_rfl) (by kernel_rfl) ?_|refine dD 9 (by kernel_rfl) (by kernel_rfl) ?_
 simp only[F_,c_,J_,L_]
 repeat (quiet_step (fail))
 refine h_ ?_;rintro _ ⟨nq,rfl⟩;go_wp2
 first |refine dJ 10 (by kernel_rfl) (by kernel_rfl) ?_|refine dD 10 (by kernel_rfl) (by kernel_rfl) ?_
 simp only[F_,c_,J_,L_]
 repeat (quiet_step ((go_at_call 200;exact Calls.quiet_of (qO _ _ (by omega) (by omega) _))))
 refine h_ ?_;rintro _ ⟨nq,rfl⟩;go_wp2
 first |refine dJ 9 (by kernel_rfl) (by kernel_rfl) ?_|refine dD 9 (by kernel_rfl) (by kernel_rfl) ?_
 simp only[F_,c_,J_,L_]
 repeat (quiet_step (fail))
 refine h_ ?_;rintro _ ⟨nq,rfl⟩;go_wp2
 first |refine dJ 10 (by kernel_rfl) (by kernel_rfl) ?_|refine dD 10 (by kernel_rfl) (by kernel_rfl) ?_
 simp only[F_,c_,J_,L_]
 repeat (quiet_step ((go_at_call 200;exact Calls.quiet_of (qO _ _ (by omega) (by omega) _))))
 refine h_ ?_;rintro _ ⟨nq,rfl⟩;go_wp2
 first |refine dJ 9 (by kernel_rfl) (by kernel_rfl) ?_|refine dD 9 (by kernel_rfl) (by kernel_rfl) ?_
 simp only[F_,c_,J_,L_]
 repeat (quiet_step (fail))
 refine h_ ?_;rintro _ ⟨nq,rfl⟩;go_wp2
 first |refine dJ 10 (by kernel_rfl) (by kernel_rfl) ?_|refine dD 10 (by kernel_rfl) (by kernel_rfl) ?_
 simp only[F_,c_,J_,L_]
 repeat (quiet_step ((go_at_call 200;exact Calls.quiet_of (qO _ _ (by omega) (by omega) _))))
 refine h_ ?_;rintro _ ⟨nq,rfl⟩;go_wp2
 first |refine dJ 9 (by kernel_rfl) (by kernel_rfl) ?_|refine dD 9 (by kernel_rfl) (by kernel_rfl) ?_
 simp only[F_,c_,J_,L_]
 repeat (quiet_step (fail))
 refine h_ ?_;rintro _ ⟨nq,rfl⟩;go_wp2
 first |refine dJ 10 (by kernel_rfl) (by kernel_rfl) ?_|refine dD 10 (by kernel_rfl) (by kernel_rfl) ?_
 simp only[F_,c_,J_,L_]
 repeat (quiet_step ((go_at_call 200;exact Calls.quiet_of (qO _ _ (by omega) (by omega) _))))
 refine h_ ?_;rintro _ ⟨nq,rfl⟩;clear hw
 go_wp2_with (first
  |(refine ng rfl (.tmp 5) rfl _ rfl _ 226 (cF _ _ _ _) (by simp[hl]) ?_)
  |(refine gN rfl (.tmp 10) (.tmp 87) rfl _ _ rfl rfl 226 _ (dL _ _ _ _) rfl (by simp[hl]) ?_))
 refine g_ (v := .agg (row _)) (zv rfl _ _ _ _ _ rfl (setRow_heap _ _ _ _ _ _ (dL _ _ _ _)) (by simp[hl])) rfl ⟨?_,?_⟩
 ·rw[C3.set_chain _ _ _ _ _ h1 h2 h3 h4 h5 h6];rfl
 ·exact below_setRow (ak _ (((O_ _ _).alloc (A_ _) _).alloc (by simp) _)) (by omega) _
end
end Go.Proofs.YtmfiaadjdbemnaaGreatDoor
