/- Rotations to the right, and the sum of three. -/
import Derived.Test.YtackbjbmadkkhaaDoorCipherA
import Derived.Test.YtackbjbmadkkhaaDoorPureH
namespace Go.Proofs.YtackbjbmadkkhaaDoor
open Go.RowKit
set_option linter.unusedSimpArgs false
set_option linter.unusedVariables false
theorem neg_wrap (n : Nat) (h0 : 0 < n) (h : n < 32) : IntKind.u64.wrap (-(n : Int)) = 18446744073709551616 - (n : Int) := by
  rw [IntKind.wrap_u64]
  omega
theorem neg_and (n : Nat) (h0 : 0 < n) (h : n < 32) : bits BinOp.and IntKind.u64 (18446744073709551616 - (n : Int)) 31 = ((32 - n : Nat) : Int) := by
  have e1 : (18446744073709551616 : Int) - (n : Int) = ((18446744073709551616 - n : Nat) : Int) := by omega
  have : bits BinOp.and IntKind.u64 ((18446744073709551616 - n : Nat) : Int) ((31 : Nat) : Int) = (((18446744073709551616 - n) &&& 31 : Nat) : Int) := u64_and_nat _ 31 (by omega) (by omega)
  rw [e1]
  have e : (18446744073709551616 - n) &&& 31 = 32 - n := by rw [Nat.and_two_pow_sub_one_eq_mod _ 5]; omega
  rw [e] at this
  exact this
attribute [local irreducible] Calls
set_option maxHeartbeats 400000 in
theorem rotr_c (x : UInt32) (n : Nat) (h0 : 0 < n) (h : n < 32) (w : World) :
    Calls Tryd.prog 68 #[.int .u32 (W32 x), .int .i64 (-(n : Int))] w fun e w' => e = .returned (.int .u32 (W32 (rr x n))) ∧ w' = w := by
  have hw := neg_wrap n h0 h
  have hb := neg_and n h0 h
  have e1 := u32_shl' x (32 - n)
  have e2 := u32_shr' x n
  have i1 : (32 : Int) - ((32 - n : Nat) : Int) = (n : Int) := by omega
  have i2 : ((32 - n : Nat) : Int) < 32 := by omega
  have i3 : ((32 - n : Nat) : Int).toNat = 32 - n := rfl
  go_enter Tryd.func68, Tryd.ntmps68
  go_wp2
  go_ret
  exact ⟨ret_u32 (by unfold rr; exact UInt32.or_comm _ _), rfl⟩
set_option maxHeartbeats 400000 in
theorem rotr_r (x : UInt32) (k : Int) (hk1 : 0 ≤ k) (hk2 : k < 32) (w : World) :
    Calls Tryd.prog 54 #[.int .u32 (W32 x), .int .i64 k] w fun e w' => e = .returned (.int .u32 (W32 (rr x k.toNat))) ∧ ∃ n, w' = w.drewN n := by
  obtain ⟨n, rfl⟩ := Int.eq_ofNat_of_zero_le hk1
  have e1 := u32_shr' x n
  have e2 := u32_shl' x (32 - n)
  go_enter Tryd.func54, Tryd.ntmps54
  go_wp2
  go_quiet (fail)
  go_wp2
  go_ret
  exact ⟨ret_u32 rfl, _, rfl⟩
set_option maxHeartbeats 400000 in
theorem mix_c (x : UInt32) (i j k : Nat) (i0 : 0 < i) (i1 : i < 32) (j0 : 0 < j) (j1 : j < 32) (k0 : 0 < k) (k1 : k < 32) (w : World) :
    Calls Tryd.prog 64 #[.int .u32 (W32 x), .int .i64 (i : Int), .int .i64 (j : Int), .int .i64 (k : Int)] w fun e w' => e = .returned (.int .u32 (W32 (mix3 x i j k))) ∧ w' = w := by
  have hi := rotr_c x i i0 i1
  have hj := rotr_c x j j0 j1
  have hk := rotr_c x k k0 k1
  have HI := Lib.hid hi
  have HJ := Lib.hid hj
  have HK := Lib.hid hk
  have n1 : IntKind.i64.wrap (-(i : Int)) = -(i : Int) := by rw [IntKind.wrap_i64]; omega
  have n2 : IntKind.i64.wrap (-(j : Int)) = -(j : Int) := by rw [IntKind.wrap_i64]; omega
  have n3 : IntKind.i64.wrap (-(k : Int)) = -(k : Int) := by rw [IntKind.wrap_i64]; omega
  clear hi hj hk
  have tok1 : True := trivial
  have tok2 : True := trivial
  go_enter Tryd.func64, Tryd.ntmps64
  go_wp2_with (first
    | (go_at_call 68; clear tok1; refine (HI.out _).mono ?_; rintro e _ ⟨rfl, rfl⟩)
    | (go_at_call 68; clear tok2; refine (HJ.out _).mono ?_; rintro e _ ⟨rfl, rfl⟩)
    | (go_at_call 68; refine (HK.out _).mono ?_; rintro e _ ⟨rfl, rfl⟩))
  go_ret
  exact ⟨rfl, rfl⟩
end Go.Proofs.YtackbjbmadkkhaaDoor
