/- Inverses and quotients. -/
import Derived.Test.YtbkkffdgkkcbfabFieldB
namespace Go.Proofs.Ytbkkffdgkkcbfab
open Go.RowKit F6
set_option linter.unusedSimpArgs false
set_option linter.unusedVariables false
attribute [local irreducible] mul pow sq sqp
theorem b8_one : (1 : Int) = B8 1 := rfl
theorem pow_zero' (a : UInt8) : pow a 0 = 1 := by unfold pow; rfl
theorem pow_succ' (a : UInt8) (n : Nat) : pow a (n + 1) = mul (pow a n) a := by conv => lhs; unfold pow
set_option maxRecDepth 100000 in
set_option maxHeartbeats 1000000 in
theorem inv_r (a : UInt8) (h : a ≠ 0) (w : World) :
    Calls Try.prog 10 #[.int .u8 (B8 a)] w fun e w' => e = .returned (.tuple #[.int .u8 (B8 (inverse a)), .int .i64 0]) ∧ w' = w := by
  have h0 : (B8 a == 0) = false := by rw [beq_eq_false_iff_ne]; intro e; exact h (u8_inj (by rw [e]; rfl))
  rw [inverse_pow]
  go_enter Try.func10, Try.ntmps10
  go_wp2
  go_loop [4, 5] (fun p i => ∃ k : Nat, k ≤ 254 ∧ i = .int .i64 k ∧ p = .int .u8 (B8 (pow a k))) (fun _ i => 254 - (intOf i).toNat)
  case atStart => exact ⟨0, by omega, rfl, by rw [pow_zero']; rfl⟩
  case round =>
    obtain ⟨k, hk, rfl, rfl⟩ := hrel
    by_cases hlt : k < 254
    · have hs := pow_succ' a k
      have HS := Lib.hid hs
      have HK := Lib.hid hlt
      clear hs
      go_wp2_with (go_at_call 15; refine (mul_r _ _ _).mono ?_; rintro e _ ⟨rfl, rfl⟩)
      go_round
      case rel => exact ⟨k + 1, HK.out, by go_num, by rw [HS.out]⟩
      case measure => have := HK.out; simp [intOf]; omega
    · have he : k = 254 := by omega
      have HE := Lib.hid he
      clear he
      go_wp2
      go_ret2
      exact ⟨by rw [HE.out]; rfl, rfl⟩
theorem inv_r0 (w : World) :
    Calls Try.prog 10 #[.int .u8 0] w fun e w' => e = .returned (.tuple #[.int .u8 0, .int .i64 1]) ∧ w' = w := by
  go_enter Try.func10, Try.ntmps10
  go_wp2
  go_ret2
  exact ⟨rfl, rfl⟩
theorem div_r (a b : UInt8) (h : b ≠ 0) (w : World) :
    Calls Try.prog 12 #[.int .u8 (B8 a), .int .u8 (B8 b)] w fun e w' => e = .returned (.tuple #[.int .u8 (B8 (div a b)), .int .i64 0]) ∧ w' = w := by
  go_enter Try.func12, Try.ntmps12
  go_wp2_with (first
    | (go_at_call 10; refine (inv_r b h _).mono ?_; rintro e _ ⟨rfl, rfl⟩)
    | (go_at_call 15; refine (mul_r _ _ _).mono ?_; rintro e _ ⟨rfl, rfl⟩))
  go_ret2
  exact ⟨rfl, rfl⟩
theorem div_r0 (a : UInt8) (w : World) :
    Calls Try.prog 12 #[.int .u8 (B8 a), .int .u8 0] w fun e w' => e = .returned (.tuple #[.int .u8 0, .int .i64 1]) ∧ w' = w := by
  go_enter Try.func12, Try.ntmps12
  go_wp2_with (go_at_call 10; refine (inv_r0 _).mono ?_; rintro e _ ⟨rfl, rfl⟩)
  go_ret2
  exact ⟨rfl, rfl⟩
end Go.Proofs.Ytbkkffdgkkcbfab
