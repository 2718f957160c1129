/- The specification's product. -/
import Derived.Test.YtbkkffdgkkcbfabFieldA
namespace Go.Proofs.Ytbkkffdgkkcbfab
open Go.RowKit F6
set_option linter.unusedSimpArgs false
set_option linter.unusedVariables false

set_option maxHeartbeats 1000000 in
theorem mul_r (a b : UInt8) (w : World) :
    Calls Try.prog 15 #[.int .u8 (B8 a), .int .u8 (B8 b)] w fun e w' => e = .returned (.int .u8 (B8 (mul a b))) ∧ w' = w := by
  go_enter Try.func15, Try.ntmps15
  go_wp2
  go_loop [5, 6, 7] (fun p x i => ∃ k : Nat, k ≤ 8 ∧ i = .int .i64 k ∧ x = .int .i64 (B8 (xts a k)) ∧ p = .int .i64 (B8 (mulTo a b k))) (fun _ _ i => 8 - (intOf i).toNat)
  case atStart => exact ⟨0, by omega, rfl, rfl, rfl⟩
  case round =>
    obtain ⟨k, hk, rfl, rfl, rfl⟩ := hrel
    by_cases hlt : k < 8
    · have hb := bit_mod b k
      have em : mulTo a b (k + 1) = mulTo a b k ^^^ (if bit b k then xts a k else 0) := rfl
      have ex : xts a (k + 1) = xt (xts a k) := rfl
      have HK := Lib.hid hlt
      have EX := Lib.hid ex
      clear ex
      cases hbit : bit b k
      · rw [hbit] at hb em
        have em' : mulTo a b (k + 1) = mulTo a b k := by rw [em]; simp
        have EM := Lib.hid em'
        clear em em' hbit
        cases h7 : bit (xts a k) 7
        · obtain ⟨x1, x2⟩ := xt_lo2 _ h7
          have X2 := Lib.hid x2
          clear x2 h7
          go_wp2
          go_round
          case rel => exact ⟨k + 1, HK.out, by go_num, by rw [X2.out, i64_u8', EX.out], by rw [EM.out]⟩
          case measure => have := HK.out; simp [intOf]; omega
        · obtain ⟨x1, x2⟩ := xt_hi2 _ h7
          clear h7
          go_wp2
          go_round
          case rel => exact ⟨k + 1, HK.out, by go_num, by rw [EX.out], by rw [EM.out]⟩
          case measure => have := HK.out; simp [intOf]; omega
      · rw [hbit] at hb em
        have em' : mulTo a b (k + 1) = mulTo a b k ^^^ xts a k := by rw [em]; simp
        have EM := Lib.hid em'
        clear em em' hbit
        cases h7 : bit (xts a k) 7
        · obtain ⟨x1, x2⟩ := xt_lo2 _ h7
          have X2 := Lib.hid x2
          clear x2 h7
          go_wp2
          go_round
          case rel => exact ⟨k + 1, HK.out, by go_num, by rw [X2.out, i64_u8', EX.out], by rw [EM.out]⟩
          case measure => have := HK.out; simp [intOf]; omega
        · obtain ⟨x1, x2⟩ := xt_hi2 _ h7
          clear h7
          go_wp2
          go_round
          case rel => exact ⟨k + 1, HK.out, by go_num, by rw [EX.out], by rw [EM.out]⟩
          case measure => have := HK.out; simp [intOf]; omega
    · have he : k = 8 := by omega
      have HE := Lib.hid he
      clear he
      go_wp2
      go_ret
      exact ⟨by rw [HE.out]; rfl, rfl⟩
end Go.Proofs.Ytbkkffdgkkcbfab
