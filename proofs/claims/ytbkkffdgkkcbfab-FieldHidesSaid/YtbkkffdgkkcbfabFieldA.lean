/- The field's product and inverse. -/
import Derived.Test.YtbkkffdgkkcbfabProg
import Derived.Test.YtbkkffdgkkcbfabPureF6c
import Derived.Test.YtbkkffdgkkcbfabRegion
import Derived.Below

namespace Go.Proofs.Ytbkkffdgkkcbfab
open Go.RowKit F6
set_option linter.unusedSimpArgs false
set_option linter.unusedVariables false

set_option maxHeartbeats 1000000 in
theorem mul_c (a b : UInt8) (w : World) :
    Calls Try.prog 14 #[.int .u8 (B8 a), .int .u8 (B8 b)] w fun e w' => e = .returned (.int .u8 (B8 (mul a b))) ∧ w' = w := by
  go_enter Try.func14, Try.ntmps14
  go_wp2
  go_loop [1, 5, 6] (fun y x p => ∃ k : Nat, k ≤ 8 ∧ y = .int .u8 (B8 (sr b k)) ∧ x = .int .i64 (B8 (xts a k)) ∧ p = .int .i64 (B8 (mulTo a b k))) (fun y _ _ => (intOf y).toNat)
  case atStart => exact ⟨0, by omega, by rw [sr_zero], rfl, rfl⟩
  case round =>
    obtain ⟨k, hk, rfl, rfl, rfl⟩ := hrel
    by_cases hz : sr b k = 0
    · have hd : B8 (sr b k) = 0 := by rw [hz]; rfl
      have he := mulTo_done a b k hk hz
      rw [hd]
      go_wp2
      go_ret
      exact ⟨rfl, rfl⟩
    · have hpos : (0 : Int) < B8 (sr b k) := by
        have := u8_lo (sr b k)
        have : B8 (sr b k) ≠ 0 := fun h => hz (u8_inj (by rw [h]; rfl))
        omega
      have hk8 : k < 8 := by
        refine Nat.lt_of_le_of_ne hk (fun h => hz ?_)
        subst h
        unfold sr
        rw [Nat.div_eq_of_lt b.toNat_lt]; rfl
      have hb := bit_sr b k
      have ha := and_one (sr b k)
      have hn := sr_next b k
      have hlt : (B8 (sr b k) / 2).toNat < (B8 (sr b k)).toNat := by omega
      have em : mulTo a b (k + 1) = mulTo a b k ^^^ (if bit b k then xts a k else 0) := rfl
      have ex : xts a (k + 1) = xt (xts a k) := rfl
      have HN := Lib.hid hn
      have HL := Lib.hid hlt
      have HZ := Lib.hid hz
      have HK := Lib.hid hk8
      have EX := Lib.hid ex
      clear hn hlt hz hk8 ex
      cases hbit : bit b k
      · rw [hbit] at hb em
        have h0 : bits .and .u8 (B8 (sr b k)) 1 = 0 := by rw [ha]; have := of_decide_eq_false hb.symm; omega
        have em' : mulTo a b (k + 1) = mulTo a b k := by rw [em]; simp
        have EM := Lib.hid em'
        clear hb em em' ha hbit
        cases h7 : bit (xts a k) 7
        · obtain ⟨x1, x2⟩ := xt_lo _ h7
          have X2 := Lib.hid x2
          clear x2 h7
          go_wp2
          go_round
          case rel => exact ⟨k + 1, HK.out, by rw [HN.out], by rw [X2.out, EX.out], by rw [EM.out]⟩
          case measure => exact HL.out
        · obtain ⟨x1, x2⟩ := xt_hi _ h7
          clear h7
          go_wp2
          go_round
          case rel => exact ⟨k + 1, HK.out, by rw [HN.out], by rw [EX.out], by rw [EM.out]⟩
          case measure => exact HL.out
      · rw [hbit] at hb em
        have h0 : bits .and .u8 (B8 (sr b k)) 1 = 1 := by rw [ha]; have := of_decide_eq_true hb.symm; omega
        have em' : mulTo a b (k + 1) = mulTo a b k ^^^ xts a k := by rw [em]; simp
        have EM := Lib.hid em'
        clear hb em em' ha hbit
        cases h7 : bit (xts a k) 7
        · obtain ⟨x1, x2⟩ := xt_lo _ h7
          have X2 := Lib.hid x2
          clear x2 h7
          go_wp2
          go_round
          case rel => exact ⟨k + 1, HK.out, by rw [HN.out], by rw [X2.out, EX.out], by rw [EM.out]⟩
          case measure => exact HL.out
        · obtain ⟨x1, x2⟩ := xt_hi _ h7
          clear h7
          go_wp2
          go_round
          case rel => exact ⟨k + 1, HK.out, by rw [HN.out], by rw [EX.out], by rw [EM.out]⟩
          case measure => exact HL.out
end Go.Proofs.Ytbkkffdgkkcbfab
