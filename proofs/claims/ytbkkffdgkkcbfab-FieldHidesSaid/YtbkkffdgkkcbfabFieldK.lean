/- The program's weights. -/
import Derived.Test.YtbkkffdgkkcbfabFieldJ
namespace Go.Proofs.Ytbkkffdgkkcbfab
open Go.RowKit F6
set_option linter.unusedSimpArgs false
set_option linter.unusedVariables false
attribute [local irreducible] mul ev pp wt wts
set_option maxHeartbeats 1000000 in
theorem prod_c (g : Nat) (v : Value) (xs : List UInt8) (i : Nat) (x : UInt8) (w : World) (hg : w.cell? ⟨g, 0, none⟩ = some v) (hv : RdB w v xs) (hi : i < xs.length) :
    Calls Try.prog 28 #[.int .i64 i, .int .u8 (B8 x), .pointer (some ⟨g, 0, none⟩)] w fun e w' => e = .returned (.int .u8 (B8 (pp xs i x xs.length))) ∧ w' = w := by
  obtain ⟨a, cap, rfl, hl, hcap, hcells⟩ := hv
  unfold maxLen at hcap
  obtain ⟨b, off, rfl, hbl, hc⟩ := hcells (by omega)
  go_enter Try.func28, Try.ntmps28
  go_wp2
  go_loop [6, 11] (fun p j => ∃ k : Nat, k ≤ xs.length ∧ j = .int .i64 k ∧ p = .int .u8 (B8 (pp xs i x k))) (fun _ j => xs.length - (intOf j).toNat)
  case atStart => exact ⟨0, Nat.zero_le _, rfl, by rw [pp_zero]; rfl⟩
  case round =>
    obtain ⟨k, hk, rfl, rfl⟩ := hrel
    by_cases hlt : k < xs.length
    · have c1 := hc k hlt
      have i1 : (k : Int) < xs.length := by omega
      have HK := Lib.hid hlt
      by_cases hki : k = i
      · have s1 := pp_skip xs i x hi
        have S1 := Lib.hid s1
        have hne : ((k : Int) == i) = true := by rw [beq_iff_eq]; omega
        have HKI := Lib.hid hki
        clear s1 hki
        go_wp2
        go_round
        case rel => exact ⟨k + 1, HK.out, by go_num, by rw [HKI.out, S1.out]⟩
        case measure => have := HK.out; simp [intOf]; omega
      · have s1 := pp_step xs i x k hlt hki
        have S1 := Lib.hid s1
        have hne : ((k : Int) == i) = false := by rw [beq_eq_false_iff_ne]; omega
        clear s1 hki
        go_wp2_with (go_at_call 14; refine (mul_c _ _ _).mono ?_; rintro e _ ⟨rfl, rfl⟩)
        go_round
        case rel => exact ⟨k + 1, HK.out, by go_num, by rw [S1.out]⟩
        case measure => have := HK.out; simp [intOf]; omega
    · have he : k = xs.length := by omega
      have HE := Lib.hid he
      have i1 : (xs.length : Int) ≤ k := by omega
      clear he
      go_wp2
      go_ret
      exact ⟨by rw [HE.out]; rfl, rfl⟩
end Go.Proofs.Ytbkkffdgkkcbfab
