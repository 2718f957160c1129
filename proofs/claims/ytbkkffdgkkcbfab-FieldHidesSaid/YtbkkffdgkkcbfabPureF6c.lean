/- The field's numbers as the walk has them. -/
import Derived.Test.YtbkkffdgkkcbfabPureF6
import Derived.Test.YtbkkffdgkkcbfabBase
namespace Go.Proofs.Ytbkkffdgkkcbfab
open F6
/-- shifted to the right -/
def sr (b : UInt8) (k : Nat) : UInt8 := UInt8.ofNat (b.toNat / 2 ^ k)
theorem sr_nat (b : UInt8) (k : Nat) : (sr b k).toNat = b.toNat / 2 ^ k := by
  unfold sr
  rw [UInt8.toNat_ofNat_of_lt' (by have := b.toNat_lt; have := Nat.div_le_self b.toNat (2 ^ k); show _ < 256; omega)]
theorem sr_zero (b : UInt8) : sr b 0 = b := by simp [sr]
theorem sr_next (b : UInt8) (k : Nat) : B8 (sr b k) / 2 = B8 (sr b (k + 1)) := by
  unfold B8
  rw [sr_nat, sr_nat, Nat.pow_succ, ← Nat.div_div_eq_div_mul]
  omega
theorem bit_sr (b : UInt8) (k : Nat) : bit b k = decide ((sr b k).toNat % 2 = 1) := by
  unfold bit; rw [sr_nat, Nat.testBit_eq_decide_div_mod_eq]
theorem and_one : ∀ x : UInt8, bits .and .u8 (B8 x) 1 = ((x.toNat % 2 : Nat) : Int) := fun x =>
  all_of (p := fun x => bits .and .u8 (B8 x) 1 = ((x.toNat % 2 : Nat) : Int)) (by decide +kernel) x
theorem xt_hi (x : UInt8) (h : bit x 7 = true) : (255 : Int) < B8 x * 2 ∧ bits .xor .i64 (B8 x * 2) 285 = B8 (xt x) :=
  all_of (p := fun x => bit x 7 = true → (255 : Int) < B8 x * 2 ∧ bits .xor .i64 (B8 x * 2) 285 = B8 (xt x)) (by decide +kernel) x h
theorem xt_lo (x : UInt8) (h : bit x 7 = false) : ¬ (255 : Int) < B8 x * 2 ∧ B8 x * 2 = B8 (xt x) :=
  all_of (p := fun x => bit x 7 = false → ¬ (255 : Int) < B8 x * 2 ∧ B8 x * 2 = B8 (xt x)) (by decide +kernel) x h
@[go_sem] theorem u8_xor_i64 (x y : UInt8) : bits .xor .i64 (B8 x) (B8 y) = B8 (x ^^^ y) := by
  have h1 := x.toNat_lt
  have h2 := y.toNat_lt
  have hx : x.toNat ^^^ y.toNat < 2 ^ 8 := Nat.xor_lt_two_pow (by omega) (by omega)
  show IntKind.i64.wrap ((BitVec.ofInt 64 (x.toNat : Int) ^^^ BitVec.ofInt 64 (y.toNat : Int)).toNat : Int) = _
  rw [BitVec.toNat_xor]
  have e : ∀ n : Nat, n < 256 → (BitVec.ofInt 64 (n : Int)).toNat = n := by
    intro n hn
    rw [BitVec.ofInt_natCast, BitVec.toNat_ofNat]
    omega
  rw [e _ h1, e _ h2, IntKind.wrap_i64]
  unfold B8
  rw [UInt8.toNat_xor]
  omega
@[go_sem] theorem u8_as_u8' (x : UInt8) : B8 x % 256 = B8 x := by
  have := u8_lo x; have := u8_hi x; omega
@[go_sem] theorem u8_as_u8 (x : UInt8) : IntKind.u8.wrap (B8 x) = B8 x := by rw [IntKind.wrap_u8]; exact u8_as_u8' x
theorem i64_u8 (x : UInt8) : IntKind.i64.wrap (B8 x) = B8 x := by
  have := u8_lo x; have := u8_hi x; rw [IntKind.wrap_i64]; omega
theorem i64_u8_2 (x : UInt8) : IntKind.i64.wrap (B8 x * 2) = B8 x * 2 := by
  have := u8_lo x; have := u8_hi x; rw [IntKind.wrap_i64]; omega
@[go_sem] theorem i64_u8' (x : UInt8) : RowKit.wrap64 (B8 x) = B8 x := by
  have := u8_lo x; have := u8_hi x; unfold RowKit.wrap64; omega
@[go_sem] theorem i64_u8_2' (x : UInt8) : RowKit.wrap64 (B8 x * 2) = B8 x * 2 := by
  have := u8_lo x; have := u8_hi x; unfold RowKit.wrap64; omega
attribute [go_sem] i64_u8 i64_u8_2
@[go_sem] theorem i64_2_u8' (x : UInt8) : RowKit.wrap64 (2 * B8 x) = 2 * B8 x := by
  have := u8_lo x; have := u8_hi x; unfold RowKit.wrap64; omega
theorem xt_hi2 (x : UInt8) (h : bit x 7 = true) : (256 : Int) ≤ 2 * B8 x ∧ bits .xor .i64 (2 * B8 x) 285 = B8 (xt x) := by
  obtain ⟨h1, h2⟩ := xt_hi x h
  rw [Int.mul_comm]
  exact ⟨by omega, h2⟩
theorem xt_lo2 (x : UInt8) (h : bit x 7 = false) : ¬ (256 : Int) ≤ 2 * B8 x ∧ 2 * B8 x = B8 (xt x) := by
  obtain ⟨h1, h2⟩ := xt_lo x h
  rw [Int.mul_comm]
  exact ⟨by omega, h2⟩
theorem bit_mod (b : UInt8) (k : Nat) : ((B8 b / 2 ^ k).tmod 2 == 1) = bit b k := by
  have e : B8 b / 2 ^ k = ((b.toNat / 2 ^ k : Nat) : Int) := by unfold B8; rw [Int.natCast_ediv, Int.natCast_pow]; rfl
  have h := bit_sr b k
  rw [sr_nat] at h
  rw [e, h, Int.tmod_eq_emod_of_nonneg (Int.natCast_nonneg _)]
  generalize b.toNat / 2 ^ k = n
  rw [Bool.eq_iff_iff, beq_iff_eq, decide_eq_true_eq]
  omega
theorem mulTo_done (a b : UInt8) (k : Nat) (hk : k ≤ 8) (h : sr b k = 0) : mulTo a b k = mul a b := by
  have e : ∀ j, mulTo a b (k + j) = mulTo a b k := by
    intro j
    induction j with
    | zero => rfl
    | succ j ih =>
      show mulTo a b (k + j) ^^^ (if bit b (k + j) then xts a (k + j) else 0) = _
      have : bit b (k + j) = false := by
        have h0 := congrArg UInt8.toNat h
        rw [sr_nat] at h0
        have h1 : b.toNat / 2 ^ k = 0 := h0
        rw [bit_sr, sr_nat, Nat.pow_add, ← Nat.div_div_eq_div_mul, h1]
        simp
      rw [this, ih]; simp
  have := e (8 - k)
  rw [show k + (8 - k) = 8 by omega] at this
  exact this.symm
end Go.Proofs.Ytbkkffdgkkcbfab
