/- The program's inverses and quotients. -/
import Derived.Test.YtbkkffdgkkcbfabFieldC
namespace Go.Proofs.Ytbkkffdgkkcbfab
open Go.RowKit F6
set_option linter.unusedSimpArgs false
set_option linter.unusedVariables false
/-- a row of bytes in memory -/
def brow (s : List UInt8) : Array Value := (s.map fun x => Value.int .u8 (B8 x)).toArray
@[go_sem] theorem brow_size (s : List UInt8) : (brow s).size = s.length := by simp [brow]
@[go_sem] theorem brow_get (s : List UInt8) (i : Nat) (h : i < s.length) : (brow s)[i]? = some (.int .u8 (B8 (byteAt s i))) := by
  simp [brow, byteAt, List.getElem?_eq_getElem h]
@[go_sem] theorem brow_get' (s : List UInt8) (i : Nat) (h : i < (brow s).size) : (brow s)[i] = .int .u8 (B8 (byteAt s i)) := by
  have h' : i < s.length := by rwa [brow_size] at h
  have := brow_get s i h'
  rw [Array.getElem?_eq_getElem h] at this
  exact Option.some.inj this
@[go_sem] theorem brow_set (s : List UInt8) (i : Nat) (x : UInt8) : (brow s).setIfInBounds i (.int .u8 (B8 x)) = brow (s.set i x) := by
  simp [brow, List.map_set]
/-- the squares so far -/
def sqs (a : UInt8) (k : Nat) : List UInt8 := (List.range 8).map fun j => if j < k then sq a j else 0
theorem sqs_len (a : UInt8) (k : Nat) : (sqs a k).length = 8 := by simp [sqs]
theorem sqs_at (a : UInt8) (k j : Nat) (h : j < k) (h8 : k ≤ 8) : byteAt (sqs a k) j = sq a j := by
  have hj : j < 8 := by omega
  simp [byteAt, sqs, List.getD_eq_getElem?_getD, hj, h]
theorem sqs_set (a : UInt8) (k : Nat) (h : k < 8) : (sqs a k).set k (sq a k) = sqs a (k + 1) := by
  apply List.ext_getElem (by simp [sqs])
  intro i h1 h2
  rw [List.getElem_set]
  simp only [sqs, List.getElem_map, List.getElem_range]
  by_cases e : k = i
  · subst e; simp
  · rw [if_neg e]
    by_cases hi : i < k
    · rw [if_pos hi, if_pos (by omega)]
    · rw [if_neg hi, if_neg (by omega)]
attribute [local irreducible] mul
set_option maxHeartbeats 1000000 in
theorem inverse_c (a : UInt8) (w : World) :
    Calls Try.prog 26 #[.int .u8 (B8 a)] w fun e w' => e = .returned (.int .u8 (B8 (inverse a))) ∧ Below w.heap.size w w' := by
  go_enter Try.func26, Try.ntmps26
  go_wp2
  go_loopw [4, 5] (fun p i wr => ∃ m : Nat, m ≤ 7 ∧ i = .int .i64 ((m + 1 : Nat) : Int) ∧ p = .int .u8 (B8 (sqp a m)) ∧ ∃ n, wr = (w.alloc (.cells (brow (sqs a (m + 1))) 45)).drewN n) (fun _ i _ => 8 - (intOf i).toNat)
  case atStart => exact ⟨0, by omega, rfl, rfl, 0, rfl⟩
  case round =>
    obtain ⟨m, hm, rfl, rfl, n, rfl⟩ := hrel
    by_cases hlt : m < 7
    · have hlen := sqs_len a (m + 1)
      have hlen2 := sqs_len a (m + 2)
      have hat := sqs_at a (m + 1) m (by omega) (by omega)
      have hat2 := sqs_at a (m + 2) (m + 1) (by omega) (by omega)
      have hst := sqs_set a (m + 1) (by omega)
      have hsq : mul (sq a m) (sq a m) = sq a (m + 1) := rfl
      have hsp : mul (sqp a m) (sq a (m + 1)) = sqp a (m + 1) := rfl
      have b1 : m < 8 := by omega
      have b2 : m + 1 < 8 := by omega
      have b3 : (m : Int) < 8 := by omega
      have b4 : (m : Int) + 1 < 8 := by omega
      have e0 : (m : Int) + 1 - 1 = m := by omega
      have HK := Lib.hid hlt
      have HSP := Lib.hid hsp
      clear hsp
      rw [show ((m + 1 : Nat) : Int) = (m : Int) + 1 by simp]
      go_wp2
      first | refine tailD 11 (by kernel_rfl) (by kernel_rfl) ?_ | refine tail0 11 (by kernel_rfl) (by kernel_rfl) ?_
      simp only [List.take_succ_cons, List.take_zero, List.drop_succ_cons, List.drop_zero]
      repeat (go_big_quiet_step ((go_at_call 14; refine Calls.quiet_of_same (mul_c _ _ _))))
      refine wpQuiet_nil ?_
      rintro _ ⟨nq, rfl⟩
      go_wp2_with (go_at_call 14; refine (mul_c _ _ _).mono ?_; rintro e _ ⟨rfl, rfl⟩)
      go_roundw
      case rel => exact ⟨m + 1, HK.out, by go_num, by rw [HSP.out], _, rfl⟩
      case measure => have := HK.out; simp [intOf]; omega
    · have he : m = 7 := by omega
      have HE := Lib.hid he
      clear he
      go_wp2
      go_ret
      exact ⟨by rw [HE.out]; rfl, below_drewN _ ((Below.refl _ _).alloc (Nat.le_refl _) _)⟩
theorem b8_ne {a : UInt8} (h : a ≠ 0) : (B8 a == 0) = false := by rw [beq_eq_false_iff_ne]; intro e; exact h (u8_inj (by rw [e]; rfl))
theorem div_c (a b : UInt8) (h : b ≠ 0) (w : World) :
    Calls Try.prog 11 #[.int .u8 (B8 a), .int .u8 (B8 b)] w fun e w' => e = .returned (.tuple #[.int .u8 (B8 (div a b)), .int .i64 0]) ∧ Below w.heap.size w w' := by
  have hb := b8_ne h
  by_cases ha : a = 0
  · subst ha
    have hz : div 0 b = 0 := by rw [div, zero_mul]
    rw [hz]
    go_enter Try.func11, Try.ntmps11
    go_wp2
    go_ret2
    exact ⟨rfl, Below.refl _ _⟩
  · have ha' := b8_ne ha
    go_enter Try.func11, Try.ntmps11
    go_wp2_with (first
      | (go_at_call 26; refine (inverse_c _ _).mono ?_; rintro e w1 ⟨rfl, hb1⟩)
      | (go_at_call 14; refine (mul_c _ _ _).mono ?_; rintro e _ ⟨rfl, rfl⟩))
    go_ret2
    exact ⟨rfl, hb1⟩
theorem div_c0 (a : UInt8) (w : World) :
    Calls Try.prog 11 #[.int .u8 (B8 a), .int .u8 0] w fun e w' => e = .returned (.tuple #[.int .u8 0, .int .i64 1]) ∧ w' = w := by
  go_enter Try.func11, Try.ntmps11
  go_wp2
  go_ret2
  exact ⟨rfl, rfl⟩
theorem inv_c (a : UInt8) (h : a ≠ 0) (w : World) :
    Calls Try.prog 9 #[.int .u8 (B8 a)] w fun e w' => e = .returned (.tuple #[.int .u8 (B8 (inverse a)), .int .i64 0]) ∧ Below w.heap.size w w' := by
  have hd : div 1 a = inverse a := by rw [div, one_mul]
  have hc : ∀ w, Calls Try.prog 11 #[.int .u8 1, .int .u8 (B8 a)] w fun e w' => e = .returned (.tuple #[.int .u8 (B8 (inverse a)), .int .i64 0]) ∧ Below w.heap.size w w' := fun w => by
    have := div_c 1 a h w; rw [hd] at this; exact this
  go_enter Try.func9, Try.ntmps9
  go_wp2_with (go_at_call 11; refine (hc _).mono ?_; rintro e w1 ⟨rfl, hb1⟩)
  go_ret2
  exact ⟨rfl, hb1⟩
theorem inv_c0 (w : World) :
    Calls Try.prog 9 #[.int .u8 0] w fun e w' => e = .returned (.tuple #[.int .u8 0, .int .i64 1]) ∧ w' = w := by
  have hc : ∀ w, Calls Try.prog 11 #[.int .u8 1, .int .u8 0] w fun e w' => e = .returned (.tuple #[.int .u8 0, .int .i64 1]) ∧ w' = w := fun w => div_c0 1 w
  go_enter Try.func9, Try.ntmps9
  go_wp2_with (go_at_call 11; refine (hc _).mono ?_; rintro e _ ⟨rfl, rfl⟩)
  go_ret2
  exact ⟨rfl, rfl⟩
end Go.Proofs.Ytbkkffdgkkcbfab
