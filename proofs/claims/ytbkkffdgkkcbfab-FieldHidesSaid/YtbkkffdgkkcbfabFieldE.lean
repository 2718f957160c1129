/- Slices that are read; values of polynomials. -/
import Derived.Test.YtbkkffdgkkcbfabFieldD
namespace Go.Proofs.Ytbkkffdgkkcbfab
open Go.RowKit F6
set_option linter.unusedSimpArgs false
set_option linter.unusedVariables false
/-- v is a slice with the bytes l in world w -/
def RdB (w : World) (v : Value) (l : List UInt8) : Prop :=
  ∃ a cap, v = .slice a l.length cap ∧ l.length ≤ cap ∧ cap ≤ maxLen ∧
    (0 < l.length → ∃ b off, a = some ⟨b, off, none⟩ ∧ b < w.heap.size ∧ ∀ i, i < l.length → w.cell? ⟨b, off + i, none⟩ = some (.int .u8 (B8 (byteAt l i))))
theorem RdB.keep {w w' : World} {v : Value} {l : List UInt8} {B : Nat} (h : RdB w v l) (hb : Below B w w') (hB : w.heap.size ≤ B) : RdB w' v l := by
  obtain ⟨a, cap, rfl, h1, h2, h3⟩ := h
  refine ⟨a, cap, rfl, h1, h2, fun h0 => ?_⟩
  obtain ⟨b, off, rfl, hlt, hc⟩ := h3 h0
  refine ⟨b, off, rfl, Nat.lt_of_lt_of_le hlt hb.size, fun i hi => ?_⟩
  rw [hb.cell (p := ⟨b, off + i, none⟩) (Nat.lt_of_lt_of_le hlt hB)]
  exact hc i hi
theorem RdB.drew {w : World} {v : Value} {l : List UInt8} (n : Nat) (h : RdB w v l) : RdB (w.drewN n) v l := h.keep (below_drewN n (Below.refl w.heap.size w)) (Nat.le_refl _)
theorem ev_drop (l : List UInt8) (x : UInt8) (k : Nat) (h : k < l.length) : ev (l.drop k) x = byteAt l k ^^^ mul x (ev (l.drop (k + 1)) x) := by
  rw [List.drop_eq_getElem_cons h]
  show l[k] ^^^ mul x _ = _
  rw [byteAt, List.getD_eq_getElem?_getD, List.getElem?_eq_getElem h]; rfl
attribute [local irreducible] mul ev
set_option maxHeartbeats 1000000 in
theorem eval_c (v : Value) (l : List UInt8) (x : UInt8) (w : World) (hv : RdB w v l) :
    Calls Try.prog 23 #[v, .int .u8 (B8 x)] w fun e w' => e = .returned (.int .u8 (B8 (ev l x))) ∧ ∃ n, w' = w.drewN n := by
  obtain ⟨a, cap, rfl, hl, hcap, hcells⟩ := hv
  unfold maxLen at hcap
  go_enter Try.func23, Try.ntmps23
  go_wp2
  go_loopw [4, 5] (fun y i wr => ∃ k : Nat, k ≤ l.length ∧ i = .int .i64 ((k : Int) - 1) ∧ y = .int .u8 (B8 (ev (l.drop k) x)) ∧ ∃ n, wr = w.drewN n) (fun _ i _ => ((intOf i) + 1).toNat)
  case atStart => exact ⟨l.length, Nat.le_refl _, by go_num, by rw [List.drop_length]; unfold ev; rfl, 0, rfl⟩
  case round =>
    obtain ⟨k, hk, rfl, rfl, n, rfl⟩ := hrel
    cases k with
    | zero =>
      go_wp2
      go_ret
      exact ⟨rfl, n, rfl⟩
    | succ j =>
      obtain ⟨b, off, rfl, hlt, hc⟩ := hcells (by omega)
      have hcj := hc j (by omega)
      have hjl : (j : Int) < l.length := by omega
      have hjn : j < l.length := by omega
      have hx : mul (ev (l.drop (j + 1)) x) x ^^^ byteAt l j = ev (l.drop j) x := by rw [ev_drop l x j hjn, mul_comm, xor_comm]
      have HX := Lib.hid hx
      have HJ := Lib.hid hjn
      clear hx hcells
      rw [show ((j + 1 : Nat) : Int) - 1 = (j : Int) by omega]
      go_wp2
      first | refine allD (by kernel_rfl) (by kernel_rfl) ?_ | refine all0 (by kernel_rfl) (by kernel_rfl) ?_
      repeat (go_big_quiet_step ((go_at_call 14; refine Calls.quiet_of_same (mul_c _ _ _))))
      refine wpQuiet_nil ?_
      rintro _ ⟨nq, rfl⟩
      go_wp2
      go_roundw
      case rel => exact ⟨j, Nat.le_of_lt HJ.out, by go_num, by rw [HX.out], _, rfl⟩
      case measure => simp [intOf]
theorem ev_pow (l : List UInt8) (x o : UInt8) (k : Nat) (h : k < l.length) (he : ev l x = o ^^^ mul (pow x k) (ev (l.drop k) x)) :
    ev l x = (o ^^^ mul (byteAt l k) (pow x k)) ^^^ mul (pow x (k + 1)) (ev (l.drop (k + 1)) x) := by
  rw [he, ev_drop l x k h, mul_xor_right, xor_assoc, mul_comm (pow x k) (byteAt l k), pow_succ', mul_assoc]
set_option maxHeartbeats 1000000 in
theorem eval_r (v : Value) (l : List UInt8) (x : UInt8) (w : World) (hv : RdB w v l) :
    Calls Try.prog 24 #[v, .int .u8 (B8 x)] w fun e w' => e = .returned (.int .u8 (B8 (ev l x))) ∧ w' = w := by
  obtain ⟨a, cap, rfl, hl, hcap, hcells⟩ := hv
  unfold maxLen at hcap
  go_enter Try.func24, Try.ntmps24
  go_wp2
  go_loop [5, 6, 7] (fun y p i => ∃ (k : Nat) (o : UInt8), k ≤ l.length ∧ i = .int .i64 k ∧ p = .int .u8 (B8 (pow x k)) ∧ y = .int .u8 (B8 o) ∧ ev l x = o ^^^ mul (pow x k) (ev (l.drop k) x)) (fun _ _ i => l.length - (intOf i).toNat)
  case atStart => exact ⟨0, 0, Nat.zero_le _, rfl, by rw [pow_zero']; rfl, rfl, by rw [pow_zero', one_mul, zero_xor]; rfl⟩
  case round =>
    obtain ⟨k, o, hk, rfl, rfl, rfl, he⟩ := hrel
    by_cases hlt : k < l.length
    · obtain ⟨b, off, rfl, hbl, hc⟩ := hcells (by omega)
      have hcj := hc k hlt
      have hjl : (k : Int) < l.length := by omega
      have hx := ev_pow l x o k hlt he
      have hp := pow_succ' x k
      have HX := Lib.hid hx
      have HP := Lib.hid hp
      have HJ := Lib.hid hlt
      clear hx hp he hcells
      go_wp2_with (go_at_call 15; refine (mul_r _ _ _).mono ?_; rintro e _ ⟨rfl, rfl⟩)
      go_round
      case rel => exact ⟨k + 1, _, HJ.out, by go_num, by rw [HP.out], rfl, HX.out⟩
      case measure => have := HJ.out; simp [intOf]; omega
    · have hk' : k = l.length := by omega
      have he' : ev l x = o := by
        rw [he, hk', List.drop_length]
        have : ev [] x = 0 := by unfold ev; rfl
        rw [this, mul_zero, xor_zero]
      have HE := Lib.hid he'
      clear he he' hk'
      go_wp2
      go_ret
      exact ⟨by rw [HE.out]; rfl, rfl⟩
end Go.Proofs.Ytbkkffdgkkcbfab
