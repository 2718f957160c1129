/- The specification's product with x + a. -/
import Derived.Test.YtbkkffdgkkcbfabFieldM
import Derived.Test.YtbkkffdgkkcbfabOwnAt
import Derived.Test.YtbkkffdgkkcbfabPureF6e
namespace Go.Proofs.Ytbkkffdgkkcbfab
open Go.RowKit F6
set_option linter.unusedSimpArgs false
set_option linter.unusedVariables false
attribute [local irreducible] mul ev pp wt wts isum interp tim tim1
set_option maxRecDepth 100000 in
set_option maxHeartbeats 1000000 in
theorem times_r (v : Value) (p : List UInt8) (a : UInt8) (w : World) (hv : RdB w v p) (hp : p.length ≤ 1000) :
    Calls Try.prog 30 #[v, .int .u8 (B8 a)] w fun e w' => ∃ g, e = .returned (.slice (some ⟨g, 0, none⟩) (p.length + 1 : Nat) (p.length + 1)) ∧ BAt w' g (times p a) ∧ w.heap.size ≤ g ∧ Below w.heap.size w w' := by
  obtain ⟨b0, cap, rfl, hl, hcap, hcells⟩ := hv
  have hmk := run_mk (p.length + 1) (p.length + 1) (Nat.le_refl _) (by omega)
  rw [show ((p.length + 1 : Nat) : Int) = (p.length : Int) + 1 by omega] at hmk
  have hz := tim_zero p a
  have HZ := Lib.hid hz
  clear hz
  go_enter Try.func30, Try.ntmps30
  go_wp2
  go_loopw [6] (fun i wr => ∃ k : Nat, k ≤ p.length ∧ i = .int .i64 k ∧ BAt wr w.heap.size (tim p a k) ∧ Below w.heap.size w wr) (fun i _ => p.length - (intOf i).toNat)
  case atStart => exact ⟨0, Nat.zero_le _, rfl, by rw [HZ.out]; exact made_b _ _, (Below.refl _ _).alloc (Nat.le_refl _) _⟩
  case round =>
    obtain ⟨k, hk, rfl, hat, hb⟩ := hrel
    by_cases hlt : k < p.length
    · obtain ⟨b, off, rfl, hbl, hc⟩ := hcells (by omega)
      have c1 : wr.cell? ⟨b, off + k, none⟩ = some (.int .u8 (B8 (byteAt p k))) := by rw [hb.cell (p := ⟨b, off + k, none⟩) hbl]; exact hc k hlt
      have c2 := hat.at (k + 1) (by rw [tim_len]; omega)
      have c3 := hat.at k (by rw [tim_len]; omega)
      have f2 := hat.free (k + 1)
      have f3 := hat.free k
      have i1 : (k : Int) < p.length := by omega
      have i2 : k + 1 < p.length + 1 := by omega
      have i3 : k < p.length + 1 := by omega
      have i4 : (k : Int) + 1 < p.length + 1 := by omega
      have i5 : (k : Int) < p.length + 1 := by omega
      have i6 : IntKind.i64.wrap ((k : Int) + 1) = (k : Int) + 1 := by rw [IntKind.wrap_i64]; omega
      have i7 : (0 : Int) ≤ (k : Int) + 1 := by omega
      have HK := Lib.hid hlt
      have HB := Lib.hid hb
      have HAT := Lib.hid hat
      clear hcells hb
      go_wp2
      first | refine tailD 14 (by kernel_rfl) (by kernel_rfl) ?_ | refine tail0 14 (by kernel_rfl) (by kernel_rfl) ?_
      simp only [List.take_succ_cons, List.take_zero, List.drop_succ_cons, List.drop_zero]
      repeat (quiet_step (fail))
      refine wpQuiet_nil ?_
      rintro _ ⟨nq, rfl⟩
      go_wp2
      have hat1 : BAt (wr.setCell ⟨w.heap.size, k + 1, none⟩ (.int .u8 (B8 (byteAt (tim p a k) (k + 1) ^^^ byteAt p k)))) w.heap.size (tim1 p a k) := by
        have := HAT.out.set (k + 1) (byteAt (tim p a k) (k + 1) ^^^ byteAt p k)
        unfold tim1
        exact this
      have hb1 : Below w.heap.size w (wr.setCell ⟨w.heap.size, k + 1, none⟩ (.int .u8 (B8 (byteAt (tim p a k) (k + 1) ^^^ byteAt p k)))) := HB.out.setCell (Nat.le_refl _) _
      generalize wr.setCell ⟨w.heap.size, k + 1, none⟩ (.int .u8 (B8 (byteAt (tim p a k) (k + 1) ^^^ byteAt p k))) = w2 at hat1 hb1 ⊢
      clear c1 c2 c3 f2 f3
      have c1 : w2.cell? ⟨b, off + k, none⟩ = some (.int .u8 (B8 (byteAt p k))) := by rw [hb1.cell (p := ⟨b, off + k, none⟩) hbl]; exact hc k HK.out
      have c3 := hat1.at k (by rw [tim1_len]; omega)
      have f3 := hat1.free k
      have hst := tim_step p a k HK.out
      have HST := Lib.hid hst
      have HAT1 := Lib.hid hat1
      have HB1 := Lib.hid hb1
      clear hst hb1 hat1
      first | refine tailD 14 (by kernel_rfl) (by kernel_rfl) ?_ | refine tail0 14 (by kernel_rfl) (by kernel_rfl) ?_
      simp only [List.take_succ_cons, List.take_zero, List.drop_succ_cons, List.drop_zero]
      repeat (quiet_step ((go_at_call 15; exact Calls.quiet_of_same (mul_r _ _ _))))
      refine wpQuiet_nil ?_
      rintro _ ⟨nq2, rfl⟩
      go_wp2
      go_roundw
      case rel => exact ⟨k + 1, HK.out, by go_num, by rw [← HST.out]; exact (HAT1.out.set k _).drew _, below_drewN _ (HB1.out.setCell (Nat.le_refl _) _)⟩
      case measure => have := HK.out; simp [intOf]; omega
    · have he : k = p.length := by omega
      have HE := Lib.hid he
      have i1 : (p.length : Int) ≤ k := by omega
      clear he
      go_wp2
      go_ret
      exact ⟨_, rfl, by rw [← tim_all, ← HE.out]; exact hat, Nat.le_refl _, hb⟩
end Go.Proofs.Ytbkkffdgkkcbfab
