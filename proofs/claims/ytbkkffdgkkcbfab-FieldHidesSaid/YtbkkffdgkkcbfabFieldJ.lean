/- The specification's interpolation. -/
import Derived.Test.YtbkkffdgkkcbfabFieldI
namespace Go.Proofs.Ytbkkffdgkkcbfab
open Go.RowKit F6
set_option linter.unusedSimpArgs false
set_option linter.unusedVariables false
/-- the sum of the first k terms -/
def isum (xs ys : List UInt8) (x : UInt8) (k : Nat) : UInt8 := xsum ((List.range k).map fun i => mul (wt xs x i) (byteAt ys i))
theorem isum_zero (xs ys : List UInt8) (x : UInt8) : isum xs ys x 0 = 0 := rfl
theorem isum_succ (xs ys : List UInt8) (x : UInt8) (k : Nat) : isum xs ys x (k + 1) = isum xs ys x k ^^^ mul (wt xs x k) (byteAt ys k) := by
  simp only [isum, List.range_succ, List.map_append, xsum_append]
  simp [xsum]
theorem isum_all (xs ys : List UInt8) (x : UInt8) : isum xs ys x xs.length = interp xs ys x := rfl
attribute [local irreducible] mul ev pp wt wts isum interp
set_option maxRecDepth 100000 in
set_option maxHeartbeats 1000000 in
theorem interp_r (v u : Value) (xs ys : List UInt8) (x : UInt8) (w : World) (hv : RdB w v xs) (hu : RdB w u ys) (hok : okX xs = true) (hl : xs.length = ys.length) :
    Calls Try.prog 20 #[v, u, .int .u8 (B8 x)] w fun e w' => e = .returned (.tuple #[.int .u8 (B8 (interp xs ys x)), .int .i64 0]) ∧ Below w.heap.size w w' := by
  obtain ⟨hnd, hl1, hl2⟩ := okX_nodup hok
  have hwt := fun w' hv => weights_r v xs x w' hv hok
  have HWT := Lib.hid hwt
  have HV := Lib.hid hv
  have HU := Lib.hid hu
  clear hok hnd hwt
  obtain ⟨a, cap, rfl, _, _, _⟩ := hv
  obtain ⟨a2, cap2, rfl, _, _, hcells2⟩ := hu
  obtain ⟨b2, off2, rfl, hb2, hc2⟩ := hcells2 (by omega)
  have hwl := wts_len xs x xs.length
  have hne : ((xs.length : Int) == ys.length) = true := by rw [beq_iff_eq]; omega
  have HWL := Lib.hid hwl
  have HL := Lib.hid hl
  clear hcells2 hwl hl
  go_enter Try.func20, Try.ntmps20
  go_wp2_with (go_at_call 18; refine (HWT.out _ HV.out).mono ?_; rintro e w1 ⟨q, rfl, ho, hb⟩; obtain ⟨qa, qcap, rfl, _, _, hq⟩ := ho.opened HWL.out)
  obtain ⟨g, rfl, hg1, hg2, hqc⟩ := hq (by omega)
  have hbs := hb.size
  clear hq
  go_loopw [10, 11] (fun o i wr => ∃ k : Nat, k ≤ xs.length ∧ i = .int .i64 k ∧ o = .int .u8 (B8 (isum xs ys x k)) ∧ ∃ n, wr = w1.drewN n) (fun _ i _ => xs.length - (intOf i).toNat)
  case atStart => exact ⟨0, Nat.zero_le _, rfl, by rw [isum_zero]; rfl, 0, rfl⟩
  case round =>
    obtain ⟨k, hk, rfl, rfl, n, rfl⟩ := hrel
    by_cases hlt : k < xs.length
    · have c1 := hqc k hlt

      have c2 : w1.cell? ⟨b2, off2 + k, none⟩ = some (.int .u8 (B8 (byteAt ys k))) := by rw [hb.cell (p := ⟨b2, off2 + k, none⟩) hb2]; exact hc2 k (by have := HL.out; omega)
      have i1 : (k : Int) < xs.length := by omega
      have i2 : (k : Int) < ys.length := by have := HL.out; omega
      have i3 : k < ys.length := by have := HL.out; omega
      have hs := isum_succ xs ys x k
      have HS := Lib.hid hs
      have HK := Lib.hid hlt
      clear hs
      go_wp2
      first | refine allD (by kernel_rfl) (by kernel_rfl) ?_ | refine all0 (by kernel_rfl) (by kernel_rfl) ?_
      repeat (go_big_quiet_step ((go_at_call 15; refine Calls.quiet_of_same (mul_r _ _ _))))
      refine wpQuiet_nil ?_
      rintro _ ⟨nq, rfl⟩
      go_wp2
      go_roundw
      case rel => exact ⟨k + 1, HK.out, by go_num, by rw [HS.out]; try rw [wts_at xs x xs.length k HK.out], _, rfl⟩
      case measure => have := HK.out; simp [intOf]; omega
    · have he : k = xs.length := by omega
      have HE := Lib.hid he
      have i1 : (xs.length : Int) ≤ k := by omega
      clear he
      go_wp2
      go_ret2
      exact ⟨by rw [HE.out, isum_all]; rfl, below_drewN _ hb⟩
end Go.Proofs.Ytbkkffdgkkcbfab
