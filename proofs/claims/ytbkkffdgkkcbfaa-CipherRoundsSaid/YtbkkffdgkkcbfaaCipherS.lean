/- The examples. -/
import Derived.Test.YtbkkffdgkkcbfaaCipherG
namespace Go.Proofs.Ytbkkffdgkkcbfaa
open Go.RowKit
set_option linter.unusedSimpArgs false
set_option linter.unusedVariables false

theorem blk1 (w : World) : Calls Try.prog 11 #[.string ⟨C3.key0.toArray⟩, .int .u32 1, .string ⟨#[0, 0, 0, 9, 0, 0, 0, 74, 0, 0, 0, 0]⟩] w fun e w' => e = .returned (.tuple #[.string ⟨(C3.block C3.key0 1 C3.nonce0).toArray⟩, .int .i64 0]) ∧ Below w.heap.size w w' :=
  block_c C3.key0 C3.nonce0 1 rfl rfl w
theorem blkS (w : World) : Calls Try.prog 11 #[.string ⟨#[115, 104, 111, 114, 116]⟩, .int .u32 1, .string ⟨#[0, 0, 0, 9, 0, 0, 0, 74, 0, 0, 0, 0]⟩] w fun e w' => e = .returned (.tuple #[.string ⟨#[]⟩, .int .i64 1]) ∧ Below w.heap.size w w' :=
  block_no [115, 104, 111, 114, 116] C3.nonce0 1 rfl w
theorem xor1 (w : World) : Calls Try.prog 17 #[.string ⟨C3.key0.toArray⟩, .int .u32 1, .string ⟨#[0, 0, 0, 9, 0, 0, 0, 74, 0, 0, 0, 0]⟩, .string ⟨#[0, 0]⟩] w fun e w' => e = .returned (.tuple #[.string ⟨#[16, 241]⟩, .int .i64 0]) ∧ Below w.heap.size w w' := by
  have h := xor_c C3.key0 C3.nonce0 [0, 0] 1 rfl rfl (by decide) w
  rw [C3.t3] at h
  exact h
theorem st7 (w : World) : Calls Try.prog 9 #[.string ⟨C3.key0.toArray⟩, .int .u32 7, .string ⟨#[0, 0, 0, 9, 0, 0, 0, 74, 0, 0, 0, 0]⟩] w fun e w' => e = .returned (.tuple #[.agg (row (C3.state C3.key0 7 C3.nonce0)), .int .i64 0]) ∧ Below w.heap.size w w' :=
  state_c C3.key0 C3.nonce0 7 rfl rfl w
theorem s7_ne : C3.rounds (C3.state C3.key0 7 C3.nonce0) 10 ≠ C3.state C3.key0 7 C3.nonce0 := by decide +kernel
theorem s7_0 : (W32 (w16 (C3.state C3.key0 7 C3.nonce0) 0) == 1634760805) = true := by decide +kernel
theorem s7_4 : (W32 (w16 (C3.state C3.key0 7 C3.nonce0) 4) == 50462976) = true := by decide +kernel
theorem s7_12 : (W32 (w16 (C3.state C3.key0 7 C3.nonce0) 12) == 7) = true := by decide +kernel
theorem s7_13 : (W32 (w16 (C3.state C3.key0 7 C3.nonce0) 13) == 150994944) = true := by decide +kernel

set_option maxRecDepth 100000 in
set_option maxHeartbeats 1000000 in
theorem sanity_c (w : World) : Calls Try.prog 13 #[] w fun e w' => e = .returned (.bool true) ∧ Below w.heap.size w w' := by
  have h1 := blk1
  have h2 := st7
  have t1 := C3.t1
  have t2 := C3.t2
  have t3 := C3.length_block C3.key0 1 C3.nonce0
  have n0 := s7_ne
  have e0 := s7_0
  have e4 := s7_4
  have e12 := s7_12
  have e13 := s7_13
  have hs := C3.length_state C3.key0 7 C3.nonce0
  generalize C3.block C3.key0 1 C3.nonce0 = blk at h1 t1 t2 t3
  generalize C3.state C3.key0 7 C3.nonce0 = S at h2 n0 e0 e4 e12 e13 hs
  have hr : (C3.rounds S 10).length = 16 := by rw [C3.length_rounds, hs]
  have hne := fun w => neq_row (C3.rounds S 10) S hr hs w
  have nd : decide (C3.rounds S 10 = S) = false := by simpa using n0
  have H1 := Lib.hid h1
  have H2 := Lib.hid h2
  clear h1 h2 n0
  have tok1 : True := trivial
  have HB := Below.refl w.heap.size w
  go_enter Try.func13, Try.ntmps13
  go_wp2_with (first
    | (go_at_call 22; refine (key_c _).mono ?_; rintro e w1 ⟨rfl, hb⟩; replace HB := HB.trans (hb.mono HB.size); clear hb)
    | (go_at_call 11; have _t := tok1; refine (H1.out _).mono ?_; rintro e w1 ⟨rfl, hb⟩; replace HB := HB.trans (hb.mono HB.size); clear hb; clear tok1)
    | (go_at_call 11; refine (blkS _).mono ?_; rintro e w1 ⟨rfl, hb⟩; replace HB := HB.trans (hb.mono HB.size); clear hb)
    | (go_at_call 17; refine (xor1 _).mono ?_; rintro e w1 ⟨rfl, hb⟩; replace HB := HB.trans (hb.mono HB.size); clear hb)
    | (go_at_call 9; refine (H2.out _).mono ?_; rintro e w1 ⟨rfl, hb⟩; replace HB := HB.trans (hb.mono HB.size); clear hb)
    | (refine st_row rfl (.tmp 8) (.tmp 31) rfl _ _ rfl rfl 23 _ (heap_alloc_new _ _) rfl hs ?_))
  refine allL (by kernel_rfl) (by kernel_rfl) ?_
  repeat (go_big_quiet_step ((go_at_call 14; exact Later.call _ (rounds_c _ hs _))))
  refine wpQuiet_nil ?_
  rintro _ ⟨u, rfl⟩
  go_wp2
  go_ret
  exact ⟨rfl, (HB.alloc HB.size _).trans (u.below.mono (by have := HB.size; simp; omega))⟩
end Go.Proofs.Ytbkkffdgkkcbfaa
