/- The specification's schedule of a block. -/
import Derived.Test.YtackbjbmadkkhaaDoorHashK
namespace Go.Proofs.YtackbjbmadkkhaaDoor
open Go.RowKit
set_option linter.unusedSimpArgs false
set_option linter.unusedVariables false
theorem shl_or (x y : UInt32) (n : Nat) : shl (x ||| y) n = shl x n ||| shl y n := by
  apply UInt32.toBitVec_inj.1
  show (x.toBitVec ||| y.toBitVec) <<< n = x.toBitVec <<< n ||| y.toBitVec <<< n
  exact BitVec.shiftLeft_or_distrib _ _ _
theorem shl_shl (x : UInt32) (m n : Nat) : shl (shl x m) n = shl x (m + n) := by
  apply UInt32.toBitVec_inj.1
  show (x.toBitVec <<< m) <<< n = x.toBitVec <<< (m + n)
  rw [BitVec.shiftLeft_add]
theorem be4_flat (a b c d : UInt8) : be4 a b c d = shl a.toUInt32 24 ||| shl b.toUInt32 16 ||| shl c.toUInt32 8 ||| d.toUInt32 := by
  unfold be4
  simp only [shl_or, shl_shl]
attribute [local irreducible] Calls
set_option maxRecDepth 100000 in
set_option maxHeartbeats 2000000 in
theorem words_r (v : Value) (b : List UInt8) (w : World) (hv : RdE eB w v b) (hb : b.length = 64) :
    Calls Tryd.prog 53 #[v] w fun e w' => e = .returned (.agg (row (sch b 64))) ∧ Below w.heap.size w w' := by
  have HV := Lib.hid hv
  obtain ⟨a, cap, rfl, hcap, hcm, _⟩ := hv
  obtain ⟨bb, off, rfl, hbl, hrow⟩ := RdB_cells HV.out (by omega)
  rw [hb] at HV hcap ⊢
  unfold maxLen at hcm
  have HROW := Lib.hid hrow
  clear hrow
  have hz := zero_64
  go_enter Tryd.func53, Tryd.ntmps53
  go_wp2
  rw [ext_zero b]
  go_loopw [4] (fun i wr => ∃ t : Nat, t ≤ 16 ∧ i = .int .i64 t ∧ ∃ n, wr = ((w.alloc (.cells (row z64) 82)).alloc (.cells (row (ext b t)) 82)).drewN n) (fun i _ => 16 - (intOf i).toNat)
  case atStart => exact ⟨0, by omega, rfl, 0, rfl⟩
  case round =>
    obtain ⟨t, ht, rfl, n, rfl⟩ := hrel
    clear hz
    have hel := ext_len b t (by omega)
    by_cases h16 : t < 16
    · have hd : decide ((t : Int) < 16) = true := by simp; omega
      have hlt : t < 64 := by omega
      have c0 := HROW.out (4 * t) (by omega)
      have c1 := HROW.out (4 * t + 1) (by omega)
      have c2 := HROW.out (4 * t + 2) (by omega)
      have c3 := HROW.out (4 * t + 3) (by omega)
      have b0 : 4 * (t : Int) < 64 := by omega
      have b1 : 4 * (t : Int) + 1 < 64 := by omega
      have b2 : 4 * (t : Int) + 2 < 64 := by omega
      have b3 : 4 * (t : Int) + 3 < 64 := by omega
      have d0 : (0 : Int) ≤ 4 * (t : Int) := by omega
      have d1 : (0 : Int) ≤ 4 * (t : Int) + 1 := by omega
      have d2 : (0 : Int) ≤ 4 * (t : Int) + 2 := by omega
      have d3 : (0 : Int) ≤ 4 * (t : Int) + 3 := by omega
      have hcv := be4_flat (byteAt b (4 * t)) (byteAt b (4 * t + 1)) (byteAt b (4 * t + 2)) (byteAt b (4 * t + 3))
      have HCV := Lib.hid hcv
      clear hcv
      go_wp2
      first | refine tailD 35 (by kernel_rfl) (by kernel_rfl) ?_ | refine tail0 35 (by kernel_rfl) (by kernel_rfl) ?_
      simp only [List.take_succ_cons, List.take_zero, List.drop_succ_cons, List.drop_zero]
      repeat (go_big_quiet_step (fail))
      refine wpQuiet_nil ?_
      rintro _ ⟨nq, rfl⟩
      go_wp2
      go_roundw
      case rel => exact ⟨t + 1, by omega, by go_num, nq, by rw [← HCV.out, ext_next b t (by omega) _ (by rw [if_pos h16]; rfl)]⟩
      case measure => simp [intOf]; omega
    · have he : t = 16 := by omega
      subst he
      have hd : decide (((16 : Nat) : Int) < 16) = false := by decide
      clear ht h16 hel
      go_wp2
      go_loopw [5] (fun i wr => ∃ t : Nat, 16 ≤ t ∧ t ≤ 64 ∧ i = .int .i64 t ∧ ∃ n, wr = ((w.alloc (.cells (row z64) 82)).alloc (.cells (row (ext b t)) 82)).drewN n) (fun i _ => 64 - (intOf i).toNat)
      case atStart => exact ⟨16, by omega, by omega, rfl, n, rfl⟩
      case round =>
        obtain ⟨t, hlo, ht, rfl, n, rfl⟩ := hrel
        clear hd
        have hel := ext_len b t ht
        by_cases hlt : t < 64
        · have hd : decide ((t : Int) < 64) = true := by simp; omega
          have q15 : (t : Int) - 15 = ((t - 15 : Nat) : Int) := by omega
          have q2 : (t : Int) - 2 = ((t - 2 : Nat) : Int) := by omega
          have q16 : (t : Int) - 16 = ((t - 16 : Nat) : Int) := by omega
          have q7 : (t : Int) - 7 = ((t - 7 : Nat) : Int) := by omega
          have i15 : t - 15 < 64 := by omega
          have i2 : t - 2 < 64 := by omega
          have i16 : t - 16 < 64 := by omega
          have i7 : t - 7 < 64 := by omega
          have r7 : ∀ (x : UInt32) (w : World), Calls Tryd.prog 54 #[.int .u32 (W32 x), .int .i64 7] w fun e w' => e = .returned (.int .u32 (W32 (rr x 7))) ∧ ∃ n, w' = w.drewN n := fun x w => rotr_r x 7 (by omega) (by omega) w
          have r18 : ∀ (x : UInt32) (w : World), Calls Tryd.prog 54 #[.int .u32 (W32 x), .int .i64 18] w fun e w' => e = .returned (.int .u32 (W32 (rr x 18))) ∧ ∃ n, w' = w.drewN n := fun x w => rotr_r x 18 (by omega) (by omega) w
          have r17 : ∀ (x : UInt32) (w : World), Calls Tryd.prog 54 #[.int .u32 (W32 x), .int .i64 17] w fun e w' => e = .returned (.int .u32 (W32 (rr x 17))) ∧ ∃ n, w' = w.drewN n := fun x w => rotr_r x 17 (by omega) (by omega) w
          have r19 : ∀ (x : UInt32) (w : World), Calls Tryd.prog 54 #[.int .u32 (W32 x), .int .i64 19] w fun e w' => e = .returned (.int .u32 (W32 (rr x 19))) ∧ ∃ n, w' = w.drewN n := fun x w => rotr_r x 19 (by omega) (by omega) w
          have R7 := Lib.hid r7
          have R18 := Lib.hid r18
          have R17 := Lib.hid r17
          have R19 := Lib.hid r19
          clear r7 r18 r17 r19
          go_wp2
          first | refine allD (by kernel_rfl) (by kernel_rfl) ?_ | refine all0 (by kernel_rfl) (by kernel_rfl) ?_
          repeat (first
            | go_big_quiet_step ((go_at_call 54; exact Calls.quiet_of (R7.out _ _)))
            | go_big_quiet_step ((go_at_call 54; exact Calls.quiet_of (R18.out _ _))))
          refine wpQuiet_nil ?_
          rintro _ ⟨nq, rfl⟩
          go_wp2
          first | refine allD (by kernel_rfl) (by kernel_rfl) ?_ | refine all0 (by kernel_rfl) (by kernel_rfl) ?_
          repeat (first
            | go_big_quiet_step ((go_at_call 54; exact Calls.quiet_of (R17.out _ _)))
            | go_big_quiet_step ((go_at_call 54; exact Calls.quiet_of (R19.out _ _))))
          refine wpQuiet_nil ?_
          rintro _ ⟨nq, rfl⟩
          go_wp2
          first | refine tailD 15 (by kernel_rfl) (by kernel_rfl) ?_ | refine tail0 15 (by kernel_rfl) (by kernel_rfl) ?_
          simp only [List.take_succ_cons, List.take_zero, List.drop_succ_cons, List.drop_zero]
          repeat (go_big_quiet_step (fail))
          refine wpQuiet_nil ?_
          rintro _ ⟨nq, rfl⟩
          go_wp2
          go_roundw
          case rel =>
            refine ⟨t + 1, by omega, by omega, by go_num, nq, ?_⟩
            rw [← ext_next b t hlt (nextW (sch b t)) (by rw [if_neg (by omega)]), nextW_sch, ← ext_at b t (t - 16) (by omega), ← ext_at b t (t - 15) (by omega), ← ext_at b t (t - 7) (by omega), ← ext_at b t (t - 2) (by omega)]
            rfl
          case measure => simp [intOf]; omega
        · have he : t = 64 := by omega
          subst he
          go_wp2_with (first
            | (refine ld_64 rfl (.tmp 3) rfl _ rfl _ 82 (heap2_second _ _ _ _) hel ?_)
            | (refine st_64 rfl (.tmp 2) (.tmp 100) rfl _ _ rfl rfl 82 _ (heap2_first _ _ _ _) (by rw [row_size]; exact z64_len) hel ?_))
          refine bodyPost_ret (v := .agg (row _)) (res_64 rfl _ _ _ _ _ rfl (setRow_heap _ _ _ _ _ _ (heap2_first _ _ _ _)) hel) rfl ⟨by rw [ext_full], ?_⟩
          exact below_setRow (below_drewN _ (((Below.refl _ _).alloc (Nat.le_refl _) _).alloc (by simp) _)) (by omega) _
end Go.Proofs.YtackbjbmadkkhaaDoor
