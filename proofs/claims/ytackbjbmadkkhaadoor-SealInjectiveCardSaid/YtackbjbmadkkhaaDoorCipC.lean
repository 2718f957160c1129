/- The words of a text, and the initial state. -/
import Derived.Test.YtackbjbmadkkhaaDoorCipB
namespace Go.Proofs.YtackbjbmadkkhaaDoor
open Go.RowKit
set_option linter.unusedSimpArgs false
set_option linter.unusedVariables false

theorem wordAt_cut (l : List UInt8) (a n : Nat) (h : 4 ≤ n) : C3.wordAt ((l.drop a).take n) 0 = C3.wordAt l a := by
  have e : ∀ i, i < 4 → C3.byteAt ((l.drop a).take n) i = C3.byteAt l (a + i) := fun i hi => byteAt_take_drop l a n i (by omega)
  unfold C3.wordAt
  rw [e _ (by omega), e _ (by omega), e _ (by omega), e _ (by omega)]
  rfl
theorem byteAt_drop (l : List UInt8) (n i : Nat) : byteAt (l.drop n) i = byteAt l (n + i) := by
  unfold byteAt; simp [List.getD_eq_getElem?_getD, List.getElem?_drop]

set_option maxHeartbeats 400000 in
theorem get_c (l : List UInt8) (hs : 4 ≤ l.length) (w : World) :
    Calls Tryd.prog 55 #[.string ⟨l.toArray⟩] w fun e w' => e = .returned (.int .u32 (W32 (C3.wordAt l 0))) ∧ ∃ n, w' = w.drewN n := by
  have h0 : 0 < l.length := by omega
  have i1 : (1 : Int) < l.length := by omega
  have i2 : (2 : Int) < l.length := by omega
  have i3 : (3 : Int) < l.length := by omega
  go_enter Tryd.func55, Tryd.ntmps55
  go_wp2
  go_quiet (fail)
  go_wp2
  go_ret
  exact ⟨ret_u32 rfl, _, rfl⟩
set_option maxHeartbeats 400000 in
theorem word_c (l : List UInt8) (hs : 4 ≤ l.length) (w : World) :
    Calls Tryd.prog 59 #[.string ⟨l.toArray⟩] w fun e w' => e = .returned (.int .u32 (W32 (C3.wordAt l 0))) ∧ ∃ n, w' = w.drewN n := by
  have h0 : 0 < l.length := by omega
  have i1 : (1 : Int) < l.length := by omega
  have i2 : (2 : Int) < l.length := by omega
  have i3 : (3 : Int) < l.length := by omega
  go_enter Tryd.func59, Tryd.ntmps59
  go_wp2
  go_quiet (fail)
  go_wp2
  go_ret
  exact ⟨ret_u32 (C3.word_sum _ _ _ _), _, rfl⟩

set_option maxHeartbeats 1000000 in
theorem state_c (key nonce : List UInt8) (ctr : UInt32) (hk : key.length = 32) (hn : nonce.length = 12) (w : World) :
    Calls Tryd.prog 41 #[.string ⟨key.toArray⟩, .int .u32 (W32 ctr), .string ⟨nonce.toArray⟩] w fun e w' => e = .returned (.tuple #[.agg (row (C3.state key ctr nonce)), .int .i64 0]) ∧ Below w.heap.size w w' := by
  go_enter Tryd.func41, Tryd.ntmps41
  go_wp2
  go_loopw [21] (fun i wr => ∃ k : Nat, k ≤ 8 ∧ i = .int .i64 k ∧ ∃ n, wr = (w.alloc (.cells (row (C3.stK key ctr k)) 71)).drewN n) (fun i _ => 8 - (intOf i).toNat)
  case atStart => exact ⟨0, by omega, rfl, 0, rfl⟩
  case round =>
    obtain ⟨k, hk8, rfl, n, rfl⟩ := hrel
    have hlen := C3.length_stK key ctr k
    by_cases hlt : k < 8
    · have hb4 : 4 + k < 16 := by omega
      have hl4 : 4 ≤ ((key.drop (4 * k)).take (32 - 4 * k)).length := by simp [hk]; omega
      have hwd : C3.wordAt ((key.drop (4 * k)).take (32 - 4 * k)) 0 = C3.wordAt key (4 * k) := wordAt_cut _ _ _ (by omega)
      have HW := Lib.hid hwd
      clear hwd
      go_wp2_with (go_at_call 55; refine (get_c _ hl4 _).mono ?_; rintro e w' ⟨rfl, nq, rfl⟩; rw [HW.out])
      go_roundw
      case rel => exact ⟨k + 1, by omega, by go_num, _, rfl⟩
      case measure => simp [intOf]; omega
    · have he : k = 8 := by omega
      have HE := Lib.hid he
      clear he
      go_wp2
      go_loopw [33] (fun i wr => ∃ k : Nat, k ≤ 3 ∧ i = .int .i64 k ∧ ∃ n, wr = (w.alloc (.cells (row (C3.stN key ctr nonce k)) 71)).drewN n) (fun i _ => 3 - (intOf i).toNat)
      case atStart => exact ⟨0, by omega, rfl, n, by rw [HE.out]; rfl⟩
      case round =>
        clear hk8 hlen hlt
        obtain ⟨k, hk8, rfl, n, rfl⟩ := hrel
        have hlen := C3.length_stN key ctr nonce k
        by_cases hlt : k < 3
        · have hb13 : 13 + k < 16 := by omega
          have hl4 : 4 ≤ ((nonce.drop (4 * k)).take (12 - 4 * k)).length := by simp [hn]; omega
          have hwd : C3.wordAt ((nonce.drop (4 * k)).take (12 - 4 * k)) 0 = C3.wordAt nonce (4 * k) := wordAt_cut _ _ _ (by omega)
          have HW := Lib.hid hwd
          clear hwd
          go_wp2_with (go_at_call 55; refine (get_c _ hl4 _).mono ?_; rintro e w' ⟨rfl, nq, rfl⟩; rw [HW.out])
          go_roundw
          case rel => exact ⟨k + 1, by omega, by go_num, _, rfl⟩
          case measure => simp [intOf]; omega
        · have he : k = 3 := by omega
          have HE := Lib.hid he
          clear he
          go_wp2_with (first
            | (refine ld_row rfl (.tmp 6) rfl _ rfl _ 71 (heap1 _ _ _) hlen ?_)
            | (refine st_row rfl (.tmp 6) (.tmp 45) rfl _ _ rfl rfl 71 _ (heap1 _ _ _) (by rw [row_size, hlen]) hlen ?_))
          refine bodyPost_ret (v := .tuple #[.agg (row _), _]) (res_row2 rfl _ _ _ _ _ rfl (heap1 _ _ _) hlen) rfl ⟨by rw [HE.out]; rfl, ?_⟩
          exact below_drewN _ ((Below.refl _ _).alloc (Nat.le_refl _) _)

set_option maxHeartbeats 1000000 in
theorem state_no (key nonce : List UInt8) (ctr : UInt32) (h : C3.okArgs key nonce = false) (w : World) :
    Calls Tryd.prog 41 #[.string ⟨key.toArray⟩, .int .u32 (W32 ctr), .string ⟨nonce.toArray⟩] w fun e w' => e = .returned (.tuple #[.agg (row (List.replicate 16 0)), .int .i64 1]) ∧ Below w.heap.size w w' := by
  have h0 : (row (List.replicate 16 0)) = #[.int .u32 0, .int .u32 0, .int .u32 0, .int .u32 0, .int .u32 0, .int .u32 0, .int .u32 0, .int .u32 0, .int .u32 0, .int .u32 0, .int .u32 0, .int .u32 0, .int .u32 0, .int .u32 0, .int .u32 0, .int .u32 0] := rfl
  rw [h0]
  clear h0
  unfold C3.okArgs at h
  by_cases hk : key.length = 32
  · have hn : ¬ nonce.length = 12 := by intro e; rw [hk, e] at h; cases h
    have h2 : (((nonce.length : Nat) : Int) != 12) = true := by rw [bne_iff_ne]; omega
    clear h
    go_enter Tryd.func41, Tryd.ntmps41
    go_wp2
    refine bodyPost_ret (v := .tuple #[.agg _, .int .i64 1]) ?_ rfl ⟨rfl, (Below.refl _ _).alloc (Nat.le_refl _) _⟩
    simp [results, Tryd.results41, go_sem]
  · have h2 : (((key.length : Nat) : Int) != 32) = true := by rw [bne_iff_ne]; omega
    clear h
    go_enter Tryd.func41, Tryd.ntmps41
    go_wp2
    refine bodyPost_ret (v := .tuple #[.agg _, .int .i64 1]) ?_ rfl ⟨rfl, (Below.refl _ _).alloc (Nat.le_refl _) _⟩
    simp [results, Tryd.results41, go_sem]
set_option maxHeartbeats 1000000 in
theorem state_ref (key nonce : List UInt8) (ctr : UInt32) (hk : key.length = 32) (hn : nonce.length = 12) (w : World) :
    Calls Tryd.prog 44 #[.string ⟨key.toArray⟩, .int .u32 (W32 ctr), .string ⟨nonce.toArray⟩] w fun e w' => e = .returned (.tuple #[.agg (row (C3.state key ctr nonce)), .int .i64 0]) ∧ Below w.heap.size w w' := by
  go_enter Tryd.func44, Tryd.ntmps44
  go_wp2
  go_loopw [9] (fun i wr => ∃ k : Nat, k ≤ 8 ∧ i = .int .i64 k ∧ ∃ n, wr = ((w.alloc (.cells zero16 71)).alloc (.cells (row (C3.stK key 0 k)) 71)).drewN n) (fun i _ => 8 - (intOf i).toNat)
  case atStart => exact ⟨0, by omega, rfl, 0, rfl⟩
  case round =>
    obtain ⟨k, hk8, rfl, n, rfl⟩ := hrel
    have hlen := C3.length_stK key 0 k
    by_cases hlt : k < 8
    · have hb4 : 4 + k < 16 := by omega
      have hl4 : 4 ≤ ((key.drop (4 * k)).take (32 - 4 * k)).length := by simp [hk]; omega
      have hwd : C3.wordAt ((key.drop (4 * k)).take (32 - 4 * k)) 0 = C3.wordAt key (4 * k) := wordAt_cut _ _ _ (by omega)
      have HW := Lib.hid hwd
      clear hwd
      go_wp2_with (go_at_call 59; refine (word_c _ hl4 _).mono ?_; rintro e w' ⟨rfl, nq, rfl⟩; rw [HW.out])
      go_roundw
      case rel => exact ⟨k + 1, by omega, by go_num, _, rfl⟩
      case measure => simp [intOf]; omega
    · have he : k = 8 := by omega
      have HE := Lib.hid he
      clear he
      go_wp2
      go_loopw [10] (fun i wr => ∃ k : Nat, k ≤ 3 ∧ i = .int .i64 k ∧ ∃ n, wr = ((w.alloc (.cells zero16 71)).alloc (.cells (row (C3.stN key ctr nonce k)) 71)).drewN n) (fun i _ => 3 - (intOf i).toNat)
      case atStart => exact ⟨0, by omega, rfl, n, by rw [HE.out, C3.stK_later]; rfl⟩
      case round =>
        clear hk8 hlen hlt
        obtain ⟨k, hk8, rfl, n, rfl⟩ := hrel
        have hlen := C3.length_stN key ctr nonce k
        by_cases hlt : k < 3
        · have hb13 : 13 + k < 16 := by omega
          have hl4 : 4 ≤ ((nonce.drop (4 * k)).take (12 - 4 * k)).length := by simp [hn]; omega
          have hwd : C3.wordAt ((nonce.drop (4 * k)).take (12 - 4 * k)) 0 = C3.wordAt nonce (4 * k) := wordAt_cut _ _ _ (by omega)
          have HW := Lib.hid hwd
          clear hwd
          go_wp2_with (go_at_call 59; refine (word_c _ hl4 _).mono ?_; rintro e w' ⟨rfl, nq, rfl⟩; rw [HW.out])
          go_roundw
          case rel => exact ⟨k + 1, by omega, by go_num, _, rfl⟩
          case measure => simp [intOf]; omega
        · have he : k = 3 := by omega
          have HE := Lib.hid he
          clear he
          go_wp2_with (first
            | (refine ld_row rfl (.tmp 8) rfl _ rfl _ 71 (heap2_second _ _ _ _) hlen ?_)
            | (refine st_row rfl (.tmp 6) (.tmp 50) rfl _ _ rfl rfl 71 _ (heap2_first _ _ _ _) rfl hlen ?_))
          refine bodyPost_ret (v := .tuple #[.agg (row _), _]) (res_row2 rfl _ _ _ _ _ rfl (heap2_first _ _ _ _) hlen) rfl ⟨by rw [HE.out]; rfl, ?_⟩
          exact below_drewN _ (((Below.refl _ _).alloc (Nat.le_refl _) _).alloc (by simp) _)

set_option maxHeartbeats 1000000 in
theorem state_ref_no (key nonce : List UInt8) (ctr : UInt32) (h : C3.okArgs key nonce = false) (w : World) :
    Calls Tryd.prog 44 #[.string ⟨key.toArray⟩, .int .u32 (W32 ctr), .string ⟨nonce.toArray⟩] w fun e w' => e = .returned (.tuple #[.agg (row (List.replicate 16 0)), .int .i64 1]) ∧ Below w.heap.size w w' := by
  have h0 : (row (List.replicate 16 0)) = #[.int .u32 0, .int .u32 0, .int .u32 0, .int .u32 0, .int .u32 0, .int .u32 0, .int .u32 0, .int .u32 0, .int .u32 0, .int .u32 0, .int .u32 0, .int .u32 0, .int .u32 0, .int .u32 0, .int .u32 0, .int .u32 0] := rfl
  rw [h0]
  clear h0
  unfold C3.okArgs at h
  by_cases hk : key.length = 32
  · have hn : ¬ nonce.length = 12 := by intro e; rw [hk, e] at h; cases h
    have h2 : (((nonce.length : Nat) : Int) != 12) = true := by rw [bne_iff_ne]; omega
    clear h
    go_enter Tryd.func44, Tryd.ntmps44
    go_wp2
    refine bodyPost_ret (v := .tuple #[.agg _, .int .i64 1]) ?_ rfl ⟨rfl, ((Below.refl _ _).alloc (Nat.le_refl _) _).alloc (by simp) _⟩
    simp [results, Tryd.results44, go_sem]
  · have h2 : (((key.length : Nat) : Int) != 32) = true := by rw [bne_iff_ne]; omega
    clear h
    go_enter Tryd.func44, Tryd.ntmps44
    go_wp2
    refine bodyPost_ret (v := .tuple #[.agg _, .int .i64 1]) ?_ rfl ⟨rfl, ((Below.refl _ _).alloc (Nat.le_refl _) _).alloc (by simp) _⟩
    simp [results, Tryd.results44, go_sem]
end Go.Proofs.YtackbjbmadkkhaaDoor
