/- The specification's weights. -/
import Derived.Test.YtbkkffdgkkcbfabOwnBytes
namespace Go.Proofs.Ytbkkffdgkkcbfab
open Go.RowKit F6
set_option linter.unusedSimpArgs false
set_option linter.unusedVariables false
theorem wts_zero (xs : List UInt8) (x : UInt8) : wts xs x 0 = [] := rfl
attribute [local irreducible] mul ev pp wt wts
set_option maxRecDepth 100000 in
set_option maxHeartbeats 400000 in
theorem weights_r (v : Value) (xs : List UInt8) (x : UInt8) (w : World) (hv : RdB w v xs) (hok : okX xs = true) :
    Calls Try.prog 18 #[v, .int .u8 (B8 x)] w fun e w' => ∃ u, e = .returned (.tuple #[u, .int .i64 0]) ∧ OwnB w' w.heap.size u (wts xs x xs.length) ∧ Below w.heap.size w w' := by
  obtain ⟨hnd, hl1, hl2⟩ := okX_nodup hok
  have HOK := Lib.hid hok
  have HV := Lib.hid hv
  have HND := Lib.hid hnd
  obtain ⟨a, cap, rfl, hl, hcap, hcells⟩ := hv
  obtain ⟨b, off, rfl, hbl, hc⟩ := hcells (by omega)
  clear hok hnd hcells
  go_enter Try.func18, Try.ntmps18
  go_wp2_with (go_at_call 29; refine (distinct_r _ xs _ HV.out).mono ?_; rw [HOK.out]; rintro e _ ⟨rfl, n0, rfl⟩)
  go_loopw [7, 8] (fun u i wr => ∃ k : Nat, k ≤ xs.length ∧ i = .int .i64 k ∧ OwnB wr w.heap.size u (wts xs x k) ∧ Below w.heap.size w wr) (fun _ i _ => xs.length - (intOf i).toNat)
  case atStart => exact ⟨0, Nat.zero_le _, rfl, by rw [wts_zero]; exact OwnB.nil _ _, below_drewN _ (Below.refl _ _)⟩
  case round =>
    obtain ⟨i, hi, rfl, ho, hb⟩ := hrel
    by_cases hlt : i < xs.length
    · have hii : (i : Int) < xs.length := by omega
      have HI := Lib.hid hlt
      go_wp2
      go_loopw [9, 10, 11] (fun up dn j ws => ∃ k : Nat, k ≤ xs.length ∧ j = .int .i64 k ∧ up = .int .u8 (B8 (pp xs i x k)) ∧ dn = .int .u8 (B8 (pp xs i (byteAt xs i) k)) ∧ ∃ n, ws = wr.drewN n) (fun _ _ j _ => xs.length - (intOf j).toNat)
      case atStart => exact ⟨0, Nat.zero_le _, rfl, by rw [pp_zero]; rfl, by rw [pp_zero]; rfl, 0, rfl⟩
      case round =>
        obtain ⟨k, hk, rfl, rfl, rfl, n, rfl⟩ := hrel
        have hi := HI.out
        by_cases hlt : k < xs.length
        · have c1 : wr.cell? ⟨b, off + i, none⟩ = some (.int .u8 (B8 (byteAt xs i))) := by rw [hb.cell (p := ⟨b, off + i, none⟩) hbl]; exact hc i hi
          have c2 : wr.cell? ⟨b, off + k, none⟩ = some (.int .u8 (B8 (byteAt xs k))) := by rw [hb.cell (p := ⟨b, off + k, none⟩) hbl]; exact hc k hlt
          have i1 : (i : Int) < xs.length := by omega
          have i2 : (k : Int) < xs.length := by omega
          have HK := Lib.hid hlt
          by_cases hki : k = i
          · have s1 := pp_skip xs i x hi
            have s2 := pp_skip xs i (byteAt xs i) hi
            have S1 := Lib.hid s1
            have S2 := Lib.hid s2
            have hne : ((k : Int) == i) = true := by rw [beq_iff_eq]; omega
            have HKI := Lib.hid hki
            clear s1 s2 hki
            go_wp2
            go_roundw
            case rel => exact ⟨k + 1, HK.out, by go_num, by rw [HKI.out, S1.out], by rw [HKI.out, S2.out], _, rfl⟩
            case measure => have := HK.out; simp [intOf]; omega
          · have s1 := pp_step xs i x k hlt hki
            have s2 := pp_step xs i (byteAt xs i) k hlt hki
            have S1 := Lib.hid s1
            have S2 := Lib.hid s2
            have hne : ((k : Int) == i) = false := by rw [beq_eq_false_iff_ne]; omega
            clear s1 s2 hki
            go_wp2_with (go_at_call 15; refine (mul_r _ _ _).mono ?_; rintro e _ ⟨rfl, rfl⟩)
            first | refine allD (by kernel_rfl) (by kernel_rfl) ?_ | refine all0 (by kernel_rfl) (by kernel_rfl) ?_
            repeat (go_big_quiet_step ((go_at_call 15; refine Calls.quiet_of_same (mul_r _ _ _))))
            refine wpQuiet_nil ?_
            rintro _ ⟨nq, rfl⟩
            go_wp2
            go_roundw
            case rel => exact ⟨k + 1, HK.out, by go_num, by rw [S1.out], by rw [S2.out], _, rfl⟩
            case measure => have := HK.out; simp [intOf]; omega
        · have he : k = xs.length := by omega
          have hp := pp_wt xs i x
          have hne := pp_ne xs i HND.out hi
          rw [← he] at hp hne
          have hs := wts_succ xs x i
          have hz : w.heap.size ≤ wr.heap.size := hb.size
          have ho2 := ho.drew n
          have hb2 := below_drewN n hb
          have hwl := wts_len xs x i
          have HP := Lib.hid hp
          have HS := Lib.hid hs
          have HW := Lib.hid hwl
          have hki : (xs.length : Int) ≤ k := by omega
          clear hp hs hwl he
          go_wp2_with (first
            | (go_at_call 12; refine (div_r _ _ hne _).mono ?_; rintro e _ ⟨rfl, rfl⟩; rw [HP.out])
            | (at_builtin; refine app_b rfl (.tmp 58) (.tmp 60) rfl w.heap.size _ _ rfl (OwnB.drew n (World.ownsRow.alloc ho _)) ⟨wr.heap.size, 0, none⟩ 1 1 [wt xs x i] rfl rfl ?h1 ?h2 ?h3 ?h4))
          case h1 =>
            intro j u hj
            exact cell_new _ _ _ _ _ hj
          case h2 => rw [HW.out]; have := HI.out; omega
          case h3 => simp; omega
          case h4 =>
            intro v' w' ho' hb'
            go_wp2
            go_roundw
            case rel => exact ⟨i + 1, HI.out, by go_num, by rw [HS.out]; exact ho', (below_drewN n (hb.alloc hz _)).trans hb'⟩
            case measure => have := HI.out; simp [intOf]; omega
    · have he : i = xs.length := by omega
      have HE := Lib.hid he
      clear he
      go_wp2
      go_ret2
      exact ⟨_, rfl, by rw [← HE.out]; exact ho, hb⟩
theorem weights_r0 (v : Value) (xs : List UInt8) (x : UInt8) (w : World) (hv : RdB w v xs) (hok : okX xs = false) :
    Calls Try.prog 18 #[v, .int .u8 (B8 x)] w fun e w' => e = .returned (.tuple #[.slice none 0 0, .int .i64 1]) ∧ Below w.heap.size w w' := by
  have HOK := Lib.hid hok
  have HV := Lib.hid hv
  obtain ⟨a, cap, rfl, hl, hcap, hcells⟩ := hv
  clear hok hcells
  go_enter Try.func18, Try.ntmps18
  go_wp2_with (go_at_call 29; refine (distinct_r _ xs _ HV.out).mono ?_; rw [HOK.out]; rintro e _ ⟨rfl, n0, rfl⟩)
  go_ret2
  exact ⟨rfl, below_drewN _ (Below.refl _ _)⟩
end Go.Proofs.Ytbkkffdgkkcbfab
