/- The program's encoding of a number. -/
import Derived.Test.YtackbjbmadkkhaaDoorWireP
import Derived.Deep.CutBlock
import Derived.WalkMore
import Derived.Lib.Zigzag
namespace Go.Proofs.YtackbjbmadkkhaaDoor
open Go.RowKit
set_option linter.unusedSimpArgs false
set_option linter.unusedVariables false
theorem b8_xor (m : Nat) (f : UInt8) : bits .xor .u8 ((m : Int) % 256) (B8 f) = B8 (UInt8.ofNat m ^^^ f) := by
  rw [← u8_xor_u8, b8_of]
theorem u64_flip (n : Int) (M : Nat) (h0 : n < 0) (h1 : -9223372036854775808 ≤ n) (hm : -1 - n = (M : Int)) : bits .xor .u64 IntKind.u64.max (IntKind.u64.wrap n) = (M : Int) := by
  have e1 : IntKind.u64.wrap n = (((n + 18446744073709551616).toNat : Nat) : Int) := by
    rw [IntKind.wrap_u64]
    omega
  have e2 : IntKind.u64.max = ((2 ^ 64 - 1 : Nat) : Int) := by decide
  rw [e1, e2, bits_xor_u64_nat _ _ (by decide) (by omega), Lib.xor_ones64 _ (by omega)]
  omega
theorem one_own (w : World) (c : UInt8) : OwnE eB (w.alloc (.cells #[.int .u8 (B8 c)] 5)) w.heap.size (.slice (some ⟨w.heap.size, 0, none⟩) 1 1) [c] := own_b1 c (Nat.le_refl _)
attribute [local irreducible] Calls
set_option maxRecDepth 100000 in
set_option maxHeartbeats 4000000 in
theorem int_c (n : Int) (hlo : -9223372036854775808 ≤ n) (hhi : n < 9223372036854775808) (w : World) :
    Calls Tryd.prog 39 #[.int .i64 n] w fun e w' => ∃ v', e = .returned v' ∧ OwnE eB w' w.heap.size v' (encI n) ∧ Below w.heap.size w w' := by
  obtain ⟨M, F, hM, hE, hs⟩ : ∃ (M : Nat) (F : UInt8), M < 18446744073709551616 ∧ encI n = encM M F ∧ ((0 ≤ n ∧ n = M ∧ F = 0) ∨ (n < 0 ∧ (-1 - n) = M ∧ F = 255)) := by
    by_cases h : 0 ≤ n
    · exact ⟨n.toNat, 0, by omega, by unfold encI; rw [if_pos h], .inl ⟨h, by omega, rfl⟩⟩
    · exact ⟨(-1 - n).toNat, 255, by omega, by unfold encI; rw [if_neg h], .inr ⟨by omega, by omega, rfl⟩⟩
  have HE := Lib.hid hE
  have HM := Lib.hid hM
  have HLO := Lib.hid hlo
  obtain ⟨MI, hMI⟩ : ∃ MI : Int, MI = (M : Int) := ⟨_, rfl⟩
  have HMI := Lib.hid hMI
  go_enter Tryd.func39, Tryd.ntmps39
  go_wp2
  go_step3
  go_upto_if 11 with fail
  go_cut [3, 4, 11] from 12 to 13 (fun m f _ wc => m = .int .u64 MI ∧ f = .int .u8 (B8 F) ∧ wc = w)
  case first =>
    clear hMI
    rcases hs with ⟨h0, h1, rfl⟩ | ⟨h0, h1, rfl⟩
    · have e1 : n % 18446744073709551616 = (M : Int) := by omega
      have i1 : ¬ n < 0 := by omega
      have H1 := Lib.hid h1
      clear h1
      go_wp2
      all_goals go_meet
      case rel => exact ⟨by rw [IntKind.wrap_u64, e1, HMI.out], rfl, rfl⟩
    · have e1 : 18446744073709551615 - n % 18446744073709551616 = (M : Int) := by omega
      have H1 := Lib.hid h1
      clear h1
      go_wp2
      all_goals go_meet
      case rel => exact ⟨by rw [u64_flip n M h0 HLO.out H1.out, HMI.out], rfl, rfl⟩
  case rest =>
    obtain ⟨rfl, rfl, hw⟩ := hcut
    rw [hw]
    clear hw
    clear hs hlo hhi
    have mi : MI < 18446744073709551616 := by omega
    have m0 : (0 : Int) ≤ MI := by omega
    clear hE hM hMI
    go_wp2
    go_step3
    go_upto_block 0 with fail
    go_cut [5] from 14 to 23 (fun o wc => o = .int .i64 (nb M : Int) ∧ wc = w)
    case first =>
      go_wp2_with fail
      go_loopw [5] (fun o wr => ∃ k : Nat, k ≤ 8 ∧ o = .int .i64 k ∧ Hid (M < 256 ^ k) ∧ wr = w) (fun o _ => (intOf o).toNat)
      case atStart => exact ⟨8, by omega, rfl, Lib.hid (by have := HM.out; simpa using this), rfl⟩
      case round =>
        obtain ⟨k, hk, rfl, hlt, rfl⟩ := hrel
        rcases (by omega : k = 0 ∨ k = 1 ∨ k = 2 ∨ k = 3 ∨ k = 4 ∨ k = 5 ∨ k = 6 ∨ k = 7 ∨ k = 8) with rfl | rfl | rfl | rfl | rfl | rfl | rfl | rfl | rfl
        · have hk0 : nb M = 0 := nb_is M 0 (by omega) hlt.out (.inl rfl)
          have HK0 := Lib.hid hk0
          clear hk0
          go_wp2
          all_goals go_meet
          case rel => exact ⟨by rw [HK0.out], rfl⟩
        · by_cases hq : 1 ≤ M
          · have i1 : 0 < MI := by have := HMI.out; omega
            have HK : Hid (nb M = 1) := Lib.hid (nb_is M 1 (by omega) hlt.out (.inr (by simpa using hq)))
            clear hq
            go_wp2
            all_goals go_meet
            case rel => exact ⟨by rw [HK.out], rfl⟩
          · have i1 : ¬ 0 < MI := by have := HMI.out; omega
            have HK : Hid (M < 256 ^ 0) := Lib.hid (by simp; omega)
            clear hq
            go_wp2
            go_roundw
            case rel => exact ⟨0, by decide, by go_num, HK, by first | exact rfl | exact trivial⟩
            case measure => simp [intOf]
        · by_cases hq : 256 ≤ M
          · have i1 : 0 < MI / 256 := by have := HMI.out; omega
            have HK : Hid (nb M = 2) := Lib.hid (nb_is M 2 (by omega) hlt.out (.inr (by simpa using hq)))
            clear hq
            go_wp2
            all_goals go_meet
            case rel => exact ⟨by rw [HK.out], rfl⟩
          · have i1 : ¬ 0 < MI / 256 := by have := HMI.out; omega
            have HK : Hid (M < 256 ^ 1) := Lib.hid (by simp; omega)
            clear hq
            go_wp2
            go_roundw
            case rel => exact ⟨1, by decide, by go_num, HK, by first | exact rfl | exact trivial⟩
            case measure => simp [intOf]
        · by_cases hq : 65536 ≤ M
          · have i1 : 0 < MI / 65536 := by have := HMI.out; omega
            have HK : Hid (nb M = 3) := Lib.hid (nb_is M 3 (by omega) hlt.out (.inr (by simpa using hq)))
            clear hq
            go_wp2
            all_goals go_meet
            case rel => exact ⟨by rw [HK.out], rfl⟩
          · have i1 : ¬ 0 < MI / 65536 := by have := HMI.out; omega
            have HK : Hid (M < 256 ^ 2) := Lib.hid (by simp; omega)
            clear hq
            go_wp2
            go_roundw
            case rel => exact ⟨2, by decide, by go_num, HK, by first | exact rfl | exact trivial⟩
            case measure => simp [intOf]
        · by_cases hq : 16777216 ≤ M
          · have i1 : 0 < MI / 16777216 := by have := HMI.out; omega
            have HK : Hid (nb M = 4) := Lib.hid (nb_is M 4 (by omega) hlt.out (.inr (by simpa using hq)))
            clear hq
            go_wp2
            all_goals go_meet
            case rel => exact ⟨by rw [HK.out], rfl⟩
          · have i1 : ¬ 0 < MI / 16777216 := by have := HMI.out; omega
            have HK : Hid (M < 256 ^ 3) := Lib.hid (by simp; omega)
            clear hq
            go_wp2
            go_roundw
            case rel => exact ⟨3, by decide, by go_num, HK, by first | exact rfl | exact trivial⟩
            case measure => simp [intOf]
        · by_cases hq : 4294967296 ≤ M
          · have i1 : 0 < MI / 4294967296 := by have := HMI.out; omega
            have HK : Hid (nb M = 5) := Lib.hid (nb_is M 5 (by omega) hlt.out (.inr (by simpa using hq)))
            clear hq
            go_wp2
            all_goals go_meet
            case rel => exact ⟨by rw [HK.out], rfl⟩
          · have i1 : ¬ 0 < MI / 4294967296 := by have := HMI.out; omega
            have HK : Hid (M < 256 ^ 4) := Lib.hid (by simp; omega)
            clear hq
            go_wp2
            go_roundw
            case rel => exact ⟨4, by decide, by go_num, HK, by first | exact rfl | exact trivial⟩
            case measure => simp [intOf]
        · by_cases hq : 1099511627776 ≤ M
          · have i1 : 0 < MI / 1099511627776 := by have := HMI.out; omega
            have HK : Hid (nb M = 6) := Lib.hid (nb_is M 6 (by omega) hlt.out (.inr (by simpa using hq)))
            clear hq
            go_wp2
            all_goals go_meet
            case rel => exact ⟨by rw [HK.out], rfl⟩
          · have i1 : ¬ 0 < MI / 1099511627776 := by have := HMI.out; omega
            have HK : Hid (M < 256 ^ 5) := Lib.hid (by simp; omega)
            clear hq
            go_wp2
            go_roundw
            case rel => exact ⟨5, by decide, by go_num, HK, by first | exact rfl | exact trivial⟩
            case measure => simp [intOf]
        · by_cases hq : 281474976710656 ≤ M
          · have i1 : 0 < MI / 281474976710656 := by have := HMI.out; omega
            have HK : Hid (nb M = 7) := Lib.hid (nb_is M 7 (by omega) hlt.out (.inr (by simpa using hq)))
            clear hq
            go_wp2
            all_goals go_meet
            case rel => exact ⟨by rw [HK.out], rfl⟩
          · have i1 : ¬ 0 < MI / 281474976710656 := by have := HMI.out; omega
            have HK : Hid (M < 256 ^ 6) := Lib.hid (by simp; omega)
            clear hq
            go_wp2
            go_roundw
            case rel => exact ⟨6, by decide, by go_num, HK, by first | exact rfl | exact trivial⟩
            case measure => simp [intOf]
        · by_cases hq : 72057594037927936 ≤ M
          · have i1 : 0 < MI / 72057594037927936 := by have := HMI.out; omega
            have HK : Hid (nb M = 8) := Lib.hid (nb_is M 8 (by omega) hlt.out (.inr (by simpa using hq)))
            clear hq
            go_wp2
            all_goals go_meet
            case rel => exact ⟨by rw [HK.out], rfl⟩
          · have i1 : ¬ 0 < MI / 72057594037927936 := by have := HMI.out; omega
            have HK : Hid (M < 256 ^ 7) := Lib.hid (by simp; omega)
            clear hq
            go_wp2
            go_roundw
            case rel => exact ⟨7, by decide, by go_num, HK, by first | exact rfl | exact trivial⟩
            case measure => simp [intOf]
    case rest =>
      obtain ⟨rfl, rfl⟩ := hcut
      have hk8 := nb_le M
      have hx0 := b8_xor (128 + nb M) F
      rw [Int.natCast_add] at hx0
      have h1 := encM_one M F
      generalize hkn : nb M = K at hk8 hx0 h1 ⊢
      have HKN := Lib.hid hkn
      clear hkn
      have hx1 : bits .xor .u8 (128 + (K : Int)) (B8 F) = B8 (UInt8.ofNat (128 + K) ^^^ F) := by
        have e : (((128 : Nat) : Int) + (K : Int)) % 256 = 128 + (K : Int) := by omega
        rw [e] at hx0
        exact hx0
      generalize UInt8.ofNat (128 + K) ^^^ F = c0 at hx0 hx1 h1
      have hx2 : bits .xor .u8 ((128 + (K : Int)) % 256) (B8 F) = B8 c0 := by
        have e : (128 + (K : Int)) % 256 = 128 + (K : Int) := by omega
        rw [e]; exact hx1
      have H1 := Lib.hid h1
      have hki : (K : Int) ≤ 8 := by omega
      clear hx0 h1
      have HO : Hid (OwnE eB (wc.alloc (.cells #[.int .u8 (B8 c0)] 5)) wc.heap.size (.slice (some ⟨wc.heap.size, 0, none⟩) 1 1) [c0]) := Lib.hid (one_own wc c0)
      go_wp2
      go_loopw [7, 6] (fun o u wr => ∃ r : Nat, r ≤ K ∧ o = .int .i64 ((r : Int) - 1) ∧ (∃ a cap, u = .slice a (1 + (K - r)) cap) ∧ Hid (OwnE eB wr wc.heap.size u ((encM M F).take (1 + (K - r)))) ∧ Hid (Below wc.heap.size wc wr)) (fun o _ _ => (intOf o + 1).toNat)
      case atStart => exact ⟨K, Nat.le_refl _, rfl, ⟨_, _, by rw [Nat.sub_self]⟩, Lib.hid (by rw [Nat.sub_self, H1.out]; exact HO.out), Lib.hid ((Below.refl _ _).alloc (Nat.le_refl _) _)⟩
      case round =>
        obtain ⟨r, hr, rfl, ⟨a, cap, rfl⟩, hown, hb⟩ := hrel
        clear hx1 hx2
        have HW := Lib.hid hb.out.size
        rcases (by omega : r = 0 ∨ r = 1 ∨ r = 2 ∨ r = 3 ∨ r = 4 ∨ r = 5 ∨ r = 6 ∨ r = 7 ∨ r = 8) with rfl | rfl | rfl | rfl | rfl | rfl | rfl | rfl | rfl
        · have HR : Hid (OwnE eB wr wc.heap.size (.slice a (1 + (K - 0)) cap) (encM M F)) := Lib.hid (by have h := hown.out; rw [← HKN.out, encM_full] at h; rw [← HKN.out]; exact h)
          clear hr
          go_wp2
          rw [Exit.noGoto_ret]
          go_ret
          exact ⟨_, rfl, by rw [HE.out]; exact HR.out, hb.out⟩
        · have et := encM_next M F 1 (by omega) (by rw [HKN.out]; exact hr)
          rw [HKN.out] at et
          have ev : MI % 256 = B8 (UInt8.ofNat (M / 256 ^ (1 - 1))) := by rw [b8_of]; have := HMI.out; simp; omega
          skip
          generalize hc : UInt8.ofNat (M / 256 ^ (1 - 1)) = c at et ev 
          have em : B8 c % 256 = B8 c := B8_mod c
          have ET := Lib.hid et
          have HR := Lib.hid hr
          clear et hc hr
          go_wp2_with (at_builtin; go_loud (refine app_e eB_ok rfl (.tmp 36) (.tmp 44) rfl wc.heap.size _ _ rfl (hown.out.on ((Below.refl _ _).alloc (Nat.le_refl _) _)) (.slice (some ⟨wr.heap.size, 0, none⟩) 1 1) [c ^^^ F] rfl (one_e wr (c ^^^ F) eB_ok) (by rw [List.length_take, encM_len]; have := nb_le M; simp; omega) (by have := HW.out; simp; omega) ?_); intro v5 w4 ho4 hg4 hloc; have HB4 := Lib.hid (hb.out.trans (((Below.refl wr.heap.size wr).alloc (Nat.le_refl _) (.cells #[.int .u8 (B8 (c ^^^ F))] 5)).mono HW.out |>.trans ((hown.out.on ((Below.refl _ _).alloc (Nat.le_refl _) _)).below hg4 (by have := HW.out; simp; omega)))); have HO4 := Lib.hid ho4; clear ho4 hg4 hloc)
          go_roundw
          case rel => exact ⟨0, by have := HR.out; omega, by first | rfl | go_num, HO4.out.rd.form1 (by have := HR.out; have := HKN.out; rw [List.length_append, List.length_take, encM_len]; simp; omega), Lib.hid (by have h := HO4.out; rw [← ET.out] at h; exact h), HB4⟩
          case measure => simp [intOf]
        · have et := encM_next M F 2 (by omega) (by rw [HKN.out]; exact hr)
          rw [HKN.out] at et
          have ev : MI / 256 % 256 = B8 (UInt8.ofNat (M / 256 ^ (2 - 1))) := by rw [b8_of]; have := HMI.out; simp; omega
          skip
          generalize hc : UInt8.ofNat (M / 256 ^ (2 - 1)) = c at et ev 
          have em : B8 c % 256 = B8 c := B8_mod c
          have ET := Lib.hid et
          have HR := Lib.hid hr
          clear et hc hr
          go_wp2_with (at_builtin; go_loud (refine app_e eB_ok rfl (.tmp 36) (.tmp 44) rfl wc.heap.size _ _ rfl (hown.out.on ((Below.refl _ _).alloc (Nat.le_refl _) _)) (.slice (some ⟨wr.heap.size, 0, none⟩) 1 1) [c ^^^ F] rfl (one_e wr (c ^^^ F) eB_ok) (by rw [List.length_take, encM_len]; have := nb_le M; simp; omega) (by have := HW.out; simp; omega) ?_); intro v5 w4 ho4 hg4 hloc; have HB4 := Lib.hid (hb.out.trans (((Below.refl wr.heap.size wr).alloc (Nat.le_refl _) (.cells #[.int .u8 (B8 (c ^^^ F))] 5)).mono HW.out |>.trans ((hown.out.on ((Below.refl _ _).alloc (Nat.le_refl _) _)).below hg4 (by have := HW.out; simp; omega)))); have HO4 := Lib.hid ho4; clear ho4 hg4 hloc)
          go_roundw
          case rel => exact ⟨1, by have := HR.out; omega, by first | rfl | go_num, HO4.out.rd.form1 (by have := HR.out; have := HKN.out; rw [List.length_append, List.length_take, encM_len]; simp; omega), Lib.hid (by have h := HO4.out; rw [← ET.out] at h; exact h), HB4⟩
          case measure => simp [intOf]
        · have et := encM_next M F 3 (by omega) (by rw [HKN.out]; exact hr)
          rw [HKN.out] at et
          have ev : MI / 65536 % 256 = B8 (UInt8.ofNat (M / 256 ^ (3 - 1))) := by rw [b8_of]; have := HMI.out; simp; omega
          skip
          generalize hc : UInt8.ofNat (M / 256 ^ (3 - 1)) = c at et ev 
          have em : B8 c % 256 = B8 c := B8_mod c
          have ET := Lib.hid et
          have HR := Lib.hid hr
          clear et hc hr
          go_wp2_with (at_builtin; go_loud (refine app_e eB_ok rfl (.tmp 36) (.tmp 44) rfl wc.heap.size _ _ rfl (hown.out.on ((Below.refl _ _).alloc (Nat.le_refl _) _)) (.slice (some ⟨wr.heap.size, 0, none⟩) 1 1) [c ^^^ F] rfl (one_e wr (c ^^^ F) eB_ok) (by rw [List.length_take, encM_len]; have := nb_le M; simp; omega) (by have := HW.out; simp; omega) ?_); intro v5 w4 ho4 hg4 hloc; have HB4 := Lib.hid (hb.out.trans (((Below.refl wr.heap.size wr).alloc (Nat.le_refl _) (.cells #[.int .u8 (B8 (c ^^^ F))] 5)).mono HW.out |>.trans ((hown.out.on ((Below.refl _ _).alloc (Nat.le_refl _) _)).below hg4 (by have := HW.out; simp; omega)))); have HO4 := Lib.hid ho4; clear ho4 hg4 hloc)
          go_roundw
          case rel => exact ⟨2, by have := HR.out; omega, by first | rfl | go_num, HO4.out.rd.form1 (by have := HR.out; have := HKN.out; rw [List.length_append, List.length_take, encM_len]; simp; omega), Lib.hid (by have h := HO4.out; rw [← ET.out] at h; exact h), HB4⟩
          case measure => simp [intOf]
        · have et := encM_next M F 4 (by omega) (by rw [HKN.out]; exact hr)
          rw [HKN.out] at et
          have ev : MI / 16777216 % 256 = B8 (UInt8.ofNat (M / 256 ^ (4 - 1))) := by rw [b8_of]; have := HMI.out; simp; omega
          skip
          generalize hc : UInt8.ofNat (M / 256 ^ (4 - 1)) = c at et ev 
          have em : B8 c % 256 = B8 c := B8_mod c
          have ET := Lib.hid et
          have HR := Lib.hid hr
          clear et hc hr
          go_wp2_with (at_builtin; go_loud (refine app_e eB_ok rfl (.tmp 36) (.tmp 44) rfl wc.heap.size _ _ rfl (hown.out.on ((Below.refl _ _).alloc (Nat.le_refl _) _)) (.slice (some ⟨wr.heap.size, 0, none⟩) 1 1) [c ^^^ F] rfl (one_e wr (c ^^^ F) eB_ok) (by rw [List.length_take, encM_len]; have := nb_le M; simp; omega) (by have := HW.out; simp; omega) ?_); intro v5 w4 ho4 hg4 hloc; have HB4 := Lib.hid (hb.out.trans (((Below.refl wr.heap.size wr).alloc (Nat.le_refl _) (.cells #[.int .u8 (B8 (c ^^^ F))] 5)).mono HW.out |>.trans ((hown.out.on ((Below.refl _ _).alloc (Nat.le_refl _) _)).below hg4 (by have := HW.out; simp; omega)))); have HO4 := Lib.hid ho4; clear ho4 hg4 hloc)
          go_roundw
          case rel => exact ⟨3, by have := HR.out; omega, by first | rfl | go_num, HO4.out.rd.form1 (by have := HR.out; have := HKN.out; rw [List.length_append, List.length_take, encM_len]; simp; omega), Lib.hid (by have h := HO4.out; rw [← ET.out] at h; exact h), HB4⟩
          case measure => simp [intOf]
        · have et := encM_next M F 5 (by omega) (by rw [HKN.out]; exact hr)
          rw [HKN.out] at et
          have ev : MI / 4294967296 % 256 = B8 (UInt8.ofNat (M / 256 ^ (5 - 1))) := by rw [b8_of]; have := HMI.out; simp; omega
          skip
          generalize hc : UInt8.ofNat (M / 256 ^ (5 - 1)) = c at et ev 
          have em : B8 c % 256 = B8 c := B8_mod c
          have ET := Lib.hid et
          have HR := Lib.hid hr
          clear et hc hr
          go_wp2_with (at_builtin; go_loud (refine app_e eB_ok rfl (.tmp 36) (.tmp 44) rfl wc.heap.size _ _ rfl (hown.out.on ((Below.refl _ _).alloc (Nat.le_refl _) _)) (.slice (some ⟨wr.heap.size, 0, none⟩) 1 1) [c ^^^ F] rfl (one_e wr (c ^^^ F) eB_ok) (by rw [List.length_take, encM_len]; have := nb_le M; simp; omega) (by have := HW.out; simp; omega) ?_); intro v5 w4 ho4 hg4 hloc; have HB4 := Lib.hid (hb.out.trans (((Below.refl wr.heap.size wr).alloc (Nat.le_refl _) (.cells #[.int .u8 (B8 (c ^^^ F))] 5)).mono HW.out |>.trans ((hown.out.on ((Below.refl _ _).alloc (Nat.le_refl _) _)).below hg4 (by have := HW.out; simp; omega)))); have HO4 := Lib.hid ho4; clear ho4 hg4 hloc)
          go_roundw
          case rel => exact ⟨4, by have := HR.out; omega, by first | rfl | go_num, HO4.out.rd.form1 (by have := HR.out; have := HKN.out; rw [List.length_append, List.length_take, encM_len]; simp; omega), Lib.hid (by have h := HO4.out; rw [← ET.out] at h; exact h), HB4⟩
          case measure => simp [intOf]
        · have et := encM_next M F 6 (by omega) (by rw [HKN.out]; exact hr)
          rw [HKN.out] at et
          have ev : MI / 1099511627776 % 256 = B8 (UInt8.ofNat (M / 256 ^ (6 - 1))) := by rw [b8_of]; have := HMI.out; simp; omega
          skip
          generalize hc : UInt8.ofNat (M / 256 ^ (6 - 1)) = c at et ev 
          have em : B8 c % 256 = B8 c := B8_mod c
          have ET := Lib.hid et
          have HR := Lib.hid hr
          clear et hc hr
          go_wp2_with (at_builtin; go_loud (refine app_e eB_ok rfl (.tmp 36) (.tmp 44) rfl wc.heap.size _ _ rfl (hown.out.on ((Below.refl _ _).alloc (Nat.le_refl _) _)) (.slice (some ⟨wr.heap.size, 0, none⟩) 1 1) [c ^^^ F] rfl (one_e wr (c ^^^ F) eB_ok) (by rw [List.length_take, encM_len]; have := nb_le M; simp; omega) (by have := HW.out; simp; omega) ?_); intro v5 w4 ho4 hg4 hloc; have HB4 := Lib.hid (hb.out.trans (((Below.refl wr.heap.size wr).alloc (Nat.le_refl _) (.cells #[.int .u8 (B8 (c ^^^ F))] 5)).mono HW.out |>.trans ((hown.out.on ((Below.refl _ _).alloc (Nat.le_refl _) _)).below hg4 (by have := HW.out; simp; omega)))); have HO4 := Lib.hid ho4; clear ho4 hg4 hloc)
          go_roundw
          case rel => exact ⟨5, by have := HR.out; omega, by first | rfl | go_num, HO4.out.rd.form1 (by have := HR.out; have := HKN.out; rw [List.length_append, List.length_take, encM_len]; simp; omega), Lib.hid (by have h := HO4.out; rw [← ET.out] at h; exact h), HB4⟩
          case measure => simp [intOf]
        · have et := encM_next M F 7 (by omega) (by rw [HKN.out]; exact hr)
          rw [HKN.out] at et
          have ev : MI / 281474976710656 % 256 = B8 (UInt8.ofNat (M / 256 ^ (7 - 1))) := by rw [b8_of]; have := HMI.out; simp; omega
          skip
          generalize hc : UInt8.ofNat (M / 256 ^ (7 - 1)) = c at et ev 
          have em : B8 c % 256 = B8 c := B8_mod c
          have ET := Lib.hid et
          have HR := Lib.hid hr
          clear et hc hr
          go_wp2_with (at_builtin; go_loud (refine app_e eB_ok rfl (.tmp 36) (.tmp 44) rfl wc.heap.size _ _ rfl (hown.out.on ((Below.refl _ _).alloc (Nat.le_refl _) _)) (.slice (some ⟨wr.heap.size, 0, none⟩) 1 1) [c ^^^ F] rfl (one_e wr (c ^^^ F) eB_ok) (by rw [List.length_take, encM_len]; have := nb_le M; simp; omega) (by have := HW.out; simp; omega) ?_); intro v5 w4 ho4 hg4 hloc; have HB4 := Lib.hid (hb.out.trans (((Below.refl wr.heap.size wr).alloc (Nat.le_refl _) (.cells #[.int .u8 (B8 (c ^^^ F))] 5)).mono HW.out |>.trans ((hown.out.on ((Below.refl _ _).alloc (Nat.le_refl _) _)).below hg4 (by have := HW.out; simp; omega)))); have HO4 := Lib.hid ho4; clear ho4 hg4 hloc)
          go_roundw
          case rel => exact ⟨6, by have := HR.out; omega, by first | rfl | go_num, HO4.out.rd.form1 (by have := HR.out; have := HKN.out; rw [List.length_append, List.length_take, encM_len]; simp; omega), Lib.hid (by have h := HO4.out; rw [← ET.out] at h; exact h), HB4⟩
          case measure => simp [intOf]
        · have et := encM_next M F 8 (by omega) (by rw [HKN.out]; exact hr)
          rw [HKN.out] at et
          have ev : MI / 72057594037927936 % 256 = B8 (UInt8.ofNat (M / 256 ^ (8 - 1))) := by rw [b8_of]; have := HMI.out; simp; omega
          have ev0 : MI / 72057594037927936 = B8 (UInt8.ofNat (M / 256 ^ (8 - 1))) := by rw [← ev]; omega
          generalize hc : UInt8.ofNat (M / 256 ^ (8 - 1)) = c at et ev ev0
          have em : B8 c % 256 = B8 c := B8_mod c
          have ET := Lib.hid et
          have HR := Lib.hid hr
          clear et hc hr
          go_wp2_with (at_builtin; go_loud (refine app_e eB_ok rfl (.tmp 36) (.tmp 44) rfl wc.heap.size _ _ rfl (hown.out.on ((Below.refl _ _).alloc (Nat.le_refl _) _)) (.slice (some ⟨wr.heap.size, 0, none⟩) 1 1) [c ^^^ F] rfl (one_e wr (c ^^^ F) eB_ok) (by rw [List.length_take, encM_len]; have := nb_le M; simp; omega) (by have := HW.out; simp; omega) ?_); intro v5 w4 ho4 hg4 hloc; have HB4 := Lib.hid (hb.out.trans (((Below.refl wr.heap.size wr).alloc (Nat.le_refl _) (.cells #[.int .u8 (B8 (c ^^^ F))] 5)).mono HW.out |>.trans ((hown.out.on ((Below.refl _ _).alloc (Nat.le_refl _) _)).below hg4 (by have := HW.out; simp; omega)))); have HO4 := Lib.hid ho4; clear ho4 hg4 hloc)
          go_roundw
          case rel => exact ⟨7, by have := HR.out; omega, by first | rfl | go_num, HO4.out.rd.form1 (by have := HR.out; have := HKN.out; rw [List.length_append, List.length_take, encM_len]; simp; omega), Lib.hid (by have h := HO4.out; rw [← ET.out] at h; exact h), HB4⟩
          case measure => simp [intOf]
end Go.Proofs.YtackbjbmadkkhaaDoor
