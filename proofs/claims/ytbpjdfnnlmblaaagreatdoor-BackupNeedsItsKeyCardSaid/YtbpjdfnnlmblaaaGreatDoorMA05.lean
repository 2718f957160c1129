/- Parts of a proof, joined: contracts of functions of the program and plain lemmas (WireA, WireB, WireL, HashL, HashM). No condition. -/
import Derived.Test.YtbpjdfnnlmblaaaGreatDoorMA04
import Derived.Deep.CutBlock
import Derived.WalkMore
import Derived.Lib.Zigzag
/- The program's encoding of a number. -/
namespace Go.Proofs.YtbpjdfnnlmblaaaGreatDoor
open Go.RowKit
set_option linter.unusedSimpArgs false
set_option linter.unusedVariables false
theorem b8_xor (m : Nat) (f : UInt8) : bits .xor .u8 ((m : Int) % 256) (B8 f) = B8 (UInt8.ofNat m ^^^ f) := by
  rw [← u8_xor_u8, b8_of]
theorem u64_flip (n : Int) (M : Nat) (h0 : n < 0) (h1 : -9223372036854775808 ≤ n) (hm : -1 - n = (M : Int)) : bits .xor .u64 IntKind.u64.max (IntKind.u64.wrap n) = (M : Int) := by
  have e1 : IntKind.u64.wrap n = (((n + 18446744073709551616).toNat : Nat) : Int) := by
    rw [IntKind.wrap_u64]
    omega
  have e2 : IntKind.u64.max = ((2 ^ 64 - 1 : Nat) : Int) := by decide
  rw [e1, e2, bits_xor_u64_nat _ _ (by decide) (by omega), Lib.xor_ones64 _ (by omega)]
  omega
theorem one_own (w : World) (c : UInt8) : OwnE eB (w.alloc (.cells #[.int .u8 (B8 c)] 5)) w.heap.size (.slice (some ⟨w.heap.size, 0, none⟩) 1 1) [c] := own_b1 c (Nat.le_refl _)
attribute [local irreducible] Calls
set_option maxRecDepth 100000 in
set_option maxHeartbeats 4000000 in
theorem int_c (n : Int) (hlo : -9223372036854775808 ≤ n) (hhi : n < 9223372036854775808) (w : World) :
    Calls Tryz.prog 64 #[.int .i64 n] w fun e w' => ∃ v', e = .returned v' ∧ OwnE eB w' w.heap.size v' (encI n) ∧ Below w.heap.size w w' := by
  obtain ⟨M, F, hM, hE, hs⟩ : ∃ (M : Nat) (F : UInt8), M < 18446744073709551616 ∧ encI n = encM M F ∧ ((0 ≤ n ∧ n = M ∧ F = 0) ∨ (n < 0 ∧ (-1 - n) = M ∧ F = 255)) := by
    by_cases h : 0 ≤ n
    · exact ⟨n.toNat, 0, by omega, by unfold encI; rw [if_pos h], .inl ⟨h, by omega, rfl⟩⟩
    · exact ⟨(-1 - n).toNat, 255, by omega, by unfold encI; rw [if_neg h], .inr ⟨by omega, by omega, rfl⟩⟩
  have HE := Lib.hid hE
  have HM := Lib.hid hM
  have HLO := Lib.hid hlo
  obtain ⟨MI, hMI⟩ : ∃ MI : Int, MI = (M : Int) := ⟨_, rfl⟩
  have HMI := Lib.hid hMI
  go_enter Tryz.func64, Tryz.ntmps64
  go_wp2
  go_step3
  go_upto_if 11 with fail
  go_cut [3, 4, 11] from 12 to 13 (fun m f _ wc => m = .int .u64 MI ∧ f = .int .u8 (B8 F) ∧ wc = w)
  case first =>
    clear hMI
    rcases hs with ⟨h0, h1, rfl⟩ | ⟨h0, h1, rfl⟩
    · have e1 : n % 18446744073709551616 = (M : Int) := by omega
      have i1 : ¬ n < 0 := by omega
      have H1 := Lib.hid h1
      clear h1
      go_wp2
      all_goals go_meet
      case rel => exact ⟨by rw [IntKind.wrap_u64, e1, HMI.out], rfl, rfl⟩
    · have e1 : 18446744073709551615 - n % 18446744073709551616 = (M : Int) := by omega
      have H1 := Lib.hid h1
      clear h1
      go_wp2
      all_goals go_meet
      case rel => exact ⟨by rw [u64_flip n M h0 HLO.out H1.out, HMI.out], rfl, rfl⟩
  case rest =>
    obtain ⟨rfl, rfl, hw⟩ := hcut
    rw [hw]
    clear hw
    clear hs hlo hhi
    have mi : MI < 18446744073709551616 := by omega
    have m0 : (0 : Int) ≤ MI := by omega
    clear hE hM hMI
    go_wp2
    go_step3
    go_upto_block 0 with fail
    go_cut [5] from 14 to 23 (fun o wc => o = .int .i64 (nb M : Int) ∧ wc = w)
    case first =>
      go_wp2_with fail
      go_loopw [5] (fun o wr => ∃ k : Nat, k ≤ 8 ∧ o = .int .i64 k ∧ Hid (M < 256 ^ k) ∧ wr = w) (fun o _ => (intOf o).toNat)
      case atStart => exact ⟨8, by omega, rfl, Lib.hid (by have := HM.out; simpa using this), rfl⟩
      case round =>
        obtain ⟨k, hk, rfl, hlt, rfl⟩ := hrel
        rcases (by omega : k = 0 ∨ k = 1 ∨ k = 2 ∨ k = 3 ∨ k = 4 ∨ k = 5 ∨ k = 6 ∨ k = 7 ∨ k = 8) with rfl | rfl | rfl | rfl | rfl | rfl | rfl | rfl | rfl
        · have hk0 : nb M = 0 := nb_is M 0 (by omega) hlt.out (.inl rfl)
          have HK0 := Lib.hid hk0
          clear hk0
          go_wp2
          all_goals go_meet
          case rel => exact ⟨by rw [HK0.out], rfl⟩
        · by_cases hq : 1 ≤ M
          · have i1 : 0 < MI := by have := HMI.out; omega
            have HK : Hid (nb M = 1) := Lib.hid (nb_is M 1 (by omega) hlt.out (.inr (by simpa using hq)))
            clear hq
            go_wp2
            all_goals go_meet
            case rel => exact ⟨by rw [HK.out], rfl⟩
          · have i1 : ¬ 0 < MI := by have := HMI.out; omega
            have HK : Hid (M < 256 ^ 0) := Lib.hid (by simp; omega)
            clear hq
            go_wp2
            go_roundw
            case rel => exact ⟨0, by decide, by go_num, HK, by first | exact rfl | exact trivial⟩
            case measure => simp [intOf]
        · by_cases hq : 256 ≤ M
          · have i1 : 0 < MI / 256 := by have := HMI.out; omega
            have HK : Hid (nb M = 2) := Lib.hid (nb_is M 2 (by omega) hlt.out (.inr (by simpa using hq)))
            clear hq
            go_wp2
            all_goals go_meet
            case rel => exact ⟨by rw [HK.out], rfl⟩
          · have i1 : ¬ 0 < MI / 256 := by have := HMI.out; omega
            have HK : Hid (M < 256 ^ 1) := Lib.hid (by simp; omega)
            clear hq
            go_wp2
            go_roundw
            case rel => exact ⟨1, by decide, by go_num, HK, by first | exact rfl | exact trivial⟩
            case measure => simp [intOf]
        · by_cases hq : 65536 ≤ M
          · have i1 : 0 < MI / 65536 := by have := HMI.out; omega
            have HK : Hid (nb M = 3) := Lib.hid (nb_is M 3 (by omega) hlt.out (.inr (by simpa using hq)))
            clear hq
            go_wp2
            all_goals go_meet
            case rel => exact ⟨by rw [HK.out], rfl⟩
          · have i1 : ¬ 0 < MI / 65536 := by have := HMI.out; omega
            have HK : Hid (M < 256 ^ 2) := Lib.hid (by simp; omega)
            clear hq
            go_wp2
            go_roundw
            case rel => exact ⟨2, by decide, by go_num, HK, by first | exact rfl | exact trivial⟩
            case measure => simp [intOf]
        · by_cases hq : 16777216 ≤ M
          · have i1 : 0 < MI / 16777216 := by have := HMI.out; omega
            have HK : Hid (nb M = 4) := Lib.hid (nb_is M 4 (by omega) hlt.out (.inr (by simpa using hq)))
            clear hq
            go_wp2
            all_goals go_meet
            case rel => exact ⟨by rw [HK.out], rfl⟩
          · have i1 : ¬ 0 < MI / 16777216 := by have := HMI.out; omega
            have HK : Hid (M < 256 ^ 3) := Lib.hid (by simp; omega)
            clear hq
            go_wp2
            go_roundw
            case rel => exact ⟨3, by decide, by go_num, HK, by first | exact rfl | exact trivial⟩
            case measure => simp [intOf]
        · by_cases hq : 4294967296 ≤ M
          · have i1 : 0 < MI / 4294967296 := by have := HMI.out; omega
            have HK : Hid (nb M = 5) := Lib.hid (nb_is M 5 (by omega) hlt.out (.inr (by simpa using hq)))
            clear hq
            go_wp2
            all_goals go_meet
            case rel => exact ⟨by rw [HK.out], rfl⟩
          · have i1 : ¬ 0 < MI / 4294967296 := by have := HMI.out; omega
            have HK : Hid (M < 256 ^ 4) := Lib.hid (by simp; omega)
            clear hq
            go_wp2
            go_roundw
            case rel => exact ⟨4, by decide, by go_num, HK, by first | exact rfl | exact trivial⟩
            case measure => simp [intOf]
        · by_cases hq : 1099511627776 ≤ M
          · have i1 : 0 < MI / 1099511627776 := by have := HMI.out; omega
            have HK : Hid (nb M = 6) := Lib.hid (nb_is M 6 (by omega) hlt.out (.inr (by simpa using hq)))
            clear hq
            go_wp2
            all_goals go_meet
            case rel => exact ⟨by rw [HK.out], rfl⟩
          · have i1 : ¬ 0 < MI / 1099511627776 := by have := HMI.out; omega
            have HK : Hid (M < 256 ^ 5) := Lib.hid (by simp; omega)
            clear hq
            go_wp2
            go_roundw
            case rel => exact ⟨5, by decide, by go_num, HK, by first | exact rfl | exact trivial⟩
            case measure => simp [intOf]
        · by_cases hq : 281474976710656 ≤ M
          · have i1 : 0 < MI / 281474976710656 := by have := HMI.out; omega
            have HK : Hid (nb M = 7) := Lib.hid (nb_is M 7 (by omega) hlt.out (.inr (by simpa using hq)))
            clear hq
            go_wp2
            all_goals go_meet
            case rel => exact ⟨by rw [HK.out], rfl⟩
          · have i1 : ¬ 0 < MI / 281474976710656 := by have := HMI.out; omega
            have HK : Hid (M < 256 ^ 6) := Lib.hid (by simp; omega)
            clear hq
            go_wp2
            go_roundw
            case rel => exact ⟨6, by decide, by go_num, HK, by first | exact rfl | exact trivial⟩
            case measure => simp [intOf]
        · by_cases hq : 72057594037927936 ≤ M
          · have i1 : 0 < MI / 72057594037927936 := by have := HMI.out; omega
            have HK : Hid (nb M = 8) := Lib.hid (nb_is M 8 (by omega) hlt.out (.inr (by simpa using hq)))
            clear hq
            go_wp2
            all_goals go_meet
            case rel => exact ⟨by rw [HK.out], rfl⟩
          · have i1 : ¬ 0 < MI / 72057594037927936 := by have := HMI.out; omega
            have HK : Hid (M < 256 ^ 7) := Lib.hid (by simp; omega)
            clear hq
            go_wp2
            go_roundw
            case rel => exact ⟨7, by decide, by go_num, HK, by first | exact rfl | exact trivial⟩
            case measure => simp [intOf]
    case rest =>
      obtain ⟨rfl, rfl⟩ := hcut
      have hk8 := nb_le M
      have hx0 := b8_xor (128 + nb M) F
      rw [Int.natCast_add] at hx0
      have h1 := encM_one M F
      generalize hkn : nb M = K at hk8 hx0 h1 ⊢
      have HKN := Lib.hid hkn
      clear hkn
      have hx1 : bits .xor .u8 (128 + (K : Int)) (B8 F) = B8 (UInt8.ofNat (128 + K) ^^^ F) := by
        have e : (((128 : Nat) : Int) + (K : Int)) % 256 = 128 + (K : Int) := by omega
        rw [e] at hx0
        exact hx0
      generalize UInt8.ofNat (128 + K) ^^^ F = c0 at hx0 hx1 h1
      have hx2 : bits .xor .u8 ((128 + (K : Int)) % 256) (B8 F) = B8 c0 := by
        have e : (128 + (K : Int)) % 256 = 128 + (K : Int) := by omega
        rw [e]; exact hx1
      have H1 := Lib.hid h1
      have hki : (K : Int) ≤ 8 := by omega
      clear hx0 h1
      have HO : Hid (OwnE eB (wc.alloc (.cells #[.int .u8 (B8 c0)] 5)) wc.heap.size (.slice (some ⟨wc.heap.size, 0, none⟩) 1 1) [c0]) := Lib.hid (one_own wc c0)
      go_wp2
      go_loopw [7, 6] (fun o u wr => ∃ r : Nat, r ≤ K ∧ o = .int .i64 ((r : Int) - 1) ∧ (∃ a cap, u = .slice a (1 + (K - r)) cap) ∧ Hid (OwnE eB wr wc.heap.size u ((encM M F).take (1 + (K - r)))) ∧ Hid (Below wc.heap.size wc wr)) (fun o _ _ => (intOf o + 1).toNat)
      case atStart => exact ⟨K, Nat.le_refl _, rfl, ⟨_, _, by rw [Nat.sub_self]⟩, Lib.hid (by rw [Nat.sub_self, H1.out]; exact HO.out), Lib.hid ((Below.refl _ _).alloc (Nat.le_refl _) _)⟩
      case round =>
        obtain ⟨r, hr, rfl, ⟨a, cap, rfl⟩, hown, hb⟩ := hrel
        clear hx1 hx2
        have HW := Lib.hid hb.out.size
        rcases (by omega : r = 0 ∨ r = 1 ∨ r = 2 ∨ r = 3 ∨ r = 4 ∨ r = 5 ∨ r = 6 ∨ r = 7 ∨ r = 8) with rfl | rfl | rfl | rfl | rfl | rfl | rfl | rfl | rfl
        · have HR : Hid (OwnE eB wr wc.heap.size (.slice a (1 + (K - 0)) cap) (encM M F)) := Lib.hid (by have h := hown.out; rw [← HKN.out, encM_full] at h; rw [← HKN.out]; exact h)
          clear hr
          go_wp2
          rw [Exit.noGoto_ret]
          go_ret
          exact ⟨_, rfl, by rw [HE.out]; exact HR.out, hb.out⟩
        · have et := encM_next M F 1 (by omega) (by rw [HKN.out]; exact hr)
          rw [HKN.out] at et
          have ev : MI % 256 = B8 (UInt8.ofNat (M / 256 ^ (1 - 1))) := by rw [b8_of]; have := HMI.out; simp; omega
          skip
          generalize hc : UInt8.ofNat (M / 256 ^ (1 - 1)) = c at et ev 
          have em : B8 c % 256 = B8 c := B8_mod c
          have ET := Lib.hid et
          have HR := Lib.hid hr
          clear et hc hr
          go_wp2_with (at_builtin; go_loud (refine app_e eB_ok rfl (.tmp 36) (.tmp 44) rfl wc.heap.size _ _ rfl (hown.out.on ((Below.refl _ _).alloc (Nat.le_refl _) _)) (.slice (some ⟨wr.heap.size, 0, none⟩) 1 1) [c ^^^ F] rfl (one_e wr (c ^^^ F) eB_ok) (by rw [List.length_take, encM_len]; have := nb_le M; simp; omega) (by have := HW.out; simp; omega) ?_); intro v5 w4 ho4 hg4 hloc; have HB4 := Lib.hid (hb.out.trans (((Below.refl wr.heap.size wr).alloc (Nat.le_refl _) (.cells #[.int .u8 (B8 (c ^^^ F))] 5)).mono HW.out |>.trans ((hown.out.on ((Below.refl _ _).alloc (Nat.le_refl _) _)).below hg4 (by have := HW.out; simp; omega)))); have HO4 := Lib.hid ho4; clear ho4 hg4 hloc)
          go_roundw
          case rel => exact ⟨0, by have := HR.out; omega, by first | rfl | go_num, HO4.out.rd.form1 (by have := HR.out; have := HKN.out; rw [List.length_append, List.length_take, encM_len]; simp; omega), Lib.hid (by have h := HO4.out; rw [← ET.out] at h; exact h), HB4⟩
          case measure => simp [intOf]
        · have et := encM_next M F 2 (by omega) (by rw [HKN.out]; exact hr)
          rw [HKN.out] at et
          have ev : MI / 256 % 256 = B8 (UInt8.ofNat (M / 256 ^ (2 - 1))) := by rw [b8_of]; have := HMI.out; simp; omega
          skip
          generalize hc : UInt8.ofNat (M / 256 ^ (2 - 1)) = c at et ev 
          have em : B8 c % 256 = B8 c := B8_mod c
          have ET := Lib.hid et
          have HR := Lib.hid hr
          clear et hc hr
          go_wp2_with (at_builtin; go_loud (refine app_e eB_ok rfl (.tmp 36) (.tmp 44) rfl wc.heap.size _ _ rfl (hown.out.on ((Below.refl _ _).alloc (Nat.le_refl _) _)) (.slice (some ⟨wr.heap.size, 0, none⟩) 1 1) [c ^^^ F] rfl (one_e wr (c ^^^ F) eB_ok) (by rw [List.length_take, encM_len]; have := nb_le M; simp; omega) (by have := HW.out; simp; omega) ?_); intro v5 w4 ho4 hg4 hloc; have HB4 := Lib.hid (hb.out.trans (((Below.refl wr.heap.size wr).alloc (Nat.le_refl _) (.cells #[.int .u8 (B8 (c ^^^ F))] 5)).mono HW.out |>.trans ((hown.out.on ((Below.refl _ _).alloc (Nat.le_refl _) _)).below hg4 (by have := HW.out; simp; omega)))); have HO4 := Lib.hid ho4; clear ho4 hg4 hloc)
          go_roundw
          case rel => exact ⟨1, by have := HR.out; omega, by first | rfl | go_num, HO4.out.rd.form1 (by have := HR.out; have := HKN.out; rw [List.length_append, List.length_take, encM_len]; simp; omega), Lib.hid (by have h := HO4.out; rw [← ET.out] at h; exact h), HB4⟩
          case measure => simp [intOf]
        · have et := encM_next M F 3 (by omega) (by rw [HKN.out]; exact hr)
          rw [HKN.out] at et
          have ev : MI / 65536 % 256 = B8 (UInt8.ofNat (M / 256 ^ (3 - 1))) := by rw [b8_of]; have := HMI.out; simp; omega
          skip
          generalize hc : UInt8.ofNat (M / 256 ^ (3 - 1)) = c at et ev 
          have em : B8 c % 256 = B8 c := B8_mod c
          have ET := Lib.hid et
          have HR := Lib.hid hr
          clear et hc hr
          go_wp2_with (at_builtin; go_loud (refine app_e eB_ok rfl (.tmp 36) (.tmp 44) rfl wc.heap.size _ _ rfl (hown.out.on ((Below.refl _ _).alloc (Nat.le_refl _) _)) (.slice (some ⟨wr.heap.size, 0, none⟩) 1 1) [c ^^^ F] rfl (one_e wr (c ^^^ F) eB_ok) (by rw [List.length_take, encM_len]; have := nb_le M; simp; omega) (by have := HW.out; simp; omega) ?_); intro v5 w4 ho4 hg4 hloc; have HB4 := Lib.hid (hb.out.trans (((Below.refl wr.heap.size wr).alloc (Nat.le_refl _) (.cells #[.int .u8 (B8 (c ^^^ F))] 5)).mono HW.out |>.trans ((hown.out.on ((Below.refl _ _).alloc (Nat.le_refl _) _)).below hg4 (by have := HW.out; simp; omega)))); have HO4 := Lib.hid ho4; clear ho4 hg4 hloc)
          go_roundw
          case rel => exact ⟨2, by have := HR.out; omega, by first | rfl | go_num, HO4.out.rd.form1 (by have := HR.out; have := HKN.out; rw [List.length_append, List.length_take, encM_len]; simp; omega), Lib.hid (by have h := HO4.out; rw [← ET.out] at h; exact h), HB4⟩
          case measure => simp [intOf]
        · have et := encM_next M F 4 (by omega) (by rw [HKN.out]; exact hr)
          rw [HKN.out] at et
          have ev : MI / 16777216 % 256 = B8 (UInt8.ofNat (M / 256 ^ (4 - 1))) := by rw [b8_of]; have := HMI.out; simp; omega
          skip
          generalize hc : UInt8.ofNat (M / 256 ^ (4 - 1)) = c at et ev 
          have em : B8 c % 256 = B8 c := B8_mod c
          have ET := Lib.hid et
          have HR := Lib.hid hr
          clear et hc hr
          go_wp2_with (at_builtin; go_loud (refine app_e eB_ok rfl (.tmp 36) (.tmp 44) rfl wc.heap.size _ _ rfl (hown.out.on ((Below.refl _ _).alloc (Nat.le_refl _) _)) (.slice (some ⟨wr.heap.size, 0, none⟩) 1 1) [c ^^^ F] rfl (one_e wr (c ^^^ F) eB_ok) (by rw [List.length_take, encM_len]; have := nb_le M; simp; omega) (by have := HW.out; simp; omega) ?_); intro v5 w4 ho4 hg4 hloc; have HB4 := Lib.hid (hb.out.trans (((Below.refl wr.heap.size wr).alloc (Nat.le_refl _) (.cells #[.int .u8 (B8 (c ^^^ F))] 5)).mono HW.out |>.trans ((hown.out.on ((Below.refl _ _).alloc (Nat.le_refl _) _)).below hg4 (by have := HW.out; simp; omega)))); have HO4 := Lib.hid ho4; clear ho4 hg4 hloc)
          go_roundw
          case rel => exact ⟨3, by have := HR.out; omega, by first | rfl | go_num, HO4.out.rd.form1 (by have := HR.out; have := HKN.out; rw [List.length_append, List.length_take, encM_len]; simp; omega), Lib.hid (by have h := HO4.out; rw [← ET.out] at h; exact h), HB4⟩
          case measure => simp [intOf]
        · have et := encM_next M F 5 (by omega) (by rw [HKN.out]; exact hr)
          rw [HKN.out] at et
          have ev : MI / 4294967296 % 256 = B8 (UInt8.ofNat (M / 256 ^ (5 - 1))) := by rw [b8_of]; have := HMI.out; simp; omega
          skip
          generalize hc : UInt8.ofNat (M / 256 ^ (5 - 1)) = c at et ev 
          have em : B8 c % 256 = B8 c := B8_mod c
          have ET := Lib.hid et
          have HR := Lib.hid hr
          clear et hc hr
          go_wp2_with (at_builtin; go_loud (refine app_e eB_ok rfl (.tmp 36) (.tmp 44) rfl wc.heap.size _ _ rfl (hown.out.on ((Below.refl _ _).alloc (Nat.le_refl _) _)) (.slice (some ⟨wr.heap.size, 0, none⟩) 1 1) [c ^^^ F] rfl (one_e wr (c ^^^ F) eB_ok) (by rw [List.length_take, encM_len]; have := nb_le M; simp; omega) (by have := HW.out; simp; omega) ?_); intro v5 w4 ho4 hg4 hloc; have HB4 := Lib.hid (hb.out.trans (((Below.refl wr.heap.size wr).alloc (Nat.le_refl _) (.cells #[.int .u8 (B8 (c ^^^ F))] 5)).mono HW.out |>.trans ((hown.out.on ((Below.refl _ _).alloc (Nat.le_refl _) _)).below hg4 (by have := HW.out; simp; omega)))); have HO4 := Lib.hid ho4; clear ho4 hg4 hloc)
          go_roundw
          case rel => exact ⟨4, by have := HR.out; omega, by first | rfl | go_num, HO4.out.rd.form1 (by have := HR.out; have := HKN.out; rw [List.length_append, List.length_take, encM_len]; simp; omega), Lib.hid (by have h := HO4.out; rw [← ET.out] at h; exact h), HB4⟩
          case measure => simp [intOf]
        · have et := encM_next M F 6 (by omega) (by rw [HKN.out]; exact hr)
          rw [HKN.out] at et
          have ev : MI / 1099511627776 % 256 = B8 (UInt8.ofNat (M / 256 ^ (6 - 1))) := by rw [b8_of]; have := HMI.out; simp; omega
          skip
          generalize hc : UInt8.ofNat (M / 256 ^ (6 - 1)) = c at et ev 
          have em : B8 c % 256 = B8 c := B8_mod c
          have ET := Lib.hid et
          have HR := Lib.hid hr
          clear et hc hr
          go_wp2_with (at_builtin; go_loud (refine app_e eB_ok rfl (.tmp 36) (.tmp 44) rfl wc.heap.size _ _ rfl (hown.out.on ((Below.refl _ _).alloc (Nat.le_refl _) _)) (.slice (some ⟨wr.heap.size, 0, none⟩) 1 1) [c ^^^ F] rfl (one_e wr (c ^^^ F) eB_ok) (by rw [List.length_take, encM_len]; have := nb_le M; simp; omega) (by have := HW.out; simp; omega) ?_); intro v5 w4 ho4 hg4 hloc; have HB4 := Lib.hid (hb.out.trans (((Below.refl wr.heap.size wr).alloc (Nat.le_refl _) (.cells #[.int .u8 (B8 (c ^^^ F))] 5)).mono HW.out |>.trans ((hown.out.on ((Below.refl _ _).alloc (Nat.le_refl _) _)).below hg4 (by have := HW.out; simp; omega)))); have HO4 := Lib.hid ho4; clear ho4 hg4 hloc)
          go_roundw
          case rel => exact ⟨5, by have := HR.out; omega, by first | rfl | go_num, HO4.out.rd.form1 (by have := HR.out; have := HKN.out; rw [List.length_append, List.length_take, encM_len]; simp; omega), Lib.hid (by have h := HO4.out; rw [← ET.out] at h; exact h), HB4⟩
          case measure => simp [intOf]
        · have et := encM_next M F 7 (by omega) (by rw [HKN.out]; exact hr)
          rw [HKN.out] at et
          have ev : MI / 281474976710656 % 256 = B8 (UInt8.ofNat (M / 256 ^ (7 - 1))) := by rw [b8_of]; have := HMI.out; simp; omega
          skip
          generalize hc : UInt8.ofNat (M / 256 ^ (7 - 1)) = c at et ev 
          have em : B8 c % 256 = B8 c := B8_mod c
          have ET := Lib.hid et
          have HR := Lib.hid hr
          clear et hc hr
          go_wp2_with (at_builtin; go_loud (refine app_e eB_ok rfl (.tmp 36) (.tmp 44) rfl wc.heap.size _ _ rfl (hown.out.on ((Below.refl _ _).alloc (Nat.le_refl _) _)) (.slice (some ⟨wr.heap.size, 0, none⟩) 1 1) [c ^^^ F] rfl (one_e wr (c ^^^ F) eB_ok) (by rw [List.length_take, encM_len]; have := nb_le M; simp; omega) (by have := HW.out; simp; omega) ?_); intro v5 w4 ho4 hg4 hloc; have HB4 := Lib.hid (hb.out.trans (((Below.refl wr.heap.size wr).alloc (Nat.le_refl _) (.cells #[.int .u8 (B8 (c ^^^ F))] 5)).mono HW.out |>.trans ((hown.out.on ((Below.refl _ _).alloc (Nat.le_refl _) _)).below hg4 (by have := HW.out; simp; omega)))); have HO4 := Lib.hid ho4; clear ho4 hg4 hloc)
          go_roundw
          case rel => exact ⟨6, by have := HR.out; omega, by first | rfl | go_num, HO4.out.rd.form1 (by have := HR.out; have := HKN.out; rw [List.length_append, List.length_take, encM_len]; simp; omega), Lib.hid (by have h := HO4.out; rw [← ET.out] at h; exact h), HB4⟩
          case measure => simp [intOf]
        · have et := encM_next M F 8 (by omega) (by rw [HKN.out]; exact hr)
          rw [HKN.out] at et
          have ev : MI / 72057594037927936 % 256 = B8 (UInt8.ofNat (M / 256 ^ (8 - 1))) := by rw [b8_of]; have := HMI.out; simp; omega
          have ev0 : MI / 72057594037927936 = B8 (UInt8.ofNat (M / 256 ^ (8 - 1))) := by rw [← ev]; omega
          generalize hc : UInt8.ofNat (M / 256 ^ (8 - 1)) = c at et ev ev0
          have em : B8 c % 256 = B8 c := B8_mod c
          have ET := Lib.hid et
          have HR := Lib.hid hr
          clear et hc hr
          go_wp2_with (at_builtin; go_loud (refine app_e eB_ok rfl (.tmp 36) (.tmp 44) rfl wc.heap.size _ _ rfl (hown.out.on ((Below.refl _ _).alloc (Nat.le_refl _) _)) (.slice (some ⟨wr.heap.size, 0, none⟩) 1 1) [c ^^^ F] rfl (one_e wr (c ^^^ F) eB_ok) (by rw [List.length_take, encM_len]; have := nb_le M; simp; omega) (by have := HW.out; simp; omega) ?_); intro v5 w4 ho4 hg4 hloc; have HB4 := Lib.hid (hb.out.trans (((Below.refl wr.heap.size wr).alloc (Nat.le_refl _) (.cells #[.int .u8 (B8 (c ^^^ F))] 5)).mono HW.out |>.trans ((hown.out.on ((Below.refl _ _).alloc (Nat.le_refl _) _)).below hg4 (by have := HW.out; simp; omega)))); have HO4 := Lib.hid ho4; clear ho4 hg4 hloc)
          go_roundw
          case rel => exact ⟨7, by have := HR.out; omega, by first | rfl | go_num, HO4.out.rd.form1 (by have := HR.out; have := HKN.out; rw [List.length_append, List.length_take, encM_len]; simp; omega), Lib.hid (by have h := HO4.out; rw [← ET.out] at h; exact h), HB4⟩
          case measure => simp [intOf]
end Go.Proofs.YtbpjdfnnlmblaaaGreatDoor
/- The program's encoding of a text. -/
namespace Go.Proofs.YtbpjdfnnlmblaaaGreatDoor
open Go.RowKit
set_option linter.unusedSimpArgs false
set_option linter.unusedVariables false
attribute [local irreducible] Calls
set_option maxRecDepth 100000 in
set_option maxHeartbeats 2000000 in
theorem bytes_c (s : List UInt8) (w : World) (hl : s.length ≤ 100000000) :
    Calls Tryz.prog 28 #[.string ⟨s.toArray⟩] w fun e w' => ∃ v', e = .returned v' ∧ OwnE eB w' w.heap.size v' (encS s) ∧ Below w.heap.size w w' := by
  have HL := Lib.hid hl
  clear hl
  go_enter Tryz.func28, Tryz.ntmps28
  go_wp2_with (first
    | (go_at_call 64; refine (int_c (s.length : Int) (by omega) (by have := HL.out; omega) _).mono ?_; rintro e w1 ⟨v1, rfl, ho1, hb1⟩; have HO1 := Lib.hid ho1; have HB1 := Lib.hid hb1; clear ho1 hb1)
    | (at_builtin; refine app_s rfl (.tmp 5) (.tmp 6) rfl w.heap.size _ (encI (s.length : Int)) rfl HO1.out s rfl (by have := HL.out; have := encI_le (s.length : Int); omega) HB1.out.size ?_; intro v2 w2 ho2 hg2; have HB2 := Lib.hid (HB1.out.trans (HO1.out.below hg2 HB1.out.size)); have HO2 := Lib.hid ho2; clear ho2 hg2))
  go_ret
  exact ⟨_, rfl, HO2.out, HB2.out⟩
end Go.Proofs.YtbpjdfnnlmblaaaGreatDoor
/- Lists of numbers and of texts are written: the walks. -/
namespace Go.Proofs.YtbpjdfnnlmblaaaGreatDoor
open Go.RowKit
set_option linter.unusedSimpArgs false
set_option linter.unusedVariables false
theorem catE_take {α : Type} (enc : α → List UInt8) (l : List α) (j : Nat) (h : j < l.length) : catE enc (l.take (j + 1)) = catE enc (l.take j) ++ enc l[j] := by
  rw [List.take_add_one, List.getElem?_eq_getElem h]
  exact catE_snoc enc l[j] (l.take j)
theorem catE_app {α : Type} (enc : α → List UInt8) (l m : List α) : catE enc (l ++ m) = catE enc l ++ catE enc m := by unfold catE; simp
theorem catE_take_le {α : Type} (enc : α → List UInt8) (l : List α) (j : Nat) : (catE enc (l.take j)).length ≤ (catE enc l).length := by
  conv => rhs; rw [← List.take_append_drop j l, catE_app, List.length_append]
  omega
theorem RdI_cells {w : World} {a : Option Addr} {n cap : Nat} {l : List Int} (h : RdE eI w (.slice a n cap) l) : 0 < l.length → ∃ b off, a = some ⟨b, off, none⟩ ∧ b < w.heap.size ∧ ∀ j (hj : j < l.length), w.cell? ⟨b, off + j, none⟩ = some (.int .i64 l[j]) := by
  obtain ⟨a', c', e, _, _, h3⟩ := h
  cases e
  intro h0
  obtain ⟨b, off, rfl, hlt, hc⟩ := h3 h0
  exact ⟨b, off, rfl, hlt, fun j hj => hc j _ (by rw [flat_int, List.getElem?_map, List.getElem?_eq_getElem hj]; rfl)⟩
theorem RdS_cells {w : World} {a : Option Addr} {n cap : Nat} {l : List (List UInt8)} (h : RdE eS w (.slice a n cap) l) : 0 < l.length → ∃ b off, a = some ⟨b, off, none⟩ ∧ b < w.heap.size ∧ ∀ j (hj : j < l.length), w.cell? ⟨b, off + j, none⟩ = some (.string ⟨l[j].toArray⟩) := by
  obtain ⟨a', c', e, _, _, h3⟩ := h
  cases e
  intro h0
  obtain ⟨b, off, rfl, hlt, hc⟩ := h3 h0
  exact ⟨b, off, rfl, hlt, fun j hj => hc j _ (by rw [flat_str, List.getElem?_map, List.getElem?_eq_getElem hj]; rfl)⟩
attribute [local irreducible] Calls encI encS
set_option maxRecDepth 100000 in
set_option maxHeartbeats 4000000 in
theorem ints_c (v : Value) (l : List Int) (w : World) (hv : RdE eI w v l) (hok : ∀ x ∈ l, okI x) (hl : (encIs l).length ≤ 900000) (hn : l.length ≤ 900000) :
    Calls Tryz.prog 41 #[v] w fun e w' => ∃ v', e = .returned v' ∧ OwnE eB w' w.heap.size v' (encIs l) ∧ Below w.heap.size w w' := by
  have HV := Lib.hid hv
  have HL := Lib.hid hl
  have HOK := Lib.hid hok
  have hni : (l.length : Int) ≤ 900000 := by omega
  have HN := Lib.hid hn
  have hE : encIs l = encI l.length ++ catE encI l := rfl
  have HE := Lib.hid hE
  obtain ⟨a, cap, rfl, _, _, _⟩ := hv
  clear hl hok hE hn
  go_enter Tryz.func41, Tryz.ntmps41
  go_wp2_with (go_at_call 64; refine (int_c (l.length : Int) (by omega) (by have := HN.out; omega) _).mono ?_; rintro e w1 ⟨v1, rfl, ho1, hb1⟩; have HO1 := Lib.hid ho1; have HB1 := Lib.hid hb1; clear ho1 hb1)
  go_loopw [11, 3] (fun i o wr => ∃ j : Nat, j ≤ l.length ∧ i = .int .i64 j ∧ Hid (OwnE eB wr w.heap.size o (encI l.length ++ catE encI (l.take j))) ∧ Hid (Below w.heap.size w wr)) (fun i _ _ => l.length - (intOf i).toNat)
  case atStart => exact ⟨0, Nat.zero_le _, rfl, Lib.hid (by rw [List.take_zero, catE_nil, List.append_nil]; exact HO1.out), HB1⟩
  case round =>
    obtain ⟨j, hj, rfl, hown, hb⟩ := hrel
    by_cases hlt : j < l.length
    · have j1 : (j : Int) < l.length := by omega
      obtain ⟨bb, off, rfl, hbl, hrow⟩ := RdI_cells (HV.out.on hb.out) (by omega)
      have cj := hrow j hlt
      have hx := HOK.out l[j] (List.getElem_mem hlt)
      have HT := Lib.hid (catE_take encI l j hlt)
      have hle : (encI (l.length : Int) ++ (catE encI (l.take j) ++ encI l[j])).length ≤ 900000 := by
        rw [← HT.out]
        have h1 := HL.out
        rw [HE.out, List.length_append] at h1
        have := catE_take_le encI l (j + 1)
        rw [List.length_append]
        omega
      generalize l[j] = x at cj hx HT hle
      have HX := Lib.hid hx
      have HLE := Lib.hid hle
      have HJ := Lib.hid hlt
      clear hrow hx hlt hle
      go_wp2_with (first
        | (go_at_call 64; refine (int_c x HX.out.1 HX.out.2 _).mono ?_; rintro e w2 ⟨v2, rfl, ho2, hb2⟩; have HO2 := Lib.hid ho2; have HB2 := Lib.hid hb2; clear ho2 hb2)
        | (at_builtin; refine app_e eB_ok rfl (.tmp 15) (.tmp 17) rfl w.heap.size _ _ rfl (hown.out.on HB2.out) _ (encI x) rfl HO2.out.rd (by have := HLE.out; rw [List.length_append, List.length_append] at this; rw [List.length_append]; omega) (Nat.le_trans hb.out.size HB2.out.size) ?_; intro v3 w3 ho3 hg3 _; have HO3 := Lib.hid ho3; have HB3 : Hid (Below w.heap.size w w3) := (Lib.hid ((hb.out.trans (HB2.out.mono hb.out.size)).grown hg3 (Nat.le_trans hb.out.size HB2.out.size) (fun k hk2 => (hown.out.lt k hk2).1))); clear ho3 hg3))
      go_roundw
      case rel => exact ⟨j + 1, HJ.out, by go_num, Lib.hid (by rw [HT.out, ← List.append_assoc]; exact HO3.out), HB3⟩
      case measure => have := HJ.out; simp [intOf]; omega
    · have he : j = l.length := by omega
      have j1 : (l.length : Int) ≤ j := by omega
      have HF : Hid (encI l.length ++ catE encI (l.take j) = encIs l) := Lib.hid (by rw [he, List.take_length]; rfl)
      clear he hlt hj
      go_wp2
      go_ret
      exact ⟨_, rfl, by rw [← HF.out]; exact hown.out, hb.out⟩
set_option maxRecDepth 100000 in
set_option maxHeartbeats 4000000 in
theorem strings_c (v : Value) (l : List (List UInt8)) (w : World) (hv : RdE eS w v l) (hl : (encSs l).length ≤ 900000) (hn : l.length ≤ 900000) :
    Calls Tryz.prog 63 #[v] w fun e w' => ∃ v', e = .returned v' ∧ OwnE eB w' w.heap.size v' (encSs l) ∧ Below w.heap.size w w' := by
  have HV := Lib.hid hv
  have HL := Lib.hid hl
  have hni : (l.length : Int) ≤ 900000 := by omega
  have HN := Lib.hid hn
  have hE : encSs l = encI l.length ++ catE encS l := rfl
  have HE := Lib.hid hE
  obtain ⟨a, cap, rfl, _, _, _⟩ := hv
  clear hl hE hn
  go_enter Tryz.func63, Tryz.ntmps63
  go_wp2_with (go_at_call 64; refine (int_c (l.length : Int) (by omega) (by have := HN.out; omega) _).mono ?_; rintro e w1 ⟨v1, rfl, ho1, hb1⟩; have HO1 := Lib.hid ho1; have HB1 := Lib.hid hb1; clear ho1 hb1)
  go_loopw [11, 3] (fun i o wr => ∃ j : Nat, j ≤ l.length ∧ i = .int .i64 j ∧ Hid (OwnE eB wr w.heap.size o (encI l.length ++ catE encS (l.take j))) ∧ Hid (Below w.heap.size w wr)) (fun i _ _ => l.length - (intOf i).toNat)
  case atStart => exact ⟨0, Nat.zero_le _, rfl, Lib.hid (by rw [List.take_zero, catE_nil, List.append_nil]; exact HO1.out), HB1⟩
  case round =>
    obtain ⟨j, hj, rfl, hown, hb⟩ := hrel
    by_cases hlt : j < l.length
    · have j1 : (j : Int) < l.length := by omega
      obtain ⟨bb, off, rfl, hbl, hrow⟩ := RdS_cells (HV.out.on hb.out) (by omega)
      have cj := hrow j hlt
      have HT := Lib.hid (catE_take encS l j hlt)
      have hle : (encI (l.length : Int) ++ (catE encS (l.take j) ++ encS l[j])).length ≤ 900000 := by
        rw [← HT.out]
        have h1 := HL.out
        rw [HE.out, List.length_append] at h1
        have := catE_take_le encS l (j + 1)
        rw [List.length_append]
        omega
      have hxl : l[j].length ≤ (encS l[j]).length := by unfold encS; rw [List.length_append]; omega
      generalize l[j] = x at cj HT hle hxl
      have HLE := Lib.hid hle
      have HXL := Lib.hid hxl
      have HJ := Lib.hid hlt
      clear hrow hlt hle hxl
      go_wp2_with (first
        | (go_at_call 28; refine (bytes_c x _ (by have h1 := HLE.out; have h2 := HXL.out; rw [List.length_append, List.length_append] at h1; omega)).mono ?_; rintro e w2 ⟨v2, rfl, ho2, hb2⟩; have HO2 := Lib.hid ho2; have HB2 := Lib.hid hb2; clear ho2 hb2)
        | (at_builtin; refine app_e eB_ok rfl (.tmp 15) (.tmp 17) rfl w.heap.size _ _ rfl (hown.out.on HB2.out) _ (encS x) rfl HO2.out.rd (by have := HLE.out; rw [List.length_append, List.length_append] at this; rw [List.length_append]; omega) (Nat.le_trans hb.out.size HB2.out.size) ?_; intro v3 w3 ho3 hg3 _; have HO3 := Lib.hid ho3; have HB3 : Hid (Below w.heap.size w w3) := (Lib.hid ((hb.out.trans (HB2.out.mono hb.out.size)).grown hg3 (Nat.le_trans hb.out.size HB2.out.size) (fun k hk2 => (hown.out.lt k hk2).1))); clear ho3 hg3))
      go_roundw
      case rel => exact ⟨j + 1, HJ.out, by go_num, Lib.hid (by rw [HT.out, ← List.append_assoc]; exact HO3.out), HB3⟩
      case measure => have := HJ.out; simp [intOf]; omega
    · have he : j = l.length := by omega
      have j1 : (l.length : Int) ≤ j := by omega
      have HF : Hid (encI l.length ++ catE encS (l.take j) = encSs l) := Lib.hid (by rw [he, List.take_length]; rfl)
      clear he hlt hj
      go_wp2
      go_ret
      exact ⟨_, rfl, by rw [← HF.out]; exact hown.out, hb.out⟩
end Go.Proofs.YtbpjdfnnlmblaaaGreatDoor
/- The specification's schedule of a block. -/
namespace Go.Proofs.YtbpjdfnnlmblaaaGreatDoor
open Go.RowKit
set_option linter.unusedSimpArgs false
set_option linter.unusedVariables false
theorem shl_or (x y : UInt32) (n : Nat) : shl (x ||| y) n = shl x n ||| shl y n := by
  apply UInt32.toBitVec_inj.1
  show (x.toBitVec ||| y.toBitVec) <<< n = x.toBitVec <<< n ||| y.toBitVec <<< n
  exact BitVec.shiftLeft_or_distrib _ _ _
theorem shl_shl (x : UInt32) (m n : Nat) : shl (shl x m) n = shl x (m + n) := by
  apply UInt32.toBitVec_inj.1
  show (x.toBitVec <<< m) <<< n = x.toBitVec <<< (m + n)
  rw [BitVec.shiftLeft_add]
theorem be4_flat (a b c d : UInt8) : be4 a b c d = shl a.toUInt32 24 ||| shl b.toUInt32 16 ||| shl c.toUInt32 8 ||| d.toUInt32 := by
  unfold be4
  simp only [shl_or, shl_shl]
attribute [local irreducible] Calls
set_option maxRecDepth 100000 in
set_option maxHeartbeats 2000000 in
theorem words_r (v : Value) (b : List UInt8) (w : World) (hv : RdE eB w v b) (hb : b.length = 64) :
    Calls Tryz.prog 119 #[v] w fun e w' => e = .returned (.agg (row (sch b 64))) ∧ Below w.heap.size w w' := by
  have HV := Lib.hid hv
  obtain ⟨a, cap, rfl, hcap, hcm, _⟩ := hv
  obtain ⟨bb, off, rfl, hbl, hrow⟩ := RdB_cells HV.out (by omega)
  rw [hb] at HV hcap ⊢
  unfold maxLen at hcm
  have HROW := Lib.hid hrow
  clear hrow
  have hz := zero_64
  go_enter Tryz.func119, Tryz.ntmps119
  go_wp2
  rw [ext_zero b]
  go_loopw [4] (fun i wr => ∃ t : Nat, t ≤ 16 ∧ i = .int .i64 t ∧ ∃ n, wr = ((w.alloc (.cells (row z64) 146)).alloc (.cells (row (ext b t)) 146)).drewN n) (fun i _ => 16 - (intOf i).toNat)
  case atStart => exact ⟨0, by omega, rfl, 0, rfl⟩
  case round =>
    obtain ⟨t, ht, rfl, n, rfl⟩ := hrel
    clear hz
    have hel := ext_len b t (by omega)
    by_cases h16 : t < 16
    · have hd : decide ((t : Int) < 16) = true := by simp; omega
      have hlt : t < 64 := by omega
      have c0 := HROW.out (4 * t) (by omega)
      have c1 := HROW.out (4 * t + 1) (by omega)
      have c2 := HROW.out (4 * t + 2) (by omega)
      have c3 := HROW.out (4 * t + 3) (by omega)
      have b0 : 4 * (t : Int) < 64 := by omega
      have b1 : 4 * (t : Int) + 1 < 64 := by omega
      have b2 : 4 * (t : Int) + 2 < 64 := by omega
      have b3 : 4 * (t : Int) + 3 < 64 := by omega
      have d0 : (0 : Int) ≤ 4 * (t : Int) := by omega
      have d1 : (0 : Int) ≤ 4 * (t : Int) + 1 := by omega
      have d2 : (0 : Int) ≤ 4 * (t : Int) + 2 := by omega
      have d3 : (0 : Int) ≤ 4 * (t : Int) + 3 := by omega
      have hcv := be4_flat (byteAt b (4 * t)) (byteAt b (4 * t + 1)) (byteAt b (4 * t + 2)) (byteAt b (4 * t + 3))
      have HCV := Lib.hid hcv
      clear hcv
      go_wp2
      first | refine tailD 35 (by kernel_rfl) (by kernel_rfl) ?_ | refine tail0 35 (by kernel_rfl) (by kernel_rfl) ?_
      simp only [List.take_succ_cons, List.take_zero, List.drop_succ_cons, List.drop_zero]
      repeat (go_big_quiet_step (fail))
      refine wpQuiet_nil ?_
      rintro _ ⟨nq, rfl⟩
      go_wp2
      go_roundw
      case rel => exact ⟨t + 1, by omega, by go_num, nq, by rw [← HCV.out, ext_next b t (by omega) _ (by rw [if_pos h16]; rfl)]⟩
      case measure => simp [intOf]; omega
    · have he : t = 16 := by omega
      subst he
      have hd : decide (((16 : Nat) : Int) < 16) = false := by decide
      clear ht h16 hel
      go_wp2
      go_loopw [5] (fun i wr => ∃ t : Nat, 16 ≤ t ∧ t ≤ 64 ∧ i = .int .i64 t ∧ ∃ n, wr = ((w.alloc (.cells (row z64) 146)).alloc (.cells (row (ext b t)) 146)).drewN n) (fun i _ => 64 - (intOf i).toNat)
      case atStart => exact ⟨16, by omega, by omega, rfl, n, rfl⟩
      case round =>
        obtain ⟨t, hlo, ht, rfl, n, rfl⟩ := hrel
        clear hd
        have hel := ext_len b t ht
        by_cases hlt : t < 64
        · have hd : decide ((t : Int) < 64) = true := by simp; omega
          have q15 : (t : Int) - 15 = ((t - 15 : Nat) : Int) := by omega
          have q2 : (t : Int) - 2 = ((t - 2 : Nat) : Int) := by omega
          have q16 : (t : Int) - 16 = ((t - 16 : Nat) : Int) := by omega
          have q7 : (t : Int) - 7 = ((t - 7 : Nat) : Int) := by omega
          have i15 : t - 15 < 64 := by omega
          have i2 : t - 2 < 64 := by omega
          have i16 : t - 16 < 64 := by omega
          have i7 : t - 7 < 64 := by omega
          have r7 : ∀ (x : UInt32) (w : World), Calls Tryz.prog 120 #[.int .u32 (W32 x), .int .i64 7] w fun e w' => e = .returned (.int .u32 (W32 (rr x 7))) ∧ ∃ n, w' = w.drewN n := fun x w => rotr_r x 7 (by omega) (by omega) w
          have r18 : ∀ (x : UInt32) (w : World), Calls Tryz.prog 120 #[.int .u32 (W32 x), .int .i64 18] w fun e w' => e = .returned (.int .u32 (W32 (rr x 18))) ∧ ∃ n, w' = w.drewN n := fun x w => rotr_r x 18 (by omega) (by omega) w
          have r17 : ∀ (x : UInt32) (w : World), Calls Tryz.prog 120 #[.int .u32 (W32 x), .int .i64 17] w fun e w' => e = .returned (.int .u32 (W32 (rr x 17))) ∧ ∃ n, w' = w.drewN n := fun x w => rotr_r x 17 (by omega) (by omega) w
          have r19 : ∀ (x : UInt32) (w : World), Calls Tryz.prog 120 #[.int .u32 (W32 x), .int .i64 19] w fun e w' => e = .returned (.int .u32 (W32 (rr x 19))) ∧ ∃ n, w' = w.drewN n := fun x w => rotr_r x 19 (by omega) (by omega) w
          have R7 := Lib.hid r7
          have R18 := Lib.hid r18
          have R17 := Lib.hid r17
          have R19 := Lib.hid r19
          clear r7 r18 r17 r19
          go_wp2
          first | refine allD (by kernel_rfl) (by kernel_rfl) ?_ | refine all0 (by kernel_rfl) (by kernel_rfl) ?_
          repeat (first
            | go_big_quiet_step ((go_at_call 120; exact Calls.quiet_of (R7.out _ _)))
            | go_big_quiet_step ((go_at_call 120; exact Calls.quiet_of (R18.out _ _))))
          refine wpQuiet_nil ?_
          rintro _ ⟨nq, rfl⟩
          go_wp2
          first | refine allD (by kernel_rfl) (by kernel_rfl) ?_ | refine all0 (by kernel_rfl) (by kernel_rfl) ?_
          repeat (first
            | go_big_quiet_step ((go_at_call 120; exact Calls.quiet_of (R17.out _ _)))
            | go_big_quiet_step ((go_at_call 120; exact Calls.quiet_of (R19.out _ _))))
          refine wpQuiet_nil ?_
          rintro _ ⟨nq, rfl⟩
          go_wp2
          first | refine tailD 15 (by kernel_rfl) (by kernel_rfl) ?_ | refine tail0 15 (by kernel_rfl) (by kernel_rfl) ?_
          simp only [List.take_succ_cons, List.take_zero, List.drop_succ_cons, List.drop_zero]
          repeat (go_big_quiet_step (fail))
          refine wpQuiet_nil ?_
          rintro _ ⟨nq, rfl⟩
          go_wp2
          go_roundw
          case rel =>
            refine ⟨t + 1, by omega, by omega, by go_num, nq, ?_⟩
            rw [← ext_next b t hlt (nextW (sch b t)) (by rw [if_neg (by omega)]), nextW_sch, ← ext_at b t (t - 16) (by omega), ← ext_at b t (t - 15) (by omega), ← ext_at b t (t - 7) (by omega), ← ext_at b t (t - 2) (by omega)]
            rfl
          case measure => simp [intOf]; omega
        · have he : t = 64 := by omega
          subst he
          go_wp2_with (first
            | (refine ld_64 rfl (.tmp 3) rfl _ rfl _ 146 (heap2_second _ _ _ _) hel ?_)
            | (refine st_64 rfl (.tmp 2) (.tmp 100) rfl _ _ rfl rfl 146 _ (heap2_first _ _ _ _) (by rw [row_size]; exact z64_len) hel ?_))
          refine bodyPost_ret (v := .agg (row _)) (res_64 rfl _ _ _ _ _ rfl (setRow_heap _ _ _ _ _ _ (heap2_first _ _ _ _)) hel) rfl ⟨by rw [ext_full], ?_⟩
          exact below_setRow (below_drewN _ (((Below.refl _ _).alloc (Nat.le_refl _) _).alloc (by simp) _)) (by omega) _
end Go.Proofs.YtbpjdfnnlmblaaaGreatDoor
/- The specification's padding. -/
namespace Go.Proofs.YtbpjdfnnlmblaaaGreatDoor
open Go.RowKit
set_option linter.unusedSimpArgs false
set_option linter.unusedVariables false
attribute [local irreducible] Calls
set_option maxRecDepth 100000 in
set_option maxHeartbeats 4000000 in
theorem padded_r (v : Value) (m : List UInt8) (w : World) (hv : RdE eB w v m) (hlen : m.length ≤ 500000) :
    Calls Tryz.prog 118 #[v] w fun e w' => ∃ v', e = .returned v' ∧ OwnE eB w' w.heap.size v' (padd m) ∧ Below w.heap.size w w' := by
  have HV := Lib.hid hv
  obtain ⟨av, capv, rfl, hcapv, hcmv, _⟩ := hv
  have HLEN := Lib.hid hlen
  have HE := Lib.hid (empty_e (E := eB) w rfl)
  have hml : (m.length : Int) ≤ 500000 := by omega
  have HB0 := Lib.hid ((Below.refl w.heap.size w).alloc (Nat.le_refl _) (.cells #[] 5))
  have HVA := Lib.hid (HV.out.alloc (.cells #[] 5))
  clear hcapv hcmv
  go_enter Tryz.func118, Tryz.ntmps118
  go_wp2_with (first
    | (at_builtin; refine app_e eB_ok rfl (.tmp 6) (.tmp 7) rfl w.heap.size _ [] rfl HE.out (.slice av m.length capv) m rfl HVA.out (by have := HLEN.out; simp; omega) (by simp) ?_; intro v1 w1 ho1 hg1 hloc1; have HB1 := Lib.hid (HB0.out.trans (HE.out.below hg1 (by simp))); have HO1 : Hid (OwnE eB w1 w.heap.size v1 m) := (Lib.hid ho1); obtain ⟨a1, c1, rfl⟩ := ho1.rd.form1 (n := m.length) (by simp); clear ho1 hg1 hloc1)
    | (at_builtin; refine app_e eB_ok rfl (.tmp 9) (.tmp 10) rfl w.heap.size _ m rfl (HO1.out.on ((Below.refl _ _).alloc (Nat.le_refl _) _)) (.slice (some ⟨w1.heap.size, 0, none⟩) 1 1) [128] rfl (one_e w1 (128 : UInt8) eB_ok) (by have := HLEN.out; simp; omega) (by have := HB1.out.size; simp; omega) ?_; intro v2 w2 ho2 hg2 hloc2; have HB2 := Lib.hid (HB1.out.trans (((Below.refl _ _).alloc (Nat.le_refl _) (.cells #[.int .u8 128] 5)).mono HB1.out.size |>.trans ((HO1.out.on ((Below.refl _ _).alloc (Nat.le_refl _) _)).below hg2 (by have := HB1.out.size; simp; omega)))); have HO2 : Hid (OwnE eB w2 w.heap.size v2 (m ++ [128])) := (Lib.hid ho2); obtain ⟨a2, c2, rfl⟩ := ho2.rd.form1 (n := m.length + 1) (by simp); clear ho2 hg2 hloc2))
  go_loopw [3] (fun o wr => ∃ j : Nat, j ≤ zpad m.length ∧ (∃ a cap, o = .slice a (m.length + 1 + j) cap) ∧ Hid (OwnE eB wr w.heap.size o (m ++ [128] ++ List.replicate j 0)) ∧ Hid (Below w.heap.size w wr)) (fun o _ => 1000000 - sliceLen o)
  case atStart => exact ⟨0, Nat.zero_le _, ⟨_, _, rfl⟩, by simpa using HO2, HB2⟩
  case round =>
    obtain ⟨j, hj, ⟨a, cap, rfl⟩, hown, hbw⟩ := hrel
    have hzl := zpad_lt m.length
    have hz1 := zpad_at m.length j hj
    have HW := Lib.hid hbw.out.size
    have jb2 : (j : Int) ≤ 63 := by omega
    by_cases hq : j = zpad m.length
    · have tq : ((m.length : Int) + 1 + (j : Int)) % 64 = 56 := by have := hz1.2 hq; omega
      have tq2 : (((m.length : Int) + 1 + (j : Int)) % 64 != 56) = false := by rw [tq]; rfl
      have HQ := Lib.hid hq
      have hmul : (8 : Int) * (m.length : Int) % 18446744073709551616 = ((8 * m.length : Nat) : Int) := by omega
      clear hz1 tq hj hq
      go_wp2
      have hown1 : Hid (OwnE eB wr w.heap.size (.slice a (m.length + 1 + j) cap) (m ++ [128] ++ List.replicate (zpad m.length) 0)) := Lib.hid (by rw [← HQ.out]; exact hown.out)
      have HPL : Hid ((m ++ [128] ++ List.replicate (zpad m.length) 0 : List UInt8).length = m.length + 1 + j) := Lib.hid (by have := HQ.out; simp; omega)
      have HP0 : Hid ((m ++ [128] ++ List.replicate (zpad m.length) 0 : List UInt8).length ≤ 600000) := Lib.hid (by have := zpad_lt m.length; have := HLEN.out; simp; omega)
      have HPD : Hid ((m ++ [128] ++ List.replicate (zpad m.length) 0) ++ be8 (8 * m.length) = padd m) := Lib.hid (by unfold padd; simp only [List.append_assoc])
      generalize (m ++ [128] ++ List.replicate (zpad m.length) 0 : List UInt8) = P0 at hown1 HP0 HPL HPD
      have hn0 : 0 ≤ 8 * (m.length : Int) := by omega
      have hn1 : 8 * (m.length : Int) < 18446744073709551616 := by omega
      clear hml hlen hmul
      generalize hNI : 8 * (m.length : Int) = NI at hn0 hn1 ⊢
      have HNI : Hid (NI = 8 * (m.length : Int)) := Lib.hid hNI.symm
      clear hNI
      go_loopw [5, 3] (fun o u wr => ∃ i : Nat, i ≤ 8 ∧ o = .int .i64 i ∧ (∃ a cap, u = .slice a (m.length + 1 + j + i) cap) ∧ Hid (OwnE eB wr w.heap.size u (P0 ++ (be8 (8 * m.length)).take i)) ∧ Hid (Below w.heap.size w wr)) (fun o _ _ => 8 - (intOf o).toNat)
      case atStart => exact ⟨0, by omega, rfl, ⟨_, _, rfl⟩, by simpa using hown1, hbw⟩
      case round =>
        obtain ⟨i, hi, rfl, ⟨a2, cap2, rfl⟩, hown2, hbw2⟩ := hrel
        have HW3 := Lib.hid hbw2.out.size
        rcases (by omega : i = 0 ∨ i = 1 ∨ i = 2 ∨ i = 3 ∨ i = 4 ∨ i = 5 ∨ i = 6 ∨ i = 7 ∨ i = 8) with rfl | rfl | rfl | rfl | rfl | rfl | rfl | rfl | rfl
        · have et : (be8 (8 * m.length)).take (0 + 1) = (be8 (8 * m.length)).take 0 ++ [UInt8.ofNat (8 * m.length / 2 ^ 56)] := rfl
          have ev : NI / 72057594037927936 % 256 = B8 (UInt8.ofNat (8 * m.length / 2 ^ 56)) := by rw [b8_of, HNI.out]; omega
          have ev0 : NI / 72057594037927936 = B8 (UInt8.ofNat (8 * m.length / 2 ^ 56)) := by rw [← ev]; omega
          generalize hc : UInt8.ofNat (8 * m.length / 2 ^ 56) = c at et ev ev0
          have em : B8 c % 256 = B8 c := B8_mod c
          have ET := Lib.hid et
          clear et hc
          go_wp2_with (at_builtin; go_loud (refine app_e eB_ok rfl (.tmp 27) (.tmp 34) rfl w.heap.size _ _ rfl (hown2.out.on ((Below.refl _ _).alloc (Nat.le_refl _) _)) (.slice (some ⟨wr.heap.size, 0, none⟩) 1 1) [c] rfl (one_e wr c eB_ok) (by have := HP0.out; simp; omega) (by have := HW3.out; simp; omega) ?_); intro v5 w4 ho4 hg4 hloc; have HB4 := Lib.hid (hbw2.out.trans (((Below.refl wr.heap.size wr).alloc (Nat.le_refl _) (.cells #[.int .u8 (B8 c)] 5)).mono HW3.out |>.trans ((hown2.out.on ((Below.refl _ _).alloc (Nat.le_refl _) _)).below hg4 (by have := HW3.out; simp; omega)))); have HO4 := Lib.hid ho4; clear ho4 hg4 hloc)
          go_roundw
          case rel => exact ⟨1, by decide, by go_num, HO4.out.rd.form1 (by have := HP0.out; have := HPL.out; simp [be8]; omega), Lib.hid (by have h := HO4.out; rw [List.append_assoc, ← ET.out] at h; exact h), HB4⟩
          case measure => simp [intOf]
        · have et : (be8 (8 * m.length)).take (1 + 1) = (be8 (8 * m.length)).take 1 ++ [UInt8.ofNat (8 * m.length / 2 ^ 48)] := rfl
          have ev : NI / 281474976710656 % 256 = B8 (UInt8.ofNat (8 * m.length / 2 ^ 48)) := by rw [b8_of, HNI.out]; omega
          skip
          generalize hc : UInt8.ofNat (8 * m.length / 2 ^ 48) = c at et ev 
          have em : B8 c % 256 = B8 c := B8_mod c
          have ET := Lib.hid et
          clear et hc
          go_wp2_with (at_builtin; go_loud (refine app_e eB_ok rfl (.tmp 27) (.tmp 34) rfl w.heap.size _ _ rfl (hown2.out.on ((Below.refl _ _).alloc (Nat.le_refl _) _)) (.slice (some ⟨wr.heap.size, 0, none⟩) 1 1) [c] rfl (one_e wr c eB_ok) (by have := HP0.out; simp; omega) (by have := HW3.out; simp; omega) ?_); intro v5 w4 ho4 hg4 hloc; have HB4 := Lib.hid (hbw2.out.trans (((Below.refl wr.heap.size wr).alloc (Nat.le_refl _) (.cells #[.int .u8 (B8 c)] 5)).mono HW3.out |>.trans ((hown2.out.on ((Below.refl _ _).alloc (Nat.le_refl _) _)).below hg4 (by have := HW3.out; simp; omega)))); have HO4 := Lib.hid ho4; clear ho4 hg4 hloc)
          go_roundw
          case rel => exact ⟨2, by decide, by go_num, HO4.out.rd.form1 (by have := HP0.out; have := HPL.out; simp [be8]; omega), Lib.hid (by have h := HO4.out; rw [List.append_assoc, ← ET.out] at h; exact h), HB4⟩
          case measure => simp [intOf]
        · have et : (be8 (8 * m.length)).take (2 + 1) = (be8 (8 * m.length)).take 2 ++ [UInt8.ofNat (8 * m.length / 2 ^ 40)] := rfl
          have ev : NI / 1099511627776 % 256 = B8 (UInt8.ofNat (8 * m.length / 2 ^ 40)) := by rw [b8_of, HNI.out]; omega
          skip
          generalize hc : UInt8.ofNat (8 * m.length / 2 ^ 40) = c at et ev 
          have em : B8 c % 256 = B8 c := B8_mod c
          have ET := Lib.hid et
          clear et hc
          go_wp2_with (at_builtin; go_loud (refine app_e eB_ok rfl (.tmp 27) (.tmp 34) rfl w.heap.size _ _ rfl (hown2.out.on ((Below.refl _ _).alloc (Nat.le_refl _) _)) (.slice (some ⟨wr.heap.size, 0, none⟩) 1 1) [c] rfl (one_e wr c eB_ok) (by have := HP0.out; simp; omega) (by have := HW3.out; simp; omega) ?_); intro v5 w4 ho4 hg4 hloc; have HB4 := Lib.hid (hbw2.out.trans (((Below.refl wr.heap.size wr).alloc (Nat.le_refl _) (.cells #[.int .u8 (B8 c)] 5)).mono HW3.out |>.trans ((hown2.out.on ((Below.refl _ _).alloc (Nat.le_refl _) _)).below hg4 (by have := HW3.out; simp; omega)))); have HO4 := Lib.hid ho4; clear ho4 hg4 hloc)
          go_roundw
          case rel => exact ⟨3, by decide, by go_num, HO4.out.rd.form1 (by have := HP0.out; have := HPL.out; simp [be8]; omega), Lib.hid (by have h := HO4.out; rw [List.append_assoc, ← ET.out] at h; exact h), HB4⟩
          case measure => simp [intOf]
        · have et : (be8 (8 * m.length)).take (3 + 1) = (be8 (8 * m.length)).take 3 ++ [UInt8.ofNat (8 * m.length / 2 ^ 32)] := rfl
          have ev : NI / 4294967296 % 256 = B8 (UInt8.ofNat (8 * m.length / 2 ^ 32)) := by rw [b8_of, HNI.out]; omega
          skip
          generalize hc : UInt8.ofNat (8 * m.length / 2 ^ 32) = c at et ev 
          have em : B8 c % 256 = B8 c := B8_mod c
          have ET := Lib.hid et
          clear et hc
          go_wp2_with (at_builtin; go_loud (refine app_e eB_ok rfl (.tmp 27) (.tmp 34) rfl w.heap.size _ _ rfl (hown2.out.on ((Below.refl _ _).alloc (Nat.le_refl _) _)) (.slice (some ⟨wr.heap.size, 0, none⟩) 1 1) [c] rfl (one_e wr c eB_ok) (by have := HP0.out; simp; omega) (by have := HW3.out; simp; omega) ?_); intro v5 w4 ho4 hg4 hloc; have HB4 := Lib.hid (hbw2.out.trans (((Below.refl wr.heap.size wr).alloc (Nat.le_refl _) (.cells #[.int .u8 (B8 c)] 5)).mono HW3.out |>.trans ((hown2.out.on ((Below.refl _ _).alloc (Nat.le_refl _) _)).below hg4 (by have := HW3.out; simp; omega)))); have HO4 := Lib.hid ho4; clear ho4 hg4 hloc)
          go_roundw
          case rel => exact ⟨4, by decide, by go_num, HO4.out.rd.form1 (by have := HP0.out; have := HPL.out; simp [be8]; omega), Lib.hid (by have h := HO4.out; rw [List.append_assoc, ← ET.out] at h; exact h), HB4⟩
          case measure => simp [intOf]
        · have et : (be8 (8 * m.length)).take (4 + 1) = (be8 (8 * m.length)).take 4 ++ [UInt8.ofNat (8 * m.length / 2 ^ 24)] := rfl
          have ev : NI / 16777216 % 256 = B8 (UInt8.ofNat (8 * m.length / 2 ^ 24)) := by rw [b8_of, HNI.out]; omega
          skip
          generalize hc : UInt8.ofNat (8 * m.length / 2 ^ 24) = c at et ev 
          have em : B8 c % 256 = B8 c := B8_mod c
          have ET := Lib.hid et
          clear et hc
          go_wp2_with (at_builtin; go_loud (refine app_e eB_ok rfl (.tmp 27) (.tmp 34) rfl w.heap.size _ _ rfl (hown2.out.on ((Below.refl _ _).alloc (Nat.le_refl _) _)) (.slice (some ⟨wr.heap.size, 0, none⟩) 1 1) [c] rfl (one_e wr c eB_ok) (by have := HP0.out; simp; omega) (by have := HW3.out; simp; omega) ?_); intro v5 w4 ho4 hg4 hloc; have HB4 := Lib.hid (hbw2.out.trans (((Below.refl wr.heap.size wr).alloc (Nat.le_refl _) (.cells #[.int .u8 (B8 c)] 5)).mono HW3.out |>.trans ((hown2.out.on ((Below.refl _ _).alloc (Nat.le_refl _) _)).below hg4 (by have := HW3.out; simp; omega)))); have HO4 := Lib.hid ho4; clear ho4 hg4 hloc)
          go_roundw
          case rel => exact ⟨5, by decide, by go_num, HO4.out.rd.form1 (by have := HP0.out; have := HPL.out; simp [be8]; omega), Lib.hid (by have h := HO4.out; rw [List.append_assoc, ← ET.out] at h; exact h), HB4⟩
          case measure => simp [intOf]
        · have et : (be8 (8 * m.length)).take (5 + 1) = (be8 (8 * m.length)).take 5 ++ [UInt8.ofNat (8 * m.length / 2 ^ 16)] := rfl
          have ev : NI / 65536 % 256 = B8 (UInt8.ofNat (8 * m.length / 2 ^ 16)) := by rw [b8_of, HNI.out]; omega
          skip
          generalize hc : UInt8.ofNat (8 * m.length / 2 ^ 16) = c at et ev 
          have em : B8 c % 256 = B8 c := B8_mod c
          have ET := Lib.hid et
          clear et hc
          go_wp2_with (at_builtin; go_loud (refine app_e eB_ok rfl (.tmp 27) (.tmp 34) rfl w.heap.size _ _ rfl (hown2.out.on ((Below.refl _ _).alloc (Nat.le_refl _) _)) (.slice (some ⟨wr.heap.size, 0, none⟩) 1 1) [c] rfl (one_e wr c eB_ok) (by have := HP0.out; simp; omega) (by have := HW3.out; simp; omega) ?_); intro v5 w4 ho4 hg4 hloc; have HB4 := Lib.hid (hbw2.out.trans (((Below.refl wr.heap.size wr).alloc (Nat.le_refl _) (.cells #[.int .u8 (B8 c)] 5)).mono HW3.out |>.trans ((hown2.out.on ((Below.refl _ _).alloc (Nat.le_refl _) _)).below hg4 (by have := HW3.out; simp; omega)))); have HO4 := Lib.hid ho4; clear ho4 hg4 hloc)
          go_roundw
          case rel => exact ⟨6, by decide, by go_num, HO4.out.rd.form1 (by have := HP0.out; have := HPL.out; simp [be8]; omega), Lib.hid (by have h := HO4.out; rw [List.append_assoc, ← ET.out] at h; exact h), HB4⟩
          case measure => simp [intOf]
        · have et : (be8 (8 * m.length)).take (6 + 1) = (be8 (8 * m.length)).take 6 ++ [UInt8.ofNat (8 * m.length / 2 ^ 8)] := rfl
          have ev : NI / 256 % 256 = B8 (UInt8.ofNat (8 * m.length / 2 ^ 8)) := by rw [b8_of, HNI.out]; omega
          skip
          generalize hc : UInt8.ofNat (8 * m.length / 2 ^ 8) = c at et ev 
          have em : B8 c % 256 = B8 c := B8_mod c
          have ET := Lib.hid et
          clear et hc
          go_wp2_with (at_builtin; go_loud (refine app_e eB_ok rfl (.tmp 27) (.tmp 34) rfl w.heap.size _ _ rfl (hown2.out.on ((Below.refl _ _).alloc (Nat.le_refl _) _)) (.slice (some ⟨wr.heap.size, 0, none⟩) 1 1) [c] rfl (one_e wr c eB_ok) (by have := HP0.out; simp; omega) (by have := HW3.out; simp; omega) ?_); intro v5 w4 ho4 hg4 hloc; have HB4 := Lib.hid (hbw2.out.trans (((Below.refl wr.heap.size wr).alloc (Nat.le_refl _) (.cells #[.int .u8 (B8 c)] 5)).mono HW3.out |>.trans ((hown2.out.on ((Below.refl _ _).alloc (Nat.le_refl _) _)).below hg4 (by have := HW3.out; simp; omega)))); have HO4 := Lib.hid ho4; clear ho4 hg4 hloc)
          go_roundw
          case rel => exact ⟨7, by decide, by go_num, HO4.out.rd.form1 (by have := HP0.out; have := HPL.out; simp [be8]; omega), Lib.hid (by have h := HO4.out; rw [List.append_assoc, ← ET.out] at h; exact h), HB4⟩
          case measure => simp [intOf]
        · have et : (be8 (8 * m.length)).take (7 + 1) = (be8 (8 * m.length)).take 7 ++ [UInt8.ofNat (8 * m.length / 2 ^ 0)] := rfl
          have ev : NI % 256 = B8 (UInt8.ofNat (8 * m.length / 2 ^ 0)) := by rw [b8_of, HNI.out]; omega
          skip
          generalize hc : UInt8.ofNat (8 * m.length / 2 ^ 0) = c at et ev 
          have em : B8 c % 256 = B8 c := B8_mod c
          have ET := Lib.hid et
          clear et hc
          go_wp2_with (at_builtin; go_loud (refine app_e eB_ok rfl (.tmp 27) (.tmp 34) rfl w.heap.size _ _ rfl (hown2.out.on ((Below.refl _ _).alloc (Nat.le_refl _) _)) (.slice (some ⟨wr.heap.size, 0, none⟩) 1 1) [c] rfl (one_e wr c eB_ok) (by have := HP0.out; simp; omega) (by have := HW3.out; simp; omega) ?_); intro v5 w4 ho4 hg4 hloc; have HB4 := Lib.hid (hbw2.out.trans (((Below.refl wr.heap.size wr).alloc (Nat.le_refl _) (.cells #[.int .u8 (B8 c)] 5)).mono HW3.out |>.trans ((hown2.out.on ((Below.refl _ _).alloc (Nat.le_refl _) _)).below hg4 (by have := HW3.out; simp; omega)))); have HO4 := Lib.hid ho4; clear ho4 hg4 hloc)
          go_roundw
          case rel => exact ⟨8, by decide, by go_num, HO4.out.rd.form1 (by have := HP0.out; have := HPL.out; simp [be8]; omega), Lib.hid (by have h := HO4.out; rw [List.append_assoc, ← ET.out] at h; exact h), HB4⟩
          case measure => simp [intOf]
        · have HR : Hid (OwnE eB wr w.heap.size (.slice a2 (m.length + 1 + j + 8) cap2) (padd m)) := Lib.hid (by rw [← HPD.out]; exact hown2.out)
          go_wp2
          go_ret
          exact ⟨_, rfl, HR.out, hbw2.out⟩
    · have tq : ¬ ((m.length : Int) + 1 + (j : Int)) % 64 = 56 := by intro h; exact hq (hz1.1 (by omega))
      have tq2 : (((m.length : Int) + 1 + (j : Int)) % 64 != 56) = true := by simpa using tq
      have HJ : Hid (j + 1 ≤ zpad m.length) := Lib.hid (by omega)
      clear hz1 hq tq hj
      go_wp2_with (at_builtin; (refine app_e eB_ok rfl (.tmp 16) (.tmp 17) rfl w.heap.size (.slice a (m.length + 1 + j) cap) (m ++ [128] ++ List.replicate j 0) rfl (hown.out.on ((Below.refl _ _).alloc (Nat.le_refl _) _)) (.slice (some ⟨wr.heap.size, 0, none⟩) 1 1) [0] rfl (one_e wr (0 : UInt8) eB_ok) (by simp; have := zpad_lt m.length; have := HJ.out; have := HLEN.out; omega) (by have := HW.out; simp; omega) ?_); intro v5 w4 ho4 hg4 hloc; have HB4 := Lib.hid (hbw.out.trans (((Below.refl wr.heap.size wr).alloc (Nat.le_refl _) (.cells #[.int .u8 0] 5)).mono HW.out |>.trans ((hown.out.on ((Below.refl _ _).alloc (Nat.le_refl _) _)).below hg4 (by have := HW.out; simp; omega)))); have HO4 := Lib.hid ho4; clear ho4 hg4 hloc)
      go_roundw
      case rel => exact ⟨j + 1, HJ.out, HO4.out.rd.form1 (by simp; omega), Lib.hid (by have h := HO4.out; rw [List.append_assoc, ← List.replicate_succ'] at h; exact h), HB4⟩
      case measure =>
        obtain ⟨a5, c5, e5⟩ := HO4.out.rd.form1 (n := m.length + 1 + j + 1) (by simp; omega)
        have := HJ.out
        have := zpad_lt m.length
        have := HLEN.out
        show 1000000 - sliceLen v5 < 1000000 - sliceLen (.slice a (m.length + 1 + j) cap)
        rw [e5]
        simp only [sliceLen]
        omega
end Go.Proofs.YtbpjdfnnlmblaaaGreatDoor
