/- Parts of a proof, joined: contracts of functions of the program and plain lemmas (WireA, WireB, WireL, BakA, CipB, CipC, CipD, CipE, CipF, Shelf). No condition. -/
import Derived.Test.YtbpjdfnnlmblaaaDoorMA06
import Derived.Deep.CutBlock
import Derived.WalkMore
import Derived.Lib.Zigzag
import Derived.Lib.AppendZeros
import Derived.Laws.CopyOwn
import Derived.Lib.ConvBytes
import Derived.Shelf.Strings.Builder1
import Derived.Shelf.Strings.Builder2
import Derived.Shelf.Strings.OnBuilder
import Derived.Shelf.Strings.BuilderF
import Derived.Shelf.Strings.Prefix
import Derived.Shelf.Bits.Mul64
import Derived.Shelf.Strings.Repeat
import Derived.Test.YtbpjdfnnlmblaaaDoorProg
/- The program's encoding of a number. -/
namespace Go.Proofs.YtbpjdfnnlmblaaaDoor
open Go.RowKit
set_option linter.unusedSimpArgs false
set_option linter.unusedVariables false
theorem b8_xor (m : Nat) (f : UInt8) : bits .xor .u8 ((m : Int) % 256) (B8 f) = B8 (UInt8.ofNat m ^^^ f) := by
  rw [← u8_xor_u8, b8_of]
theorem u64_flip (n : Int) (M : Nat) (h0 : n < 0) (h1 : -9223372036854775808 ≤ n) (hm : -1 - n = (M : Int)) : bits .xor .u64 IntKind.u64.max (IntKind.u64.wrap n) = (M : Int) := by
  have e1 : IntKind.u64.wrap n = (((n + 18446744073709551616).toNat : Nat) : Int) := by
    rw [IntKind.wrap_u64]
    omega
  have e2 : IntKind.u64.max = ((2 ^ 64 - 1 : Nat) : Int) := by decide
  rw [e1, e2, bits_xor_u64_nat _ _ (by decide) (by omega), Lib.xor_ones64 _ (by omega)]
  omega
theorem one_own (w : World) (c : UInt8) : OwnE eB (w.alloc (.cells #[.int .u8 (B8 c)] 5)) w.heap.size (.slice (some ⟨w.heap.size, 0, none⟩) 1 1) [c] := own_b1 c (Nat.le_refl _)
attribute [local irreducible] Calls
set_option maxRecDepth 100000 in
set_option maxHeartbeats 4000000 in
theorem int_c (n : Int) (hlo : -9223372036854775808 ≤ n) (hhi : n < 9223372036854775808) (w : World) :
    Calls Tryd.prog 62 #[.int .i64 n] w fun e w' => ∃ v', e = .returned v' ∧ OwnE eB w' w.heap.size v' (encI n) ∧ Below w.heap.size w w' := by
  obtain ⟨M, F, hM, hE, hs⟩ : ∃ (M : Nat) (F : UInt8), M < 18446744073709551616 ∧ encI n = encM M F ∧ ((0 ≤ n ∧ n = M ∧ F = 0) ∨ (n < 0 ∧ (-1 - n) = M ∧ F = 255)) := by
    by_cases h : 0 ≤ n
    · exact ⟨n.toNat, 0, by omega, by unfold encI; rw [if_pos h], .inl ⟨h, by omega, rfl⟩⟩
    · exact ⟨(-1 - n).toNat, 255, by omega, by unfold encI; rw [if_neg h], .inr ⟨by omega, by omega, rfl⟩⟩
  have HE := Lib.hid hE
  have HM := Lib.hid hM
  have HLO := Lib.hid hlo
  obtain ⟨MI, hMI⟩ : ∃ MI : Int, MI = (M : Int) := ⟨_, rfl⟩
  have HMI := Lib.hid hMI
  go_enter Tryd.func62, Tryd.ntmps62
  go_wp2
  go_step3
  go_upto_if 11 with fail
  go_cut [3, 4, 11] from 12 to 13 (fun m f _ wc => m = .int .u64 MI ∧ f = .int .u8 (B8 F) ∧ wc = w)
  case first =>
    clear hMI
    rcases hs with ⟨h0, h1, rfl⟩ | ⟨h0, h1, rfl⟩
    · have e1 : n % 18446744073709551616 = (M : Int) := by omega
      have i1 : ¬ n < 0 := by omega
      have H1 := Lib.hid h1
      clear h1
      go_wp2
      all_goals go_meet
      case rel => exact ⟨by rw [IntKind.wrap_u64, e1, HMI.out], rfl, rfl⟩
    · have e1 : 18446744073709551615 - n % 18446744073709551616 = (M : Int) := by omega
      have H1 := Lib.hid h1
      clear h1
      go_wp2
      all_goals go_meet
      case rel => exact ⟨by rw [u64_flip n M h0 HLO.out H1.out, HMI.out], rfl, rfl⟩
  case rest =>
    obtain ⟨rfl, rfl, hw⟩ := hcut
    rw [hw]
    clear hw
    clear hs hlo hhi
    have mi : MI < 18446744073709551616 := by omega
    have m0 : (0 : Int) ≤ MI := by omega
    clear hE hM hMI
    go_wp2
    go_step3
    go_upto_block 0 with fail
    go_cut [5] from 14 to 23 (fun o wc => o = .int .i64 (nb M : Int) ∧ wc = w)
    case first =>
      go_wp2_with fail
      go_loopw [5] (fun o wr => ∃ k : Nat, k ≤ 8 ∧ o = .int .i64 k ∧ Hid (M < 256 ^ k) ∧ wr = w) (fun o _ => (intOf o).toNat)
      case atStart => exact ⟨8, by omega, rfl, Lib.hid (by have := HM.out; simpa using this), rfl⟩
      case round =>
        obtain ⟨k, hk, rfl, hlt, rfl⟩ := hrel
        rcases (by omega : k = 0 ∨ k = 1 ∨ k = 2 ∨ k = 3 ∨ k = 4 ∨ k = 5 ∨ k = 6 ∨ k = 7 ∨ k = 8) with rfl | rfl | rfl | rfl | rfl | rfl | rfl | rfl | rfl
        · have hk0 : nb M = 0 := nb_is M 0 (by omega) hlt.out (.inl rfl)
          have HK0 := Lib.hid hk0
          clear hk0
          go_wp2
          all_goals go_meet
          case rel => exact ⟨by rw [HK0.out], rfl⟩
        · by_cases hq : 1 ≤ M
          · have i1 : 0 < MI := by have := HMI.out; omega
            have HK : Hid (nb M = 1) := Lib.hid (nb_is M 1 (by omega) hlt.out (.inr (by simpa using hq)))
            clear hq
            go_wp2
            all_goals go_meet
            case rel => exact ⟨by rw [HK.out], rfl⟩
          · have i1 : ¬ 0 < MI := by have := HMI.out; omega
            have HK : Hid (M < 256 ^ 0) := Lib.hid (by simp; omega)
            clear hq
            go_wp2
            go_roundw
            case rel => exact ⟨0, by decide, by go_num, HK, by first | exact rfl | exact trivial⟩
            case measure => simp [intOf]
        · by_cases hq : 256 ≤ M
          · have i1 : 0 < MI / 256 := by have := HMI.out; omega
            have HK : Hid (nb M = 2) := Lib.hid (nb_is M 2 (by omega) hlt.out (.inr (by simpa using hq)))
            clear hq
            go_wp2
            all_goals go_meet
            case rel => exact ⟨by rw [HK.out], rfl⟩
          · have i1 : ¬ 0 < MI / 256 := by have := HMI.out; omega
            have HK : Hid (M < 256 ^ 1) := Lib.hid (by simp; omega)
            clear hq
            go_wp2
            go_roundw
            case rel => exact ⟨1, by decide, by go_num, HK, by first | exact rfl | exact trivial⟩
            case measure => simp [intOf]
        · by_cases hq : 65536 ≤ M
          · have i1 : 0 < MI / 65536 := by have := HMI.out; omega
            have HK : Hid (nb M = 3) := Lib.hid (nb_is M 3 (by omega) hlt.out (.inr (by simpa using hq)))
            clear hq
            go_wp2
            all_goals go_meet
            case rel => exact ⟨by rw [HK.out], rfl⟩
          · have i1 : ¬ 0 < MI / 65536 := by have := HMI.out; omega
            have HK : Hid (M < 256 ^ 2) := Lib.hid (by simp; omega)
            clear hq
            go_wp2
            go_roundw
            case rel => exact ⟨2, by decide, by go_num, HK, by first | exact rfl | exact trivial⟩
            case measure => simp [intOf]
        · by_cases hq : 16777216 ≤ M
          · have i1 : 0 < MI / 16777216 := by have := HMI.out; omega
            have HK : Hid (nb M = 4) := Lib.hid (nb_is M 4 (by omega) hlt.out (.inr (by simpa using hq)))
            clear hq
            go_wp2
            all_goals go_meet
            case rel => exact ⟨by rw [HK.out], rfl⟩
          · have i1 : ¬ 0 < MI / 16777216 := by have := HMI.out; omega
            have HK : Hid (M < 256 ^ 3) := Lib.hid (by simp; omega)
            clear hq
            go_wp2
            go_roundw
            case rel => exact ⟨3, by decide, by go_num, HK, by first | exact rfl | exact trivial⟩
            case measure => simp [intOf]
        · by_cases hq : 4294967296 ≤ M
          · have i1 : 0 < MI / 4294967296 := by have := HMI.out; omega
            have HK : Hid (nb M = 5) := Lib.hid (nb_is M 5 (by omega) hlt.out (.inr (by simpa using hq)))
            clear hq
            go_wp2
            all_goals go_meet
            case rel => exact ⟨by rw [HK.out], rfl⟩
          · have i1 : ¬ 0 < MI / 4294967296 := by have := HMI.out; omega
            have HK : Hid (M < 256 ^ 4) := Lib.hid (by simp; omega)
            clear hq
            go_wp2
            go_roundw
            case rel => exact ⟨4, by decide, by go_num, HK, by first | exact rfl | exact trivial⟩
            case measure => simp [intOf]
        · by_cases hq : 1099511627776 ≤ M
          · have i1 : 0 < MI / 1099511627776 := by have := HMI.out; omega
            have HK : Hid (nb M = 6) := Lib.hid (nb_is M 6 (by omega) hlt.out (.inr (by simpa using hq)))
            clear hq
            go_wp2
            all_goals go_meet
            case rel => exact ⟨by rw [HK.out], rfl⟩
          · have i1 : ¬ 0 < MI / 1099511627776 := by have := HMI.out; omega
            have HK : Hid (M < 256 ^ 5) := Lib.hid (by simp; omega)
            clear hq
            go_wp2
            go_roundw
            case rel => exact ⟨5, by decide, by go_num, HK, by first | exact rfl | exact trivial⟩
            case measure => simp [intOf]
        · by_cases hq : 281474976710656 ≤ M
          · have i1 : 0 < MI / 281474976710656 := by have := HMI.out; omega
            have HK : Hid (nb M = 7) := Lib.hid (nb_is M 7 (by omega) hlt.out (.inr (by simpa using hq)))
            clear hq
            go_wp2
            all_goals go_meet
            case rel => exact ⟨by rw [HK.out], rfl⟩
          · have i1 : ¬ 0 < MI / 281474976710656 := by have := HMI.out; omega
            have HK : Hid (M < 256 ^ 6) := Lib.hid (by simp; omega)
            clear hq
            go_wp2
            go_roundw
            case rel => exact ⟨6, by decide, by go_num, HK, by first | exact rfl | exact trivial⟩
            case measure => simp [intOf]
        · by_cases hq : 72057594037927936 ≤ M
          · have i1 : 0 < MI / 72057594037927936 := by have := HMI.out; omega
            have HK : Hid (nb M = 8) := Lib.hid (nb_is M 8 (by omega) hlt.out (.inr (by simpa using hq)))
            clear hq
            go_wp2
            all_goals go_meet
            case rel => exact ⟨by rw [HK.out], rfl⟩
          · have i1 : ¬ 0 < MI / 72057594037927936 := by have := HMI.out; omega
            have HK : Hid (M < 256 ^ 7) := Lib.hid (by simp; omega)
            clear hq
            go_wp2
            go_roundw
            case rel => exact ⟨7, by decide, by go_num, HK, by first | exact rfl | exact trivial⟩
            case measure => simp [intOf]
    case rest =>
      obtain ⟨rfl, rfl⟩ := hcut
      have hk8 := nb_le M
      have hx0 := b8_xor (128 + nb M) F
      rw [Int.natCast_add] at hx0
      have h1 := encM_one M F
      generalize hkn : nb M = K at hk8 hx0 h1 ⊢
      have HKN := Lib.hid hkn
      clear hkn
      have hx1 : bits .xor .u8 (128 + (K : Int)) (B8 F) = B8 (UInt8.ofNat (128 + K) ^^^ F) := by
        have e : (((128 : Nat) : Int) + (K : Int)) % 256 = 128 + (K : Int) := by omega
        rw [e] at hx0
        exact hx0
      generalize UInt8.ofNat (128 + K) ^^^ F = c0 at hx0 hx1 h1
      have hx2 : bits .xor .u8 ((128 + (K : Int)) % 256) (B8 F) = B8 c0 := by
        have e : (128 + (K : Int)) % 256 = 128 + (K : Int) := by omega
        rw [e]; exact hx1
      have H1 := Lib.hid h1
      have hki : (K : Int) ≤ 8 := by omega
      clear hx0 h1
      have HO : Hid (OwnE eB (wc.alloc (.cells #[.int .u8 (B8 c0)] 5)) wc.heap.size (.slice (some ⟨wc.heap.size, 0, none⟩) 1 1) [c0]) := Lib.hid (one_own wc c0)
      go_wp2
      go_loopw [7, 6] (fun o u wr => ∃ r : Nat, r ≤ K ∧ o = .int .i64 ((r : Int) - 1) ∧ (∃ a cap, u = .slice a (1 + (K - r)) cap) ∧ Hid (OwnE eB wr wc.heap.size u ((encM M F).take (1 + (K - r)))) ∧ Hid (Below wc.heap.size wc wr)) (fun o _ _ => (intOf o + 1).toNat)
      case atStart => exact ⟨K, Nat.le_refl _, rfl, ⟨_, _, by rw [Nat.sub_self]⟩, Lib.hid (by rw [Nat.sub_self, H1.out]; exact HO.out), Lib.hid ((Below.refl _ _).alloc (Nat.le_refl _) _)⟩
      case round =>
        obtain ⟨r, hr, rfl, ⟨a, cap, rfl⟩, hown, hb⟩ := hrel
        clear hx1 hx2
        have HW := Lib.hid hb.out.size
        rcases (by omega : r = 0 ∨ r = 1 ∨ r = 2 ∨ r = 3 ∨ r = 4 ∨ r = 5 ∨ r = 6 ∨ r = 7 ∨ r = 8) with rfl | rfl | rfl | rfl | rfl | rfl | rfl | rfl | rfl
        · have HR : Hid (OwnE eB wr wc.heap.size (.slice a (1 + (K - 0)) cap) (encM M F)) := Lib.hid (by have h := hown.out; rw [← HKN.out, encM_full] at h; rw [← HKN.out]; exact h)
          clear hr
          go_wp2
          rw [Exit.noGoto_ret]
          go_ret
          exact ⟨_, rfl, by rw [HE.out]; exact HR.out, hb.out⟩
        · have et := encM_next M F 1 (by omega) (by rw [HKN.out]; exact hr)
          rw [HKN.out] at et
          have ev : MI % 256 = B8 (UInt8.ofNat (M / 256 ^ (1 - 1))) := by rw [b8_of]; have := HMI.out; simp; omega
          skip
          generalize hc : UInt8.ofNat (M / 256 ^ (1 - 1)) = c at et ev 
          have em : B8 c % 256 = B8 c := B8_mod c
          have ET := Lib.hid et
          have HR := Lib.hid hr
          clear et hc hr
          go_wp2_with (at_builtin; go_loud (refine app_e eB_ok rfl (.tmp 36) (.tmp 44) rfl wc.heap.size _ _ rfl (hown.out.on ((Below.refl _ _).alloc (Nat.le_refl _) _)) (.slice (some ⟨wr.heap.size, 0, none⟩) 1 1) [c ^^^ F] rfl (one_e wr (c ^^^ F) eB_ok) (by rw [List.length_take, encM_len]; have := nb_le M; simp; omega) (by have := HW.out; simp; omega) ?_); intro v5 w4 ho4 hg4 hloc; have HB4 := Lib.hid (hb.out.trans (((Below.refl wr.heap.size wr).alloc (Nat.le_refl _) (.cells #[.int .u8 (B8 (c ^^^ F))] 5)).mono HW.out |>.trans ((hown.out.on ((Below.refl _ _).alloc (Nat.le_refl _) _)).below hg4 (by have := HW.out; simp; omega)))); have HO4 := Lib.hid ho4; clear ho4 hg4 hloc)
          go_roundw
          case rel => exact ⟨0, by have := HR.out; omega, by first | rfl | go_num, HO4.out.rd.form1 (by have := HR.out; have := HKN.out; rw [List.length_append, List.length_take, encM_len]; simp; omega), Lib.hid (by have h := HO4.out; rw [← ET.out] at h; exact h), HB4⟩
          case measure => simp [intOf]
        · have et := encM_next M F 2 (by omega) (by rw [HKN.out]; exact hr)
          rw [HKN.out] at et
          have ev : MI / 256 % 256 = B8 (UInt8.ofNat (M / 256 ^ (2 - 1))) := by rw [b8_of]; have := HMI.out; simp; omega
          skip
          generalize hc : UInt8.ofNat (M / 256 ^ (2 - 1)) = c at et ev 
          have em : B8 c % 256 = B8 c := B8_mod c
          have ET := Lib.hid et
          have HR := Lib.hid hr
          clear et hc hr
          go_wp2_with (at_builtin; go_loud (refine app_e eB_ok rfl (.tmp 36) (.tmp 44) rfl wc.heap.size _ _ rfl (hown.out.on ((Below.refl _ _).alloc (Nat.le_refl _) _)) (.slice (some ⟨wr.heap.size, 0, none⟩) 1 1) [c ^^^ F] rfl (one_e wr (c ^^^ F) eB_ok) (by rw [List.length_take, encM_len]; have := nb_le M; simp; omega) (by have := HW.out; simp; omega) ?_); intro v5 w4 ho4 hg4 hloc; have HB4 := Lib.hid (hb.out.trans (((Below.refl wr.heap.size wr).alloc (Nat.le_refl _) (.cells #[.int .u8 (B8 (c ^^^ F))] 5)).mono HW.out |>.trans ((hown.out.on ((Below.refl _ _).alloc (Nat.le_refl _) _)).below hg4 (by have := HW.out; simp; omega)))); have HO4 := Lib.hid ho4; clear ho4 hg4 hloc)
          go_roundw
          case rel => exact ⟨1, by have := HR.out; omega, by first | rfl | go_num, HO4.out.rd.form1 (by have := HR.out; have := HKN.out; rw [List.length_append, List.length_take, encM_len]; simp; omega), Lib.hid (by have h := HO4.out; rw [← ET.out] at h; exact h), HB4⟩
          case measure => simp [intOf]
        · have et := encM_next M F 3 (by omega) (by rw [HKN.out]; exact hr)
          rw [HKN.out] at et
          have ev : MI / 65536 % 256 = B8 (UInt8.ofNat (M / 256 ^ (3 - 1))) := by rw [b8_of]; have := HMI.out; simp; omega
          skip
          generalize hc : UInt8.ofNat (M / 256 ^ (3 - 1)) = c at et ev 
          have em : B8 c % 256 = B8 c := B8_mod c
          have ET := Lib.hid et
          have HR := Lib.hid hr
          clear et hc hr
          go_wp2_with (at_builtin; go_loud (refine app_e eB_ok rfl (.tmp 36) (.tmp 44) rfl wc.heap.size _ _ rfl (hown.out.on ((Below.refl _ _).alloc (Nat.le_refl _) _)) (.slice (some ⟨wr.heap.size, 0, none⟩) 1 1) [c ^^^ F] rfl (one_e wr (c ^^^ F) eB_ok) (by rw [List.length_take, encM_len]; have := nb_le M; simp; omega) (by have := HW.out; simp; omega) ?_); intro v5 w4 ho4 hg4 hloc; have HB4 := Lib.hid (hb.out.trans (((Below.refl wr.heap.size wr).alloc (Nat.le_refl _) (.cells #[.int .u8 (B8 (c ^^^ F))] 5)).mono HW.out |>.trans ((hown.out.on ((Below.refl _ _).alloc (Nat.le_refl _) _)).below hg4 (by have := HW.out; simp; omega)))); have HO4 := Lib.hid ho4; clear ho4 hg4 hloc)
          go_roundw
          case rel => exact ⟨2, by have := HR.out; omega, by first | rfl | go_num, HO4.out.rd.form1 (by have := HR.out; have := HKN.out; rw [List.length_append, List.length_take, encM_len]; simp; omega), Lib.hid (by have h := HO4.out; rw [← ET.out] at h; exact h), HB4⟩
          case measure => simp [intOf]
        · have et := encM_next M F 4 (by omega) (by rw [HKN.out]; exact hr)
          rw [HKN.out] at et
          have ev : MI / 16777216 % 256 = B8 (UInt8.ofNat (M / 256 ^ (4 - 1))) := by rw [b8_of]; have := HMI.out; simp; omega
          skip
          generalize hc : UInt8.ofNat (M / 256 ^ (4 - 1)) = c at et ev 
          have em : B8 c % 256 = B8 c := B8_mod c
          have ET := Lib.hid et
          have HR := Lib.hid hr
          clear et hc hr
          go_wp2_with (at_builtin; go_loud (refine app_e eB_ok rfl (.tmp 36) (.tmp 44) rfl wc.heap.size _ _ rfl (hown.out.on ((Below.refl _ _).alloc (Nat.le_refl _) _)) (.slice (some ⟨wr.heap.size, 0, none⟩) 1 1) [c ^^^ F] rfl (one_e wr (c ^^^ F) eB_ok) (by rw [List.length_take, encM_len]; have := nb_le M; simp; omega) (by have := HW.out; simp; omega) ?_); intro v5 w4 ho4 hg4 hloc; have HB4 := Lib.hid (hb.out.trans (((Below.refl wr.heap.size wr).alloc (Nat.le_refl _) (.cells #[.int .u8 (B8 (c ^^^ F))] 5)).mono HW.out |>.trans ((hown.out.on ((Below.refl _ _).alloc (Nat.le_refl _) _)).below hg4 (by have := HW.out; simp; omega)))); have HO4 := Lib.hid ho4; clear ho4 hg4 hloc)
          go_roundw
          case rel => exact ⟨3, by have := HR.out; omega, by first | rfl | go_num, HO4.out.rd.form1 (by have := HR.out; have := HKN.out; rw [List.length_append, List.length_take, encM_len]; simp; omega), Lib.hid (by have h := HO4.out; rw [← ET.out] at h; exact h), HB4⟩
          case measure => simp [intOf]
        · have et := encM_next M F 5 (by omega) (by rw [HKN.out]; exact hr)
          rw [HKN.out] at et
          have ev : MI / 4294967296 % 256 = B8 (UInt8.ofNat (M / 256 ^ (5 - 1))) := by rw [b8_of]; have := HMI.out; simp; omega
          skip
          generalize hc : UInt8.ofNat (M / 256 ^ (5 - 1)) = c at et ev 
          have em : B8 c % 256 = B8 c := B8_mod c
          have ET := Lib.hid et
          have HR := Lib.hid hr
          clear et hc hr
          go_wp2_with (at_builtin; go_loud (refine app_e eB_ok rfl (.tmp 36) (.tmp 44) rfl wc.heap.size _ _ rfl (hown.out.on ((Below.refl _ _).alloc (Nat.le_refl _) _)) (.slice (some ⟨wr.heap.size, 0, none⟩) 1 1) [c ^^^ F] rfl (one_e wr (c ^^^ F) eB_ok) (by rw [List.length_take, encM_len]; have := nb_le M; simp; omega) (by have := HW.out; simp; omega) ?_); intro v5 w4 ho4 hg4 hloc; have HB4 := Lib.hid (hb.out.trans (((Below.refl wr.heap.size wr).alloc (Nat.le_refl _) (.cells #[.int .u8 (B8 (c ^^^ F))] 5)).mono HW.out |>.trans ((hown.out.on ((Below.refl _ _).alloc (Nat.le_refl _) _)).below hg4 (by have := HW.out; simp; omega)))); have HO4 := Lib.hid ho4; clear ho4 hg4 hloc)
          go_roundw
          case rel => exact ⟨4, by have := HR.out; omega, by first | rfl | go_num, HO4.out.rd.form1 (by have := HR.out; have := HKN.out; rw [List.length_append, List.length_take, encM_len]; simp; omega), Lib.hid (by have h := HO4.out; rw [← ET.out] at h; exact h), HB4⟩
          case measure => simp [intOf]
        · have et := encM_next M F 6 (by omega) (by rw [HKN.out]; exact hr)
          rw [HKN.out] at et
          have ev : MI / 1099511627776 % 256 = B8 (UInt8.ofNat (M / 256 ^ (6 - 1))) := by rw [b8_of]; have := HMI.out; simp; omega
          skip
          generalize hc : UInt8.ofNat (M / 256 ^ (6 - 1)) = c at et ev 
          have em : B8 c % 256 = B8 c := B8_mod c
          have ET := Lib.hid et
          have HR := Lib.hid hr
          clear et hc hr
          go_wp2_with (at_builtin; go_loud (refine app_e eB_ok rfl (.tmp 36) (.tmp 44) rfl wc.heap.size _ _ rfl (hown.out.on ((Below.refl _ _).alloc (Nat.le_refl _) _)) (.slice (some ⟨wr.heap.size, 0, none⟩) 1 1) [c ^^^ F] rfl (one_e wr (c ^^^ F) eB_ok) (by rw [List.length_take, encM_len]; have := nb_le M; simp; omega) (by have := HW.out; simp; omega) ?_); intro v5 w4 ho4 hg4 hloc; have HB4 := Lib.hid (hb.out.trans (((Below.refl wr.heap.size wr).alloc (Nat.le_refl _) (.cells #[.int .u8 (B8 (c ^^^ F))] 5)).mono HW.out |>.trans ((hown.out.on ((Below.refl _ _).alloc (Nat.le_refl _) _)).below hg4 (by have := HW.out; simp; omega)))); have HO4 := Lib.hid ho4; clear ho4 hg4 hloc)
          go_roundw
          case rel => exact ⟨5, by have := HR.out; omega, by first | rfl | go_num, HO4.out.rd.form1 (by have := HR.out; have := HKN.out; rw [List.length_append, List.length_take, encM_len]; simp; omega), Lib.hid (by have h := HO4.out; rw [← ET.out] at h; exact h), HB4⟩
          case measure => simp [intOf]
        · have et := encM_next M F 7 (by omega) (by rw [HKN.out]; exact hr)
          rw [HKN.out] at et
          have ev : MI / 281474976710656 % 256 = B8 (UInt8.ofNat (M / 256 ^ (7 - 1))) := by rw [b8_of]; have := HMI.out; simp; omega
          skip
          generalize hc : UInt8.ofNat (M / 256 ^ (7 - 1)) = c at et ev 
          have em : B8 c % 256 = B8 c := B8_mod c
          have ET := Lib.hid et
          have HR := Lib.hid hr
          clear et hc hr
          go_wp2_with (at_builtin; go_loud (refine app_e eB_ok rfl (.tmp 36) (.tmp 44) rfl wc.heap.size _ _ rfl (hown.out.on ((Below.refl _ _).alloc (Nat.le_refl _) _)) (.slice (some ⟨wr.heap.size, 0, none⟩) 1 1) [c ^^^ F] rfl (one_e wr (c ^^^ F) eB_ok) (by rw [List.length_take, encM_len]; have := nb_le M; simp; omega) (by have := HW.out; simp; omega) ?_); intro v5 w4 ho4 hg4 hloc; have HB4 := Lib.hid (hb.out.trans (((Below.refl wr.heap.size wr).alloc (Nat.le_refl _) (.cells #[.int .u8 (B8 (c ^^^ F))] 5)).mono HW.out |>.trans ((hown.out.on ((Below.refl _ _).alloc (Nat.le_refl _) _)).below hg4 (by have := HW.out; simp; omega)))); have HO4 := Lib.hid ho4; clear ho4 hg4 hloc)
          go_roundw
          case rel => exact ⟨6, by have := HR.out; omega, by first | rfl | go_num, HO4.out.rd.form1 (by have := HR.out; have := HKN.out; rw [List.length_append, List.length_take, encM_len]; simp; omega), Lib.hid (by have h := HO4.out; rw [← ET.out] at h; exact h), HB4⟩
          case measure => simp [intOf]
        · have et := encM_next M F 8 (by omega) (by rw [HKN.out]; exact hr)
          rw [HKN.out] at et
          have ev : MI / 72057594037927936 % 256 = B8 (UInt8.ofNat (M / 256 ^ (8 - 1))) := by rw [b8_of]; have := HMI.out; simp; omega
          have ev0 : MI / 72057594037927936 = B8 (UInt8.ofNat (M / 256 ^ (8 - 1))) := by rw [← ev]; omega
          generalize hc : UInt8.ofNat (M / 256 ^ (8 - 1)) = c at et ev ev0
          have em : B8 c % 256 = B8 c := B8_mod c
          have ET := Lib.hid et
          have HR := Lib.hid hr
          clear et hc hr
          go_wp2_with (at_builtin; go_loud (refine app_e eB_ok rfl (.tmp 36) (.tmp 44) rfl wc.heap.size _ _ rfl (hown.out.on ((Below.refl _ _).alloc (Nat.le_refl _) _)) (.slice (some ⟨wr.heap.size, 0, none⟩) 1 1) [c ^^^ F] rfl (one_e wr (c ^^^ F) eB_ok) (by rw [List.length_take, encM_len]; have := nb_le M; simp; omega) (by have := HW.out; simp; omega) ?_); intro v5 w4 ho4 hg4 hloc; have HB4 := Lib.hid (hb.out.trans (((Below.refl wr.heap.size wr).alloc (Nat.le_refl _) (.cells #[.int .u8 (B8 (c ^^^ F))] 5)).mono HW.out |>.trans ((hown.out.on ((Below.refl _ _).alloc (Nat.le_refl _) _)).below hg4 (by have := HW.out; simp; omega)))); have HO4 := Lib.hid ho4; clear ho4 hg4 hloc)
          go_roundw
          case rel => exact ⟨7, by have := HR.out; omega, by first | rfl | go_num, HO4.out.rd.form1 (by have := HR.out; have := HKN.out; rw [List.length_append, List.length_take, encM_len]; simp; omega), Lib.hid (by have h := HO4.out; rw [← ET.out] at h; exact h), HB4⟩
          case measure => simp [intOf]
end Go.Proofs.YtbpjdfnnlmblaaaDoor
/- The program's encoding of a text. -/
namespace Go.Proofs.YtbpjdfnnlmblaaaDoor
open Go.RowKit
set_option linter.unusedSimpArgs false
set_option linter.unusedVariables false
attribute [local irreducible] Calls
set_option maxRecDepth 100000 in
set_option maxHeartbeats 2000000 in
theorem bytes_c (s : List UInt8) (w : World) (hl : s.length ≤ 100000000) :
    Calls Tryd.prog 30 #[.string ⟨s.toArray⟩] w fun e w' => ∃ v', e = .returned v' ∧ OwnE eB w' w.heap.size v' (encS s) ∧ Below w.heap.size w w' := by
  have HL := Lib.hid hl
  clear hl
  go_enter Tryd.func30, Tryd.ntmps30
  go_wp2_with (first
    | (go_at_call 62; refine (int_c (s.length : Int) (by omega) (by have := HL.out; omega) _).mono ?_; rintro e w1 ⟨v1, rfl, ho1, hb1⟩; have HO1 := Lib.hid ho1; have HB1 := Lib.hid hb1; clear ho1 hb1)
    | (at_builtin; refine app_s rfl (.tmp 5) (.tmp 6) rfl w.heap.size _ (encI (s.length : Int)) rfl HO1.out s rfl (by have := HL.out; have := encI_le (s.length : Int); omega) HB1.out.size ?_; intro v2 w2 ho2 hg2; have HB2 := Lib.hid (HB1.out.trans (HO1.out.below hg2 HB1.out.size)); have HO2 := Lib.hid ho2; clear ho2 hg2))
  go_ret
  exact ⟨_, rfl, HO2.out, HB2.out⟩
end Go.Proofs.YtbpjdfnnlmblaaaDoor
/- Lists of numbers and of texts are written: the walks. -/
namespace Go.Proofs.YtbpjdfnnlmblaaaDoor
open Go.RowKit
set_option linter.unusedSimpArgs false
set_option linter.unusedVariables false
theorem catE_take {α : Type} (enc : α → List UInt8) (l : List α) (j : Nat) (h : j < l.length) : catE enc (l.take (j + 1)) = catE enc (l.take j) ++ enc l[j] := by
  rw [List.take_add_one, List.getElem?_eq_getElem h]
  exact catE_snoc enc l[j] (l.take j)
theorem catE_app {α : Type} (enc : α → List UInt8) (l m : List α) : catE enc (l ++ m) = catE enc l ++ catE enc m := by unfold catE; simp
theorem catE_take_le {α : Type} (enc : α → List UInt8) (l : List α) (j : Nat) : (catE enc (l.take j)).length ≤ (catE enc l).length := by
  conv => rhs; rw [← List.take_append_drop j l, catE_app, List.length_append]
  omega
theorem RdI_cells {w : World} {a : Option Addr} {n cap : Nat} {l : List Int} (h : RdE eI w (.slice a n cap) l) : 0 < l.length → ∃ b off, a = some ⟨b, off, none⟩ ∧ b < w.heap.size ∧ ∀ j (hj : j < l.length), w.cell? ⟨b, off + j, none⟩ = some (.int .i64 l[j]) := by
  obtain ⟨a', c', e, _, _, h3⟩ := h
  cases e
  intro h0
  obtain ⟨b, off, rfl, hlt, hc⟩ := h3 h0
  exact ⟨b, off, rfl, hlt, fun j hj => hc j _ (by rw [flat_int, List.getElem?_map, List.getElem?_eq_getElem hj]; rfl)⟩
theorem RdS_cells {w : World} {a : Option Addr} {n cap : Nat} {l : List (List UInt8)} (h : RdE eS w (.slice a n cap) l) : 0 < l.length → ∃ b off, a = some ⟨b, off, none⟩ ∧ b < w.heap.size ∧ ∀ j (hj : j < l.length), w.cell? ⟨b, off + j, none⟩ = some (.string ⟨l[j].toArray⟩) := by
  obtain ⟨a', c', e, _, _, h3⟩ := h
  cases e
  intro h0
  obtain ⟨b, off, rfl, hlt, hc⟩ := h3 h0
  exact ⟨b, off, rfl, hlt, fun j hj => hc j _ (by rw [flat_str, List.getElem?_map, List.getElem?_eq_getElem hj]; rfl)⟩
attribute [local irreducible] Calls encI encS
set_option maxRecDepth 100000 in
set_option maxHeartbeats 4000000 in
theorem ints_c (v : Value) (l : List Int) (w : World) (hv : RdE eI w v l) (hok : ∀ x ∈ l, okI x) (hl : (encIs l).length ≤ 900000) (hn : l.length ≤ 900000) :
    Calls Tryd.prog 56 #[v] w fun e w' => ∃ v', e = .returned v' ∧ OwnE eB w' w.heap.size v' (encIs l) ∧ Below w.heap.size w w' := by
  have HV := Lib.hid hv
  have HL := Lib.hid hl
  have HOK := Lib.hid hok
  have hni : (l.length : Int) ≤ 900000 := by omega
  have HN := Lib.hid hn
  have hE : encIs l = encI l.length ++ catE encI l := rfl
  have HE := Lib.hid hE
  obtain ⟨a, cap, rfl, _, _, _⟩ := hv
  clear hl hok hE hn
  go_enter Tryd.func56, Tryd.ntmps56
  go_wp2_with (go_at_call 62; refine (int_c (l.length : Int) (by omega) (by have := HN.out; omega) _).mono ?_; rintro e w1 ⟨v1, rfl, ho1, hb1⟩; have HO1 := Lib.hid ho1; have HB1 := Lib.hid hb1; clear ho1 hb1)
  go_loopw [11, 3] (fun i o wr => ∃ j : Nat, j ≤ l.length ∧ i = .int .i64 j ∧ Hid (OwnE eB wr w.heap.size o (encI l.length ++ catE encI (l.take j))) ∧ Hid (Below w.heap.size w wr)) (fun i _ _ => l.length - (intOf i).toNat)
  case atStart => exact ⟨0, Nat.zero_le _, rfl, Lib.hid (by rw [List.take_zero, catE_nil, List.append_nil]; exact HO1.out), HB1⟩
  case round =>
    obtain ⟨j, hj, rfl, hown, hb⟩ := hrel
    by_cases hlt : j < l.length
    · have j1 : (j : Int) < l.length := by omega
      obtain ⟨bb, off, rfl, hbl, hrow⟩ := RdI_cells (HV.out.on hb.out) (by omega)
      have cj := hrow j hlt
      have hx := HOK.out l[j] (List.getElem_mem hlt)
      have HT := Lib.hid (catE_take encI l j hlt)
      have hle : (encI (l.length : Int) ++ (catE encI (l.take j) ++ encI l[j])).length ≤ 900000 := by
        rw [← HT.out]
        have h1 := HL.out
        rw [HE.out, List.length_append] at h1
        have := catE_take_le encI l (j + 1)
        rw [List.length_append]
        omega
      generalize l[j] = x at cj hx HT hle
      have HX := Lib.hid hx
      have HLE := Lib.hid hle
      have HJ := Lib.hid hlt
      clear hrow hx hlt hle
      go_wp2_with (first
        | (go_at_call 62; refine (int_c x HX.out.1 HX.out.2 _).mono ?_; rintro e w2 ⟨v2, rfl, ho2, hb2⟩; have HO2 := Lib.hid ho2; have HB2 := Lib.hid hb2; clear ho2 hb2)
        | (at_builtin; refine app_e eB_ok rfl (.tmp 15) (.tmp 17) rfl w.heap.size _ _ rfl (hown.out.on HB2.out) _ (encI x) rfl HO2.out.rd (by have := HLE.out; rw [List.length_append, List.length_append] at this; rw [List.length_append]; omega) (Nat.le_trans hb.out.size HB2.out.size) ?_; intro v3 w3 ho3 hg3 _; have HO3 := Lib.hid ho3; have HB3 : Hid (Below w.heap.size w w3) := (Lib.hid ((hb.out.trans (HB2.out.mono hb.out.size)).grown hg3 (Nat.le_trans hb.out.size HB2.out.size) (fun k hk2 => (hown.out.lt k hk2).1))); clear ho3 hg3))
      go_roundw
      case rel => exact ⟨j + 1, HJ.out, by go_num, Lib.hid (by rw [HT.out, ← List.append_assoc]; exact HO3.out), HB3⟩
      case measure => have := HJ.out; simp [intOf]; omega
    · have he : j = l.length := by omega
      have j1 : (l.length : Int) ≤ j := by omega
      have HF : Hid (encI l.length ++ catE encI (l.take j) = encIs l) := Lib.hid (by rw [he, List.take_length]; rfl)
      clear he hlt hj
      go_wp2
      go_ret
      exact ⟨_, rfl, by rw [← HF.out]; exact hown.out, hb.out⟩
set_option maxRecDepth 100000 in
set_option maxHeartbeats 4000000 in
theorem strings_c (v : Value) (l : List (List UInt8)) (w : World) (hv : RdE eS w v l) (hl : (encSs l).length ≤ 900000) (hn : l.length ≤ 900000) :
    Calls Tryd.prog 61 #[v] w fun e w' => ∃ v', e = .returned v' ∧ OwnE eB w' w.heap.size v' (encSs l) ∧ Below w.heap.size w w' := by
  have HV := Lib.hid hv
  have HL := Lib.hid hl
  have hni : (l.length : Int) ≤ 900000 := by omega
  have HN := Lib.hid hn
  have hE : encSs l = encI l.length ++ catE encS l := rfl
  have HE := Lib.hid hE
  obtain ⟨a, cap, rfl, _, _, _⟩ := hv
  clear hl hE hn
  go_enter Tryd.func61, Tryd.ntmps61
  go_wp2_with (go_at_call 62; refine (int_c (l.length : Int) (by omega) (by have := HN.out; omega) _).mono ?_; rintro e w1 ⟨v1, rfl, ho1, hb1⟩; have HO1 := Lib.hid ho1; have HB1 := Lib.hid hb1; clear ho1 hb1)
  go_loopw [11, 3] (fun i o wr => ∃ j : Nat, j ≤ l.length ∧ i = .int .i64 j ∧ Hid (OwnE eB wr w.heap.size o (encI l.length ++ catE encS (l.take j))) ∧ Hid (Below w.heap.size w wr)) (fun i _ _ => l.length - (intOf i).toNat)
  case atStart => exact ⟨0, Nat.zero_le _, rfl, Lib.hid (by rw [List.take_zero, catE_nil, List.append_nil]; exact HO1.out), HB1⟩
  case round =>
    obtain ⟨j, hj, rfl, hown, hb⟩ := hrel
    by_cases hlt : j < l.length
    · have j1 : (j : Int) < l.length := by omega
      obtain ⟨bb, off, rfl, hbl, hrow⟩ := RdS_cells (HV.out.on hb.out) (by omega)
      have cj := hrow j hlt
      have HT := Lib.hid (catE_take encS l j hlt)
      have hle : (encI (l.length : Int) ++ (catE encS (l.take j) ++ encS l[j])).length ≤ 900000 := by
        rw [← HT.out]
        have h1 := HL.out
        rw [HE.out, List.length_append] at h1
        have := catE_take_le encS l (j + 1)
        rw [List.length_append]
        omega
      have hxl : l[j].length ≤ (encS l[j]).length := by unfold encS; rw [List.length_append]; omega
      generalize l[j] = x at cj HT hle hxl
      have HLE := Lib.hid hle
      have HXL := Lib.hid hxl
      have HJ := Lib.hid hlt
      clear hrow hlt hle hxl
      go_wp2_with (first
        | (go_at_call 30; refine (bytes_c x _ (by have h1 := HLE.out; have h2 := HXL.out; rw [List.length_append, List.length_append] at h1; omega)).mono ?_; rintro e w2 ⟨v2, rfl, ho2, hb2⟩; have HO2 := Lib.hid ho2; have HB2 := Lib.hid hb2; clear ho2 hb2)
        | (at_builtin; refine app_e eB_ok rfl (.tmp 15) (.tmp 17) rfl w.heap.size _ _ rfl (hown.out.on HB2.out) _ (encS x) rfl HO2.out.rd (by have := HLE.out; rw [List.length_append, List.length_append] at this; rw [List.length_append]; omega) (Nat.le_trans hb.out.size HB2.out.size) ?_; intro v3 w3 ho3 hg3 _; have HO3 := Lib.hid ho3; have HB3 : Hid (Below w.heap.size w w3) := (Lib.hid ((hb.out.trans (HB2.out.mono hb.out.size)).grown hg3 (Nat.le_trans hb.out.size HB2.out.size) (fun k hk2 => (hown.out.lt k hk2).1))); clear ho3 hg3))
      go_roundw
      case rel => exact ⟨j + 1, HJ.out, by go_num, Lib.hid (by rw [HT.out, ← List.append_assoc]; exact HO3.out), HB3⟩
      case measure => have := HJ.out; simp [intOf]; omega
    · have he : j = l.length := by omega
      have j1 : (l.length : Int) ≤ j := by omega
      have HF : Hid (encI l.length ++ catE encS (l.take j) = encSs l) := Lib.hid (by rw [he, List.take_length]; rfl)
      clear he hlt hj
      go_wp2
      go_ret
      exact ⟨_, rfl, by rw [← HF.out]; exact hown.out, hb.out⟩
end Go.Proofs.YtbpjdfnnlmblaaaDoor
/- Rows of bytes are joined: slices.Grow and slices.Concat. -/
namespace Go.Proofs.YtbpjdfnnlmblaaaDoor
open Go.RowKit
set_option linter.unusedSimpArgs false
set_option linter.unusedVariables false
theorem info_u8 : (Tryd.prog.info? 5).map (fun i => (i.zero, i.size, i.bytes)) = some (some (.int .u8 0), 1, 1) := by kernel_rfl
theorem zeros_size (z : Array Value) (n : Nat) : (Builtin.zeroCells z n).size = n * z.size := by unfold Builtin.zeroCells; simp
attribute [local irreducible] Calls
set_option maxRecDepth 100000 in
set_option maxHeartbeats 2000000 in
theorem grow_c (n : Nat) (h0 : 0 < n) (hn : n ≤ 1000000) (w : World) :
    Calls Tryd.prog 84 #[.slice none 0 0, .int .i64 n] w fun e w' => ∃ v', e = .returned v' ∧ OwnE eB w' w.heap.size v' [] ∧ Below w.heap.size w w' := by
  have hi1 := info_u8
  cases hi : Tryd.prog.info? 5 with
  | none => rw [hi] at hi1; cases hi1
  | some i =>
    rw [hi] at hi1
    simp only [Option.map_some, Option.some.injEq, Prod.mk.injEq] at hi1
    obtain ⟨hz, hs, hb⟩ := hi1
    have hrun := fun ty (wx : World) => Lib.run_append_nil_zeros (P := Tryd.prog) wx 62 3 ty 5 i (.int .u8 0) .i64 .i64 Tryd.underlying62 Tryd.underlying3 hi hz n h0 (by omega) (by omega) (by rw [hb]; omega)
    have HRUN := Lib.hid hrun
    have i1 : ¬ (n : Int) < 0 := by omega
    have i2 : (0 : Int) < n := by omega
    have i3 : (n : Int) ≤ 1000000 := by omega
    have H0 := Lib.hid h0
    have HN := Lib.hid hn
    clear hrun hi hz hs hb h0 hn
    go_enter Tryd.func84, Tryd.ntmps84
    go_wp2_with (at_builtin; refine Lib.wpList_append_run _ rfl (.tmp 20) (.tmp 21) 62 3 rfl _ _ rfl rfl _ _ (HRUN.out _ _) ?_; have hge := grownCap_ge w n 0 5; have hle := grownCap_le_maxLen w n 0 5 (by have := HN.out; unfold maxLen; omega); generalize hgc : grownCap w n 0 5 = cap at hge hle; have HGE := Lib.hid hge; have HLE := Lib.hid hle; clear hge hle; have c0 : ¬ cap = 0 := (by have := HGE.out; have := H0.out; omega); have c1 : (0 : Int) ≤ cap := (by omega))
    go_ret
    refine ⟨_, rfl, ⟨by simp [El.flat], .inr ⟨w.heap.size, cap, _, rfl, Nat.le_refl _, heap_alloc_new _ _, Nat.zero_le _, HLE.out, ?_, by simp [El.flat]⟩⟩, ((Below.refl _ _).alloc (Nat.le_refl _) _).drew⟩
    rw [Array.size_append, zeros_size, zeros_size]
    have := HGE.out
    simp
    omega
theorem flat_take (xs : List (List UInt8)) (j : Nat) (h : j < xs.length) : (xs.take (j + 1)).flatten = (xs.take j).flatten ++ xs[j] := by
  rw [List.take_add_one, List.getElem?_eq_getElem h]
  show (xs.take j ++ [xs[j]]).flatten = _
  rw [List.flatten_append, List.flatten_cons, List.flatten_nil, List.append_nil]
theorem flat_take_le (xs : List (List UInt8)) (j : Nat) : (xs.take j).flatten.length ≤ xs.flatten.length := by
  conv => rhs; rw [← List.take_append_drop j xs, List.flatten_append, List.length_append]
  omega
set_option maxRecDepth 100000 in
set_option maxHeartbeats 4000000 in
theorem concat_c (bk cap : Nat) (xs : List (List UInt8)) (w : World) (hc : ∀ j (h : j < xs.length), ∃ v, w.cell? ⟨bk, j, none⟩ = some v ∧ RdE eB w v xs[j]) (hbk : bk < w.heap.size) (hn : xs.length ≤ 100) (hpos : 0 < xs.flatten.length) (hl : xs.flatten.length ≤ 900000) :
    Calls Tryd.prog 55 #[.slice (some ⟨bk, 0, none⟩) xs.length cap] w fun e w' => ∃ v', e = .returned v' ∧ OwnE eB w' w.heap.size v' xs.flatten ∧ Below w.heap.size w w' := by
  have HC := Lib.hid hc
  have HL := Lib.hid hl
  have HP := Lib.hid hpos
  have hni : (xs.length : Int) ≤ 100 := by omega
  clear hc hl hpos hn
  go_enter Tryd.func55, Tryd.ntmps55
  go_wp2
  go_loopw [11, 3] (fun i s wr => ∃ j : Nat, j ≤ xs.length ∧ i = .int .i64 j ∧ s = .int .i64 ((xs.take j).flatten.length : Nat) ∧ wr = w) (fun i _ _ => xs.length - (intOf i).toNat)
  case atStart => exact ⟨0, Nat.zero_le _, rfl, rfl, rfl⟩
  case round =>
    obtain ⟨j, hj, rfl, rfl, hwr⟩ := hrel
    rw [hwr]
    clear hwr
    by_cases hlt : j < xs.length
    · have j1 : (j : Int) < xs.length := by omega
      obtain ⟨v, cj, hv⟩ := HC.out j hlt
      have HT := Lib.hid (congrArg List.length (flat_take xs j hlt))
      have hle := flat_take_le xs (j + 1)
      rw [HT.out] at hle
      have h9 := HL.out
      generalize xs[j] = x at hv HT hle
      generalize (xs.take j).flatten = y at HT hle ⊢
      rw [List.length_append] at HT hle
      have hs : (y.length : Int) + x.length ≤ 900000 := by omega
      have hs0 : ¬ (y.length : Int) + x.length < 0 := by omega
      have HJ := Lib.hid hlt
      obtain ⟨a, c, rfl, _, _, _⟩ := hv
      clear hlt hle h9
      go_wp2
      go_roundw
      case rel => exact ⟨j + 1, HJ.out, by go_num, by rw [HT.out, Int.natCast_add], by first | exact rfl | exact trivial⟩
      case measure => have := HJ.out; simp [intOf]; omega
    · have he : j = xs.length := by omega
      have j1 : (xs.length : Int) ≤ j := by omega
      have HF : Hid ((xs.take j).flatten = xs.flatten) := Lib.hid (by rw [he, List.take_length])
      rw [HF.out]
      obtain ⟨N, hN⟩ : ∃ N, N = xs.flatten.length := ⟨_, rfl⟩
      rw [← hN]
      have HNN := Lib.hid hN
      clear he hlt hj hN
      go_wp2_with (go_at_call 84; refine (grow_c N (by rw [HNN.out]; exact HP.out) (by rw [HNN.out]; have := HL.out; omega) _).mono ?_; rintro e w1 ⟨v1, rfl, ho1, hb1⟩; have HO1 := Lib.hid ho1; have HB1 := Lib.hid hb1; clear ho1 hb1)
      go_loopw [27, 6] (fun i o wr => ∃ k : Nat, k ≤ xs.length ∧ i = .int .i64 k ∧ Hid (OwnE eB wr w.heap.size o (xs.take k).flatten) ∧ Hid (Below w.heap.size w wr)) (fun i _ _ => xs.length - (intOf i).toNat)
      case atStart => exact ⟨0, Nat.zero_le _, rfl, HO1, HB1⟩
      case round =>
        obtain ⟨k, hk, rfl, hown, hb⟩ := hrel
        by_cases hlt : k < xs.length
        · have k1 : (k : Int) < xs.length := by omega
          obtain ⟨v, cj, hv⟩ := HC.out k hlt
          have HV := Lib.hid (hv.on hb.out)
          have ck : wr.cell? ⟨bk, k, none⟩ = some v := by rw [hb.out.cell (p := ⟨bk, k, none⟩) hbk]; exact cj
          have HT := Lib.hid (flat_take xs k hlt)
          have hle := flat_take_le xs (k + 1)
          rw [HT.out, List.length_append] at hle
          have HLE := Lib.hid (Nat.le_trans hle HL.out)
          generalize xs[k] = x at hv HT HLE HV
          have HJ := Lib.hid hlt
          clear hlt hle cj hv
          go_wp2_with (at_builtin; refine app_e eB_ok rfl (.tmp 31) (.tmp 32) rfl w.heap.size _ _ rfl hown.out _ x rfl HV.out (by have := HLE.out; omega) hb.out.size ?_; intro v3 w3 ho3 hg3 _; have HO3 := Lib.hid ho3; have HB3 : Hid (Below w.heap.size w w3) := (Lib.hid (hb.out.grown hg3 hb.out.size (fun k hk2 => (hown.out.lt k hk2).1))); clear ho3 hg3)
          go_roundw
          case rel => exact ⟨k + 1, HJ.out, by go_num, Lib.hid (by rw [HT.out]; exact HO3.out), HB3⟩
          case measure => have := HJ.out; simp [intOf]; omega
        · have he2 : k = xs.length := by omega
          have k1 : (xs.length : Int) ≤ k := by omega
          have HF2 : Hid ((xs.take k).flatten = xs.flatten) := Lib.hid (by rw [he2, List.take_length])
          clear he2 hlt hk
          go_wp2
          go_ret
          exact ⟨_, rfl, by rw [← HF2.out]; exact hown.out, hb.out⟩
end Go.Proofs.YtbpjdfnnlmblaaaDoor
/- The specification's functions of the cipher. -/
namespace Go.Proofs.YtbpjdfnnlmblaaaDoor
open Go.RowKit
set_option linter.unusedSimpArgs false
set_option linter.unusedVariables false

end Go.Proofs.YtbpjdfnnlmblaaaDoor
/- The words of a text, and the initial state. -/
namespace Go.Proofs.YtbpjdfnnlmblaaaDoor
open Go.RowKit
set_option linter.unusedSimpArgs false
set_option linter.unusedVariables false

theorem wordAt_cut (l : List UInt8) (a n : Nat) (h : 4 ≤ n) : C3.wordAt ((l.drop a).take n) 0 = C3.wordAt l a := by
  have e : ∀ i, i < 4 → C3.byteAt ((l.drop a).take n) i = C3.byteAt l (a + i) := fun i hi => byteAt_take_drop l a n i (by omega)
  unfold C3.wordAt
  rw [e _ (by omega), e _ (by omega), e _ (by omega), e _ (by omega)]
  rfl
theorem byteAt_drop (l : List UInt8) (n i : Nat) : byteAt (l.drop n) i = byteAt l (n + i) := by
  unfold byteAt; simp [List.getD_eq_getElem?_getD, List.getElem?_drop]

set_option maxHeartbeats 400000 in
theorem get_c (l : List UInt8) (hs : 4 ≤ l.length) (w : World) :
    Calls Tryd.prog 101 #[.string ⟨l.toArray⟩] w fun e w' => e = .returned (.int .u32 (W32 (C3.wordAt l 0))) ∧ ∃ n, w' = w.drewN n := by
  have h0 : 0 < l.length := by omega
  have i1 : (1 : Int) < l.length := by omega
  have i2 : (2 : Int) < l.length := by omega
  have i3 : (3 : Int) < l.length := by omega
  go_enter Tryd.func101, Tryd.ntmps101
  go_wp2
  go_quiet (fail)
  go_wp2
  go_ret
  exact ⟨ret_u32 rfl, _, rfl⟩
set_option maxHeartbeats 1000000 in
theorem state_c (key nonce : List UInt8) (ctr : UInt32) (hk : key.length = 32) (hn : nonce.length = 12) (w : World) :
    Calls Tryd.prog 86 #[.string ⟨key.toArray⟩, .int .u32 (W32 ctr), .string ⟨nonce.toArray⟩] w fun e w' => e = .returned (.tuple #[.agg (row (C3.state key ctr nonce)), .int .i64 0]) ∧ Below w.heap.size w w' := by
  go_enter Tryd.func86, Tryd.ntmps86
  go_wp2
  go_loopw [21] (fun i wr => ∃ k : Nat, k ≤ 8 ∧ i = .int .i64 k ∧ ∃ n, wr = (w.alloc (.cells (row (C3.stK key ctr k)) 132)).drewN n) (fun i _ => 8 - (intOf i).toNat)
  case atStart => exact ⟨0, by omega, rfl, 0, rfl⟩
  case round =>
    obtain ⟨k, hk8, rfl, n, rfl⟩ := hrel
    have hlen := C3.length_stK key ctr k
    by_cases hlt : k < 8
    · have hb4 : 4 + k < 16 := by omega
      have hl4 : 4 ≤ ((key.drop (4 * k)).take (32 - 4 * k)).length := by simp [hk]; omega
      have hwd : C3.wordAt ((key.drop (4 * k)).take (32 - 4 * k)) 0 = C3.wordAt key (4 * k) := wordAt_cut _ _ _ (by omega)
      have HW := Lib.hid hwd
      clear hwd
      go_wp2_with (go_at_call 101; refine (get_c _ hl4 _).mono ?_; rintro e w' ⟨rfl, nq, rfl⟩; rw [HW.out])
      go_roundw
      case rel => exact ⟨k + 1, by omega, by go_num, _, rfl⟩
      case measure => simp [intOf]; omega
    · have he : k = 8 := by omega
      have HE := Lib.hid he
      clear he
      go_wp2
      go_loopw [33] (fun i wr => ∃ k : Nat, k ≤ 3 ∧ i = .int .i64 k ∧ ∃ n, wr = (w.alloc (.cells (row (C3.stN key ctr nonce k)) 132)).drewN n) (fun i _ => 3 - (intOf i).toNat)
      case atStart => exact ⟨0, by omega, rfl, n, by rw [HE.out]; rfl⟩
      case round =>
        clear hk8 hlen hlt
        obtain ⟨k, hk8, rfl, n, rfl⟩ := hrel
        have hlen := C3.length_stN key ctr nonce k
        by_cases hlt : k < 3
        · have hb13 : 13 + k < 16 := by omega
          have hl4 : 4 ≤ ((nonce.drop (4 * k)).take (12 - 4 * k)).length := by simp [hn]; omega
          have hwd : C3.wordAt ((nonce.drop (4 * k)).take (12 - 4 * k)) 0 = C3.wordAt nonce (4 * k) := wordAt_cut _ _ _ (by omega)
          have HW := Lib.hid hwd
          clear hwd
          go_wp2_with (go_at_call 101; refine (get_c _ hl4 _).mono ?_; rintro e w' ⟨rfl, nq, rfl⟩; rw [HW.out])
          go_roundw
          case rel => exact ⟨k + 1, by omega, by go_num, _, rfl⟩
          case measure => simp [intOf]; omega
        · have he : k = 3 := by omega
          have HE := Lib.hid he
          clear he
          go_wp2_with (first
            | (refine ld_row rfl (.tmp 6) rfl _ rfl _ 132 (heap1 _ _ _) hlen ?_)
            | (refine st_row rfl (.tmp 6) (.tmp 45) rfl _ _ rfl rfl 132 _ (heap1 _ _ _) (by rw [row_size, hlen]) hlen ?_))
          refine bodyPost_ret (v := .tuple #[.agg (row _), _]) (res_row2 rfl _ _ _ _ _ rfl (heap1 _ _ _) hlen) rfl ⟨by rw [HE.out]; rfl, ?_⟩
          exact below_drewN _ ((Below.refl _ _).alloc (Nat.le_refl _) _)

set_option maxHeartbeats 1000000 in
theorem state_no (key nonce : List UInt8) (ctr : UInt32) (h : C3.okArgs key nonce = false) (w : World) :
    Calls Tryd.prog 86 #[.string ⟨key.toArray⟩, .int .u32 (W32 ctr), .string ⟨nonce.toArray⟩] w fun e w' => e = .returned (.tuple #[.agg (row (List.replicate 16 0)), .int .i64 1]) ∧ Below w.heap.size w w' := by
  have h0 : (row (List.replicate 16 0)) = #[.int .u32 0, .int .u32 0, .int .u32 0, .int .u32 0, .int .u32 0, .int .u32 0, .int .u32 0, .int .u32 0, .int .u32 0, .int .u32 0, .int .u32 0, .int .u32 0, .int .u32 0, .int .u32 0, .int .u32 0, .int .u32 0] := rfl
  rw [h0]
  clear h0
  unfold C3.okArgs at h
  by_cases hk : key.length = 32
  · have hn : ¬ nonce.length = 12 := by intro e; rw [hk, e] at h; cases h
    have h2 : (((nonce.length : Nat) : Int) != 12) = true := by rw [bne_iff_ne]; omega
    clear h
    go_enter Tryd.func86, Tryd.ntmps86
    go_wp2
    refine bodyPost_ret (v := .tuple #[.agg _, .int .i64 1]) ?_ rfl ⟨rfl, (Below.refl _ _).alloc (Nat.le_refl _) _⟩
    simp [results, Tryd.results86, go_sem]
  · have h2 : (((key.length : Nat) : Int) != 32) = true := by rw [bne_iff_ne]; omega
    clear h
    go_enter Tryd.func86, Tryd.ntmps86
    go_wp2
    refine bodyPost_ret (v := .tuple #[.agg _, .int .i64 1]) ?_ rfl ⟨rfl, (Below.refl _ _).alloc (Nat.le_refl _) _⟩
    simp [results, Tryd.results86, go_sem]
end Go.Proofs.YtbpjdfnnlmblaaaDoor
/- The rounds of the cipher. -/
namespace Go.Proofs.YtbpjdfnnlmblaaaDoor
open Go.RowKit
set_option linter.unusedSimpArgs false
set_option linter.unusedVariables false

set_option maxHeartbeats 4000000 in
theorem rounds_c (s : List UInt32) (hl : s.length = 16) (w : World) :
    Calls Tryd.prog 102 #[.agg (row s)] w fun e w' => e = .returned (.agg (row (C3.rounds s 10))) ∧ Below w.heap.size w w' := by
  go_enter Tryd.func102, Tryd.ntmps102
  go_wp2
  go_loopw [5] (fun i wr => ∃ m : Nat, m ≤ 10 ∧ i = .int .i64 m ∧ ∃ n, wr = ((w.alloc (.cells (row (C3.rounds s m)) 132)).alloc (.cells zero16 132)).drewN n) (fun i _ => 10 - (intOf i).toNat)
  case atStart => exact ⟨0, by omega, rfl, 0, rfl⟩
  case round =>
    obtain ⟨m, hm, rfl, n, rfl⟩ := hrel
    by_cases hlt : m < 10
    · have hd : decide ((m : Int) < 10) = true := by simp; omega
      go_wp2
      go_loopw [7] (fun i wr => ∃ k : Nat, k ≤ 4 ∧ i = .int .i64 k ∧ ∃ n, wr = ((w.alloc (.cells (row (C3.qk (C3.rounds s m) k)) 132)).alloc (.cells zero16 132)).drewN n) (fun i _ => 4 - (intOf i).toNat)
      case atStart => exact ⟨0, by omega, rfl, n, rfl⟩
      case round =>
        obtain ⟨k, hk, rfl, n, rfl⟩ := hrel
        have hlen : (C3.qk (C3.rounds s m) k).length = 16 := by rw [C3.length_qk, C3.length_rounds, hl]
        by_cases hlt2 : k < 4
        · have c4 : 4 + k < 16 := by omega
          have c8 : 8 + k < 16 := by omega
          have c12 : 12 + k < 16 := by omega
          have c0 : k < 16 := by omega
          go_wp2
          refine tailD 11 (by kernel_rfl) (by kernel_rfl) ?_
          simp only [List.take_succ_cons, List.take_zero, List.drop_succ_cons, List.drop_zero]
          repeat (go_big_quiet_step (fail))
          refine wpQuiet_nil ?_
          rintro _ ⟨nq, rfl⟩
          have HQ := Lib.hid (C3.qk_lo (C3.rounds s m) k hlt2)
          go_wp2_with (go_at_call 108; refine (quarter_c _ (C3.qk (C3.rounds s m) k) 132 _ _ _ _ _ (heap2_first _ _ _ _) (by omega) (by omega) (by omega) (by omega) (by omega) (by omega) (by omega) (by omega) (by omega) (by omega)).mono ?_; rintro e w' ⟨rfl, n2, rfl⟩)
          go_roundw
          case rel => exact ⟨k + 1, by omega, by go_num, nq + n2, by rw [HQ.out]⟩
          case measure => simp [intOf]; omega
        · have he : k = 4 := by omega
          have HE := Lib.hid he
          clear he
          have hd2 : decide ((k : Int) < 4) = false := by simp; omega
          go_wp2
          go_loopw [23] (fun i wr => ∃ k : Nat, k ≤ 4 ∧ i = .int .i64 k ∧ ∃ n, wr = ((w.alloc (.cells (row (C3.qk (C3.rounds s m) (4 + k))) 132)).alloc (.cells zero16 132)).drewN n) (fun i _ => 4 - (intOf i).toNat)
          case atStart => exact ⟨0, by omega, rfl, n, by rw [HE.out]⟩
          case round =>
            clear hk hlen hlt2
            obtain ⟨k, hk, rfl, n, rfl⟩ := hrel
            have hlen : (C3.qk (C3.rounds s m) (4 + k)).length = 16 := by rw [C3.length_qk, C3.length_rounds, hl]
            by_cases hlt2 : k < 4
            · have d1 : (k + 1) % 4 < 4 := Nat.mod_lt _ (by omega)
              have d2 : (k + 2) % 4 < 4 := Nat.mod_lt _ (by omega)
              have d3 : (k + 3) % 4 < 4 := Nat.mod_lt _ (by omega)
              go_wp2
              refine tailD 17 (by kernel_rfl) (by kernel_rfl) ?_
              simp only [List.take_succ_cons, List.take_zero, List.drop_succ_cons, List.drop_zero]
              repeat (go_big_quiet_step (fail))
              refine wpQuiet_nil ?_
              rintro _ ⟨nq, rfl⟩
              have HQ := Lib.hid (C3.qk_hi (C3.rounds s m) k hlt2)
              go_wp2_with (go_at_call 108; refine (quarter_c _ (C3.qk (C3.rounds s m) (4 + k)) 132 _ _ _ _ _ (heap2_first _ _ _ _) (by omega) (by omega) (by omega) (by omega) (by omega) (by omega) (by omega) (by omega) (by omega) (by omega)).mono ?_; rintro e w' ⟨rfl, n2, rfl⟩)
              go_roundw
              case rel => exact ⟨k + 1, by omega, by go_num, nq + n2, by rw [HQ.out]⟩
              case measure => simp [intOf]; omega
            · have he : k = 4 := by omega
              have HE := Lib.hid he
              clear he
              go_wp2
              go_roundw
              case rel => exact ⟨m + 1, by omega, by go_num, n, by rw [HE.out]; rfl⟩
              case measure => simp [intOf]; omega
    · have hlen : (C3.rounds s m).length = 16 := by rw [C3.length_rounds, hl]
      have he : m = 10 := by omega
      have HE := Lib.hid he
      clear he
      go_wp2_with (first
            | (refine ld_row rfl (.tmp 1) rfl _ rfl _ 132 (heap2_first _ _ _ _) hlen ?_)
            | (refine st_row rfl (.tmp 2) (.tmp 46) rfl _ _ rfl rfl 132 _ (heap2_second _ _ _ _) rfl hlen ?_))
      refine bodyPost_ret (v := .agg (row _)) (res_row rfl _ _ _ _ _ rfl (setRow_heap _ _ _ _ _ _ (heap2_second _ _ _ _)) hlen) rfl ⟨by rw [HE.out], ?_⟩
      exact below_setRow (below_drewN _ (((Below.refl _ _).alloc (Nat.le_refl _) _).alloc (by simp) _)) (by omega) _

/-- the words of the quarter rounds, as they lie in memory behind Order -/
def OrderAt (w : World) (lo g : Nat) : Prop := ∀ k, k < 8 → ∃ b, lo ≤ b ∧ b < w.heap.size ∧ w.cell? ⟨g, k, none⟩ = some (.slice (some ⟨b, 0, none⟩) 4 4) ∧
  ∀ j, j < 4 → w.cell? ⟨b, j, none⟩ = some (.int .i64 ((C3.order.getD k []).getD j 0 : Nat))
theorem OrderAt.keep {w w' : World} {lo g : Nat} (h : OrderAt w lo g) (hg : lo ≤ g) (hg2 : g < w.heap.size) (hs : w.heap.size ≤ w'.heap.size) (hb : ∀ b, lo ≤ b → b < w.heap.size → w'.heap[b]? = w.heap[b]?) : OrderAt w' lo g := by
  intro k hk
  obtain ⟨b, h1, h2, h3, h4⟩ := h k hk
  refine ⟨b, h1, by omega, ?_, fun j hj => ?_⟩
  · rw [← h3]; exact World.cell?_of_block (hb g hg hg2)
  · rw [← h4 j hj]; exact World.cell?_of_block (hb b h1 h2)
theorem order_ok : ∀ k, k < 8 → ((C3.order.getD k []).getD 0 0 < 16 ∧ (C3.order.getD k []).getD 1 0 < 16 ∧ (C3.order.getD k []).getD 2 0 < 16 ∧ (C3.order.getD k []).getD 3 0 < 16) ∧
    ((C3.order.getD k []).getD 0 0 ≠ (C3.order.getD k []).getD 1 0 ∧ (C3.order.getD k []).getD 0 0 ≠ (C3.order.getD k []).getD 2 0 ∧ (C3.order.getD k []).getD 0 0 ≠ (C3.order.getD k []).getD 3 0) ∧
    ((C3.order.getD k []).getD 1 0 ≠ (C3.order.getD k []).getD 2 0 ∧ (C3.order.getD k []).getD 1 0 ≠ (C3.order.getD k []).getD 3 0 ∧ (C3.order.getD k []).getD 2 0 ≠ (C3.order.getD k []).getD 3 0) := by decide
/-- where the specification's loops stand: the state in block B, the result's block behind it, the order at g -/
structure RInv (w : World) (g : Nat) (X : List UInt32) (wr : World) : Prop where
  row : wr.heap[w.heap.size]? = some (.cells (row X) 132 (0, 0))
  res : wr.heap[w.heap.size + 1]? = some (.cells zero16 132 (0, 0))
  ord : OrderAt wr (w.heap.size + 2) g
  g1 : w.heap.size + 2 ≤ g
  g2 : g < wr.heap.size
  below : Below w.heap.size w wr
theorem RInv.next {w : World} {g : Nat} {X Y : List UInt32} {wr w2 : World} (h : RInv w g X wr) (n : Nat) (hb : Below wr.heap.size (wr.drewN n) w2) : RInv w g Y (w2.setRow w.heap.size (Go.Proofs.YtbpjdfnnlmblaaaDoor.row Y)) := by
  have hB : w.heap.size < wr.heap.size := by have := h.g1; have := h.g2; omega
  have e1 : w2.heap[w.heap.size]? = some (.cells (Go.Proofs.YtbpjdfnnlmblaaaDoor.row X) 132 (0, 0)) := by rw [hb.block _ hB]; exact h.row
  have hs : wr.heap.size ≤ w2.heap.size := hb.size
  refine ⟨setRow_heap _ _ _ _ _ _ e1, ?_, ?_, h.g1, ?_, ?_⟩
  · rw [setRow_other _ _ _ _ (by omega), hb.block _ (by have := h.g1; have := h.g2; omega)]; exact h.res
  · refine h.ord.keep h.g1 h.g2 (by rw [size_setRow]; exact hs) (fun b h1 h2 => ?_)
    rw [setRow_other _ _ _ _ (by omega), hb.block _ h2]; rfl
  · have := h.g2; rw [size_setRow]; omega
  · exact below_setRow (h.below.trans ((below_drewN n (Below.refl _ _)).trans (hb.mono (by omega)))) (Nat.le_refl _) _
theorem RInv.drew {w : World} {g : Nat} {X : List UInt32} {wr : World} (h : RInv w g X wr) (n : Nat) : RInv w g X (wr.drewN n) := ⟨h.row, h.res, h.ord, h.g1, h.g2, below_drewN n h.below⟩

end Go.Proofs.YtbpjdfnnlmblaaaDoor
/- Bytes, blocks. -/
namespace Go.Proofs.YtbpjdfnnlmblaaaDoor
open Go.RowKit
set_option linter.unusedSimpArgs false
set_option linter.unusedVariables false

/-- a slice of bytes of one's own -/
def bv (l : List UInt8) : List Value := l.map fun b => .int .u8 (B8 b)
def OwnB (w : World) (base : Nat) (v : Value) (l : List UInt8) : Prop := w.ownsRow base 5 1 v l.length (bv l)
theorem bv_one (l : List UInt8) : ∀ u ∈ bv l, u.oneCell' = true := by
  intro u hu
  obtain ⟨b, _, rfl⟩ := List.mem_map.1 hu
  rfl
theorem info5 : (Tryd.prog.info? 5).map (fun i => (i.zero, i.size, i.bytes)) = some (some (.int .u8 0), 1, 1) := by kernel_rfl
/-- append of bytes that lie somewhere to a slice of one's own -/
theorem app_b {w : World} {ops : Array Oper} {rest : List Oper} {o : Oper} {a : Act} {Q : Exit → Act → World → Prop} (hgd : o.guard = none) (s x : Operand)
    (ho : o.op = .call { callee := .builtin .append, args := #[s, x], argTypes := #[62, 62] })
    (base : Nat) (v : Value) (l : List UInt8) (hs : a.eval s = v) (hown : OwnB w base v l) (ad : Addr) (m c : Nat) (news : List UInt8) (hx : a.eval x = .slice (some ad) m c) (hl : news.length = m)
    (hnews : ∀ j u, (bv news)[j]? = some u → w.cell? (ad.add j) = some u) (hsz : l.length + m ≤ 1000000000) (hbase : base ≤ w.heap.size)
    (h : ∀ v' w', OwnB w' base v' (l ++ news) → Below base w w' → wpList Tryd.prog ops Q rest (a.put o.dst v') w') : wpList Tryd.prog ops Q (o :: rest) a w := by
  obtain ⟨i0, hi, hz0, hz1, hz2⟩ := info_parts info5
  refine wpList_append_own w hgd s x 62 ho base 5 i0 (.int .u8 0) 1 1 Tryd.underlying62 hi hz0 hz1 hz2 rfl (by decide) v l.length (bv l) hs hown ad m c (bv news) hx (by simp [bv, hl]) hnews (bv_one news)
    (by unfold maxLen; omega) (by omega) hbase ?_
  intro v' w' h1 h2 _
  refine h v' w' ?_ ((Below.refl base w).grown h2 hbase (fun k hk => (hown.lt k hk).1))
  unfold OwnB
  rw [List.length_append, hl]
  have : bv (l ++ news) = bv l ++ bv news := by simp [bv]
  rw [this]
  exact h1

theorem cell_new (w : World) (cs : Array Value) (T : TypeId) (j : Nat) (u : Value) (h : cs.toList[j]? = some u) : (w.alloc (.cells cs T)).cell? ((⟨w.heap.size, 0, none⟩ : Addr).add j) = some u := by
  have hadd : (⟨w.heap.size, 0, none⟩ : Addr).add j = ⟨w.heap.size, j, none⟩ := by unfold Addr.add; split <;> simp_all
  rw [hadd, cell_of_row _ _ j cs T (0, 0) (heap_alloc_new w _), ← Array.getElem?_toList]
  exact h
theorem OwnB.below {w w' : World} {base : Nat} {v : Value} {l : List UInt8} (h : OwnB w base v l) (hb : Below w.heap.size w w') : OwnB w' base v l := by
  refine ⟨h.1, ?_⟩
  rcases h.2 with hn | ⟨g, cap, cur, rfl, hg, hgg, r⟩
  · exact .inl hn
  · exact .inr ⟨g, cap, cur, rfl, hg, by rw [hb.block _ (Array.getElem?_eq_some_iff.1 hgg).1]; exact hgg, r⟩
theorem OwnB.nil (w : World) (base : Nat) : OwnB w base (.slice none 0 0) [] := World.ownsRow_nil w base _ 1
theorem strOf_u8 (l : List UInt8) : strOfNums (l.map B8) = ⟨l.toArray⟩ := by
  unfold strOfNums
  rw [List.map_map]
  congr 2
  have : ((fun n : Int => UInt8.ofNat n.toNat) ∘ B8) = id := by
    funext x
    simp [B8]
  rw [this, List.map_id]
theorem conv_own {w : World} {base : Nat} {v : Value} {l : List UInt8} (h : OwnB w base v l) : (convert 62 9 v).run Tryd.prog w = .ok (.string ⟨l.toArray⟩) w := by
  rcases h.2 with ⟨rfl, hn⟩ | ⟨g, cap, cur, rfl, _, hgg, h1, _, h2, h3⟩
  · have hl : l = [] := List.length_eq_zero_iff.1 hn
    subst hl
    exact run_convert_bytes_nil w _ _ Tryd.underlying62 Tryd.underlying5 _ _ _ Tryd.underlying9
  · rw [← strOf_u8 l]
    refine run_convert_bytes_arg w _ _ Tryd.underlying62 Tryd.underlying5 g 0 _ _ _ (by simp) (fun i hi => ?_) _ Tryd.underlying9
    rw [Nat.zero_add, cell_of_row _ _ _ _ _ _ hgg]
    have e : (cur.toList.take (l.length * 1))[i]? = (bv l)[i]? := by rw [h3]
    rw [List.getElem?_take, if_pos (by omega), Array.getElem?_toList] at e
    rw [e]
    simp [bv, List.getD_eq_getElem?_getD, List.getElem?_eq_getElem hi]

set_option maxHeartbeats 1000000 in
theorem put_c (w : World) (base : Nat) (v : Value) (l : List UInt8) (x : UInt32) (hown : OwnB w base v l) (hsz : l.length ≤ 999999990) (hbase : base ≤ w.heap.size) :
    Calls Tryd.prog 103 #[v, .int .u32 (W32 x)] w fun e w' => ∃ v', e = .returned v' ∧ OwnB w' base v' (l ++ C3.bytes x) ∧ Below base w w' := by
  go_enter Tryd.func103, Tryd.ntmps103
  go_wp2_with (at_builtin; refine app_b rfl (.tmp 5) (.tmp 17) rfl base v l rfl (World.ownsRow.alloc hown _) ⟨w.heap.size, 0, none⟩ 4 4 (C3.bytes x) rfl rfl ?h1 ?h2 ?h3 ?h4)
  case h4 =>
    intro v' w' ho hb
    go_wp2
    go_ret
    exact ⟨v', rfl, ho, ((Below.refl _ _).alloc hbase _).trans hb⟩
  case h1 =>
    intro j u hj
    exact cell_new _ _ _ _ _ hj
  case h2 => omega
  case h3 => simp; omega

theorem mk_b {w : World} {ops : Array Oper} {rest : List Oper} {o : Oper} {a : Act} {Q : Exit → Act → World → Prop} (hgd : o.guard = none) (l c : Operand) (hop : o.op = Op.makeSlice 62 l c)
    (base : Nat) (n : Nat) (hl : a.eval l = .int .i64 0) (hc : a.eval c = .int .i64 (n : Int)) (hn : n ≤ 1000000000) (hbase : base ≤ w.heap.size)
    (h : ∀ v w', OwnB w' base v [] → Below base w w' → wpList Tryd.prog ops Q rest (a.put o.dst v) w') : wpList Tryd.prog ops Q (o :: rest) a w := by
  obtain ⟨i0, hi, hz0, hz1, hz2⟩ := info_parts info5
  refine wpList_make_own w hgd l c 62 hop base 5 i0 (.int .u8 0) 1 Tryd.underlying62 hi hz0 hz1 .i64 .i64 n n hl hc rfl (by rw [hz2]; omega) (by unfold maxLen; omega) hbase ?_
  intro w' h1 h2
  exact h _ w' h1 ((Below.refl base w).grown h2 hbase (fun k hk => by cases hk))

theorem size22e : (Tryd.prog.info? 99).map (·.size) = some 1 := by kernel_rfl
theorem idx_row (s : List UInt32) (hs : s.length = 16) (k : Nat) (hk : k < 16) (w : World) : (Instr.index 132 (.agg (row s)) (.int .i64 k)).run Tryd.prog w = .ok (.int .u32 (W32 (w16 s k))) w := by
  have hz : (sizeOf 99).run Tryd.prog w = .ok 1 w := by
    cases hq : Tryd.prog.info? 99 with
    | none => have := size22e; rw [hq] at this; cases this
    | some i => have h1 := size22e; rw [hq] at h1; simp at h1; simp [sizeOf, typeInfo, hq, h1]
  have h1 : (k : Int) < 16 := by omega
  have h2 : k < s.length := by omega
  simp [Instr.index, go_sem, hz, h1, h2]
  intro h3; omega
theorem block_def (key nonce : List UInt8) (ctr : UInt32) : C3.block key ctr nonce = C3.blockTo (C3.state key ctr nonce) (C3.rounds (C3.state key ctr nonce) 10) 16 := rfl
theorem blockTo_succ (s t : List UInt32) (k : Nat) : C3.blockTo s t (k + 1) = C3.blockTo s t k ++ C3.bytes (w16 t k + w16 s k) := rfl
theorem blockTo_zero (s t : List UInt32) : C3.blockTo s t 0 = [] := rfl
attribute [local irreducible] C3.rounds C3.state C3.blockTo C3.bytes
set_option maxRecDepth 100000 in
set_option maxHeartbeats 1000000 in
theorem block_c (key nonce : List UInt8) (ctr : UInt32) (hk : key.length = 32) (hn : nonce.length = 12) (w : World) :
    Calls Tryd.prog 87 #[.string ⟨key.toArray⟩, .int .u32 (W32 ctr), .string ⟨nonce.toArray⟩] w fun e w' => e = .returned (.tuple #[.string ⟨(C3.block key ctr nonce).toArray⟩, .int .i64 0]) ∧ Below w.heap.size w w' := by
  have hs := C3.length_state key ctr nonce
  have hr : (C3.rounds (C3.state key ctr nonce) 10).length = 16 := by rw [C3.length_rounds, hs]
  rw [block_def]
  go_enter Tryd.func87, Tryd.ntmps87
  go_wp2_with (first
    | (go_at_call 86; refine (state_c key nonce ctr hk hn _).mono ?_; rintro e w1 ⟨rfl, hb1⟩)
    | (refine st_row rfl (.tmp 8) (.tmp 18) rfl _ _ rfl rfl 132 _ (heap_alloc_new _ _) rfl hs ?_)
    | (refine ld_row rfl (.tmp 8) rfl _ rfl _ 132 ?hld hs ?_)
    | (go_at_call 102; refine (rounds_c _ hs _).mono ?_; rintro e w3 ⟨rfl, hb3⟩)
    | (at_make; refine mk_b rfl _ _ rfl (w1.heap.size + 1) 64 rfl rfl ?hm1 ?hm2 ?hm3))
  case hm1 => omega
  case hm2 => simp
  case hm3 =>
    intro v w2 hown hb2
    have hrow : w2.heap[w1.heap.size]? = some (.cells (row (C3.state key ctr nonce)) 132 (0, 0)) := by rw [hb2.block _ (by omega)]; exact heap_alloc_new _ _
    have hz2 : w1.heap.size + 1 ≤ w2.heap.size := by have := hb2.size; simpa using this
    go_wp2_with (first
      | (refine ld_row rfl (.tmp 8) rfl _ rfl _ 132 hrow hs ?_)
      | (go_at_call 102; refine (rounds_c _ hs _).mono ?_; rintro e w3 ⟨rfl, hb3⟩))
    have hown3 := hown.below hb3
    have hb4 := hb2.trans (hb3.mono hz2)
    have hz3 : w1.heap.size + 1 ≤ w3.heap.size := by have := hb3.size; omega
    have hbw : Below w.heap.size w (w1.alloc (.cells (row (C3.state key ctr nonce)) 132)) := hb1.alloc hb1.size _
    have hsz1 : w.heap.size ≤ w1.heap.size + 1 := by have := hb1.size; omega
    clear hrow hown hb2 hb3 hz2
    go_loopw [26, 10] (fun i v wr => ∃ k : Nat, k ≤ 16 ∧ i = .int .i64 k ∧ OwnB wr (w1.heap.size + 1) v (C3.blockTo (C3.state key ctr nonce) (C3.rounds (C3.state key ctr nonce) 10) k) ∧ Below (w1.heap.size + 1) (w1.alloc (.cells (row (C3.state key ctr nonce)) 132)) wr) (fun i _ _ => 16 - (intOf i).toNat)
    case atStart => exact ⟨0, by omega, rfl, by rw [blockTo_zero]; exact hown3, hb4⟩
    case round =>
      clear hown3 hb4 hz3
      obtain ⟨k, hk16, rfl, ho, hb⟩ := hrel
      by_cases hlt : k < 16
      · have hz : w1.heap.size + 1 ≤ wr.heap.size := by have := hb.size; simpa using this
        have hrow : wr.cell? ⟨w1.heap.size, k, none⟩ = some (.int .u32 (W32 (w16 (C3.state key ctr nonce) k))) := by
          rw [hb.cell (p := ⟨w1.heap.size, k, none⟩) (by show w1.heap.size < _; omega), cell_of_row _ _ _ _ _ _ (heap_alloc_new _ _), row_get _ _ (by rw [hs]; omega)]
        have hl4 := C3.length_blockTo (C3.state key ctr nonce) (C3.rounds (C3.state key ctr nonce) 10) k
        have hix := idx_row (C3.rounds (C3.state key ctr nonce) 10) hr k hlt
        have HL := Lib.hid hl4
        clear hl4
        go_wp2_with (go_at_call 103; refine (put_c _ _ _ _ _ ho (by rw [HL.out]; omega) hz).mono ?_; rintro e w4 ⟨v', rfl, ho', hb'⟩)
        go_roundw
        case rel => exact ⟨k + 1, by omega, by go_num, by rw [blockTo_succ]; exact ho', hb.trans hb'⟩
        case measure => simp [intOf]; omega
      · have he : k = 16 := by omega
        have HE := Lib.hid he
        clear he
        have hcv := conv_own ho
        go_wp2
        go_ret2
        exact ⟨by rw [HE.out]; rfl, hbw.trans (hb.mono hsz1)⟩

set_option maxHeartbeats 1000000 in
theorem block_no (key nonce : List UInt8) (ctr : UInt32) (h : C3.okArgs key nonce = false) (w : World) :
    Calls Tryd.prog 87 #[.string ⟨key.toArray⟩, .int .u32 (W32 ctr), .string ⟨nonce.toArray⟩] w fun e w' => e = .returned (.tuple #[.string ⟨#[]⟩, .int .i64 1]) ∧ Below w.heap.size w w' := by
  go_enter Tryd.func87, Tryd.ntmps87
  go_wp2_with (first
    | (go_at_call 86; refine (state_no key nonce ctr h _).mono ?_; rintro e w1 ⟨rfl, hb1⟩)
    | (refine st_row rfl (.tmp 8) (.tmp 18) rfl _ _ rfl rfl 132 _ (heap_alloc_new _ _) rfl rfl ?_))
  go_ret2
  exact ⟨rfl, hb1.alloc hb1.size _⟩
end Go.Proofs.YtbpjdfnnlmblaaaDoor
/- Xor. -/
namespace Go.Proofs.YtbpjdfnnlmblaaaDoor
open Go.RowKit
set_option linter.unusedSimpArgs false
set_option linter.unusedVariables false

/-- bytes that a conversion of a string laid in block g -/
def TextAt (w : World) (g : Nat) (l : List UInt8) : Prop := ∃ cur : Array Value, w.heap[g]? = some (.cells cur 5 (cur.size, cur.size + 1)) ∧ l.length ≤ cur.size ∧ cur.toList.take l.length = bv l
theorem TextAt.at {w : World} {g : Nat} {l : List UInt8} (h : TextAt w g l) (k : Nat) (hk : k < l.length) : w.cell? ⟨g, k, none⟩ = some (.int .u8 (B8 (byteAt l k))) := by
  obtain ⟨cur, h1, h2, h3⟩ := h
  rw [cell_of_row _ _ _ _ _ _ h1]
  have e : (cur.toList.take l.length)[k]? = (bv l)[k]? := by rw [h3]
  rw [List.getElem?_take, if_pos hk, Array.getElem?_toList] at e
  rw [e]
  simp [bv, byteAt, List.getD_eq_getElem?_getD, List.getElem?_eq_getElem hk]
theorem TextAt.free {w : World} {g : Nat} {l : List UInt8} (h : TextAt w g l) (k : Nat) (hk : k < l.length) : w.frozen? ⟨g, k, none⟩ = false := by
  obtain ⟨cur, h1, h2, h3⟩ := h
  simp [World.frozen?, h1]
  omega
theorem TextAt.set {w : World} {g : Nat} {l : List UInt8} (h : TextAt w g l) (k : Nat) (hk : k < l.length) (x : UInt8) : TextAt (w.setCell ⟨g, k, none⟩ (.int .u8 (B8 x))) g (l.set k x) := by
  obtain ⟨cur, h1, h2, h3⟩ := h
  refine ⟨cur.setIfInBounds k (.int .u8 (B8 x)), ?_, by simpa using h2, ?_⟩
  · rw [setCell_row _ _ _ _ _ _ _ h1, setRow_heap _ _ _ _ _ _ h1, Array.size_setIfInBounds]
  · rw [Array.toList_setIfInBounds, List.length_set, List.take_set, h3]
    simp [bv, List.map_set]
theorem TextAt.keep {w w' : World} {g : Nat} {l : List UInt8} (h : TextAt w g l) (hb : w'.heap[g]? = w.heap[g]?) : TextAt w' g l := by
  obtain ⟨cur, h1, h2, h3⟩ := h
  exact ⟨cur, by rw [hb]; exact h1, h2, h3⟩
theorem TextAt.conv {w : World} {g : Nat} {l : List UInt8} (h : TextAt w g l) (cap : Nat) : (convert 62 9 (.slice (some ⟨g, 0, none⟩) l.length cap)).run Tryd.prog w = .ok (.string ⟨l.toArray⟩) w := by
  rw [← strOf_u8 l]
  refine run_convert_bytes_arg w _ _ Tryd.underlying62 Tryd.underlying5 g 0 _ _ _ (by simp) (fun i hi => ?_) _ Tryd.underlying9
  rw [Nat.zero_add, h.at i hi]
  simp [byteAt, List.getD_eq_getElem?_getD, List.getElem?_eq_getElem hi]
theorem text_new (w : World) (l : List UInt8) : TextAt (Lib.bytesWorld w 5 ⟨l.toArray⟩) w.heap.size l := by
  refine ⟨_, Lib.bytesWorld_at_new w _ _, ?_, ?_⟩
  · simp [Lib.bytesCells]
  · simp only [Lib.bytesCells, Array.toList_append]
    rw [List.take_append_of_le_length (by simp), List.take_of_length_le (by simp)]
    simp [bv, B8]
theorem text_below (w : World) (l : List UInt8) : Below w.heap.size w (Lib.bytesWorld w 5 ⟨l.toArray⟩) :=
  ⟨rfl, rfl, rfl, by rw [Lib.bytesWorld_size]; omega, fun k hk => Lib.bytesWorld_at_old _ _ _ _ hk⟩
theorem conv_str (w : World) (l : List UInt8) : (convert 9 62 (.string ⟨l.toArray⟩)).run Tryd.prog w = .ok (.slice (some ⟨w.heap.size, 0, none⟩) l.length (grownCap w l.length 0 5)) (Lib.bytesWorld w 5 ⟨l.toArray⟩) :=
  Lib.run_convert_string_bytes w _ _ _ _ Tryd.underlying9 Tryd.underlying62 Tryd.underlying5

theorem ok_iff (key nonce : List UInt8) : C3.okArgs key nonce = true → key.length = 32 ∧ nonce.length = 12 := by
  intro h
  simp only [C3.okArgs, Bool.and_eq_true, beq_iff_eq] at h
  exact h

attribute [local irreducible] C3.block C3.mid C3.xorAt
set_option maxRecDepth 100000 in
set_option maxHeartbeats 1000000 in
theorem xor_c (key nonce text : List UInt8) (ctr : UInt32) (hk : key.length = 32) (hn : nonce.length = 12) (ht : text.length ≤ 2000000) (w : World) :
    Calls Tryd.prog 59 #[.string ⟨key.toArray⟩, .int .u32 (W32 ctr), .string ⟨nonce.toArray⟩, .string ⟨text.toArray⟩] w fun e w' => e = .returned (.tuple #[.string ⟨(C3.xorText key ctr nonce text).toArray⟩, .int .i64 0]) ∧ Below w.heap.size w w' := by
  have hs := C3.length_state key ctr nonce
  go_enter Tryd.func59, Tryd.ntmps59
  go_wp2_with (first
    | (go_at_call 86; refine (state_c key nonce ctr hk hn _).mono ?_; rintro e w1 ⟨rfl, hb1⟩; have hcs := conv_str (w1.alloc (.cells (row (C3.state key ctr nonce)) 132)) text)
    | (refine st_row rfl (.tmp 10) (.tmp 20) rfl _ _ rfl rfl 132 _ (heap_alloc_new _ _) rfl hs ?_))
  have hW2 : (w1.alloc (.cells (row (C3.state key ctr nonce)) 132)).heap.size = w1.heap.size + 1 := by simp
  have hT0 := text_new (w1.alloc (.cells (row (C3.state key ctr nonce)) 132)) text
  have hB0 := text_below (w1.alloc (.cells (row (C3.state key ctr nonce)) 132)) text
  have hbw : Below w.heap.size w (w1.alloc (.cells (row (C3.state key ctr nonce)) 132)) := hb1.alloc hb1.size _
  have hsz1 : w.heap.size ≤ w1.heap.size + 1 := by have := hb1.size; omega
  rw [hW2] at hT0 hB0
  clear hcs hW2 hs
  go_loopw [29, 13, 1] (fun i b c wr => ∃ (k : Nat) (bl : List UInt8), k ≤ text.length ∧ i = .int .i64 k ∧ b = .string ⟨bl.toArray⟩ ∧ (k % 64 ≠ 0 → bl = C3.block key (ctr + UInt32.ofNat (k / 64)) nonce) ∧ c = .int .u32 (W32 (ctr + UInt32.ofNat ((k + 63) / 64))) ∧ TextAt wr (w1.heap.size + 1) (C3.mid key ctr nonce text k) ∧ Below (w1.heap.size + 1) (w1.alloc (.cells (row (C3.state key ctr nonce)) 132)) wr) (fun i _ _ _ => text.length - (intOf i).toNat)
  case atStart => exact ⟨0, [], by omega, rfl, rfl, fun h => absurd rfl h, by rw [show ctr + UInt32.ofNat ((0 + 63) / 64) = ctr by simp], by rw [C3.mid_zero]; exact hT0, hB0⟩
  case round =>
    clear hT0 hB0
    obtain ⟨k, bl, hkl, rfl, rfl, hbl, rfl, hT, hb⟩ := hrel
    by_cases hlt : k < text.length
    · have hg : w1.heap.size + 1 < wr.heap.size := by
        obtain ⟨cur, h1, _⟩ := hT
        exact (Array.getElem?_eq_some_iff.1 h1).1
      have hml : k < (C3.mid key ctr nonce text k).length := by rw [C3.length_mid _ _ _ _ _ hkl]; exact hlt
      have hma := C3.mid_at key ctr nonce text k hlt
      have hps := C3.pre_set key ctr nonce text k hlt
      have hxd := C3.xorAt_def key ctr nonce text k
      by_cases hm : k % 64 = 0
      · have hmb : (((k : Int) % 64) == 0) = true := by rw [beq_iff_eq]; omega
        have e1 : (k + 63) / 64 = k / 64 := by omega
        have e2 : (k + 1 + 63) / 64 = k / 64 + 1 := by omega
        have e3 : (k + 1) % 64 ≠ 0 → (k + 1) / 64 = k / 64 := fun _ => by omega
        rw [e1]
        have hB := C3.length_block key (ctr + UInt32.ofNat (k / 64)) nonce
        have hcall := block_c key nonce (ctr + UInt32.ofNat (k / 64)) hk hn
        generalize hBq : C3.block key (ctr + UInt32.ofNat (k / 64)) nonce = blk at hB hcall hxd
        have HB := Lib.hid hBq
        have HX := Lib.hid hxd
        have HM := Lib.hid hma
        have HP := Lib.hid hps
        have HC := Lib.hid hcall
        have HBL := Lib.hid hbl
        have H2 := Lib.hid e2
        have H3 := Lib.hid e3
        have hib : ((k : Int) % 64) < 64 := by omega
        have hin : k % 64 < 64 := by omega
        clear hBq hxd hma hps hcall hbl e1 e2 e3
        go_wp2_with (go_at_call 87; refine (HC.out _).mono ?_; rintro e w4 ⟨rfl, hb4⟩; have hT4 := hT.keep (hb4.block _ hg); have hc := hT4.at k hml; have hf := hT4.free k hml; rw [show byteAt (C3.mid key ctr nonce text k) k = byteAt text k from HM.out] at hc)
        first | refine tail0 10 (by kernel_rfl) (by kernel_rfl) ?_ | refine tailD 10 (by kernel_rfl) (by kernel_rfl) ?_
        simp only [List.take_succ_cons, List.take_zero, List.drop_succ_cons, List.drop_zero]
        repeat (go_big_quiet_step (fail))
        refine wpQuiet_nil ?_
        rintro _ ⟨nq, rfl⟩
        go_wp2
        go_roundw
        case rel =>
          refine ⟨k + 1, blk, by omega, by go_num, rfl, fun h => ?_, ?_, ?_, ?_⟩
          · rw [H3.out h]; exact HB.out.symm
          · rw [H2.out, C3.ctr_succ]
          · rw [← HP.out, HX.out, hm]; exact (hT4.set k hml _).keep rfl
          · exact below_drewN _ ((hb.trans (hb4.mono (by omega))).setCell (Nat.le_refl _) _)
        case measure => simp [intOf]; omega
      · have hmb : (((k : Int) % 64) == 0) = false := by rw [beq_eq_false_iff_ne]; omega
        have e1 : (k + 63) / 64 = k / 64 + 1 := by omega
        have e2 : (k + 1 + 63) / 64 = k / 64 + 1 := by omega
        have e3 : (k + 1) % 64 ≠ 0 → (k + 1) / 64 = k / 64 := fun _ => by omega
        rw [e1]
        have hB := C3.length_block key (ctr + UInt32.ofNat (k / 64)) nonce
        rw [← hbl hm] at hB hxd
        have hbl2 := hbl hm
        have HB := Lib.hid hbl2
        have HX := Lib.hid hxd
        have HP := Lib.hid hps
        have H2 := Lib.hid e2
        have H3 := Lib.hid e3
        have hib : ((k : Int) % 64) < 64 := by omega
        have hin : k % 64 < 64 := by omega
        have hc := hT.at k hml
        have hf := hT.free k hml
        rw [show byteAt (C3.mid key ctr nonce text k) k = byteAt text k from hma] at hc
        clear hxd hma hps hbl e1 e2 e3 hbl2
        go_wp2
        first | refine tail0 10 (by kernel_rfl) (by kernel_rfl) ?_ | refine tailD 10 (by kernel_rfl) (by kernel_rfl) ?_
        simp only [List.take_succ_cons, List.take_zero, List.drop_succ_cons, List.drop_zero]
        repeat (go_big_quiet_step (fail))
        refine wpQuiet_nil ?_
        rintro _ ⟨nq, rfl⟩
        go_wp2
        go_roundw
        case rel =>
          refine ⟨k + 1, bl, by omega, by go_num, rfl, fun h => ?_, ?_, ?_, ?_⟩
          · rw [H3.out h]; exact HB.out
          · rw [H2.out]
          · rw [← HP.out, HX.out]; exact (hT.set k hml _).keep rfl
          · exact below_drewN _ (hb.setCell (Nat.le_refl _) _)
        case measure => simp [intOf]; omega
    · have he : k = text.length := by omega
      have hlm := C3.length_mid key ctr nonce text k hkl
      have hcv := hT.conv (grownCap (w1.alloc (.cells (row (C3.state key ctr nonce)) 132)) text.length 0 5)
      rw [hlm] at hcv
      have HE := Lib.hid he
      clear he hlm
      go_wp2
      go_ret2
      refine ⟨?_, hbw.trans (hb.mono hsz1)⟩
      rw [← C3.mid_all, ← HE.out]
      rfl

set_option maxHeartbeats 1000000 in
theorem xor_no (key nonce text : List UInt8) (ctr : UInt32) (h : C3.okArgs key nonce = false) (w : World) :
    Calls Tryd.prog 59 #[.string ⟨key.toArray⟩, .int .u32 (W32 ctr), .string ⟨nonce.toArray⟩, .string ⟨text.toArray⟩] w fun e w' => e = .returned (.tuple #[.string ⟨#[]⟩, .int .i64 1]) ∧ Below w.heap.size w w' := by
  go_enter Tryd.func59, Tryd.ntmps59
  go_wp2_with (first
    | (go_at_call 86; refine (state_no key nonce ctr h _).mono ?_; rintro e w1 ⟨rfl, hb1⟩)
    | (refine st_row rfl (.tmp 10) (.tmp 20) rfl _ _ rfl rfl 132 _ (heap_alloc_new _ _) rfl rfl ?_))
  go_ret2
  exact ⟨rfl, hb1.alloc hb1.size _⟩

theorem B8_ofNat (k : Nat) (h : k < 256) : B8 (UInt8.ofNat k) = k := by
  simp [B8]; omega
end Go.Proofs.YtbpjdfnnlmblaaaDoor
/-
  DERIVED: THE SHELF's CONTRACTS AT THIS DUMP, IN PLAIN WORDS (tools/lay-plain.mjs out of 'YtbpjdfnnlmblaaaDoorShelf.lean', which tools/lay-shelf.mjs wrote): THE SAME DECLARATIONS UNDER THE SAME NAMES: 'import', 'namespace', 'open', 'def', 'theorem' AND NOTHING ELSE: no command of the shelf's: FOR A HAND-IN. Each laying: the table of numbers ('.._ren') and one theorem, a field a fact of the dump's own or the kernel's comparison; each contract: ONE APPLICATION.
-/
namespace Go.Proofs
open Go.Shelf
def Tryd.lays156_ren : Go.Shelf.Ren := ⟨fun | 156 => 85 | 165 => 76 | 166 => 77 | 169 => 79 | 240 => 98 | 241 => 99 | 276 => 106 | 277 => 107 | n => n, fun | 31 => 71 | 9 => 9 | 3 => 3 | 4 => 4 | 0 => 0 | 20 => 20 | 72 => 119 | 76 => 123 | 70 => 117 | 37 => 62 | 75 => 122 | 127 => 156 | 164 => 162 | 5 => 5 | 80 => 126 | n => n, fun | n => n⟩
theorem Tryd.lays156 : Go.Proofs.Lays.n156 Tryd.prog Tryd.lays156_ren := {
  mixed := by kernel_rfl
  f156 := Tryd.func85.trans (congrArg some (by kernel_rfl))
  f165 := Tryd.func76.trans (congrArg some (by kernel_rfl))
  f166 := Tryd.func77.trans (congrArg some (by kernel_rfl))
  f169 := Tryd.func79.trans (congrArg some (by kernel_rfl))
  f240 := Tryd.func98.trans (congrArg some (by kernel_rfl))
  f241 := Tryd.func99.trans (congrArg some (by kernel_rfl))
  f276 := Tryd.func106.trans (congrArg some (by kernel_rfl))
  f277 := Tryd.func107.trans (congrArg some (by kernel_rfl))
  t0 := Tryd.underlying0
  a0 := Tryd.isAgg0
  z0 := Tryd.sizeOf0
  v0 := Tryd.zeroValue0
  t3 := Tryd.underlying3
  a3 := Tryd.isAgg3
  z3 := Tryd.sizeOf3
  v3 := Tryd.zeroValue3
  t4 := Tryd.underlying4
  a4 := Tryd.isAgg4
  z4 := Tryd.sizeOf4
  v4 := Tryd.zeroValue4
  t9 := Tryd.underlying9
  a9 := Tryd.isAgg9
  z9 := Tryd.sizeOf9
  v9 := Tryd.zeroValue9
  t20 := Tryd.underlying20
  a20 := Tryd.isAgg20
  z20 := Tryd.sizeOf20
  v20 := Tryd.zeroValue20
  t31 := Tryd.underlying71
  a31 := Tryd.isAgg71
  z31 := Tryd.sizeOf71
  v31 := Tryd.zeroValue71
  t37 := Tryd.underlying62
  a37 := Tryd.isAgg62
  z37 := Tryd.sizeOf62
  v37 := Tryd.zeroValue62
  t70 := Tryd.underlying117
  a70 := Tryd.isAgg117
  z70 := Tryd.sizeOf117
  v70 := Tryd.zeroValue117
  t72 := Tryd.underlying119
  a72 := Tryd.isAgg119
  z72 := Tryd.sizeOf119
  v72 := Tryd.zeroValue119
  t75 := Tryd.underlying122
  a75 := Tryd.isAgg122
  z75 := Tryd.sizeOf122
  v75 := Tryd.zeroValue122
  t76 := Tryd.underlying123
  a76 := Tryd.isAgg123
  z76 := Tryd.sizeOf123
  v76 := Tryd.zeroValue123
  t127 := Tryd.underlying156
  a127 := Tryd.isAgg156
  z127 := Tryd.sizeOf156
  v127 := Tryd.zeroValue156
  t164 := Tryd.underlying162
  a164 := Tryd.isAgg162
  z164 := Tryd.sizeOf162
  v164 := Tryd.zeroValue162 }
theorem Tryd.Builder_Extra_156 : Builder.Extra Tryd.prog Tryd.lays156_ren := {
  sizeBuilder := by kernel_rfl
  liesBuilder := by kernel_rfl
  t5 := Tryd.underlying5
  a5 := Tryd.isAgg5
  z5 := Tryd.sizeOf5
  v5 := Tryd.zeroValue5
  infoByte := by kernel_rfl
  cellsByte := by kernel_rfl
  sizeByte := by kernel_rfl
  neB5 := by decide }
open Go.RowKit in
/-- No element: the empty string; the world is as it was. (Whatever the slice's address and capacity: a nil slice too.) (LAID: no walk: one application.) -/
theorem Tryd.strings_Join_none (a : Option Addr) (c : Nat) (sep : ByteArray) (w : World) :
    Calls Tryd.prog 85 #[.slice a 0 c, .string sep] w fun e w' => e = .returned (.string ⟨#[]⟩) ∧ w' = w := Any.strings_Join_none Tryd.lays156 Tryd.Builder_Extra_156 a c sep w
open Go.RowKit in
/-- strings.Join: "Join concatenates the elements of its first argument to create a single string. The separator string sep is placed between elements in the resulting string.": HOWEVER MANY ELEMENTS. Below the heap's end the world is as it was. (LAID: no walk: one application.) -/
theorem Tryd.strings_Join (bk o c : Nat) (xs : List ByteArray) (sep : ByteArray) (w : World) (hcells : ∀ (j : Nat) x, xs[j]? = some x → w.cell? ⟨bk, o + j, none⟩ = some (.string x)) (hbk : bk < w.heap.size) (hN : xs.length ≤ 140737488355328) (hcap : xs.length ≤ c) (hlen : (Lib.join (xs.map (·.data.toList)) sep.data.toList).length ≤ 140737488355328) :
    Calls Tryd.prog 85 #[.slice (some ⟨bk, o, none⟩) xs.length c, .string sep] w fun e w' => e = .returned (.string ⟨(Lib.join (xs.map (·.data.toList)) sep.data.toList).toArray⟩) ∧ Below w.heap.size w w' := Any.strings_Join Tryd.lays156 Tryd.Builder_Extra_156 bk o c xs sep w hcells hbk hN hcap hlen
def Tryd.lays105_ren : Go.Shelf.Ren := ⟨fun | 105 => 43 | 212 => 74 | 99 => 75 | 165 => 76 | 166 => 77 | 170 => 78 | 169 => 79 | 263 => 95 | 264 => 96 | 206 => 97 | 240 => 98 | 241 => 99 | 276 => 106 | 277 => 107 | n => n, fun | 9 => 9 | 3 => 3 | 4 => 4 | 20 => 20 | 0 => 0 | 46 => 113 | 109 => 114 | 5 => 5 | 72 => 119 | 76 => 123 | 51 => 99 | 146 => 152 | 53 => 140 | 148 => 154 | 70 => 117 | 37 => 62 | 75 => 122 | 127 => 156 | 164 => 162 | 80 => 126 | n => n, fun | n => n⟩
theorem Tryd.lays105 : Go.Proofs.Lays.n105 Tryd.prog Tryd.lays105_ren := {
  mixed := by kernel_rfl
  f99 := Tryd.func75.trans (congrArg some (by kernel_rfl))
  f105 := Tryd.func43.trans (congrArg some (by kernel_rfl))
  f165 := Tryd.func76.trans (congrArg some (by kernel_rfl))
  f166 := Tryd.func77.trans (congrArg some (by kernel_rfl))
  f169 := Tryd.func79.trans (congrArg some (by kernel_rfl))
  f170 := Tryd.func78.trans (congrArg some (by kernel_rfl))
  f206 := Tryd.func97.trans (congrArg some (by kernel_rfl))
  f212 := Tryd.func74.trans (congrArg some (by kernel_rfl))
  f240 := Tryd.func98.trans (congrArg some (by kernel_rfl))
  f241 := Tryd.func99.trans (congrArg some (by kernel_rfl))
  f263 := Tryd.func95.trans (congrArg some (by kernel_rfl))
  f264 := Tryd.func96.trans (congrArg some (by kernel_rfl))
  f276 := Tryd.func106.trans (congrArg some (by kernel_rfl))
  f277 := Tryd.func107.trans (congrArg some (by kernel_rfl))
  t0 := Tryd.underlying0
  a0 := Tryd.isAgg0
  z0 := Tryd.sizeOf0
  v0 := Tryd.zeroValue0
  t3 := Tryd.underlying3
  a3 := Tryd.isAgg3
  z3 := Tryd.sizeOf3
  v3 := Tryd.zeroValue3
  t4 := Tryd.underlying4
  a4 := Tryd.isAgg4
  z4 := Tryd.sizeOf4
  v4 := Tryd.zeroValue4
  t5 := Tryd.underlying5
  a5 := Tryd.isAgg5
  z5 := Tryd.sizeOf5
  v5 := Tryd.zeroValue5
  t9 := Tryd.underlying9
  a9 := Tryd.isAgg9
  z9 := Tryd.sizeOf9
  v9 := Tryd.zeroValue9
  t20 := Tryd.underlying20
  a20 := Tryd.isAgg20
  z20 := Tryd.sizeOf20
  v20 := Tryd.zeroValue20
  t37 := Tryd.underlying62
  a37 := Tryd.isAgg62
  z37 := Tryd.sizeOf62
  v37 := Tryd.zeroValue62
  t46 := Tryd.underlying113
  a46 := Tryd.isAgg113
  z46 := Tryd.sizeOf113
  v46 := Tryd.zeroValue113
  t51 := Tryd.underlying99
  a51 := Tryd.isAgg99
  z51 := Tryd.sizeOf99
  v51 := Tryd.zeroValue99
  t53 := Tryd.underlying140
  a53 := Tryd.isAgg140
  z53 := Tryd.sizeOf140
  v53 := Tryd.zeroValue140
  t70 := Tryd.underlying117
  a70 := Tryd.isAgg117
  z70 := Tryd.sizeOf117
  v70 := Tryd.zeroValue117
  t72 := Tryd.underlying119
  a72 := Tryd.isAgg119
  z72 := Tryd.sizeOf119
  v72 := Tryd.zeroValue119
  t75 := Tryd.underlying122
  a75 := Tryd.isAgg122
  z75 := Tryd.sizeOf122
  v75 := Tryd.zeroValue122
  t76 := Tryd.underlying123
  a76 := Tryd.isAgg123
  z76 := Tryd.sizeOf123
  v76 := Tryd.zeroValue123
  t109 := Tryd.underlying114
  a109 := Tryd.isAgg114
  z109 := Tryd.sizeOf114
  v109 := Tryd.zeroValue114
  t127 := Tryd.underlying156
  a127 := Tryd.isAgg156
  z127 := Tryd.sizeOf156
  v127 := Tryd.zeroValue156
  t146 := Tryd.underlying152
  a146 := Tryd.isAgg152
  z146 := Tryd.sizeOf152
  v146 := Tryd.zeroValue152
  t148 := Tryd.underlying154
  a148 := Tryd.isAgg154
  z148 := Tryd.sizeOf154
  v148 := Tryd.zeroValue154
  t164 := Tryd.underlying162
  a164 := Tryd.isAgg162
  z164 := Tryd.sizeOf162
  v164 := Tryd.zeroValue162 }
theorem Tryd.Builder_Extra_105 : Builder.Extra Tryd.prog Tryd.lays105_ren := {
  sizeBuilder := by kernel_rfl
  liesBuilder := by kernel_rfl
  t5 := Tryd.underlying5
  a5 := Tryd.isAgg5
  z5 := Tryd.sizeOf5
  v5 := Tryd.zeroValue5
  infoByte := by kernel_rfl
  cellsByte := by kernel_rfl
  sizeByte := by kernel_rfl
  neB5 := by decide }
open Go.RowKit Go.Lib in
/-- THE MAIN CASE: at least two copies of a string that is not empty. (LAID: no walk: one application.) -/
theorem Tryd.strings_Repeat_main (s : ByteArray) (c : Nat) (w : World) (hc2 : 2 ≤ c) (hc : c ≤ 9223372036854775807) (hlen : s.size * c ≤ 140737488355328) (h0 : 0 < s.size) :
    Calls Tryd.prog 43 #[.string s, .int .i64 c] w fun e w' => e = .returned (.string ⟨(Lib.repeatL s.data.toList c).toArray⟩) ∧ Below w.heap.size w w' := Any.strings_Repeat_main Tryd.lays105 Tryd.Builder_Extra_105 s c w hc2 hc hlen h0
open Go.RowKit Go.Lib in
theorem Tryd.strings_Repeat_zero (s : ByteArray) (w : World) :
    Calls Tryd.prog 43 #[.string s, .int .i64 0] w fun e w' => e = .returned (.string ⟨#[]⟩) ∧ w' = w := Any.strings_Repeat_zero Tryd.lays105 s w
open Go.RowKit Go.Lib in
theorem Tryd.strings_Repeat_one (s : ByteArray) (w : World) :
    Calls Tryd.prog 43 #[.string s, .int .i64 1] w fun e w' => e = .returned (.string s) ∧ w' = w := Any.strings_Repeat_one Tryd.lays105 s w
open Go.RowKit Go.Lib in
/-- Copies of the empty string. (LAID: no walk: one application.) -/
theorem Tryd.strings_Repeat_empty (s : ByteArray) (c : Nat) (w : World) (hc2 : 2 ≤ c) (hc : c ≤ 9223372036854775807) (h0 : s.size = 0) :
    Calls Tryd.prog 43 #[.string s, .int .i64 c] w fun e w' => e = .returned (.string ⟨#[]⟩) ∧ w' = w := Any.strings_Repeat_empty Tryd.lays105 s c w hc2 hc h0
open Go.RowKit Go.Lib in
/-- count < 0: "It panics if count is negative". (LAID: no walk: one application.) -/
theorem Tryd.strings_Repeat_negative (s : ByteArray) (c : Int) (w : World) (hc : c < 0) :
    Calls Tryd.prog 43 #[.string s, .int .i64 c] w fun e w' => e = .panicked [{ v := repeatPanic Tryd.lays105_ren "strings: negative Repeat count", recovered := false }] ∧ w' = w := Any.strings_Repeat_negative Tryd.lays105 s c w hc
open Go.RowKit Go.Lib in
/-- len(s) * count is no int: ".. or if the result of (len(s) * count) overflows". (LAID: no walk: one application.) -/
theorem Tryd.strings_Repeat_overflow (s : ByteArray) (c : Nat) (w : World) (hc : c ≤ 9223372036854775807) (hs : s.size ≤ 9223372036854775807) (hbig : 9223372036854775807 < s.size * c) :
    Calls Tryd.prog 43 #[.string s, .int .i64 c] w fun e w' => e = .panicked [{ v := repeatPanic Tryd.lays105_ren "strings: Repeat output length overflow", recovered := false }] ∧ w' = w := Any.strings_Repeat_overflow Tryd.lays105 s c w hc hs hbig
open Go.RowKit Go.Lib in
/-- **strings.Repeat: count ≥ 0, the result within one allocation: count copies of s.** (LAID: no walk: one application.) -/
theorem Tryd.strings_Repeat (s : ByteArray) (c : Nat) (w : World) (hc : c ≤ 9223372036854775807) (hlen : s.size * c ≤ 140737488355328) :
    Calls Tryd.prog 43 #[.string s, .int .i64 c] w fun e w' => e = .returned (.string ⟨(Lib.repeatL s.data.toList c).toArray⟩) ∧ Below w.heap.size w w' := Any.strings_Repeat Tryd.lays105 Tryd.Builder_Extra_105 s c w hc hlen
end Go.Proofs
