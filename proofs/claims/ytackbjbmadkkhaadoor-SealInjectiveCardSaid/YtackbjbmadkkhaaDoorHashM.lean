/- The specification's padding. -/
import Derived.Test.YtackbjbmadkkhaaDoorHashL
namespace Go.Proofs.YtackbjbmadkkhaaDoor
open Go.RowKit
set_option linter.unusedSimpArgs false
set_option linter.unusedVariables false
attribute [local irreducible] Calls
set_option maxRecDepth 100000 in
set_option maxHeartbeats 4000000 in
theorem padded_r (v : Value) (m : List UInt8) (w : World) (hv : RdE eB w v m) (hlen : m.length ≤ 500000) :
    Calls Tryd.prog 52 #[v] w fun e w' => ∃ v', e = .returned v' ∧ OwnE eB w' w.heap.size v' (padd m) ∧ Below w.heap.size w w' := by
  have HV := Lib.hid hv
  obtain ⟨av, capv, rfl, hcapv, hcmv, _⟩ := hv
  have HLEN := Lib.hid hlen
  have HE := Lib.hid (empty_e (E := eB) w rfl)
  have hml : (m.length : Int) ≤ 500000 := by omega
  have HB0 := Lib.hid ((Below.refl w.heap.size w).alloc (Nat.le_refl _) (.cells #[] 5))
  have HVA := Lib.hid (HV.out.alloc (.cells #[] 5))
  clear hcapv hcmv
  go_enter Tryd.func52, Tryd.ntmps52
  go_wp2_with (first
    | (at_builtin; refine app_e eB_ok rfl (.tmp 6) (.tmp 7) rfl w.heap.size _ [] rfl HE.out (.slice av m.length capv) m rfl HVA.out (by have := HLEN.out; simp; omega) (by simp) ?_; intro v1 w1 ho1 hg1 hloc1; have HB1 := Lib.hid (HB0.out.trans (HE.out.below hg1 (by simp))); have HO1 : Hid (OwnE eB w1 w.heap.size v1 m) := (Lib.hid ho1); obtain ⟨a1, c1, rfl⟩ := ho1.rd.form1 (n := m.length) (by simp); clear ho1 hg1 hloc1)
    | (at_builtin; refine app_e eB_ok rfl (.tmp 9) (.tmp 10) rfl w.heap.size _ m rfl (HO1.out.on ((Below.refl _ _).alloc (Nat.le_refl _) _)) (.slice (some ⟨w1.heap.size, 0, none⟩) 1 1) [128] rfl (one_e w1 (128 : UInt8) eB_ok) (by have := HLEN.out; simp; omega) (by have := HB1.out.size; simp; omega) ?_; intro v2 w2 ho2 hg2 hloc2; have HB2 := Lib.hid (HB1.out.trans (((Below.refl _ _).alloc (Nat.le_refl _) (.cells #[.int .u8 128] 5)).mono HB1.out.size |>.trans ((HO1.out.on ((Below.refl _ _).alloc (Nat.le_refl _) _)).below hg2 (by have := HB1.out.size; simp; omega)))); have HO2 : Hid (OwnE eB w2 w.heap.size v2 (m ++ [128])) := (Lib.hid ho2); obtain ⟨a2, c2, rfl⟩ := ho2.rd.form1 (n := m.length + 1) (by simp); clear ho2 hg2 hloc2))
  go_loopw [3] (fun o wr => ∃ j : Nat, j ≤ zpad m.length ∧ (∃ a cap, o = .slice a (m.length + 1 + j) cap) ∧ Hid (OwnE eB wr w.heap.size o (m ++ [128] ++ List.replicate j 0)) ∧ Hid (Below w.heap.size w wr)) (fun o _ => 1000000 - sliceLen o)
  case atStart => exact ⟨0, Nat.zero_le _, ⟨_, _, rfl⟩, by simpa using HO2, HB2⟩
  case round =>
    obtain ⟨j, hj, ⟨a, cap, rfl⟩, hown, hbw⟩ := hrel
    have hzl := zpad_lt m.length
    have hz1 := zpad_at m.length j hj
    have HW := Lib.hid hbw.out.size
    have jb2 : (j : Int) ≤ 63 := by omega
    by_cases hq : j = zpad m.length
    · have tq : ((m.length : Int) + 1 + (j : Int)) % 64 = 56 := by have := hz1.2 hq; omega
      have tq2 : (((m.length : Int) + 1 + (j : Int)) % 64 != 56) = false := by rw [tq]; rfl
      have HQ := Lib.hid hq
      have hmul : (8 : Int) * (m.length : Int) % 18446744073709551616 = ((8 * m.length : Nat) : Int) := by omega
      clear hz1 tq hj hq
      go_wp2
      have hown1 : Hid (OwnE eB wr w.heap.size (.slice a (m.length + 1 + j) cap) (m ++ [128] ++ List.replicate (zpad m.length) 0)) := Lib.hid (by rw [← HQ.out]; exact hown.out)
      have HPL : Hid ((m ++ [128] ++ List.replicate (zpad m.length) 0 : List UInt8).length = m.length + 1 + j) := Lib.hid (by have := HQ.out; simp; omega)
      have HP0 : Hid ((m ++ [128] ++ List.replicate (zpad m.length) 0 : List UInt8).length ≤ 600000) := Lib.hid (by have := zpad_lt m.length; have := HLEN.out; simp; omega)
      have HPD : Hid ((m ++ [128] ++ List.replicate (zpad m.length) 0) ++ be8 (8 * m.length) = padd m) := Lib.hid (by unfold padd; simp only [List.append_assoc])
      generalize (m ++ [128] ++ List.replicate (zpad m.length) 0 : List UInt8) = P0 at hown1 HP0 HPL HPD
      have hn0 : 0 ≤ 8 * (m.length : Int) := by omega
      have hn1 : 8 * (m.length : Int) < 18446744073709551616 := by omega
      clear hml hlen hmul
      generalize hNI : 8 * (m.length : Int) = NI at hn0 hn1 ⊢
      have HNI : Hid (NI = 8 * (m.length : Int)) := Lib.hid hNI.symm
      clear hNI
      go_loopw [5, 3] (fun o u wr => ∃ i : Nat, i ≤ 8 ∧ o = .int .i64 i ∧ (∃ a cap, u = .slice a (m.length + 1 + j + i) cap) ∧ Hid (OwnE eB wr w.heap.size u (P0 ++ (be8 (8 * m.length)).take i)) ∧ Hid (Below w.heap.size w wr)) (fun o _ _ => 8 - (intOf o).toNat)
      case atStart => exact ⟨0, by omega, rfl, ⟨_, _, rfl⟩, by simpa using hown1, hbw⟩
      case round =>
        obtain ⟨i, hi, rfl, ⟨a2, cap2, rfl⟩, hown2, hbw2⟩ := hrel
        have HW3 := Lib.hid hbw2.out.size
        rcases (by omega : i = 0 ∨ i = 1 ∨ i = 2 ∨ i = 3 ∨ i = 4 ∨ i = 5 ∨ i = 6 ∨ i = 7 ∨ i = 8) with rfl | rfl | rfl | rfl | rfl | rfl | rfl | rfl | rfl
        · have et : (be8 (8 * m.length)).take (0 + 1) = (be8 (8 * m.length)).take 0 ++ [UInt8.ofNat (8 * m.length / 2 ^ 56)] := rfl
          have ev : NI / 72057594037927936 % 256 = B8 (UInt8.ofNat (8 * m.length / 2 ^ 56)) := by rw [b8_of, HNI.out]; omega
          have ev0 : NI / 72057594037927936 = B8 (UInt8.ofNat (8 * m.length / 2 ^ 56)) := by rw [← ev]; omega
          generalize hc : UInt8.ofNat (8 * m.length / 2 ^ 56) = c at et ev ev0
          have em : B8 c % 256 = B8 c := B8_mod c
          have ET := Lib.hid et
          clear et hc
          go_wp2_with (at_builtin; go_loud (refine app_e eB_ok rfl (.tmp 27) (.tmp 34) rfl w.heap.size _ _ rfl (hown2.out.on ((Below.refl _ _).alloc (Nat.le_refl _) _)) (.slice (some ⟨wr.heap.size, 0, none⟩) 1 1) [c] rfl (one_e wr c eB_ok) (by have := HP0.out; simp; omega) (by have := HW3.out; simp; omega) ?_); intro v5 w4 ho4 hg4 hloc; have HB4 := Lib.hid (hbw2.out.trans (((Below.refl wr.heap.size wr).alloc (Nat.le_refl _) (.cells #[.int .u8 (B8 c)] 5)).mono HW3.out |>.trans ((hown2.out.on ((Below.refl _ _).alloc (Nat.le_refl _) _)).below hg4 (by have := HW3.out; simp; omega)))); have HO4 := Lib.hid ho4; clear ho4 hg4 hloc)
          go_roundw
          case rel => exact ⟨1, by decide, by go_num, HO4.out.rd.form1 (by have := HP0.out; have := HPL.out; simp [be8]; omega), Lib.hid (by have h := HO4.out; rw [List.append_assoc, ← ET.out] at h; exact h), HB4⟩
          case measure => simp [intOf]
        · have et : (be8 (8 * m.length)).take (1 + 1) = (be8 (8 * m.length)).take 1 ++ [UInt8.ofNat (8 * m.length / 2 ^ 48)] := rfl
          have ev : NI / 281474976710656 % 256 = B8 (UInt8.ofNat (8 * m.length / 2 ^ 48)) := by rw [b8_of, HNI.out]; omega
          skip
          generalize hc : UInt8.ofNat (8 * m.length / 2 ^ 48) = c at et ev 
          have em : B8 c % 256 = B8 c := B8_mod c
          have ET := Lib.hid et
          clear et hc
          go_wp2_with (at_builtin; go_loud (refine app_e eB_ok rfl (.tmp 27) (.tmp 34) rfl w.heap.size _ _ rfl (hown2.out.on ((Below.refl _ _).alloc (Nat.le_refl _) _)) (.slice (some ⟨wr.heap.size, 0, none⟩) 1 1) [c] rfl (one_e wr c eB_ok) (by have := HP0.out; simp; omega) (by have := HW3.out; simp; omega) ?_); intro v5 w4 ho4 hg4 hloc; have HB4 := Lib.hid (hbw2.out.trans (((Below.refl wr.heap.size wr).alloc (Nat.le_refl _) (.cells #[.int .u8 (B8 c)] 5)).mono HW3.out |>.trans ((hown2.out.on ((Below.refl _ _).alloc (Nat.le_refl _) _)).below hg4 (by have := HW3.out; simp; omega)))); have HO4 := Lib.hid ho4; clear ho4 hg4 hloc)
          go_roundw
          case rel => exact ⟨2, by decide, by go_num, HO4.out.rd.form1 (by have := HP0.out; have := HPL.out; simp [be8]; omega), Lib.hid (by have h := HO4.out; rw [List.append_assoc, ← ET.out] at h; exact h), HB4⟩
          case measure => simp [intOf]
        · have et : (be8 (8 * m.length)).take (2 + 1) = (be8 (8 * m.length)).take 2 ++ [UInt8.ofNat (8 * m.length / 2 ^ 40)] := rfl
          have ev : NI / 1099511627776 % 256 = B8 (UInt8.ofNat (8 * m.length / 2 ^ 40)) := by rw [b8_of, HNI.out]; omega
          skip
          generalize hc : UInt8.ofNat (8 * m.length / 2 ^ 40) = c at et ev 
          have em : B8 c % 256 = B8 c := B8_mod c
          have ET := Lib.hid et
          clear et hc
          go_wp2_with (at_builtin; go_loud (refine app_e eB_ok rfl (.tmp 27) (.tmp 34) rfl w.heap.size _ _ rfl (hown2.out.on ((Below.refl _ _).alloc (Nat.le_refl _) _)) (.slice (some ⟨wr.heap.size, 0, none⟩) 1 1) [c] rfl (one_e wr c eB_ok) (by have := HP0.out; simp; omega) (by have := HW3.out; simp; omega) ?_); intro v5 w4 ho4 hg4 hloc; have HB4 := Lib.hid (hbw2.out.trans (((Below.refl wr.heap.size wr).alloc (Nat.le_refl _) (.cells #[.int .u8 (B8 c)] 5)).mono HW3.out |>.trans ((hown2.out.on ((Below.refl _ _).alloc (Nat.le_refl _) _)).below hg4 (by have := HW3.out; simp; omega)))); have HO4 := Lib.hid ho4; clear ho4 hg4 hloc)
          go_roundw
          case rel => exact ⟨3, by decide, by go_num, HO4.out.rd.form1 (by have := HP0.out; have := HPL.out; simp [be8]; omega), Lib.hid (by have h := HO4.out; rw [List.append_assoc, ← ET.out] at h; exact h), HB4⟩
          case measure => simp [intOf]
        · have et : (be8 (8 * m.length)).take (3 + 1) = (be8 (8 * m.length)).take 3 ++ [UInt8.ofNat (8 * m.length / 2 ^ 32)] := rfl
          have ev : NI / 4294967296 % 256 = B8 (UInt8.ofNat (8 * m.length / 2 ^ 32)) := by rw [b8_of, HNI.out]; omega
          skip
          generalize hc : UInt8.ofNat (8 * m.length / 2 ^ 32) = c at et ev 
          have em : B8 c % 256 = B8 c := B8_mod c
          have ET := Lib.hid et
          clear et hc
          go_wp2_with (at_builtin; go_loud (refine app_e eB_ok rfl (.tmp 27) (.tmp 34) rfl w.heap.size _ _ rfl (hown2.out.on ((Below.refl _ _).alloc (Nat.le_refl _) _)) (.slice (some ⟨wr.heap.size, 0, none⟩) 1 1) [c] rfl (one_e wr c eB_ok) (by have := HP0.out; simp; omega) (by have := HW3.out; simp; omega) ?_); intro v5 w4 ho4 hg4 hloc; have HB4 := Lib.hid (hbw2.out.trans (((Below.refl wr.heap.size wr).alloc (Nat.le_refl _) (.cells #[.int .u8 (B8 c)] 5)).mono HW3.out |>.trans ((hown2.out.on ((Below.refl _ _).alloc (Nat.le_refl _) _)).below hg4 (by have := HW3.out; simp; omega)))); have HO4 := Lib.hid ho4; clear ho4 hg4 hloc)
          go_roundw
          case rel => exact ⟨4, by decide, by go_num, HO4.out.rd.form1 (by have := HP0.out; have := HPL.out; simp [be8]; omega), Lib.hid (by have h := HO4.out; rw [List.append_assoc, ← ET.out] at h; exact h), HB4⟩
          case measure => simp [intOf]
        · have et : (be8 (8 * m.length)).take (4 + 1) = (be8 (8 * m.length)).take 4 ++ [UInt8.ofNat (8 * m.length / 2 ^ 24)] := rfl
          have ev : NI / 16777216 % 256 = B8 (UInt8.ofNat (8 * m.length / 2 ^ 24)) := by rw [b8_of, HNI.out]; omega
          skip
          generalize hc : UInt8.ofNat (8 * m.length / 2 ^ 24) = c at et ev 
          have em : B8 c % 256 = B8 c := B8_mod c
          have ET := Lib.hid et
          clear et hc
          go_wp2_with (at_builtin; go_loud (refine app_e eB_ok rfl (.tmp 27) (.tmp 34) rfl w.heap.size _ _ rfl (hown2.out.on ((Below.refl _ _).alloc (Nat.le_refl _) _)) (.slice (some ⟨wr.heap.size, 0, none⟩) 1 1) [c] rfl (one_e wr c eB_ok) (by have := HP0.out; simp; omega) (by have := HW3.out; simp; omega) ?_); intro v5 w4 ho4 hg4 hloc; have HB4 := Lib.hid (hbw2.out.trans (((Below.refl wr.heap.size wr).alloc (Nat.le_refl _) (.cells #[.int .u8 (B8 c)] 5)).mono HW3.out |>.trans ((hown2.out.on ((Below.refl _ _).alloc (Nat.le_refl _) _)).below hg4 (by have := HW3.out; simp; omega)))); have HO4 := Lib.hid ho4; clear ho4 hg4 hloc)
          go_roundw
          case rel => exact ⟨5, by decide, by go_num, HO4.out.rd.form1 (by have := HP0.out; have := HPL.out; simp [be8]; omega), Lib.hid (by have h := HO4.out; rw [List.append_assoc, ← ET.out] at h; exact h), HB4⟩
          case measure => simp [intOf]
        · have et : (be8 (8 * m.length)).take (5 + 1) = (be8 (8 * m.length)).take 5 ++ [UInt8.ofNat (8 * m.length / 2 ^ 16)] := rfl
          have ev : NI / 65536 % 256 = B8 (UInt8.ofNat (8 * m.length / 2 ^ 16)) := by rw [b8_of, HNI.out]; omega
          skip
          generalize hc : UInt8.ofNat (8 * m.length / 2 ^ 16) = c at et ev 
          have em : B8 c % 256 = B8 c := B8_mod c
          have ET := Lib.hid et
          clear et hc
          go_wp2_with (at_builtin; go_loud (refine app_e eB_ok rfl (.tmp 27) (.tmp 34) rfl w.heap.size _ _ rfl (hown2.out.on ((Below.refl _ _).alloc (Nat.le_refl _) _)) (.slice (some ⟨wr.heap.size, 0, none⟩) 1 1) [c] rfl (one_e wr c eB_ok) (by have := HP0.out; simp; omega) (by have := HW3.out; simp; omega) ?_); intro v5 w4 ho4 hg4 hloc; have HB4 := Lib.hid (hbw2.out.trans (((Below.refl wr.heap.size wr).alloc (Nat.le_refl _) (.cells #[.int .u8 (B8 c)] 5)).mono HW3.out |>.trans ((hown2.out.on ((Below.refl _ _).alloc (Nat.le_refl _) _)).below hg4 (by have := HW3.out; simp; omega)))); have HO4 := Lib.hid ho4; clear ho4 hg4 hloc)
          go_roundw
          case rel => exact ⟨6, by decide, by go_num, HO4.out.rd.form1 (by have := HP0.out; have := HPL.out; simp [be8]; omega), Lib.hid (by have h := HO4.out; rw [List.append_assoc, ← ET.out] at h; exact h), HB4⟩
          case measure => simp [intOf]
        · have et : (be8 (8 * m.length)).take (6 + 1) = (be8 (8 * m.length)).take 6 ++ [UInt8.ofNat (8 * m.length / 2 ^ 8)] := rfl
          have ev : NI / 256 % 256 = B8 (UInt8.ofNat (8 * m.length / 2 ^ 8)) := by rw [b8_of, HNI.out]; omega
          skip
          generalize hc : UInt8.ofNat (8 * m.length / 2 ^ 8) = c at et ev 
          have em : B8 c % 256 = B8 c := B8_mod c
          have ET := Lib.hid et
          clear et hc
          go_wp2_with (at_builtin; go_loud (refine app_e eB_ok rfl (.tmp 27) (.tmp 34) rfl w.heap.size _ _ rfl (hown2.out.on ((Below.refl _ _).alloc (Nat.le_refl _) _)) (.slice (some ⟨wr.heap.size, 0, none⟩) 1 1) [c] rfl (one_e wr c eB_ok) (by have := HP0.out; simp; omega) (by have := HW3.out; simp; omega) ?_); intro v5 w4 ho4 hg4 hloc; have HB4 := Lib.hid (hbw2.out.trans (((Below.refl wr.heap.size wr).alloc (Nat.le_refl _) (.cells #[.int .u8 (B8 c)] 5)).mono HW3.out |>.trans ((hown2.out.on ((Below.refl _ _).alloc (Nat.le_refl _) _)).below hg4 (by have := HW3.out; simp; omega)))); have HO4 := Lib.hid ho4; clear ho4 hg4 hloc)
          go_roundw
          case rel => exact ⟨7, by decide, by go_num, HO4.out.rd.form1 (by have := HP0.out; have := HPL.out; simp [be8]; omega), Lib.hid (by have h := HO4.out; rw [List.append_assoc, ← ET.out] at h; exact h), HB4⟩
          case measure => simp [intOf]
        · have et : (be8 (8 * m.length)).take (7 + 1) = (be8 (8 * m.length)).take 7 ++ [UInt8.ofNat (8 * m.length / 2 ^ 0)] := rfl
          have ev : NI % 256 = B8 (UInt8.ofNat (8 * m.length / 2 ^ 0)) := by rw [b8_of, HNI.out]; omega
          skip
          generalize hc : UInt8.ofNat (8 * m.length / 2 ^ 0) = c at et ev 
          have em : B8 c % 256 = B8 c := B8_mod c
          have ET := Lib.hid et
          clear et hc
          go_wp2_with (at_builtin; go_loud (refine app_e eB_ok rfl (.tmp 27) (.tmp 34) rfl w.heap.size _ _ rfl (hown2.out.on ((Below.refl _ _).alloc (Nat.le_refl _) _)) (.slice (some ⟨wr.heap.size, 0, none⟩) 1 1) [c] rfl (one_e wr c eB_ok) (by have := HP0.out; simp; omega) (by have := HW3.out; simp; omega) ?_); intro v5 w4 ho4 hg4 hloc; have HB4 := Lib.hid (hbw2.out.trans (((Below.refl wr.heap.size wr).alloc (Nat.le_refl _) (.cells #[.int .u8 (B8 c)] 5)).mono HW3.out |>.trans ((hown2.out.on ((Below.refl _ _).alloc (Nat.le_refl _) _)).below hg4 (by have := HW3.out; simp; omega)))); have HO4 := Lib.hid ho4; clear ho4 hg4 hloc)
          go_roundw
          case rel => exact ⟨8, by decide, by go_num, HO4.out.rd.form1 (by have := HP0.out; have := HPL.out; simp [be8]; omega), Lib.hid (by have h := HO4.out; rw [List.append_assoc, ← ET.out] at h; exact h), HB4⟩
          case measure => simp [intOf]
        · have HR : Hid (OwnE eB wr w.heap.size (.slice a2 (m.length + 1 + j + 8) cap2) (padd m)) := Lib.hid (by rw [← HPD.out]; exact hown2.out)
          go_wp2
          go_ret
          exact ⟨_, rfl, HR.out, hbw2.out⟩
    · have tq : ¬ ((m.length : Int) + 1 + (j : Int)) % 64 = 56 := by intro h; exact hq (hz1.1 (by omega))
      have tq2 : (((m.length : Int) + 1 + (j : Int)) % 64 != 56) = true := by simpa using tq
      have HJ : Hid (j + 1 ≤ zpad m.length) := Lib.hid (by omega)
      clear hz1 hq tq hj
      go_wp2_with (at_builtin; (refine app_e eB_ok rfl (.tmp 16) (.tmp 17) rfl w.heap.size (.slice a (m.length + 1 + j) cap) (m ++ [128] ++ List.replicate j 0) rfl (hown.out.on ((Below.refl _ _).alloc (Nat.le_refl _) _)) (.slice (some ⟨wr.heap.size, 0, none⟩) 1 1) [0] rfl (one_e wr (0 : UInt8) eB_ok) (by simp; have := zpad_lt m.length; have := HJ.out; have := HLEN.out; omega) (by have := HW.out; simp; omega) ?_); intro v5 w4 ho4 hg4 hloc; have HB4 := Lib.hid (hbw.out.trans (((Below.refl wr.heap.size wr).alloc (Nat.le_refl _) (.cells #[.int .u8 0] 5)).mono HW.out |>.trans ((hown.out.on ((Below.refl _ _).alloc (Nat.le_refl _) _)).below hg4 (by have := HW.out; simp; omega)))); have HO4 := Lib.hid ho4; clear ho4 hg4 hloc)
      go_roundw
      case rel => exact ⟨j + 1, HJ.out, HO4.out.rd.form1 (by simp; omega), Lib.hid (by have h := HO4.out; rw [List.append_assoc, ← List.replicate_succ'] at h; exact h), HB4⟩
      case measure =>
        obtain ⟨a5, c5, e5⟩ := HO4.out.rd.form1 (n := m.length + 1 + j + 1) (by simp; omega)
        have := HJ.out
        have := zpad_lt m.length
        have := HLEN.out
        show 1000000 - sliceLen v5 < 1000000 - sliceLen (.slice a (m.length + 1 + j) cap)
        rw [e5]
        simp only [sliceLen]
        omega
end Go.Proofs.YtackbjbmadkkhaaDoor
