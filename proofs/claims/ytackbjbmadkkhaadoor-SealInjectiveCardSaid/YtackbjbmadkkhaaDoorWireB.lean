/- The program's encoding of a text; the specification's encodings. -/
import Derived.Test.YtackbjbmadkkhaaDoorWireA
namespace Go.Proofs.YtackbjbmadkkhaaDoor
open Go.RowKit
set_option linter.unusedSimpArgs false
set_option linter.unusedVariables false
attribute [local irreducible] Calls
set_option maxRecDepth 100000 in
set_option maxHeartbeats 2000000 in
theorem bytes_c (s : List UInt8) (w : World) (hl : s.length ≤ 100000000) :
    Calls Tryd.prog 19 #[.string ⟨s.toArray⟩] w fun e w' => ∃ v', e = .returned v' ∧ OwnE eB w' w.heap.size v' (encS s) ∧ Below w.heap.size w w' := by
  have HL := Lib.hid hl
  clear hl
  go_enter Tryd.func19, Tryd.ntmps19
  go_wp2_with (first
    | (go_at_call 39; refine (int_c (s.length : Int) (by omega) (by have := HL.out; omega) _).mono ?_; rintro e w1 ⟨v1, rfl, ho1, hb1⟩; have HO1 := Lib.hid ho1; have HB1 := Lib.hid hb1; clear ho1 hb1)
    | (at_builtin; refine app_s rfl (.tmp 5) (.tmp 6) rfl w.heap.size _ (encI (s.length : Int)) rfl HO1.out s rfl (by have := HL.out; have := encI_le (s.length : Int); omega) HB1.out.size ?_; intro v2 w2 ho2 hg2; have HB2 := Lib.hid (HB1.out.trans (HO1.out.below hg2 HB1.out.size)); have HO2 := Lib.hid ho2; clear ho2 hg2))
  go_ret
  exact ⟨_, rfl, HO2.out, HB2.out⟩
theorem b8_sub (c : UInt8) : 255 - B8 c = B8 (c ^^^ 255) := by
  rw [← xor255]
  unfold B8
  have h := c.toNat_lt
  rw [UInt8.toNat_sub]
  show (255 : Int) - (c.toNat : Int) = ((2 ^ 8 - c.toNat + 255) % 2 ^ 8 : Nat)
  omega
theorem leN_b (M j : Nat) : ((M / 256 ^ j : Nat) : Int) % 256 = B8 (UInt8.ofNat (M / 256 ^ j)) := by rw [b8_of]
set_option maxRecDepth 100000 in
set_option maxHeartbeats 4000000 in
theorem int_r (n : Int) (hlo : -9223372036854775808 ≤ n) (hhi : n < 9223372036854775808) (w : World) :
    Calls Tryd.prog 58 #[.int .i64 n] w fun e w' => ∃ v', e = .returned v' ∧ OwnE eB w' w.heap.size v' (encI n) ∧ Below w.heap.size w w' := by
  obtain ⟨M, F, hM, hE, hs⟩ : ∃ (M : Nat) (F : UInt8), M < 9223372036854775808 ∧ encI n = encM M F ∧ ((0 ≤ n ∧ n = M ∧ F = 0) ∨ (n < 0 ∧ (-1 - n) = M ∧ F = 255)) := by
    by_cases h : 0 ≤ n
    · exact ⟨n.toNat, 0, by omega, by unfold encI; rw [if_pos h], .inl ⟨h, by omega, rfl⟩⟩
    · exact ⟨(-1 - n).toNat, 255, by omega, by unfold encI; rw [if_neg h], .inr ⟨by omega, by omega, rfl⟩⟩
  have HE := Lib.hid hE
  have HM := Lib.hid hM
  have HS := Lib.hid hs
  go_enter Tryd.func58, Tryd.ntmps58
  go_upto_if 11 with fail
  go_cut [3, 11] from 12 to 13 (fun m _ wc => m = .int .i64 (M : Int) ∧ wc = w)
  case first =>
    rcases hs with ⟨h0, h1, rfl⟩ | ⟨h0, h1, rfl⟩
    · have i1 : ¬ n < 0 := by omega
      have H1 := Lib.hid h1
      clear h1
      go_wp2
      all_goals go_meet
      case rel => exact ⟨by rw [H1.out], rfl⟩
    · have H1 := Lib.hid h1
      have e1 : IntKind.i64.wrap (-1 - n) = -1 - n := by rw [IntKind.wrap_i64]; omega
      clear h1
      go_wp2
      all_goals go_meet
      case rel => exact ⟨by rw [H1.out], rfl⟩
  case rest =>
    obtain ⟨rfl, hw⟩ := hcut
    rw [hw]
    clear hw hs hE
    go_wp2
    go_loopw [3, 4] (fun o u wr => ∃ j : Nat, (j = 0 ∨ 256 ^ (j - 1) ≤ M) ∧ (∃ x : Int, o = .int .i64 x ∧ Hid (x = ((M / 256 ^ j : Nat) : Int))) ∧ (∃ a cap, u = .slice a j cap) ∧ Hid (OwnE eB wr w.heap.size u (leN M j)) ∧ Hid (Below w.heap.size w wr)) (fun o _ _ => (intOf o).toNat)
    case atStart => exact ⟨0, .inl rfl, ⟨_, rfl, Lib.hid (by simp)⟩, ⟨_, _, rfl⟩, Lib.hid (OwnE.nil _ _), Lib.hid (Below.refl _ _)⟩
    case round =>
      obtain ⟨j, hj, ⟨x, rfl, hx⟩, ⟨a, cap, rfl⟩, hown, hb⟩ := hrel
      have HJ := Lib.hid hj
      have HX0 := hx.out
      have HW := Lib.hid hb.out.size
      have hj8 : j ≤ 8 := by
        rcases hj with rfl | hj
        · omega
        · rcases Nat.lt_or_ge 8 j with h | h
          · exfalso
            have h1 : 256 ^ 8 ≤ 256 ^ (j - 1) := Nat.pow_le_pow_right (by decide) (by omega)
            have h2 : (256 : Nat) ^ 8 = 18446744073709551616 := by decide
            omega
          · exact h
      have HJ8 := Lib.hid hj8
      have hdn := div_next M j
      have hlb := leN_b M j
      have hln := leN_next M j
      have hqm : M / 256 ^ j ≤ M := Nat.div_le_self _ _
      rw [← HX0] at hlb
      generalize hq : M / 256 ^ j = q at hdn hln hqm HX0
      have HXQ := Lib.hid HX0
      have HQ := Lib.hid hq
      generalize hc : UInt8.ofNat (M / 256 ^ j) = c at hlb
      have hc2 : UInt8.ofNat q = c := by rw [← hq]; exact hc
      rw [hc2] at hln
      clear hj hq hc hc2
      by_cases h0 : 0 < q
      · have i1 : (0 : Int) < x := by omega
        have hqi : x < 9223372036854775808 := by omega
        have hqd : Hid (x / 256 = ((q / 256 : Nat) : Int)) := Lib.hid (by omega)
        have em : B8 c % 256 = B8 c := B8_mod c
        have HDN := Lib.hid hdn
        have HLN := Lib.hid hln
        have HP := Lib.hid h0
        clear hdn hln hqm hM h0 hj8 HX0
        go_wp2_with (at_builtin; go_loud (refine app_e eB_ok rfl (.tmp 16) (.tmp 20) rfl w.heap.size _ _ rfl (hown.out.on ((Below.refl _ _).alloc (Nat.le_refl _) _)) (.slice (some ⟨wr.heap.size, 0, none⟩) 1 1) [c] rfl (one_e wr c eB_ok) (by rw [leN_len]; have := HJ8.out; simp; omega) (by have := HW.out; simp; omega) ?_); intro v5 w4 ho4 hg4 hloc; have HB4 := Lib.hid (hb.out.trans (((Below.refl wr.heap.size wr).alloc (Nat.le_refl _) (.cells #[.int .u8 (B8 c)] 5)).mono HW.out |>.trans ((hown.out.on ((Below.refl _ _).alloc (Nat.le_refl _) _)).below hg4 (by have := HW.out; simp; omega)))); have HO4 := Lib.hid ho4; clear ho4 hg4 hloc)
        go_roundw
        case rel =>
          refine ⟨j + 1, .inr ?_, ⟨_, rfl, Lib.hid (by rw [hqd.out, HDN.out])⟩, HO4.out.rd.form1 (by rw [List.length_append, leN_len]; rfl), Lib.hid (by rw [HLN.out]; exact HO4.out), HB4⟩
          have h1 := HQ.out
          have h2 := HP.out
          rw [Nat.add_sub_cancel]
          rw [← h1] at h2
          exact (Nat.div_pos_iff.1 h2).2
        case measure => have := HP.out; have := HXQ.out; simp [intOf]; omega
      · have hq0 : q = 0 := by omega
        subst hq0
        have hx0 : x = 0 := by simpa using HX0
        subst hx0
        have HKN : Hid (nb M = j) := Lib.hid (nb_is M j HJ8.out ((Nat.div_eq_zero_iff.1 HQ.out).resolve_left (Nat.pos_iff_ne_zero.1 (Nat.pow_pos (by decide)))) HJ.out)
        have HLE : Hid (leN M (nb M) = leN M j) := Lib.hid (by rw [HKN.out])
        clear hdn hlb hln hqm h0 hM HX0
        have hji : (j : Int) ≤ 8 := by omega
        go_upto_if 27 with fail
        have hrd := hown.out.rd
        have HDG := Lib.hid (fun (u : World) (h : Below wr.heap.size wr u) => hrd.on h)
        clear hrd
        obtain ⟨hne, hF⟩ : (n < 0 → F = 255) ∧ (¬ n < 0 → F = 0) := ⟨fun h => by rcases HS.out with h1 | h1; omega; exact h1.2.2, fun h => by rcases HS.out with h1 | h1; exact h1.2.2; omega⟩
        have HNE := Lib.hid hne
        have HF := Lib.hid hF
        have HBW := hb
        clear hne hF hown
        go_cut [6, 27] from 28 to 39 (fun u _ wx => (∃ a cap, u = .slice a 1 cap) ∧ Hid (OwnE eB wx wr.heap.size u ((encM M F).take 1)) ∧ Hid (Below wr.heap.size wr wx))
        case first =>
          by_cases hn : n < 0
          · have i1 : ¬ 0 ≤ n := by omega
            have hd1 : 127 - (j : Int) = B8 (UInt8.ofNat (127 - j)) := by rw [b8_of]; omega
            have HT : Hid ((encM M F).take 1 = [UInt8.ofNat (127 - j)]) := Lib.hid (by rw [encM_one, HNE.out hn, HKN.out, head255 j HJ8.out])
            generalize UInt8.ofNat (127 - j) = d at hd1 HT
            have em : B8 d % 256 = B8 d := B8_mod d
            clear hn
            go_wp2_with (at_builtin; go_loud (refine app_e eB_ok rfl (.tmp 34) (.tmp 38) rfl wr.heap.size (.slice none 0 0) [] rfl (OwnE.nil _ _) (.slice (some ⟨wr.heap.size, 0, none⟩) 1 1) [d] rfl (one_e wr d eB_ok) (by simp) (by simp) ?_); intro v5 w4 ho4 hg4 hloc; have HB4 := Lib.hid (((Below.refl wr.heap.size wr).alloc (Nat.le_refl _) (.cells #[.int .u8 (B8 d)] 5)).trans ((OwnE.nil (E := eB) _ wr.heap.size).below hg4 (by simp))); have HO4 : Hid (OwnE eB w4 wr.heap.size v5 [d]) := (Lib.hid ho4); clear ho4 hg4 hloc)
            go_meet
            case rel => exact ⟨HO4.out.rd.form1 rfl, Lib.hid (by rw [HT.out]; exact HO4.out), HB4⟩
          · have i1 : 0 ≤ n := by omega
            have hd1 : 128 + (j : Int) = B8 (UInt8.ofNat (128 + j)) := by rw [b8_of]; omega
            have HT : Hid ((encM M F).take 1 = [UInt8.ofNat (128 + j)]) := Lib.hid (by rw [encM_one, HF.out hn, HKN.out, UInt8.xor_zero])
            generalize UInt8.ofNat (128 + j) = d at hd1 HT
            have em : B8 d % 256 = B8 d := B8_mod d
            clear hn
            go_wp2_with (at_builtin; go_loud (refine app_e eB_ok rfl (.tmp 28) (.tmp 32) rfl wr.heap.size (.slice none 0 0) [] rfl (OwnE.nil _ _) (.slice (some ⟨wr.heap.size, 0, none⟩) 1 1) [d] rfl (one_e wr d eB_ok) (by simp) (by simp) ?_); intro v5 w4 ho4 hg4 hloc; have HB4 := Lib.hid (((Below.refl wr.heap.size wr).alloc (Nat.le_refl _) (.cells #[.int .u8 (B8 d)] 5)).trans ((OwnE.nil (E := eB) _ wr.heap.size).below hg4 (by simp))); have HO4 : Hid (OwnE eB w4 wr.heap.size v5 [d]) := (Lib.hid ho4); clear ho4 hg4 hloc)
            go_meet
            case rel => exact ⟨HO4.out.rd.form1 rfl, Lib.hid (by rw [HT.out]; exact HO4.out), HB4⟩
        case rest =>
          obtain ⟨⟨a6, cap6, rfl⟩, hown6, hb6⟩ := hcut
          obtain ⟨w1, ew1⟩ : ∃ w1, w1 = wr := ⟨_, rfl⟩
          subst ew1
          go_wp2
          go_loopw [7, 6] (fun o u wy => ∃ r : Nat, r ≤ j ∧ o = .int .i64 ((r : Int) - 1) ∧ (∃ a cap, u = .slice a (1 + (j - r)) cap) ∧ Hid (OwnE eB wy w1.heap.size u ((encM M F).take (1 + (j - r)))) ∧ Hid (Below w1.heap.size w1 wy)) (fun o _ _ => (intOf o + 1).toNat)
          case atStart => exact ⟨j, Nat.le_refl _, rfl, ⟨_, _, by rw [Nat.sub_self]⟩, Lib.hid (by rw [Nat.sub_self]; exact hown6.out), hb6⟩
          case round =>
            obtain ⟨r, hr, rfl, ⟨a2, cap2, rfl⟩, hown2, hb2⟩ := hrel
            have HW2 := Lib.hid hb2.out.size
            cases r with
            | zero =>
              have HR : Hid (OwnE eB wr w1.heap.size (.slice a2 (1 + (j - 0)) cap2) (encI n)) := Lib.hid (by have h := hown2.out; rw [← HKN.out, encM_full] at h; rw [HE.out, ← HKN.out]; exact h)
              clear hown6
              go_wp2
              go_ret
              exact ⟨_, rfl, HR.out.mono HW.out, HBW.out.trans (hb2.out.mono HW.out)⟩
            | succ i =>
              have e1 : (((i + 1 : Nat) : Int) - 1) = (i : Int) := by omega
              rw [e1]
              have hrd := HDG.out wr hb2.out
              have hij : i < j := by omega
              obtain ⟨b, off, rfl, hbl, hc⟩ := RdB_cells hrd (by rw [leN_len]; omega)
              have hci := hc i (by rw [leN_len]; exact hij)
              rw [leN_at M j i hij] at hci
              have i3 : (i : Int) < (j : Int) := by omega
              have et := encM_next M F (i + 1) (by omega) (by rw [HKN.out]; omega)
              rw [HKN.out, Nat.add_sub_cancel] at et
              have ET := Lib.hid et
              have HR := Lib.hid hr
              generalize UInt8.ofNat (M / 256 ^ i) = c at hci ET et
              have hfr : True := trivial
              clear hrd hc et hr hown6 hfr
              by_cases hn : n < 0
              · have hF := HNE.out hn
                subst hF
                have hsub : 255 - B8 c = B8 (c ^^^ 255) := b8_sub c
                have em : B8 (c ^^^ 255) % 256 = B8 (c ^^^ 255) := B8_mod _
                go_wp2_with (at_builtin; go_loud (refine app_e eB_ok rfl (.tmp 54) (.tmp 56) rfl w1.heap.size _ _ rfl (hown2.out.on ((Below.refl _ _).alloc (Nat.le_refl _) _)) (.slice (some ⟨wr.heap.size, 0, none⟩) 1 1) [c ^^^ 255] rfl (one_e wr (c ^^^ 255) eB_ok) (by rw [List.length_take, encM_len]; have := nb_le M; simp; omega) (by have := HW2.out; simp; omega) ?_); intro v5 w4 ho4 hg4 hloc; have HB4 := Lib.hid (hb2.out.trans (((Below.refl wr.heap.size wr).alloc (Nat.le_refl _) (.cells #[.int .u8 (B8 (c ^^^ 255))] 5)).mono HW2.out |>.trans ((hown2.out.on ((Below.refl _ _).alloc (Nat.le_refl _) _)).below hg4 (by have := HW2.out; simp; omega)))); have HO4 := Lib.hid ho4; clear ho4 hg4 hloc)
                go_roundw
                case rel => exact ⟨i, by have := HR.out; omega, by go_num, HO4.out.rd.form1 (by rw [List.length_append, List.length_take, encM_len]; have := HR.out; have := HKN.out; simp; omega), Lib.hid (by rw [ET.out]; exact HO4.out), HB4⟩
                case measure => simp [intOf]
              · have hF := HF.out (by omega)
                subst hF
                rw [UInt8.xor_zero] at ET
                go_wp2_with (at_builtin; go_loud (refine app_e eB_ok rfl (.tmp 54) (.tmp 56) rfl w1.heap.size _ _ rfl (hown2.out.on ((Below.refl _ _).alloc (Nat.le_refl _) _)) (.slice (some ⟨wr.heap.size, 0, none⟩) 1 1) [c] rfl (one_e wr (c) eB_ok) (by rw [List.length_take, encM_len]; have := nb_le M; simp; omega) (by have := HW2.out; simp; omega) ?_); intro v5 w4 ho4 hg4 hloc; have HB4 := Lib.hid (hb2.out.trans (((Below.refl wr.heap.size wr).alloc (Nat.le_refl _) (.cells #[.int .u8 (B8 (c))] 5)).mono HW2.out |>.trans ((hown2.out.on ((Below.refl _ _).alloc (Nat.le_refl _) _)).below hg4 (by have := HW2.out; simp; omega)))); have HO4 := Lib.hid ho4; clear ho4 hg4 hloc)
                go_roundw
                case rel => exact ⟨i, by have := HR.out; omega, by go_num, HO4.out.rd.form1 (by rw [List.length_append, List.length_take, encM_len]; have := HR.out; have := HKN.out; simp; omega), Lib.hid (by rw [ET.out]; exact HO4.out), HB4⟩
                case measure => simp [intOf]
set_option maxRecDepth 100000 in
set_option maxHeartbeats 2000000 in
theorem bytes_r (s : List UInt8) (w : World) (hl : s.length ≤ 100000) :
    Calls Tryd.prog 43 #[.string ⟨s.toArray⟩] w fun e w' => ∃ v', e = .returned v' ∧ OwnE eB w' w.heap.size v' (encS s) ∧ Below w.heap.size w w' := by
  have HL := Lib.hid hl
  clear hl
  go_enter Tryd.func43, Tryd.ntmps43
  go_wp2_with (first
    | (go_at_call 58; refine (int_r (s.length : Int) (by omega) (by have := HL.out; omega) _).mono ?_; rintro e w1 ⟨v1, rfl, ho1, hb1⟩; have HO1 := Lib.hid ho1; have HB1 := Lib.hid hb1; clear ho1 hb1; have hcv := conv_sb w1 s; have HSB := Lib.hid (sb_below w1 s); have HRD := Lib.hid (sb_rd w1 s (by have := HL.out; unfold maxLen; omega)); generalize Lib.bytesWorld w1 5 ⟨s.toArray⟩ = ws at hcv HSB HRD)
    | (at_builtin; refine app_e eB_ok rfl (.tmp 5) (.tmp 7) rfl w.heap.size _ (encI (s.length : Int)) rfl (HO1.out.on HSB.out) _ s rfl HRD.out (by have := HL.out; have := encI_le (s.length : Int); omega) (Nat.le_trans HB1.out.size HSB.out.size) ?_; intro v2 w2 ho2 hg2 hloc; have HB2 := Lib.hid ((HB1.out.trans (HSB.out.mono HB1.out.size)).trans ((HO1.out.on HSB.out).below hg2 (Nat.le_trans HB1.out.size HSB.out.size))); have HO2 := Lib.hid ho2; clear ho2 hg2 hloc))
  go_ret
  exact ⟨_, rfl, HO2.out, HB2.out⟩
end Go.Proofs.YtackbjbmadkkhaaDoor
