/- The specification's authentication code. -/
import Derived.Test.YtackbjbmadkkhaaDoorHashN
import Derived.Lib.AppendStr
namespace Go.Proofs.YtackbjbmadkkhaaDoor
open Go.RowKit
set_option linter.unusedSimpArgs false
set_option linter.unusedVariables false
theorem strCells_bcs (l : List UInt8) : Lib.strCells ⟨l.toArray⟩ = eB.flat l := by rw [flat_b]; rfl
/-- append of a text to bytes of one's own -/
theorem app_s {w : World} {ops : Array Oper} {rest : List Oper} {o : Oper} {a : Act} {Q : Exit → Act → World → Prop} (hgd : o.guard = none) (s x : Operand)
    (ho : o.op = .call { callee := .builtin .append, args := #[s, x], argTypes := #[35, 9] })
    (base : Nat) (v : Value) (l : List UInt8) (hs : a.eval s = v) (hown : OwnE eB w base v l) (t : List UInt8) (hx : a.eval x = .string ⟨t.toArray⟩)
    (hsz : l.length + t.length ≤ 1000000000) (hbase : base ≤ w.heap.size)
    (h : ∀ v' w', OwnE eB w' base v' (l ++ t) → w.grownBy w' v.ownBlock → wpList Tryd.prog ops Q rest (a.put o.dst v') w') : wpList Tryd.prog ops Q (o :: rest) a w := by
  obtain ⟨i0, z0, hi, hz, hs9, hz9, hb0, hb1⟩ := eB_ok.info'
  have hz2 : (Tryd.prog.info? 5).map (fun i => (i.zero, i.bytes)) = some (some (.int .u8 0), 1) := by kernel_rfl
  have hi' : Tryd.prog.info? 5 = some i0 := hi
  rw [hi'] at hz2
  simp only [Option.map_some, Option.some.injEq, Prod.mk.injEq] at hz2
  obtain ⟨v', w', hrun, h1, h2, _⟩ := Lib.run_append_own_string (P := Tryd.prog) w base 35 9 o.type 5 i0 Tryd.underlying35 Tryd.underlying9 hi' hz2.1 hs9 hz2.2 v l.length (eB.flat l) hown ⟨t.toArray⟩
    (by show l.length + t.length ≤ maxLen; unfold maxLen; omega) (by show l.length + t.length ≤ _; omega) hbase
  refine wpList_plain hgd fun K hK => ?_
  unfold Oper.wp execOp
  simp only [ho, resolve, invoke, builtin, Sem.run_bind, Sem.run_pure, Result.andThen_ok, List.map_toArray, List.map_cons, List.map_nil, hs, hx, hrun]
  refine hK _ _ (h _ _ ?_ h2)
  have h3 : w'.ownsRow base 5 1 v' (l.length + t.length) (eB.flat l ++ Lib.strCells ⟨t.toArray⟩) := h1
  rw [strCells_bcs, ← El.flat_append] at h3
  unfold OwnE
  rw [List.length_append]
  exact h3
theorem info32' : True := trivial
attribute [local irreducible] Calls brow sha
set_option maxRecDepth 100000 in
set_option maxHeartbeats 2000000 in
theorem bytes32_r (l : List UInt8) (hl : l.length = 32) (w : World) : Calls Tryd.prog 37 #[.agg (brow l)] w fun e w' => e = .returned (.string ⟨l.toArray⟩) ∧ Below w.heap.size w w' := by
  have HL := Lib.hid hl
  have HG : Hid ((w.alloc (.cells (brow l) 56)).heap[w.heap.size]? = some (.cells (brow l) 56 (0, 0))) := Lib.hid (heap_last _ _ _ rfl)
  have HB : Hid (Below w.heap.size w (w.alloc (.cells (brow l) 56))) := Lib.hid ((Below.refl _ _).alloc (Nat.le_refl _) _)
  have hbx := size32 l hl
  go_enter Tryd.func37, Tryd.ntmps37
  go_upto_region 3 with fail
  go_loopw [4, 3] (fun o u wr => ∃ i : Nat, i ≤ 32 ∧ o = .int .i64 i ∧ (∃ a cap, u = .slice a i cap) ∧ Hid (OwnE eB wr (w.heap.size + 1) u (l.take i)) ∧ Hid (wr.heap[w.heap.size]? = some (.cells (brow l) 56 (0, 0))) ∧ Hid (Below w.heap.size w wr)) (fun o _ _ => 32 - (intOf o).toNat)
  case atStart => exact ⟨0, by omega, rfl, ⟨_, _, rfl⟩, Lib.hid (by rw [List.take_zero]; exact OwnE.nil _ _), HG, HB⟩
  case round =>
    obtain ⟨i, hi, rfl, ⟨a, cap, rfl⟩, hown, hg, hb⟩ := hrel
    clear HG HB
    have HW : Hid (w.heap.size + 1 ≤ wr.heap.size) := Lib.hid (Array.getElem?_eq_some_iff.1 hg.out).1
    by_cases h32 : i < 32
    · have hd : decide ((i : Int) < 32) = true := by simp; omega
      have hcell := cell_of_row _ _ i _ _ _ hg.out
      rw [brow_at _ _ (by rw [hl]; exact h32)] at hcell
      have et : l.take (i + 1) = l.take i ++ [byteAt l i] := by rw [List.take_add_one, List.getElem?_eq_getElem (by omega), byteAt_eq l i (by omega)]; rfl
      have ET := Lib.hid et
      generalize byteAt l i = c at hcell et ET
      have HI := Lib.hid h32
      clear et hi
      go_wp2_with (at_builtin; refine app_e eB_ok rfl (.tmp 9) (.tmp 13) rfl (w.heap.size + 1) _ _ rfl (hown.out.on ((Below.refl _ _).alloc (Nat.le_refl _) _)) (.slice (some ⟨wr.heap.size, 0, none⟩) 1 1) [c] rfl (one_e wr c eB_ok) (by rw [List.length_take, HL.out]; simp; omega) (by have := HW.out; simp; omega) ?_; intro v5 w4 ho4 hg4 hloc; have HB4 := Lib.hid (((Below.refl wr.heap.size wr).alloc (Nat.le_refl _) (.cells #[.int .u8 (B8 c)] 5)).mono HW.out |>.trans ((hown.out.on ((Below.refl _ _).alloc (Nat.le_refl _) _)).below hg4 (by have := HW.out; simp; omega))); have HO4 := Lib.hid ho4; clear ho4 hg4 hloc)
      go_roundw
      case rel => exact ⟨i + 1, HI.out, by go_num, HO4.out.rd.form1 (by rw [List.length_append, List.length_take, HL.out]; have := HI.out; simp; omega), Lib.hid (by rw [ET.out]; exact HO4.out), Lib.hid (by rw [HB4.out.block _ (by omega)]; exact hg.out), Lib.hid (hb.out.trans (HB4.out.mono (by omega)))⟩
      case measure => have := HI.out; simp [intOf]; omega
    · have he : i = 32 := by omega
      subst he
      have hd : decide (((32 : Nat) : Int) < 32) = false := by decide
      have hcv := conv_e hown.out.rd
      rw [List.take_of_length_le (by omega)] at hcv
      clear h32 hi
      go_wp2
      go_ret
      exact ⟨rfl, hb.out⟩
set_option maxRecDepth 100000 in
set_option maxHeartbeats 2000000 in
theorem padKey_r (k : List UInt8) (c : UInt8) (w : World) (hk : K0At w) (hl : k.length ≤ 400000) :
    Calls Tryd.prog 36 #[.string ⟨k.toArray⟩, .int .u8 (B8 c)] w fun e w' => ∃ v', e = .returned v' ∧ OwnE eB w' w.heap.size v' (padK (shortK k) c) ∧ Below w.heap.size w w' := by
  have HL := Lib.hid hl
  have HK := Lib.hid hk
  clear hl hk
  go_enter Tryd.func36, Tryd.ntmps36
  go_upto_if 12 with fail
  go_cut [5, 12] from 13 to 16 (fun s _ wc => s = .string ⟨(shortK k).toArray⟩ ∧ Hid (Below w.heap.size w wc))
  case first =>
    by_cases h64 : k.length ≤ 64
    · have i1 : ¬ (64 : Int) < k.length := by omega
      have hs : shortK k = k := by unfold shortK; rw [if_pos h64]
      go_wp2
      all_goals go_meet
      case rel => exact ⟨by rw [hs], Lib.hid (Below.refl _ _)⟩
    · have i1 : (64 : Int) < k.length := by omega
      have HS : Hid (shortK k = sha k) := Lib.hid (by unfold shortK; rw [if_neg h64])
      have hcv := conv_sb w k
      have HSB := Lib.hid (sb_below w k)
      have HRD := Lib.hid (sb_rd w k (by have := HL.out; unfold maxLen; omega))
      generalize Lib.bytesWorld w 5 ⟨k.toArray⟩ = ws at hcv HSB HRD
      go_wp2_with (first
        | (go_at_call 38; refine (sum_r _ k _ HRD.out (HK.out.on HSB.out) HL.out).mono ?_; rintro e w1 ⟨rfl, hb1⟩; have HB1 := Lib.hid ((HSB.out).trans (hb1.mono HSB.out.size)); clear hb1)
        | (go_at_call 37; refine (bytes32_r (sha k) (sha_len k) _).mono ?_; rintro e w2 ⟨rfl, hb2⟩; have HB2 := Lib.hid ((HB1.out).trans (hb2.mono HB1.out.size)); clear hb2))
      go_meet
      case rel => exact ⟨by rw [HS.out], HB2⟩
  case rest =>
    obtain ⟨rfl, hbc⟩ := hcut
    have HPL : Hid ((shortK k).length ≤ 64) := Lib.hid (by unfold shortK; split; assumption; rw [sha_len]; omega)
    generalize hsk : shortK k = sk at HPL ⊢
    have HSK := Lib.hid hsk
    clear hsk
    have hpl := HPL.out
    have hpi : (sk.length : Int) ≤ 64 := by omega
    go_wp2
    go_loopw [7, 6] (fun o u wr => ∃ i : Nat, i ≤ 64 ∧ o = .int .i64 i ∧ (∃ a cap, u = .slice a i cap) ∧ Hid (OwnE eB wr w.heap.size u ((padK sk c).take i)) ∧ Hid (Below w.heap.size w wr)) (fun o _ _ => 64 - (intOf o).toNat)
    case atStart => exact ⟨0, by omega, rfl, ⟨_, _, rfl⟩, Lib.hid (by rw [List.take_zero]; exact OwnE.nil _ _), hbc⟩
    case round =>
      obtain ⟨i, hi, rfl, ⟨a, cap, rfl⟩, hown, hb⟩ := hrel
      have HW := Lib.hid hb.out.size
      by_cases h64 : i < 64
      · have hd : decide ((i : Int) < 64) = true := by simp; omega
        have et : (padK sk c).take (i + 1) = (padK sk c).take i ++ [byteAt sk i ^^^ c] := by
          have hp : (padK sk c)[i]? = some (byteAt sk i ^^^ c) := by
            unfold padK
            rw [List.getElem?_map, List.getElem?_range h64]
            rfl
          rw [List.take_add_one, hp]
          rfl
        have ET := Lib.hid et
        have HI := Lib.hid h64
        clear et hi
        by_cases hik : i < sk.length
        · have i2 : (i : Int) < sk.length := by omega
          have i3 : i < (ByteArray.mk sk.toArray).size := hik
          go_wp2_with (at_builtin; refine app_e eB_ok rfl (.tmp 28) (.tmp 32) rfl w.heap.size _ _ rfl (hown.out.on ((Below.refl _ _).alloc (Nat.le_refl _) _)) (.slice (some ⟨wr.heap.size, 0, none⟩) 1 1) [byteAt sk i ^^^ c] rfl (one_e wr (byteAt sk i ^^^ c) eB_ok) (by rw [List.length_take, padK_len]; simp; omega) (by have := HW.out; simp; omega) ?_; intro v5 w4 ho4 hg4 hloc; have HB4 := Lib.hid (hb.out.trans (((Below.refl wr.heap.size wr).alloc (Nat.le_refl _) (.cells #[.int .u8 (B8 (byteAt sk i ^^^ c))] 5)).mono HW.out |>.trans ((hown.out.on ((Below.refl _ _).alloc (Nat.le_refl _) _)).below hg4 (by have := HW.out; simp; omega)))); have HO4 := Lib.hid ho4; clear ho4 hg4 hloc)
          go_roundw
          case rel => exact ⟨i + 1, HI.out, by go_num, HO4.out.rd.form1 (by rw [List.length_append, List.length_take, padK_len]; have := HI.out; simp; omega), Lib.hid (by rw [ET.out]; exact HO4.out), HB4⟩
          case measure => have := HI.out; simp [intOf]; omega
        · have i2 : ¬ (i : Int) < sk.length := by omega
          have hz : byteAt sk i = 0 := by unfold byteAt; rw [List.getD_eq_getElem?_getD, List.getElem?_eq_none (by omega)]; rfl
          have hx : bits .xor .u8 0 (B8 c) = B8 (0 ^^^ c) := u8_xor_u8 0 c
          rw [hz] at ET
          generalize (0 ^^^ c : UInt8) = d at ET hx
          clear hz
          go_wp2_with (at_builtin; refine app_e eB_ok rfl (.tmp 28) (.tmp 32) rfl w.heap.size _ _ rfl (hown.out.on ((Below.refl _ _).alloc (Nat.le_refl _) _)) (.slice (some ⟨wr.heap.size, 0, none⟩) 1 1) [d] rfl (one_e wr d eB_ok) (by rw [List.length_take, padK_len]; simp; omega) (by have := HW.out; simp; omega) ?_; intro v5 w4 ho4 hg4 hloc; have HB4 := Lib.hid (hb.out.trans (((Below.refl wr.heap.size wr).alloc (Nat.le_refl _) (.cells #[.int .u8 (B8 d)] 5)).mono HW.out |>.trans ((hown.out.on ((Below.refl _ _).alloc (Nat.le_refl _) _)).below hg4 (by have := HW.out; simp; omega)))); have HO4 := Lib.hid ho4; clear ho4 hg4 hloc)
          go_roundw
          case rel => exact ⟨i + 1, HI.out, by go_num, HO4.out.rd.form1 (by rw [List.length_append, List.length_take, padK_len]; have := HI.out; simp; omega), Lib.hid (by rw [ET.out]; exact HO4.out), HB4⟩
          case measure => have := HI.out; simp [intOf]; omega
      · have he : i = 64 := by omega
        subst he
        have hd : decide (((64 : Nat) : Int) < 64) = false := by decide
        have HR : Hid (OwnE eB wr w.heap.size (.slice a 64 cap) (padK sk c)) := Lib.hid (by have h := hown.out; rw [List.take_of_length_le (Nat.le_of_eq (padK_len sk c))] at h; exact h)
        clear h64 hi
        go_wp2
        go_ret
        exact ⟨_, rfl, by rw [HSK.out]; exact HR.out, hb.out⟩
set_option maxRecDepth 100000 in
set_option maxHeartbeats 2000000 in
theorem mac_r (k t : List UInt8) (w : World) (hk : K0At w) (hl : k.length ≤ 400000) (ht : t.length ≤ 300000) :
    Calls Tryd.prog 18 #[.string ⟨k.toArray⟩, .string ⟨t.toArray⟩] w fun e w' => e = .returned (.string ⟨(mac k t).toArray⟩) ∧ Below w.heap.size w w' := by
  have HL := Lib.hid hl
  have HT := Lib.hid ht
  have HK := Lib.hid hk
  have hm : mac k t = sha (padK (shortK k) 92 ++ sha (padK (shortK k) 54 ++ t)) := rfl
  have HM := Lib.hid hm
  clear hl hk ht hm
  go_enter Tryd.func18, Tryd.ntmps18
  have tok1 : True := trivial
  have tok2 : True := trivial
  have tok3 : True := trivial
  have tok4 : True := trivial
  go_wp2_with (first
    | (go_at_call 36; clear tok1; refine (padKey_r k 54 _ HK.out HL.out).mono ?_; rintro e w1 ⟨v1, rfl, ho1, hb1⟩; have HO1 := Lib.hid ho1; have HB1 := Lib.hid hb1; clear ho1 hb1)
    | (at_builtin; clear tok2; refine app_s rfl (.tmp 9) (.tmp 10) rfl w.heap.size _ (padK (shortK k) 54) rfl HO1.out t rfl (by rw [padK_len]; have := HT.out; omega) HB1.out.size ?_; intro v2 w2 ho2 hg2; have HB2 := Lib.hid (HB1.out.trans (HO1.out.below hg2 HB1.out.size)); have HO2 := Lib.hid ho2; clear ho2 hg2)
    | (go_at_call 36; clear tok3; refine (padKey_r k 92 _ (HK.out.on HB2.out) HL.out).mono ?_; rintro e w3 ⟨v3, rfl, ho3, hb3⟩; have HO3 := Lib.hid ho3; have HI3 := Lib.hid ((HO2.out.on hb3).rd); have HB3 := Lib.hid (HB2.out.trans (hb3.mono HB2.out.size)); have HW3 := Lib.hid hb3.size; clear ho3 hb3)
    | (go_at_call 38; clear tok4; refine (sum_r _ (padK (shortK k) 54 ++ t) _ HI3.out (HK.out.on HB3.out) (by rw [List.length_append, padK_len]; have := HT.out; omega)).mono ?_; rintro e w4 ⟨rfl, hb4⟩; have HB4 := Lib.hid (HB3.out.trans (hb4.mono HB3.out.size)); have HO4 := Lib.hid (HO3.out.on hb4); have HW4 := Lib.hid (Nat.le_trans HW3.out hb4.size); clear hb4; generalize hinn : sha (padK (shortK k) 54 ++ t) = inn; have HIN := Lib.hid hinn; have HIL : Hid (inn.length = 32) := (Lib.hid (by rw [← hinn]; exact sha_len _)); clear hinn)
    | (go_at_call 37; refine (bytes32_r inn HIL.out _).mono ?_; rintro e w5 ⟨rfl, hb5⟩; have HB5 := Lib.hid (HB4.out.trans (hb5.mono HB4.out.size)); have HO5 := Lib.hid (HO4.out.on hb5); have HW5 := Lib.hid (Nat.le_trans HW4.out hb5.size); clear hb5)
    | (at_builtin; refine app_s rfl (.tmp 14) (.tmp 17) rfl w2.heap.size _ (padK (shortK k) 92) rfl HO5.out inn rfl (by rw [padK_len, HIL.out]; decide) HW5.out ?_; intro v6 w6 ho6 hg6; have HB6 := Lib.hid (HB5.out.trans ((HO5.out.below hg6 HW5.out).mono HB2.out.size)); have HO6 := Lib.hid ho6; clear ho6 hg6)
    | (go_at_call 38; refine (sum_r _ (padK (shortK k) 92 ++ inn) _ HO6.out.rd (HK.out.on HB6.out) (by rw [List.length_append, padK_len, HIL.out]; decide)).mono ?_; rintro e w7 ⟨rfl, hb7⟩; have HB7 := Lib.hid (HB6.out.trans (hb7.mono HB6.out.size)); clear hb7; generalize hout : sha (padK (shortK k) 92 ++ inn) = out; have HOU := Lib.hid hout; have HOL : Hid (out.length = 32) := (Lib.hid (by rw [← hout]; exact sha_len _)); clear hout)
    | (go_at_call 37; refine (bytes32_r out HOL.out _).mono ?_; rintro e w8 ⟨rfl, hb8⟩; have HB8 := Lib.hid (HB7.out.trans (hb8.mono HB7.out.size)); clear hb8))
  go_ret
  exact ⟨by rw [HM.out, HIN.out, HOU.out]; rfl, HB8.out⟩
end Go.Proofs.YtackbjbmadkkhaaDoor
