/- The specification's coefficients. -/
import Derived.Test.YtbkkffdgkkcbfabFieldN
namespace Go.Proofs.Ytbkkffdgkkcbfab
open Go.RowKit F6
set_option linter.unusedSimpArgs false
set_option linter.unusedVariables false
attribute [local irreducible] mul ev pp wt wts isum interp tim tim1 mkp lag acc coef
theorem brow_one (x : UInt8) : #[Value.int .u8 (B8 x)] = brow [x] := rfl
theorem one_b (w : World) : BAt (w.alloc (.cells #[.int .u8 1] 5)) w.heap.size [1] := ⟨by simp, heap_alloc_new _ _⟩
set_option maxRecDepth 100000 in
theorem coef_r0 (v u : Value) (xs ys : List UInt8) (w : World) (hv : RdB w v xs) (hu : RdB w u ys) (hok : okX xs = false) :
    Calls Try.prog 22 #[v, u] w fun e w' => e = .returned (.tuple #[.slice none 0 0, .int .i64 1]) ∧ Below w.heap.size w w' := by
  have HOK := Lib.hid hok
  have HV := Lib.hid hv
  obtain ⟨a, cap, rfl, _, _, _⟩ := hv
  obtain ⟨a2, cap2, rfl, _, _, _⟩ := hu
  clear hok
  go_enter Try.func22, Try.ntmps22
  go_wp2_with (go_at_call 29; refine (distinct_r _ xs _ HV.out).mono ?_; rw [HOK.out]; rintro e _ ⟨rfl, n0, rfl⟩)
  go_ret2
  exact ⟨rfl, below_drewN _ (Below.refl _ _)⟩
set_option maxRecDepth 100000 in
theorem coef_r1 (v u : Value) (xs ys : List UInt8) (w : World) (hv : RdB w v xs) (hu : RdB w u ys) (hok : okX xs = true) (hl : xs.length ≠ ys.length) :
    Calls Try.prog 22 #[v, u] w fun e w' => e = .returned (.tuple #[.slice none 0 0, .int .i64 1]) ∧ Below w.heap.size w w' := by
  have hne : ((xs.length : Int) == ys.length) = false := by rw [beq_eq_false_iff_ne]; omega
  have HOK := Lib.hid hok
  have HV := Lib.hid hv
  obtain ⟨a, cap, rfl, _, _, _⟩ := hv
  obtain ⟨a2, cap2, rfl, _, _, _⟩ := hu
  clear hok hl
  go_enter Try.func22, Try.ntmps22
  go_wp2_with (go_at_call 29; refine (distinct_r _ xs _ HV.out).mono ?_; rw [HOK.out]; rintro e _ ⟨rfl, n0, rfl⟩)
  go_ret2
  exact ⟨rfl, below_drewN _ (Below.refl _ _)⟩
set_option maxRecDepth 100000 in
set_option maxHeartbeats 4000000 in
theorem coef_r (v u : Value) (xs ys : List UInt8) (w : World) (hv : RdB w v xs) (hu : RdB w u ys) (hok : okX xs = true) (hl : xs.length = ys.length) :
    Calls Try.prog 22 #[v, u] w fun e w' => ∃ u, e = .returned (.tuple #[u, .int .i64 0]) ∧ OwnB w' w.heap.size u (coef xs ys) ∧ Below w.heap.size w w' := by
  obtain ⟨hnd, hl1, hl2⟩ := okX_nodup hok
  have HND := Lib.hid hnd
  have HOK := Lib.hid hok
  have HV := Lib.hid hv
  obtain ⟨a, cap, rfl, _, _, hcells⟩ := hv
  obtain ⟨a2, cap2, rfl, _, _, hcells2⟩ := hu
  obtain ⟨b, off, rfl, hb1, hc1⟩ := hcells (by omega)
  obtain ⟨b2, off2, rfl, hb2, hc2⟩ := hcells2 (by omega)
  have hne : ((xs.length : Int) == ys.length) = true := by rw [beq_iff_eq]; omega
  have hne2 : ((xs.length : Int) != ys.length) = false := by rw [bne, hne]; rfl
  have hmk := run_mk xs.length xs.length (Nat.le_refl _) (by omega)
  have HL := Lib.hid hl
  clear hcells hcells2 hl hnd hok
  go_enter Try.func22, Try.ntmps22
  go_wp2_with (go_at_call 29; refine (distinct_r _ xs _ HV.out).mono ?_; rw [HOK.out]; rintro e _ ⟨rfl, n0, rfl⟩)
  have HMK := Lib.hid hmk
  clear hmk
  go_loopw [8] (fun o wr => ∃ i : Nat, i ≤ xs.length ∧ o = .int .i64 i ∧ BAt wr w.heap.size (lag xs ys i) ∧ Below w.heap.size w wr) (fun o _ => xs.length - (intOf o).toNat)
  case atStart => exact ⟨0, Nat.zero_le _, rfl, by rw [lag_zero]; exact (made_b _ _).drew _, below_drewN _ ((Below.refl _ _).alloc (Nat.le_refl _) _)⟩
  case round =>
    obtain ⟨i, hi, rfl, hat, hb⟩ := hrel
    by_cases hlt : i < xs.length
    · have hii : (i : Int) < xs.length := by omega
      have HI := Lib.hid hlt
      have HAT := Lib.hid hat
      have HB := Lib.hid hb
      have hz := hat.lt
      clear hat hb
      go_wp2
      go_loopw [9, 10, 11] (fun p dn j ws => ∃ k g m : Nat, k ≤ xs.length ∧ j = .int .i64 k ∧ p = .slice (some ⟨g, 0, none⟩) m m ∧ m = (mkp xs i k).length ∧ BAt ws g (mkp xs i k) ∧ w.heap.size < g ∧ dn = .int .u8 (B8 (pp xs i (byteAt xs i) k)) ∧ BAt ws w.heap.size (lag xs ys i) ∧ Below w.heap.size w ws) (fun _ _ j _ => xs.length - (intOf j).toNat)
      case atStart =>
        refine ⟨0, wr.heap.size, 1, Nat.zero_le _, rfl, rfl, by rw [mkp_zero]; rfl, by rw [mkp_zero]; exact one_b _, hz, by rw [pp_zero]; rfl, HAT.out.alloc _, HB.out.alloc (HB.out.size) _⟩
      case round =>
        obtain ⟨k, g, m, hk, rfl, rfl, hm, hp, hgz, rfl, hat2, hb2'⟩ := hrel
        have hi := HI.out
        by_cases hlt : k < xs.length
        · have i1 : (i : Int) < xs.length := by omega
          have i2 : (k : Int) < xs.length := by omega
          have HK := Lib.hid hlt
          have HAT2 := Lib.hid hat2
          have HB2 := Lib.hid hb2'
          have HP := Lib.hid hp
          have HM := Lib.hid hm
          have HG := Lib.hid hgz
          have hbd := mkp_bound xs i k hk
          have hrd : RdB wr (.slice (some ⟨g, 0, none⟩) m m) (mkp xs i k) := by rw [hm]; exact hp.rd (by unfold maxLen; omega)
          have HRD := Lib.hid hrd
          have HBD := Lib.hid hbd
          clear hat2 hp hrd hbd hm
          by_cases hki : k = i
          · have s1 := mkp_skip xs i hi
            have s2 := pp_skip xs i (byteAt xs i) hi
            have S1 := Lib.hid s1
            have S2 := Lib.hid s2
            have hne' : ((k : Int) == i) = true := by rw [beq_iff_eq]; omega
            have HKI := Lib.hid hki
            clear s1 s2 hki hb2'
            go_wp2
            go_roundw
            case rel => exact ⟨k + 1, g, m, HK.out, by go_num, rfl, by rw [HM.out, HKI.out, S1.out], by have h := HP.out; rw [HKI.out] at h ⊢; rw [S1.out]; exact h, HG.out, by rw [HKI.out, S2.out], HAT2.out, HB2.out⟩
            case measure => have := HK.out; simp [intOf]; omega
          · have s1 := mkp_step xs i k hlt hki
            have s2 := pp_step xs i (byteAt xs i) k hlt hki
            have S1 := Lib.hid s1
            have S2 := Lib.hid s2
            have hne' : ((k : Int) == i) = false := by rw [beq_eq_false_iff_ne]; omega
            have c0 : wr.cell? ⟨b, off + k, none⟩ = some (.int .u8 (B8 (byteAt xs k))) := by rw [hb2'.cell (p := ⟨b, off + k, none⟩) hb1]; exact hc1 k HK.out
            clear s1 s2 hki hb2'
            go_wp2_with (go_at_call 30; refine (times_r _ _ _ _ HRD.out (by have := HBD.out; omega)).mono ?_; rintro e w1 ⟨g', rfl, hp', hg', hb'⟩; rw [← HM.out])
            have hb3 := HB2.out.trans (hb'.mono HB2.out.size)
            have c2 : w1.cell? ⟨b, off + k, none⟩ = some (.int .u8 (B8 (byteAt xs k))) := by rw [hb3.cell (p := ⟨b, off + k, none⟩) hb1]; exact hc1 k HK.out
            have c3 : w1.cell? ⟨b, off + i, none⟩ = some (.int .u8 (B8 (byteAt xs i))) := by rw [hb3.cell (p := ⟨b, off + i, none⟩) hb1]; exact hc1 i HI.out
            have HP' := Lib.hid hp'
            have HB3 := Lib.hid hb3
            have HG' := Lib.hid hg'
            have HAT3 := Lib.hid (HAT2.out.keep hb' HAT2.out.lt)
            clear hp' hb3 hb' hg'
            first | refine allD (by kernel_rfl) (by kernel_rfl) ?_ | refine all0 (by kernel_rfl) (by kernel_rfl) ?_
            repeat (go_big_quiet_step ((go_at_call 15; refine Calls.quiet_of_same (mul_r _ _ _))))
            refine wpQuiet_nil ?_
            rintro _ ⟨nq, rfl⟩
            go_wp2
            go_roundw
            case rel => exact ⟨k + 1, g', m + 1, HK.out, by go_num, by go_num, by rw [S1.out, length_times, HM.out], by rw [S1.out]; exact HP'.out.drew _, Nat.lt_of_lt_of_le HAT2.out.lt HG'.out, by rw [S2.out], HAT3.out.drew _, below_drewN _ HB3.out⟩
            case measure => have := HK.out; simp [intOf]; omega
        · have he : k = xs.length := by omega
          subst he
          have i1 : (xs.length : Int) ≤ (xs.length : Int) := by omega
          have c1 : wr.cell? ⟨b2, off2 + i, none⟩ = some (.int .u8 (B8 (byteAt ys i))) := by rw [hb2'.cell (p := ⟨b2, off2 + i, none⟩) hb2]; exact hc2 i (by have := HL.out; omega)
          have i2 : (i : Int) < ys.length := by have := HL.out; omega
          have i3 : i < ys.length := by have := HL.out; omega
          have hne' := pp_ne xs i HND.out HI.out
          have HNE := Lib.hid hne'
          have HAT2 := Lib.hid hat2
          have HB2 := Lib.hid hb2'
          have HP := Lib.hid hp
          have hm2 : m = xs.length := by rw [hm, mkp_len xs i HI.out]
          have HG := Lib.hid hgz
          subst hm2
          have hst := fun k => acc_step (lag xs ys i) (mkp xs i xs.length) (div (byteAt ys i) (pp xs i (byteAt xs i) xs.length)) k
          have hlg := length_lag xs ys i (by omega)
          have hls := lag_step xs ys i HI.out
          rw [mkp_len xs i HI.out] at hls
          have HST := Lib.hid hst
          have HLG := Lib.hid hlg
          have HLS := Lib.hid hls
          have HPL := Lib.hid (mkp_len xs i HI.out)
          clear hat2 hb2' hp hm hne' hst hlg hls
          generalize hd : div (byteAt ys i) (pp xs i (byteAt xs i) xs.length) = d at *
          generalize hP : mkp xs i xs.length = P at *
          clear hP
          go_wp2_with (go_at_call 12; refine (div_r _ _ HNE.out _).mono ?_; rintro e _ ⟨rfl, rfl⟩)
          go_loopw [14] (fun j ws => ∃ k : Nat, k ≤ xs.length ∧ j = .int .i64 k ∧ BAt ws w.heap.size (acc (lag xs ys i) P d k) ∧ BAt ws g P ∧ Below w.heap.size w ws) (fun j _ => xs.length - (intOf j).toNat)
          case atStart => exact ⟨0, Nat.zero_le _, rfl, by rw [acc_zero]; exact HAT2.out, HP.out, HB2.out⟩
          case round =>
            obtain ⟨k, hk, rfl, hat4, hp4, hb4⟩ := hrel
            by_cases hlt : k < xs.length
            · have c3 := hat4.at k (by rw [acc_len, HLG.out]; exact hlt)
              have f3 := hat4.free k
              have c4 := hp4.at k (by rw [HPL.out]; exact hlt)
              have i5 : (k : Int) < xs.length := by omega
              have HK := Lib.hid hlt
              have HAT4 := Lib.hid hat4
              have HP4 := Lib.hid hp4
              have HB4 := Lib.hid hb4
              have hg : w.heap.size ≠ g := by have := HG.out; omega
              have HGN := Lib.hid hg
              clear hat4 hp4 hb4 hg
              go_wp2
              first | refine tailD 14 (by kernel_rfl) (by kernel_rfl) ?_ | refine tail0 14 (by kernel_rfl) (by kernel_rfl) ?_
              simp only [List.take_succ_cons, List.take_zero, List.drop_succ_cons, List.drop_zero]
              repeat (quiet_step ((go_at_call 15; exact Calls.quiet_of_same (mul_r _ _ _))))
              refine wpQuiet_nil ?_
              rintro _ ⟨nq2, rfl⟩
              go_wp2
              go_roundw
              case rel => exact ⟨k + 1, HK.out, by go_num, by rw [← HST.out]; exact (HAT4.out.set k _).drew _, (HP4.out.other HGN.out).drew _, below_drewN _ (HB4.out.setCell (Nat.le_refl _) _)⟩
              case measure => have := HK.out; simp [intOf]; omega
            · have he : k = xs.length := by omega
              subst he
              rw [HLS.out] at hat4
              have HAT4 := Lib.hid hat4
              have HB4 := Lib.hid hb4
              clear hat4 hp4 hb4
              go_wp2
              go_roundw
              case rel => exact ⟨i + 1, HI.out, by go_num, HAT4.out, HB4.out⟩
              case measure => have := HI.out; simp [intOf]; omega
    · have he : i = xs.length := by omega
      have HE := Lib.hid he
      have i1 : (xs.length : Int) ≤ i := by omega
      clear he
      go_wp2
      go_ret2
      have hcl := length_coef xs ys
      have ho := hat.own (base := w.heap.size) (Nat.le_refl _) (by rw [length_lag xs ys i hi]; unfold maxLen; omega)
      rw [length_lag xs ys i hi] at ho
      rw [HE.out, lag_all] at ho
      exact ⟨_, rfl, ho, hb⟩
end Go.Proofs.Ytbkkffdgkkcbfab
