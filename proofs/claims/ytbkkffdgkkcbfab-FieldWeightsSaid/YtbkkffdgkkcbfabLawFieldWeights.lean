/- The law FieldWeights holds for every input. -/
import Derived.Test.YtbkkffdgkkcbfabFieldU
namespace Go.Proofs.Ytbkkffdgkkcbfab
open Go.ChangeShapes Go.WideShapes Go.ChangeAt Go.RowKit F6
open Go.ChangeMaps (open_string shut_string)
set_option linter.unusedSimpArgs false
set_option linter.unusedVariables false
attribute [local irreducible] mul ev pp wt wts isum interp coef div inverse errB B8 Calls wtsX errW intX coefX errI vals psum turn
set_option maxRecDepth 100000 in
set_option maxHeartbeats 2000000 in
theorem fieldWeights_walk (v0 : Value) (a0 : List UInt8) (a1 : UInt8) (a2 : Int) (w : World) (w0 : RdB w v0 a0) (w2 : (Lit.int .i64 a2).wf = true) :
    Calls Try.prog 7 #[v0, .int .u8 (B8 a1), .int .i64 a2] w fun e w' => e = .returned (.bool true) ∧ Below w.heap.size w w' := by
  have HB := Below.refl w.heap.size w
  have hfq := few_q v0 (.slice none 0 0) a0 [] w w0 (RdB.nil w)
  by_cases hf : a0.length ≤ 40 ∧ ([] : List UInt8).length ≤ 40
  · rw [decide_eq_true hf] at hfq
    have HF := Lib.hid hfq
    have hn40 := hf.1
    clear hfq hf
    by_cases hok : okX a0 = true
    · obtain ⟨hnd, h1, _⟩ := okX_nodup hok
      have hwc := fun w' hv => weights_c v0 a0 a1 w' hv hok
      have HW := Lib.hid hwc
      have HX := w0
      have hwl := wts_len a0 a1 a0.length
      have HWL := Lib.hid hwl
      clear hwc hwl hnd
      by_cases hk : 0 ≤ a2 ∧ a2 < a0.length
      · obtain ⟨k, rfl⟩ : ∃ k : Nat, a2 = k := ⟨a2.toNat, by omega⟩
        have hkn : k < a0.length := by omega
        have hwc2 := fun w' hv => weights_c v0 a0 (byteAt a0 k) w' hv hok
        have HW2 := Lib.hid hwc2
        have HWL2 := Lib.hid (wts_len a0 (byteAt a0 k) a0.length)
        have hps := psum_all a0 a1 hok
        have HOK := Lib.hid hok
        obtain ⟨ad, cap, rfl, hcap, _, hcells⟩ := w0
        obtain ⟨b, off, rfl, hbl, hc⟩ := hcells (by omega)
        have c0 := hc k hkn
        have i0 : (0 : Int) ≤ k := by omega
        have i1 : (k : Int) < a0.length := by omega
        have i2 : ¬ (k : Int) < 0 := by omega
        have i3 : ¬ (a0.length : Int) ≤ k := by omega
        have hc0 : ∀ i, i < a0.length → w.cell? ⟨b, off + i, none⟩ = some (.int .u8 (B8 (byteAt a0 i))) := hc
        have HC0 := Lib.hid hc0
        clear hcells hk hok hwc2 hc hc0
        have tok1 : True := trivial
        go_enter Try.func7, Try.ntmps7
        go_wp2_with (first
          | (go_at_call 16; refine HF.out.mono ?_; rintro e wf ⟨rfl, hwf⟩; rw [hwf]; clear hwf)
          | (go_at_call 17; refine (HW.out _ HX).mono ?_; rintro e w5 ⟨u5, rfl, ho, hb⟩; replace HB := HB.trans (hb.mono HB.size); replace HX := HX.on hb; obtain ⟨qa, qcap, rfl, _, _, hq⟩ := ho.opened HWL.out; obtain ⟨g, rfl, hg1, hg2, hqc⟩ := hq (by omega); clear hq hb))
        have HQ := ho.rd
        have HQC := Lib.hid hqc
        have c5 : w5.cell? ⟨b, off + k, none⟩ = some (.int .u8 (B8 (byteAt a0 k))) := by rw [HB.cell (p := ⟨b, off + k, none⟩) hbl]; exact c0
        clear hqc ho
        go_loop [10, 11] (fun s i => ∃ j : Nat, j ≤ a0.length ∧ i = .int .i64 j ∧ s = .int .u8 (B8 (psum a0 a1 j))) (fun _ i => a0.length - (intOf i).toNat)
        case atStart => exact ⟨0, Nat.zero_le _, rfl, by rw [psum_zero, t8_0]⟩
        case round =>
          obtain ⟨j, hj, rfl, rfl⟩ := hrel
          by_cases hlt : j < a0.length
          · have c1 := HQC.out j hlt
            have j1 : (j : Int) < a0.length := by omega
            have hs := psum_succ a0 a1 j hlt
            have HS := Lib.hid hs
            have HK := Lib.hid hlt
            clear hs
            go_wp2
            go_round
            case rel => exact ⟨j + 1, HK.out, by go_num, by rw [HS.out]⟩
            case measure => have := HK.out; simp [intOf]; omega
          · have he : j = a0.length := by omega
            have j1 : (a0.length : Int) ≤ j := by omega
            rw [he]
            clear he hlt
            go_wp2_with (go_at_call 17; refine (HW2.out _ HX).mono ?_; rintro e w6 ⟨u6, rfl, ho, hb⟩; replace HB := HB.trans (hb.mono HB.size); replace HX := HX.on hb; replace HQ := HQ.on hb; obtain ⟨qa, qcap2, rfl, _, _, hq⟩ := ho.opened HWL2.out; obtain ⟨g2, rfl, hg3, hg4, hqc⟩ := hq (by omega); clear hq hb)
            have HQC2 := Lib.hid hqc
            have HKN := Lib.hid hkn
            clear hqc ho
            go_loop [14] (fun i => ∃ j : Nat, j ≤ a0.length ∧ i = .int .i64 j) (fun i => a0.length - (intOf i).toNat)
            case atStart => exact ⟨0, Nat.zero_le _, rfl⟩
            case round =>
              obtain ⟨j, hj, rfl⟩ := hrel
              by_cases hlt : j < a0.length
              · have c1 := HQC2.out j hlt
                have j1 : (j : Int) < a0.length := by omega
                have HK := Lib.hid hlt
                by_cases hjk : j = k
                · have hv : byteAt (wts a0 (byteAt a0 k) a0.length) j = 1 := by rw [hjk]; exact wts_self a0 HOK.out k HKN.out
                  have t1 : (B8 (byteAt (wts a0 (byteAt a0 k) a0.length) j) == 1) = true := by rw [hv]; exact t8_one
                  have t2 : ¬ (1 : Int) < B8 (byteAt (wts a0 (byteAt a0 k) a0.length) j) := by rw [hv]; exact t8_one_gt
                  have t3 : ((j : Int) == (k : Int)) = true := by rw [beq_iff_eq]; omega
                  clear hjk hv
                  go_wp2
                  go_round
                  case rel => exact ⟨j + 1, HK.out, by go_num⟩
                  case measure => have := HK.out; simp [intOf]; omega
                · have hv : byteAt (wts a0 (byteAt a0 k) a0.length) j = 0 := wts_other a0 k j HKN.out HK.out hjk
                  have t1 : (B8 (byteAt (wts a0 (byteAt a0 k) a0.length) j) == 1) = false := by rw [hv]; exact t8_zero
                  have t2 : ¬ (1 : Int) < B8 (byteAt (wts a0 (byteAt a0 k) a0.length) j) := by rw [hv]; exact t8_zero_gt
                  have t3 : ((j : Int) == (k : Int)) = false := by rw [beq_eq_false_iff_ne]; omega
                  clear hjk hv
                  go_wp2
                  go_round
                  case rel => exact ⟨j + 1, HK.out, by go_num⟩
                  case measure => have := HK.out; simp [intOf]; omega
              · have j2 : (a0.length : Int) ≤ j := by omega
                clear hlt
                have k1 : k ≤ a0.length := by omega
                have k2 : (k : Int) ≤ a0.length := by omega
                have k3 : (a0.length : Int) ≤ cap := by omega
                have k4 : (k : Int) ≤ cap := by omega
                have hbz := HB.size
                have hcw : ∀ i, i < a0.length → w6.cell? ⟨b, off + i, none⟩ = some (.int .u8 (B8 (byteAt a0 i))) := fun i hi => by
                  rw [HB.cell (p := ⟨b, off + i, none⟩) hbl]; exact HC0.out i hi
                have HCW := Lib.hid hcw
                have hdl : (a0.drop k).length = a0.length - k := List.length_drop
                have htl : (a0.take k).length = k := by rw [List.length_take]; omega
                have HDL := Lib.hid hdl
                have HTL := Lib.hid htl
                clear hcw hdl htl
                have HOT := Lib.hid (turn_ok a0 k HOK.out)
                have HTN := Lib.hid (turn_len a0 k)
                have HTW := Lib.hid (turn_wt a0 a1 k HKN.out)
                have HWT := Lib.hid (wts_len (turn a0 k) a1 a0.length)
                have HTU : Hid (a0.drop k ++ a0.take k = turn a0 k) := Lib.hid (by unfold turn; rfl)
                go_wp2_with (at_builtin; refine app_b rfl (.tmp 108) (.tmp 111) rfl w6.heap.size _ [] rfl (OwnB.nil _ _) ⟨b, off + k, none⟩ (a0.length - k) (cap - k) (a0.drop k) rfl HDL.out (news_drop HCW.out k) ?h2 (Nat.le_refl _) ?h4)
                case h2 => have h0 : ([] : List UInt8).length = 0 := rfl; omega
                case h4 =>
                  intro v' w7 ho' hb'
                  have hbz7 := hb'.size
                  have hcw7 : ∀ i, i < a0.length → w7.cell? ⟨b, off + i, none⟩ = some (.int .u8 (B8 (byteAt a0 i))) := fun i hi => by
                    rw [hb'.cell (p := ⟨b, off + i, none⟩) (by show b < _; omega)]; exact HCW.out i hi
                  have HCW7 := Lib.hid hcw7
                  have HO7 : Hid (OwnB w7 w6.heap.size v' (a0.drop k)) := Lib.hid (by simpa using ho')
                  have HB7 := Lib.hid hb'
                  clear hcw7 ho' hb'
                  go_wp2_with (at_builtin; refine app_b rfl (.tmp 113) (.tmp 116) rfl w6.heap.size _ (a0.drop k) rfl HO7.out ⟨b, off, none⟩ k cap (a0.take k) rfl HTL.out (news_take HCW7.out k) ?g2 hbz7 ?g4)
                  case g2 => rw [HDL.out]; omega
                  case g4 =>
                    intro v'' w8 ho'' hb''
                    rw [HTU.out] at ho''
                    have hb8 := HB7.out.trans hb''
                    replace HB := HB.trans (hb8.mono hbz)
                    replace HQ := HQ.on hb8
                    have HR := ho''.rd
                    clear ho'' hb8 hb'' hbz hbz7
                    go_wp2_with (go_at_call 17; refine (weights_c _ _ _ _ HR HOT.out).mono ?_; rw [HTN.out]; rintro e w9 ⟨u9, rfl, ho, hb⟩; replace HB := HB.trans (hb.mono HB.size); replace HQ := HQ.on hb; obtain ⟨qa, qcap3, rfl, _, _, hq⟩ := ho.opened HWT.out; obtain ⟨g3, rfl, hg5, hg6, hqc⟩ := hq (by omega); clear hq hb)
                    have cv := hqc 0 (by omega)
                    rw [HTW.out] at cv
                    have cq := hcell_of HQ k (by rw [HWL.out]; exact HKN.out)
                    rw [Nat.zero_add] at cq
                    have hgw : g < w9.heap.size := by
                      have := HQ
                      exact World.block_lt_of_cell? _ _ cq
                    have k5 : k < a0.length := HKN.out
                    have k6 : (0 : Int) < a0.length := by omega
                    have k7 : 0 < a0.length := by omega
                    clear hqc ho HQC HQC2 HX HQ HR HC0 HCW HCW7 HO7 HB7 c0 c5 j2 hj
                    refine allL (by kernel_rfl) (by kernel_rfl) ?_
                    repeat (go_big_quiet_step ((go_at_call 13; exact Later.call _ (sanity_c _))))
                    refine wpQuiet_nil ?_
                    rintro _ ⟨u, rfl⟩
                    go_wp2
                    go_ret
                    exact ⟨rfl, HB.trans (u.below.mono HB.size)⟩
      · obtain ⟨ad, cap, rfl, hcap, _, hcells⟩ := w0
        clear hcells
        by_cases hneg : a2 < 0
        · clear hk
          go_enter Try.func7, Try.ntmps7
          go_wp2_with (first
            | (go_at_call 16; refine HF.out.mono ?_; rintro e wf ⟨rfl, hwf⟩; rw [hwf]; clear hwf)
            | (go_at_call 17; refine (HW.out _ HX).mono ?_; rintro e w5 ⟨u5, rfl, ho, hb⟩; replace HB := HB.trans (hb.mono HB.size); obtain ⟨qa, qcap, rfl, _, _, hq⟩ := ho.opened HWL.out; clear hq hb)
            | (go_at_call 13; refine (sanity_c _).mono ?_; rintro e w7 ⟨rfl, hb⟩; replace HB := HB.trans (hb.mono HB.size); clear hb))
          go_ret
          exact ⟨rfl, HB⟩
        · have hge : (a0.length : Int) ≤ a2 := by omega
          clear hk
          go_enter Try.func7, Try.ntmps7
          go_wp2_with (first
            | (go_at_call 16; refine HF.out.mono ?_; rintro e wf ⟨rfl, hwf⟩; rw [hwf]; clear hwf)
            | (go_at_call 17; refine (HW.out _ HX).mono ?_; rintro e w5 ⟨u5, rfl, ho, hb⟩; replace HB := HB.trans (hb.mono HB.size); obtain ⟨qa, qcap, rfl, _, _, hq⟩ := ho.opened HWL.out; clear hq hb)
            | (go_at_call 13; refine (sanity_c _).mono ?_; rintro e w7 ⟨rfl, hb⟩; replace HB := HB.trans (hb.mono HB.size); clear hb))
          go_ret
          exact ⟨rfl, HB⟩
    · have herr : errW a0 = 1 := by unfold errW; exact if_neg hok
      clear hok
      go_enter Try.func7, Try.ntmps7
      go_wp2_with (first
        | (go_at_call 16; refine HF.out.mono ?_; rintro e wf ⟨rfl, hwf⟩; rw [hwf]; clear hwf)
        | (go_at_call 17; refine (weights_ca _ _ _ _ w0).mono ?_; rintro e w5 ⟨u5, rfl, _, hb⟩; rw [herr]; replace HB := HB.trans (hb.mono HB.size); clear hb)
        | (go_at_call 13; refine (sanity_c _).mono ?_; rintro e w7 ⟨rfl, hb⟩; replace HB := HB.trans (hb.mono HB.size); clear hb))
      go_ret
      exact ⟨rfl, HB⟩
  · rw [decide_eq_false hf] at hfq
    have HF := Lib.hid hfq
    clear hfq hf
    go_enter Try.func7, Try.ntmps7
    go_wp2_with (first
      | (go_at_call 16; refine HF.out.mono ?_; rintro e wf ⟨rfl, hwf⟩; rw [hwf]; clear hwf)
      | (go_at_call 17; refine (weights_ca _ _ _ _ w0).mono ?_; rintro e w5 ⟨u5, rfl, _, hb⟩; replace HB := HB.trans (hb.mono HB.size); clear hb)
      | (go_at_call 13; refine (sanity_c _).mono ?_; rintro e w7 ⟨rfl, hb⟩; replace HB := HB.trans (hb.mono HB.size); clear hb))
    go_ret
    exact ⟨rfl, HB⟩
set_option maxRecDepth 100000 in
theorem fieldWeights_lifted (os : Os) (started : os.Started) (H : Type) (enc : TypeId × Value → H) :
    ReturnsInHanded {} Try.checked os 7 .any (Rows.fieldWeightsSpec.pre6 enc Try.prog Try.f7 Rows.fieldWeightsRow.domain false) (Rows.fieldWeightsSpec.post enc Try.prog Try.f7 false true false false) := by
  refine returnsInHanded_of_change (C := Try.checked) Try.own started (by kernel_rfl) Try.func7
    (ChangeSpec.witness6 (enc := enc) (C := Try.checked) false ⟨#[], #[.slice none 0 0, .int .u8 0, .int .i64 0], []⟩ 8 (by kernel_rfl) (by kernel_rfl) (by kernel_rfl) (by kernel_rfl)) ?_
  intro W base args ds gs before hval0 hW hcnd _
  have hval : ∀ (j : Nat) t v, Try.f7.params[j]? = some t → args[j]? = some v → Value.okWide Try.prog W .any base t v := hval0
  have hW' := hW
  obtain ⟨p, q, hA0, hV, rfl, hfz, hnd⟩ := hW
  have hA : DataW.TrodAll enc Try.prog W 0 (fun _ => true) true Try.f7.params.toList args.toList ds p := hA0
  rw [Try.params7] at hA hval
  obtain ⟨v0, vs0, d0, ds0, p0, q0, hargs, rfl, rfl, h0, r0⟩ := trodAll_cons hA
  obtain ⟨v1, vs1, d1, ds1, p1, q1, rfl, rfl, rfl, h1, r1⟩ := trodAll_cons r0
  obtain ⟨v2, vs2, d2, ds2, p2, q2, rfl, rfl, rfl, h2, r2⟩ := trodAll_cons r1
  obtain ⟨rfl, rfl, rfl⟩ := trodAll_nil r2
  obtain rfl : args = #[v0, v1, v2] := by cases args; simp_all
  obtain ⟨rfl, rfl⟩ := trodVars_none hV
  have k0 := h0
  have lt0 : ∀ x ∈ p0, x.block < W.heap.size := by obtain ⟨m, hm⟩ := k0; exact DataW.trod_lt m _ _ _ hm
  obtain ⟨a0, w0⟩ := open_b (hval 0 30 v0 rfl rfl) h0
  obtain ⟨z1, rfl, rfl, rfl, w1⟩ := open_int Try.underlying5 (hval 1 5 v1 rfl rfl) h1
  obtain ⟨a1, rfl⟩ := u8_of w1
  obtain ⟨a2, rfl, rfl, rfl, w2⟩ := open_int Try.underlying3 (hval 2 3 v2 rfl rfl) h2
  clear hA0 hval0
  refine (fieldWeights_walk v0 a0 a1 a2 W w0 w2).mono fun e W' ⟨he, bel⟩ => ?_
  subst he
  exact ⟨_, rfl, _, _, _, [], _, [], hW', trodAll_mk1 (shut_bool Try.underlying4 _), (trodAll_cons_mk (Below.trod Try.laidOut (by kernel_rfl) (of_decide_eq_true (by kernel_rfl)) k0 bel lt0) (trodAll_cons_mk (shut_int Try.underlying5 w1) (trodAll_cons_mk (shut_int Try.underlying3 w2) trodAll_mk0))), rfl, bel.frame _, fun h => by cases h⟩
theorem FieldWeights_proved : Rows.FieldWeightsSaid :=
  OpenClaim.holds_of_wide 7 Try.f7 rfl rfl rfl rfl rfl rfl rfl ⟨rfl, rfl, rfl, rfl, rfl⟩ rfl rfl rfl rfl rfl (by kernel_rfl) Try.func7 (by kernel_rfl)
    (of_decide_eq_true (by kernel_rfl)) (by unfold Func.isWrapper; first | (rw [if_pos (by decide +kernel)]; kernel_rfl) | (rw [if_neg (by decide +kernel)]; exact ⟨rfl, rfl⟩))
    (fun os started H enc _ => fieldWeights_lifted os started H enc)

end Go.Proofs.Ytbkkffdgkkcbfab
