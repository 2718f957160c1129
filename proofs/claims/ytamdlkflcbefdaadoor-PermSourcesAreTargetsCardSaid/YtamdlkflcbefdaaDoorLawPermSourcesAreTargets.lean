/- The law PermSourcesAreTargets holds for every input: it returns true and leaves its arguments as they were. No condition. -/
import Derived.Test.YtamdlkflcbefdaaDoorFrameP
import Derived.Test.YtamdlkflcbefdaaDoorLawP
import Derived.Test.YtamdlkflcbefdaaDoorTie
import Derived.Test.YtamdlkflcbefdaaDoorCards
import Derived.SevenTiedAt
namespace Go.Proofs.YtamdlkflcbefdaaDoor
open Go.ChangeShapes Go.WideShapes Go.ChangeAt Go.RowKit
open Go.ChangeMaps (open_string shut_string)
set_option linter.unusedSimpArgs false
set_option linter.unusedVariables false
attribute [local irreducible] Calls srt insAll targetsP sourcesP usesP grP hasP hasR tyIx quIx quP subB band
set_option maxRecDepth 100000 in
set_option maxHeartbeats 8000000 in
theorem permSourcesAreTargets_walk (s : ByteArray) (vt vr vq : Value) (tl : List TyP) (rl : List RuP) (ql : List QuP) (n0 n1 n2 : Int) (w : World) (hT : RdE eT w vt tl) (hR : RdE eR w vr rl) (hQ : RdE eQ w vq ql) (i0 : I64 n0) (i1 : I64 n1) (i2 : I64 n2) (htab : TabAt w) :
    Calls Tryd.prog 6 #[.agg #[.string s, vt, vr, vq], .agg #[.int .i64 n0, .int .i64 n1, .int .i64 n2]] w fun e w' => e = .returned (.bool true) ∧ Below w.heap.size w w' := by
  obtain ⟨Y, hY⟩ : ∃ Y, Y = (w.alloc (.cells #[.string s, vt, vr, vq] 26)).alloc (.cells #[.int .i64 n0, .int .i64 n1, .int .i64 n2] 27) := ⟨_, rfl⟩
  have H0 : Hid (LW Y w.heap.size (w.heap.size + 1) s vt vr vq tl rl ql n0 n1 n2) := Lib.hid (by rw [hY]; exact lw_start w hT hR hQ htab)
  have HBE : Hid (∀ y, Below Y.heap.size Y y → Below w.heap.size w y) := Lib.hid (fun y h => by rw [hY] at h; exact below2 _ _ _ h)
  have hs := sanity_c Y H0.out.tab
  rw [hY] at hs
  have HSAN := Lib.hid hs
  have HFEW := Lib.hid (fun y (h : LW y w.heap.size (w.heap.size + 1) s vt vr vq tl rl ql n0 n1 n2) => few_r s vt vr vq tl rl ql y h.t h.r h.q)
  have HY := Lib.hid hY
  obtain ⟨aT, cT, rfl, _, _, _⟩ := hT
  obtain ⟨aR, cR, rfl, _, _, _⟩ := hR
  obtain ⟨aQ, cQ, rfl, _, _, _⟩ := hQ
  clear hs hY htab i0 i1 i2
  by_cases hfew : FewP tl rl ql
  case neg =>
    rw [decide_eq_false hfew] at HFEW
    clear hfew
    go_enter Tryd.func6, Tryd.ntmps6
    go_wp2_with (first
      | (go_at_call 9; refine HSAN.out.mono ?_; rintro e y1 ⟨rfl, hb1⟩; rw [← HY.out] at hb1; have H1 := Lib.hid (H0.out.on hb1); have HB1 := Lib.hid hb1; obtain ⟨c0, c1, c2, c3, b0, b1, b2⟩ := H1.out.cells; clear hb1)
      | (go_at_call 10; refine (HFEW.out y1 H1.out).mono ?_; rintro e y2 ⟨rfl, hb2⟩; have H2 := Lib.hid (H1.out.on hb2); have HB2 := Lib.hid (HB1.out.trans (hb2.mono HB1.out.size)); clear hb2 c0 c1 c2 c3 b0 b1 b2; obtain ⟨c0, c1, c2, c3, b0, b1, b2⟩ := H2.out.cells))
    go_ret
    exact ⟨rfl, HBE.out _ HB2.out⟩
  rw [decide_eq_true hfew] at HFEW
  have hrl : rl.length ≤ 1000 := by have := hfew.2.1; omega
  have HSRC := Lib.hid (fun y (h : RdE eR y (.slice aR rl.length cR) rl) => sources_c s (.slice aT tl.length cT) _ (.slice aQ ql.length cQ) rl n0 n2 y h hrl)
  have HTAR := Lib.hid (fun y (h : RdE eR y (.slice aR rl.length cR) rl) => targets_c s (.slice aT tl.length cT) _ (.slice aQ ql.length cQ) rl n0 n1 y h hrl)
  have HMAY := Lib.hid (fun y (h : RdE eR y (.slice aR rl.length cR) rl) => may_c s (.slice aT tl.length cT) _ (.slice aQ ql.length cQ) rl n0 n1 n2 y h)
  have HM1 := Lib.hid (sources_mem rl n0 n1 n2)
  have HM2 := Lib.hid (targets_mem rl n0 n1 n2)
  have HI1 := Lib.hid (srt_inc (sourcesP rl n0 n2))
  have HI2 := Lib.hid (srt_inc (targetsP rl n0 n1))
  generalize srt (sourcesP rl n0 n2) = S at HSRC HM1 HI1
  generalize srt (targetsP rl n0 n1) = T at HTAR HM2 HI2
  generalize decide (RuP.mk n0 n1 n2 ∈ rl) = mb at HMAY HM1 HM2
  have HH1 := Lib.hid (fun v y (h : RdE eI y v S) => holds_r v S n1 y h)
  have HH2 := Lib.hid (fun v y (h : RdE eI y v T) => holds_r v T n2 y h)
  rw [HM1.out] at HH1
  rw [HM2.out] at HH2
  clear hfew hrl
  go_enter Tryd.func6, Tryd.ntmps6
  go_wp2_with (first
      | (go_at_call 9; refine HSAN.out.mono ?_; rintro e y1 ⟨rfl, hb1⟩; rw [← HY.out] at hb1; have H1 := Lib.hid (H0.out.on hb1); have HB1 := Lib.hid hb1; obtain ⟨c0, c1, c2, c3, b0, b1, b2⟩ := H1.out.cells; clear hb1)
      | (go_at_call 10; refine (HFEW.out y1 H1.out).mono ?_; rintro e y2 ⟨rfl, hb2⟩; have H2 := Lib.hid (H1.out.on hb2); have HB2 := Lib.hid (HB1.out.trans (hb2.mono HB1.out.size)); clear hb2 c0 c1 c2 c3 b0 b1 b2; obtain ⟨c0, c1, c2, c3, b0, b1, b2⟩ := H2.out.cells)
      | (go_at_call 20; refine (HSRC.out y2 H2.out.r).mono ?_; rintro e y3 ⟨v3, rfl, hr3, hb3⟩; have H3 := Lib.hid (H2.out.on hb3); have HB3 := Lib.hid (HB2.out.trans (hb3.mono HB2.out.size)); have HR3 := Lib.hid hr3; clear hb3 hr3 c0 c1 c2 c3 b0 b1 b2; obtain ⟨c0, c1, c2, c3, b0, b1, b2⟩ := H3.out.cells)
      | (go_at_call 22; refine (HTAR.out y3 H3.out.r).mono ?_; rintro e y4 ⟨v4, rfl, hr4, hb4⟩; have H4 := Lib.hid (H3.out.on hb4); have HB4 := Lib.hid (HB3.out.trans (hb4.mono HB3.out.size)); have HR34 := Lib.hid (HR3.out.on hb4); have HR4 := Lib.hid hr4; clear hb4 c0 c1 c2 c3 b0 b1 b2; have hl3 := HR34.out.len; have hl4 := hr4.len; unfold maxLen at hl3 hl4; obtain ⟨a4, k4, rfl, _, _, _⟩ := hr4; obtain ⟨a3, k3, rfl, _, _, _⟩ := id HR34.out))
  go_loopw [8] (fun o wr => ∃ j : Nat, j ≤ S.length ∧ o = .int .i64 (j + 1) ∧ Below y4.heap.size y4 wr) (fun o _ => S.length + 1 - (intOf o).toNat)
  case atStart => exact ⟨0, Nat.zero_le _, rfl, Below.refl _ _⟩
  case round =>
    obtain ⟨j, hj, rfl, hb⟩ := hrel
    by_cases hlt : j + 1 < S.length
    · obtain ⟨b, off, rfl, hbl, hrow⟩ := ((HR34.out.on hb).cellsI) (by omega)
      have d0 := hrow j (by omega)
      have d1 := hrow (j + 1) hlt
      have d2 : wr.cell? ⟨b, off + j + 1, none⟩ = some (.int .i64 (nth S (j + 1))) := d1
      have g1 := inc_at S HI1.out j hlt
      have g2 : ¬ nth S (j + 1) ≤ nth S j := by omega
      have j1 : (j : Int) + 1 < S.length := by omega
      have j2 : (j : Int) < S.length := by omega
      have j3 : j < S.length := by omega
      have HK := Lib.hid hlt
      have HB := Lib.hid hb
      clear hrow hb
      go_wp2
      first | refine allD (by kernel_rfl) (by kernel_rfl) ?_ | refine all0 (by kernel_rfl) (by kernel_rfl) ?_
      repeat (go_big_quiet_step (fail))
      refine wpQuiet_nil ?_
      rintro _ ⟨nq, rfl⟩
      go_wp2
      go_roundw
      case rel => exact ⟨j + 1, by have := HK.out; omega, by go_num, below_drewN nq HB.out⟩
      case measure => have := HK.out; simp [intOf]; omega
    · have j1 : ¬ (j : Int) + 1 < S.length := by omega
      have HB5 := Lib.hid hb
      clear hb hlt
      go_wp2
      generalize wr = y5 at HB5 ⊢
      go_loopw [9] (fun o wr => ∃ j : Nat, j ≤ T.length ∧ o = .int .i64 (j + 1) ∧ Below y4.heap.size y4 wr) (fun o _ => T.length + 1 - (intOf o).toNat)
      case atStart => exact ⟨0, Nat.zero_le _, rfl, HB5.out⟩
      case round =>
        obtain ⟨i, hi, rfl, hb⟩ := hrel
        by_cases hlt : i + 1 < T.length
        · obtain ⟨b, off, rfl, hbl, hrow⟩ := ((HR4.out.on hb).cellsI) (by omega)
          have d0 := hrow i (by omega)
          have d1 := hrow (i + 1) hlt
          have d2 : wr.cell? ⟨b, off + i + 1, none⟩ = some (.int .i64 (nth T (i + 1))) := d1
          have g1 := inc_at T HI2.out i hlt
          have g2 : ¬ nth T (i + 1) ≤ nth T i := by omega
          have k1 : (i : Int) + 1 < T.length := by omega
          have k2 : (i : Int) < T.length := by omega
          have k3 : i < T.length := by omega
          have HK := Lib.hid hlt
          have HB := Lib.hid hb
          clear hrow hb
          go_wp2
          first | refine allD (by kernel_rfl) (by kernel_rfl) ?_ | refine all0 (by kernel_rfl) (by kernel_rfl) ?_
          repeat (go_big_quiet_step (fail))
          refine wpQuiet_nil ?_
          rintro _ ⟨nq, rfl⟩
          go_wp2
          go_roundw
          case rel => exact ⟨i + 1, by have := HK.out; omega, by go_num, below_drewN nq HB.out⟩
          case measure => have := HK.out; simp [intOf]; omega
        · have k1 : ¬ (i : Int) + 1 < T.length := by omega
          have H6 := Lib.hid (H4.out.on hb)
          have HB6 := Lib.hid (HB4.out.trans (hb.mono HB4.out.size))
          have HRS := Lib.hid (HR34.out.on hb)
          have HRT := Lib.hid (HR4.out.on hb)
          obtain ⟨c0, c1, c2, c3, b0, b1, b2⟩ := H6.out.cells
          clear hb hlt
          go_wp2_with (first
            | (go_at_call 24; refine (HMAY.out _ H6.out.r).mono ?_; rintro e y7 ⟨rfl, hb7⟩; have H7 := Lib.hid (H6.out.on hb7); have HB7 := Lib.hid (HB6.out.trans (hb7.mono HB6.out.size)); have HRS7 := Lib.hid (HRS.out.on hb7); have HRT7 := Lib.hid (HRT.out.on hb7); clear hb7 c0 c1 c2 c3 b0 b1 b2; obtain ⟨c0, c1, c2, c3, b0, b1, b2⟩ := H7.out.cells)
            | (go_at_call 30; refine (HH1.out _ y7 HRS7.out).mono ?_; rintro e y8 ⟨rfl, hb8⟩; have H8 := Lib.hid (H7.out.on hb8); have HB8 := Lib.hid (HB7.out.trans (hb8.mono HB7.out.size)); have HRT8 := Lib.hid (HRT7.out.on hb8); clear hb8 c0 c1 c2 c3 b0 b1 b2; obtain ⟨c0, c1, c2, c3, b0, b1, b2⟩ := H8.out.cells)
            | (go_at_call 30; refine (HH2.out _ y8 HRT8.out).mono ?_; rintro e y9 ⟨rfl, hb9⟩; have HB9 := Lib.hid (HB8.out.trans (hb9.mono HB8.out.size)); clear hb9))
          go_ret
          exact ⟨by simp, HBE.out _ HB9.out⟩
set_option maxRecDepth 100000 in
theorem permSourcesAreTargets_lifted (os : Os) (started : os.Started) (H : Type) (enc : TypeId × Value → H) :
    ReturnsInHanded {} Tryd.checked os 6 .any (fun w args => (Rows.permSourcesAreTargetsSpec.pre enc Tryd.prog Tryd.f6 [] false w args ∧ laidMetH Tryd.prog laidL w) ∧ sizedMet enc Tryd.prog Tryd.f6 (OpenSpec.ofChange Rows.permSourcesAreTargetsSpec) false w args) (Rows.permSourcesAreTargetsSpec.post enc Tryd.prog Tryd.f6 false true false false) := by
  refine returnsInHanded_of_change_and (C := Tryd.checked) (X := fun w _ => laidMetH Tryd.prog laidL w) (fun _ _ _ hh h => h.of_heap hh) Tryd.own started (by kernel_rfl) Tryd.func6
    (ChangeSpec.witness_shaped (enc := enc) (C := Tryd.checked) (os := os) (X := fun w _ => laidMetH Tryd.prog laidL w) false (World.doorLaid Tryd.prog 19 os) #[.agg #[.string ByteArray.empty, .slice none 0 0, .slice none 0 0, .slice none 0 0], .agg #[.int .i64 0, .int .i64 0, .int .i64 0]] 8 rfl (World.shaped_of_RefB (by kernel_rfl) (by kernel_rfl)) (by kernel_rfl) (by kernel_rfl) (by kernel_rfl) (door_met os _)) ?_
  intro W base args ds gs before hval0 hW _ _ hL _
  have hval : ∀ (j : Nat) t v, Tryd.f6.params[j]? = some t → args[j]? = some v → Value.okWide Tryd.prog W .any base t v := hval0
  have hW' := hW
  obtain ⟨p, q, hA0, hV, rfl, hfz, hnd⟩ := hW
  have hA : DataW.TrodAll enc Tryd.prog W 0 (fun _ => true) true Tryd.f6.params.toList args.toList ds p := hA0
  rw [Tryd.params6] at hA hval
  obtain ⟨v0, vs0, d0, ds0, p0, q0, hargs, rfl, rfl, h0, r0⟩ := trodAll_cons hA
  obtain ⟨v1, vs1, d1, ds1, p1, q1, rfl, rfl, rfl, h1, r1⟩ := trodAll_cons r0
  obtain ⟨rfl, rfl, rfl⟩ := trodAll_nil r1
  obtain rfl : args = #[v0, v1] := by cases args; simp_all
  obtain ⟨rfl, rfl⟩ := trodVars_none hV
  have k0 := h0
  have lt0 : ∀ x ∈ p0, x.block < W.heap.size := by obtain ⟨m, hm⟩ := k0; exact DataW.trod_lt m _ _ _ hm
  have k1 := h1
  have lt1 : ∀ x ∈ p1, x.block < W.heap.size := by obtain ⟨m, hm⟩ := k1; exact DataW.trod_lt m _ _ _ hm
  obtain ⟨s, vt, vr, vq, tl, rl, ql, rfl, hT, hR, hQ⟩ := open_pol (hval 0 26 v0 rfl rfl) h0
  obtain ⟨n0, n1, n2, rfl, i0, i1, i2⟩ := open_a3 (hval 1 27 v1 rfl rfl) h1
  have htab := tab_at hL
  clear hA0 hval0
  refine (permSourcesAreTargets_walk s vt vr vq tl rl ql n0 n1 n2 W hT hR hQ i0 i1 i2 htab).mono fun e W' ⟨he, bel⟩ => ?_
  subst he
  exact ⟨_, rfl, _, _, _, [], _, [], hW', trodAll_mk1 (shut_bool Tryd.underlying4 _), (trodAll_cons_mk (Below.trod Tryd.laidOut (by kernel_rfl) (of_decide_eq_true (by kernel_rfl)) k0 bel lt0) (trodAll_cons_mk (Below.trod Tryd.laidOut (by kernel_rfl) (of_decide_eq_true (by kernel_rfl)) k1 bel lt1) trodAll_mk0)), rfl, bel.frame _, fun h => by cases h⟩
theorem permSourcesAreTargets_row : Rows.PermSourcesAreTargetsSaid :=
  OpenClaim.holds_of_wide 6 Tryd.f6 rfl rfl rfl rfl rfl rfl rfl ⟨rfl, rfl, rfl, rfl, rfl⟩ rfl rfl rfl rfl rfl (by kernel_rfl) Tryd.func6 (by kernel_rfl)
    (of_decide_eq_true (by kernel_rfl)) (by unfold Func.isWrapper; first | (rw [if_pos (by decide +kernel)]; kernel_rfl) | (rw [if_neg (by decide +kernel)]; exact ⟨rfl, rfl⟩))
    (fun os started H enc _ => permSourcesAreTargets_lifted os started H enc)
theorem PermSourcesAreTargets_proved : Rows.PermSourcesAreTargetsCardSaid :=
  Claim7.holds_tied_plain_at .later [] [.data] true Rows.permSourcesAreTargetsCard.stood.harness false
    permSourcesAreTargets_row (fun _ h => by cases h) (by kernel_rfl) (fun _ h => by cases h) permSourcesAreTargets_row_tie rfl ⟨rfl, rfl⟩ (by kernel_rfl) rfl
    (fun f fn hf hfn => by
      obtain rfl : f = 6 := Option.some.inj ((show Tryd.prog.funcNamed "custody/custodylaw14.PermSourcesAreTargets" = some 6 by kernel_rfl).symm.trans hf) |>.symm
      obtain rfl : fn = Tryd.f6 := (Option.some.inj (Tryd.func6.symm.trans hfn)).symm
      exact ⟨by kernel_rfl, fun j t ht => by
        rw [Tryd.params6] at ht
        rcases j with _ | _ | j
        · simp at ht; subst ht; kernel_rfl
        · simp at ht; subst ht; kernel_rfl
        · simp at ht⟩)
    (by kernel_rfl)

end Go.Proofs.YtamdlkflcbefdaaDoor
