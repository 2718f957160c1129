/- The law PermGrantNarrows holds for every input: it returns true and leaves its arguments as they were. No condition. -/
import Derived.Test.YtamdlkflcbefdaaDoorFrameP
import Derived.Test.YtamdlkflcbefdaaDoorLawP
import Derived.Test.YtamdlkflcbefdaaDoorTie
import Derived.Test.YtamdlkflcbefdaaDoorCards
import Derived.SevenTiedAt
namespace Go.Proofs.YtamdlkflcbefdaaDoor
open Go.ChangeShapes Go.WideShapes Go.ChangeAt Go.RowKit
open Go.ChangeMaps (open_string shut_string)
set_option linter.unusedSimpArgs false
set_option linter.unusedVariables false
attribute [local irreducible] Calls srt insAll targetsP sourcesP usesP grP hasP hasR tyIx quIx quP subB band
set_option maxRecDepth 100000 in
set_option maxHeartbeats 8000000 in
theorem permGrantNarrows_walk (s : ByteArray) (vt vr vq : Value) (tl : List TyP) (rl : List RuP) (ql : List QuP) (n0 n1 n2 : Int) (a2 : Int) (a3 : Int) (w : World) (hT : RdE eT w vt tl) (hR : RdE eR w vr rl) (hQ : RdE eQ w vq ql) (i0 : I64 n0) (i1 : I64 n1) (i2 : I64 n2) (w2 : (Lit.int .i64 a2).wf = true) (w3 : (Lit.int .u16 a3).wf = true) (htab : TabAt w) :
    Calls Tryd.prog 7 #[.agg #[.string s, vt, vr, vq], .agg #[.int .i64 n0, .int .i64 n1, .int .i64 n2], .int .i64 a2, .int .u16 a3] w fun e w' => e = .returned (.bool true) ∧ Below w.heap.size w w' := by
  obtain ⟨Y, hY⟩ : ∃ Y, Y = (w.alloc (.cells #[.string s, vt, vr, vq] 26)).alloc (.cells #[.int .i64 n0, .int .i64 n1, .int .i64 n2] 27) := ⟨_, rfl⟩
  have H0 : Hid (LW Y w.heap.size (w.heap.size + 1) s vt vr vq tl rl ql n0 n1 n2) := Lib.hid (by rw [hY]; exact lw_start w hT hR hQ htab)
  have HBE : Hid (∀ y, Below Y.heap.size Y y → Below w.heap.size w y) := Lib.hid (fun y h => by rw [hY] at h; exact below2 _ _ _ h)
  have hs := sanity_c Y H0.out.tab
  rw [hY] at hs
  have HSAN := Lib.hid hs
  have HFEW := Lib.hid (fun y (h : LW y w.heap.size (w.heap.size + 1) s vt vr vq tl rl ql n0 n1 n2) => few_r s vt vr vq tl rl ql y h.t h.r h.q)
  have HY := Lib.hid hY
  obtain ⟨aT, cT, rfl, _, _, _⟩ := hT
  obtain ⟨aR, cR, rfl, _, _, _⟩ := hR
  obtain ⟨aQ, cQ, rfl, _, _, _⟩ := hQ
  have HL3 := Lib.hid w3
  clear hs hY htab w2 w3 i0 i1 i2
  by_cases hfew : FewP tl rl ql
  case neg =>
    rw [decide_eq_false hfew] at HFEW
    clear hfew
    go_enter Tryd.func7, Tryd.ntmps7
    go_wp2_with (first
      | (go_at_call 9; refine HSAN.out.mono ?_; rintro e y1 ⟨rfl, hb1⟩; rw [← HY.out] at hb1; have H1 := Lib.hid (H0.out.on hb1); have HB1 := Lib.hid hb1; obtain ⟨c0, c1, c2, c3, b0, b1, b2⟩ := H1.out.cells; clear hb1)
      | (go_at_call 10; refine (HFEW.out y1 H1.out).mono ?_; rintro e y2 ⟨rfl, hb2⟩; have HB2 := Lib.hid (HB1.out.trans (hb2.mono HB1.out.size)); clear hb2))
    go_ret
    exact ⟨rfl, HBE.out _ HB2.out⟩
  rw [decide_eq_true hfew] at HFEW
  have HG := Lib.hid (fun t u li y (h : LW y w.heap.size (w.heap.size + 1) s (.slice aT tl.length cT) (.slice aR rl.length cR) (.slice aQ ql.length cQ) tl rl ql n0 n1 n2) => grant_c s _ _ (.slice aQ ql.length cQ) tl rl t u li y h.t h.r h.tab)
  have HUS := Lib.hid (fun t y (h : LW y w.heap.size (w.heap.size + 1) s (.slice aT tl.length cT) (.slice aR rl.length cR) (.slice aQ ql.length cQ) tl rl ql n0 n1 n2) => uses_c s _ _ (.slice aQ ql.length cQ) tl rl t y h.t h.r h.tab)
  have HG1 := Lib.hid (HG.out n0 n1 n2)
  clear hfew
  rcases grP_narrow tl rl n0 n1 n2 with ⟨e, he, hr⟩ | ⟨L, hr, hs1, hs2, hnar⟩
  · rw [hr] at HG1
    clear hr
    rcases he with rfl | rfl | rfl
    all_goals
      go_enter Tryd.func7, Tryd.ntmps7
      go_wp2_with (first
        | (go_at_call 9; refine HSAN.out.mono ?_; rintro e y1 ⟨rfl, hb1⟩; rw [← HY.out] at hb1; have H1 := Lib.hid (H0.out.on hb1); have HB1 := Lib.hid hb1; obtain ⟨c0, c1, c2, c3, b0, b1, b2⟩ := H1.out.cells; clear hb1)
        | (go_at_call 10; refine (HFEW.out y1 H1.out).mono ?_; rintro e y2 ⟨rfl, hb2⟩; have H2 := Lib.hid (H1.out.on hb2); have HB2 := Lib.hid (HB1.out.trans (hb2.mono HB1.out.size)); clear hb2 c0 c1 c2 c3 b0 b1 b2; obtain ⟨c0, c1, c2, c3, b0, b1, b2⟩ := H2.out.cells)
        | (go_at_call 28; refine (HG1.out y2 H2.out).mono ?_; rintro e y3 ⟨rfl, hb3⟩; have HB3 := Lib.hid (HB2.out.trans (hb3.mono HB2.out.size)); clear hb3))
      go_ret
      exact ⟨rfl, HBE.out _ HB3.out⟩
  · rw [hr] at HG1
    clear hr
    have HS1 := Lib.hid (fun y => subset_c n1 (usesP tl rl n0) y)
    have HS2 := Lib.hid (fun y => subset_c n1 956 y)
    rw [hs1] at HS1
    rw [hs2] at HS2
    clear hs1 hs2
    by_cases hL0 : L < 0
    · clear hnar
      go_enter Tryd.func7, Tryd.ntmps7
      go_wp2_with (first
        | (go_at_call 9; refine HSAN.out.mono ?_; rintro e y1 ⟨rfl, hb1⟩; rw [← HY.out] at hb1; have H1 := Lib.hid (H0.out.on hb1); have HB1 := Lib.hid hb1; obtain ⟨c0, c1, c2, c3, b0, b1, b2⟩ := H1.out.cells; clear hb1)
        | (go_at_call 10; refine (HFEW.out y1 H1.out).mono ?_; rintro e y2 ⟨rfl, hb2⟩; have H2 := Lib.hid (H1.out.on hb2); have HB2 := Lib.hid (HB1.out.trans (hb2.mono HB1.out.size)); clear hb2 c0 c1 c2 c3 b0 b1 b2; obtain ⟨c0, c1, c2, c3, b0, b1, b2⟩ := H2.out.cells)
        | (go_at_call 28; refine (HG1.out y2 H2.out).mono ?_; rintro e y3 ⟨rfl, hb3⟩; have H3 := Lib.hid (H2.out.on hb3); have HB3 := Lib.hid (HB2.out.trans (hb3.mono HB2.out.size)); clear hb3 c0 c1 c2 c3 b0 b1 b2; obtain ⟨c0, c1, c2, c3, b0, b1, b2⟩ := H3.out.cells)
        | (go_at_call 26; refine (HUS.out n0 y3 H3.out).mono ?_; rintro e y4 ⟨rfl, hb4⟩; have H4 := Lib.hid (H3.out.on hb4); have HB4 := Lib.hid (HB3.out.trans (hb4.mono HB3.out.size)); clear hb4 c0 c1 c2 c3 b0 b1 b2; obtain ⟨c0, c1, c2, c3, b0, b1, b2⟩ := H4.out.cells)
        | (go_at_call 17; first
            | (refine (HS1.out _).mono ?_; rintro e yz ⟨rfl, hz⟩; rw [hz]; clear hz)
            | (refine (HS2.out _).mono ?_; rintro e yz ⟨rfl, hz⟩; rw [hz]; clear hz)))
      go_ret
      exact ⟨rfl, HBE.out _ HB4.out⟩
    · by_cases hL1 : 1099511627776 < L
      · clear hnar
        go_enter Tryd.func7, Tryd.ntmps7
        go_wp2_with (first
          | (go_at_call 9; refine HSAN.out.mono ?_; rintro e y1 ⟨rfl, hb1⟩; rw [← HY.out] at hb1; have H1 := Lib.hid (H0.out.on hb1); have HB1 := Lib.hid hb1; obtain ⟨c0, c1, c2, c3, b0, b1, b2⟩ := H1.out.cells; clear hb1)
          | (go_at_call 10; refine (HFEW.out y1 H1.out).mono ?_; rintro e y2 ⟨rfl, hb2⟩; have H2 := Lib.hid (H1.out.on hb2); have HB2 := Lib.hid (HB1.out.trans (hb2.mono HB1.out.size)); clear hb2 c0 c1 c2 c3 b0 b1 b2; obtain ⟨c0, c1, c2, c3, b0, b1, b2⟩ := H2.out.cells)
          | (go_at_call 28; refine (HG1.out y2 H2.out).mono ?_; rintro e y3 ⟨rfl, hb3⟩; have H3 := Lib.hid (H2.out.on hb3); have HB3 := Lib.hid (HB2.out.trans (hb3.mono HB2.out.size)); clear hb3 c0 c1 c2 c3 b0 b1 b2; obtain ⟨c0, c1, c2, c3, b0, b1, b2⟩ := H3.out.cells)
          | (go_at_call 26; refine (HUS.out n0 y3 H3.out).mono ?_; rintro e y4 ⟨rfl, hb4⟩; have H4 := Lib.hid (H3.out.on hb4); have HB4 := Lib.hid (HB3.out.trans (hb4.mono HB3.out.size)); clear hb4 c0 c1 c2 c3 b0 b1 b2; obtain ⟨c0, c1, c2, c3, b0, b1, b2⟩ := H4.out.cells)
          | (go_at_call 17; first
              | (refine (HS1.out _).mono ?_; rintro e yz ⟨rfl, hz⟩; rw [hz]; clear hz)
              | (refine (HS2.out _).mono ?_; rintro e yz ⟨rfl, hz⟩; rw [hz]; clear hz)))
        go_ret
        exact ⟨rfl, HBE.out _ HB4.out⟩
      · obtain ⟨hg2, hg3⟩ := hnar (by omega) (by omega)
        have HG2 := Lib.hid (HG.out n0 n1 L)
        rw [hg2] at HG2
        by_cases hL2 : 1 < L
        · have hm := Int.tmod_nonneg L (by have := HL3.out; simp only [Lit.wf, Bool.and_eq_true, decide_eq_true_eq] at this; exact this.1 : (0 : Int) ≤ a3)
          have hm2 := Int.tmod_lt_of_pos a3 (by omega : 0 < L)
          have hg4 := hg3 a2 (1 + a3.tmod L) (by omega) (by omega) (by omega)
          have HG3 := Lib.hid (HG.out n0 (band n1 a2) (1 + a3.tmod L))
          rw [hg4] at HG3
          have HM : Hid (0 ≤ a3.tmod L ∧ a3.tmod L < L) := Lib.hid ⟨hm, hm2⟩
          generalize hmm : a3.tmod L = m at HG3 HM
          obtain ⟨m1, m2⟩ := HM.out
          have hne : ¬ L = 0 := by omega
          have z1 : wrap64 a3 = a3 := by
            have := HL3.out
            simp only [Lit.wf, Bool.and_eq_true, decide_eq_true_eq] at this
            have h1 : (0 : Int) ≤ a3 := this.1
            have h2 : a3 ≤ 65535 := this.2
            unfold wrap64
            omega
          have z2 : wrap64 (1 + m) = 1 + m := by unfold wrap64; omega
          unfold band at HG3
          clear hg2 hg3 hg4 hm hm2
          go_enter Tryd.func7, Tryd.ntmps7
          go_wp2_with (first
            | (go_at_call 9; refine HSAN.out.mono ?_; rintro e y1 ⟨rfl, hb1⟩; rw [← HY.out] at hb1; have H1 := Lib.hid (H0.out.on hb1); have HB1 := Lib.hid hb1; obtain ⟨c0, c1, c2, c3, b0, b1, b2⟩ := H1.out.cells; clear hb1)
            | (go_at_call 10; refine (HFEW.out y1 H1.out).mono ?_; rintro e y2 ⟨rfl, hb2⟩; have H2 := Lib.hid (H1.out.on hb2); have HB2 := Lib.hid (HB1.out.trans (hb2.mono HB1.out.size)); clear hb2 c0 c1 c2 c3 b0 b1 b2; obtain ⟨c0, c1, c2, c3, b0, b1, b2⟩ := H2.out.cells)
            | (go_at_call 28; refine (HG1.out y2 H2.out).mono ?_; rintro e y3 ⟨rfl, hb3⟩; have H3 := Lib.hid (H2.out.on hb3); have HB3 := Lib.hid (HB2.out.trans (hb3.mono HB2.out.size)); clear hb3 c0 c1 c2 c3 b0 b1 b2; obtain ⟨c0, c1, c2, c3, b0, b1, b2⟩ := H3.out.cells)
            | (go_at_call 26; refine (HUS.out n0 y3 H3.out).mono ?_; rintro e y4 ⟨rfl, hb4⟩; have H4 := Lib.hid (H3.out.on hb4); have HB4 := Lib.hid (HB3.out.trans (hb4.mono HB3.out.size)); clear hb4 c0 c1 c2 c3 b0 b1 b2; obtain ⟨c0, c1, c2, c3, b0, b1, b2⟩ := H4.out.cells)
            | (go_at_call 17; first
                | (refine (HS1.out _).mono ?_; rintro e yz ⟨rfl, hz⟩; rw [hz]; clear hz)
                | (refine (HS2.out _).mono ?_; rintro e yz ⟨rfl, hz⟩; rw [hz]; clear hz))
            | (go_at_call 28; refine (HG2.out y4 H4.out).mono ?_; rintro e y5 ⟨rfl, hb5⟩; have H5 := Lib.hid (H4.out.on hb5); have HB5 := Lib.hid (HB4.out.trans (hb5.mono HB4.out.size)); clear hb5 c0 c1 c2 c3 b0 b1 b2; obtain ⟨c0, c1, c2, c3, b0, b1, b2⟩ := H5.out.cells)
            | (go_at_call 28; refine (HG3.out y5 H5.out).mono ?_; rintro e y6 ⟨rfl, hb6⟩; have HB6 := Lib.hid (HB5.out.trans (hb6.mono HB5.out.size)); clear hb6))
          go_ret
          exact ⟨rfl, HBE.out _ HB6.out⟩
        · have hg4 := hg3 a2 L (by omega) (by omega) (fun h => h)
          have HG3 := Lib.hid (HG.out n0 (band n1 a2) L)
          rw [hg4] at HG3
          unfold band at HG3
          clear hg2 hg3 hg4
          go_enter Tryd.func7, Tryd.ntmps7
          go_wp2_with (first
            | (go_at_call 9; refine HSAN.out.mono ?_; rintro e y1 ⟨rfl, hb1⟩; rw [← HY.out] at hb1; have H1 := Lib.hid (H0.out.on hb1); have HB1 := Lib.hid hb1; obtain ⟨c0, c1, c2, c3, b0, b1, b2⟩ := H1.out.cells; clear hb1)
            | (go_at_call 10; refine (HFEW.out y1 H1.out).mono ?_; rintro e y2 ⟨rfl, hb2⟩; have H2 := Lib.hid (H1.out.on hb2); have HB2 := Lib.hid (HB1.out.trans (hb2.mono HB1.out.size)); clear hb2 c0 c1 c2 c3 b0 b1 b2; obtain ⟨c0, c1, c2, c3, b0, b1, b2⟩ := H2.out.cells)
            | (go_at_call 28; refine (HG1.out y2 H2.out).mono ?_; rintro e y3 ⟨rfl, hb3⟩; have H3 := Lib.hid (H2.out.on hb3); have HB3 := Lib.hid (HB2.out.trans (hb3.mono HB2.out.size)); clear hb3 c0 c1 c2 c3 b0 b1 b2; obtain ⟨c0, c1, c2, c3, b0, b1, b2⟩ := H3.out.cells)
            | (go_at_call 26; refine (HUS.out n0 y3 H3.out).mono ?_; rintro e y4 ⟨rfl, hb4⟩; have H4 := Lib.hid (H3.out.on hb4); have HB4 := Lib.hid (HB3.out.trans (hb4.mono HB3.out.size)); clear hb4 c0 c1 c2 c3 b0 b1 b2; obtain ⟨c0, c1, c2, c3, b0, b1, b2⟩ := H4.out.cells)
            | (go_at_call 17; first
                | (refine (HS1.out _).mono ?_; rintro e yz ⟨rfl, hz⟩; rw [hz]; clear hz)
                | (refine (HS2.out _).mono ?_; rintro e yz ⟨rfl, hz⟩; rw [hz]; clear hz))
            | (go_at_call 28; refine (HG2.out y4 H4.out).mono ?_; rintro e y5 ⟨rfl, hb5⟩; have H5 := Lib.hid (H4.out.on hb5); have HB5 := Lib.hid (HB4.out.trans (hb5.mono HB4.out.size)); clear hb5 c0 c1 c2 c3 b0 b1 b2; obtain ⟨c0, c1, c2, c3, b0, b1, b2⟩ := H5.out.cells)
            | (go_at_call 28; refine (HG3.out y5 H5.out).mono ?_; rintro e y6 ⟨rfl, hb6⟩; have HB6 := Lib.hid (HB5.out.trans (hb6.mono HB5.out.size)); clear hb6))
          go_ret
          exact ⟨rfl, HBE.out _ HB6.out⟩
set_option maxRecDepth 100000 in
theorem permGrantNarrows_lifted (os : Os) (started : os.Started) (H : Type) (enc : TypeId × Value → H) :
    ReturnsInHanded {} Tryd.checked os 7 .any (fun w args => (Rows.permGrantNarrowsSpec.pre enc Tryd.prog Tryd.f7 [] false w args ∧ laidMetH Tryd.prog laidL w) ∧ sizedMet enc Tryd.prog Tryd.f7 (OpenSpec.ofChange Rows.permGrantNarrowsSpec) false w args) (Rows.permGrantNarrowsSpec.post enc Tryd.prog Tryd.f7 false true false false) := by
  refine returnsInHanded_of_change_and (C := Tryd.checked) (X := fun w _ => laidMetH Tryd.prog laidL w) (fun _ _ _ hh h => h.of_heap hh) Tryd.own started (by kernel_rfl) Tryd.func7
    (ChangeSpec.witness_shaped (enc := enc) (C := Tryd.checked) (os := os) (X := fun w _ => laidMetH Tryd.prog laidL w) false (World.doorLaid Tryd.prog 19 os) #[.agg #[.string ByteArray.empty, .slice none 0 0, .slice none 0 0, .slice none 0 0], .agg #[.int .i64 0, .int .i64 0, .int .i64 0], .int .i64 0, .int .u16 0] 8 rfl (World.shaped_of_RefB (by kernel_rfl) (by kernel_rfl)) (by kernel_rfl) (by kernel_rfl) (by kernel_rfl) (door_met os _)) ?_
  intro W base args ds gs before hval0 hW _ _ hL _
  have hval : ∀ (j : Nat) t v, Tryd.f7.params[j]? = some t → args[j]? = some v → Value.okWide Tryd.prog W .any base t v := hval0
  have hW' := hW
  obtain ⟨p, q, hA0, hV, rfl, hfz, hnd⟩ := hW
  have hA : DataW.TrodAll enc Tryd.prog W 0 (fun _ => true) true Tryd.f7.params.toList args.toList ds p := hA0
  rw [Tryd.params7] at hA hval
  obtain ⟨v0, vs0, d0, ds0, p0, q0, hargs, rfl, rfl, h0, r0⟩ := trodAll_cons hA
  obtain ⟨v1, vs1, d1, ds1, p1, q1, rfl, rfl, rfl, h1, r1⟩ := trodAll_cons r0
  obtain ⟨v2, vs2, d2, ds2, p2, q2, rfl, rfl, rfl, h2, r2⟩ := trodAll_cons r1
  obtain ⟨v3, vs3, d3, ds3, p3, q3, rfl, rfl, rfl, h3, r3⟩ := trodAll_cons r2
  obtain ⟨rfl, rfl, rfl⟩ := trodAll_nil r3
  obtain rfl : args = #[v0, v1, v2, v3] := by cases args; simp_all
  obtain ⟨rfl, rfl⟩ := trodVars_none hV
  have k0 := h0
  have lt0 : ∀ x ∈ p0, x.block < W.heap.size := by obtain ⟨m, hm⟩ := k0; exact DataW.trod_lt m _ _ _ hm
  have k1 := h1
  have lt1 : ∀ x ∈ p1, x.block < W.heap.size := by obtain ⟨m, hm⟩ := k1; exact DataW.trod_lt m _ _ _ hm
  obtain ⟨s, vt, vr, vq, tl, rl, ql, rfl, hT, hR, hQ⟩ := open_pol (hval 0 26 v0 rfl rfl) h0
  obtain ⟨n0, n1, n2, rfl, i0, i1, i2⟩ := open_a3 (hval 1 27 v1 rfl rfl) h1
  obtain ⟨a2, rfl, rfl, rfl, w2⟩ := open_int Tryd.underlying3 (hval 2 3 v2 rfl rfl) h2
  obtain ⟨a3, rfl, rfl, rfl, w3⟩ := open_int Tryd.underlying52 (hval 3 52 v3 rfl rfl) h3
  have htab := tab_at hL
  clear hA0 hval0
  refine (permGrantNarrows_walk s vt vr vq tl rl ql n0 n1 n2 a2 a3 W hT hR hQ i0 i1 i2 w2 w3 htab).mono fun e W' ⟨he, bel⟩ => ?_
  subst he
  exact ⟨_, rfl, _, _, _, [], _, [], hW', trodAll_mk1 (shut_bool Tryd.underlying4 _), (trodAll_cons_mk (Below.trod Tryd.laidOut (by kernel_rfl) (of_decide_eq_true (by kernel_rfl)) k0 bel lt0) (trodAll_cons_mk (Below.trod Tryd.laidOut (by kernel_rfl) (of_decide_eq_true (by kernel_rfl)) k1 bel lt1) (trodAll_cons_mk (shut_int Tryd.underlying3 w2) (trodAll_cons_mk (shut_int Tryd.underlying52 w3) trodAll_mk0)))), rfl, bel.frame _, fun h => by cases h⟩
theorem permGrantNarrows_row : Rows.PermGrantNarrowsSaid :=
  OpenClaim.holds_of_wide 7 Tryd.f7 rfl rfl rfl rfl rfl rfl rfl ⟨rfl, rfl, rfl, rfl, rfl⟩ rfl rfl rfl rfl rfl (by kernel_rfl) Tryd.func7 (by kernel_rfl)
    (of_decide_eq_true (by kernel_rfl)) (by unfold Func.isWrapper; first | (rw [if_pos (by decide +kernel)]; kernel_rfl) | (rw [if_neg (by decide +kernel)]; exact ⟨rfl, rfl⟩))
    (fun os started H enc _ => permGrantNarrows_lifted os started H enc)
theorem PermGrantNarrows_proved : Rows.PermGrantNarrowsCardSaid :=
  Claim7.holds_tied_plain_at .later [] [.data] true Rows.permGrantNarrowsCard.stood.harness false
    permGrantNarrows_row (fun _ h => by cases h) (by kernel_rfl) (fun _ h => by cases h) permGrantNarrows_row_tie rfl ⟨rfl, rfl⟩ (by kernel_rfl) rfl
    (fun f fn hf hfn => by
      obtain rfl : f = 7 := Option.some.inj ((show Tryd.prog.funcNamed "custody/custodylaw14.PermGrantNarrows" = some 7 by kernel_rfl).symm.trans hf) |>.symm
      obtain rfl : fn = Tryd.f7 := (Option.some.inj (Tryd.func7.symm.trans hfn)).symm
      exact ⟨by kernel_rfl, fun j t ht => by
        rw [Tryd.params7] at ht
        rcases j with _ | _ | _ | _ | j
        · simp at ht; subst ht; kernel_rfl
        · simp at ht; subst ht; kernel_rfl
        · simp at ht; subst ht; kernel_rfl
        · simp at ht; subst ht; kernel_rfl
        · simp at ht⟩)
    (by kernel_rfl)

end Go.Proofs.YtamdlkflcbefdaaDoor
