/- The law PermGrantMatchesSpec holds for every input: it returns true and leaves its arguments as they were. No condition. -/
import Derived.Test.YtamdlkflcbefdaaDoorFrameP
import Derived.Test.YtamdlkflcbefdaaDoorLawQ
import Derived.Test.YtamdlkflcbefdaaDoorTie
import Derived.Test.YtamdlkflcbefdaaDoorCards
import Derived.SevenTiedAt
namespace Go.Proofs.YtamdlkflcbefdaaDoor
open Go.ChangeShapes Go.WideShapes Go.ChangeAt Go.RowKit
open Go.ChangeMaps (open_string shut_string)
set_option linter.unusedSimpArgs false
set_option linter.unusedVariables false
attribute [local irreducible] Calls srt insAll targetsP sourcesP usesP grP hasP hasR tyIx quIx quP subB band
set_option maxRecDepth 100000 in
set_option maxHeartbeats 8000000 in
theorem permGrantMatchesSpec_walk (s : ByteArray) (vt vr vq : Value) (tl : List TyP) (rl : List RuP) (ql : List QuP) (n0 n1 n2 : Int) (w : World) (hT : RdE eT w vt tl) (hR : RdE eR w vr rl) (hQ : RdE eQ w vq ql) (i0 : I64 n0) (i1 : I64 n1) (i2 : I64 n2) (htab : TabAt w) :
    Calls Tryd.prog 5 #[.agg #[.string s, vt, vr, vq], .agg #[.int .i64 n0, .int .i64 n1, .int .i64 n2]] w fun e w' => e = .returned (.bool true) ∧ Below w.heap.size w w' := by
  obtain ⟨Y, hY⟩ : ∃ Y, Y = (w.alloc (.cells #[.string s, vt, vr, vq] 26)).alloc (.cells #[.int .i64 n0, .int .i64 n1, .int .i64 n2] 27) := ⟨_, rfl⟩
  have H0 : Hid (LW Y w.heap.size (w.heap.size + 1) s vt vr vq tl rl ql n0 n1 n2) := Lib.hid (by rw [hY]; exact lw_start w hT hR hQ htab)
  have HBE : Hid (∀ y, Below Y.heap.size Y y → Below w.heap.size w y) := Lib.hid (fun y h => by rw [hY] at h; exact below2 _ _ _ h)
  have hs := sanity_c Y H0.out.tab
  rw [hY] at hs
  have HSAN := Lib.hid hs
  have HFEW := Lib.hid (fun y (h : LW y w.heap.size (w.heap.size + 1) s vt vr vq tl rl ql n0 n1 n2) => few_r s vt vr vq tl rl ql y h.t h.r h.q)
  have HY := Lib.hid hY
  obtain ⟨aT, cT, rfl, _, _, _⟩ := hT
  obtain ⟨aR, cR, rfl, _, _, _⟩ := hR
  obtain ⟨aQ, cQ, rfl, _, _, _⟩ := hQ
  have HGR := Lib.hid (fun y (h : LW y w.heap.size (w.heap.size + 1) s (.slice aT tl.length cT) (.slice aR rl.length cR) (.slice aQ ql.length cQ) tl rl ql n0 n1 n2) => grant_r s _ _ (.slice aQ ql.length cQ) tl rl n0 n1 n2 y h.t h.r i1)
  have HGC := Lib.hid (fun y (h : LW y w.heap.size (w.heap.size + 1) s (.slice aT tl.length cT) (.slice aR rl.length cR) (.slice aQ ql.length cQ) tl rl ql n0 n1 n2) => grant_c s _ _ (.slice aQ ql.length cQ) tl rl n0 n1 n2 y h.t h.r h.tab)
  generalize grP tl rl n0 n1 n2 = gr at HGR HGC
  obtain ⟨r1, r2, r3⟩ := gr
  clear hs hY htab i0 i1 i2
  by_cases hfew : FewP tl rl ql
  case neg =>
    rw [decide_eq_false hfew] at HFEW
    clear hfew
    go_enter Tryd.func5, Tryd.ntmps5
    go_wp2_with (first
      | (go_at_call 9; refine HSAN.out.mono ?_; rintro e y1 ⟨rfl, hb1⟩; rw [← HY.out] at hb1; have H1 := Lib.hid (H0.out.on hb1); have HB1 := Lib.hid hb1; obtain ⟨c0, c1, c2, c3, b0, b1, b2⟩ := H1.out.cells; clear hb1)
      | (go_at_call 10; refine (HFEW.out y1 H1.out).mono ?_; rintro e y2 ⟨rfl, hb2⟩; have H2 := Lib.hid (H1.out.on hb2); have HB2 := Lib.hid (HB1.out.trans (hb2.mono HB1.out.size)); clear hb2 c0 c1 c2 c3 b0 b1 b2; obtain ⟨c0, c1, c2, c3, b0, b1, b2⟩ := H2.out.cells))
    go_ret
    exact ⟨rfl, HBE.out _ HB2.out⟩
  rw [decide_eq_true hfew] at HFEW
  clear hfew
  go_enter Tryd.func5, Tryd.ntmps5
  go_wp2_with (first
      | (go_at_call 9; refine HSAN.out.mono ?_; rintro e y1 ⟨rfl, hb1⟩; rw [← HY.out] at hb1; have H1 := Lib.hid (H0.out.on hb1); have HB1 := Lib.hid hb1; obtain ⟨c0, c1, c2, c3, b0, b1, b2⟩ := H1.out.cells; clear hb1)
      | (go_at_call 10; refine (HFEW.out y1 H1.out).mono ?_; rintro e y2 ⟨rfl, hb2⟩; have H2 := Lib.hid (H1.out.on hb2); have HB2 := Lib.hid (HB1.out.trans (hb2.mono HB1.out.size)); clear hb2 c0 c1 c2 c3 b0 b1 b2; obtain ⟨c0, c1, c2, c3, b0, b1, b2⟩ := H2.out.cells)
      | (go_at_call 28; refine (HGC.out y2 H2.out).mono ?_; rintro e y3 ⟨rfl, hb3⟩; have H3 := Lib.hid (H2.out.on hb3); have HB3 := Lib.hid (HB2.out.trans (hb3.mono HB2.out.size)); clear hb3 c0 c1 c2 c3 b0 b1 b2; obtain ⟨c0, c1, c2, c3, b0, b1, b2⟩ := H3.out.cells)
      | (go_at_call 29; refine (HGR.out y3 H3.out).mono ?_; rintro e y4 ⟨rfl, hb4⟩; have HB4 := Lib.hid (HB3.out.trans (hb4.mono HB3.out.size)); clear hb4 c0 c1 c2 c3 b0 b1 b2)
      | (refine st_T (T := 49) (gc (r1, r2, r3)) info_g rfl (.tmp 9) (.tmp 34) rfl y4.heap.size (gc (0, 0, 0)) rfl rfl (one_3 _ _ _) rfl (heap_alloc_new y4 _) ?_; intro y5 hg5 hb5; have HB5 := Lib.hid (HB4.out.trans ((((Below.refl y4.heap.size y4).alloc (Nat.le_refl _) (.cells (gc (0, 0, 0)) 49)).trans (hb5 y4.heap.size (Nat.le_refl _))).mono HB4.out.size)); have g0 : y5.cell? ⟨y4.heap.size, 0, none⟩ = some (.int .i64 r1) := cell_of_row _ _ _ _ _ _ hg5; have g1 : y5.cell? ⟨y4.heap.size, 1, none⟩ = some (.int .i64 r2) := cell_of_row _ _ _ _ _ _ hg5; have g2 : y5.cell? ⟨y4.heap.size, 2, none⟩ = some (.int .i64 r3) := cell_of_row _ _ _ _ _ _ hg5; clear hg5 hb5))
  go_ret
  exact ⟨rfl, HBE.out _ HB5.out⟩
set_option maxRecDepth 100000 in
theorem permGrantMatchesSpec_lifted (os : Os) (started : os.Started) (H : Type) (enc : TypeId × Value → H) :
    ReturnsInHanded {} Tryd.checked os 5 .any (fun w args => (Rows.permGrantMatchesSpecSpec.pre enc Tryd.prog Tryd.f5 [] false w args ∧ laidMetH Tryd.prog laidL w) ∧ sizedMet enc Tryd.prog Tryd.f5 (OpenSpec.ofChange Rows.permGrantMatchesSpecSpec) false w args) (Rows.permGrantMatchesSpecSpec.post enc Tryd.prog Tryd.f5 false true false false) := by
  refine returnsInHanded_of_change_and (C := Tryd.checked) (X := fun w _ => laidMetH Tryd.prog laidL w) (fun _ _ _ hh h => h.of_heap hh) Tryd.own started (by kernel_rfl) Tryd.func5
    (ChangeSpec.witness_shaped (enc := enc) (C := Tryd.checked) (os := os) (X := fun w _ => laidMetH Tryd.prog laidL w) false (World.doorLaid Tryd.prog 19 os) #[.agg #[.string ByteArray.empty, .slice none 0 0, .slice none 0 0, .slice none 0 0], .agg #[.int .i64 0, .int .i64 0, .int .i64 0]] 8 rfl (World.shaped_of_RefB (by kernel_rfl) (by kernel_rfl)) (by kernel_rfl) (by kernel_rfl) (by kernel_rfl) (door_met os _)) ?_
  intro W base args ds gs before hval0 hW _ _ hL _
  have hval : ∀ (j : Nat) t v, Tryd.f5.params[j]? = some t → args[j]? = some v → Value.okWide Tryd.prog W .any base t v := hval0
  have hW' := hW
  obtain ⟨p, q, hA0, hV, rfl, hfz, hnd⟩ := hW
  have hA : DataW.TrodAll enc Tryd.prog W 0 (fun _ => true) true Tryd.f5.params.toList args.toList ds p := hA0
  rw [Tryd.params5] at hA hval
  obtain ⟨v0, vs0, d0, ds0, p0, q0, hargs, rfl, rfl, h0, r0⟩ := trodAll_cons hA
  obtain ⟨v1, vs1, d1, ds1, p1, q1, rfl, rfl, rfl, h1, r1⟩ := trodAll_cons r0
  obtain ⟨rfl, rfl, rfl⟩ := trodAll_nil r1
  obtain rfl : args = #[v0, v1] := by cases args; simp_all
  obtain ⟨rfl, rfl⟩ := trodVars_none hV
  have k0 := h0
  have lt0 : ∀ x ∈ p0, x.block < W.heap.size := by obtain ⟨m, hm⟩ := k0; exact DataW.trod_lt m _ _ _ hm
  have k1 := h1
  have lt1 : ∀ x ∈ p1, x.block < W.heap.size := by obtain ⟨m, hm⟩ := k1; exact DataW.trod_lt m _ _ _ hm
  obtain ⟨s, vt, vr, vq, tl, rl, ql, rfl, hT, hR, hQ⟩ := open_pol (hval 0 26 v0 rfl rfl) h0
  obtain ⟨n0, n1, n2, rfl, i0, i1, i2⟩ := open_a3 (hval 1 27 v1 rfl rfl) h1
  have htab := tab_at hL
  clear hA0 hval0
  refine (permGrantMatchesSpec_walk s vt vr vq tl rl ql n0 n1 n2 W hT hR hQ i0 i1 i2 htab).mono fun e W' ⟨he, bel⟩ => ?_
  subst he
  exact ⟨_, rfl, _, _, _, [], _, [], hW', trodAll_mk1 (shut_bool Tryd.underlying4 _), (trodAll_cons_mk (Below.trod Tryd.laidOut (by kernel_rfl) (of_decide_eq_true (by kernel_rfl)) k0 bel lt0) (trodAll_cons_mk (Below.trod Tryd.laidOut (by kernel_rfl) (of_decide_eq_true (by kernel_rfl)) k1 bel lt1) trodAll_mk0)), rfl, bel.frame _, fun h => by cases h⟩
theorem permGrantMatchesSpec_row : Rows.PermGrantMatchesSpecSaid :=
  OpenClaim.holds_of_wide 5 Tryd.f5 rfl rfl rfl rfl rfl rfl rfl ⟨rfl, rfl, rfl, rfl, rfl⟩ rfl rfl rfl rfl rfl (by kernel_rfl) Tryd.func5 (by kernel_rfl)
    (of_decide_eq_true (by kernel_rfl)) (by unfold Func.isWrapper; first | (rw [if_pos (by decide +kernel)]; kernel_rfl) | (rw [if_neg (by decide +kernel)]; exact ⟨rfl, rfl⟩))
    (fun os started H enc _ => permGrantMatchesSpec_lifted os started H enc)
theorem PermGrantMatchesSpec_proved : Rows.PermGrantMatchesSpecCardSaid :=
  Claim7.holds_tied_plain_at .later [] [.data] true Rows.permGrantMatchesSpecCard.stood.harness false
    permGrantMatchesSpec_row (fun _ h => by cases h) (by kernel_rfl) (fun _ h => by cases h) permGrantMatchesSpec_row_tie rfl ⟨rfl, rfl⟩ (by kernel_rfl) rfl
    (fun f fn hf hfn => by
      obtain rfl : f = 5 := Option.some.inj ((show Tryd.prog.funcNamed "custody/custodylaw14.PermGrantMatchesSpec" = some 5 by kernel_rfl).symm.trans hf) |>.symm
      obtain rfl : fn = Tryd.f5 := (Option.some.inj (Tryd.func5.symm.trans hfn)).symm
      exact ⟨by kernel_rfl, fun j t ht => by
        rw [Tryd.params5] at ht
        rcases j with _ | _ | j
        · simp at ht; subst ht; kernel_rfl
        · simp at ht; subst ht; kernel_rfl
        · simp at ht⟩)
    (by kernel_rfl)

end Go.Proofs.YtamdlkflcbefdaaDoor
