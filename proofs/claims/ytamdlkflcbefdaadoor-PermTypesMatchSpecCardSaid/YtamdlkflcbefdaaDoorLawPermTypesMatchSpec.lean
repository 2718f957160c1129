/- The law PermTypesMatchSpec holds for every input: it returns true and leaves its arguments as they were. No condition. -/
import Derived.Test.YtamdlkflcbefdaaDoorFrameP
import Derived.Test.YtamdlkflcbefdaaDoorLawP
import Derived.Test.YtamdlkflcbefdaaDoorTie
import Derived.Test.YtamdlkflcbefdaaDoorCards
import Derived.SevenTiedAt
namespace Go.Proofs.YtamdlkflcbefdaaDoor
open Go.ChangeShapes Go.WideShapes Go.ChangeAt Go.RowKit
open Go.ChangeMaps (open_string shut_string)
set_option linter.unusedSimpArgs false
set_option linter.unusedVariables false
attribute [local irreducible] Calls srt insAll targetsP sourcesP usesP grP hasP hasR tyIx quIx quP subB band
set_option maxRecDepth 100000 in
set_option maxHeartbeats 8000000 in
theorem permTypesMatchSpec_walk (s : ByteArray) (vt vr vq : Value) (tl : List TyP) (rl : List RuP) (ql : List QuP) (a1 : ByteArray) (n0 n1 n2 : Int) (w : World) (hT : RdE eT w vt tl) (hR : RdE eR w vr rl) (hQ : RdE eQ w vq ql) (w1 : a1.size ≤ maxLen) (i0 : I64 n0) (i1 : I64 n1) (i2 : I64 n2) (htab : TabAt w) :
    Calls Tryd.prog 3 #[.agg #[.string s, vt, vr, vq], .string a1, .agg #[.int .i64 n0, .int .i64 n1, .int .i64 n2]] w fun e w' => e = .returned (.bool true) ∧ Below w.heap.size w w' := by
  obtain ⟨nm, rfl⟩ := str_of a1
  obtain ⟨Y, hY⟩ : ∃ Y, Y = (w.alloc (.cells #[.string s, vt, vr, vq] 26)).alloc (.cells #[.int .i64 n0, .int .i64 n1, .int .i64 n2] 27) := ⟨_, rfl⟩
  have H0 : Hid (LW Y w.heap.size (w.heap.size + 1) s vt vr vq tl rl ql n0 n1 n2) := Lib.hid (by rw [hY]; exact lw_start w hT hR hQ htab)
  have HBE : Hid (∀ y, Below Y.heap.size Y y → Below w.heap.size w y) := Lib.hid (fun y h => by rw [hY] at h; exact below2 _ _ _ h)
  have hs := sanity_c Y H0.out.tab
  rw [hY] at hs
  have HSAN := Lib.hid hs
  have HFEW := Lib.hid (fun y (h : LW y w.heap.size (w.heap.size + 1) s vt vr vq tl rl ql n0 n1 n2) => few_r s vt vr vq tl rl ql y h.t h.r h.q)
  have HY := Lib.hid hY
  obtain ⟨aT, cT, rfl, _, _, _⟩ := hT
  obtain ⟨aR, cR, rfl, _, _, _⟩ := hR
  obtain ⟨aQ, cQ, rfl, _, _, _⟩ := hQ
  have hn1 : nm.length ≤ 9223372036854775807 := by have := w1; unfold maxLen at this; simpa [ByteArray.size] using this
  have I2 := Lib.hid i2
  have I1 := Lib.hid i1
  clear hs hY htab w1 i0 i1 i2
  by_cases hfew : FewP tl rl ql
  case neg =>
    rw [decide_eq_false hfew] at HFEW
    clear hfew
    go_enter Tryd.func3, Tryd.ntmps3
    go_wp2_with (first
      | (go_at_call 9; refine HSAN.out.mono ?_; rintro e y1 ⟨rfl, hb1⟩; rw [← HY.out] at hb1; have H1 := Lib.hid (H0.out.on hb1); have HB1 := Lib.hid hb1; obtain ⟨c0, c1, c2, c3, b0, b1, b2⟩ := H1.out.cells; clear hb1)
        | (go_at_call 10; refine (HFEW.out y1 H1.out).mono ?_; rintro e y2 ⟨rfl, hb2⟩; have H2 := Lib.hid (H1.out.on hb2); have HB2 := Lib.hid (HB1.out.trans (hb2.mono HB1.out.size)); clear hb2 c0 c1 c2 c3 b0 b1 b2; obtain ⟨c0, c1, c2, c3, b0, b1, b2⟩ := H2.out.cells))
    go_ret
    exact ⟨rfl, HBE.out _ HB2.out⟩
  rw [decide_eq_true hfew] at HFEW
  by_cases hnm : (40 : Int) < nm.length
  · clear hfew
    go_enter Tryd.func3, Tryd.ntmps3
    go_wp2_with (first
      | (go_at_call 9; refine HSAN.out.mono ?_; rintro e y1 ⟨rfl, hb1⟩; rw [← HY.out] at hb1; have H1 := Lib.hid (H0.out.on hb1); have HB1 := Lib.hid hb1; obtain ⟨c0, c1, c2, c3, b0, b1, b2⟩ := H1.out.cells; clear hb1)
        | (go_at_call 10; refine (HFEW.out y1 H1.out).mono ?_; rintro e y2 ⟨rfl, hb2⟩; have H2 := Lib.hid (H1.out.on hb2); have HB2 := Lib.hid (HB1.out.trans (hb2.mono HB1.out.size)); clear hb2 c0 c1 c2 c3 b0 b1 b2; obtain ⟨c0, c1, c2, c3, b0, b1, b2⟩ := H2.out.cells))
    go_ret
    exact ⟨rfl, HBE.out _ HB2.out⟩
  · clear hfew
    have e1 : hasR tl n1 n2 = hasP tl n1 n2 := by unfold hasR hasP; rw [← subB_and n2 _ I2.out]
    have e2 : (band n1 n2 == n1) = subB n1 n2 := (subB_and n1 n2 I1.out).symm
    have HHR := Lib.hid (fun y (h : RdE eT y (.slice aT tl.length cT) tl) => has_r s (.slice aT tl.length cT) (.slice aR rl.length cR) (.slice aQ ql.length cQ) tl n1 n2 y h)
    have HHP := Lib.hid (fun y (h : RdE eT y (.slice aT tl.length cT) tl) => has_c s (.slice aT tl.length cT) (.slice aR rl.length cR) (.slice aQ ql.length cQ) tl n1 n2 y h)
    have HSR := Lib.hid (fun y => (subset_r n1 n2 y).mono (fun e w' h => (⟨h.1, by rw [h.2]; exact Below.refl _ _⟩ : _ ∧ Below y.heap.size y w')))
    have HSP := Lib.hid (fun y => (subset_c n1 n2 y).mono (fun e w' h => (⟨h.1, by rw [h.2]; exact Below.refl _ _⟩ : _ ∧ Below y.heap.size y w')))
    rw [e1] at HHR
    rw [e2] at HSR
    clear e1 e2
    go_enter Tryd.func3, Tryd.ntmps3
    go_wp2_with (first
      | (go_at_call 9; refine HSAN.out.mono ?_; rintro e y1 ⟨rfl, hb1⟩; rw [← HY.out] at hb1; have H1 := Lib.hid (H0.out.on hb1); have HB1 := Lib.hid hb1; obtain ⟨c0, c1, c2, c3, b0, b1, b2⟩ := H1.out.cells; clear hb1)
        | (go_at_call 10; refine (HFEW.out y1 H1.out).mono ?_; rintro e y2 ⟨rfl, hb2⟩; have H2 := Lib.hid (H1.out.on hb2); have HB2 := Lib.hid (HB1.out.trans (hb2.mono HB1.out.size)); clear hb2 c0 c1 c2 c3 b0 b1 b2; obtain ⟨c0, c1, c2, c3, b0, b1, b2⟩ := H2.out.cells)
      | (go_at_call 11; refine (type_c s _ _ _ tl nm y2 H2.out.t).mono ?_; rintro e y3 ⟨rfl, hb3⟩; have H3 := Lib.hid (H2.out.on hb3); have HB3 := Lib.hid (HB2.out.trans (hb3.mono HB2.out.size)); clear hb3 c0 c1 c2 c3 b0 b1 b2; obtain ⟨c0, c1, c2, c3, b0, b1, b2⟩ := H3.out.cells)
      | (go_at_call 12; refine (type_r s _ _ _ tl nm y3 H3.out.t).mono ?_; rintro e y4 ⟨rfl, hb4⟩; have H4 := Lib.hid (H3.out.on hb4); have HB4 := Lib.hid (HB3.out.trans (hb4.mono HB3.out.size)); clear hb4 c0 c1 c2 c3 b0 b1 b2; obtain ⟨c0, c1, c2, c3, b0, b1, b2⟩ := H4.out.cells)
      | (go_at_call 13; refine (quorum_c s _ _ _ ql n0 y4 H4.out.q).mono ?_; rintro e y5 ⟨rfl, hb5⟩; have H5 := Lib.hid (H4.out.on hb5); have HB5 := Lib.hid (HB4.out.trans (hb5.mono HB4.out.size)); clear hb5 c0 c1 c2 c3 b0 b1 b2; obtain ⟨c0, c1, c2, c3, b0, b1, b2⟩ := H5.out.cells)
      | (refine st_T (T := 33) (qc (quP ql n0)) info_q rfl (.tmp 12) (.tmp 43) rfl y5.heap.size (qc ⟨0, 0, 0, 0, 0⟩) rfl rfl (one_q _) rfl (heap_alloc_new y5 _) ?_; intro y6 hg6 hb6; have hb := ((Below.refl y5.heap.size y5).alloc (Nat.le_refl _) (.cells (qc ⟨0, 0, 0, 0, 0⟩) 33)).trans (hb6 y5.heap.size (Nat.le_refl _)); have H6 := Lib.hid (H5.out.on hb); have HB6 := Lib.hid (HB5.out.trans (hb.mono HB5.out.size)); have HG6 := Lib.hid hg6; clear hg6 hb6 hb c0 c1 c2 c3 b0 b1 b2; obtain ⟨c0, c1, c2, c3, b0, b1, b2⟩ := H6.out.cells)
      | (go_at_call 14; refine (quorum_r s _ _ _ ql n0 y6 H6.out.q).mono ?_; rintro e y7 ⟨rfl, hb7⟩; have H7 := Lib.hid (H6.out.on hb7); have HB7 := Lib.hid (HB6.out.trans (hb7.mono HB6.out.size)); have HG7 := Lib.hid (row_on HG6.out hb7); clear hb7 c0 c1 c2 c3 b0 b1 b2; obtain ⟨c0, c1, c2, c3, b0, b1, b2⟩ := H7.out.cells)
      | (refine st_T (T := 33) (qc (quP ql n0)) info_q rfl (.tmp 14) (.tmp 50) rfl y7.heap.size (qc ⟨0, 0, 0, 0, 0⟩) rfl rfl (one_q _) rfl (heap_alloc_new y7 _) ?_; intro y8 hg8 hb8; have hb := ((Below.refl y7.heap.size y7).alloc (Nat.le_refl _) (.cells (qc ⟨0, 0, 0, 0, 0⟩) 33)).trans (hb8 y7.heap.size (Nat.le_refl _)); have H8 := Lib.hid (H7.out.on hb); have HB8 := Lib.hid (HB7.out.trans (hb.mono HB7.out.size)); have hg7 := row_on HG7.out hb; have q0 : y8.cell? ⟨y5.heap.size, 0, none⟩ = some (.int .i64 (quP ql n0).c) := cell_of_row _ _ _ _ _ _ hg7; have q1 : y8.cell? ⟨y5.heap.size, 1, none⟩ = some (.int .i64 (quP ql n0).n) := cell_of_row _ _ _ _ _ _ hg7; have q2 : y8.cell? ⟨y5.heap.size, 2, none⟩ = some (.int .i64 (quP ql n0).d) := cell_of_row _ _ _ _ _ _ hg7; have q3 : y8.cell? ⟨y5.heap.size, 3, none⟩ = some (.int .i64 (quP ql n0).v) := cell_of_row _ _ _ _ _ _ hg7; have q4 : y8.cell? ⟨y5.heap.size, 4, none⟩ = some (.int .i64 (quP ql n0).u) := cell_of_row _ _ _ _ _ _ hg7; have r0 : y8.cell? ⟨y7.heap.size, 0, none⟩ = some (.int .i64 (quP ql n0).c) := cell_of_row _ _ _ _ _ _ hg8; have r1 : y8.cell? ⟨y7.heap.size, 1, none⟩ = some (.int .i64 (quP ql n0).n) := cell_of_row _ _ _ _ _ _ hg8; have r2 : y8.cell? ⟨y7.heap.size, 2, none⟩ = some (.int .i64 (quP ql n0).d) := cell_of_row _ _ _ _ _ _ hg8; have r3 : y8.cell? ⟨y7.heap.size, 3, none⟩ = some (.int .i64 (quP ql n0).v) := cell_of_row _ _ _ _ _ _ hg8; have r4 : y8.cell? ⟨y7.heap.size, 4, none⟩ = some (.int .i64 (quP ql n0).u) := cell_of_row _ _ _ _ _ _ hg8; have z5 : y5.heap.size < y8.heap.size := (Array.getElem?_eq_some_iff.1 hg7).1; have z7 : y7.heap.size < y8.heap.size := (Array.getElem?_eq_some_iff.1 hg8).1; obtain ⟨zP, zA⟩ := H8.out.lt; clear hg7 hg8 hb8 hb c0 c1 c2 c3 b0 b1 b2; obtain ⟨c0, c1, c2, c3, b0, b1, b2⟩ := H8.out.cells))
    generalize quP ql n0 = qq at q0 q1 q2 q3 q4 r0 r1 r2 r3 r4
    refine allL (by kernel_rfl) (by kernel_rfl) ?_
    try simp only [List.append_eq, List.cons_append, List.nil_append]
    repeat (go_big_quiet_step ((first
      | (go_at_call 15; exact Later.call _ (HHP.out _ (H8.out.t.on (Later.below _))))
      | (go_at_call 16; exact Later.call _ (HHR.out _ (H8.out.t.on (Later.below _))))
      | (go_at_call 17; exact Later.call _ (HSP.out _))
      | (go_at_call 18; exact Later.call _ (HSR.out _)))))
    refine wpQuiet_nil ?_
    rintro _ ⟨u, rfl⟩
    go_wp2
    go_ret
    exact ⟨rfl, HBE.out _ (HB8.out.trans (u.below.mono HB8.out.size))⟩
set_option maxRecDepth 100000 in
theorem permTypesMatchSpec_lifted (os : Os) (started : os.Started) (H : Type) (enc : TypeId × Value → H) :
    ReturnsInHanded {} Tryd.checked os 3 .any (fun w args => (Rows.permTypesMatchSpecSpec.pre enc Tryd.prog Tryd.f3 [] false w args ∧ laidMetH Tryd.prog laidL w) ∧ sizedMet enc Tryd.prog Tryd.f3 (OpenSpec.ofChange Rows.permTypesMatchSpecSpec) false w args) (Rows.permTypesMatchSpecSpec.post enc Tryd.prog Tryd.f3 false true false false) := by
  refine returnsInHanded_of_change_and (C := Tryd.checked) (X := fun w _ => laidMetH Tryd.prog laidL w) (fun _ _ _ hh h => h.of_heap hh) Tryd.own started (by kernel_rfl) Tryd.func3
    (ChangeSpec.witness_shaped (enc := enc) (C := Tryd.checked) (os := os) (X := fun w _ => laidMetH Tryd.prog laidL w) false (World.doorLaid Tryd.prog 19 os) #[.agg #[.string ByteArray.empty, .slice none 0 0, .slice none 0 0, .slice none 0 0], .string ByteArray.empty, .agg #[.int .i64 0, .int .i64 0, .int .i64 0]] 8 rfl (World.shaped_of_RefB (by kernel_rfl) (by kernel_rfl)) (by kernel_rfl) (by kernel_rfl) (by kernel_rfl) (door_met os _)) ?_
  intro W base args ds gs before hval0 hW _ _ hL _
  have hval : ∀ (j : Nat) t v, Tryd.f3.params[j]? = some t → args[j]? = some v → Value.okWide Tryd.prog W .any base t v := hval0
  have hW' := hW
  obtain ⟨p, q, hA0, hV, rfl, hfz, hnd⟩ := hW
  have hA : DataW.TrodAll enc Tryd.prog W 0 (fun _ => true) true Tryd.f3.params.toList args.toList ds p := hA0
  rw [Tryd.params3] at hA hval
  obtain ⟨v0, vs0, d0, ds0, p0, q0, hargs, rfl, rfl, h0, r0⟩ := trodAll_cons hA
  obtain ⟨v1, vs1, d1, ds1, p1, q1, rfl, rfl, rfl, h1, r1⟩ := trodAll_cons r0
  obtain ⟨v2, vs2, d2, ds2, p2, q2, rfl, rfl, rfl, h2, r2⟩ := trodAll_cons r1
  obtain ⟨rfl, rfl, rfl⟩ := trodAll_nil r2
  obtain rfl : args = #[v0, v1, v2] := by cases args; simp_all
  obtain ⟨rfl, rfl⟩ := trodVars_none hV
  have k0 := h0
  have lt0 : ∀ x ∈ p0, x.block < W.heap.size := by obtain ⟨m, hm⟩ := k0; exact DataW.trod_lt m _ _ _ hm
  have k2 := h2
  have lt2 : ∀ x ∈ p2, x.block < W.heap.size := by obtain ⟨m, hm⟩ := k2; exact DataW.trod_lt m _ _ _ hm
  obtain ⟨s, vt, vr, vq, tl, rl, ql, rfl, hT, hR, hQ⟩ := open_pol (hval 0 26 v0 rfl rfl) h0
  obtain ⟨a1, rfl, rfl, rfl, w1⟩ := open_string Tryd.underlying9 (hval 1 9 v1 rfl rfl) h1
  obtain ⟨n0, n1, n2, rfl, i0, i1, i2⟩ := open_a3 (hval 2 27 v2 rfl rfl) h2
  have htab := tab_at hL
  clear hA0 hval0
  refine (permTypesMatchSpec_walk s vt vr vq tl rl ql a1 n0 n1 n2 W hT hR hQ w1 i0 i1 i2 htab).mono fun e W' ⟨he, bel⟩ => ?_
  subst he
  exact ⟨_, rfl, _, _, _, [], _, [], hW', trodAll_mk1 (shut_bool Tryd.underlying4 _), (trodAll_cons_mk (Below.trod Tryd.laidOut (by kernel_rfl) (of_decide_eq_true (by kernel_rfl)) k0 bel lt0) (trodAll_cons_mk (shut_string Tryd.underlying9 w1) (trodAll_cons_mk (Below.trod Tryd.laidOut (by kernel_rfl) (of_decide_eq_true (by kernel_rfl)) k2 bel lt2) trodAll_mk0))), rfl, bel.frame _, fun h => by cases h⟩
theorem permTypesMatchSpec_row : Rows.PermTypesMatchSpecSaid :=
  OpenClaim.holds_of_wide 3 Tryd.f3 rfl rfl rfl rfl rfl rfl rfl ⟨rfl, rfl, rfl, rfl, rfl⟩ rfl rfl rfl rfl rfl (by kernel_rfl) Tryd.func3 (by kernel_rfl)
    (of_decide_eq_true (by kernel_rfl)) (by unfold Func.isWrapper; first | (rw [if_pos (by decide +kernel)]; kernel_rfl) | (rw [if_neg (by decide +kernel)]; exact ⟨rfl, rfl⟩))
    (fun os started H enc _ => permTypesMatchSpec_lifted os started H enc)
theorem PermTypesMatchSpec_proved : Rows.PermTypesMatchSpecCardSaid :=
  Claim7.holds_tied_plain_at .later [] [.data] true Rows.permTypesMatchSpecCard.stood.harness false
    permTypesMatchSpec_row (fun _ h => by cases h) (by kernel_rfl) (fun _ h => by cases h) permTypesMatchSpec_row_tie rfl ⟨rfl, rfl⟩ (by kernel_rfl) rfl
    (fun f fn hf hfn => by
      obtain rfl : f = 3 := Option.some.inj ((show Tryd.prog.funcNamed "custody/custodylaw14.PermTypesMatchSpec" = some 3 by kernel_rfl).symm.trans hf) |>.symm
      obtain rfl : fn = Tryd.f3 := (Option.some.inj (Tryd.func3.symm.trans hfn)).symm
      exact ⟨by kernel_rfl, fun j t ht => by
        rw [Tryd.params3] at ht
        rcases j with _ | _ | _ | j
        · simp at ht; subst ht; kernel_rfl
        · simp at ht; subst ht; kernel_rfl
        · simp at ht; subst ht; kernel_rfl
        · simp at ht⟩)
    (by kernel_rfl)

end Go.Proofs.YtamdlkflcbefdaaDoor
