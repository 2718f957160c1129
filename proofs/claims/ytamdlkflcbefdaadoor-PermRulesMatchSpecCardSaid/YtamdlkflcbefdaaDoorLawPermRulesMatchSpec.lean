/- The law PermRulesMatchSpec holds for every input: it returns true and leaves its arguments as they were. No condition. -/
import Derived.Test.YtamdlkflcbefdaaDoorFrameP
import Derived.Test.YtamdlkflcbefdaaDoorLawQ
import Derived.Test.YtamdlkflcbefdaaDoorTie
import Derived.Test.YtamdlkflcbefdaaDoorCards
import Derived.SevenTiedAt
namespace Go.Proofs.YtamdlkflcbefdaaDoor
open Go.ChangeShapes Go.WideShapes Go.ChangeAt Go.RowKit
open Go.ChangeMaps (open_string shut_string)
set_option linter.unusedSimpArgs false
set_option linter.unusedVariables false
attribute [local irreducible] Calls srt insAll targetsP sourcesP usesP grP hasP hasR tyIx quIx quP subB band
set_option maxRecDepth 100000 in
set_option maxHeartbeats 8000000 in
theorem permRulesMatchSpec_walk (s : ByteArray) (vt vr vq : Value) (tl : List TyP) (rl : List RuP) (ql : List QuP) (n0 n1 n2 : Int) (w : World) (hT : RdE eT w vt tl) (hR : RdE eR w vr rl) (hQ : RdE eQ w vq ql) (i0 : I64 n0) (i1 : I64 n1) (i2 : I64 n2) (htab : TabAt w) :
    Calls Tryd.prog 4 #[.agg #[.string s, vt, vr, vq], .agg #[.int .i64 n0, .int .i64 n1, .int .i64 n2]] w fun e w' => e = .returned (.bool true) ∧ Below w.heap.size w w' := by
  obtain ⟨Y, hY⟩ : ∃ Y, Y = (w.alloc (.cells #[.string s, vt, vr, vq] 26)).alloc (.cells #[.int .i64 n0, .int .i64 n1, .int .i64 n2] 27) := ⟨_, rfl⟩
  have H0 : Hid (LW Y w.heap.size (w.heap.size + 1) s vt vr vq tl rl ql n0 n1 n2) := Lib.hid (by rw [hY]; exact lw_start w hT hR hQ htab)
  have HBE : Hid (∀ y, Below Y.heap.size Y y → Below w.heap.size w y) := Lib.hid (fun y h => by rw [hY] at h; exact below2 _ _ _ h)
  have hs := sanity_c Y H0.out.tab
  rw [hY] at hs
  have HSAN := Lib.hid hs
  have HFEW := Lib.hid (fun y (h : LW y w.heap.size (w.heap.size + 1) s vt vr vq tl rl ql n0 n1 n2) => few_r s vt vr vq tl rl ql y h.t h.r h.q)
  have HY := Lib.hid hY
  obtain ⟨aT, cT, rfl, _, _, _⟩ := hT
  obtain ⟨aR, cR, rfl, _, _, _⟩ := hR
  obtain ⟨aQ, cQ, rfl, _, _, _⟩ := hQ
  have I1 := Lib.hid i1
  clear hs hY htab i0 i1 i2
  by_cases hfew : FewP tl rl ql
  case neg =>
    rw [decide_eq_false hfew] at HFEW
    clear hfew
    go_enter Tryd.func4, Tryd.ntmps4
    go_wp2_with (first
      | (go_at_call 9; refine HSAN.out.mono ?_; rintro e y1 ⟨rfl, hb1⟩; rw [← HY.out] at hb1; have H1 := Lib.hid (H0.out.on hb1); have HB1 := Lib.hid hb1; obtain ⟨c0, c1, c2, c3, b0, b1, b2⟩ := H1.out.cells; clear hb1)
      | (go_at_call 10; refine (HFEW.out y1 H1.out).mono ?_; rintro e y2 ⟨rfl, hb2⟩; have H2 := Lib.hid (H1.out.on hb2); have HB2 := Lib.hid (HB1.out.trans (hb2.mono HB1.out.size)); clear hb2 c0 c1 c2 c3 b0 b1 b2; obtain ⟨c0, c1, c2, c3, b0, b1, b2⟩ := H2.out.cells))
    go_ret
    exact ⟨rfl, HBE.out _ HB2.out⟩
  rw [decide_eq_true hfew] at HFEW
  have hrl : rl.length ≤ 1000 := by have := hfew.2.1; omega
  have HSC0 := Lib.hid (fun y (h : RdE eR y (.slice aR rl.length cR) rl) => sources_c s (.slice aT tl.length cT) _ (.slice aQ ql.length cQ) rl n0 n1 y h hrl)
  have HSR0 := Lib.hid (fun y (h : RdE eR y (.slice aR rl.length cR) rl) => sources_r s (.slice aT tl.length cT) _ (.slice aQ ql.length cQ) rl n0 n1 y h hrl)
  have HTC0 := Lib.hid (fun y (h : RdE eR y (.slice aR rl.length cR) rl) => targets_c s (.slice aT tl.length cT) _ (.slice aQ ql.length cQ) rl n0 n1 y h hrl)
  have HTR0 := Lib.hid (fun y (h : RdE eR y (.slice aR rl.length cR) rl) => targets_r s (.slice aT tl.length cT) _ (.slice aQ ql.length cQ) rl n0 n1 y h hrl)
  rw [srt_insAll] at HSC0 HTC0
  generalize insAll (sourcesP rl n0 n1) = S at HSC0 HSR0
  generalize insAll (targetsP rl n0 n1) = T at HTC0 HTR0
  have HMC := Lib.hid (fun y (h : RdE eR y (.slice aR rl.length cR) rl) => may_c s (.slice aT tl.length cT) _ (.slice aQ ql.length cQ) rl n0 n1 n2 y h)
  have HMR := Lib.hid (fun y (h : RdE eR y (.slice aR rl.length cR) rl) => may_r s (.slice aT tl.length cT) _ (.slice aQ ql.length cQ) rl n0 n1 n2 y h)
  generalize decide (RuP.mk n0 n1 n2 ∈ rl) = mb at HMC HMR
  have HUC := Lib.hid (fun y (h1 : RdE eT y (.slice aT tl.length cT) tl) (h2 : RdE eR y (.slice aR rl.length cR) rl) (h3 : TabAt y) => uses_c s _ _ (.slice aQ ql.length cQ) tl rl n1 y h1 h2 h3)
  have HUR := Lib.hid (fun y (h1 : RdE eT y (.slice aT tl.length cT) tl) (h2 : RdE eR y (.slice aR rl.length cR) rl) => uses_r s _ _ (.slice aQ ql.length cQ) tl rl n1 y h1 h2)
  generalize usesP tl rl n1 = us at HUC HUR
  clear hfew hrl
  go_enter Tryd.func4, Tryd.ntmps4
  go_upto_region 4 with (first
      | (go_at_call 9; refine HSAN.out.mono ?_; rintro e y1 ⟨rfl, hb1⟩; rw [← HY.out] at hb1; have H1 := Lib.hid (H0.out.on hb1); have HB1 := Lib.hid hb1; obtain ⟨c0, c1, c2, c3, b0, b1, b2⟩ := H1.out.cells; clear hb1)
      | (go_at_call 10; refine (HFEW.out y1 H1.out).mono ?_; rintro e y2 ⟨rfl, hb2⟩; have H2 := Lib.hid (H1.out.on hb2); have HB2 := Lib.hid (HB1.out.trans (hb2.mono HB1.out.size)); clear hb2 c0 c1 c2 c3 b0 b1 b2; obtain ⟨c0, c1, c2, c3, b0, b1, b2⟩ := H2.out.cells))
  have HSC := Lib.hid (fun y (h : Below y2.heap.size y2 y) => HSC0.out y (H2.out.r.on h))
  have HSR := Lib.hid (fun y (h : Below y2.heap.size y2 y) => HSR0.out y (H2.out.r.on h))
  have HTC := Lib.hid (fun y (h : Below y2.heap.size y2 y) => HTC0.out y (H2.out.r.on h))
  have HTR := Lib.hid (fun y (h : Below y2.heap.size y2 y) => HTR0.out y (H2.out.r.on h))
  have HCELL := Lib.hid (fun w' (h : Below y2.heap.size y2 w') => (H2.out.on h).cells)
  have BD := Lib.hid (fun n => below_drewN n (Below.refl y2.heap.size y2))
  go_cut [6] from 13 (fun u wc => u = .bool true ∧ Below y2.heap.size y2 wc)
  case first =>
    go_region_held3 (fun w' => w'.cell? ⟨w.heap.size, 0, none⟩ = some (.string s) ∧ w'.cell? ⟨w.heap.size, 1, none⟩ = some (.slice aT tl.length cT) ∧ w'.cell? ⟨w.heap.size, 2, none⟩ = some (.slice aR rl.length cR) ∧ w'.cell? ⟨w.heap.size, 3, none⟩ = some (.slice aQ ql.length cQ) ∧ w'.cell? ⟨w.heap.size + 1, 0, none⟩ = some (.int .i64 n0) ∧ w'.cell? ⟨w.heap.size + 1, 1, none⟩ = some (.int .i64 n1) ∧ w'.cell? ⟨w.heap.size + 1, 2, none⟩ = some (.int .i64 n2))
      (first | exact HCELL.out _ hbZ | exact HCELL.out _ hbB | exact HCELL.out _ hbA | exact HCELL.out _ (BD.out _) | go_keep)
      (first
      | (go_at_call 20; refine (HSC.out _ (by first | exact hbB | exact BD.out _)).mono ?_; rintro e wA ⟨vA, rfl, hrA, hbA'⟩; have hbA : Below y2.heap.size y2 wA := (by first | exact hbB.trans (hbA'.mono hbB.size) | exact (BD.out _).trans (hbA'.mono (BD.out _).size)))
      | (go_at_call 21; refine (HSR.out _ (by first | exact hbA | exact BD.out _)).mono ?_; rintro e wB ⟨vB, rfl, hrB, hbB'⟩; have hbB : Below y2.heap.size y2 wB := (by first | exact hbA.trans (hbB'.mono hbA.size) | exact (BD.out _).trans (hbB'.mono (BD.out _).size)))
      | (go_at_call 19; first
          | (refine (same_same vA vB _ wB (hrA.on hbB') hrB).mono ?_; rintro e wS ⟨rfl, hbS⟩; have hbZ := hbB.trans (hbS.mono hbB.size))
          | (refine (same_same vA vB _ wA hrA (hrB.on hbA')).mono ?_; rintro e wS ⟨rfl, hbS⟩; have hbZ := hbA.trans (hbS.mono hbA.size))))
    all_goals (go_wp2; go_meet)
    all_goals exact ⟨rfl, hbZ⟩
  case rest =>
    obtain ⟨rfl, hb3⟩ := hcut
    have H3 := Lib.hid (H2.out.on hb3)
    have HB3 := Lib.hid hb3
    have BD2 := Lib.hid (fun n => below_drewN n hb3)
    clear hb3 c0 c1 c2 c3 b0 b1 b2
    obtain ⟨c0, c1, c2, c3, b0, b1, b2⟩ := H3.out.cells
    go_upto_region 5 with fail
    go_cut [7] from 26 (fun u wc => u = .bool true ∧ Below y2.heap.size y2 wc)
    case first =>
      go_region_held3 (fun w' => w'.cell? ⟨w.heap.size, 0, none⟩ = some (.string s) ∧ w'.cell? ⟨w.heap.size, 1, none⟩ = some (.slice aT tl.length cT) ∧ w'.cell? ⟨w.heap.size, 2, none⟩ = some (.slice aR rl.length cR) ∧ w'.cell? ⟨w.heap.size, 3, none⟩ = some (.slice aQ ql.length cQ) ∧ w'.cell? ⟨w.heap.size + 1, 0, none⟩ = some (.int .i64 n0) ∧ w'.cell? ⟨w.heap.size + 1, 1, none⟩ = some (.int .i64 n1) ∧ w'.cell? ⟨w.heap.size + 1, 2, none⟩ = some (.int .i64 n2))
      (first | exact HCELL.out _ hbZ | exact HCELL.out _ hbB | exact HCELL.out _ hbA | exact HCELL.out _ (BD2.out _) | go_keep)
      (first
        | (go_at_call 22; refine (HTC.out _ (by first | exact hbB | exact BD2.out _)).mono ?_; rintro e wA ⟨vA, rfl, hrA, hbA'⟩; have hbA : Below y2.heap.size y2 wA := (by first | exact hbB.trans (hbA'.mono hbB.size) | exact (BD2.out _).trans (hbA'.mono (BD2.out _).size)))
        | (go_at_call 23; refine (HTR.out _ (by first | exact hbA | exact BD2.out _)).mono ?_; rintro e wB ⟨vB, rfl, hrB, hbB'⟩; have hbB : Below y2.heap.size y2 wB := (by first | exact hbA.trans (hbB'.mono hbA.size) | exact (BD2.out _).trans (hbB'.mono (BD2.out _).size)))
        | (go_at_call 19; first
            | (refine (same_same vA vB _ wB (hrA.on hbB') hrB).mono ?_; rintro e wS ⟨rfl, hbS⟩; have hbZ := hbB.trans (hbS.mono hbB.size))
            | (refine (same_same vA vB _ wA hrA (hrB.on hbA')).mono ?_; rintro e wS ⟨rfl, hbS⟩; have hbZ := hbA.trans (hbS.mono hbA.size))))
      all_goals (go_wp2; go_meet)
      all_goals exact ⟨rfl, hbZ⟩
    case rest =>
      obtain ⟨rfl, hb4⟩ := hcut
      have H4 := Lib.hid (H2.out.on hb4)
      have HB4 := Lib.hid (HB2.out.trans (hb4.mono HB2.out.size))
      obtain ⟨zP, zA⟩ := H4.out.lt
      clear hb4 c0 c1 c2 c3 b0 b1 b2
      obtain ⟨c0, c1, c2, c3, b0, b1, b2⟩ := H4.out.cells
      go_wp2
      refine allL (by kernel_rfl) (by kernel_rfl) ?_
      try simp only [List.append_eq, List.cons_append, List.nil_append]
      repeat (go_big_quiet_step ((first
        | (go_at_call 24; exact Later.call _ (HMC.out _ (H4.out.r.on (Later.below _))))
        | (go_at_call 25; exact Later.call _ (HMR.out _ (H4.out.r.on (Later.below _))))
        | (go_at_call 26; exact Later.call _ (HUC.out _ (H4.out.t.on (Later.below _)) (H4.out.r.on (Later.below _)) (H4.out.tab.on (Later.below _))))
        | (go_at_call 27; exact Later.call _ (HUR.out _ (H4.out.t.on (Later.below _)) (H4.out.r.on (Later.below _)))))))
      refine wpQuiet_nil ?_
      rintro _ ⟨u, rfl⟩
      go_wp2
      go_ret
      exact ⟨rfl, HBE.out _ (HB4.out.trans (u.below.mono HB4.out.size))⟩
set_option maxRecDepth 100000 in
theorem permRulesMatchSpec_lifted (os : Os) (started : os.Started) (H : Type) (enc : TypeId × Value → H) :
    ReturnsInHanded {} Tryd.checked os 4 .any (fun w args => (Rows.permRulesMatchSpecSpec.pre enc Tryd.prog Tryd.f4 [] false w args ∧ laidMetH Tryd.prog laidL w) ∧ sizedMet enc Tryd.prog Tryd.f4 (OpenSpec.ofChange Rows.permRulesMatchSpecSpec) false w args) (Rows.permRulesMatchSpecSpec.post enc Tryd.prog Tryd.f4 false true false false) := by
  refine returnsInHanded_of_change_and (C := Tryd.checked) (X := fun w _ => laidMetH Tryd.prog laidL w) (fun _ _ _ hh h => h.of_heap hh) Tryd.own started (by kernel_rfl) Tryd.func4
    (ChangeSpec.witness_shaped (enc := enc) (C := Tryd.checked) (os := os) (X := fun w _ => laidMetH Tryd.prog laidL w) false (World.doorLaid Tryd.prog 19 os) #[.agg #[.string ByteArray.empty, .slice none 0 0, .slice none 0 0, .slice none 0 0], .agg #[.int .i64 0, .int .i64 0, .int .i64 0]] 8 rfl (World.shaped_of_RefB (by kernel_rfl) (by kernel_rfl)) (by kernel_rfl) (by kernel_rfl) (by kernel_rfl) (door_met os _)) ?_
  intro W base args ds gs before hval0 hW _ _ hL _
  have hval : ∀ (j : Nat) t v, Tryd.f4.params[j]? = some t → args[j]? = some v → Value.okWide Tryd.prog W .any base t v := hval0
  have hW' := hW
  obtain ⟨p, q, hA0, hV, rfl, hfz, hnd⟩ := hW
  have hA : DataW.TrodAll enc Tryd.prog W 0 (fun _ => true) true Tryd.f4.params.toList args.toList ds p := hA0
  rw [Tryd.params4] at hA hval
  obtain ⟨v0, vs0, d0, ds0, p0, q0, hargs, rfl, rfl, h0, r0⟩ := trodAll_cons hA
  obtain ⟨v1, vs1, d1, ds1, p1, q1, rfl, rfl, rfl, h1, r1⟩ := trodAll_cons r0
  obtain ⟨rfl, rfl, rfl⟩ := trodAll_nil r1
  obtain rfl : args = #[v0, v1] := by cases args; simp_all
  obtain ⟨rfl, rfl⟩ := trodVars_none hV
  have k0 := h0
  have lt0 : ∀ x ∈ p0, x.block < W.heap.size := by obtain ⟨m, hm⟩ := k0; exact DataW.trod_lt m _ _ _ hm
  have k1 := h1
  have lt1 : ∀ x ∈ p1, x.block < W.heap.size := by obtain ⟨m, hm⟩ := k1; exact DataW.trod_lt m _ _ _ hm
  obtain ⟨s, vt, vr, vq, tl, rl, ql, rfl, hT, hR, hQ⟩ := open_pol (hval 0 26 v0 rfl rfl) h0
  obtain ⟨n0, n1, n2, rfl, i0, i1, i2⟩ := open_a3 (hval 1 27 v1 rfl rfl) h1
  have htab := tab_at hL
  clear hA0 hval0
  refine (permRulesMatchSpec_walk s vt vr vq tl rl ql n0 n1 n2 W hT hR hQ i0 i1 i2 htab).mono fun e W' ⟨he, bel⟩ => ?_
  subst he
  exact ⟨_, rfl, _, _, _, [], _, [], hW', trodAll_mk1 (shut_bool Tryd.underlying4 _), (trodAll_cons_mk (Below.trod Tryd.laidOut (by kernel_rfl) (of_decide_eq_true (by kernel_rfl)) k0 bel lt0) (trodAll_cons_mk (Below.trod Tryd.laidOut (by kernel_rfl) (of_decide_eq_true (by kernel_rfl)) k1 bel lt1) trodAll_mk0)), rfl, bel.frame _, fun h => by cases h⟩
theorem permRulesMatchSpec_row : Rows.PermRulesMatchSpecSaid :=
  OpenClaim.holds_of_wide 4 Tryd.f4 rfl rfl rfl rfl rfl rfl rfl ⟨rfl, rfl, rfl, rfl, rfl⟩ rfl rfl rfl rfl rfl (by kernel_rfl) Tryd.func4 (by kernel_rfl)
    (of_decide_eq_true (by kernel_rfl)) (by unfold Func.isWrapper; first | (rw [if_pos (by decide +kernel)]; kernel_rfl) | (rw [if_neg (by decide +kernel)]; exact ⟨rfl, rfl⟩))
    (fun os started H enc _ => permRulesMatchSpec_lifted os started H enc)
theorem PermRulesMatchSpec_proved : Rows.PermRulesMatchSpecCardSaid :=
  Claim7.holds_tied_plain_at .later [] [.data] true Rows.permRulesMatchSpecCard.stood.harness false
    permRulesMatchSpec_row (fun _ h => by cases h) (by kernel_rfl) (fun _ h => by cases h) permRulesMatchSpec_row_tie rfl ⟨rfl, rfl⟩ (by kernel_rfl) rfl
    (fun f fn hf hfn => by
      obtain rfl : f = 4 := Option.some.inj ((show Tryd.prog.funcNamed "custody/custodylaw14.PermRulesMatchSpec" = some 4 by kernel_rfl).symm.trans hf) |>.symm
      obtain rfl : fn = Tryd.f4 := (Option.some.inj (Tryd.func4.symm.trans hfn)).symm
      exact ⟨by kernel_rfl, fun j t ht => by
        rw [Tryd.params4] at ht
        rcases j with _ | _ | j
        · simp at ht; subst ht; kernel_rfl
        · simp at ht; subst ht; kernel_rfl
        · simp at ht⟩)
    (by kernel_rfl)

end Go.Proofs.YtamdlkflcbefdaaDoor
