/- The law PermRulesAddUses holds for every input: it returns true and leaves its arguments as they were. No condition. -/
import Derived.Test.YtamdlkflcbefdaaDoorFrameP
import Derived.Test.YtamdlkflcbefdaaDoorLawR
import Derived.Test.YtamdlkflcbefdaaDoorTie
import Derived.Test.YtamdlkflcbefdaaDoorCards
import Derived.SevenTiedAt
namespace Go.Proofs.YtamdlkflcbefdaaDoor
open Go.ChangeShapes Go.WideShapes Go.ChangeAt Go.RowKit
open Go.ChangeMaps (open_string shut_string)
set_option linter.unusedSimpArgs false
set_option linter.unusedVariables false
attribute [local irreducible] Calls srt insAll targetsP sourcesP usesP grP hasP hasR tyIx quIx quP subB band
set_option maxRecDepth 100000 in
set_option maxHeartbeats 8000000 in
theorem permRulesAddUses_walk (s : ByteArray) (vt vr vq : Value) (tl : List TyP) (rl : List RuP) (ql : List QuP) (a1 : RuP) (a2 : Int) (w : World) (hT : RdE eT w vt tl) (hR : RdE eR w vr rl) (hQ : RdE eQ w vq ql) (w2 : (Lit.int .i64 a2).wf = true) (htab : TabAt w) :
    Calls Tryd.prog 8 #[.agg #[.string s, vt, vr, vq], .agg (rc a1), .int .i64 a2] w fun e w' => e = .returned (.bool true) ∧ Below w.heap.size w w' := by
  obtain ⟨Y, hY⟩ : ∃ Y, Y = (w.alloc (.cells #[.string s, vt, vr, vq] 26)).alloc (.cells #[.int .i64 a1.k, .int .i64 a1.a, .int .i64 a1.b] 55) := ⟨_, rfl⟩
  have H0 : Hid (LR Y w.heap.size (w.heap.size + 1) s vt vr vq tl rl ql a1) := Lib.hid (by rw [hY]; exact lr_start w hT hR hQ htab)
  have HBE : Hid (∀ y, Below Y.heap.size Y y → Below w.heap.size w y) := Lib.hid (fun y h => by rw [hY] at h; exact below2 _ _ _ h)
  have hs := sanity_c Y H0.out.tab
  rw [hY] at hs
  have HSAN := Lib.hid hs
  have HFEW := Lib.hid (fun y (h : LR y w.heap.size (w.heap.size + 1) s vt vr vq tl rl ql a1) => few_r s vt vr vq tl rl ql y h.t h.r h.q)
  have HY := Lib.hid hY
  obtain ⟨aT, cT, rfl, _, _, _⟩ := hT
  obtain ⟨aR, cR, rfl, _, _, _⟩ := hR
  obtain ⟨aQ, cQ, rfl, _, _, _⟩ := hQ
  clear hs hY htab w2
  unfold rc
  by_cases hfew : FewP tl rl ql
  case neg =>
    rw [decide_eq_false hfew] at HFEW
    clear hfew
    go_enter Tryd.func8, Tryd.ntmps8
    go_wp2_with (first
      | (go_at_call 9; refine HSAN.out.mono ?_; rintro e y1 ⟨rfl, hb1⟩; rw [← HY.out] at hb1; have H1 := Lib.hid (H0.out.on hb1); have HB1 := Lib.hid hb1; obtain ⟨c0, c1, c2, c3, b0, b1, b2⟩ := H1.out.cells; clear hb1)
      | (go_at_call 10; refine (HFEW.out y1 H1.out).mono ?_; rintro e y2 ⟨rfl, hb2⟩; have H2 := Lib.hid (H1.out.on hb2); have HB2 := Lib.hid (HB1.out.trans (hb2.mono HB1.out.size)); clear hb2 c0 c1 c2 c3 b0 b1 b2; obtain ⟨c0, c1, c2, c3, b0, b1, b2⟩ := H2.out.cells))
    go_ret
    exact ⟨rfl, HBE.out _ HB2.out⟩
  rw [decide_eq_true hfew] at HFEW
  have HN : Hid ((rl ++ [a1]).length = rl.length + 1) := Lib.hid (by simp)
  have HRL := Lib.hid (by have := hfew.2.1; omega : rl.length ≤ 1000)
  have HU0 := Lib.hid (usesP_snoc tl rl a1 a2)
  have HMEM : Hid (decide (RuP.mk a1.k a1.a a1.b ∈ rl ++ [a1]) = true) := Lib.hid (decide_eq_true (by simp))
  clear hfew
  go_enter Tryd.func8, Tryd.ntmps8
  go_upto_region 5 with (first
      | (go_at_call 9; refine HSAN.out.mono ?_; rintro e y1 ⟨rfl, hb1⟩; rw [← HY.out] at hb1; have H1 := Lib.hid (H0.out.on hb1); have HB1 := Lib.hid hb1; obtain ⟨c0, c1, c2, c3, b0, b1, b2⟩ := H1.out.cells; clear hb1)
      | (go_at_call 10; refine (HFEW.out y1 H1.out).mono ?_; rintro e y2 ⟨rfl, hb2⟩; have H2 := Lib.hid (H1.out.on hb2); have HB2 := Lib.hid (HB1.out.trans (hb2.mono HB1.out.size)); clear hb2 c0 c1 c2 c3 b0 b1 b2; obtain ⟨c0, c1, c2, c3, b0, b1, b2⟩ := H2.out.cells)
      | (refine st_T (T := 26) #[.string s, .slice aT tl.length cT, .slice aR rl.length cR, .slice aQ ql.length cQ] info_p rfl (.tmp 8) (.tmp 16) rfl y2.heap.size #[.string ⟨#[]⟩, .slice none 0 0, .slice none 0 0, .slice none 0 0] rfl rfl (one_p _ _ _ _ _ _ _ _ _ _) rfl (heap_alloc_new y2 _) ?_; intro y3 hg3 hb3; have HB23 := Lib.hid (((Below.refl y2.heap.size y2).alloc (Nat.le_refl _) (.cells #[.string ⟨#[]⟩, .slice none 0 0, .slice none 0 0, .slice none 0 0] 26)).trans (hb3 y2.heap.size (Nat.le_refl _))); have HG3 := Lib.hid hg3; clear hg3 hb3))
  try dsimp only [Act.put]
  clear c0 c1 c2 c3 b0 b1 b2
  have H3 := Lib.hid (H2.out.on HB23.out)
  have HSS := Lib.hid (fun w' (h : Below y3.heap.size y3 w') => (H3.out.on h).four)
  have q3 : y2.heap.size < y3.heap.size := (Array.getElem?_eq_some_iff.1 HG3.out).1
  have p2 := H2.out.lt
  have ne1 : y2.heap.size ≠ w.heap.size := by omega
  have ne2 : w.heap.size ≠ y2.heap.size := by omega
  have ne3 : y2.heap.size ≠ w.heap.size + 1 := by omega
  have ne4 : w.heap.size + 1 ≠ y2.heap.size := by omega
  have HQ3 := Lib.hid q3
  have BD := Lib.hid (below_drewN 1 (Below.refl y3.heap.size y3))
  have BS : Hid (∀ X, Below y3.heap.size y3 ((y3.drewN 1).alloc X)) := Lib.hid (fun X => BD.out.alloc BD.out.size X)
  have BS2 : Hid (∀ X Z, Below y3.heap.size y3 (((y3.drewN 1).alloc X).alloc Z)) := Lib.hid (fun X Z => (BS.out X).alloc (BS.out X).size Z)
  have HRD : Hid (∀ w', Below y3.heap.size y3 w' → RdE eR w' (.slice aR rl.length cR) rl) := Lib.hid (fun w' h => (H3.out.on h).r)
  have HSZ : Hid (([] : List RuP).length + rl.length ≤ 1000000) := Lib.hid (by have := HRL.out; simp; omega)
  have HSZ2 : Hid (([] ++ rl : List RuP).length + ([a1] : List RuP).length ≤ 1000000) := Lib.hid (by have := HRL.out; simp; omega)
  go_cut [8] from 17 (fun q wc => q = .pointer (some ⟨y2.heap.size, 0, none⟩) ∧ ∃ v', wc.heap[y2.heap.size]? = some (.cells #[.string s, .slice aT tl.length cT, v', .slice aQ ql.length cQ] 26 (0, 0)) ∧ RdE eR wc v' (rl ++ [a1]) ∧ Below y2.heap.size y2 wc)
  case first =>
    go_region_held3 (fun w' => w'.cell? ⟨w.heap.size, 2, none⟩ = some (.slice aR rl.length cR) ∧ w'.cell? ⟨w.heap.size + 1, 0, none⟩ = some (.int .i64 a1.k) ∧ w'.cell? ⟨w.heap.size + 1, 1, none⟩ = some (.int .i64 a1.a) ∧ w'.cell? ⟨w.heap.size + 1, 2, none⟩ = some (.int .i64 a1.b))
      (first | exact HSS.out _ hbB | exact HSS.out _ (hbA.alloc hbA.size _) | exact HSS.out _ hbA | exact HSS.out _ (BS2.out _ _) | exact HSS.out _ (BS.out _) | exact HSS.out _ BD.out | go_keep)
      (first
        | (refine step_app_e eR_ok rfl (.tmp 17) (.tmp 19) rfl y3.heap.size _ [] rfl (oE_a y3) _ rl rfl (HRD.out _ (BS.out _)) HSZ.out (BS.out _).size ?_; intro vA wA hoA hgA; have hbA := (BS.out _).trans ((oE_a y3).below hgA (BS.out _).size))
        | (refine step_app_e eR_ok rfl (.tmp 17) (.tmp 19) rfl y3.heap.size _ [] rfl (oE_b y3 a1) _ rl rfl (HRD.out _ (BS2.out _ _)) HSZ.out (BS2.out _ _).size ?_; intro vA wA hoA hgA; have hbA := (BS2.out _ _).trans ((oE_b y3 a1).below hgA (BS2.out _ _).size); have hrA := ((oR_b y3 a1).grown hgA (ne_blk (by omega))).rd)
        | (refine step_app_e eR_ok rfl (.tmp 17) (.tmp 19) rfl y3.heap.size _ [] rfl (oE_c y3 a1) _ rl rfl (HRD.out _ (BS2.out _ _)) HSZ.out (BS2.out _ _).size ?_; intro vA wA hoA hgA; have hbA := (BS2.out _ _).trans ((oE_c y3 a1).below hgA (BS2.out _ _).size); have hrA := ((oR_c y3 a1).grown hgA (ne_blk (by omega))).rd)
        | (refine step_app_e eR_ok rfl (.tmp 20) (.tmp 22) rfl y3.heap.size _ ([] ++ rl) rfl hoA _ [a1] rfl hrA HSZ2.out hbA.size ?_; intro vB wB hoB hgB; have hbB := hbA.trans (hoA.below hgB hbA.size); have hoC : OwnE eR wB y3.heap.size vB (rl ++ [a1]) := (by simpa using hoB); obtain ⟨va, vcap, rfl⟩ := hoC.rd.form1 HN.out; have rwB := row_on HG3.out hbB; have q2 : wB.cell? ⟨y2.heap.size, 2, none⟩ = some (.slice aR rl.length cR) := cell_of_row _ _ _ _ _ _ rwB; have qf := frozen_of_row _ _ 2 _ _ rwB)
        | (refine step_app_e eR_ok rfl (.tmp 20) (.tmp 22) rfl y3.heap.size _ ([] ++ rl) rfl (hoA.on ((Below.refl _ _).alloc (Nat.le_refl _) _)) _ [a1] rfl (one_e wA a1 eR_ok) HSZ2.out (hbA.alloc hbA.size _).size ?_; intro vB wB hoB hgB; have hbB := (hbA.alloc hbA.size _).trans ((hoA.on ((Below.refl _ _).alloc (Nat.le_refl _) _)).below hgB (hbA.alloc hbA.size _).size); have hoC : OwnE eR wB y3.heap.size vB (rl ++ [a1]) := (by simpa using hoB); obtain ⟨va, vcap, rfl⟩ := hoC.rd.form1 HN.out; have rwB := row_on HG3.out hbB; have q2 : wB.cell? ⟨y2.heap.size, 2, none⟩ = some (.slice aR rl.length cR) := cell_of_row _ _ _ _ _ _ rwB; have qf := frozen_of_row _ _ 2 _ _ rwB))
    all_goals (go_wp2; go_meet)
    all_goals
      refine ⟨rfl, _, ?_, (hoC.setNe (hoC.neOld HQ3.out)).rd, ((HB23.out.trans (hbB.mono (Nat.le_of_lt HQ3.out))).setCell (p := ⟨y2.heap.size, 2, none⟩) (Nat.le_refl _) _)⟩
      rw [setCell_rowK _ _ _ _ _ _ _ rwB]
      exact setRow_heap _ _ _ _ _ _ rwB
  case rest =>
    obtain ⟨rfl, v', hg4, hr4, hb4⟩ := hcut
    have H4 := Lib.hid (H2.out.on hb4)
    have HB4 := Lib.hid (HB2.out.trans (hb4.mono HB2.out.size))
    have HG4 := Lib.hid hg4
    have HR4 := Lib.hid hr4
    have HCC : Hid (∀ y, Below wc.heap.size wc y → (y.cell? ⟨w.heap.size, 0, none⟩ = some (.string s) ∧ y.cell? ⟨w.heap.size, 1, none⟩ = some (.slice aT tl.length cT) ∧ y.cell? ⟨w.heap.size, 2, none⟩ = some (.slice aR rl.length cR) ∧ y.cell? ⟨w.heap.size, 3, none⟩ = some (.slice aQ ql.length cQ) ∧
        y.cell? ⟨w.heap.size + 1, 0, none⟩ = some (.int .i64 a1.k) ∧ y.cell? ⟨w.heap.size + 1, 1, none⟩ = some (.int .i64 a1.a) ∧ y.cell? ⟨w.heap.size + 1, 2, none⟩ = some (.int .i64 a1.b)) ∧
        (y.cell? ⟨y2.heap.size, 0, none⟩ = some (.string s) ∧ y.cell? ⟨y2.heap.size, 1, none⟩ = some (.slice aT tl.length cT) ∧ y.cell? ⟨y2.heap.size, 2, none⟩ = some v' ∧ y.cell? ⟨y2.heap.size, 3, none⟩ = some (.slice aQ ql.length cQ))) :=
      Lib.hid (fun y h => ⟨(H4.out.on h).cells, cell_of_row _ _ _ _ _ _ (row_on HG4.out h), cell_of_row _ _ _ _ _ _ (row_on HG4.out h), cell_of_row _ _ _ _ _ _ (row_on HG4.out h), cell_of_row _ _ _ _ _ _ (row_on HG4.out h)⟩)
    have HUA := Lib.hid (fun y (h : Below wc.heap.size wc y) => uses_c s _ _ (.slice aQ ql.length cQ) tl rl a2 y (H4.out.on h).t (H4.out.on h).r (H4.out.on h).tab)
    have HUB := Lib.hid (fun y (h : Below wc.heap.size wc y) => uses_c s _ v' (.slice aQ ql.length cQ) tl (rl ++ [a1]) a2 y (H4.out.on h).t (HR4.out.on h) (H4.out.on h).tab)
    have HMAY := Lib.hid (fun y (h : Below wc.heap.size wc y) => may_c s (.slice aT tl.length cT) v' (.slice aQ ql.length cQ) (rl ++ [a1]) a1.k a1.a a1.b y (HR4.out.on h))
    rw [HMEM.out] at HMAY
    generalize usesP tl rl a2 = ua at HUA HU0
    generalize usesP tl (rl ++ [a1]) a2 = ub at HUB HU0
    have HSUB := Lib.hid (fun y => subset_c ua ub y)
    rw [HU0.out.1] at HSUB
    have HEQ : Hid ((a1.a == a2) = false → (a1.b == a2) = false → ub = ua) := Lib.hid (fun h1 h2 => HU0.out.2 (by simpa using h1) (by simpa using h2))
    have hcc := HCC.out wc (Below.refl _ _)
    obtain ⟨⟨t0, t1, t2, t3, u0, u1, u2⟩, x0, x1, x2, x3⟩ := hcc
    obtain ⟨va, vcap, rfl⟩ := HR4.out.form1 HN.out
    clear hg4 hr4 hb4
    cases qa : a1.a == a2
    case true =>
      go_wp2_with (first
        | (go_at_call 26; refine (HUA.out wc (Below.refl _ _)).mono ?_; rintro e y5 ⟨rfl, hb5⟩; have HB5 := Lib.hid hb5; obtain ⟨⟨ta0, ta1, ta2, ta3, ua0, ua1, ua2⟩, xa0, xa1, xa2, xa3⟩ := HCC.out y5 hb5; clear hb5)
        | (go_at_call 26; refine (HUB.out y5 HB5.out).mono ?_; rintro e y6 ⟨rfl, hb6⟩; have HB6 := Lib.hid (HB5.out.trans (hb6.mono HB5.out.size)); obtain ⟨⟨tb0, tb1, tb2, tb3, ub0, ub1, ub2⟩, xb0, xb1, xb2, xb3⟩ := HCC.out y6 HB6.out; clear hb6)
        | (go_at_call 17; refine (HSUB.out _).mono ?_; rintro e yz ⟨rfl, hz⟩; rw [hz]; clear hz)
        | (go_at_call 24; refine (HMAY.out y6 HB6.out).mono ?_; rintro e y7 ⟨rfl, hb7⟩; have HB7 := Lib.hid (HB6.out.trans (hb7.mono HB6.out.size)); clear hb7))
      go_ret
      exact ⟨rfl, HBE.out _ (HB4.out.trans (HB7.out.mono HB4.out.size))⟩
    case false =>
      cases qb : a1.b == a2
      case true =>
        go_wp2_with (first
          | (go_at_call 26; refine (HUA.out wc (Below.refl _ _)).mono ?_; rintro e y5 ⟨rfl, hb5⟩; have HB5 := Lib.hid hb5; obtain ⟨⟨ta0, ta1, ta2, ta3, ua0, ua1, ua2⟩, xa0, xa1, xa2, xa3⟩ := HCC.out y5 hb5; clear hb5)
          | (go_at_call 26; refine (HUB.out y5 HB5.out).mono ?_; rintro e y6 ⟨rfl, hb6⟩; have HB6 := Lib.hid (HB5.out.trans (hb6.mono HB5.out.size)); obtain ⟨⟨tb0, tb1, tb2, tb3, ub0, ub1, ub2⟩, xb0, xb1, xb2, xb3⟩ := HCC.out y6 HB6.out; clear hb6)
          | (go_at_call 17; refine (HSUB.out _).mono ?_; rintro e yz ⟨rfl, hz⟩; rw [hz]; clear hz)
          | (go_at_call 24; refine (HMAY.out y6 HB6.out).mono ?_; rintro e y7 ⟨rfl, hb7⟩; have HB7 := Lib.hid (HB6.out.trans (hb7.mono HB6.out.size)); clear hb7))
        go_ret
        exact ⟨rfl, HBE.out _ (HB4.out.trans (HB7.out.mono HB4.out.size))⟩
      case false =>
        have heq := HEQ.out qa qb
        subst heq
        go_wp2_with (first
          | (go_at_call 26; refine (HUA.out wc (Below.refl _ _)).mono ?_; rintro e y5 ⟨rfl, hb5⟩; have HB5 := Lib.hid hb5; obtain ⟨⟨ta0, ta1, ta2, ta3, ua0, ua1, ua2⟩, xa0, xa1, xa2, xa3⟩ := HCC.out y5 hb5; clear hb5)
          | (go_at_call 26; refine (HUB.out y5 HB5.out).mono ?_; rintro e y6 ⟨rfl, hb6⟩; have HB6 := Lib.hid (HB5.out.trans (hb6.mono HB5.out.size)); obtain ⟨⟨tb0, tb1, tb2, tb3, ub0, ub1, ub2⟩, xb0, xb1, xb2, xb3⟩ := HCC.out y6 HB6.out; clear hb6)
          | (go_at_call 17; refine (HSUB.out _).mono ?_; rintro e yz ⟨rfl, hz⟩; rw [hz]; clear hz)
          | (go_at_call 24; refine (HMAY.out y6 HB6.out).mono ?_; rintro e y7 ⟨rfl, hb7⟩; have HB7 := Lib.hid (HB6.out.trans (hb7.mono HB6.out.size)); clear hb7))
        go_ret
        exact ⟨rfl, HBE.out _ (HB4.out.trans (HB7.out.mono HB4.out.size))⟩
set_option maxRecDepth 100000 in
theorem permRulesAddUses_lifted (os : Os) (started : os.Started) (H : Type) (enc : TypeId × Value → H) :
    ReturnsInHanded {} Tryd.checked os 8 .any (fun w args => (Rows.permRulesAddUsesSpec.pre enc Tryd.prog Tryd.f8 [] false w args ∧ laidMetH Tryd.prog laidL w) ∧ sizedMet enc Tryd.prog Tryd.f8 (OpenSpec.ofChange Rows.permRulesAddUsesSpec) false w args) (Rows.permRulesAddUsesSpec.post enc Tryd.prog Tryd.f8 false true false false) := by
  refine returnsInHanded_of_change_and (C := Tryd.checked) (X := fun w _ => laidMetH Tryd.prog laidL w) (fun _ _ _ hh h => h.of_heap hh) Tryd.own started (by kernel_rfl) Tryd.func8
    (ChangeSpec.witness_shaped (enc := enc) (C := Tryd.checked) (os := os) (X := fun w _ => laidMetH Tryd.prog laidL w) false (World.doorLaid Tryd.prog 19 os) #[.agg #[.string ByteArray.empty, .slice none 0 0, .slice none 0 0, .slice none 0 0], .agg #[.int .i64 0, .int .i64 0, .int .i64 0], .int .i64 0] 8 rfl (World.shaped_of_RefB (by kernel_rfl) (by kernel_rfl)) (by kernel_rfl) (by kernel_rfl) (by kernel_rfl) (door_met os _)) ?_
  intro W base args ds gs before hval0 hW _ _ hL _
  have hval : ∀ (j : Nat) t v, Tryd.f8.params[j]? = some t → args[j]? = some v → Value.okWide Tryd.prog W .any base t v := hval0
  have hW' := hW
  obtain ⟨p, q, hA0, hV, rfl, hfz, hnd⟩ := hW
  have hA : DataW.TrodAll enc Tryd.prog W 0 (fun _ => true) true Tryd.f8.params.toList args.toList ds p := hA0
  rw [Tryd.params8] at hA hval
  obtain ⟨v0, vs0, d0, ds0, p0, q0, hargs, rfl, rfl, h0, r0⟩ := trodAll_cons hA
  obtain ⟨v1, vs1, d1, ds1, p1, q1, rfl, rfl, rfl, h1, r1⟩ := trodAll_cons r0
  obtain ⟨v2, vs2, d2, ds2, p2, q2, rfl, rfl, rfl, h2, r2⟩ := trodAll_cons r1
  obtain ⟨rfl, rfl, rfl⟩ := trodAll_nil r2
  obtain rfl : args = #[v0, v1, v2] := by cases args; simp_all
  obtain ⟨rfl, rfl⟩ := trodVars_none hV
  have k0 := h0
  have lt0 : ∀ x ∈ p0, x.block < W.heap.size := by obtain ⟨m, hm⟩ := k0; exact DataW.trod_lt m _ _ _ hm
  have k1 := h1
  have lt1 : ∀ x ∈ p1, x.block < W.heap.size := by obtain ⟨m, hm⟩ := k1; exact DataW.trod_lt m _ _ _ hm
  obtain ⟨s, vt, vr, vq, tl, rl, ql, rfl, hT, hR, hQ⟩ := open_pol (hval 0 26 v0 rfl rfl) h0
  obtain ⟨a1, rfl⟩ := open_ru (hval 1 55 v1 rfl rfl) h1
  obtain ⟨a2, rfl, rfl, rfl, w2⟩ := open_int Tryd.underlying3 (hval 2 3 v2 rfl rfl) h2
  have htab := tab_at hL
  clear hA0 hval0
  refine (permRulesAddUses_walk s vt vr vq tl rl ql a1 a2 W hT hR hQ w2 htab).mono fun e W' ⟨he, bel⟩ => ?_
  subst he
  exact ⟨_, rfl, _, _, _, [], _, [], hW', trodAll_mk1 (shut_bool Tryd.underlying4 _), (trodAll_cons_mk (Below.trod Tryd.laidOut (by kernel_rfl) (of_decide_eq_true (by kernel_rfl)) k0 bel lt0) (trodAll_cons_mk (Below.trod Tryd.laidOut (by kernel_rfl) (of_decide_eq_true (by kernel_rfl)) k1 bel lt1) (trodAll_cons_mk (shut_int Tryd.underlying3 w2) trodAll_mk0))), rfl, bel.frame _, fun h => by cases h⟩
theorem permRulesAddUses_row : Rows.PermRulesAddUsesSaid :=
  OpenClaim.holds_of_wide 8 Tryd.f8 rfl rfl rfl rfl rfl rfl rfl ⟨rfl, rfl, rfl, rfl, rfl⟩ rfl rfl rfl rfl rfl (by kernel_rfl) Tryd.func8 (by kernel_rfl)
    (of_decide_eq_true (by kernel_rfl)) (by unfold Func.isWrapper; first | (rw [if_pos (by decide +kernel)]; kernel_rfl) | (rw [if_neg (by decide +kernel)]; exact ⟨rfl, rfl⟩))
    (fun os started H enc _ => permRulesAddUses_lifted os started H enc)
theorem PermRulesAddUses_proved : Rows.PermRulesAddUsesCardSaid :=
  Claim7.holds_tied_plain_at .later [] [.data] true Rows.permRulesAddUsesCard.stood.harness false
    permRulesAddUses_row (fun _ h => by cases h) (by kernel_rfl) (fun _ h => by cases h) permRulesAddUses_row_tie rfl ⟨rfl, rfl⟩ (by kernel_rfl) rfl
    (fun f fn hf hfn => by
      obtain rfl : f = 8 := Option.some.inj ((show Tryd.prog.funcNamed "custody/custodylaw14.PermRulesAddUses" = some 8 by kernel_rfl).symm.trans hf) |>.symm
      obtain rfl : fn = Tryd.f8 := (Option.some.inj (Tryd.func8.symm.trans hfn)).symm
      exact ⟨by kernel_rfl, fun j t ht => by
        rw [Tryd.params8] at ht
        rcases j with _ | _ | _ | j
        · simp at ht; subst ht; kernel_rfl
        · simp at ht; subst ht; kernel_rfl
        · simp at ht; subst ht; kernel_rfl
        · simp at ht⟩)
    (by kernel_rfl)

end Go.Proofs.YtamdlkflcbefdaaDoor
