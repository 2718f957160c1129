/- The law SealInjective holds for every input: it returns true and leaves its arguments as they were. No condition. -/
import Derived.Test.YtackbjbmadkkhaaDoorFrameS
import Derived.Test.YtackbjbmadkkhaaDoorTie
import Derived.Test.YtackbjbmadkkhaaDoorCards
import Derived.SevenTiedAt
namespace Go.Proofs.YtackbjbmadkkhaaDoor
open Go.ChangeShapes Go.WideShapes Go.ChangeAt Go.RowKit
open Go.ChangeMaps (open_string shut_string)
set_option linter.unusedSimpArgs false
set_option linter.unusedVariables false
attribute [local irreducible] Calls sealX sealE openX openE keysA keysB keysE fewP
set_option maxRecDepth 100000 in
set_option maxHeartbeats 4000000 in
theorem sealInjective_walk (a0 : ByteArray) (a1 : ByteArray) (a2 : ByteArray) (a3 : ByteArray) (a4 : ByteArray) (w : World) (w0 : a0.size ≤ maxLen) (w1 : a1.size ≤ maxLen) (w2 : a2.size ≤ maxLen) (w3 : a3.size ≤ maxLen) (w4 : a4.size ≤ maxLen) (z0 : a0.size ≤ 140737488351232) (z1 : a1.size ≤ 140737488351232) (z2 : a2.size ≤ 140737488351232) (z3 : a3.size ≤ 140737488351232) (z4 : a4.size ≤ 140737488351232) (htab : K0At w ∧ KAt w) :
    Calls Tryd.prog 7 #[.string a0, .string a1, .string a2, .string a3, .string a4] w fun e w' => e = .returned (.bool true) ∧ Below w.heap.size w w' := by
  obtain ⟨key, rfl⟩ := str_of a0
  obtain ⟨ad, rfl⟩ := str_of a1
  obtain ⟨t, rfl⟩ := str_of a2
  obtain ⟨oth, rfl⟩ := str_of a3
  obtain ⟨more, rfl⟩ := str_of a4
  obtain ⟨h0, hk⟩ := htab
  have HK := Lib.hid hk
  have H0 := Lib.hid h0
  have HF := Lib.hid (few5 key ad t oth more w 9)
  have HS := Lib.hid (fun (y : World) (a : KAt y) (b : K0At y) => sanity_c y a b)
  have y0 : key.length ≤ 140737488351232 := z0
  have y1 : ad.length ≤ 140737488351232 := z1
  have y2 : t.length ≤ 140737488351232 := z2
  have y3 : oth.length ≤ 140737488351232 := z3
  have y4 : more.length ≤ 140737488351232 := z4
  clear hk h0 w0 w1 w2 w3 w4 z0 z1 z2 z3 z4
  by_cases hf : fewP [key, ad, t, oth, more] = true
  · have ht : total [key, ad, t, oth, more] = key.length + ad.length + t.length + oth.length + more.length := by simp [total]; omega
    have htot := few_tot _ hf (by rw [ht]; omega)
    rw [ht] at htot
    rw [hf] at HF
    have C1 := Lib.hid (fun y a => seal_t key ad t y a)
    have C2 := Lib.hid (fun y a => seal_t key oth more y a)
    have s1 := law_e key ad t ⟨by omega, by omega⟩
    have s2 := law_e key oth more ⟨by omega, by omega⟩
    clear hf ht y0 y1 y2 y3 y4 htot
    by_cases hk32 : key.length = 32
    · rw [if_pos hk32] at s1 s2
      have hin := law_inj key ad t oth more s1 s2
      rw [s1] at C1
      rw [s2] at C2
      clear s1 s2 hk32
      generalize sealX key ad t = X at C1 hin
      generalize sealX key oth more = Y at C2 hin
      by_cases hxy : X = Y
      · have htm := hin hxy
        subst hxy
        subst htm
        clear hin
        go_enter Tryd.func7, Tryd.ntmps7
        go_wp2_with (first
          | (go_at_call 8; refine HF.out.mono ?_; rintro e y1 ⟨rfl, hb1⟩; have HB1 := Lib.hid hb1; clear hb1)
          | (go_at_call 12; refine (C1.out _ (HK.out.on HB1.out)).mono ?_; rintro e y2 ⟨rfl, hb2⟩; have HB2 := Lib.hid (HB1.out.trans (hb2.mono HB1.out.size)); clear hb2)
          | (go_at_call 12; refine (C2.out _ (HK.out.on HB2.out)).mono ?_; rintro e y3 ⟨rfl, hb3⟩; have HB3 := Lib.hid (HB2.out.trans (hb3.mono HB2.out.size)); clear hb3)
          | (go_at_call 9; refine (HS.out _ (HK.out.on HB3.out) (H0.out.on HB3.out)).mono ?_; rintro e y6 ⟨rfl, hb6⟩; have HB6 := Lib.hid (HB3.out.trans (hb6.mono HB3.out.size)); clear hb6))
        go_ret
        exact ⟨rfl, HB6.out⟩
      · have hne : (X == Y) = false := by simpa using hxy
        clear hin hxy
        go_enter Tryd.func7, Tryd.ntmps7
        go_wp2_with (first
          | (go_at_call 8; refine HF.out.mono ?_; rintro e y1 ⟨rfl, hb1⟩; have HB1 := Lib.hid hb1; clear hb1)
          | (go_at_call 12; refine (C1.out _ (HK.out.on HB1.out)).mono ?_; rintro e y2 ⟨rfl, hb2⟩; have HB2 := Lib.hid (HB1.out.trans (hb2.mono HB1.out.size)); clear hb2)
          | (go_at_call 12; refine (C2.out _ (HK.out.on HB2.out)).mono ?_; rintro e y3 ⟨rfl, hb3⟩; have HB3 := Lib.hid (HB2.out.trans (hb3.mono HB2.out.size)); clear hb3)
          | (go_at_call 9; refine (HS.out _ (HK.out.on HB3.out) (H0.out.on HB3.out)).mono ?_; rintro e y6 ⟨rfl, hb6⟩; have HB6 := Lib.hid (HB3.out.trans (hb6.mono HB3.out.size)); clear hb6))
        go_ret
        exact ⟨rfl, HB6.out⟩
    · rw [if_neg hk32] at s1 s2
      rw [s1] at C1
      rw [s2] at C2
      clear s1 s2 hk32
      generalize sealX key ad t = X at C1
      generalize sealX key oth more = Y at C2
      go_enter Tryd.func7, Tryd.ntmps7
      go_wp2_with (first
        | (go_at_call 8; refine HF.out.mono ?_; rintro e y1 ⟨rfl, hb1⟩; have HB1 := Lib.hid hb1; clear hb1)
        | (go_at_call 12; refine (C1.out _ (HK.out.on HB1.out)).mono ?_; rintro e y2 ⟨rfl, hb2⟩; have HB2 := Lib.hid (HB1.out.trans (hb2.mono HB1.out.size)); clear hb2)
        | (go_at_call 12; refine (C2.out _ (HK.out.on HB2.out)).mono ?_; rintro e y3 ⟨rfl, hb3⟩; have HB3 := Lib.hid (HB2.out.trans (hb3.mono HB2.out.size)); clear hb3)
        | (go_at_call 9; refine (HS.out _ (HK.out.on HB3.out) (H0.out.on HB3.out)).mono ?_; rintro e y6 ⟨rfl, hb6⟩; have HB6 := Lib.hid (HB3.out.trans (hb6.mono HB3.out.size)); clear hb6))
      go_ret
      exact ⟨rfl, HB6.out⟩
  · have hf2 : fewP [key, ad, t, oth, more] = false := by simpa using hf
    rw [hf2] at HF
    clear hf hf2 y0 y1 y2 y3 y4
    go_enter Tryd.func7, Tryd.ntmps7
    go_wp2_with (first
      | (go_at_call 8; refine HF.out.mono ?_; rintro e y1 ⟨rfl, hb1⟩; have HB1 := Lib.hid hb1; clear hb1)
      | (go_at_call 9; refine (HS.out _ (HK.out.on HB1.out) (H0.out.on HB1.out)).mono ?_; rintro e y6 ⟨rfl, hb6⟩; have HB6 := Lib.hid (HB1.out.trans (hb6.mono HB1.out.size)); clear hb6))
    go_ret
    exact ⟨rfl, HB6.out⟩
set_option maxRecDepth 100000 in
theorem sealInjective_lifted (os : Os) (started : os.Started) (H : Type) (enc : TypeId × Value → H) :
    ReturnsInHanded {} Tryd.checked os 7 .any (fun w args => (Rows.sealInjectiveSpec.pre enc Tryd.prog Tryd.f7 [] false w args ∧ laidMetH Tryd.prog laidL w) ∧ sizedMet enc Tryd.prog Tryd.f7 (OpenSpec.ofChange Rows.sealInjectiveSpec) false w args) (Rows.sealInjectiveSpec.post enc Tryd.prog Tryd.f7 false true false false) := by
  refine returnsInHanded_of_change_and (C := Tryd.checked) (X := fun w _ => laidMetH Tryd.prog laidL w) (fun _ _ _ hh h => h.of_heap hh) Tryd.own started (by kernel_rfl) Tryd.func7
    (ChangeSpec.witness_shaped (enc := enc) (C := Tryd.checked) (os := os) (X := fun w _ => laidMetH Tryd.prog laidL w) false (World.doorLaid Tryd.prog 91 os) #[.string ByteArray.empty, .string ByteArray.empty, .string ByteArray.empty, .string ByteArray.empty, .string ByteArray.empty] 8 rfl (World.shaped_of_RefB (by kernel_rfl) (by kernel_rfl)) (by kernel_rfl) (by kernel_rfl) (by kernel_rfl) (door_met os _)) ?_
  intro W base args ds gs before hval0 hW _ hwt hL _
  have hval : ∀ (j : Nat) t v, Tryd.f7.params[j]? = some t → args[j]? = some v → Value.okWide Tryd.prog W .any base t v := hval0
  have hW' := hW
  obtain ⟨p, q, hA0, hV, rfl, hfz, hnd⟩ := hW
  have hA : DataW.TrodAll enc Tryd.prog W 0 (fun _ => true) true Tryd.f7.params.toList args.toList ds p := hA0
  rw [Tryd.params7] at hA hval hwt
  obtain ⟨v0, vs0, d0, ds0, p0, q0, hargs, rfl, rfl, h0, r0⟩ := trodAll_cons hA
  obtain ⟨v1, vs1, d1, ds1, p1, q1, rfl, rfl, rfl, h1, r1⟩ := trodAll_cons r0
  obtain ⟨v2, vs2, d2, ds2, p2, q2, rfl, rfl, rfl, h2, r2⟩ := trodAll_cons r1
  obtain ⟨v3, vs3, d3, ds3, p3, q3, rfl, rfl, rfl, h3, r3⟩ := trodAll_cons r2
  obtain ⟨v4, vs4, d4, ds4, p4, q4, rfl, rfl, rfl, h4, r4⟩ := trodAll_cons r3
  obtain ⟨rfl, rfl, rfl⟩ := trodAll_nil r4
  obtain rfl : args = #[v0, v1, v2, v3, v4] := by cases args; simp_all
  obtain ⟨rfl, rfl⟩ := trodVars_none hV
  obtain ⟨a0, rfl, rfl, rfl, w0⟩ := open_string Tryd.underlying9 (hval 0 9 v0 rfl rfl) h0
  obtain ⟨a1, rfl, rfl, rfl, w1⟩ := open_string Tryd.underlying9 (hval 1 9 v1 rfl rfl) h1
  obtain ⟨a2, rfl, rfl, rfl, w2⟩ := open_string Tryd.underlying9 (hval 2 9 v2 rfl rfl) h2
  obtain ⟨a3, rfl, rfl, rfl, w3⟩ := open_string Tryd.underlying9 (hval 3 9 v3 rfl rfl) h3
  obtain ⟨a4, rfl, rfl, rfl, w4⟩ := open_string Tryd.underlying9 (hval 4 9 v4 rfl rfl) h4
  have htab := tabs_at hL
  clear hA0 hval0
  simp [DataW.weightsEach, DataW.weights, reachBytes] at hwt
  obtain ⟨z0, z1, z2, z3, z4⟩ := hwt
  refine (sealInjective_walk a0 a1 a2 a3 a4 W w0 w1 w2 w3 w4 (of_decide_eq_true z0) (of_decide_eq_true z1) (of_decide_eq_true z2) (of_decide_eq_true z3) (of_decide_eq_true z4) htab).mono fun e W' ⟨he, bel⟩ => ?_
  subst he
  exact ⟨_, rfl, _, _, _, [], _, [], hW', trodAll_mk1 (shut_bool Tryd.underlying4 _), (trodAll_cons_mk (shut_string Tryd.underlying9 w0) (trodAll_cons_mk (shut_string Tryd.underlying9 w1) (trodAll_cons_mk (shut_string Tryd.underlying9 w2) (trodAll_cons_mk (shut_string Tryd.underlying9 w3) (trodAll_cons_mk (shut_string Tryd.underlying9 w4) trodAll_mk0))))), rfl, bel.frame _, fun h => by cases h⟩
theorem sealInjective_row : Rows.SealInjectiveSaid :=
  OpenClaim.holds_of_wide 7 Tryd.f7 rfl rfl rfl rfl rfl rfl rfl ⟨rfl, rfl, rfl, rfl, rfl⟩ rfl rfl rfl rfl rfl (by kernel_rfl) Tryd.func7 (by kernel_rfl)
    (of_decide_eq_true (by kernel_rfl)) (by unfold Func.isWrapper; first | (rw [if_pos (by decide +kernel)]; kernel_rfl) | (rw [if_neg (by decide +kernel)]; exact ⟨rfl, rfl⟩))
    (fun os started H enc _ => sealInjective_lifted os started H enc)
theorem SealInjective_proved : Rows.SealInjectiveCardSaid :=
  Claim7.holds_tied_plain_at .later [] [.data, .data] true Rows.sealInjectiveCard.stood.harness false
    sealInjective_row (fun _ h => by cases h) (by kernel_rfl) (fun _ h => by cases h) sealInjective_row_tie rfl ⟨rfl, rfl⟩ (by kernel_rfl) rfl
    (fun f fn hf hfn => by
      obtain rfl : f = 7 := Option.some.inj ((show Tryd.prog.funcNamed "custody/custodylaw04.SealInjective" = some 7 by kernel_rfl).symm.trans hf) |>.symm
      obtain rfl : fn = Tryd.f7 := (Option.some.inj (Tryd.func7.symm.trans hfn)).symm
      exact ⟨by kernel_rfl, fun j t ht => by
        rw [Tryd.params7] at ht
        rcases j with _ | _ | _ | _ | _ | j
        · simp at ht; subst ht; kernel_rfl
        · simp at ht; subst ht; kernel_rfl
        · simp at ht; subst ht; kernel_rfl
        · simp at ht; subst ht; kernel_rfl
        · simp at ht; subst ht; kernel_rfl
        · simp at ht⟩)
    (by kernel_rfl)

end Go.Proofs.YtackbjbmadkkhaaDoor
