/- The law FieldPolynomialsMatchSpec holds for every input. -/
import Derived.Test.YtbkkffdgkkcbfabFieldS
namespace Go.Proofs.Ytbkkffdgkkcbfab
open Go.ChangeShapes Go.WideShapes Go.ChangeAt Go.RowKit F6
open Go.ChangeMaps (open_string shut_string)
set_option linter.unusedSimpArgs false
set_option linter.unusedVariables false
attribute [local irreducible] mul ev pp wt wts isum interp coef div inverse errB B8 Calls wtsX errW intX coefX errI
set_option maxRecDepth 100000 in
set_option maxHeartbeats 2000000 in
theorem fieldPolynomialsMatchSpec_walk (v0 : Value) (a0 : List UInt8) (v1 : Value) (a1 : List UInt8) (a2 : UInt8) (w : World) (w0 : RdB w v0 a0) (w1 : RdB w v1 a1) :
    Calls Try.prog 5 #[v0, v1, .int .u8 (B8 a2)] w fun e w' => e = .returned (.bool true) ∧ Below w.heap.size w w' := by
  have HB := Below.refl w.heap.size w
  have s1 : (wtsX a0 a2 == wtsX a0 a2) = true := beq_self_eq_true _
  have s2 : (coefX a0 a1 == coefX a0 a1) = true := beq_self_eq_true _
  have HX := w0
  have HY := w1
  by_cases hf : a0.length ≤ 40 ∧ a1.length ≤ 40
  · have hfq := few_q v0 v1 a0 a1 w w0 w1
    rw [decide_eq_true hf] at hfq
    have HF := Lib.hid hfq
    clear hfq hf w0 w1
    go_enter Try.func5, Try.ntmps5
    go_wp2_with (first
      | (go_at_call 16; refine HF.out.mono ?_; rintro e _ ⟨rfl, rfl⟩)
      | (go_at_call 17; refine (weights_ca _ _ _ _ HX).mono ?_; rintro e w1 ⟨u1, rfl, HW, hb⟩; replace HB := HB.trans (hb.mono HB.size); replace HX := HX.on hb; replace HY := HY.on hb; clear hb)
      | (go_at_call 18; refine (weights_ra _ _ _ _ HX).mono ?_; rintro e w2 ⟨u2, rfl, HV, hb⟩; replace HB := HB.trans (hb.mono HB.size); replace HX := HX.on hb; replace HY := HY.on hb; replace HW := HW.on hb; clear hb)
      | (go_at_call 19; refine (interp_ca _ _ _ _ _ _ HX HY).mono ?_; rintro e w3 ⟨rfl, hb⟩; replace HB := HB.trans (hb.mono HB.size); replace HX := HX.on hb; replace HY := HY.on hb; replace HW := HW.on hb; replace HV := HV.on hb; clear hb)
      | (go_at_call 20; refine (interp_ra _ _ _ _ _ _ HX HY).mono ?_; rintro e w4 ⟨rfl, hb⟩; replace HB := HB.trans (hb.mono HB.size); replace HX := HX.on hb; replace HY := HY.on hb; replace HW := HW.on hb; replace HV := HV.on hb; clear hb)
      | (go_at_call 21; refine (coef_ca _ _ _ _ _ HX HY).mono ?_; rintro e w5 ⟨u5, rfl, HC, hb⟩; replace HB := HB.trans (hb.mono HB.size); replace HX := HX.on hb; replace HY := HY.on hb; replace HW := HW.on hb; replace HV := HV.on hb; clear hb)
      | (go_at_call 22; refine (coef_ra _ _ _ _ _ HX HY).mono ?_; rintro e w6 ⟨u6, rfl, HD, hb⟩; replace HB := HB.trans (hb.mono HB.size); replace HX := HX.on hb; replace HY := HY.on hb; replace HW := HW.on hb; replace HV := HV.on hb; replace HC := HC.on hb; clear hb)
      | (go_at_call 13; refine (sanity_c _).mono ?_; rintro e w7 ⟨rfl, hb⟩; replace HB := HB.trans (hb.mono HB.size); replace HY := HY.on hb; replace HW := HW.on hb; replace HV := HV.on hb; replace HC := HC.on hb; replace HD := HD.on hb; clear hb)
      | (go_at_call 23; refine (eval_c _ _ _ _ HY).mono ?_; rintro e _ ⟨rfl, n, rfl⟩; replace HB := below_drewN n HB; replace HY := HY.drew n; replace HW := HW.drew n; replace HV := HV.drew n; replace HC := HC.drew n; replace HD := HD.drew n)
      | (go_at_call 24; refine (eval_r _ _ _ _ HY).mono ?_; rintro e _ ⟨rfl, rfl⟩)
      | (go_at_call 25; refine (same_r _ _ _ _ _ HW HV).mono ?_; rintro e _ ⟨rfl, rfl⟩; clear HW HV)
      | (go_at_call 25; refine (same_r _ _ _ _ _ HC HD).mono ?_; rintro e _ ⟨rfl, rfl⟩))
    go_ret
    exact ⟨rfl, HB⟩
  · have hfq := few_q v0 v1 a0 a1 w w0 w1
    rw [decide_eq_false hf] at hfq
    have HF := Lib.hid hfq
    clear hfq hf w0 w1
    go_enter Try.func5, Try.ntmps5
    go_wp2_with (first
      | (go_at_call 16; refine HF.out.mono ?_; rintro e _ ⟨rfl, rfl⟩)
      | (go_at_call 13; refine (sanity_c _).mono ?_; rintro e w7 ⟨rfl, hb⟩; replace HB := HB.trans (hb.mono HB.size); clear hb))
    go_ret
    exact ⟨rfl, HB⟩
set_option maxRecDepth 100000 in
theorem fieldPolynomialsMatchSpec_lifted (os : Os) (started : os.Started) (H : Type) (enc : TypeId × Value → H) :
    ReturnsInHanded {} Try.checked os 5 .any (Rows.fieldPolynomialsMatchSpecSpec.pre6 enc Try.prog Try.f5 Rows.fieldPolynomialsMatchSpecRow.domain false) (Rows.fieldPolynomialsMatchSpecSpec.post enc Try.prog Try.f5 false true false false) := by
  refine returnsInHanded_of_change (C := Try.checked) Try.own started (by kernel_rfl) Try.func5
    (ChangeSpec.witness6 (enc := enc) (C := Try.checked) false ⟨#[], #[.slice none 0 0, .slice none 0 0, .int .u8 0], []⟩ 8 (by kernel_rfl) (by kernel_rfl) (by kernel_rfl) (by kernel_rfl)) ?_
  intro W base args ds gs before hval0 hW hcnd _
  have hval : ∀ (j : Nat) t v, Try.f5.params[j]? = some t → args[j]? = some v → Value.okWide Try.prog W .any base t v := hval0
  have hW' := hW
  obtain ⟨p, q, hA0, hV, rfl, hfz, hnd⟩ := hW
  have hA : DataW.TrodAll enc Try.prog W 0 (fun _ => true) true Try.f5.params.toList args.toList ds p := hA0
  rw [Try.params5] at hA hval
  obtain ⟨v0, vs0, d0, ds0, p0, q0, hargs, rfl, rfl, h0, r0⟩ := trodAll_cons hA
  obtain ⟨v1, vs1, d1, ds1, p1, q1, rfl, rfl, rfl, h1, r1⟩ := trodAll_cons r0
  obtain ⟨v2, vs2, d2, ds2, p2, q2, rfl, rfl, rfl, h2, r2⟩ := trodAll_cons r1
  obtain ⟨rfl, rfl, rfl⟩ := trodAll_nil r2
  obtain rfl : args = #[v0, v1, v2] := by cases args; simp_all
  obtain ⟨rfl, rfl⟩ := trodVars_none hV
  have k0 := h0
  have lt0 : ∀ x ∈ p0, x.block < W.heap.size := by obtain ⟨m, hm⟩ := k0; exact DataW.trod_lt m _ _ _ hm
  have k1 := h1
  have lt1 : ∀ x ∈ p1, x.block < W.heap.size := by obtain ⟨m, hm⟩ := k1; exact DataW.trod_lt m _ _ _ hm
  obtain ⟨a0, w0⟩ := open_b (hval 0 30 v0 rfl rfl) h0
  obtain ⟨a1, w1⟩ := open_b (hval 1 30 v1 rfl rfl) h1
  obtain ⟨z2, rfl, rfl, rfl, w2⟩ := open_int Try.underlying5 (hval 2 5 v2 rfl rfl) h2
  obtain ⟨a2, rfl⟩ := u8_of w2
  clear hA0 hval0
  refine (fieldPolynomialsMatchSpec_walk v0 a0 v1 a1 a2 W w0 w1).mono fun e W' ⟨he, bel⟩ => ?_
  subst he
  exact ⟨_, rfl, _, _, _, [], _, [], hW', trodAll_mk1 (shut_bool Try.underlying4 _), (trodAll_cons_mk (Below.trod Try.laidOut (by kernel_rfl) (of_decide_eq_true (by kernel_rfl)) k0 bel lt0) (trodAll_cons_mk (Below.trod Try.laidOut (by kernel_rfl) (of_decide_eq_true (by kernel_rfl)) k1 bel lt1) (trodAll_cons_mk (shut_int Try.underlying5 w2) trodAll_mk0))), rfl, bel.frame _, fun h => by cases h⟩
theorem FieldPolynomialsMatchSpec_proved : Rows.FieldPolynomialsMatchSpecSaid :=
  OpenClaim.holds_of_wide 5 Try.f5 rfl rfl rfl rfl rfl rfl rfl ⟨rfl, rfl, rfl, rfl, rfl⟩ rfl rfl rfl rfl rfl (by kernel_rfl) Try.func5 (by kernel_rfl)
    (of_decide_eq_true (by kernel_rfl)) (by unfold Func.isWrapper; first | (rw [if_pos (by decide +kernel)]; kernel_rfl) | (rw [if_neg (by decide +kernel)]; exact ⟨rfl, rfl⟩))
    (fun os started H enc _ => fieldPolynomialsMatchSpec_lifted os started H enc)

end Go.Proofs.Ytbkkffdgkkcbfab
