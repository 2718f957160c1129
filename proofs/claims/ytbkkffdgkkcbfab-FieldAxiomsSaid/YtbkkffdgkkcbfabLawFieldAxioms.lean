/- The law FieldAxioms holds for every input. -/
import Derived.Test.YtbkkffdgkkcbfabFieldS
namespace Go.Proofs.Ytbkkffdgkkcbfab
open Go.ChangeShapes Go.WideShapes Go.ChangeAt Go.RowKit F6
open Go.ChangeMaps (open_string shut_string)
set_option linter.unusedSimpArgs false
set_option linter.unusedVariables false
attribute [local irreducible] mul ev pp wt wts isum interp coef div inverse errB B8 Calls
set_option maxRecDepth 100000 in
set_option maxHeartbeats 2000000 in
theorem fieldAxioms_walk (a0 : UInt8) (a1 : UInt8) (a2 : UInt8) (w : World)  :
    Calls Try.prog 4 #[.int .u8 (B8 a0), .int .u8 (B8 a1), .int .u8 (B8 a2)] w fun e w' => e = .returned (.bool true) ∧ Below w.heap.size w w' := by
  have HB := Below.refl w.heap.size w
  have e1 : (B8 (mul a0 a1) == B8 (mul a1 a0)) = true := by rw [mul_comm a0 a1]; exact beq_self_eq_true _
  have e2 : (B8 (mul (mul a0 a1) a2) == B8 (mul a0 (mul a1 a2))) = true := by rw [mul_assoc]; exact beq_self_eq_true _
  have e3 : (B8 (mul a0 (a1 ^^^ a2)) == B8 (mul a0 a1 ^^^ mul a0 a2)) = true := by rw [mul_xor_right]; exact beq_self_eq_true _
  have three := axioms_three a0 a1
  rcases three with ⟨c1, c2, c3, c4, c5, c6⟩ | ⟨c1, c2, c3, c4, c5, c6⟩ | ⟨c1, c2, c3, c5, c6⟩ | ⟨c1, c2, c3, c5, c6⟩
  all_goals
    go_enter Try.func4, Try.ntmps4
    go_wp2_with (first
      | (go_at_call 11; refine (div_ca _ _ _).mono ?_; rintro e w1 ⟨rfl, hb⟩; replace HB := HB.trans (hb.mono HB.size); clear hb)
      | (go_at_call 13; refine (sanity_c _).mono ?_; rintro e w1 ⟨rfl, hb⟩; replace HB := HB.trans (hb.mono HB.size); clear hb)
      | (go_at_call 14; refine (mul_c _ _ _).mono ?_; rintro e _ ⟨rfl, rfl⟩)
      | (go_at_call 14; refine (mul_c1 _ _).mono ?_; rintro e _ ⟨rfl, rfl⟩))
    go_ret
    exact ⟨rfl, HB⟩
set_option maxRecDepth 100000 in
theorem fieldAxioms_lifted (os : Os) (started : os.Started) (H : Type) (enc : TypeId × Value → H) :
    ReturnsInHanded {} Try.checked os 4 .any (Rows.fieldAxiomsSpec.pre6 enc Try.prog Try.f4 Rows.fieldAxiomsRow.domain false) (Rows.fieldAxiomsSpec.post enc Try.prog Try.f4 false true false false) := by
  refine returnsInHanded_of_change (C := Try.checked) Try.own started (by kernel_rfl) Try.func4
    (ChangeSpec.witness6 (enc := enc) (C := Try.checked) false ⟨#[], #[.int .u8 0, .int .u8 0, .int .u8 0], []⟩ 8 (by kernel_rfl) (by kernel_rfl) (by kernel_rfl) (by kernel_rfl)) ?_
  intro W base args ds gs before hval0 hW hcnd _
  have hval : ∀ (j : Nat) t v, Try.f4.params[j]? = some t → args[j]? = some v → Value.okWide Try.prog W .any base t v := hval0
  have hW' := hW
  obtain ⟨p, q, hA0, hV, rfl, hfz, hnd⟩ := hW
  have hA : DataW.TrodAll enc Try.prog W 0 (fun _ => true) true Try.f4.params.toList args.toList ds p := hA0
  rw [Try.params4] at hA hval
  obtain ⟨v0, vs0, d0, ds0, p0, q0, hargs, rfl, rfl, h0, r0⟩ := trodAll_cons hA
  obtain ⟨v1, vs1, d1, ds1, p1, q1, rfl, rfl, rfl, h1, r1⟩ := trodAll_cons r0
  obtain ⟨v2, vs2, d2, ds2, p2, q2, rfl, rfl, rfl, h2, r2⟩ := trodAll_cons r1
  obtain ⟨rfl, rfl, rfl⟩ := trodAll_nil r2
  obtain rfl : args = #[v0, v1, v2] := by cases args; simp_all
  obtain ⟨rfl, rfl⟩ := trodVars_none hV
  obtain ⟨z0, rfl, rfl, rfl, w0⟩ := open_int Try.underlying5 (hval 0 5 v0 rfl rfl) h0
  obtain ⟨a0, rfl⟩ := u8_of w0
  obtain ⟨z1, rfl, rfl, rfl, w1⟩ := open_int Try.underlying5 (hval 1 5 v1 rfl rfl) h1
  obtain ⟨a1, rfl⟩ := u8_of w1
  obtain ⟨z2, rfl, rfl, rfl, w2⟩ := open_int Try.underlying5 (hval 2 5 v2 rfl rfl) h2
  obtain ⟨a2, rfl⟩ := u8_of w2
  clear hA0 hval0
  refine (fieldAxioms_walk a0 a1 a2 W ).mono fun e W' ⟨he, bel⟩ => ?_
  subst he
  exact ⟨_, rfl, _, _, _, [], _, [], hW', trodAll_mk1 (shut_bool Try.underlying4 _), (trodAll_cons_mk (shut_int Try.underlying5 w0) (trodAll_cons_mk (shut_int Try.underlying5 w1) (trodAll_cons_mk (shut_int Try.underlying5 w2) trodAll_mk0))), rfl, bel.frame _, fun h => by cases h⟩
theorem FieldAxioms_proved : Rows.FieldAxiomsSaid :=
  OpenClaim.holds_of_wide 4 Try.f4 rfl rfl rfl rfl rfl rfl rfl ⟨rfl, rfl, rfl, rfl, rfl⟩ rfl rfl rfl rfl rfl (by kernel_rfl) Try.func4 (by kernel_rfl)
    (of_decide_eq_true (by kernel_rfl)) (by unfold Func.isWrapper; first | (rw [if_pos (by decide +kernel)]; kernel_rfl) | (rw [if_neg (by decide +kernel)]; exact ⟨rfl, rfl⟩))
    (fun os started H enc _ => fieldAxioms_lifted os started H enc)

end Go.Proofs.Ytbkkffdgkkcbfab
