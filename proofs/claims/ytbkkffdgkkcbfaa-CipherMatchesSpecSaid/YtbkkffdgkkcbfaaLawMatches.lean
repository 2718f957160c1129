/- The law holds for every input. -/
import Derived.Test.YtbkkffdgkkcbfaaFrame
import Derived.Test.YtbkkffdgkkcbfaaCipherS
import Derived.Test.YtbkkffdgkkcbfaaCipherK
import Derived.Test.YtbkkffdgkkcbfaaPureC3b
namespace Go.Proofs.Ytbkkffdgkkcbfaa
open Go.ChangeShapes Go.WideShapes Go.ChangeAt Go.RowKit
open Go.ChangeMaps (open_string shut_string)
set_option linter.unusedSimpArgs false
set_option linter.unusedVariables false

set_option maxRecDepth 100000 in
set_option maxHeartbeats 2000000 in
theorem cipherMatchesSpec_walk (a0 : ByteArray) (a1 : Int) (a2 : ByteArray) (w0 : a0.size ≤ maxLen) (w1 : (Lit.int .u32 a1).wf = true) (w2 : a2.size ≤ maxLen) (w : World) :
    Calls Try.prog 3 #[.string a0, .int .u32 a1, .string a2] w fun e w' => e = .returned (.bool true) ∧ Below w.heap.size w w' := by
  obtain ⟨key, rfl⟩ := str_of a0
  obtain ⟨nonce, rfl⟩ := str_of a2
  obtain ⟨c, rfl⟩ := u32_of w1
  clear w0 w1 w2
  have HB := Below.refl w.heap.size w
  cases hok : C3.okArgs key nonce with
  | false =>
    have HO := Lib.hid hok
    clear hok
    have hs0 := state_no key nonce c HO.out
    have hr0 := state_ref_no key nonce c HO.out
    obtain ⟨Z, hZ, hZl⟩ : ∃ Z : List UInt32, List.replicate 16 0 = Z ∧ Z.length = 16 := ⟨_, rfl, rfl⟩
    rw [hZ] at hs0 hr0
    clear hZ
    have HX := Lib.hid hs0
    have HY := Lib.hid hr0
    clear hs0 hr0
    have heq := fun w => eql_row Z Z hZl hZl w
    rw [show decide (Z = Z) = true by simp] at heq
    go_enter Try.func3, Try.ntmps3
    go_wp2_with (first
      | (go_at_call 9; refine (HX.out _).mono ?_; rintro e wa ⟨rfl, hb⟩; replace HB := HB.trans (hb.mono HB.size); clear hb)
      | (go_at_call 10; refine (HY.out _).mono ?_; rintro e wb ⟨rfl, hb⟩; replace HB := HB.trans (hb.mono HB.size); replace HA := HA.keep hb; clear hb)
      | (go_at_call 11; refine (block_no key nonce c HO.out _).mono ?_; rintro e w1 ⟨rfl, hb⟩; replace HB := HB.trans (hb.mono HB.size); replace HA := HA.keep hb; replace HC := HC.keep hb; clear hb)
      | (go_at_call 12; refine (blockref_no key nonce c HO.out _).mono ?_; rintro e w1 ⟨rfl, hb⟩; replace HB := HB.trans (hb.mono HB.size); replace HA := HA.keep hb; replace HC := HC.keep hb; clear hb)
      | (refine st_row rfl (.tmp 7) (.tmp 20) rfl _ _ rfl rfl 23 _ (heap_alloc_new _ _) rfl hZl ?_; replace HB := HB.alloc HB.size (.cells (row Z) 23); have HA := At.new wa Z)
      | (refine st_row rfl (.tmp 9) (.tmp 27) rfl _ _ rfl rfl 23 _ (heap_alloc_new _ _) rfl hZl ?_; replace HB := HB.alloc HB.size (.cells (row Z) 23); replace HA := HA.alloc (.cells (row Z) 23); have HC := At.new wb Z)
      | (refine ld_rowG rfl (.tmp 7) rfl _ rfl _ HA hZl ?_)
      | (refine ld_rowG rfl (.tmp 9) rfl _ rfl _ HC hZl ?_)
      | (go_at_call 13; refine (sanity_c _).mono ?_; rintro e w1 ⟨rfl, hb⟩; replace HB := HB.trans (hb.mono HB.size); replace HA := HA.keep hb; replace HC := HC.keep hb; clear hb))
    go_ret
    exact ⟨rfl, HB⟩
  | true =>
    obtain ⟨hk, hnn⟩ := ok_iff key nonce hok
    have hs0 := state_c key nonce c hk hnn
    have hr0 := state_ref key nonce c hk hnn
    have hb0 := block_c key nonce c hk hnn
    have hc0 := blockref_c key nonce c hk hnn
    have hZl := C3.length_state key c nonce
    generalize C3.block key c nonce = blk at hb0 hc0
    generalize C3.state key c nonce = Z at hs0 hr0 hZl
    have HX := Lib.hid hs0
    have HY := Lib.hid hr0
    have H1 := Lib.hid hb0
    have H2 := Lib.hid hc0
    clear hs0 hr0 hb0 hc0 hk hnn hok
    have heq := fun w => eql_row Z Z hZl hZl w
    rw [show decide (Z = Z) = true by simp] at heq
    go_enter Try.func3, Try.ntmps3
    go_wp2_with (first
      | (go_at_call 9; refine (HX.out _).mono ?_; rintro e wa ⟨rfl, hb⟩; replace HB := HB.trans (hb.mono HB.size); clear hb)
      | (go_at_call 10; refine (HY.out _).mono ?_; rintro e wb ⟨rfl, hb⟩; replace HB := HB.trans (hb.mono HB.size); replace HA := HA.keep hb; clear hb)
      | (go_at_call 11; refine (H1.out _).mono ?_; rintro e w1 ⟨rfl, hb⟩; replace HB := HB.trans (hb.mono HB.size); replace HA := HA.keep hb; replace HC := HC.keep hb; clear hb)
      | (go_at_call 12; refine (H2.out _).mono ?_; rintro e w1 ⟨rfl, hb⟩; replace HB := HB.trans (hb.mono HB.size); replace HA := HA.keep hb; replace HC := HC.keep hb; clear hb)
      | (refine st_row rfl (.tmp 7) (.tmp 20) rfl _ _ rfl rfl 23 _ (heap_alloc_new _ _) rfl hZl ?_; replace HB := HB.alloc HB.size (.cells (row Z) 23); have HA := At.new wa Z)
      | (refine st_row rfl (.tmp 9) (.tmp 27) rfl _ _ rfl rfl 23 _ (heap_alloc_new _ _) rfl hZl ?_; replace HB := HB.alloc HB.size (.cells (row Z) 23); replace HA := HA.alloc (.cells (row Z) 23); have HC := At.new wb Z)
      | (refine ld_rowG rfl (.tmp 7) rfl _ rfl _ HA hZl ?_)
      | (refine ld_rowG rfl (.tmp 9) rfl _ rfl _ HC hZl ?_)
      | (go_at_call 13; refine (sanity_c _).mono ?_; rintro e w1 ⟨rfl, hb⟩; replace HB := HB.trans (hb.mono HB.size); replace HA := HA.keep hb; replace HC := HC.keep hb; clear hb))
    go_ret
    exact ⟨rfl, HB⟩
set_option maxRecDepth 100000 in
theorem cipherMatchesSpec_lifted (os : Os) (started : os.Started) (H : Type) (enc : TypeId × Value → H) :
    ReturnsInHanded {} Try.checked os 3 .any (Rows.cipherMatchesSpecSpec.pre6 enc Try.prog Try.f3 Rows.cipherMatchesSpecRow.domain false) (Rows.cipherMatchesSpecSpec.post enc Try.prog Try.f3 false true false false) := by
  refine returnsInHanded_of_change (C := Try.checked) Try.own started (by kernel_rfl) Try.func3
    (ChangeSpec.witness6 (enc := enc) (C := Try.checked) false ⟨#[], #[.string ByteArray.empty, .int .u32 0, .string ByteArray.empty], []⟩ 8 (by kernel_rfl) (by kernel_rfl) (by kernel_rfl) (by kernel_rfl)) ?_
  intro W base args ds gs before hval0 hW hcnd _
  have hval : ∀ (j : Nat) t v, Try.f3.params[j]? = some t → args[j]? = some v → Value.okWide Try.prog W .any base t v := hval0
  have hW' := hW
  obtain ⟨p, q, hA0, hV, rfl, hfz, hnd⟩ := hW
  have hA : DataW.TrodAll enc Try.prog W 0 (fun _ => true) true Try.f3.params.toList args.toList ds p := hA0
  rw [Try.params3] at hA hval
  obtain ⟨v0, vs0, d0, ds0, p0, q0, hargs, rfl, rfl, h0, r0⟩ := trodAll_cons hA
  obtain ⟨v1, vs1, d1, ds1, p1, q1, rfl, rfl, rfl, h1, r1⟩ := trodAll_cons r0
  obtain ⟨v2, vs2, d2, ds2, p2, q2, rfl, rfl, rfl, h2, r2⟩ := trodAll_cons r1
  obtain ⟨rfl, rfl, rfl⟩ := trodAll_nil r2
  obtain rfl : args = #[v0, v1, v2] := by cases args; simp_all
  obtain ⟨rfl, rfl⟩ := trodVars_none hV
  obtain ⟨a0, rfl, rfl, rfl, w0⟩ := open_string Try.underlying9 (hval 0 9 v0 rfl rfl) h0
  obtain ⟨a1, rfl, rfl, rfl, w1⟩ := open_int Try.underlying22 (hval 1 22 v1 rfl rfl) h1
  obtain ⟨a2, rfl, rfl, rfl, w2⟩ := open_string Try.underlying9 (hval 2 9 v2 rfl rfl) h2
  clear hA0 hval0
  refine (cipherMatchesSpec_walk a0 a1 a2 w0 w1 w2 W).mono fun e W' ⟨he, bel⟩ => ?_
  subst he
  exact ⟨_, rfl, _, _, _, [], _, [], hW', trodAll_mk1 (shut_bool Try.underlying4 _), (trodAll_cons_mk (shut_string Try.underlying9 w0) (trodAll_cons_mk (shut_int Try.underlying22 w1) (trodAll_cons_mk (shut_string Try.underlying9 w2) trodAll_mk0))), rfl, bel.frame _, fun h => by cases h⟩
theorem CipherMatchesSpec_proved : Rows.CipherMatchesSpecSaid :=
  OpenClaim.holds_of_wide 3 Try.f3 rfl rfl rfl rfl rfl rfl rfl ⟨rfl, rfl, rfl, rfl, rfl⟩ rfl rfl rfl rfl rfl (by kernel_rfl) Try.func3 (by kernel_rfl)
    (of_decide_eq_true (by kernel_rfl)) (by unfold Func.isWrapper; first | (rw [if_pos (by decide +kernel)]; kernel_rfl) | (rw [if_neg (by decide +kernel)]; exact ⟨rfl, rfl⟩))
    (fun os started H enc _ => cipherMatchesSpec_lifted os started H enc)

end Go.Proofs.Ytbkkffdgkkcbfaa
