/- The law holds for every input. -/
import Derived.Test.YtbkkffdgkkcbfaaFrame
import Derived.Test.YtbkkffdgkkcbfaaCipherS
import Derived.Test.YtbkkffdgkkcbfaaPureC3b
namespace Go.Proofs.Ytbkkffdgkkcbfaa
open Go.ChangeShapes Go.WideShapes Go.ChangeAt Go.RowKit
open Go.ChangeMaps (open_string shut_string)
set_option linter.unusedSimpArgs false
set_option linter.unusedVariables false

set_option maxRecDepth 100000 in
set_option maxHeartbeats 2000000 in
theorem cipherPrefix_walk (a0 : ByteArray) (a1 : Int) (a2 : ByteArray) (a3 : ByteArray) (a4 : ByteArray) (a5 : Int) (w0 : a0.size ≤ maxLen) (w1 : (Lit.int .u32 a1).wf = true) (w2 : a2.size ≤ maxLen) (w3 : a3.size ≤ maxLen) (w4 : a4.size ≤ maxLen) (w5 : (Lit.int .i64 a5).wf = true) (w : World) :
    Calls Try.prog 8 #[.string a0, .int .u32 a1, .string a2, .string a3, .string a4, .int .i64 a5] w fun e w' => e = .returned (.bool true) ∧ Below w.heap.size w w' := by
  obtain ⟨key, rfl⟩ := str_of a0
  obtain ⟨nonce, rfl⟩ := str_of a2
  obtain ⟨ta, rfl⟩ := str_of a3
  obtain ⟨tb, rfl⟩ := str_of a4
  obtain ⟨c, rfl⟩ := u32_of w1
  have w3' : ta.length ≤ maxLen := w3
  have w4' : tb.length ≤ maxLen := w4
  unfold maxLen at w3' w4'
  obtain ⟨n1, n2⟩ := i64_of w5
  clear w0 w1 w2 w3 w4 w5
  have HB := Below.refl w.heap.size w
  by_cases ht : 2000 < ta.length
  · have ht' : (2000 : Int) < ta.length := by omega
    go_enter Try.func8, Try.ntmps8
    go_wp2_with (first
      | (go_at_call 13; refine (sanity_c _).mono ?_; rintro e w1 ⟨rfl, hb⟩; replace HB := HB.trans (hb.mono HB.size); clear hb))
    go_ret
    exact ⟨rfl, HB⟩
  by_cases hne : ¬ ta.length = tb.length
  · have ht' : ¬ (2000 : Int) < ta.length := by omega
    have hne' : ((ta.length : Int) == (tb.length : Int)) = false := by rw [beq_eq_false_iff_ne]; omega
    go_enter Try.func8, Try.ntmps8
    go_wp2_with (first
      | (go_at_call 13; refine (sanity_c _).mono ?_; rintro e w1 ⟨rfl, hb⟩; replace HB := HB.trans (hb.mono HB.size); clear hb))
    go_ret
    exact ⟨rfl, HB⟩
  by_cases hn0 : a5 < 0
  · have ht' : ¬ (2000 : Int) < ta.length := by omega
    have hne' : ((ta.length : Int) == (tb.length : Int)) = true := by rw [beq_iff_eq]; omega
    go_enter Try.func8, Try.ntmps8
    go_wp2_with (first
      | (go_at_call 13; refine (sanity_c _).mono ?_; rintro e w1 ⟨rfl, hb⟩; replace HB := HB.trans (hb.mono HB.size); clear hb))
    go_ret
    exact ⟨rfl, HB⟩
  by_cases hn1 : (ta.length : Int) < a5
  · have ht' : ¬ (2000 : Int) < ta.length := by omega
    have hne' : ((ta.length : Int) == (tb.length : Int)) = true := by rw [beq_iff_eq]; omega
    go_enter Try.func8, Try.ntmps8
    go_wp2_with (first
      | (go_at_call 13; refine (sanity_c _).mono ?_; rintro e w1 ⟨rfl, hb⟩; replace HB := HB.trans (hb.mono HB.size); clear hb))
    go_ret
    exact ⟨rfl, HB⟩
  have ht' : ¬ (2000 : Int) < ta.length := by omega
  obtain ⟨n, rfl⟩ := Int.eq_ofNat_of_zero_le (by omega : 0 ≤ a5)
  have hnl : n ≤ ta.length := by omega
  have hne' : ((ta.length : Int) == (tb.length : Int)) = true := by rw [beq_iff_eq]; omega
  have hab : tb.length = ta.length := by omega
  cases hok : C3.okArgs key nonce with
  | false =>
    have HO := Lib.hid hok
    clear hok
    go_enter Try.func8, Try.ntmps8
    go_wp2_with (first
      | (go_at_call 17; refine (xor_no key nonce _ _ HO.out _).mono ?_; rintro e w1 ⟨rfl, hb⟩; replace HB := HB.trans (hb.mono HB.size); clear hb)
      | (go_at_call 13; refine (sanity_c _).mono ?_; rintro e w1 ⟨rfl, hb⟩; replace HB := HB.trans (hb.mono HB.size); clear hb))
    go_ret
    exact ⟨rfl, HB⟩
  | true =>
    obtain ⟨hk, hnn⟩ := ok_iff key nonce hok
    have hx := fun w => xor_c key nonce ta c hk hnn (by omega) w
    have hy := fun w => xor_c key nonce tb c hk hnn (by omega) w
    have hz := fun w => xor_c key nonce (ta.take n) c hk hnn (by rw [List.length_take]; omega) w
    have hlx := C3.length_xorText key c nonce ta
    have hly := C3.length_xorText key c nonce tb
    have hd := fun i => C3.xorText_diff key c nonce ta tb i
    rw [← C3.xorText_take] at hz
    generalize C3.xorText key c nonce ta = X at hx hz hlx hd
    generalize C3.xorText key c nonce tb = Y at hy hly hd
    have hly' : ((Y.length : Int) == (ta.length : Int)) = true := by rw [beq_iff_eq]; omega
    have hlx' : ((X.length : Int) == (ta.length : Int)) = true := by rw [beq_iff_eq]; omega
    have HX := Lib.hid hx
    have HY := Lib.hid hy
    have HZ := Lib.hid hz
    have HD := Lib.hid hd
    clear hx hy hz hok hk hnn hd
    have tok1 : True := trivial
    have tok2 : True := trivial
    go_enter Try.func8, Try.ntmps8
    go_wp2_with (first
      | (go_at_call 17; have _t := tok1; refine (HX.out _).mono ?_; rintro e w1 ⟨rfl, hb⟩; replace HB := HB.trans (hb.mono HB.size); clear hb tok1)
      | (go_at_call 17; have _t := tok2; refine (HY.out _).mono ?_; rintro e w1 ⟨rfl, hb⟩; replace HB := HB.trans (hb.mono HB.size); clear hb tok2)
      | (go_at_call 17; refine (HZ.out _).mono ?_; rintro e w1 ⟨rfl, hb⟩; replace HB := HB.trans (hb.mono HB.size); clear hb)
      | (go_at_call 13; refine (sanity_c _).mono ?_; rintro e w1 ⟨rfl, hb⟩; replace HB := HB.trans (hb.mono HB.size); clear hb))
    go_loopw [19] (fun i wr => ∃ k : Nat, k ≤ ta.length ∧ i = .int .i64 k ∧ Below w.heap.size w wr) (fun i _ => ta.length - (intOf i).toNat)
    case atStart => exact ⟨0, by omega, rfl, HB⟩
    case round =>
      clear HB
      obtain ⟨k, hkl, rfl, HB⟩ := hrel
      by_cases hlt : k < ta.length
      · have h1 : (k : Int) < X.length := by omega
        have h2 : (k : Int) < Y.length := by omega
        have h3 : (k : Int) < tb.length := by omega
        have h4 : (k : Int) < ta.length := by omega
        have h1' : k < X.length := by omega
        have h2' : k < Y.length := by omega
        have h3' : k < tb.length := by omega
        have hdk : (B8 (byteAt X k ^^^ byteAt Y k) != B8 (byteAt ta k ^^^ byteAt tb k)) = false := by rw [show byteAt X k ^^^ byteAt Y k = byteAt ta k ^^^ byteAt tb k from HD.out k (by omega) (by omega)]; simp
        have HL := Lib.hid hlt
        go_wp2
        first | refine all0 (by kernel_rfl) (by kernel_rfl) ?_ | refine allD (by kernel_rfl) (by kernel_rfl) ?_
        repeat (go_big_quiet_step (fail))
        refine wpQuiet_nil ?_
        rintro _ ⟨nq, rfl⟩
        go_wp2
        go_roundw
        case rel => exact ⟨k + 1, HL.out, by go_num, below_drewN _ HB⟩
        case measure => have := HL.out; simp [intOf]; omega
      · go_wp2_with (first
          | (go_at_call 13; refine (sanity_c _).mono ?_; rintro e w1 ⟨rfl, hb⟩; replace HB := HB.trans (hb.mono HB.size); clear hb))
        go_ret
        exact ⟨rfl, HB⟩
set_option maxRecDepth 100000 in
theorem cipherPrefix_lifted (os : Os) (started : os.Started) (H : Type) (enc : TypeId × Value → H) :
    ReturnsInHanded {} Try.checked os 8 .any (Rows.cipherPrefixSpec.pre6 enc Try.prog Try.f8 Rows.cipherPrefixRow.domain false) (Rows.cipherPrefixSpec.post enc Try.prog Try.f8 false true false false) := by
  refine returnsInHanded_of_change (C := Try.checked) Try.own started (by kernel_rfl) Try.func8
    (ChangeSpec.witness6 (enc := enc) (C := Try.checked) false ⟨#[], #[.string ByteArray.empty, .int .u32 0, .string ByteArray.empty, .string ByteArray.empty, .string ByteArray.empty, .int .i64 0], []⟩ 8 (by kernel_rfl) (by kernel_rfl) (by kernel_rfl) (by kernel_rfl)) ?_
  intro W base args ds gs before hval0 hW hcnd _
  have hval : ∀ (j : Nat) t v, Try.f8.params[j]? = some t → args[j]? = some v → Value.okWide Try.prog W .any base t v := hval0
  have hW' := hW
  obtain ⟨p, q, hA0, hV, rfl, hfz, hnd⟩ := hW
  have hA : DataW.TrodAll enc Try.prog W 0 (fun _ => true) true Try.f8.params.toList args.toList ds p := hA0
  rw [Try.params8] at hA hval
  obtain ⟨v0, vs0, d0, ds0, p0, q0, hargs, rfl, rfl, h0, r0⟩ := trodAll_cons hA
  obtain ⟨v1, vs1, d1, ds1, p1, q1, rfl, rfl, rfl, h1, r1⟩ := trodAll_cons r0
  obtain ⟨v2, vs2, d2, ds2, p2, q2, rfl, rfl, rfl, h2, r2⟩ := trodAll_cons r1
  obtain ⟨v3, vs3, d3, ds3, p3, q3, rfl, rfl, rfl, h3, r3⟩ := trodAll_cons r2
  obtain ⟨v4, vs4, d4, ds4, p4, q4, rfl, rfl, rfl, h4, r4⟩ := trodAll_cons r3
  obtain ⟨v5, vs5, d5, ds5, p5, q5, rfl, rfl, rfl, h5, r5⟩ := trodAll_cons r4
  obtain ⟨rfl, rfl, rfl⟩ := trodAll_nil r5
  obtain rfl : args = #[v0, v1, v2, v3, v4, v5] := by cases args; simp_all
  obtain ⟨rfl, rfl⟩ := trodVars_none hV
  obtain ⟨a0, rfl, rfl, rfl, w0⟩ := open_string Try.underlying9 (hval 0 9 v0 rfl rfl) h0
  obtain ⟨a1, rfl, rfl, rfl, w1⟩ := open_int Try.underlying22 (hval 1 22 v1 rfl rfl) h1
  obtain ⟨a2, rfl, rfl, rfl, w2⟩ := open_string Try.underlying9 (hval 2 9 v2 rfl rfl) h2
  obtain ⟨a3, rfl, rfl, rfl, w3⟩ := open_string Try.underlying9 (hval 3 9 v3 rfl rfl) h3
  obtain ⟨a4, rfl, rfl, rfl, w4⟩ := open_string Try.underlying9 (hval 4 9 v4 rfl rfl) h4
  obtain ⟨a5, rfl, rfl, rfl, w5⟩ := open_int Try.underlying3 (hval 5 3 v5 rfl rfl) h5
  clear hA0 hval0
  refine (cipherPrefix_walk a0 a1 a2 a3 a4 a5 w0 w1 w2 w3 w4 w5 W).mono fun e W' ⟨he, bel⟩ => ?_
  subst he
  exact ⟨_, rfl, _, _, _, [], _, [], hW', trodAll_mk1 (shut_bool Try.underlying4 _), (trodAll_cons_mk (shut_string Try.underlying9 w0) (trodAll_cons_mk (shut_int Try.underlying22 w1) (trodAll_cons_mk (shut_string Try.underlying9 w2) (trodAll_cons_mk (shut_string Try.underlying9 w3) (trodAll_cons_mk (shut_string Try.underlying9 w4) (trodAll_cons_mk (shut_int Try.underlying3 w5) trodAll_mk0)))))), rfl, bel.frame _, fun h => by cases h⟩
theorem CipherPrefix_proved : Rows.CipherPrefixSaid :=
  OpenClaim.holds_of_wide 8 Try.f8 rfl rfl rfl rfl rfl rfl rfl ⟨rfl, rfl, rfl, rfl, rfl⟩ rfl rfl rfl rfl rfl (by kernel_rfl) Try.func8 (by kernel_rfl)
    (of_decide_eq_true (by kernel_rfl)) (by unfold Func.isWrapper; first | (rw [if_pos (by decide +kernel)]; kernel_rfl) | (rw [if_neg (by decide +kernel)]; exact ⟨rfl, rfl⟩))
    (fun os started H enc _ => cipherPrefix_lifted os started H enc)

end Go.Proofs.Ytbkkffdgkkcbfaa
