/- The law FieldHides holds for every input. -/
import Derived.Test.YtbkkffdgkkcbfabFieldV
namespace Go.Proofs.Ytbkkffdgkkcbfab
open Go.ChangeShapes Go.WideShapes Go.ChangeAt Go.RowKit F6
open Go.ChangeMaps (open_string shut_string)
set_option linter.unusedSimpArgs false
set_option linter.unusedVariables false
attribute [local irreducible] mul ev pp wt wts isum interp coef div inverse errB B8 Calls wtsX errW intX coefX errI vals psum turn kn hp
set_option maxRecDepth 100000 in
set_option maxHeartbeats 2000000 in
theorem fieldHides_walk (v0 : Value) (a0 : List UInt8) (v1 : Value) (a1 : List UInt8) (a2 : UInt8) (a3 : UInt8) (a4 : UInt8) (w : World) (w0 : RdB w v0 a0) (w1 : RdB w v1 a1) :
    Calls Try.prog 8 #[v0, v1, .int .u8 (B8 a2), .int .u8 (B8 a3), .int .u8 (B8 a4)] w fun e w' => e = .returned (.bool true) ∧ Below w.heap.size w w' := by
  have HB := Below.refl w.heap.size w
  have hfq := few_q v0 v1 a0 a1 w w0 w1
  by_cases hf : a0.length ≤ 40 ∧ a1.length ≤ 40
  · rw [decide_eq_true hf] at hfq
    have HF := Lib.hid hfq
    clear hfq
    by_cases hl : a0.length = a1.length
    · have hne : ((a0.length : Int) == a1.length) = true := by rw [beq_iff_eq]; omega
      have hne2 : ((a0.length : Int) != a1.length) = false := by rw [bne, hne]; rfl
      have hn40 := hf.1
      have hn41 := hf.2
      have HL := Lib.hid hl
      have HL2 : ∀ c d : UInt8, (c :: a0).length = (d :: a1).length := fun c d => by rw [List.length_cons, List.length_cons, HL.out]
      have HL3 := Lib.hid HL2
      have HX := w0
      have HY := w1
      have HZX : Hid (([0] : List UInt8).length + a0.length ≤ 1000000000) := Lib.hid (by simp; omega)
      have HZY : Hid (∀ c : UInt8, [c].length + a1.length ≤ 1000000000) := Lib.hid (fun c => by simp; omega)
      clear hl hf HL2
      obtain ⟨b0, cap0, rfl, _, _, hcells0⟩ := w0
      obtain ⟨b1, cap1, rfl, _, _, hcells1⟩ := w1
      by_cases hok : okX (0 :: a0) = true
      · have HOK := Lib.hid hok
        have HLP := Lib.hid (hp_len a0 a1 a2)
        have HLQ := Lib.hid (hp_len a0 a1 a3)
        have H0P := Lib.hid (hp_0 a0 a1 a2 hok)
        have H0Q := Lib.hid (hp_0 a0 a1 a3 hok)
        clear hok
        go_enter Try.func8, Try.ntmps8
        go_wp2_with (first
          | (go_at_call 16; refine HF.out.mono ?_; rintro e wf ⟨rfl, hwf⟩; rw [hwf]; clear hwf)
          | (at_builtin; refine app_rd rfl (.tmp 32) (.tmp 33) rfl w.heap.size _ [0] rfl (zero_own w) _ a0 rfl (HX.alloc _) HZX.out (by rw [World.size_alloc]; exact Nat.le_succ _) ?_; intro q1 w2 ho hb; have hb2 := ((Below.refl w.heap.size w).alloc (Nat.le_refl _) (.cells #[.int .u8 0] 5)).trans hb; replace HB := HB.trans (hb2.mono HB.size); replace HX := HX.on hb2; replace HY := HY.on hb2; have H1 := ho.rd; clear hb hb2 ho)
          | (at_builtin; refine app_rd rfl (.tmp 36) (.tmp 37) rfl w2.heap.size _ [a2] rfl (b8_own w2 a2) _ a1 rfl (HY.alloc _) (HZY.out a2) (by rw [World.size_alloc]; exact Nat.le_succ _) ?_; intro q2 w3 ho hb; have hb2 := ((Below.refl w2.heap.size w2).alloc (Nat.le_refl _) (.cells #[.int .u8 (B8 a2)] 5)).trans hb; replace HB := HB.trans (hb2.mono HB.size); replace HX := HX.on hb2; replace HY := HY.on hb2; replace H1 := H1.on hb2; have H2 := ho.rd; clear hb hb2 ho)
          | (go_at_call 21; refine (hp_c _ _ _ _ _ _ H1 H2 HOK.out HL.out).mono ?_; rintro e w4 ⟨pa, pc, rfl, HP, hb⟩; replace HB := HB.trans (hb.mono HB.size); replace HX := HX.on hb; replace HY := HY.on hb; clear hb H1 H2)
          | (at_builtin; refine app_rd rfl (.tmp 43) (.tmp 44) rfl w4.heap.size _ [0] rfl (zero_own w4) _ a0 rfl (HX.alloc _) HZX.out (by rw [World.size_alloc]; exact Nat.le_succ _) ?_; intro q3 w5 ho hb; have hb2 := ((Below.refl w4.heap.size w4).alloc (Nat.le_refl _) (.cells #[.int .u8 0] 5)).trans hb; replace HB := HB.trans (hb2.mono HB.size); replace HX := HX.on hb2; replace HY := HY.on hb2; replace HP := HP.on hb2; have H3 := ho.rd; clear hb hb2 ho)
          | (at_builtin; refine app_rd rfl (.tmp 47) (.tmp 48) rfl w5.heap.size _ [a3] rfl (b8_own w5 a3) _ a1 rfl (HY.alloc _) (HZY.out a3) (by rw [World.size_alloc]; exact Nat.le_succ _) ?_; intro q4 w6 ho hb; have hb2 := ((Below.refl w5.heap.size w5).alloc (Nat.le_refl _) (.cells #[.int .u8 (B8 a3)] 5)).trans hb; replace HB := HB.trans (hb2.mono HB.size); replace HX := HX.on hb2; replace HY := HY.on hb2; replace H3 := H3.on hb2; replace HP := HP.on hb2; have H4 := ho.rd; clear hb hb2 ho)
          | (go_at_call 21; refine (hp_c _ _ _ _ _ _ H3 H4 HOK.out HL.out).mono ?_; rintro e w7 ⟨qa, qc, rfl, HQ, hb⟩; replace HB := HB.trans (hb.mono HB.size); replace HX := HX.on hb; replace HY := HY.on hb; replace HP := HP.on hb; clear hb H3 H4)
          | (go_at_call 23; refine (eval_z _ _ _ HP).mono ?_; rintro e w8 ⟨rfl, hb⟩; rw [H0P.out]; replace HB := HB.trans (hb.mono HB.size); replace HX := HX.on hb; replace HY := HY.on hb; replace HP := HP.on hb; replace HQ := HQ.on hb; clear hb)
          | (go_at_call 23; refine (eval_z _ _ _ HQ).mono ?_; rintro e w9 ⟨rfl, hb⟩; rw [H0Q.out]; replace HB := HB.trans (hb.mono HB.size); replace HX := HX.on hb; replace HY := HY.on hb; replace HP := HP.on hb; replace HQ := HQ.on hb; clear hb))
        have HN := Lib.hid hn40
        go_loopw [16, 17] (fun kv i wr => ∃ j : Nat, j ≤ a0.length ∧ i = .int .i64 j ∧ kv = .bool (kn a0 a4 j) ∧ ∃ m, wr = w9.drewN m) (fun _ i _ => a0.length - (intOf i).toNat)
        case atStart => exact ⟨0, Nat.zero_le _, rfl, by rw [kn_zero], 0, rfl⟩
        case round =>
          obtain ⟨j, hj, rfl, rfl, m, rfl⟩ := hrel
          by_cases hlt : j < a0.length
          · obtain ⟨bx, ox, rfl, _, hcx⟩ := (rd_cells HX) (by omega)
            obtain ⟨by', oy, rfl, _, hcy⟩ := (rd_cells HY) (by have := HL.out; omega)
            have c1 := hcx j hlt
            have c2 := hcy j (by have := HL.out; omega)
            have i1 : (j : Int) < a0.length := by omega
            have i2 : (j : Int) < a1.length := by have := HL.out; omega
            have i3 : j < a1.length := by have := HL.out; omega
            have n1 : (B8 (ev (hp a0 a1 a2) (byteAt a0 j)) != B8 (byteAt a1 j)) = false := by rw [hp_at a0 a1 a2 HOK.out j hlt]; simp
            have n2 : (B8 (ev (hp a0 a1 a3) (byteAt a0 j)) != B8 (byteAt a1 j)) = false := by rw [hp_at a0 a1 a3 HOK.out j hlt]; simp
            have HS := Lib.hid (kn_succ a0 a4 j hlt)
            have HK := Lib.hid hlt
            have HPH := Lib.hid HP
            have HQH := Lib.hid HQ
            clear hcx hcy HX HY HP HQ HB
            rcases Bool.eq_false_or_eq_true (kn a0 a4 j) with hkn | hkn
            all_goals
              have HKN := Lib.hid hkn
              rw [hkn]
              clear hkn
              go_wp2
              first | refine allD (by kernel_rfl) (by kernel_rfl) ?_ | refine all0 (by kernel_rfl) (by kernel_rfl) ?_
              repeat (go_big_quiet_step (first
                | (go_at_call 23; exact Calls.quiet_of (eval_c _ _ _ _ (HPH.out.drew _)))
                | (go_at_call 23; exact Calls.quiet_of (eval_c _ _ _ _ (HQH.out.drew _)))))
              refine wpQuiet_nil ?_
              rintro _ ⟨nq, rfl⟩
              go_wp2
              go_roundw
              case rel => exact ⟨j + 1, HK.out, by go_num, by rw [HS.out, HKN.out]; rfl, _, rfl⟩
              case measure => have := HK.out; simp [intOf]; omega
          · have he : j = a0.length := by omega
            have i1 : (a0.length : Int) ≤ j := by omega
            replace HB := below_drewN m HB
            replace HP := HP.drew m
            replace HQ := HQ.drew m
            have s1 : ((B8 a2 == B8 a3) == (B8 a2 == B8 a3)) = true := beq_self_eq_true _
            rcases Bool.eq_false_or_eq_true (kn a0 a4 a0.length) with hkn | hkn
            · have r1 := hides_in a0 a1 a2 a3 a4 HOK.out hkn
              rw [he, hkn]
              clear hkn he hlt hj HX HY
              go_wp2_with (first
                | (go_at_call 13; refine (sanity_c _).mono ?_; rintro e w10 ⟨rfl, hb⟩; replace HB := HB.trans (hb.mono HB.size); replace HP := HP.on hb; replace HQ := HQ.on hb; clear hb)
                | (go_at_call 23; refine (eval_b _ _ _ _ HP).mono ?_; rintro e w11 ⟨rfl, hb⟩; replace HB := HB.trans (hb.mono HB.size); replace HP := HP.on hb; replace HQ := HQ.on hb; clear hb)
                | (go_at_call 23; refine (eval_b _ _ _ _ HQ).mono ?_; rintro e w12 ⟨rfl, hb⟩; replace HB := HB.trans (hb.mono HB.size); clear hb))
              go_ret
              exact ⟨rfl, HB⟩
            · have r1 := hides_out a0 a1 a2 a3 a4 HOK.out hkn
              rw [he, hkn]
              clear hkn he hlt hj HX HY
              go_wp2_with (first
                | (go_at_call 13; refine (sanity_c _).mono ?_; rintro e w10 ⟨rfl, hb⟩; replace HB := HB.trans (hb.mono HB.size); replace HP := HP.on hb; replace HQ := HQ.on hb; clear hb)
                | (go_at_call 23; refine (eval_b _ _ _ _ HP).mono ?_; rintro e w11 ⟨rfl, hb⟩; replace HB := HB.trans (hb.mono HB.size); replace HP := HP.on hb; replace HQ := HQ.on hb; clear hb)
                | (go_at_call 23; refine (eval_b _ _ _ _ HQ).mono ?_; rintro e w12 ⟨rfl, hb⟩; replace HB := HB.trans (hb.mono HB.size); clear hb))
              go_ret
              exact ⟨rfl, HB⟩
      · have HOK := Lib.hid (Bool.eq_false_iff.2 hok)
        clear hok
        go_enter Try.func8, Try.ntmps8
        go_wp2_with (first
          | (go_at_call 16; refine HF.out.mono ?_; rintro e wf ⟨rfl, hwf⟩; rw [hwf]; clear hwf)
          | (at_builtin; refine app_rd rfl (.tmp 32) (.tmp 33) rfl w.heap.size _ [0] rfl (zero_own w) _ a0 rfl (HX.alloc _) HZX.out (by rw [World.size_alloc]; exact Nat.le_succ _) ?_; intro q1 w2 ho hb; have hb2 := ((Below.refl w.heap.size w).alloc (Nat.le_refl _) (.cells #[.int .u8 0] 5)).trans hb; replace HB := HB.trans (hb2.mono HB.size); replace HX := HX.on hb2; replace HY := HY.on hb2; have H1 := ho.rd; clear hb hb2 ho)
          | (at_builtin; refine app_rd rfl (.tmp 36) (.tmp 37) rfl w2.heap.size _ [a2] rfl (b8_own w2 a2) _ a1 rfl (HY.alloc _) (HZY.out a2) (by rw [World.size_alloc]; exact Nat.le_succ _) ?_; intro q2 w3 ho hb; have hb2 := ((Below.refl w2.heap.size w2).alloc (Nat.le_refl _) (.cells #[.int .u8 (B8 a2)] 5)).trans hb; replace HB := HB.trans (hb2.mono HB.size); replace HX := HX.on hb2; replace HY := HY.on hb2; replace H1 := H1.on hb2; have H2 := ho.rd; clear hb hb2 ho)
          | (go_at_call 21; refine (hp_c0 _ _ _ _ _ _ H1 H2 HOK.out).mono ?_; rintro e w4 ⟨rfl, hb⟩; replace HB := HB.trans (hb.mono HB.size); replace HX := HX.on hb; replace HY := HY.on hb; clear hb H1 H2)
          | (at_builtin; refine app_rd rfl (.tmp 43) (.tmp 44) rfl w4.heap.size _ [0] rfl (zero_own w4) _ a0 rfl (HX.alloc _) HZX.out (by rw [World.size_alloc]; exact Nat.le_succ _) ?_; intro q3 w5 ho hb; have hb2 := ((Below.refl w4.heap.size w4).alloc (Nat.le_refl _) (.cells #[.int .u8 0] 5)).trans hb; replace HB := HB.trans (hb2.mono HB.size); replace HX := HX.on hb2; replace HY := HY.on hb2; have H3 := ho.rd; clear hb hb2 ho)
          | (at_builtin; refine app_rd rfl (.tmp 47) (.tmp 48) rfl w5.heap.size _ [a3] rfl (b8_own w5 a3) _ a1 rfl (HY.alloc _) (HZY.out a3) (by rw [World.size_alloc]; exact Nat.le_succ _) ?_; intro q4 w6 ho hb; have hb2 := ((Below.refl w5.heap.size w5).alloc (Nat.le_refl _) (.cells #[.int .u8 (B8 a3)] 5)).trans hb; replace HB := HB.trans (hb2.mono HB.size); replace HX := HX.on hb2; replace HY := HY.on hb2; replace H3 := H3.on hb2; have H4 := ho.rd; clear hb hb2 ho)
          | (go_at_call 21; refine (hp_c0 _ _ _ _ _ _ H3 H4 HOK.out).mono ?_; rintro e w7 ⟨rfl, hb⟩; replace HB := HB.trans (hb.mono HB.size); clear hb H3 H4)
          | (go_at_call 13; refine (sanity_c _).mono ?_; rintro e w7 ⟨rfl, hb⟩; replace HB := HB.trans (hb.mono HB.size); clear hb))
        go_ret
        exact ⟨rfl, HB⟩
    · have hne : ((a0.length : Int) == a1.length) = false := by rw [beq_eq_false_iff_ne]; omega
      have hne2 : ((a0.length : Int) != a1.length) = true := by rw [bne, hne]; rfl
      obtain ⟨b0, cap0, rfl, _, _, _⟩ := w0
      obtain ⟨b1, cap1, rfl, _, _, _⟩ := w1
      clear hl hf
      go_enter Try.func8, Try.ntmps8
      go_wp2_with (first
        | (go_at_call 16; refine HF.out.mono ?_; rintro e _ ⟨rfl, rfl⟩)
        | (go_at_call 13; refine (sanity_c _).mono ?_; rintro e w7 ⟨rfl, hb⟩; replace HB := HB.trans (hb.mono HB.size); clear hb))
      go_ret
      exact ⟨rfl, HB⟩
  · rw [decide_eq_false hf] at hfq
    have HF := Lib.hid hfq
    clear hfq hf w0 w1
    go_enter Try.func8, Try.ntmps8
    go_wp2_with (first
      | (go_at_call 16; refine HF.out.mono ?_; rintro e _ ⟨rfl, rfl⟩)
      | (go_at_call 13; refine (sanity_c _).mono ?_; rintro e w7 ⟨rfl, hb⟩; replace HB := HB.trans (hb.mono HB.size); clear hb))
    go_ret
    exact ⟨rfl, HB⟩
set_option maxRecDepth 100000 in
theorem fieldHides_lifted (os : Os) (started : os.Started) (H : Type) (enc : TypeId × Value → H) :
    ReturnsInHanded {} Try.checked os 8 .any (Rows.fieldHidesSpec.pre6 enc Try.prog Try.f8 Rows.fieldHidesRow.domain false) (Rows.fieldHidesSpec.post enc Try.prog Try.f8 false true false false) := by
  refine returnsInHanded_of_change (C := Try.checked) Try.own started (by kernel_rfl) Try.func8
    (ChangeSpec.witness6 (enc := enc) (C := Try.checked) false ⟨#[], #[.slice none 0 0, .slice none 0 0, .int .u8 0, .int .u8 0, .int .u8 0], []⟩ 8 (by kernel_rfl) (by kernel_rfl) (by kernel_rfl) (by kernel_rfl)) ?_
  intro W base args ds gs before hval0 hW hcnd _
  have hval : ∀ (j : Nat) t v, Try.f8.params[j]? = some t → args[j]? = some v → Value.okWide Try.prog W .any base t v := hval0
  have hW' := hW
  obtain ⟨p, q, hA0, hV, rfl, hfz, hnd⟩ := hW
  have hA : DataW.TrodAll enc Try.prog W 0 (fun _ => true) true Try.f8.params.toList args.toList ds p := hA0
  rw [Try.params8] at hA hval
  obtain ⟨v0, vs0, d0, ds0, p0, q0, hargs, rfl, rfl, h0, r0⟩ := trodAll_cons hA
  obtain ⟨v1, vs1, d1, ds1, p1, q1, rfl, rfl, rfl, h1, r1⟩ := trodAll_cons r0
  obtain ⟨v2, vs2, d2, ds2, p2, q2, rfl, rfl, rfl, h2, r2⟩ := trodAll_cons r1
  obtain ⟨v3, vs3, d3, ds3, p3, q3, rfl, rfl, rfl, h3, r3⟩ := trodAll_cons r2
  obtain ⟨v4, vs4, d4, ds4, p4, q4, rfl, rfl, rfl, h4, r4⟩ := trodAll_cons r3
  obtain ⟨rfl, rfl, rfl⟩ := trodAll_nil r4
  obtain rfl : args = #[v0, v1, v2, v3, v4] := by cases args; simp_all
  obtain ⟨rfl, rfl⟩ := trodVars_none hV
  have k0 := h0
  have lt0 : ∀ x ∈ p0, x.block < W.heap.size := by obtain ⟨m, hm⟩ := k0; exact DataW.trod_lt m _ _ _ hm
  have k1 := h1
  have lt1 : ∀ x ∈ p1, x.block < W.heap.size := by obtain ⟨m, hm⟩ := k1; exact DataW.trod_lt m _ _ _ hm
  obtain ⟨a0, w0⟩ := open_b (hval 0 30 v0 rfl rfl) h0
  obtain ⟨a1, w1⟩ := open_b (hval 1 30 v1 rfl rfl) h1
  obtain ⟨z2, rfl, rfl, rfl, w2⟩ := open_int Try.underlying5 (hval 2 5 v2 rfl rfl) h2
  obtain ⟨a2, rfl⟩ := u8_of w2
  obtain ⟨z3, rfl, rfl, rfl, w3⟩ := open_int Try.underlying5 (hval 3 5 v3 rfl rfl) h3
  obtain ⟨a3, rfl⟩ := u8_of w3
  obtain ⟨z4, rfl, rfl, rfl, w4⟩ := open_int Try.underlying5 (hval 4 5 v4 rfl rfl) h4
  obtain ⟨a4, rfl⟩ := u8_of w4
  clear hA0 hval0
  refine (fieldHides_walk v0 a0 v1 a1 a2 a3 a4 W w0 w1).mono fun e W' ⟨he, bel⟩ => ?_
  subst he
  exact ⟨_, rfl, _, _, _, [], _, [], hW', trodAll_mk1 (shut_bool Try.underlying4 _), (trodAll_cons_mk (Below.trod Try.laidOut (by kernel_rfl) (of_decide_eq_true (by kernel_rfl)) k0 bel lt0) (trodAll_cons_mk (Below.trod Try.laidOut (by kernel_rfl) (of_decide_eq_true (by kernel_rfl)) k1 bel lt1) (trodAll_cons_mk (shut_int Try.underlying5 w2) (trodAll_cons_mk (shut_int Try.underlying5 w3) (trodAll_cons_mk (shut_int Try.underlying5 w4) trodAll_mk0))))), rfl, bel.frame _, fun h => by cases h⟩
theorem FieldHides_proved : Rows.FieldHidesSaid :=
  OpenClaim.holds_of_wide 8 Try.f8 rfl rfl rfl rfl rfl rfl rfl ⟨rfl, rfl, rfl, rfl, rfl⟩ rfl rfl rfl rfl rfl (by kernel_rfl) Try.func8 (by kernel_rfl)
    (of_decide_eq_true (by kernel_rfl)) (by unfold Func.isWrapper; first | (rw [if_pos (by decide +kernel)]; kernel_rfl) | (rw [if_neg (by decide +kernel)]; exact ⟨rfl, rfl⟩))
    (fun os started H enc _ => fieldHides_lifted os started H enc)

end Go.Proofs.Ytbkkffdgkkcbfab
