/- The law FieldInterpolates holds for every input. -/
import Derived.Test.YtbkkffdgkkcbfabFieldT
namespace Go.Proofs.Ytbkkffdgkkcbfab
open Go.ChangeShapes Go.WideShapes Go.ChangeAt Go.RowKit F6
open Go.ChangeMaps (open_string shut_string)
set_option linter.unusedSimpArgs false
set_option linter.unusedVariables false
attribute [local irreducible] mul ev pp wt wts isum interp coef div inverse errB B8 Calls wtsX errW intX coefX errI vals
set_option maxRecDepth 100000 in
set_option maxHeartbeats 2000000 in
theorem fieldInterpolates_walk (v0 : Value) (a0 : List UInt8) (v1 : Value) (a1 : List UInt8) (a2 : UInt8) (w : World) (w0 : RdB w v0 a0) (w1 : RdB w v1 a1) :
    Calls Try.prog 6 #[v0, v1, .int .u8 (B8 a2)] w fun e w' => e = .returned (.bool true) ∧ Below w.heap.size w w' := by
  have HB := Below.refl w.heap.size w
  have s1 : (a0 == a0) = true := beq_self_eq_true _
  have hfq := few_q v0 v1 a0 a1 w w0 w1
  by_cases hf : a0.length ≤ 40 ∧ a1.length ≤ 40
  · rw [decide_eq_true hf] at hfq
    have HF := Lib.hid hfq
    clear hfq
    by_cases hl : a0.length = a1.length
    · have hne : ((a0.length : Int) == a1.length) = true := by rw [beq_iff_eq]; omega
      have hne2 : ((a0.length : Int) != a1.length) = false := by rw [bne, hne]; rfl
      have hn40 := hf.2
      have HL := Lib.hid hl
      have HX := Lib.hid w0
      have HY := Lib.hid w1
      clear hl hf w0
      obtain ⟨b1, cap1, rfl, _, _, hcells⟩ := w1
      obtain ⟨b0, cap0, hv0, _, _, _⟩ := HX.out
      subst hv0
      go_enter Try.func6, Try.ntmps6
      go_wp2_with (go_at_call 16; refine HF.out.mono ?_; rintro e wf ⟨rfl, hwf⟩; rw [hwf]; clear hwf)
      go_loopw [8, 9] (fun q i wr => ∃ k : Nat, k ≤ a1.length ∧ i = .int .i64 k ∧ OwnB wr w.heap.size q (vals a0 a1 k) ∧ Below w.heap.size w wr) (fun _ i _ => a1.length - (intOf i).toNat)
      case atStart => exact ⟨0, Nat.zero_le _, rfl, by rw [vals_zero]; exact OwnB.nil _ _, Below.refl _ _⟩
      case round =>
        obtain ⟨k, hk, rfl, ho, hb⟩ := hrel
        by_cases hlt : k < a1.length
        · obtain ⟨b, off, rfl, hbl, hc⟩ := hcells (by omega)
          have c1 : wr.cell? ⟨b, off + k, none⟩ = some (.int .u8 (B8 (byteAt a1 k))) := by rw [hb.cell (p := ⟨b, off + k, none⟩) hbl]; exact hc k hlt
          have i1 : (k : Int) < a1.length := by omega
          have hrd := HX.out.on hb
          have hvl := vals_len a0 a1 k hk
          have hbz := hb.size
          have HK := Lib.hid hlt
          have HRD := Lib.hid hrd
          have HVL := Lib.hid hvl
          have HS := Lib.hid (vals_succ a0 a1 k hlt)
          have HBB := Lib.hid hb
          clear hrd hvl hb hcells
          go_wp2_with (first
            | (go_at_call 23; refine (eval_c _ _ _ _ HRD.out).mono ?_; rintro e _ ⟨rfl, n, rfl⟩)
            | (at_builtin; refine app_b rfl (.tmp 33) (.tmp 40) rfl w.heap.size _ _ rfl (OwnB.drew n (World.ownsRow.alloc ho _)) ⟨wr.heap.size, 0, none⟩ 1 1 [ev a0 (byteAt a1 k)] rfl rfl ?h1 ?h2 ?h3 ?h4))
          case h1 =>
            intro j u hj
            exact cell_new _ _ _ _ _ hj
          case h2 => rw [HVL.out]; have := HK.out; omega
          case h3 => simp; omega
          case h4 =>
            intro v' w' ho' hb'
            go_wp2
            go_roundw
            case rel => exact ⟨k + 1, HK.out, by go_num, by rw [HS.out]; exact ho', (below_drewN n (HBB.out.alloc hbz _)).trans hb'⟩
            case measure => have := HK.out; simp [intOf]; omega
        · have he : k = a1.length := by omega
          have i1 : (a1.length : Int) ≤ k := by omega
          rw [he] at ho
          replace HB := hb
          have HP := HX.out.on hb
          have HQ := HY.out.on hb
          have HR := ho.rd
          clear he ho hb
          by_cases hok : okX a1 = true
          · obtain ⟨q1, q2, q3⟩ := interpolates_ok a0 a1 a2 HL.out hok
            have Q2 := Lib.hid q2
            clear q2 hok
            go_wp2_with (first
              | (go_at_call 21; refine (coef_ca _ _ _ _ _ HQ HR).mono ?_; rintro e w5 ⟨u5, rfl, HC, hb⟩; rw [Q2.out] at HC; rw [q1]; replace HB := HB.trans (hb.mono HB.size); replace HP := HP.on hb; replace HQ := HQ.on hb; replace HR := HR.on hb; clear hb)
              | (go_at_call 19; refine (interp_ca _ _ _ _ _ _ HQ HR).mono ?_; rintro e w3 ⟨rfl, hb⟩; rw [q1, q3]; replace HB := HB.trans (hb.mono HB.size); replace HP := HP.on hb; replace HC := HC.on hb; clear hb)
              | (go_at_call 13; refine (sanity_c _).mono ?_; rintro e w7 ⟨rfl, hb⟩; replace HB := HB.trans (hb.mono HB.size); replace HP := HP.on hb; replace HC := HC.on hb; clear hb)
              | (go_at_call 25; refine (same_r _ _ _ _ _ HC HP).mono ?_; rintro e _ ⟨rfl, rfl⟩)
              | (go_at_call 23; refine (eval_c _ _ _ _ HP).mono ?_; rintro e _ ⟨rfl, n, rfl⟩; replace HB := below_drewN n HB))
            go_ret
            exact ⟨rfl, HB⟩
          · obtain ⟨q1, q2, q3⟩ := interpolates_no a0 a1 a2 hok
            have Q2 := Lib.hid q2
            clear q2 hok
            go_wp2_with (first
              | (go_at_call 21; refine (coef_ca _ _ _ _ _ HQ HR).mono ?_; rintro e w5 ⟨u5, rfl, HC, hb⟩; rw [Q2.out] at HC; rw [q1]; obtain ⟨ca, ccap, rfl, _, _, _⟩ := HC; replace HB := HB.trans (hb.mono HB.size); replace HQ := HQ.on hb; replace HR := HR.on hb; clear hb)
              | (go_at_call 19; refine (interp_ca _ _ _ _ _ _ HQ HR).mono ?_; rintro e w3 ⟨rfl, hb⟩; rw [q1]; replace HB := HB.trans (hb.mono HB.size); clear hb)
              | (go_at_call 13; refine (sanity_c _).mono ?_; rintro e w7 ⟨rfl, hb⟩; replace HB := HB.trans (hb.mono HB.size); clear hb))
            go_ret
            exact ⟨rfl, HB⟩
    · have hne : ((a0.length : Int) == a1.length) = false := by rw [beq_eq_false_iff_ne]; omega
      have hne2 : ((a0.length : Int) != a1.length) = true := by rw [bne, hne]; rfl
      obtain ⟨b0, cap0, rfl, _, _, _⟩ := w0
      obtain ⟨b1, cap1, rfl, _, _, _⟩ := w1
      clear hl hf
      go_enter Try.func6, Try.ntmps6
      go_wp2_with (first
        | (go_at_call 16; refine HF.out.mono ?_; rintro e _ ⟨rfl, rfl⟩)
        | (go_at_call 13; refine (sanity_c _).mono ?_; rintro e w7 ⟨rfl, hb⟩; replace HB := HB.trans (hb.mono HB.size); clear hb))
      go_ret
      exact ⟨rfl, HB⟩
  · rw [decide_eq_false hf] at hfq
    have HF := Lib.hid hfq
    clear hfq hf w0 w1
    go_enter Try.func6, Try.ntmps6
    go_wp2_with (first
      | (go_at_call 16; refine HF.out.mono ?_; rintro e _ ⟨rfl, rfl⟩)
      | (go_at_call 13; refine (sanity_c _).mono ?_; rintro e w7 ⟨rfl, hb⟩; replace HB := HB.trans (hb.mono HB.size); clear hb))
    go_ret
    exact ⟨rfl, HB⟩
set_option maxRecDepth 100000 in
theorem fieldInterpolates_lifted (os : Os) (started : os.Started) (H : Type) (enc : TypeId × Value → H) :
    ReturnsInHanded {} Try.checked os 6 .any (Rows.fieldInterpolatesSpec.pre6 enc Try.prog Try.f6 Rows.fieldInterpolatesRow.domain false) (Rows.fieldInterpolatesSpec.post enc Try.prog Try.f6 false true false false) := by
  refine returnsInHanded_of_change (C := Try.checked) Try.own started (by kernel_rfl) Try.func6
    (ChangeSpec.witness6 (enc := enc) (C := Try.checked) false ⟨#[], #[.slice none 0 0, .slice none 0 0, .int .u8 0], []⟩ 8 (by kernel_rfl) (by kernel_rfl) (by kernel_rfl) (by kernel_rfl)) ?_
  intro W base args ds gs before hval0 hW hcnd _
  have hval : ∀ (j : Nat) t v, Try.f6.params[j]? = some t → args[j]? = some v → Value.okWide Try.prog W .any base t v := hval0
  have hW' := hW
  obtain ⟨p, q, hA0, hV, rfl, hfz, hnd⟩ := hW
  have hA : DataW.TrodAll enc Try.prog W 0 (fun _ => true) true Try.f6.params.toList args.toList ds p := hA0
  rw [Try.params6] at hA hval
  obtain ⟨v0, vs0, d0, ds0, p0, q0, hargs, rfl, rfl, h0, r0⟩ := trodAll_cons hA
  obtain ⟨v1, vs1, d1, ds1, p1, q1, rfl, rfl, rfl, h1, r1⟩ := trodAll_cons r0
  obtain ⟨v2, vs2, d2, ds2, p2, q2, rfl, rfl, rfl, h2, r2⟩ := trodAll_cons r1
  obtain ⟨rfl, rfl, rfl⟩ := trodAll_nil r2
  obtain rfl : args = #[v0, v1, v2] := by cases args; simp_all
  obtain ⟨rfl, rfl⟩ := trodVars_none hV
  have k0 := h0
  have lt0 : ∀ x ∈ p0, x.block < W.heap.size := by obtain ⟨m, hm⟩ := k0; exact DataW.trod_lt m _ _ _ hm
  have k1 := h1
  have lt1 : ∀ x ∈ p1, x.block < W.heap.size := by obtain ⟨m, hm⟩ := k1; exact DataW.trod_lt m _ _ _ hm
  obtain ⟨a0, w0⟩ := open_b (hval 0 30 v0 rfl rfl) h0
  obtain ⟨a1, w1⟩ := open_b (hval 1 30 v1 rfl rfl) h1
  obtain ⟨z2, rfl, rfl, rfl, w2⟩ := open_int Try.underlying5 (hval 2 5 v2 rfl rfl) h2
  obtain ⟨a2, rfl⟩ := u8_of w2
  clear hA0 hval0
  refine (fieldInterpolates_walk v0 a0 v1 a1 a2 W w0 w1).mono fun e W' ⟨he, bel⟩ => ?_
  subst he
  exact ⟨_, rfl, _, _, _, [], _, [], hW', trodAll_mk1 (shut_bool Try.underlying4 _), (trodAll_cons_mk (Below.trod Try.laidOut (by kernel_rfl) (of_decide_eq_true (by kernel_rfl)) k0 bel lt0) (trodAll_cons_mk (Below.trod Try.laidOut (by kernel_rfl) (of_decide_eq_true (by kernel_rfl)) k1 bel lt1) (trodAll_cons_mk (shut_int Try.underlying5 w2) trodAll_mk0))), rfl, bel.frame _, fun h => by cases h⟩
theorem FieldInterpolates_proved : Rows.FieldInterpolatesSaid :=
  OpenClaim.holds_of_wide 6 Try.f6 rfl rfl rfl rfl rfl rfl rfl ⟨rfl, rfl, rfl, rfl, rfl⟩ rfl rfl rfl rfl rfl (by kernel_rfl) Try.func6 (by kernel_rfl)
    (of_decide_eq_true (by kernel_rfl)) (by unfold Func.isWrapper; first | (rw [if_pos (by decide +kernel)]; kernel_rfl) | (rw [if_neg (by decide +kernel)]; exact ⟨rfl, rfl⟩))
    (fun os started H enc _ => fieldInterpolates_lifted os started H enc)

end Go.Proofs.Ytbkkffdgkkcbfab
