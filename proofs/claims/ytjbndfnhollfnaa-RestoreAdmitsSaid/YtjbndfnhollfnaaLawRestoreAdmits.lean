/- The law RestoreAdmits holds for every input: it returns true and leaves its arguments as they were. No condition. -/
import Derived.Test.YtjbndfnhollfnaaFrameK
import Derived.Test.YtjbndfnhollfnaaSanK
import Derived.Test.YtjbndfnhollfnaaLawKit
namespace Go.Proofs.Ytjbndfnhollfnaa
open Go.ChangeShapes Go.WideShapes Go.ChangeAt Go.RowKit
open Go.ChangeMaps (open_string shut_string)
set_option linter.unusedSimpArgs false
set_option linter.unusedVariables false
attribute [local irreducible] pc drow Calls validB admitK dEq planK validTab holdsK twinId twinIs PlanT PlanR
set_option maxRecDepth 100000 in
set_option maxHeartbeats 8000000 in
theorem restoreAdmits_walk (a0 : PK) (b1 : BK) (u1 : Value) (a1 : List K) (w : World) (x1 : b1.mo.length ≤ maxLen) (w1 : RdK w u1 a1) (f1 : ∀ i, i < a1.length → (keyAt a1 i).wf) :
    Calls Try.prog 6 #[.agg (pc a0), .agg (bc b1 u1)] w fun e w' => e = .returned (.bool true) ∧ Below w.heap.size w w' := by
  obtain ⟨W0, hW0⟩ : ∃ W0, W0 = (w.alloc (.cells (pc a0) 32)).alloc (.cells (bc b1 u1) 28) := ⟨_, rfl⟩
  have HRD := Lib.hid w1
  have hbx : ∀ w', Below W0.heap.size W0 w' → w'.heap[w.heap.size]? = some (.cells (pc a0) 32 (0, 0)) ∧ w'.heap[w.heap.size + 1]? = some (.cells (bc b1 u1) 28 (0, 0)) ∧ RdK w' u1 a1 ∧ Below w.heap.size w w' := by
    intro w' h
    rw [hW0] at h
    exact ⟨row_keep (two_0 _ _ _) h, row_keep (two_1 _ _ _) h, HRD.out.on (below2 _ _ _ h), below2 _ _ _ h⟩
  have HBX := Lib.hid hbx
  have HB0 := Lib.hid (hbx W0 (Below.refl _ _))
  rw [hW0] at HB0
  have HW := Lib.hid hW0
  have HFEW : Hid (∀ W, RdK W u1 a1 → Calls Try.prog 7 #[.agg #[.int .i64 0, .slice none 0 0], .agg (bc b1 u1)] W fun e w' => e = .returned (.bool (decide (a1.length ≤ 40) && decide (b1.mo.length ≤ 100))) ∧ Below W.heap.size W w') := Lib.hid (fun W h => few_k 0 _ u1 [] a1 b1 W (RdK.nil W) h)
  have HSAN := Lib.hid sanity_c
  have HVAL : Hid (∀ W, RdK W u1 a1 → Calls Try.prog 20 #[.agg (bc b1 u1)] W fun e w' => e = .returned (.bool (validB b1 a1)) ∧ Below W.heap.size W w') := Lib.hid (fun W h => validB_r b1 u1 a1 W h)
  have HADM : Hid (∀ (p : PK) W, RdK W u1 a1 → Calls Try.prog 18 #[.agg (pc p), .agg (bc b1 u1)] W fun e w' => e = .returned (.int .i64 (admitK p b1 a1)) ∧ Below W.heap.size W w') := Lib.hid (fun p W h => admit_c p b1 u1 a1 W h f1 x1)
  clear hW0 hbx w1 f1 x1
  cases hf : (decide (a1.length ≤ 40) && decide (b1.mo.length ≤ 100)) with
  | false =>
    rw [hf] at HFEW
    clear hf
    go_enter Try.func6, Try.ntmps6
    go_wp2_with (first
      | (refine ld_bk b1 u1 rfl (.tmp 3) rfl _ rfl _ HB0.out.2.1 ?_)
      | (go_at_call 7; refine (HFEW.out _ HB0.out.2.2.1).mono ?_; rintro e w2 ⟨rfl, hb⟩; rw [← HW.out] at hb; have HB2 := Lib.hid hb; clear hb)
      | (go_at_call 9; refine (HSAN.out _).mono ?_; rintro e w3 ⟨rfl, hb⟩; have HB3 := Lib.hid (HB2.out.trans (hb.mono HB2.out.size)); clear hb))
    go_ret
    exact ⟨rfl, (HBX.out _ HB3.out).2.2.2⟩
  | true =>
    rw [hf] at HFEW
    clear hf
    cases hvv : validB b1 a1 with
    | false =>
      rw [hvv] at HVAL

      go_enter Try.func6, Try.ntmps6
      go_wp2_with (first
        | (refine ld_bk b1 u1 rfl (.tmp 3) rfl _ rfl _ HB0.out.2.1 ?_)
        | (refine ld_bk b1 u1 rfl (.tmp 3) rfl _ rfl _ (HBX.out _ HB2.out).2.1 ?_)
        | (go_at_call 7; refine (HFEW.out _ HB0.out.2.2.1).mono ?_; rintro e w2 ⟨rfl, hb⟩; rw [← HW.out] at hb; have HB2 := Lib.hid hb; clear hb)
        | (go_at_call 20; refine (HVAL.out _ (HBX.out _ HB2.out).2.2.1).mono ?_; rintro e w3 ⟨rfl, hb⟩; have HB3 := Lib.hid (HB2.out.trans (hb.mono HB2.out.size)); clear hb)
        | (go_at_call 9; refine (HSAN.out _).mono ?_; rintro e w4 ⟨rfl, hb⟩; have HB4 := Lib.hid (HB3.out.trans (hb.mono HB3.out.size)); clear hb))
      go_ret
      exact ⟨rfl, (HBX.out _ HB4.out).2.2.2⟩
    | true =>
      have hnum := validB_num hvv
      rw [hvv] at HVAL
      have hn1 := fun w => neq_d b1.dom a0.dom w
      have hn2 := fun w => neq_d b1.pol a0.pol w
      have HNX := Lib.hid (@admit_next a0 b1 a1)
      have six := admit_six a0 b1 a1
      obtain ⟨m1, m2⟩ := hnum

      rcases six with ⟨hv1, hr⟩ | ⟨hv1, hd1, hr⟩ | ⟨hv1, hd1, hd2, hr⟩ | ⟨hv1, hd1, hd2, hf, hr⟩ | ⟨hv1, hd1, hd2, hf, hg, hr⟩ | ⟨hv1, hd1, hd2, hf, hg, hr⟩
      case inl => rw [hvv] at hv1; cases hv1
      case inr.inr.inr.inr.inr =>
        have HA : Hid (∀ W, RdK W u1 a1 → Calls Try.prog 18 #[.agg (pc a0), .agg (bc b1 u1)] W fun e w' => e = .returned (.int .i64 (admitK a0 b1 a1)) ∧ Below W.heap.size W w') := Lib.hid (fun W h => HADM.out a0 W h)
        have HA2 : Hid (∀ W, RdK W u1 a1 → Calls Try.prog 18 #[.agg (pc (pnext a0 (b1.num + 1))), .agg (bc b1 u1)] W fun e w' => e = .returned (.int .i64 (admitK (pnext a0 (b1.num + 1)) b1 a1)) ∧ Below W.heap.size W w') := Lib.hid (fun W h => HADM.out _ W h)
        rw [HNX.out hr] at HA2
        rw [hr] at HA
        rw [hd1] at hn1
        rw [hd2] at hn2
        have tok1 : True := trivial
        clear hr hv1
        go_enter Try.func6, Try.ntmps6
        go_wp2_with (first
          | (refine ld_bk b1 u1 rfl (.tmp 3) rfl _ rfl _ HB0.out.2.1 ?_)
          | (refine ld_bk b1 u1 rfl (.tmp 3) rfl _ rfl _ (HBX.out _ HB2.out).2.1 ?_)
          | (refine ld_bk b1 u1 rfl (.tmp 3) rfl _ rfl _ (HBX.out _ HB3.out).2.1 ?_)
          | (refine ld_bk b1 u1 rfl (.tmp 3) rfl _ rfl _ R2.out ?_)
          | (refine ld_pk a0 rfl (.tmp 2) rfl _ rfl _ (HBX.out _ HB3.out).1 ?_)
          | (refine ld_pk (pnext a0 (b1.num + 1)) rfl (.tmp 2) rfl _ rfl _ R1.out ?_)
          | (go_at_call 7; refine (HFEW.out _ HB0.out.2.2.1).mono ?_; rintro e w2 ⟨rfl, hb⟩; rw [← HW.out] at hb; have HB2 := Lib.hid hb; clear hb)
          | (go_at_call 20; refine (HVAL.out _ (HBX.out _ HB2.out).2.2.1).mono ?_; rintro e w3 ⟨rfl, hb⟩; have HB3 := Lib.hid (HB2.out.trans (hb.mono HB2.out.size)); clear hb)
          | (go_at_call 18; clear tok1; refine (HA.out _ (HBX.out _ HB3.out).2.2.1).mono ?_; rintro e w4 ⟨rfl, hb⟩; have HB4 := Lib.hid (HB3.out.trans (hb.mono HB3.out.size)); obtain ⟨g1, g2, g3, g4⟩ := HBX.out _ HB4.out; have p32 := (cell_of_row _ _ 32 _ _ _ g1).trans (pc_32 a0); have p33 := (cell_of_row _ _ 33 _ _ _ g1).trans (pc_33 a0); have b17 := (cell_of_row _ _ 17 _ _ _ g2).trans (bc_17 b1 u1); have b18 := (cell_of_row _ _ 18 _ _ _ g2).trans (bc_18 b1 u1); have pf := frow g1 33; have G1 := Lib.hid g1; have G2 := Lib.hid g2; have G4 := Lib.hid g4; clear g1 g2 g3 g4 hb)
          | (refine ld_dig b1.dom _ _ (range_row G2.out 0 _ (bc_dom b1 u1)) rfl (.tmp 20) rfl rfl ?_)
          | (refine ld_dig a0.dom _ _ (range_row G1.out 0 _ (pc_dom a0)) rfl (.tmp 22) rfl rfl ?_)
          | (refine ld_dig b1.pol _ _ (range_row G2.out 20 _ (bc_pol b1 u1)) rfl (.tmp 26) rfl rfl ?_)
          | (refine ld_dig a0.pol _ _ (range_row G1.out 16 _ (pc_pol a0)) rfl (.tmp 28) rfl rfl ?_)
          | (go_at_call 9; refine (HSAN.out _).mono ?_; rintro e w5 ⟨rfl, hb⟩; have R1 := Lib.hid (row_keep (pc_set33 (b1.num + 1) G1.out) hb); have R2 := Lib.hid (row_keep ((setCell_block (by omega)).trans G2.out) hb); have R4 := Lib.hid ((G4.out.setCell (p := ⟨w.heap.size, 33, none⟩) (Nat.le_refl _) _).trans (hb.mono (by rw [setCell_size]; exact G4.out.size))); clear hb)
          | (go_at_call 18; refine (HA2.out _ (HRD.out.on R4.out)).mono ?_; rintro e w6 ⟨rfl, hb⟩; have HB6 := Lib.hid (R4.out.trans (hb.mono R4.out.size)); clear hb))
        go_ret
        exact ⟨rfl, HB6.out⟩
      all_goals
        have HA : Hid (∀ W, RdK W u1 a1 → Calls Try.prog 18 #[.agg (pc a0), .agg (bc b1 u1)] W fun e w' => e = .returned (.int .i64 (admitK a0 b1 a1)) ∧ Below W.heap.size W w') := Lib.hid (fun W h => HADM.out a0 W h)
        rw [hr] at HA
        try rw [hd1] at hn1
        try rw [hd2] at hn2
        clear hr hv1
        go_enter Try.func6, Try.ntmps6
        go_wp2_with (first
          | (refine ld_bk b1 u1 rfl (.tmp 3) rfl _ rfl _ HB0.out.2.1 ?_)
          | (refine ld_bk b1 u1 rfl (.tmp 3) rfl _ rfl _ (HBX.out _ HB2.out).2.1 ?_)
          | (refine ld_bk b1 u1 rfl (.tmp 3) rfl _ rfl _ (HBX.out _ HB3.out).2.1 ?_)
          | (refine ld_pk a0 rfl (.tmp 2) rfl _ rfl _ (HBX.out _ HB3.out).1 ?_)
          | (go_at_call 7; refine (HFEW.out _ HB0.out.2.2.1).mono ?_; rintro e w2 ⟨rfl, hb⟩; rw [← HW.out] at hb; have HB2 := Lib.hid hb; clear hb)
          | (go_at_call 20; refine (HVAL.out _ (HBX.out _ HB2.out).2.2.1).mono ?_; rintro e w3 ⟨rfl, hb⟩; have HB3 := Lib.hid (HB2.out.trans (hb.mono HB2.out.size)); clear hb)
          | (go_at_call 18; refine (HA.out _ (HBX.out _ HB3.out).2.2.1).mono ?_; rintro e w4 ⟨rfl, hb⟩; have HB4 := Lib.hid (HB3.out.trans (hb.mono HB3.out.size)); obtain ⟨g1, g2, _, _⟩ := HBX.out _ HB4.out; have p32 := (cell_of_row _ _ 32 _ _ _ g1).trans (pc_32 a0); have p33 := (cell_of_row _ _ 33 _ _ _ g1).trans (pc_33 a0); have b17 := (cell_of_row _ _ 17 _ _ _ g2).trans (bc_17 b1 u1); have b18 := (cell_of_row _ _ 18 _ _ _ g2).trans (bc_18 b1 u1); have G1 := Lib.hid g1; have G2 := Lib.hid g2; clear g1 g2 hb)
          | (refine ld_dig b1.dom _ _ (range_row G2.out 0 _ (bc_dom b1 u1)) rfl (.tmp 20) rfl rfl ?_)
          | (refine ld_dig a0.dom _ _ (range_row G1.out 0 _ (pc_dom a0)) rfl (.tmp 22) rfl rfl ?_)
          | (refine ld_dig b1.pol _ _ (range_row G2.out 20 _ (bc_pol b1 u1)) rfl (.tmp 26) rfl rfl ?_)
          | (refine ld_dig a0.pol _ _ (range_row G1.out 16 _ (pc_pol a0)) rfl (.tmp 28) rfl rfl ?_)
          | (go_at_call 9; refine (HSAN.out _).mono ?_; rintro e w5 ⟨rfl, hb⟩; have HB5 := Lib.hid (HB4.out.trans (hb.mono HB4.out.size)); clear hb))
        go_ret
        exact ⟨rfl, (HBX.out _ HB5.out).2.2.2⟩
set_option maxRecDepth 100000 in
theorem restoreAdmits_lifted (os : Os) (started : os.Started) (H : Type) (enc : TypeId × Value → H) :
    ReturnsInHanded {} Try.checked os 6 .any (Rows.restoreAdmitsSpec.pre6 enc Try.prog Try.f6 Rows.restoreAdmitsRow.domain false) (Rows.restoreAdmitsSpec.post enc Try.prog Try.f6 false true false false) := by
  refine returnsInHanded_of_change (C := Try.checked) Try.own started (by kernel_rfl) Try.func6
    (ChangeSpec.witness6 (enc := enc) (C := Try.checked) false ⟨#[], #[.agg #[.int .u8 0, .int .u8 0, .int .u8 0, .int .u8 0, .int .u8 0, .int .u8 0, .int .u8 0, .int .u8 0, .int .u8 0, .int .u8 0, .int .u8 0, .int .u8 0, .int .u8 0, .int .u8 0, .int .u8 0, .int .u8 0, .int .u8 0, .int .u8 0, .int .u8 0, .int .u8 0, .int .u8 0, .int .u8 0, .int .u8 0, .int .u8 0, .int .u8 0, .int .u8 0, .int .u8 0, .int .u8 0, .int .u8 0, .int .u8 0, .int .u8 0, .int .u8 0, .int .i64 0, .int .i64 0], .agg #[.int .u8 0, .int .u8 0, .int .u8 0, .int .u8 0, .int .u8 0, .int .u8 0, .int .u8 0, .int .u8 0, .int .u8 0, .int .u8 0, .int .u8 0, .int .u8 0, .int .u8 0, .int .u8 0, .int .u8 0, .int .u8 0, .int .i64 0, .int .i64 0, .int .i64 0, .int .i64 0, .int .u8 0, .int .u8 0, .int .u8 0, .int .u8 0, .int .u8 0, .int .u8 0, .int .u8 0, .int .u8 0, .int .u8 0, .int .u8 0, .int .u8 0, .int .u8 0, .int .u8 0, .int .u8 0, .int .u8 0, .int .u8 0, .string ByteArray.empty, .slice none 0 0]], []⟩ 8 (by kernel_rfl) (by kernel_rfl) (by kernel_rfl) (by kernel_rfl)) ?_
  intro W base args ds gs before hval0 hW hcnd _
  have hval : ∀ (j : Nat) t v, Try.f6.params[j]? = some t → args[j]? = some v → Value.okWide Try.prog W .any base t v := hval0
  have hW' := hW
  obtain ⟨p, q, hA0, hV, rfl, hfz, hnd⟩ := hW
  have hA : DataW.TrodAll enc Try.prog W 0 (fun _ => true) true Try.f6.params.toList args.toList ds p := hA0
  rw [Try.params6] at hA hval
  obtain ⟨v0, vs0, d0, ds0, p0, q0, hargs, rfl, rfl, h0, r0⟩ := trodAll_cons hA
  obtain ⟨v1, vs1, d1, ds1, p1, q1, rfl, rfl, rfl, h1, r1⟩ := trodAll_cons r0
  obtain ⟨rfl, rfl, rfl⟩ := trodAll_nil r1
  obtain rfl : args = #[v0, v1] := by cases args; simp_all
  obtain ⟨rfl, rfl⟩ := trodVars_none hV
  have k0 := h0
  have lt0 : ∀ x ∈ p0, x.block < W.heap.size := by obtain ⟨m, hm⟩ := k0; exact DataW.trod_lt m _ _ _ hm
  have k1 := h1
  have lt1 : ∀ x ∈ p1, x.block < W.heap.size := by obtain ⟨m, hm⟩ := k1; exact DataW.trod_lt m _ _ _ hm
  obtain ⟨a0, rfl⟩ := open_p (hval 0 32 v0 rfl rfl) h0
  obtain ⟨b1, u1, a1, rfl, x1, w1, f1⟩ := open_bk (hval 1 28 v1 rfl rfl) h1
  clear hA0 hval0
  refine (restoreAdmits_walk a0 b1 u1 a1 W x1 w1 f1).mono fun e W' ⟨he, bel⟩ => ?_
  subst he
  exact ⟨_, rfl, _, _, _, [], _, [], hW', trodAll_mk1 (shut_bool Try.underlying4 _), (trodAll_cons_mk (Below.trod Try.laidOut (by kernel_rfl) (of_decide_eq_true (by kernel_rfl)) k0 bel lt0) (trodAll_cons_mk (Below.trod Try.laidOut (by kernel_rfl) (of_decide_eq_true (by kernel_rfl)) k1 bel lt1) trodAll_mk0)), rfl, bel.frame _, fun h => by cases h⟩
theorem RestoreAdmits_proved : Rows.RestoreAdmitsSaid :=
  OpenClaim.holds_of_wide 6 Try.f6 rfl rfl rfl rfl rfl rfl rfl ⟨rfl, rfl, rfl, rfl, rfl⟩ rfl rfl rfl rfl rfl (by kernel_rfl) Try.func6 (by kernel_rfl)
    (of_decide_eq_true (by kernel_rfl)) (by unfold Func.isWrapper; first | (rw [if_pos (by decide +kernel)]; kernel_rfl) | (rw [if_neg (by decide +kernel)]; exact ⟨rfl, rfl⟩))
    (fun os started H enc _ => restoreAdmits_lifted os started H enc)

end Go.Proofs.Ytjbndfnhollfnaa
