/- The law RestoreHolds holds for every input: it returns true and leaves its arguments as they were. No condition. -/
import Derived.Test.YtjbndfnhollfnaaFrameK
import Derived.Test.YtjbndfnhollfnaaSanK
import Derived.Test.YtjbndfnhollfnaaLawKit3
namespace Go.Proofs.Ytjbndfnhollfnaa
open Go.ChangeShapes Go.WideShapes Go.ChangeAt Go.RowKit
open Go.ChangeMaps (open_string shut_string)
set_option linter.unusedSimpArgs false
set_option linter.unusedVariables false
attribute [local irreducible] pc drow Calls validB admitK dEq planK validTab holdsK twinId twinIs PlanT PlanR
set_option maxRecDepth 100000 in
set_option maxHeartbeats 8000000 in
theorem restoreHolds_walk (n0 : Int) (u0 : Value) (a0 : List K) (b1 : BK) (u1 : Value) (a1 : List K) (a2 : Int) (a3 : Int) (w : World) (x0 : (Lit.int .i64 n0).wf = true) (w0 : RdK w u0 a0) (f0 : ∀ i, i < a0.length → (keyAt a0 i).wf) (x1 : b1.mo.length ≤ maxLen) (w1 : RdK w u1 a1) (f1 : ∀ i, i < a1.length → (keyAt a1 i).wf) (w2 : (Lit.int .i64 a2).wf = true) (w3 : (Lit.int .i64 a3).wf = true) :
    Calls Try.prog 4 #[.agg #[.int .i64 n0, u0], .agg (bc b1 u1), .int .i64 a2, .int .i64 a3] w fun e w' => e = .returned (.bool true) ∧ Below w.heap.size w w' := by
  obtain ⟨W0, hW0⟩ : ∃ W0, W0 = (w.alloc (.cells #[.int .i64 n0, u0] 24)).alloc (.cells (bc b1 u1) 28) := ⟨_, rfl⟩
  have HRT := Lib.hid w0
  have HRB := Lib.hid w1
  have hbx : ∀ w', Below W0.heap.size W0 w' → w'.heap[w.heap.size]? = some (.cells #[.int .i64 n0, u0] 24 (0, 0)) ∧ w'.heap[w.heap.size + 1]? = some (.cells (bc b1 u1) 28 (0, 0)) ∧ RdK w' u0 a0 ∧ RdK w' u1 a1 ∧ Below w.heap.size w w' := by
    intro w' h
    rw [hW0] at h
    exact ⟨row_keep (two_0 _ _ _) h, row_keep (two_1 _ _ _) h, HRT.out.on (below2 _ _ _ h), HRB.out.on (below2 _ _ _ h), below2 _ _ _ h⟩
  have HBX := Lib.hid hbx
  have HB0 := Lib.hid (hbx W0 (Below.refl _ _))
  have HS0 : w.heap.size + 1 < W0.heap.size := by rw [hW0]; simp
  rw [hW0] at HB0
  have HW := Lib.hid hW0
  have HFEW : Hid (∀ W, RdK W u0 a0 → RdK W u1 a1 → Calls Try.prog 7 #[.agg #[.int .i64 n0, u0], .agg (bc b1 u1)] W fun e w' => e = .returned (.bool (decide (a0.length ≤ 40) && (decide (a1.length ≤ 40) && decide (b1.mo.length ≤ 100)))) ∧ Below W.heap.size W w') := Lib.hid (fun W h h' => few_k n0 _ u1 a0 a1 b1 W h h')
  have HSAN := Lib.hid sanity_c
  have HVT : Hid (∀ W, RdK W u0 a0 → Calls Try.prog 8 #[.agg #[.int .i64 n0, u0]] W fun e w' => e = .returned (.bool (validTab n0 a0)) ∧ Below W.heap.size W w') := Lib.hid (fun W h => validTable_r n0 u0 a0 W h)
  have HPC : Hid (∀ W, RdK W u0 a0 → RdK W u1 a1 → a0.length ≤ 40 → a1.length ≤ 40 → validTab n0 a0 = true → Calls Try.prog 10 #[.agg #[.int .i64 n0, u0], .agg (bc b1 u1), .int .i64 a2] W (PlanT W (planK n0 a0 b1 a1 a2))) := Lib.hid (fun W h h' l1 l2 ht => plan_c n0 a2 u0 u1 a0 a1 b1 W h h' f1 x1 (by omega) l2 ht)
  have HF1 := Lib.hid f1
  have HX1 := Lib.hid x1
  obtain ⟨ta, tc, rfl, _, _, _⟩ := w0
  obtain ⟨ba, bcap, rfl, _, _, _⟩ := w1
  clear hW0 hbx f1 x1 f0 x0 w2 w3
  cases hf : (decide (a0.length ≤ 40) && (decide (a1.length ≤ 40) && decide (b1.mo.length ≤ 100))) with
  | false =>
    rw [hf] at HFEW
    clear hf
    go_enter Try.func4, Try.ntmps4
    go_wp2_with (first
      | (refine ld_bk b1 _ rfl (.tmp 5) rfl _ rfl _ HB0.out.2.1 ?_)
      | (go_at_call 7; refine (HFEW.out _ HB0.out.2.2.1 HB0.out.2.2.2.1).mono ?_; rintro e w2 ⟨rfl, hb⟩; rw [← HW.out] at hb; have HB := Lib.hid hb; obtain ⟨gt, _, _, _, _⟩ := HBX.out _ HB.out; have t0 : w2.cell? ⟨w.heap.size, 0, none⟩ = some (.int .i64 n0) := cell_of_row _ _ _ _ _ _ gt; have t1 : w2.cell? ⟨w.heap.size, 1, none⟩ = some (.slice ta a0.length tc) := cell_of_row _ _ _ _ _ _ gt; clear gt; clear hb)
      | (go_at_call 9; refine (HSAN.out _).mono ?_; rintro e ws ⟨rfl, hb⟩; replace HB := Lib.hid (HB.out.trans (hb.mono HB.out.size)); clear hb))
    go_ret
    exact ⟨rfl, (HBX.out _ HB.out).2.2.2.2⟩
  | true =>
    simp only [Bool.and_eq_true, decide_eq_true_eq] at hf
    obtain ⟨l1, l2, l3⟩ := hf
    have hf2 : (decide (a0.length ≤ 40) && (decide (a1.length ≤ 40) && decide (b1.mo.length ≤ 100))) = true := by simp [l1, l2, l3]
    rw [hf2] at HFEW
    have HL := Lib.hid (And.intro l1 l2)
    clear hf2 l1 l2 l3
    cases hv : validTab n0 a0 with
    | false =>
      rw [hv] at HVT
      clear hv
      go_enter Try.func4, Try.ntmps4
      go_wp2_with (first
        | (refine ld_bk b1 _ rfl (.tmp 5) rfl _ rfl _ HB0.out.2.1 ?_)
        | (go_at_call 7; refine (HFEW.out _ HB0.out.2.2.1 HB0.out.2.2.2.1).mono ?_; rintro e w2 ⟨rfl, hb⟩; rw [← HW.out] at hb; have HB := Lib.hid hb; obtain ⟨gt, _, _, _, _⟩ := HBX.out _ HB.out; have t0 : w2.cell? ⟨w.heap.size, 0, none⟩ = some (.int .i64 n0) := cell_of_row _ _ _ _ _ _ gt; have t1 : w2.cell? ⟨w.heap.size, 1, none⟩ = some (.slice ta a0.length tc) := cell_of_row _ _ _ _ _ _ gt; clear gt; clear hb)
        | (go_at_call 8; refine (HVT.out _ (HBX.out _ HB.out).2.2.1).mono ?_; rintro e w3 ⟨rfl, hb⟩; replace HB := Lib.hid (HB.out.trans (hb.mono HB.out.size)); clear t0 t1 hb; obtain ⟨gt, _, _, _, _⟩ := HBX.out _ HB.out; have t0 : w3.cell? ⟨w.heap.size, 0, none⟩ = some (.int .i64 n0) := cell_of_row _ _ _ _ _ _ gt; have t1 : w3.cell? ⟨w.heap.size, 1, none⟩ = some (.slice ta a0.length tc) := cell_of_row _ _ _ _ _ _ gt; clear gt)
        | (go_at_call 9; refine (HSAN.out _).mono ?_; rintro e ws ⟨rfl, hb⟩; replace HB := Lib.hid (HB.out.trans (hb.mono HB.out.size)); clear hb))
      go_ret
      exact ⟨rfl, (HBX.out _ HB.out).2.2.2.2⟩
    | true =>
      have HV := Lib.hid hv
      rw [hv] at HVT
      clear hv
      cases hr : planK n0 a0 b1 a1 a2 with
      | error c =>
        have hne := planK_err hr
        have e1 : (c == 0) = false := by rw [beq_eq_false_iff_ne]; exact hne
        have e2 : (c != 0) = true := by rw [bne_iff_ne]; exact hne
        rw [hr] at HPC
        clear hr hne
        go_enter Try.func4, Try.ntmps4
        go_upto_region 3 with (first
          | (refine ld_bk b1 _ rfl (.tmp 5) rfl _ rfl _ HB0.out.2.1 ?_)
          | (go_at_call 7; refine (HFEW.out _ HB0.out.2.2.1 HB0.out.2.2.2.1).mono ?_; rintro e w2 ⟨rfl, hb⟩; rw [← HW.out] at hb; have HB := Lib.hid hb; obtain ⟨gt, _, _, _, _⟩ := HBX.out _ HB.out; have t0 : w2.cell? ⟨w.heap.size, 0, none⟩ = some (.int .i64 n0) := cell_of_row _ _ _ _ _ _ gt; have t1 : w2.cell? ⟨w.heap.size, 1, none⟩ = some (.slice ta a0.length tc) := cell_of_row _ _ _ _ _ _ gt; clear gt; clear hb)
          | (go_at_call 8; refine (HVT.out _ (HBX.out _ HB.out).2.2.1).mono ?_; rintro e w3 ⟨rfl, hb⟩; replace HB := Lib.hid (HB.out.trans (hb.mono HB.out.size)); clear t0 t1 hb; obtain ⟨gt, _, _, _, _⟩ := HBX.out _ HB.out; have t0 : w3.cell? ⟨w.heap.size, 0, none⟩ = some (.int .i64 n0) := cell_of_row _ _ _ _ _ _ gt; have t1 : w3.cell? ⟨w.heap.size, 1, none⟩ = some (.slice ta a0.length tc) := cell_of_row _ _ _ _ _ _ gt; clear gt))
        obtain ⟨_, gb, rt, rb, _⟩ := HBX.out _ HB.out
        have GB := Lib.hid gb
        have RT := Lib.hid rt
        have RB := Lib.hid rb
        clear gb rt rb
        go_upto_region 4 with (first
          | (refine ld_bk b1 _ rfl (.tmp 5) rfl _ rfl _ GB.out ?_)
          | (go_at_call 10; refine (HPC.out _ RT.out RB.out HL.out.1 HL.out.2 HV.out).mono ?_; rintro e w4 hp; obtain ⟨rfl, hb⟩ := planT_no_out hp; replace HB := Lib.hid (HB.out.trans (hb.mono HB.out.size)); clear hp hb))
        have hs4 := HB.out.size
        replace HB := Lib.hid (HB.out.alloc HB.out.size (.cells #[.int .i64 0, .slice none 0 0] 24))
        have QT := Lib.hid (heap_alloc_new w4 (.cells #[.int .i64 0, .slice none 0 0] 24))
        go_wp2_with (go_at_call 9; refine (HSAN.out _).mono ?_; rintro e ws ⟨rfl, hb⟩; replace HB := Lib.hid (HB.out.trans (hb.mono HB.out.size)); have gu := row_keep QT.out hb; have q0 : ws.cell? ⟨w4.heap.size, 0, none⟩ = some (.int .i64 0) := cell_of_row _ _ _ _ _ _ gu; have q1 : ws.cell? ⟨w4.heap.size, 1, none⟩ = some (.slice none 0 0) := cell_of_row _ _ _ _ _ _ gu; clear gu hb)
        go_ret
        exact ⟨rfl, (HBX.out _ HB.out).2.2.2.2⟩
      | ok s =>
        have hgood := planK_good HV.out hr
        have HVU : Hid (∀ (v : Value) (W : World), RdK W v s.ks → Calls Try.prog 8 #[.agg #[.int .i64 s.nx, v]] W fun e w' => e = .returned (.bool true) ∧ Below W.heap.size W w') := Lib.hid (fun v W h => by have h2 := validTable_r s.nx v s.ks W h; rw [hgood.tab] at h2; exact h2)
        have HH : Hid (∀ (t : Int) (v u : Value) (W : World), a2 ≤ t → RdK W v s.ks → RdK W u a1 → Calls Try.prog 16 #[.agg #[.int .i64 s.nx, v], .agg (bc b1 u), .int .i64 t] W fun e w' => e = .returned (.bool true) ∧ Below W.heap.size W w') := Lib.hid (fun t v u W ht h h' => by have h2 := holds_c s.nx t v u s.ks a1 b1 W h h'; rw [planK_holds hr t ht] at h2; exact h2)
        have HPA : Hid (∀ (t : Int) (v u : Value) (W : World), a2 ≤ t → t ≤ 1099511627776 → RdK W v s.ks → RdK W u a1 → Calls Try.prog 10 #[.agg #[.int .i64 s.nx, v], .agg (bc b1 u), .int .i64 t] W fun e w' => ∃ a c a2 c2, e = .returned (.tuple #[.agg #[.int .i64 s.nx, .slice a s.ks.length c], .slice a2 0 c2, .int .i64 0]) ∧ RdK w' (.slice a s.ks.length c) s.ks ∧ Below W.heap.size W w') := Lib.hid (fun t v u W ht hm h h' => plan_again HV.out hr t ht hm HL.out.1 HL.out.2 HF1.out HX1.out v u W h h')
        have hnow := (planK_ok hr).2.2.1
        have HNOW := Lib.hid hnow
        rw [hr] at HPC
        clear hr hgood hnow
        have ways : (a3 < a2) ∨ (¬ a3 < a2 ∧ a2 ≤ a3 ∧ 1099511627776 < a3) ∨ (¬ a3 < a2 ∧ a2 ≤ a3 ∧ ¬ 1099511627776 < a3) := by omega
        have HG3 : Hid (¬ a3 < a2 ∧ a2 ≤ a3 ∧ ¬ 1099511627776 < a3 → a2 ≤ a3 ∧ a3 ≤ 1099511627776) := Lib.hid (fun h => ⟨h.2.1, by omega⟩)
        rcases ways with g1 | ⟨g1, g2, g3⟩ | ⟨g1, g2, g3⟩
        case' inl => have HG2 : Hid True := Lib.hid trivial; have HG : Hid True := Lib.hid trivial
        case' inr.inl => have HG2 := Lib.hid g2; have HG : Hid True := Lib.hid trivial
        case' inr.inr => have HG2 := Lib.hid g2; have HG := Lib.hid (HG3.out ⟨g1, g2, g3⟩)
        all_goals
          have tok1 : True := trivial
          go_enter Try.func4, Try.ntmps4
          go_upto_region 3 with (first
            | (refine ld_bk b1 _ rfl (.tmp 5) rfl _ rfl _ HB0.out.2.1 ?_)
            | (go_at_call 7; refine (HFEW.out _ HB0.out.2.2.1 HB0.out.2.2.2.1).mono ?_; rintro e w2 ⟨rfl, hb⟩; rw [← HW.out] at hb; have HB := Lib.hid hb; obtain ⟨gt, _, _, _, _⟩ := HBX.out _ HB.out; have t0 : w2.cell? ⟨w.heap.size, 0, none⟩ = some (.int .i64 n0) := cell_of_row _ _ _ _ _ _ gt; have t1 : w2.cell? ⟨w.heap.size, 1, none⟩ = some (.slice ta a0.length tc) := cell_of_row _ _ _ _ _ _ gt; clear gt; clear hb)
            | (go_at_call 8; refine (HVT.out _ (HBX.out _ HB.out).2.2.1).mono ?_; rintro e w3 ⟨rfl, hb⟩; replace HB := Lib.hid (HB.out.trans (hb.mono HB.out.size)); clear t0 t1 hb; obtain ⟨gt, _, _, _, _⟩ := HBX.out _ HB.out; have t0 : w3.cell? ⟨w.heap.size, 0, none⟩ = some (.int .i64 n0) := cell_of_row _ _ _ _ _ _ gt; have t1 : w3.cell? ⟨w.heap.size, 1, none⟩ = some (.slice ta a0.length tc) := cell_of_row _ _ _ _ _ _ gt; clear gt))
          obtain ⟨_, gb, rt, rb, _⟩ := HBX.out _ HB.out
          have GB := Lib.hid gb
          have RT := Lib.hid rt
          have RB := Lib.hid rb
          clear gb rt rb
          go_upto_region 6 with (first
            | (refine ld_bk b1 _ rfl (.tmp 5) rfl _ rfl _ GB.out ?_)
            | (go_at_call 10; refine (HPC.out _ RT.out RB.out HL.out.1 HL.out.2 HV.out).mono ?_; rintro e w4 hp; obtain ⟨ka, kcap, ia, icap, rfl, hk, hi, hb⟩ := planT_ok_out hp; replace HB := Lib.hid (HB.out.trans (hb.mono HB.out.size)); have RK := Lib.hid hk; clear hp hk hi hb))
          have hs4 := HB.out.size
          replace HB := Lib.hid (HB.out.alloc HB.out.size (.cells #[.int .i64 s.nx, .slice ka s.ks.length kcap] 24))
          have QT := Lib.hid (heap_alloc_new w4 (.cells #[.int .i64 s.nx, .slice ka s.ks.length kcap] 24))
          replace RK := Lib.hid (RK.out.alloc (.cells #[.int .i64 s.nx, .slice ka s.ks.length kcap] 24))
          go_upto_region 8 with (first
            | (refine ld_bk b1 _ rfl (.tmp 5) rfl _ rfl _ (HBX.out _ HB.out).2.1 ?_)
            | (go_at_call 8; refine (HVU.out _ _ RK.out).mono ?_; rintro e w5 ⟨rfl, hb⟩; replace HB := Lib.hid (HB.out.trans (hb.mono HB.out.size)); replace QT := Lib.hid (row_keep QT.out hb); replace RK := Lib.hid (RK.out.on hb); have hbk := Lib.hid hb; clear hb; clear hbk; have q0 : w5.cell? ⟨w4.heap.size, 0, none⟩ = some (.int .i64 s.nx) := cell_of_row _ _ _ _ _ _ QT.out; have q1 : w5.cell? ⟨w4.heap.size, 1, none⟩ = some (.slice ka s.ks.length kcap) := cell_of_row _ _ _ _ _ _ QT.out)
            | (go_at_call 16; clear tok1; refine (HH.out a2 _ _ _ (Int.le_refl _) RK.out (HBX.out _ HB.out).2.2.2.1).mono ?_; rintro e w6 ⟨rfl, hb⟩; clear q0 q1; replace HB := Lib.hid (HB.out.trans (hb.mono HB.out.size)); replace QT := Lib.hid (row_keep QT.out hb); replace RK := Lib.hid (RK.out.on hb); have hbk := Lib.hid hb; clear hb; clear hbk; have q0 : w6.cell? ⟨w4.heap.size, 0, none⟩ = some (.int .i64 s.nx) := cell_of_row _ _ _ _ _ _ QT.out; have q1 : w6.cell? ⟨w4.heap.size, 1, none⟩ = some (.slice ka s.ks.length kcap) := cell_of_row _ _ _ _ _ _ QT.out)
            | (go_at_call 16; refine (HH.out a3 _ _ _ HG2.out RK.out (HBX.out _ HB.out).2.2.2.1).mono ?_; rintro e w7 ⟨rfl, hb⟩; clear q0 q1; replace HB := Lib.hid (HB.out.trans (hb.mono HB.out.size)); replace QT := Lib.hid (row_keep QT.out hb); replace RK := Lib.hid (RK.out.on hb); have hbk := Lib.hid hb; clear hb; clear hbk; have q0 : w7.cell? ⟨w4.heap.size, 0, none⟩ = some (.int .i64 s.nx) := cell_of_row _ _ _ _ _ _ QT.out; have q1 : w7.cell? ⟨w4.heap.size, 1, none⟩ = some (.slice ka s.ks.length kcap) := cell_of_row _ _ _ _ _ _ QT.out))
          go_upto_region 9 with (first
            | (refine ld_bk b1 _ rfl (.tmp 5) rfl _ rfl _ (HBX.out _ HB.out).2.1 ?_)
            | (go_at_call 10; refine (HPA.out a2 _ _ _ (Int.le_refl _) HNOW.out RK.out (HBX.out _ HB.out).2.2.2.1).mono ?_; rintro e w8 ⟨kb, kbc, ib, ibc, rfl, hk, hb⟩; clear q0 q1; replace HB := Lib.hid (HB.out.trans (hb.mono HB.out.size)); replace QT := Lib.hid (row_keep QT.out hb); replace RK := Lib.hid (RK.out.on hb); have hbk := Lib.hid hb; clear hb; clear hbk; have RK2 := Lib.hid hk; clear hk; have q0 : w8.cell? ⟨w4.heap.size, 0, none⟩ = some (.int .i64 s.nx) := cell_of_row _ _ _ _ _ _ QT.out; have q1 : w8.cell? ⟨w4.heap.size, 1, none⟩ = some (.slice ka s.ks.length kcap) := cell_of_row _ _ _ _ _ _ QT.out))
          have hl8 : w4.heap.size < w8.heap.size := (Array.getElem?_eq_some_iff.1 QT.out).1
          have hs8 := HB.out.size
          have QT8 := QT
          replace HB := Lib.hid (HB.out.alloc HB.out.size (.cells #[.int .i64 s.nx, .slice kb s.ks.length kbc] 24))
          replace QT := Lib.hid (row_keep QT.out ((Below.refl _ _).alloc (Nat.le_refl _) (.cells #[.int .i64 s.nx, .slice kb s.ks.length kbc] 24)))
          have QV := Lib.hid (heap_alloc_new w8 (.cells #[.int .i64 s.nx, .slice kb s.ks.length kbc] 24))
          replace RK := Lib.hid (RK.out.alloc (.cells #[.int .i64 s.nx, .slice kb s.ks.length kbc] 24))
          replace RK2 := Lib.hid (RK2.out.alloc (.cells #[.int .i64 s.nx, .slice kb s.ks.length kbc] 24))
          go_upto_region 11 with (go_at_call 14; refine (sameT_refl _ _ _ _ _ RK.out RK2.out).mono ?_; rintro e w9 ⟨rfl, hb⟩; clear q0 q1; replace HB := Lib.hid (HB.out.trans (hb.mono HB.out.size)); replace QT := Lib.hid (row_keep QT.out hb); replace RK := Lib.hid (RK.out.on hb); have hbk := Lib.hid hb; clear hb; replace QV := Lib.hid (row_keep QV.out (Hid.out hbk)); clear hbk; have q0 : w9.cell? ⟨w4.heap.size, 0, none⟩ = some (.int .i64 s.nx) := cell_of_row _ _ _ _ _ _ QT.out; have q1 : w9.cell? ⟨w4.heap.size, 1, none⟩ = some (.slice ka s.ks.length kcap) := cell_of_row _ _ _ _ _ _ QT.out)
        · go_upto_region 14 with (first
            | (refine ld_bk b1 _ rfl (.tmp 5) rfl _ rfl _ (HBX.out _ HB.out).2.1 ?_)
            | (go_at_call 10; refine (HPA.out a3 _ _ _ HG.out.1 HG.out.2 RK.out (HBX.out _ HB.out).2.2.2.1).mono ?_; rintro e w10 ⟨kd, kdc, id, idc, rfl, hk, hb⟩; clear q0 q1; replace HB := Lib.hid (HB.out.trans (hb.mono HB.out.size)); replace QT := Lib.hid (row_keep QT.out hb); replace RK := Lib.hid (RK.out.on hb); have hbk := Lib.hid hb; clear hb; have RK3 := Lib.hid hk; clear hk; have qv := row_keep QV.out hbk.out; clear QV; have QV := Lib.hid qv; have v0 : w10.cell? ⟨w8.heap.size, 0, none⟩ = some (.int .i64 s.nx) := cell_of_row _ _ _ _ _ _ qv; have v1 : w10.cell? ⟨w8.heap.size, 1, none⟩ = some (.slice kb s.ks.length kbc) := cell_of_row _ _ _ _ _ _ qv; have e0 := frow qv 0; have e1 := frow qv 1; clear qv hbk))
          have hx0 : Below w.heap.size w ((w10.setCell ⟨w8.heap.size, 0, none⟩ (.int .i64 s.nx)).setCell ⟨w8.heap.size, 1, none⟩ (.slice kd s.ks.length kdc)) := ((HBX.out _ HB.out).2.2.2.2.setCell (p := ⟨w8.heap.size, 0, none⟩) (by show w.heap.size ≤ w8.heap.size; omega) _).setCell (p := ⟨w8.heap.size, 1, none⟩) (by show w.heap.size ≤ w8.heap.size; omega) _
          have hx1 : ((w10.setCell ⟨w8.heap.size, 0, none⟩ (.int .i64 s.nx)).setCell ⟨w8.heap.size, 1, none⟩ (.slice kd s.ks.length kdc)).heap[w4.heap.size]? = some (.cells #[.int .i64 s.nx, .slice ka s.ks.length kcap] 24 (0, 0)) := (setCell_block (by omega)).trans ((setCell_block (by omega)).trans QT.out)
          have hx2 : ((w10.setCell ⟨w8.heap.size, 0, none⟩ (.int .i64 s.nx)).setCell ⟨w8.heap.size, 1, none⟩ (.slice kd s.ks.length kdc)).heap[w8.heap.size]? = some (.cells #[.int .i64 s.nx, .slice kd s.ks.length kdc] 24 (0, 0)) := tab_set QV.out
          have hx3 : RdK ((w10.setCell ⟨w8.heap.size, 0, none⟩ (.int .i64 s.nx)).setCell ⟨w8.heap.size, 1, none⟩ (.slice kd s.ks.length kdc)) (.slice ka s.ks.length kcap) s.ks := RK.out.setTab QV.out
          have hx4 : RdK ((w10.setCell ⟨w8.heap.size, 0, none⟩ (.int .i64 s.nx)).setCell ⟨w8.heap.size, 1, none⟩ (.slice kd s.ks.length kdc)) (.slice kd s.ks.length kdc) s.ks := RK3.out.setTab QV.out
          generalize (w10.setCell ⟨w8.heap.size, 0, none⟩ (.int .i64 s.nx)).setCell ⟨w8.heap.size, 1, none⟩ (.slice kd s.ks.length kdc) = W at *
          have X0 := Lib.hid hx0
          have X1 := Lib.hid hx1
          have X2 := Lib.hid hx2
          have X3 := Lib.hid hx3
          have X4 := Lib.hid hx4
          clear hx0 hx1 hx2 hx3 hx4 v0 v1 e0 e1
          go_wp2_with (first
            | (go_at_call 9; refine (HSAN.out _).mono ?_; rintro e w11 ⟨rfl, hb⟩; have Y0 := Lib.hid (X0.out.trans (hb.mono X0.out.size)); have y1 := row_keep X1.out hb; have y2 := row_keep X2.out hb; have Y3 := Lib.hid (X3.out.on hb); have Y4 := Lib.hid (X4.out.on hb); have q0 : w11.cell? ⟨w4.heap.size, 0, none⟩ = some (.int .i64 s.nx) := cell_of_row _ _ _ _ _ _ y1; have q1 : w11.cell? ⟨w4.heap.size, 1, none⟩ = some (.slice ka s.ks.length kcap) := cell_of_row _ _ _ _ _ _ y1; have v0 : w11.cell? ⟨w8.heap.size, 0, none⟩ = some (.int .i64 s.nx) := cell_of_row _ _ _ _ _ _ y2; have v1 : w11.cell? ⟨w8.heap.size, 1, none⟩ = some (.slice kd s.ks.length kdc) := cell_of_row _ _ _ _ _ _ y2; clear y1 y2 hb)
            | (go_at_call 14; refine (sameT_refl _ _ _ _ _ Y3.out Y4.out).mono ?_; rintro e w12 ⟨rfl, hb⟩; have Z0 := Lib.hid (Y0.out.trans (hb.mono Y0.out.size)); clear hb))
          go_ret
          exact ⟨rfl, Z0.out⟩
        · go_wp2_with (go_at_call 9; refine (HSAN.out _).mono ?_; rintro e ws ⟨rfl, hb⟩; replace HB := Lib.hid (HB.out.trans (hb.mono HB.out.size)); clear hb)
          go_ret
          exact ⟨rfl, (HBX.out _ HB.out).2.2.2.2⟩
        · go_wp2_with (go_at_call 9; refine (HSAN.out _).mono ?_; rintro e ws ⟨rfl, hb⟩; replace HB := Lib.hid (HB.out.trans (hb.mono HB.out.size)); clear hb)
          go_ret
          exact ⟨rfl, (HBX.out _ HB.out).2.2.2.2⟩
set_option maxRecDepth 100000 in
theorem restoreHolds_lifted (os : Os) (started : os.Started) (H : Type) (enc : TypeId × Value → H) :
    ReturnsInHanded {} Try.checked os 4 .any (Rows.restoreHoldsSpec.pre6 enc Try.prog Try.f4 Rows.restoreHoldsRow.domain false) (Rows.restoreHoldsSpec.post enc Try.prog Try.f4 false true false false) := by
  refine returnsInHanded_of_change (C := Try.checked) Try.own started (by kernel_rfl) Try.func4
    (ChangeSpec.witness6 (enc := enc) (C := Try.checked) false ⟨#[], #[.agg #[.int .i64 0, .slice none 0 0], .agg #[.int .u8 0, .int .u8 0, .int .u8 0, .int .u8 0, .int .u8 0, .int .u8 0, .int .u8 0, .int .u8 0, .int .u8 0, .int .u8 0, .int .u8 0, .int .u8 0, .int .u8 0, .int .u8 0, .int .u8 0, .int .u8 0, .int .i64 0, .int .i64 0, .int .i64 0, .int .i64 0, .int .u8 0, .int .u8 0, .int .u8 0, .int .u8 0, .int .u8 0, .int .u8 0, .int .u8 0, .int .u8 0, .int .u8 0, .int .u8 0, .int .u8 0, .int .u8 0, .int .u8 0, .int .u8 0, .int .u8 0, .int .u8 0, .string ByteArray.empty, .slice none 0 0], .int .i64 0, .int .i64 0], []⟩ 8 (by kernel_rfl) (by kernel_rfl) (by kernel_rfl) (by kernel_rfl)) ?_
  intro W base args ds gs before hval0 hW hcnd _
  have hval : ∀ (j : Nat) t v, Try.f4.params[j]? = some t → args[j]? = some v → Value.okWide Try.prog W .any base t v := hval0
  have hW' := hW
  obtain ⟨p, q, hA0, hV, rfl, hfz, hnd⟩ := hW
  have hA : DataW.TrodAll enc Try.prog W 0 (fun _ => true) true Try.f4.params.toList args.toList ds p := hA0
  rw [Try.params4] at hA hval
  obtain ⟨v0, vs0, d0, ds0, p0, q0, hargs, rfl, rfl, h0, r0⟩ := trodAll_cons hA
  obtain ⟨v1, vs1, d1, ds1, p1, q1, rfl, rfl, rfl, h1, r1⟩ := trodAll_cons r0
  obtain ⟨v2, vs2, d2, ds2, p2, q2, rfl, rfl, rfl, h2, r2⟩ := trodAll_cons r1
  obtain ⟨v3, vs3, d3, ds3, p3, q3, rfl, rfl, rfl, h3, r3⟩ := trodAll_cons r2
  obtain ⟨rfl, rfl, rfl⟩ := trodAll_nil r3
  obtain rfl : args = #[v0, v1, v2, v3] := by cases args; simp_all
  obtain ⟨rfl, rfl⟩ := trodVars_none hV
  have k0 := h0
  have lt0 : ∀ x ∈ p0, x.block < W.heap.size := by obtain ⟨m, hm⟩ := k0; exact DataW.trod_lt m _ _ _ hm
  have k1 := h1
  have lt1 : ∀ x ∈ p1, x.block < W.heap.size := by obtain ⟨m, hm⟩ := k1; exact DataW.trod_lt m _ _ _ hm
  obtain ⟨n0, u0, a0, rfl, x0, w0, f0⟩ := open_t (hval 0 24 v0 rfl rfl) h0
  obtain ⟨b1, u1, a1, rfl, x1, w1, f1⟩ := open_bk (hval 1 28 v1 rfl rfl) h1
  obtain ⟨a2, rfl, rfl, rfl, w2⟩ := open_int Try.underlying3 (hval 2 3 v2 rfl rfl) h2
  obtain ⟨a3, rfl, rfl, rfl, w3⟩ := open_int Try.underlying3 (hval 3 3 v3 rfl rfl) h3
  clear hA0 hval0
  refine (restoreHolds_walk n0 u0 a0 b1 u1 a1 a2 a3 W x0 w0 f0 x1 w1 f1 w2 w3).mono fun e W' ⟨he, bel⟩ => ?_
  subst he
  exact ⟨_, rfl, _, _, _, [], _, [], hW', trodAll_mk1 (shut_bool Try.underlying4 _), (trodAll_cons_mk (Below.trod Try.laidOut (by kernel_rfl) (of_decide_eq_true (by kernel_rfl)) k0 bel lt0) (trodAll_cons_mk (Below.trod Try.laidOut (by kernel_rfl) (of_decide_eq_true (by kernel_rfl)) k1 bel lt1) (trodAll_cons_mk (shut_int Try.underlying3 w2) (trodAll_cons_mk (shut_int Try.underlying3 w3) trodAll_mk0)))), rfl, bel.frame _, fun h => by cases h⟩
theorem RestoreHolds_proved : Rows.RestoreHoldsSaid :=
  OpenClaim.holds_of_wide 4 Try.f4 rfl rfl rfl rfl rfl rfl rfl ⟨rfl, rfl, rfl, rfl, rfl⟩ rfl rfl rfl rfl rfl (by kernel_rfl) Try.func4 (by kernel_rfl)
    (of_decide_eq_true (by kernel_rfl)) (by unfold Func.isWrapper; first | (rw [if_pos (by decide +kernel)]; kernel_rfl) | (rw [if_neg (by decide +kernel)]; exact ⟨rfl, rfl⟩))
    (fun os started H enc _ => restoreHolds_lifted os started H enc)

end Go.Proofs.Ytjbndfnhollfnaa
