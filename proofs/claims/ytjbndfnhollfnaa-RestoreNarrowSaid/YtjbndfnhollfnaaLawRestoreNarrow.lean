/- The law RestoreNarrow holds for every input: it returns true and leaves its arguments as they were. No condition. -/
import Derived.Test.YtjbndfnhollfnaaFrameK
import Derived.Test.YtjbndfnhollfnaaSanK
import Derived.Test.YtjbndfnhollfnaaLawKit3
namespace Go.Proofs.Ytjbndfnhollfnaa
open Go.ChangeShapes Go.WideShapes Go.ChangeAt Go.RowKit
open Go.ChangeMaps (open_string shut_string)
set_option linter.unusedSimpArgs false
set_option linter.unusedVariables false
attribute [local irreducible] pc drow Calls validB admitK dEq planK validTab holdsK twinId twinIs PlanT PlanR
set_option maxRecDepth 100000 in
set_option maxHeartbeats 8000000 in
theorem restoreNarrow_walk (n0 : Int) (u0 : Value) (a0 : List K) (b1 : BK) (u1 : Value) (a1 : List K) (a2 : Int) (w : World) (x0 : (Lit.int .i64 n0).wf = true) (w0 : RdK w u0 a0) (f0 : ∀ i, i < a0.length → (keyAt a0 i).wf) (x1 : b1.mo.length ≤ maxLen) (w1 : RdK w u1 a1) (f1 : ∀ i, i < a1.length → (keyAt a1 i).wf) (w2 : (Lit.int .i64 a2).wf = true) :
    Calls Try.prog 5 #[.agg #[.int .i64 n0, u0], .agg (bc b1 u1), .int .i64 a2] w fun e w' => e = .returned (.bool true) ∧ Below w.heap.size w w' := by
  obtain ⟨W0, hW0⟩ : ∃ W0, W0 = (w.alloc (.cells #[.int .i64 n0, u0] 24)).alloc (.cells (bc b1 u1) 28) := ⟨_, rfl⟩
  have HRT := Lib.hid w0
  have HRB := Lib.hid w1
  have hbx : ∀ w', Below W0.heap.size W0 w' → w'.heap[w.heap.size]? = some (.cells #[.int .i64 n0, u0] 24 (0, 0)) ∧ w'.heap[w.heap.size + 1]? = some (.cells (bc b1 u1) 28 (0, 0)) ∧ RdK w' u0 a0 ∧ RdK w' u1 a1 ∧ Below w.heap.size w w' := by
    intro w' h
    rw [hW0] at h
    exact ⟨row_keep (two_0 _ _ _) h, row_keep (two_1 _ _ _) h, HRT.out.on (below2 _ _ _ h), HRB.out.on (below2 _ _ _ h), below2 _ _ _ h⟩
  have HBX := Lib.hid hbx
  have HB0 := Lib.hid (hbx W0 (Below.refl _ _))
  have HS0 : w.heap.size + 1 < W0.heap.size := by rw [hW0]; simp
  rw [hW0] at HB0
  have HW := Lib.hid hW0
  have HFEW : Hid (∀ W, RdK W u0 a0 → RdK W u1 a1 → Calls Try.prog 7 #[.agg #[.int .i64 n0, u0], .agg (bc b1 u1)] W fun e w' => e = .returned (.bool (decide (a0.length ≤ 40) && (decide (a1.length ≤ 40) && decide (b1.mo.length ≤ 100)))) ∧ Below W.heap.size W w') := Lib.hid (fun W h h' => few_k n0 _ u1 a0 a1 b1 W h h')
  have HSAN := Lib.hid sanity_c
  have HVT : Hid (∀ W, RdK W u0 a0 → Calls Try.prog 8 #[.agg #[.int .i64 n0, u0]] W fun e w' => e = .returned (.bool (validTab n0 a0)) ∧ Below W.heap.size W w') := Lib.hid (fun W h => validTable_r n0 u0 a0 W h)
  have HPC : Hid (∀ W, RdK W u0 a0 → RdK W u1 a1 → a0.length ≤ 40 → a1.length ≤ 40 → validTab n0 a0 = true → Calls Try.prog 10 #[.agg #[.int .i64 n0, u0], .agg (bc b1 u1), .int .i64 a2] W (PlanT W (planK n0 a0 b1 a1 a2))) := Lib.hid (fun W h h' l1 l2 ht => plan_c n0 a2 u0 u1 a0 a1 b1 W h h' f1 x1 (by omega) l2 ht)
  obtain ⟨ta, tc, rfl, _, _, _⟩ := w0
  obtain ⟨ba, bcap, rfl, _, _, _⟩ := w1
  have HN0 := Lib.hid x0
  clear hW0 hbx f1 x1 f0 x0 w2
  cases hf : (decide (a0.length ≤ 40) && (decide (a1.length ≤ 40) && decide (b1.mo.length ≤ 100))) with
  | false =>
    rw [hf] at HFEW
    clear hf
    go_enter Try.func5, Try.ntmps5
    go_wp2_with (first
      | (refine ld_bk b1 _ rfl (.tmp 4) rfl _ rfl _ HB0.out.2.1 ?_)
      | (go_at_call 7; refine (HFEW.out _ HB0.out.2.2.1 HB0.out.2.2.2.1).mono ?_; rintro e w2 ⟨rfl, hb⟩; rw [← HW.out] at hb; have HB := Lib.hid hb; obtain ⟨gt, _, _, _, _⟩ := HBX.out _ HB.out; have t0 : w2.cell? ⟨w.heap.size, 0, none⟩ = some (.int .i64 n0) := cell_of_row _ _ _ _ _ _ gt; have t1 : w2.cell? ⟨w.heap.size, 1, none⟩ = some (.slice ta a0.length tc) := cell_of_row _ _ _ _ _ _ gt; clear gt; clear hb)
      | (go_at_call 9; refine (HSAN.out _).mono ?_; rintro e ws ⟨rfl, hb⟩; replace HB := Lib.hid (HB.out.trans (hb.mono HB.out.size)); clear hb))
    go_ret
    exact ⟨rfl, (HBX.out _ HB.out).2.2.2.2⟩
  | true =>
    simp only [Bool.and_eq_true, decide_eq_true_eq] at hf
    obtain ⟨l1, l2, l3⟩ := hf
    have hf2 : (decide (a0.length ≤ 40) && (decide (a1.length ≤ 40) && decide (b1.mo.length ≤ 100))) = true := by simp [l1, l2, l3]
    rw [hf2] at HFEW
    have HL := Lib.hid (And.intro l1 l2)
    clear hf2 l1 l2 l3
    cases hv : validTab n0 a0 with
    | false =>
      rw [hv] at HVT
      clear hv
      go_enter Try.func5, Try.ntmps5
      go_wp2_with (first
        | (refine ld_bk b1 _ rfl (.tmp 4) rfl _ rfl _ HB0.out.2.1 ?_)
        | (go_at_call 7; refine (HFEW.out _ HB0.out.2.2.1 HB0.out.2.2.2.1).mono ?_; rintro e w2 ⟨rfl, hb⟩; rw [← HW.out] at hb; have HB := Lib.hid hb; obtain ⟨gt, _, _, _, _⟩ := HBX.out _ HB.out; have t0 : w2.cell? ⟨w.heap.size, 0, none⟩ = some (.int .i64 n0) := cell_of_row _ _ _ _ _ _ gt; have t1 : w2.cell? ⟨w.heap.size, 1, none⟩ = some (.slice ta a0.length tc) := cell_of_row _ _ _ _ _ _ gt; clear gt; clear hb)
        | (go_at_call 8; refine (HVT.out _ (HBX.out _ HB.out).2.2.1).mono ?_; rintro e w3 ⟨rfl, hb⟩; replace HB := Lib.hid (HB.out.trans (hb.mono HB.out.size)); clear t0 t1 hb; obtain ⟨gt, _, _, _, _⟩ := HBX.out _ HB.out; have t0 : w3.cell? ⟨w.heap.size, 0, none⟩ = some (.int .i64 n0) := cell_of_row _ _ _ _ _ _ gt; have t1 : w3.cell? ⟨w.heap.size, 1, none⟩ = some (.slice ta a0.length tc) := cell_of_row _ _ _ _ _ _ gt; clear gt)
        | (go_at_call 9; refine (HSAN.out _).mono ?_; rintro e ws ⟨rfl, hb⟩; replace HB := Lib.hid (HB.out.trans (hb.mono HB.out.size)); clear hb))
      go_ret
      exact ⟨rfl, (HBX.out _ HB.out).2.2.2.2⟩
    | true =>
      have HV := Lib.hid hv
      rw [hv] at HVT
      clear hv
      cases hr : planK n0 a0 b1 a1 a2 with
      | error c =>
        have hne := planK_err hr
        have e1 : (c == 0) = false := by rw [beq_eq_false_iff_ne]; exact hne
        have e2 : (c != 0) = true := by rw [bne_iff_ne]; exact hne
        rw [hr] at HPC
        clear hr hne
        go_enter Try.func5, Try.ntmps5
        go_upto_region 3 with (first
          | (refine ld_bk b1 _ rfl (.tmp 4) rfl _ rfl _ HB0.out.2.1 ?_)
          | (go_at_call 7; refine (HFEW.out _ HB0.out.2.2.1 HB0.out.2.2.2.1).mono ?_; rintro e w2 ⟨rfl, hb⟩; rw [← HW.out] at hb; have HB := Lib.hid hb; obtain ⟨gt, _, _, _, _⟩ := HBX.out _ HB.out; have t0 : w2.cell? ⟨w.heap.size, 0, none⟩ = some (.int .i64 n0) := cell_of_row _ _ _ _ _ _ gt; have t1 : w2.cell? ⟨w.heap.size, 1, none⟩ = some (.slice ta a0.length tc) := cell_of_row _ _ _ _ _ _ gt; clear gt; clear hb)
          | (go_at_call 8; refine (HVT.out _ (HBX.out _ HB.out).2.2.1).mono ?_; rintro e w3 ⟨rfl, hb⟩; replace HB := Lib.hid (HB.out.trans (hb.mono HB.out.size)); clear t0 t1 hb; obtain ⟨gt, _, _, _, _⟩ := HBX.out _ HB.out; have t0 : w3.cell? ⟨w.heap.size, 0, none⟩ = some (.int .i64 n0) := cell_of_row _ _ _ _ _ _ gt; have t1 : w3.cell? ⟨w.heap.size, 1, none⟩ = some (.slice ta a0.length tc) := cell_of_row _ _ _ _ _ _ gt; clear gt))
        obtain ⟨_, gb, rt, rb, _⟩ := HBX.out _ HB.out
        have GB := Lib.hid gb
        have RT := Lib.hid rt
        have RB := Lib.hid rb
        clear gb rt rb
        go_upto_region 4 with (first
          | (refine ld_bk b1 _ rfl (.tmp 4) rfl _ rfl _ GB.out ?_)
          | (go_at_call 10; refine (HPC.out _ RT.out RB.out HL.out.1 HL.out.2 HV.out).mono ?_; rintro e w4 hp; obtain ⟨rfl, hb⟩ := planT_no_out hp; replace HB := Lib.hid (HB.out.trans (hb.mono HB.out.size)); clear hp hb))
        replace HB := Lib.hid (HB.out.alloc HB.out.size (.cells #[.int .i64 0, .slice none 0 0] 24))
        go_wp2_with (go_at_call 9; refine (HSAN.out _).mono ?_; rintro e ws ⟨rfl, hb⟩; replace HB := Lib.hid (HB.out.trans (hb.mono HB.out.size)); clear hb)
        go_ret
        exact ⟨rfl, (HBX.out _ HB.out).2.2.2.2⟩
      | ok s =>
        have hgood := planK_good HV.out hr
        have hklen := hgood.klen
        have hnxt := hgood.nxt
        have hidl := (plRun_len _ _ _ (planK_ok hr).2.2.2).2.1
        simp only [List.length_nil] at hidl
        have hnb := (validTab_iff _ _).1 HV.out
        have m0 : s.ids.length ≤ 40 := by have := HL.out.2; omega
        have m1 : a0.length ≤ 40 := HL.out.1
        have m5 : a1.length ≤ 40 := HL.out.2
        have m2 : 1 ≤ n0 := hnb.2.1
        have m3 : n0 ≤ 2147483647 := hnb.2.2.1
        have c1 : ((s.ks.length : Int) != (a0.length : Int) + s.ids.length) = false := by rw [bne_eq_false_iff_eq]; omega
        have c2 : (s.nx != n0 + (s.ids.length : Int)) = false := by rw [bne_eq_false_iff_eq]; omega
        have HKL := Lib.hid hklen
        have HGOOD := Lib.hid hgood
        have HEQL := Lib.hid eql_k
        rw [hr] at HPC
        clear hr hgood hklen hnxt hidl hnb
        go_enter Try.func5, Try.ntmps5
        go_upto_region 3 with (first
          | (refine ld_bk b1 _ rfl (.tmp 4) rfl _ rfl _ HB0.out.2.1 ?_)
          | (go_at_call 7; refine (HFEW.out _ HB0.out.2.2.1 HB0.out.2.2.2.1).mono ?_; rintro e w2 ⟨rfl, hb⟩; rw [← HW.out] at hb; have HB := Lib.hid hb; obtain ⟨gt, _, _, _, _⟩ := HBX.out _ HB.out; have t0 : w2.cell? ⟨w.heap.size, 0, none⟩ = some (.int .i64 n0) := cell_of_row _ _ _ _ _ _ gt; have t1 : w2.cell? ⟨w.heap.size, 1, none⟩ = some (.slice ta a0.length tc) := cell_of_row _ _ _ _ _ _ gt; clear gt; clear hb)
          | (go_at_call 8; refine (HVT.out _ (HBX.out _ HB.out).2.2.1).mono ?_; rintro e w3 ⟨rfl, hb⟩; replace HB := Lib.hid (HB.out.trans (hb.mono HB.out.size)); clear t0 t1 hb; obtain ⟨gt, _, _, _, _⟩ := HBX.out _ HB.out; have t0 : w3.cell? ⟨w.heap.size, 0, none⟩ = some (.int .i64 n0) := cell_of_row _ _ _ _ _ _ gt; have t1 : w3.cell? ⟨w.heap.size, 1, none⟩ = some (.slice ta a0.length tc) := cell_of_row _ _ _ _ _ _ gt; clear gt))
        obtain ⟨_, gb, rt, rb, _⟩ := HBX.out _ HB.out
        have GB := Lib.hid gb
        have RT := Lib.hid rt
        have RB := Lib.hid rb
        clear gb rt rb
        go_upto_region 6 with (first
          | (refine ld_bk b1 _ rfl (.tmp 4) rfl _ rfl _ GB.out ?_)
          | (go_at_call 10; refine (HPC.out _ RT.out RB.out HL.out.1 HL.out.2 HV.out).mono ?_; rintro e w4 hp; obtain ⟨ka, kcap, ia, icap, rfl, hk, hi, hb⟩ := planT_ok_out hp; replace HB := Lib.hid (HB.out.trans (hb.mono HB.out.size)); have RK := Lib.hid hk; have RI := Lib.hid hi; clear hp hk hi hb))
        have hs4 := HB.out.size
        have HY : Hid (∀ w', Below (w4.alloc (.cells #[.int .i64 s.nx, .slice ka s.ks.length kcap] 24)).heap.size (w4.alloc (.cells #[.int .i64 s.nx, .slice ka s.ks.length kcap] 24)) w' →
            Below w.heap.size w w' ∧ RdK w' (.slice ka s.ks.length kcap) s.ks ∧ RdI w' (.slice ia s.ids.length icap) s.ids ∧ RdK w' (.slice ta a0.length tc) a0 ∧ RdK w' (.slice ba a1.length bcap) a1 ∧
            w'.cell? ⟨w4.heap.size, 0, none⟩ = some (.int .i64 s.nx) ∧ w'.cell? ⟨w4.heap.size, 1, none⟩ = some (.slice ka s.ks.length kcap) ∧ w'.cell? ⟨w.heap.size, 0, none⟩ = some (.int .i64 n0) ∧ w'.cell? ⟨w.heap.size, 1, none⟩ = some (.slice ta a0.length tc) ∧ w'.cell? ⟨w.heap.size + 1, 37, none⟩ = some (.slice ba a1.length bcap)) :=
          Lib.hid (fun w' h => by
            have hB := (HB.out.alloc HB.out.size (.cells #[.int .i64 s.nx, .slice ka s.ks.length kcap] 24)).trans (h.mono (HB.out.alloc HB.out.size _).size)
            obtain ⟨x1, x2, x3, x4, x5⟩ := HBX.out _ hB
            have hr := row_keep (heap_alloc_new w4 (.cells #[.int .i64 s.nx, .slice ka s.ks.length kcap] 24)) h
            exact ⟨x5, (RK.out.alloc _).on h, (RI.out.alloc _).on h, x3, x4, cell_of_row _ _ _ _ _ _ hr, cell_of_row _ _ _ _ _ _ hr, cell_of_row _ _ _ _ _ _ x1, cell_of_row _ _ _ _ _ _ x1, (cell_of_row _ _ _ _ _ _ x2).trans (bc_37 b1 _)⟩)
        obtain ⟨Wq, hWq⟩ : ∃ Wq, Wq = w4.alloc (.cells #[.int .i64 s.nx, .slice ka s.ks.length kcap] 24) := ⟨_, rfl⟩
        have hz : w4.heap.size < Wq.heap.size := by rw [hWq]; simp
        have hz0 : w.heap.size < Wq.heap.size := by omega
        have hz1 : w.heap.size + 1 < Wq.heap.size := by omega
        rw [← hWq] at HY ⊢
        clear hWq
        obtain ⟨_, _, _, _, _, q0, q1, t0, t1, b37⟩ := HY.out Wq (Below.refl _ _)
        go_wp2
        go_loopw [65] (fun o wr => ∃ i : Nat, i ≤ a0.length ∧ o = .int .i64 i ∧ Hid (Below Wq.heap.size Wq wr)) (fun o _ => a0.length - (intOf o).toNat)
        case atStart => exact ⟨0, Nat.zero_le _, rfl, Lib.hid (Below.refl _ _)⟩
        case round =>
          obtain ⟨i, hi, rfl, hb⟩ := hrel
          clear q0 q1 t0 t1 b37
          obtain ⟨_, rk, _, rt, _, q0, q1, t0, t1, b37⟩ := HY.out wr hb.out
          have hbs := hb.out.size
          have y0 : w.heap.size < wr.heap.size := by omega
          have y1 : w.heap.size + 1 < wr.heap.size := by omega
          have y4 : w4.heap.size < wr.heap.size := by omega
          by_cases hlt : i < a0.length
          · obtain ⟨bb, off, rfl, hbl, hrow⟩ := rt.cells (by omega)
            obtain ⟨kb, koff, rfl, hkl, krow⟩ := rk.cells (by have := HKL.out; omega)
            obtain ⟨d0, d1, d2, d3, d4, d5, d6, d7, d8⟩ := hrow i hlt
            obtain ⟨e0, e1, e2, e3, e4, e5, e6, e7, e8⟩ := krow i (by have := HKL.out; omega)
            rw [old_key HGOOD.out i hlt] at e0 e1 e2 e3 e4 e5 e6 e7 e8
            have hneq := fun w' => neq_k (keyAt a0 i) (keyAt a0 i) w'
            rw [kEq_eq, decide_eq_true rfl] at hneq
            unfold kc at hneq
            have i1 : (i : Int) < a0.length := by omega
            have i2 : (i : Int) < s.ks.length := by have := HKL.out; omega
            have i3 : i < s.ks.length := by have := HKL.out; omega
            have HK := Lib.hid hlt
            clear hrow krow rk rt hlt
            go_wp2
            first | refine allD (by kernel_rfl) (by kernel_rfl) ?_ | refine all0 (by kernel_rfl) (by kernel_rfl) ?_
            repeat (go_big_quiet_step (fail))
            refine wpQuiet_nil ?_
            rintro _ ⟨nq, rfl⟩
            go_wp2
            go_roundw
            case rel => exact ⟨i + 1, HK.out, by go_num, Lib.hid (below_drewN _ (hb.out.alloc hbs _))⟩
            case measure => have := HK.out; simp [intOf]; omega
          · have i1 : (a0.length : Int) ≤ i := by omega
            have HB1 := hb
            rename World => wr1
            clear rk rt hb
            go_wp2
            go_loopw [80] (fun o wr2 => ∃ j : Nat, j ≤ s.ids.length ∧ o = .int .i64 j ∧ Hid (Below Wq.heap.size Wq wr2)) (fun o _ => s.ids.length - (intOf o).toNat)
            case atStart => exact ⟨0, Nat.zero_le _, rfl, HB1⟩
            case round =>
              rename World => wr2
              obtain ⟨j, hj, rfl, hb⟩ := hrel
              clear q0 q1 t0 t1 b37 y0 y1 y4 hbs
              obtain ⟨_, rk, ri, _, _, q0, q1, t0, t1, b37⟩ := HY.out wr2 hb.out
              have hbs := hb.out.size
              have y0 : w.heap.size < wr2.heap.size := by omega
              have y1 : w.heap.size + 1 < wr2.heap.size := by omega
              have y4 : w4.heap.size < wr2.heap.size := by omega
              by_cases hlt : j < s.ids.length
              · have hn := newAt HGOOD.out j hlt
                obtain ⟨lb, loff, rfl, llb, lrow⟩ := ri.cells (by omega)
                have l0 := lrow j hlt
                rw [hn.id] at l0
                obtain ⟨kb, koff, rfl, hkl, krow⟩ := rk.cells (by have := HKL.out; omega)
                obtain ⟨e0, e1, e2, e3, e4, e5, e6, e7, e8⟩ := krow (a0.length + j) (by have := HKL.out; omega)
                obtain ⟨_, kcap', ekc, hkcap, _, _⟩ := id rk
                cases ekc
                have i1 : (j : Int) < s.ids.length := by omega
                have i2 : (a0.length : Int) + j < s.ks.length := by have := HKL.out; omega
                have i3 : a0.length + j < s.ks.length := by have := HKL.out; omega
                have i4 : (a0.length : Int) + j ≤ kcap := by omega
                have i5 : a0.length + j ≤ kcap := by omega
                have n1 := hn.kid
                have n2 := hn.fin
                have n3 := hn.fnd
                have n4 := hn.ear
                have HK := Lib.hid hlt
                clear lrow krow rk ri hlt hn hkcap
                generalize keyAt s.ks (a0.length + j) = x at *
                have HX : Hid (∀ w', Below (wr2.alloc (.cells (kc x) 30)).heap.size (wr2.alloc (.cells (kc x) 30)) w' → KAt w' wr2.heap.size x ∧ Below Wq.heap.size Wq w') := Lib.hid (fun w' h => ⟨(KAt.new wr2 x).on h, hb.out.trans ((below1 _ _ h).mono hbs)⟩)
                unfold kc at HX
                have c3 : (x.id != n0 + (j : Int)) = false := by rw [bne_eq_false_iff_eq]; exact n1
                have c4 : ¬ x.fin ≤ a2 := by omega
                have N3 := Lib.hid n3
                have N4 := Lib.hid n4
                clear n1 n2 n3 n4
                go_wp2
                go_loopw [15, 97] (fun fd o w3 => ∃ m : Nat, m ≤ a1.length ∧ o = .int .i64 m ∧ fd = .bool (fnd a1 x m) ∧ Hid (Below (wr2.alloc (.cells #[.int .i64 x.id, .int .i64 x.ty, .string ⟨x.val.toArray⟩, .int .i64 x.uses, .int .i64 x.start, .int .i64 x.fin, .int .i64 x.ver, .int .i64 x.par, .bool x.raw] 30)).heap.size (wr2.alloc (.cells #[.int .i64 x.id, .int .i64 x.ty, .string ⟨x.val.toArray⟩, .int .i64 x.uses, .int .i64 x.start, .int .i64 x.fin, .int .i64 x.ver, .int .i64 x.par, .bool x.raw] 30)) w3)) (fun _ o _ => a1.length - (intOf o).toNat)
                case atStart => exact ⟨0, Nat.zero_le _, rfl, by rw [fnd_zero], Lib.hid (Below.refl _ _)⟩
                case round =>
                  rename World => w3
                  obtain ⟨m, hm, rfl, rfl, hb3⟩ := hrel
                  obtain ⟨kx, hbq⟩ := HX.out w3 hb3.out
                  obtain ⟨_, _, _, _, rb, q0, q1, t0, t1, b37⟩ := HY.out w3 hbq
                  obtain ⟨x0, x1, x2, x3, x4, x5, x6, x7, x8⟩ := kx.nine
                  simp only [Nat.zero_add] at x1 x2 x3 x4 x5 x6 x7 x8
                  have hlx := kx.lt
                  have hb3s := hb3.out.size
                  have z0 : w.heap.size < w3.heap.size := by omega
                  have z1 : w.heap.size + 1 < w3.heap.size := by omega
                  have z4 : w4.heap.size < w3.heap.size := by omega
                  have nx1 : wr2.heap.size ≠ w3.heap.size := by omega
                  have nx2 : w3.heap.size ≠ wr2.heap.size := by omega
                  by_cases hlm : m < a1.length
                  · obtain ⟨bb2, boff, rfl, hbl2, brow⟩ := rb.cells (by omega)
                    obtain ⟨d0, d1, d2, d3, d4, d5, d6, d7, d8⟩ := brow m hlm
                    have fs := fnd_succ a1 x m hlm
                    have heql := HEQL.out x (withPar (withId (keyAt a1 m) x.id) x.par)
                    have j1 : (m : Int) < a1.length := by omega
                    have HM := Lib.hid hlm
                    clear brow rb hlm kx hbq
                    generalize keyAt a1 m = y at *
                    unfold kc at heql
                    dsimp only [withPar, withId] at heql
                    dsimp only [withPar, withId] at fs
                    generalize kEq x { id := x.id, ty := y.ty, val := y.val, uses := y.uses, start := y.start, fin := y.fin, ver := y.ver, par := x.par, raw := y.raw } = ke at *
                    have FS := Lib.hid fs
                    clear fs
                    cases hfm : fnd a1 x m with
                    | true =>
                      have HFM := Lib.hid hfm
                      clear hfm
                      go_wp2
                      go_region
                      all_goals go_wp2
                      all_goals
                        go_roundw
                        case rel => exact ⟨m + 1, HM.out, by go_num, by rw [FS.out, HFM.out, Bool.true_or], Lib.hid (by first | exact hb3.out.alloc hb3s _ | exact (hb3.out.alloc hb3s _).drew | exact below_drewN _ (hb3.out.alloc hb3s _))⟩
                        case measure => have := HM.out; simp [intOf]; omega
                    | false =>
                      have HFM := Lib.hid hfm
                      clear hfm
                      go_wp2
                      go_region
                      all_goals go_wp2
                      all_goals
                        go_roundw
                        case rel => exact ⟨m + 1, HM.out, by go_num, by rw [FS.out, HFM.out, Bool.false_or], Lib.hid (by first | exact hb3.out.alloc hb3s _ | exact (hb3.out.alloc hb3s _).drew | exact below_drewN _ (hb3.out.alloc hb3s _))⟩
                        case measure => have := HM.out; simp [intOf]; omega
                  · obtain rfl : m = a1.length := by omega
                    rw [N3.out]
                    have j1 : (a1.length : Int) ≤ a1.length := Int.le_refl _
                    clear rb kx hbq
                    go_wp2
                    go_loopw [18, 126] (fun er o w5 => ∃ m2 : Nat, m2 ≤ a0.length + j ∧ o = .int .i64 m2 ∧ er = .bool (ear s.ks x m2) ∧ Hid (Below (wr2.alloc (.cells #[.int .i64 x.id, .int .i64 x.ty, .string ⟨x.val.toArray⟩, .int .i64 x.uses, .int .i64 x.start, .int .i64 x.fin, .int .i64 x.ver, .int .i64 x.par, .bool x.raw] 30)).heap.size (wr2.alloc (.cells #[.int .i64 x.id, .int .i64 x.ty, .string ⟨x.val.toArray⟩, .int .i64 x.uses, .int .i64 x.start, .int .i64 x.fin, .int .i64 x.ver, .int .i64 x.par, .bool x.raw] 30)) w5)) (fun _ o _ => a0.length + j - (intOf o).toNat)
                    case atStart => exact ⟨0, Nat.zero_le _, rfl, by rw [ear_zero], hb3⟩
                    case round =>
                      rename World => w5
                      obtain ⟨m2, hm2, rfl, rfl, hb5⟩ := hrel
                      obtain ⟨kx, hbq⟩ := HX.out w5 hb5.out
                      clear q0 q1 t0 t1 b37 x0 x1 x2 x3 x4 x5 x6 x7 x8 hlx z0 z1 z4 nx1 nx2
                      obtain ⟨_, rk, _, _, _, q0, q1, t0, t1, b37⟩ := HY.out w5 hbq
                      obtain ⟨x0, x1, x2, x3, x4, x5, x6, x7, x8⟩ := kx.nine
                      simp only [Nat.zero_add] at x1 x2 x3 x4 x5 x6 x7 x8
                      have hlx := kx.lt
                      have hb5s := hb5.out.size
                      have hq5 := hbq.size
                      have z0 : w.heap.size < w5.heap.size := by omega
                      have z1 : w.heap.size + 1 < w5.heap.size := by omega
                      have z4 : w4.heap.size < w5.heap.size := by omega
                      have nx1 : wr2.heap.size ≠ w5.heap.size := by omega
                      have nx2 : w5.heap.size ≠ wr2.heap.size := by omega
                      by_cases hlm : m2 < a0.length + j
                      · obtain ⟨kb', koff', ek, hkl', krow⟩ := rk.cells (by omega)
                        cases ek
                        obtain ⟨d0, d1, d2, d3, d4, d5, d6, d7, d8⟩ := krow m2 (by omega)
                        have fs := ear_succ s.ks x m2 (by omega)
                        have j1 : (m2 : Int) < (a0.length : Int) + j := by omega
                        have HM := Lib.hid hlm
                        clear krow rk hlm kx hbq
                        generalize keyAt s.ks m2 = y at *
                        have FS := Lib.hid fs
                        clear fs
                        cases hfm : ear s.ks x m2 with
                        | true =>
                          have HFM := Lib.hid hfm
                          clear hfm
                          go_wp2
                          go_roundw
                          case rel => exact ⟨m2 + 1, HM.out, by go_num, by rw [FS.out, HFM.out, Bool.true_or], Lib.hid (hb5.out.alloc hb5s _)⟩
                          case measure => have := HM.out; simp [intOf]; omega
                        | false =>
                          have HFM := Lib.hid hfm
                          clear hfm
                          go_wp2
                          go_roundw
                          case rel => exact ⟨m2 + 1, HM.out, by go_num, by rw [FS.out, HFM.out, Bool.false_or], Lib.hid (hb5.out.alloc hb5s _)⟩
                          case measure => have := HM.out; simp [intOf]; omega
                      · obtain rfl : m2 = a0.length + j := by omega
                        rw [N4.out]
                        have HBQ := Lib.hid hbq
                        clear rk kx hbq
                        go_wp2
                        go_roundw
                        case rel => exact ⟨j + 1, HK.out, by go_num, HBQ⟩
                        case measure => have := HK.out; simp [intOf]; omega
              · have i1 : (s.ids.length : Int) ≤ j := by omega
                have HF0 := Lib.hid (HY.out wr2 hb.out).1
                clear rk ri hb
                go_wp2_with (go_at_call 9; refine (HSAN.out _).mono ?_; rintro e ws ⟨rfl, hb⟩; have HF := Lib.hid (HF0.out.trans (hb.mono HF0.out.size)); clear hb)
                go_ret
                exact ⟨rfl, HF.out⟩
set_option maxRecDepth 100000 in
theorem restoreNarrow_lifted (os : Os) (started : os.Started) (H : Type) (enc : TypeId × Value → H) :
    ReturnsInHanded {} Try.checked os 5 .any (Rows.restoreNarrowSpec.pre6 enc Try.prog Try.f5 Rows.restoreNarrowRow.domain false) (Rows.restoreNarrowSpec.post enc Try.prog Try.f5 false true false false) := by
  refine returnsInHanded_of_change (C := Try.checked) Try.own started (by kernel_rfl) Try.func5
    (ChangeSpec.witness6 (enc := enc) (C := Try.checked) false ⟨#[], #[.agg #[.int .i64 0, .slice none 0 0], .agg #[.int .u8 0, .int .u8 0, .int .u8 0, .int .u8 0, .int .u8 0, .int .u8 0, .int .u8 0, .int .u8 0, .int .u8 0, .int .u8 0, .int .u8 0, .int .u8 0, .int .u8 0, .int .u8 0, .int .u8 0, .int .u8 0, .int .i64 0, .int .i64 0, .int .i64 0, .int .i64 0, .int .u8 0, .int .u8 0, .int .u8 0, .int .u8 0, .int .u8 0, .int .u8 0, .int .u8 0, .int .u8 0, .int .u8 0, .int .u8 0, .int .u8 0, .int .u8 0, .int .u8 0, .int .u8 0, .int .u8 0, .int .u8 0, .string ByteArray.empty, .slice none 0 0], .int .i64 0], []⟩ 8 (by kernel_rfl) (by kernel_rfl) (by kernel_rfl) (by kernel_rfl)) ?_
  intro W base args ds gs before hval0 hW hcnd _
  have hval : ∀ (j : Nat) t v, Try.f5.params[j]? = some t → args[j]? = some v → Value.okWide Try.prog W .any base t v := hval0
  have hW' := hW
  obtain ⟨p, q, hA0, hV, rfl, hfz, hnd⟩ := hW
  have hA : DataW.TrodAll enc Try.prog W 0 (fun _ => true) true Try.f5.params.toList args.toList ds p := hA0
  rw [Try.params5] at hA hval
  obtain ⟨v0, vs0, d0, ds0, p0, q0, hargs, rfl, rfl, h0, r0⟩ := trodAll_cons hA
  obtain ⟨v1, vs1, d1, ds1, p1, q1, rfl, rfl, rfl, h1, r1⟩ := trodAll_cons r0
  obtain ⟨v2, vs2, d2, ds2, p2, q2, rfl, rfl, rfl, h2, r2⟩ := trodAll_cons r1
  obtain ⟨rfl, rfl, rfl⟩ := trodAll_nil r2
  obtain rfl : args = #[v0, v1, v2] := by cases args; simp_all
  obtain ⟨rfl, rfl⟩ := trodVars_none hV
  have k0 := h0
  have lt0 : ∀ x ∈ p0, x.block < W.heap.size := by obtain ⟨m, hm⟩ := k0; exact DataW.trod_lt m _ _ _ hm
  have k1 := h1
  have lt1 : ∀ x ∈ p1, x.block < W.heap.size := by obtain ⟨m, hm⟩ := k1; exact DataW.trod_lt m _ _ _ hm
  obtain ⟨n0, u0, a0, rfl, x0, w0, f0⟩ := open_t (hval 0 24 v0 rfl rfl) h0
  obtain ⟨b1, u1, a1, rfl, x1, w1, f1⟩ := open_bk (hval 1 28 v1 rfl rfl) h1
  obtain ⟨a2, rfl, rfl, rfl, w2⟩ := open_int Try.underlying3 (hval 2 3 v2 rfl rfl) h2
  clear hA0 hval0
  refine (restoreNarrow_walk n0 u0 a0 b1 u1 a1 a2 W x0 w0 f0 x1 w1 f1 w2).mono fun e W' ⟨he, bel⟩ => ?_
  subst he
  exact ⟨_, rfl, _, _, _, [], _, [], hW', trodAll_mk1 (shut_bool Try.underlying4 _), (trodAll_cons_mk (Below.trod Try.laidOut (by kernel_rfl) (of_decide_eq_true (by kernel_rfl)) k0 bel lt0) (trodAll_cons_mk (Below.trod Try.laidOut (by kernel_rfl) (of_decide_eq_true (by kernel_rfl)) k1 bel lt1) (trodAll_cons_mk (shut_int Try.underlying3 w2) trodAll_mk0))), rfl, bel.frame _, fun h => by cases h⟩
theorem RestoreNarrow_proved : Rows.RestoreNarrowSaid :=
  OpenClaim.holds_of_wide 5 Try.f5 rfl rfl rfl rfl rfl rfl rfl ⟨rfl, rfl, rfl, rfl, rfl⟩ rfl rfl rfl rfl rfl (by kernel_rfl) Try.func5 (by kernel_rfl)
    (of_decide_eq_true (by kernel_rfl)) (by unfold Func.isWrapper; first | (rw [if_pos (by decide +kernel)]; kernel_rfl) | (rw [if_neg (by decide +kernel)]; exact ⟨rfl, rfl⟩))
    (fun os started H enc _ => restoreNarrow_lifted os started H enc)

end Go.Proofs.Ytjbndfnhollfnaa
