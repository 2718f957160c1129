/- The law RestoreMatchesSpec holds for every input: it returns true and leaves its arguments as they were. No condition. -/
import Derived.Test.YtjbndfnhollfnaaFrameK
import Derived.Test.YtjbndfnhollfnaaSanK
import Derived.Test.YtjbndfnhollfnaaLawKit
namespace Go.Proofs.Ytjbndfnhollfnaa
open Go.ChangeShapes Go.WideShapes Go.ChangeAt Go.RowKit
open Go.ChangeMaps (open_string shut_string)
set_option linter.unusedSimpArgs false
set_option linter.unusedVariables false
attribute [local irreducible] pc drow Calls validB admitK dEq planK validTab holdsK twinId twinIs PlanT PlanR
set_option maxRecDepth 100000 in
set_option maxHeartbeats 8000000 in
theorem restoreMatchesSpec_walk (n0 : Int) (u0 : Value) (a0 : List K) (b1 : BK) (u1 : Value) (a1 : List K) (a2 : K) (a3 : Int) (a4 : PK) (w : World) (x0 : (Lit.int .i64 n0).wf = true) (w0 : RdK w u0 a0) (f0 : ∀ i, i < a0.length → (keyAt a0 i).wf) (x1 : b1.mo.length ≤ maxLen) (w1 : RdK w u1 a1) (f1 : ∀ i, i < a1.length → (keyAt a1 i).wf) (f2 : a2.wf) (w3 : (Lit.int .i64 a3).wf = true) :
    Calls Try.prog 3 #[.agg #[.int .i64 n0, u0], .agg (bc b1 u1), kv a2, .int .i64 a3, .agg (pc a4)] w fun e w' => e = .returned (.bool true) ∧ Below w.heap.size w w' := by
  obtain ⟨W0, hW0⟩ : ∃ W0, W0 = (((w.alloc (.cells #[.int .i64 n0, u0] 24)).alloc (.cells (bc b1 u1) 28)).alloc (.cells (kc a2) 30)).alloc (.cells (pc a4) 32) := ⟨_, rfl⟩
  have HRT := Lib.hid w0
  have HRB := Lib.hid w1
  have hbx : ∀ w', Below W0.heap.size W0 w' → w'.heap[w.heap.size]? = some (.cells #[.int .i64 n0, u0] 24 (0, 0)) ∧ w'.heap[w.heap.size + 1]? = some (.cells (bc b1 u1) 28 (0, 0)) ∧ KAt w' (w.heap.size + 1 + 1) a2 ∧ w'.heap[w.heap.size + 1 + 1 + 1]? = some (.cells (pc a4) 32 (0, 0)) ∧ RdK w' u0 a0 ∧ RdK w' u1 a1 ∧ Below w.heap.size w w' := by
    intro w' h
    rw [hW0] at h
    exact ⟨row_keep (four_0 _ _ _ _ _) h, row_keep (four_1 _ _ _ _ _) h, row_keep (four_2 _ _ _ _ _) h, row_keep (four_3 _ _ _ _ _) h, HRT.out.on (below4 _ _ _ _ _ h), HRB.out.on (below4 _ _ _ _ _ h), below4 _ _ _ _ _ h⟩
  have HBX := Lib.hid hbx
  have HB0 := Lib.hid (hbx W0 (Below.refl _ _))
  have HS0 : w.heap.size + 1 + 1 + 1 < W0.heap.size := by rw [hW0]; simp
  rw [hW0] at HB0
  have HW := Lib.hid hW0
  have HFEW : Hid (∀ W, RdK W u0 a0 → RdK W u1 a1 → Calls Try.prog 7 #[.agg #[.int .i64 n0, u0], .agg (bc b1 u1)] W fun e w' => e = .returned (.bool (decide (a0.length ≤ 40) && (decide (a1.length ≤ 40) && decide (b1.mo.length ≤ 100)))) ∧ Below W.heap.size W w') := Lib.hid (fun W h h' => few_k n0 _ u1 a0 a1 b1 W h h')
  have HSAN := Lib.hid sanity_c
  have HVT : Hid (∀ W, RdK W u0 a0 → Calls Try.prog 8 #[.agg #[.int .i64 n0, u0]] W fun e w' => e = .returned (.bool (validTab n0 a0)) ∧ Below W.heap.size W w') := Lib.hid (fun W h => validTable_r n0 u0 a0 W h)
  have HPC : Hid (∀ W, RdK W u0 a0 → RdK W u1 a1 → a0.length ≤ 40 → a1.length ≤ 40 → validTab n0 a0 = true → Calls Try.prog 10 #[.agg #[.int .i64 n0, u0], .agg (bc b1 u1), .int .i64 a3] W (PlanT W (planK n0 a0 b1 a1 a3))) := Lib.hid (fun W h h' l1 l2 ht => plan_c n0 a3 u0 u1 a0 a1 b1 W h h' f1 x1 l1 l2 ht)
  have HPR : Hid (∀ W, RdK W u0 a0 → RdK W u1 a1 → a0.length ≤ 40 → a1.length ≤ 40 → validTab n0 a0 = true → Calls Try.prog 11 #[.agg #[.int .i64 n0, u0], .agg (bc b1 u1), .int .i64 a3] W (PlanR W (planK n0 a0 b1 a1 a3))) := Lib.hid (fun W h h' l1 l2 ht => plan_r n0 a3 u0 u1 a0 a1 b1 W h h' l1 l2 ht)
  have HADM : Hid (∀ W, RdK W u1 a1 → Calls Try.prog 18 #[.agg (pc a4), .agg (bc b1 u1)] W fun e w' => e = .returned (.int .i64 (admitK a4 b1 a1)) ∧ Below W.heap.size W w') := Lib.hid (fun W h => admit_c a4 b1 u1 a1 W h f1 x1)
  obtain ⟨ta, tc, rfl, _, _, _⟩ := w0
  obtain ⟨ba, bcap, rfl, _, _, _⟩ := w1
  clear hW0 hbx f1 x1 f0 x0 f2 w3
  unfold kc at HW HB0
  unfold kv kc
  cases hf : (decide (a0.length ≤ 40) && (decide (a1.length ≤ 40) && decide (b1.mo.length ≤ 100))) with
  | false =>
    rw [hf] at HFEW
    clear hf
    go_enter Try.func3, Try.ntmps3
    go_wp2_with (first
      | (refine ld_bk b1 _ rfl (.tmp 6) rfl _ rfl _ HB0.out.2.1 ?_)
      | (go_at_call 7; refine (HFEW.out _ HB0.out.2.2.2.2.1 HB0.out.2.2.2.2.2.1).mono ?_; rintro e w2 ⟨rfl, hb⟩; rw [← HW.out] at hb; have HB := Lib.hid hb; obtain ⟨gt, _, _, _, _, _, _⟩ := HBX.out _ HB.out; have t0 : w2.cell? ⟨w.heap.size, 0, none⟩ = some (.int .i64 n0) := cell_of_row _ _ _ _ _ _ gt; have t1 : w2.cell? ⟨w.heap.size, 1, none⟩ = some (.slice ta a0.length tc) := cell_of_row _ _ _ _ _ _ gt; have zt : w.heap.size < w2.heap.size := Nat.lt_of_lt_of_le (by omega) HB.out.size; clear gt; clear hb)
      | (go_at_call 9; refine (HSAN.out _).mono ?_; rintro e ws ⟨rfl, hb⟩; replace HB := Lib.hid (HB.out.trans (hb.mono HB.out.size)); clear hb))
    go_ret
    exact ⟨rfl, (HBX.out _ HB.out).2.2.2.2.2.2⟩
  | true =>
    simp only [Bool.and_eq_true, decide_eq_true_eq] at hf
    obtain ⟨l1, l2, l3⟩ := hf
    have hf2 : (decide (a0.length ≤ 40) && (decide (a1.length ≤ 40) && decide (b1.mo.length ≤ 100))) = true := by simp [l1, l2, l3]
    rw [hf2] at HFEW
    have HL := Lib.hid (And.intro l1 l2)
    clear hf2 l1 l2 l3
    cases hv : validTab n0 a0 with
    | false =>
      rw [hv] at HVT
      clear hv
      go_enter Try.func3, Try.ntmps3
      go_wp2_with (first
        | (refine ld_bk b1 _ rfl (.tmp 6) rfl _ rfl _ HB0.out.2.1 ?_)
        | (go_at_call 7; refine (HFEW.out _ HB0.out.2.2.2.2.1 HB0.out.2.2.2.2.2.1).mono ?_; rintro e w2 ⟨rfl, hb⟩; rw [← HW.out] at hb; have HB := Lib.hid hb; obtain ⟨gt, _, _, _, _, _, _⟩ := HBX.out _ HB.out; have t0 : w2.cell? ⟨w.heap.size, 0, none⟩ = some (.int .i64 n0) := cell_of_row _ _ _ _ _ _ gt; have t1 : w2.cell? ⟨w.heap.size, 1, none⟩ = some (.slice ta a0.length tc) := cell_of_row _ _ _ _ _ _ gt; have zt : w.heap.size < w2.heap.size := Nat.lt_of_lt_of_le (by omega) HB.out.size; clear gt; clear hb)
        | (go_at_call 8; refine (HVT.out _ (HBX.out _ HB.out).2.2.2.2.1).mono ?_; rintro e w3 ⟨rfl, hb⟩; replace HB := Lib.hid (HB.out.trans (hb.mono HB.out.size)); clear t0 t1 zt hb; obtain ⟨gt, _, _, _, _, _, _⟩ := HBX.out _ HB.out; have t0 : w3.cell? ⟨w.heap.size, 0, none⟩ = some (.int .i64 n0) := cell_of_row _ _ _ _ _ _ gt; have t1 : w3.cell? ⟨w.heap.size, 1, none⟩ = some (.slice ta a0.length tc) := cell_of_row _ _ _ _ _ _ gt; have zt : w.heap.size < w3.heap.size := Nat.lt_of_lt_of_le (by omega) HB.out.size; clear gt)
        | (go_at_call 9; refine (HSAN.out _).mono ?_; rintro e ws ⟨rfl, hb⟩; replace HB := Lib.hid (HB.out.trans (hb.mono HB.out.size)); clear hb))
      go_ret
      exact ⟨rfl, (HBX.out _ HB.out).2.2.2.2.2.2⟩
    | true =>
      have HV := Lib.hid hv
      rw [hv] at HVT
      clear hv
      go_enter Try.func3, Try.ntmps3
      go_upto_region 3 with (first
        | (refine ld_bk b1 _ rfl (.tmp 6) rfl _ rfl _ HB0.out.2.1 ?_)
        | (go_at_call 7; refine (HFEW.out _ HB0.out.2.2.2.2.1 HB0.out.2.2.2.2.2.1).mono ?_; rintro e w2 ⟨rfl, hb⟩; rw [← HW.out] at hb; have HB := Lib.hid hb; obtain ⟨gt, _, _, _, _, _, _⟩ := HBX.out _ HB.out; have t0 : w2.cell? ⟨w.heap.size, 0, none⟩ = some (.int .i64 n0) := cell_of_row _ _ _ _ _ _ gt; have t1 : w2.cell? ⟨w.heap.size, 1, none⟩ = some (.slice ta a0.length tc) := cell_of_row _ _ _ _ _ _ gt; have zt : w.heap.size < w2.heap.size := Nat.lt_of_lt_of_le (by omega) HB.out.size; clear gt; clear hb)
        | (go_at_call 8; refine (HVT.out _ (HBX.out _ HB.out).2.2.2.2.1).mono ?_; rintro e w3 ⟨rfl, hb⟩; replace HB := Lib.hid (HB.out.trans (hb.mono HB.out.size)); clear t0 t1 zt hb; obtain ⟨gt, _, _, _, _, _, _⟩ := HBX.out _ HB.out; have t0 : w3.cell? ⟨w.heap.size, 0, none⟩ = some (.int .i64 n0) := cell_of_row _ _ _ _ _ _ gt; have t1 : w3.cell? ⟨w.heap.size, 1, none⟩ = some (.slice ta a0.length tc) := cell_of_row _ _ _ _ _ _ gt; have zt : w.heap.size < w3.heap.size := Nat.lt_of_lt_of_le (by omega) HB.out.size; clear gt))
      obtain ⟨_, gb, _, _, rt, rb, _⟩ := HBX.out _ HB.out
      have GB := Lib.hid gb
      have RT := Lib.hid rt
      have RB := Lib.hid rb
      clear gb rt rb
      go_upto_region 4 with (first
        | (refine ld_bk b1 _ rfl (.tmp 6) rfl _ rfl _ GB.out ?_)
        | (go_at_call 10; refine (HPC.out _ RT.out RB.out HL.out.1 HL.out.2 HV.out).mono ?_; rintro e w4 hp; obtain ⟨ka, kcap, ia, icap, rfl, hk, hi, hb⟩ := planT_out hp; replace HB := Lib.hid (HB.out.trans (hb.mono HB.out.size)); have RK := Lib.hid hk; have RI := Lib.hid hi; obtain ⟨gt, _, _, _, _, _, _⟩ := HBX.out _ HB.out; have t0 : w4.cell? ⟨w.heap.size, 0, none⟩ = some (.int .i64 n0) := cell_of_row _ _ _ _ _ _ gt; have t1 : w4.cell? ⟨w.heap.size, 1, none⟩ = some (.slice ta a0.length tc) := cell_of_row _ _ _ _ _ _ gt; have zt : w.heap.size < w4.heap.size := Nat.lt_of_lt_of_le (by omega) HB.out.size; clear gt; clear hp hk hi hb))
      have hs4 := HB.out.size
      replace HB := Lib.hid (HB.out.alloc HB.out.size (.cells #[.int .i64 (rn (planK n0 a0 b1 a1 a3)), .slice ka (rk (planK n0 a0 b1 a1 a3)).length kcap] 24))
      generalize planK n0 a0 b1 a1 a3 = r at *
      obtain ⟨_, gb, _, _, rt, rb, _⟩ := HBX.out _ HB.out
      replace GB := Lib.hid gb
      replace RT := Lib.hid rt
      replace RB := Lib.hid rb
      clear gb rt rb
      go_upto_region 5 with (first
        | (refine ld_bk b1 _ rfl (.tmp 6) rfl _ rfl _ GB.out ?_)
        | (go_at_call 11; refine (HPR.out _ RT.out RB.out HL.out.1 HL.out.2 HV.out).mono ?_; rintro e w5 hp; obtain ⟨ka2, kcap2, ia2, icap2, rfl, hk, hi, hb⟩ := planR_out hp; have h45 := hb.size; simp only [World.size_alloc] at h45; have QT := Lib.hid (row_keep (heap_alloc_new w4 (.cells #[.int .i64 (rn r), .slice ka (rk r).length kcap] 24)) hb); replace RK := Lib.hid ((RK.out.alloc _).on hb); replace RI := Lib.hid ((RI.out.alloc _).on hb); replace HB := Lib.hid (HB.out.trans (hb.mono HB.out.size)); have RK2 := Lib.hid hk; have RI2 := Lib.hid hi; clear t0 t1; obtain ⟨gt, _, _, _, _, _, _⟩ := HBX.out _ HB.out; have t0 : w5.cell? ⟨w.heap.size, 0, none⟩ = some (.int .i64 n0) := cell_of_row _ _ _ _ _ _ gt; have t1 : w5.cell? ⟨w.heap.size, 1, none⟩ = some (.slice ta a0.length tc) := cell_of_row _ _ _ _ _ _ gt; have zt : w.heap.size < w5.heap.size := Nat.lt_of_lt_of_le (by omega) HB.out.size; clear gt; clear hp hk hi hb))
      have HY : Hid (∀ w', Below (w5.alloc (.cells #[.int .i64 (rn r), .slice ka2 (rk r).length kcap2, .slice ia2 (ri r).length icap2, .int .i64 (re r)] 41)).heap.size (w5.alloc (.cells #[.int .i64 (rn r), .slice ka2 (rk r).length kcap2, .slice ia2 (ri r).length icap2, .int .i64 (re r)] 41)) w' →
          Below W0.heap.size W0 w' ∧ w'.heap[w4.heap.size]? = some (.cells #[.int .i64 (rn r), .slice ka (rk r).length kcap] 24 (0, 0)) ∧ w'.heap[w5.heap.size]? = some (.cells #[.int .i64 (rn r), .slice ka2 (rk r).length kcap2, .slice ia2 (ri r).length icap2, .int .i64 (re r)] 41 (0, 0)) ∧
          RdK w' (.slice ka (rk r).length kcap) (rk r) ∧ RdI w' (.slice ia (ri r).length icap) (ri r) ∧ RdK w' (.slice ka2 (rk r).length kcap2) (rk r) ∧ RdI w' (.slice ia2 (ri r).length icap2) (ri r)) :=
        Lib.hid (fun w' h => ⟨(HB.out.alloc HB.out.size _).trans (h.mono (HB.out.alloc HB.out.size _).size), row_keep (row_keep QT.out ((Below.refl _ _).alloc (Nat.le_refl _) _)) h, row_keep (heap_alloc_new _ _) h, (RK.out.alloc _).on h, (RI.out.alloc _).on h, (RK2.out.alloc _).on h, (RI2.out.alloc _).on h⟩)
      have hs5 := HB.out.size
      have z0 : w.heap.size < w5.heap.size := by omega
      have z1 : w.heap.size + 1 < w5.heap.size := by omega
      have z2 : w.heap.size + 1 + 1 < w5.heap.size := by omega
      have z4 : w4.heap.size < w5.heap.size := by omega
      obtain ⟨_, _, gk, _, rt, _, _⟩ := HBX.out _ (HB.out.alloc HB.out.size (.cells #[.int .i64 (rn r), .slice ka2 (rk r).length kcap2, .slice ia2 (ri r).length icap2, .int .i64 (re r)] 41))
      replace RT := Lib.hid rt
      obtain ⟨_, _, gk, _, _, _, _⟩ := HBX.out _ HB.out
      obtain ⟨k0, k1, k2, k3, k4, k5, k6, k7, k8⟩ := gk.nine
      simp only [Nat.zero_add] at k1 k2 k3 k4 k5 k6 k7 k8
      have HTC : Hid (∀ W, RdK W (.slice ta a0.length tc) a0 → Calls Try.prog 12 #[.agg #[.int .i64 n0, .slice ta a0.length tc], kv a2] W fun e w' => e = .returned (.tuple #[.int .i64 (twinId a0 a2), .bool (twinIs a0 a2)]) ∧ Below W.heap.size W w') := Lib.hid (fun W h => twin_c n0 _ a0 a2 W h)
      have HTR : Hid (∀ W, RdK W (.slice ta a0.length tc) a0 → Calls Try.prog 13 #[.agg #[.int .i64 n0, .slice ta a0.length tc], kv a2] W fun e w' => e = .returned (.tuple #[.int .i64 (twinId a0 a2), .bool (twinIs a0 a2)]) ∧ Below W.heap.size W w') := Lib.hid (fun W h => twin_r n0 _ a0 a2 W h)
      unfold kv kc at HTC HTR
      clear gk rt
      go_upto_region 7 with (first
        | (go_at_call 12; refine (HTC.out _ RT.out).mono ?_; rintro e w6 ⟨rfl, hb⟩; have HC := Lib.hid hb; obtain ⟨hb0, _, _, _, _, _, _⟩ := HY.out _ hb; obtain ⟨gt, _, gk, _, rt, _, _⟩ := HBX.out _ hb0; clear t0 t1 k0 k1 k2 k3 k4 k5 k6 k7 k8 RT; have RT := Lib.hid rt; have t0 : w6.cell? ⟨w.heap.size, 0, none⟩ = some (.int .i64 n0) := cell_of_row _ _ _ _ _ _ gt; have t1 : w6.cell? ⟨w.heap.size, 1, none⟩ = some (.slice ta a0.length tc) := cell_of_row _ _ _ _ _ _ gt; obtain ⟨k0, k1, k2, k3, k4, k5, k6, k7, k8⟩ := gk.nine; simp only [Nat.zero_add] at k1 k2 k3 k4 k5 k6 k7 k8; clear gt gk rt hb hb0)
        | (go_at_call 13; refine (HTR.out _ RT.out).mono ?_; rintro e w7 ⟨rfl, hb⟩; have HC7 := Lib.hid (HC.out.trans (hb.mono HC.out.size)); clear t0 t1 k0 k1 k2 k3 k4 k5 k6 k7 k8 RT hb))
      obtain ⟨hb0, gu, gr, rk1, ri1, rk2, ri2⟩ := HY.out _ HC7.out
      have q0 : w7.cell? ⟨w4.heap.size, 0, none⟩ = some (.int .i64 (rn r)) := cell_of_row _ _ _ _ _ _ gu
      have q1 : w7.cell? ⟨w4.heap.size, 1, none⟩ = some (.slice ka (rk r).length kcap) := cell_of_row _ _ _ _ _ _ gu
      have p0 : w7.cell? ⟨w5.heap.size, 0, none⟩ = some (.int .i64 (rn r)) := cell_of_row _ _ _ _ _ _ gr
      have p1 : w7.cell? ⟨w5.heap.size, 1, none⟩ = some (.slice ka2 (rk r).length kcap2) := cell_of_row _ _ _ _ _ _ gr
      have RK7 := Lib.hid (And.intro rk1 rk2)
      clear hb0 gu gr rk1 ri1 rk2 ri2
      go_upto_region 8 with (first
        | (go_at_call 14; refine (sameT_refl _ _ _ _ _ RK7.out.1 RK7.out.2).mono ?_; rintro e w8 ⟨rfl, hb⟩; have HC8 := Lib.hid (HC7.out.trans (hb.mono HC7.out.size)); obtain ⟨hb0, gu, gr, _, ri1, _, ri2⟩ := HY.out _ HC8.out; clear q0 q1 p0 p1 hb; have q0 : w8.cell? ⟨w4.heap.size, 0, none⟩ = some (.int .i64 (rn r)) := cell_of_row _ _ _ _ _ _ gu; have p0 : w8.cell? ⟨w5.heap.size, 0, none⟩ = some (.int .i64 (rn r)) := cell_of_row _ _ _ _ _ _ gr; have p2 : w8.cell? ⟨w5.heap.size, 2, none⟩ = some (.slice ia2 (ri r).length icap2) := cell_of_row _ _ _ _ _ _ gr; have RI8 := Lib.hid (And.intro ri1 ri2); clear hb0 gu gr ri1 ri2)
        | (go_at_call 15; refine (sameI_refl _ _ _ _ RI8.out.1 RI8.out.2).mono ?_; rintro e w9 ⟨rfl, hb⟩; have HC9 := Lib.hid (HC8.out.trans (hb.mono HC8.out.size)); obtain ⟨hb0, _, gr, _, _, _, _⟩ := HY.out _ HC9.out; clear q0 p0 p2 hb; have p3 : w9.cell? ⟨w5.heap.size, 3, none⟩ = some (.int .i64 (re r)) := cell_of_row _ _ _ _ _ _ gr; have HB9 := Lib.hid hb0; clear hb0 gr))
      obtain ⟨gt, gb, _, gp, rt, rb, hbw⟩ := HBX.out _ HB9.out
      have t0 : w9.cell? ⟨w.heap.size, 0, none⟩ = some (.int .i64 n0) := cell_of_row _ _ _ _ _ _ gt
      have t1 : w9.cell? ⟨w.heap.size, 1, none⟩ = some (.slice ta a0.length tc) := cell_of_row _ _ _ _ _ _ gt
      have p32 := (cell_of_row _ _ 32 _ _ _ gp).trans (pc_32 a4)
      have p33 := (cell_of_row _ _ 33 _ _ _ gp).trans (pc_33 a4)
      have y0 : w.heap.size < w9.heap.size := (Array.getElem?_eq_some_iff.1 gt).1
      have y3 : w.heap.size + 1 + 1 + 1 < w9.heap.size := (Array.getElem?_eq_some_iff.1 gp).1
      have GB9 := Lib.hid gb
      have GP9 := Lib.hid gp
      have RT9 := Lib.hid rt
      have RB9 := Lib.hid rb
      have HB99 := Lib.hid hbw
      clear gt gb gp rt rb hbw p3
      refine allL (by kernel_rfl) (by kernel_rfl) ?_
      try simp only [List.append_eq, List.cons_append, List.nil_append]
      repeat (first
        | (refine qq_row rfl 28 (.tmp 6) rfl _ 0 rfl (bc b1 (.slice ba a1.length bcap)) (fun w' ⟨u, e⟩ => by rw [e]; exact ru_bk _ _ (row_keep GB9.out u.below)) ?_; simp only [Act.put, List.setIfInBounds_toArray, List.set_cons_zero, List.set_cons_succ])
        | (refine qq_row rfl 32 (.tmp 9) rfl _ 0 rfl (pc a4) (fun w' ⟨u, e⟩ => by rw [e]; exact ru_pk _ (row_keep GP9.out u.below)) ?_; simp only [Act.put, List.setIfInBounds_toArray, List.set_cons_zero, List.set_cons_succ])
        | (refine qq_row rfl 26 (.tmp 107) rfl _ 0 rfl (drow a4.dom) (fun w' ⟨u, e⟩ => by rw [e]; exact ru_dig _ (range_row (row_keep GP9.out u.below) 0 _ (pc_dom a4))) ?_; simp only [Act.put, List.setIfInBounds_toArray, List.set_cons_zero, List.set_cons_succ])
        | (refine qq_row rfl 26 (.tmp 109) rfl _ 16 rfl (drow a4.pol) (fun w' ⟨u, e⟩ => by rw [e]; exact ru_dig _ (range_row (row_keep GP9.out u.below) 16 _ (pc_pol a4))) ?_; simp only [Act.put, List.setIfInBounds_toArray, List.set_cons_zero, List.set_cons_succ])
        | (refine q_place rfl (.tmp 108) (.tmp 110) (.tmp 112) (.tmp 114) rfl a4.dom a4.pol a4.fw a4.num rfl rfl rfl rfl ?_; simp only [Act.put, List.setIfInBounds_toArray, List.set_cons_zero, List.set_cons_succ])
        | go_big_quiet_step ((first
            | (go_at_call 9; exact Later.call _ (HSAN.out _))
            | (go_at_call 16; exact Later.call _ (holds_c n0 a3 _ _ a0 a1 b1 _ (RT9.out.on (Later.below _)) (RB9.out.on (Later.below _))))
            | (go_at_call 17; exact Later.call _ (holds_r n0 a3 _ _ a0 a1 b1 _ (RT9.out.on (Later.below _)) (RB9.out.on (Later.below _))))
            | (go_at_call 18; exact Later.call _ (HADM.out _ (RB9.out.on (Later.below _))))
            | (go_at_call 19; exact Later.call _ (admit_r a4 b1 _ a1 _ (RB9.out.on (Later.below _)))))))
      refine wpQuiet_nil ?_
      rintro _ ⟨u, rfl⟩
      have HF := Lib.hid (HB99.out.trans (u.below.mono HB99.out.size))
      go_wp2
      go_ret
      exact ⟨rfl, HF.out⟩
set_option maxRecDepth 100000 in
theorem restoreMatchesSpec_lifted (os : Os) (started : os.Started) (H : Type) (enc : TypeId × Value → H) :
    ReturnsInHanded {} Try.checked os 3 .any (Rows.restoreMatchesSpecSpec.pre6 enc Try.prog Try.f3 Rows.restoreMatchesSpecRow.domain false) (Rows.restoreMatchesSpecSpec.post enc Try.prog Try.f3 false true false false) := by
  refine returnsInHanded_of_change (C := Try.checked) Try.own started (by kernel_rfl) Try.func3
    (ChangeSpec.witness6 (enc := enc) (C := Try.checked) false ⟨#[], #[.agg #[.int .i64 0, .slice none 0 0], .agg #[.int .u8 0, .int .u8 0, .int .u8 0, .int .u8 0, .int .u8 0, .int .u8 0, .int .u8 0, .int .u8 0, .int .u8 0, .int .u8 0, .int .u8 0, .int .u8 0, .int .u8 0, .int .u8 0, .int .u8 0, .int .u8 0, .int .i64 0, .int .i64 0, .int .i64 0, .int .i64 0, .int .u8 0, .int .u8 0, .int .u8 0, .int .u8 0, .int .u8 0, .int .u8 0, .int .u8 0, .int .u8 0, .int .u8 0, .int .u8 0, .int .u8 0, .int .u8 0, .int .u8 0, .int .u8 0, .int .u8 0, .int .u8 0, .string ByteArray.empty, .slice none 0 0], .agg #[.int .i64 0, .int .i64 0, .string ByteArray.empty, .int .i64 0, .int .i64 0, .int .i64 0, .int .i64 0, .int .i64 0, .bool false], .int .i64 0, .agg #[.int .u8 0, .int .u8 0, .int .u8 0, .int .u8 0, .int .u8 0, .int .u8 0, .int .u8 0, .int .u8 0, .int .u8 0, .int .u8 0, .int .u8 0, .int .u8 0, .int .u8 0, .int .u8 0, .int .u8 0, .int .u8 0, .int .u8 0, .int .u8 0, .int .u8 0, .int .u8 0, .int .u8 0, .int .u8 0, .int .u8 0, .int .u8 0, .int .u8 0, .int .u8 0, .int .u8 0, .int .u8 0, .int .u8 0, .int .u8 0, .int .u8 0, .int .u8 0, .int .i64 0, .int .i64 0]], []⟩ 8 (by kernel_rfl) (by kernel_rfl) (by kernel_rfl) (by kernel_rfl)) ?_
  intro W base args ds gs before hval0 hW hcnd _
  have hval : ∀ (j : Nat) t v, Try.f3.params[j]? = some t → args[j]? = some v → Value.okWide Try.prog W .any base t v := hval0
  have hW' := hW
  obtain ⟨p, q, hA0, hV, rfl, hfz, hnd⟩ := hW
  have hA : DataW.TrodAll enc Try.prog W 0 (fun _ => true) true Try.f3.params.toList args.toList ds p := hA0
  rw [Try.params3] at hA hval
  obtain ⟨v0, vs0, d0, ds0, p0, q0, hargs, rfl, rfl, h0, r0⟩ := trodAll_cons hA
  obtain ⟨v1, vs1, d1, ds1, p1, q1, rfl, rfl, rfl, h1, r1⟩ := trodAll_cons r0
  obtain ⟨v2, vs2, d2, ds2, p2, q2, rfl, rfl, rfl, h2, r2⟩ := trodAll_cons r1
  obtain ⟨v3, vs3, d3, ds3, p3, q3, rfl, rfl, rfl, h3, r3⟩ := trodAll_cons r2
  obtain ⟨v4, vs4, d4, ds4, p4, q4, rfl, rfl, rfl, h4, r4⟩ := trodAll_cons r3
  obtain ⟨rfl, rfl, rfl⟩ := trodAll_nil r4
  obtain rfl : args = #[v0, v1, v2, v3, v4] := by cases args; simp_all
  obtain ⟨rfl, rfl⟩ := trodVars_none hV
  have k0 := h0
  have lt0 : ∀ x ∈ p0, x.block < W.heap.size := by obtain ⟨m, hm⟩ := k0; exact DataW.trod_lt m _ _ _ hm
  have k1 := h1
  have lt1 : ∀ x ∈ p1, x.block < W.heap.size := by obtain ⟨m, hm⟩ := k1; exact DataW.trod_lt m _ _ _ hm
  have k2 := h2
  have lt2 : ∀ x ∈ p2, x.block < W.heap.size := by obtain ⟨m, hm⟩ := k2; exact DataW.trod_lt m _ _ _ hm
  have k4 := h4
  have lt4 : ∀ x ∈ p4, x.block < W.heap.size := by obtain ⟨m, hm⟩ := k4; exact DataW.trod_lt m _ _ _ hm
  obtain ⟨n0, u0, a0, rfl, x0, w0, f0⟩ := open_t (hval 0 24 v0 rfl rfl) h0
  obtain ⟨b1, u1, a1, rfl, x1, w1, f1⟩ := open_bk (hval 1 28 v1 rfl rfl) h1
  obtain ⟨a2, rfl, f2⟩ := open_k (hval 2 30 v2 rfl rfl) h2
  obtain ⟨a3, rfl, rfl, rfl, w3⟩ := open_int Try.underlying3 (hval 3 3 v3 rfl rfl) h3
  obtain ⟨a4, rfl⟩ := open_p (hval 4 32 v4 rfl rfl) h4
  clear hA0 hval0
  refine (restoreMatchesSpec_walk n0 u0 a0 b1 u1 a1 a2 a3 a4 W x0 w0 f0 x1 w1 f1 f2 w3).mono fun e W' ⟨he, bel⟩ => ?_
  subst he
  exact ⟨_, rfl, _, _, _, [], _, [], hW', trodAll_mk1 (shut_bool Try.underlying4 _), (trodAll_cons_mk (Below.trod Try.laidOut (by kernel_rfl) (of_decide_eq_true (by kernel_rfl)) k0 bel lt0) (trodAll_cons_mk (Below.trod Try.laidOut (by kernel_rfl) (of_decide_eq_true (by kernel_rfl)) k1 bel lt1) (trodAll_cons_mk (Below.trod Try.laidOut (by kernel_rfl) (of_decide_eq_true (by kernel_rfl)) k2 bel lt2) (trodAll_cons_mk (shut_int Try.underlying3 w3) (trodAll_cons_mk (Below.trod Try.laidOut (by kernel_rfl) (of_decide_eq_true (by kernel_rfl)) k4 bel lt4) trodAll_mk0))))), rfl, bel.frame _, fun h => by cases h⟩
theorem RestoreMatchesSpec_proved : Rows.RestoreMatchesSpecSaid :=
  OpenClaim.holds_of_wide 3 Try.f3 rfl rfl rfl rfl rfl rfl rfl ⟨rfl, rfl, rfl, rfl, rfl⟩ rfl rfl rfl rfl rfl (by kernel_rfl) Try.func3 (by kernel_rfl)
    (of_decide_eq_true (by kernel_rfl)) (by unfold Func.isWrapper; first | (rw [if_pos (by decide +kernel)]; kernel_rfl) | (rw [if_neg (by decide +kernel)]; exact ⟨rfl, rfl⟩))
    (fun os started H enc _ => restoreMatchesSpec_lifted os started H enc)

end Go.Proofs.Ytjbndfnhollfnaa
