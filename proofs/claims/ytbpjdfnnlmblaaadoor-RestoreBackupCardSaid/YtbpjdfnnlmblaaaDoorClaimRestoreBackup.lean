/- The law RestoreBackup holds for every input: it returns true and leaves its arguments as they were. No condition. -/
import Derived.Test.YtbpjdfnnlmblaaaDoorMB01
import Derived.Test.YtbpjdfnnlmblaaaDoorTie
import Derived.Test.YtbpjdfnnlmblaaaDoorCards
import Derived.SevenTiedAt
namespace Go.Proofs.YtbpjdfnnlmblaaaDoor
open Go.ChangeShapes Go.WideShapes Go.ChangeAt Go.RowKit
open Go.ChangeMaps (open_string shut_string)
set_option linter.unusedSimpArgs false
set_option linter.unusedVariables false
attribute [local irreducible] Calls putAll validB makeX makeE makeP opE opB opK sameB fewB compB selK startsB planK holdsK twinId twinIs atK validTab liveK bR
set_option maxRecDepth 100000 in
set_option maxHeartbeats 4000000 in
theorem restoreBackup_walk (n0 : Int) (u0 : Value) (a0 : List K) (n1 : Int) (u1 : Value) (a1 : List K) (a2 : ByteArray) (a3 : Int) (a4 : Int) (w : World) (x0 : (Lit.int .i64 n0).wf = true) (w0 : RdK w u0 a0) (f0 : numK a0) (x1 : (Lit.int .i64 n1).wf = true) (w1 : RdK w u1 a1) (f1 : numK a1) (w2 : a2.size ≤ maxLen) (w3 : (Lit.int .i64 a3).wf = true) (w4 : (Lit.int .i64 a4).wf = true) (htab : KAt w) :
    Calls Tryd.prog 5 #[.agg #[.int .i64 n0, u0], .agg #[.int .i64 n1, u1], .string a2, .int .i64 a3, .int .i64 a4] w fun e w' => e = .returned (.bool true) ∧ Below w.heap.size w w' := by
  obtain ⟨dk, rfl⟩ := str_of a2
  have hr0 := w0
  have hr1 := w1
  obtain ⟨ta, tc, rfl, _, _, _⟩ := id w0
  obtain ⟨sa, sc, rfl, _, _, _⟩ := id w1
  obtain ⟨W0, hW0⟩ : ∃ W0, W0 = (w.alloc (.cells #[.int .i64 n0, .slice ta a0.length tc] 37)).alloc (.cells #[.int .i64 n1, .slice sa a1.length sc] 37) := ⟨_, rfl⟩
  have HW := Lib.hid hW0
  have C : Hid (TT36 w W0 n0 (.slice ta a0.length tc) a0 n1 (.slice sa a1.length sc) a1) := Lib.hid (by rw [hW0]; exact TT36.start hr0 hr1 htab)
  have t0 := C.out.t0
  have t1 := C.out.t1
  have s0 := C.out.s0
  have s1 := C.out.s1
  have HS := Lib.hid (fun (y : World) => sanity_c y)
  have HF0 := Lib.hid (fun (y : World) (h : RdK y (.slice ta a0.length tc) a0) => few_z n0 (.slice ta a0.length tc) a0 y h)
  have HF1 := Lib.hid (fun (y : World) (h : RdK y (.slice sa a1.length sc) a1) => few_z n1 (.slice sa a1.length sc) a1 y h)
  have HV0 := Lib.hid (fun (y : World) (h : RdK y (.slice ta a0.length tc) a0) => validTable_r n0 (.slice ta a0.length tc) a0 y h)
  have HV1 := Lib.hid (fun (y : World) (h : RdK y (.slice sa a1.length sc) a1) => validTable_r n1 (.slice sa a1.length sc) a1 y h)
  clear hW0 htab hr0 hr1 w0 w1 w2
  rcases Nat.lt_or_ge 40 a0.length with hl0 | hl0
  · rw [decide_eq_false (by omega : ¬ a0.length ≤ 40)] at HF0
    clear hl0
    go_enter Tryd.func5, Tryd.ntmps5
    go_upto_region 1 with fail
    rw [← HW.out]
    go_wp2_with (first
      | (refine bld_z rfl rfl ?_)
      | (go_at_call 15; refine (HF0.out _ C.out.r).mono ?_; rintro e yf ⟨rfl, hb⟩; replace C := Lib.hid (C.out.on hb); clear t0 t1 s0 s1; have t0 := C.out.t0; have t1 := C.out.t1; have s0 := C.out.s0; have s1 := C.out.s1; clear hb)
      | (go_at_call 15; refine (HF1.out _ C.out.q).mono ?_; rintro e yg ⟨rfl, hb⟩; replace C := Lib.hid (C.out.on hb); clear t0 t1 s0 s1; have t0 := C.out.t0; have t1 := C.out.t1; have s0 := C.out.s0; have s1 := C.out.s1; clear hb)
      | (go_at_call 11; refine (HV0.out _ C.out.r).mono ?_; rintro e yv ⟨rfl, hb⟩; replace C := Lib.hid (C.out.on hb); clear t0 t1 s0 s1; have t0 := C.out.t0; have t1 := C.out.t1; have s0 := C.out.s0; have s1 := C.out.s1; clear hb)
      | (go_at_call 11; refine (HV1.out _ C.out.q).mono ?_; rintro e yw ⟨rfl, hb⟩; replace C := Lib.hid (C.out.on hb); clear t0 t1 s0 s1; have t0 := C.out.t0; have t1 := C.out.t1; have s0 := C.out.s0; have s1 := C.out.s1; clear hb)
      | (go_at_call 16; refine (HS.out _).mono ?_; rintro e ys ⟨rfl, hb⟩; replace C := Lib.hid (C.out.on hb); clear t0 t1 s0 s1; have t0 := C.out.t0; have t1 := C.out.t1; have s0 := C.out.s0; have s1 := C.out.s1; clear hb))
    go_ret
    exact ⟨rfl, C.out.bel⟩
  rw [decide_eq_true hl0] at HF0
  rcases Nat.lt_or_ge 40 a1.length with hl1 | hl1
  · rw [decide_eq_false (by omega : ¬ a1.length ≤ 40)] at HF1
    clear hl0 hl1
    go_enter Tryd.func5, Tryd.ntmps5
    go_upto_region 1 with fail
    rw [← HW.out]
    go_wp2_with (first
      | (refine bld_z rfl rfl ?_)
      | (go_at_call 15; refine (HF0.out _ C.out.r).mono ?_; rintro e yf ⟨rfl, hb⟩; replace C := Lib.hid (C.out.on hb); clear t0 t1 s0 s1; have t0 := C.out.t0; have t1 := C.out.t1; have s0 := C.out.s0; have s1 := C.out.s1; clear hb)
      | (go_at_call 15; refine (HF1.out _ C.out.q).mono ?_; rintro e yg ⟨rfl, hb⟩; replace C := Lib.hid (C.out.on hb); clear t0 t1 s0 s1; have t0 := C.out.t0; have t1 := C.out.t1; have s0 := C.out.s0; have s1 := C.out.s1; clear hb)
      | (go_at_call 11; refine (HV0.out _ C.out.r).mono ?_; rintro e yv ⟨rfl, hb⟩; replace C := Lib.hid (C.out.on hb); clear t0 t1 s0 s1; have t0 := C.out.t0; have t1 := C.out.t1; have s0 := C.out.s0; have s1 := C.out.s1; clear hb)
      | (go_at_call 11; refine (HV1.out _ C.out.q).mono ?_; rintro e yw ⟨rfl, hb⟩; replace C := Lib.hid (C.out.on hb); clear t0 t1 s0 s1; have t0 := C.out.t0; have t1 := C.out.t1; have s0 := C.out.s0; have s1 := C.out.s1; clear hb)
      | (go_at_call 16; refine (HS.out _).mono ?_; rintro e ys ⟨rfl, hb⟩; replace C := Lib.hid (C.out.on hb); clear t0 t1 s0 s1; have t0 := C.out.t0; have t1 := C.out.t1; have s0 := C.out.s0; have s1 := C.out.s1; clear hb))
    go_ret
    exact ⟨rfl, C.out.bel⟩
  rw [decide_eq_true hl1] at HF1
  cases hv0 : validTab n0 a0 with
  | false =>
    rw [hv0] at HV0
    clear hv0 hl0 hl1
    go_enter Tryd.func5, Tryd.ntmps5
    go_upto_region 1 with fail
    rw [← HW.out]
    go_wp2_with (first
      | (refine bld_z rfl rfl ?_)
      | (go_at_call 15; refine (HF0.out _ C.out.r).mono ?_; rintro e yf ⟨rfl, hb⟩; replace C := Lib.hid (C.out.on hb); clear t0 t1 s0 s1; have t0 := C.out.t0; have t1 := C.out.t1; have s0 := C.out.s0; have s1 := C.out.s1; clear hb)
      | (go_at_call 15; refine (HF1.out _ C.out.q).mono ?_; rintro e yg ⟨rfl, hb⟩; replace C := Lib.hid (C.out.on hb); clear t0 t1 s0 s1; have t0 := C.out.t0; have t1 := C.out.t1; have s0 := C.out.s0; have s1 := C.out.s1; clear hb)
      | (go_at_call 11; refine (HV0.out _ C.out.r).mono ?_; rintro e yv ⟨rfl, hb⟩; replace C := Lib.hid (C.out.on hb); clear t0 t1 s0 s1; have t0 := C.out.t0; have t1 := C.out.t1; have s0 := C.out.s0; have s1 := C.out.s1; clear hb)
      | (go_at_call 11; refine (HV1.out _ C.out.q).mono ?_; rintro e yw ⟨rfl, hb⟩; replace C := Lib.hid (C.out.on hb); clear t0 t1 s0 s1; have t0 := C.out.t0; have t1 := C.out.t1; have s0 := C.out.s0; have s1 := C.out.s1; clear hb)
      | (go_at_call 16; refine (HS.out _).mono ?_; rintro e ys ⟨rfl, hb⟩; replace C := Lib.hid (C.out.on hb); clear t0 t1 s0 s1; have t0 := C.out.t0; have t1 := C.out.t1; have s0 := C.out.s0; have s1 := C.out.s1; clear hb))
    go_ret
    exact ⟨rfl, C.out.bel⟩
  | true =>
  rw [hv0] at HV0
  cases hv1 : validTab n1 a1 with
  | false =>
    rw [hv1] at HV1
    clear hv0 hv1 hl0 hl1
    go_enter Tryd.func5, Tryd.ntmps5
    go_upto_region 1 with fail
    rw [← HW.out]
    go_wp2_with (first
      | (refine bld_z rfl rfl ?_)
      | (go_at_call 15; refine (HF0.out _ C.out.r).mono ?_; rintro e yf ⟨rfl, hb⟩; replace C := Lib.hid (C.out.on hb); clear t0 t1 s0 s1; have t0 := C.out.t0; have t1 := C.out.t1; have s0 := C.out.s0; have s1 := C.out.s1; clear hb)
      | (go_at_call 15; refine (HF1.out _ C.out.q).mono ?_; rintro e yg ⟨rfl, hb⟩; replace C := Lib.hid (C.out.on hb); clear t0 t1 s0 s1; have t0 := C.out.t0; have t1 := C.out.t1; have s0 := C.out.s0; have s1 := C.out.s1; clear hb)
      | (go_at_call 11; refine (HV0.out _ C.out.r).mono ?_; rintro e yv ⟨rfl, hb⟩; replace C := Lib.hid (C.out.on hb); clear t0 t1 s0 s1; have t0 := C.out.t0; have t1 := C.out.t1; have s0 := C.out.s0; have s1 := C.out.s1; clear hb)
      | (go_at_call 11; refine (HV1.out _ C.out.q).mono ?_; rintro e yw ⟨rfl, hb⟩; replace C := Lib.hid (C.out.on hb); clear t0 t1 s0 s1; have t0 := C.out.t0; have t1 := C.out.t1; have s0 := C.out.s0; have s1 := C.out.s1; clear hb)
      | (go_at_call 16; refine (HS.out _).mono ?_; rintro e ys ⟨rfl, hb⟩; replace C := Lib.hid (C.out.on hb); clear t0 t1 s0 s1; have t0 := C.out.t0; have t1 := C.out.t1; have s0 := C.out.s0; have s1 := C.out.s1; clear hb))
    go_ret
    exact ⟨rfl, C.out.bel⟩
  | true =>
  rw [hv1] at HV1
  by_cases h32 : dk.length = 32
  rotate_left
  · have i1 : ((dk.length : Int) != 32) = true := by simp; omega
    clear hv0 hv1 hl0 hl1 h32
    go_enter Tryd.func5, Tryd.ntmps5
    go_upto_region 1 with fail
    rw [← HW.out]
    go_wp2_with (first
      | (refine bld_z rfl rfl ?_)
      | (go_at_call 15; refine (HF0.out _ C.out.r).mono ?_; rintro e yf ⟨rfl, hb⟩; replace C := Lib.hid (C.out.on hb); clear t0 t1 s0 s1; have t0 := C.out.t0; have t1 := C.out.t1; have s0 := C.out.s0; have s1 := C.out.s1; clear hb)
      | (go_at_call 15; refine (HF1.out _ C.out.q).mono ?_; rintro e yg ⟨rfl, hb⟩; replace C := Lib.hid (C.out.on hb); clear t0 t1 s0 s1; have t0 := C.out.t0; have t1 := C.out.t1; have s0 := C.out.s0; have s1 := C.out.s1; clear hb)
      | (go_at_call 11; refine (HV0.out _ C.out.r).mono ?_; rintro e yv ⟨rfl, hb⟩; replace C := Lib.hid (C.out.on hb); clear t0 t1 s0 s1; have t0 := C.out.t0; have t1 := C.out.t1; have s0 := C.out.s0; have s1 := C.out.s1; clear hb)
      | (go_at_call 11; refine (HV1.out _ C.out.q).mono ?_; rintro e yw ⟨rfl, hb⟩; replace C := Lib.hid (C.out.on hb); clear t0 t1 s0 s1; have t0 := C.out.t0; have t1 := C.out.t1; have s0 := C.out.s0; have s1 := C.out.s1; clear hb)
      | (go_at_call 16; refine (HS.out _).mono ?_; rintro e ys ⟨rfl, hb⟩; replace C := Lib.hid (C.out.on hb); clear t0 t1 s0 s1; have t0 := C.out.t0; have t1 := C.out.t1; have s0 := C.out.s0; have s1 := C.out.s1; clear hb))
    go_ret
    exact ⟨rfl, C.out.bel⟩
  have i1 : ((dk.length : Int) != 32) = false := by rw [h32]; rfl
  by_cases hn0 : a3 < 0
  · clear hv0 hv1 hl0 hl1 h32
    go_enter Tryd.func5, Tryd.ntmps5
    go_upto_region 1 with fail
    rw [← HW.out]
    go_wp2_with (first
      | (refine bld_z rfl rfl ?_)
      | (go_at_call 15; refine (HF0.out _ C.out.r).mono ?_; rintro e yf ⟨rfl, hb⟩; replace C := Lib.hid (C.out.on hb); clear t0 t1 s0 s1; have t0 := C.out.t0; have t1 := C.out.t1; have s0 := C.out.s0; have s1 := C.out.s1; clear hb)
      | (go_at_call 15; refine (HF1.out _ C.out.q).mono ?_; rintro e yg ⟨rfl, hb⟩; replace C := Lib.hid (C.out.on hb); clear t0 t1 s0 s1; have t0 := C.out.t0; have t1 := C.out.t1; have s0 := C.out.s0; have s1 := C.out.s1; clear hb)
      | (go_at_call 11; refine (HV0.out _ C.out.r).mono ?_; rintro e yv ⟨rfl, hb⟩; replace C := Lib.hid (C.out.on hb); clear t0 t1 s0 s1; have t0 := C.out.t0; have t1 := C.out.t1; have s0 := C.out.s0; have s1 := C.out.s1; clear hb)
      | (go_at_call 11; refine (HV1.out _ C.out.q).mono ?_; rintro e yw ⟨rfl, hb⟩; replace C := Lib.hid (C.out.on hb); clear t0 t1 s0 s1; have t0 := C.out.t0; have t1 := C.out.t1; have s0 := C.out.s0; have s1 := C.out.s1; clear hb)
      | (go_at_call 16; refine (HS.out _).mono ?_; rintro e ys ⟨rfl, hb⟩; replace C := Lib.hid (C.out.on hb); clear t0 t1 s0 s1; have t0 := C.out.t0; have t1 := C.out.t1; have s0 := C.out.s0; have s1 := C.out.s1; clear hb))
    go_ret
    exact ⟨rfl, C.out.bel⟩
  by_cases hn1 : 1099511627776 < a3
  · clear hv0 hv1 hl0 hl1 h32
    go_enter Tryd.func5, Tryd.ntmps5
    go_upto_region 1 with fail
    rw [← HW.out]
    go_wp2_with (first
      | (refine bld_z rfl rfl ?_)
      | (go_at_call 15; refine (HF0.out _ C.out.r).mono ?_; rintro e yf ⟨rfl, hb⟩; replace C := Lib.hid (C.out.on hb); clear t0 t1 s0 s1; have t0 := C.out.t0; have t1 := C.out.t1; have s0 := C.out.s0; have s1 := C.out.s1; clear hb)
      | (go_at_call 15; refine (HF1.out _ C.out.q).mono ?_; rintro e yg ⟨rfl, hb⟩; replace C := Lib.hid (C.out.on hb); clear t0 t1 s0 s1; have t0 := C.out.t0; have t1 := C.out.t1; have s0 := C.out.s0; have s1 := C.out.s1; clear hb)
      | (go_at_call 11; refine (HV0.out _ C.out.r).mono ?_; rintro e yv ⟨rfl, hb⟩; replace C := Lib.hid (C.out.on hb); clear t0 t1 s0 s1; have t0 := C.out.t0; have t1 := C.out.t1; have s0 := C.out.s0; have s1 := C.out.s1; clear hb)
      | (go_at_call 11; refine (HV1.out _ C.out.q).mono ?_; rintro e yw ⟨rfl, hb⟩; replace C := Lib.hid (C.out.on hb); clear t0 t1 s0 s1; have t0 := C.out.t0; have t1 := C.out.t1; have s0 := C.out.s0; have s1 := C.out.s1; clear hb)
      | (go_at_call 16; refine (HS.out _).mono ?_; rintro e ys ⟨rfl, hb⟩; replace C := Lib.hid (C.out.on hb); clear t0 t1 s0 s1; have t0 := C.out.t0; have t1 := C.out.t1; have s0 := C.out.s0; have s1 := C.out.s1; clear hb))
    go_ret
    exact ⟨rfl, C.out.bel⟩
  by_cases hnx : 2147483548 < n1
  · clear hv0 hv1 hl0 hl1 h32
    go_enter Tryd.func5, Tryd.ntmps5
    go_upto_region 1 with fail
    rw [← HW.out]
    go_wp2_with (first
      | (refine bld_z rfl rfl ?_)
      | (go_at_call 15; refine (HF0.out _ C.out.r).mono ?_; rintro e yf ⟨rfl, hb⟩; replace C := Lib.hid (C.out.on hb); clear t0 t1 s0 s1; have t0 := C.out.t0; have t1 := C.out.t1; have s0 := C.out.s0; have s1 := C.out.s1; clear hb)
      | (go_at_call 15; refine (HF1.out _ C.out.q).mono ?_; rintro e yg ⟨rfl, hb⟩; replace C := Lib.hid (C.out.on hb); clear t0 t1 s0 s1; have t0 := C.out.t0; have t1 := C.out.t1; have s0 := C.out.s0; have s1 := C.out.s1; clear hb)
      | (go_at_call 11; refine (HV0.out _ C.out.r).mono ?_; rintro e yv ⟨rfl, hb⟩; replace C := Lib.hid (C.out.on hb); clear t0 t1 s0 s1; have t0 := C.out.t0; have t1 := C.out.t1; have s0 := C.out.s0; have s1 := C.out.s1; clear hb)
      | (go_at_call 11; refine (HV1.out _ C.out.q).mono ?_; rintro e yw ⟨rfl, hb⟩; replace C := Lib.hid (C.out.on hb); clear t0 t1 s0 s1; have t0 := C.out.t0; have t1 := C.out.t1; have s0 := C.out.s0; have s1 := C.out.s1; clear hb)
      | (go_at_call 16; refine (HS.out _).mono ?_; rintro e ys ⟨rfl, hb⟩; replace C := Lib.hid (C.out.on hb); clear t0 t1 s0 s1; have t0 := C.out.t0; have t1 := C.out.t1; have s0 := C.out.s0; have s1 := C.out.s1; clear hb))
    go_ret
    exact ⟨rfl, C.out.bel⟩
  have hn0' : 0 ≤ a3 := by omega
  have hn1' : a3 ≤ 1099511627776 := by omega
  have hmk : makeOk dk (bR a3) (selK a3 a0) = true := by unfold makeOk; rw [bR_valid hv0 hl0 hn0' hn1', decide_eq_true h32]; rfl
  have hma := bR_mach a3 hn0' hn1'
  have hns : numK (selK a3 a0) := numK_of (fun k hk x hx => by obtain ⟨j, hj, rfl⟩ := List.mem_iff_getElem.1 (mem_selK.1 hk).1; have := f0 j hj; rw [keyAt_eq a0 j hj] at this; exact this x hx)
  obtain ⟨s, hpl⟩ := plan_sel hv0 hv1 hl0 hl1 (by omega : n1 ≤ 2147483548) hn0' hn1'
  obtain ⟨r1, r2, r3⟩ := rt_open dk (bR a3) (selK a3 a0) hma hns hmk
  have hsl := selK_len a3 a0
  have hln := makeP_len dk (bR a3) (selK a3 a0) hma hmk
  have HSEL := Lib.hid (fun (y : World) (h : RdK y (.slice ta a0.length tc) a0) => select_c n0 a3 (.slice ta a0.length tc) a0 y h (by omega))
  have HMK := Lib.hid (fun (u : Value) (y : World) (a : KAt y) (h : RdK y u (selK a3 a0)) => make_t dk (bR a3) u (selK a3 a0) y a h hma hns)
  rw [show makeX dk (bR a3) (selK a3 a0) = makeP dk (bR a3) (selK a3 a0) by unfold makeX; rw [if_pos hmk], show makeE dk (bR a3) (selK a3 a0) = 0 by unfold makeE; rw [if_pos hmk]] at HMK
  have HOP := Lib.hid (fun (y : World) (a : KAt y) => bopen_t dk (makeP dk (bR a3) (selK a3 a0)) y a (by omega))
  rw [r1, r2, r3] at HOP
  have HSR := Lib.hid (fun (v u : Value) (y : World) (h1 : RdK y v (selK a3 a0)) (h2 : RdK y u (selK a3 a0)) => same_r (bR a3) (bR a3) v u (selK a3 a0) (selK a3 a0) y h1 h2)
  rw [sameB_refl] at HSR
  have HPL := Lib.hid (fun (u : Value) (y : World) (h1 : RdK y (.slice sa a1.length sc) a1) (h2 : RdK y u (selK a3 a0)) => plan_c n1 a3 (.slice sa a1.length sc) u a1 (selK a3 a0) (bR a3) y h1 h2 hns.wf hma.mo (by omega) (by omega) hv1)
  rw [hpl] at HPL
  have HHO : Hid (∀ (t : Int), a3 ≤ t → ∀ (v u : Value) (y : World), RdK y v s.ks → RdK y u (selK a3 a0) → Calls Tryd.prog 21 #[.agg #[.int .i64 s.nx, v], .agg (bc (bR a3) u), .int .i64 t] y fun e w' => e = .returned (.bool true) ∧ Below y.heap.size y w') := Lib.hid (fun t ht v u y h h' => by have h2 := holds_c s.nx t v u s.ks (selK a3 a0) (bR a3) y h h'; rw [planK_holds hpl t ht] at h2; exact h2)
  have HTW : Hid (∀ k, k ∈ a0 → liveK a3 k = true → ∃ i, i < s.ks.length ∧ (∀ (v : Value) (y : World), RdK y v s.ks → Calls Tryd.prog 19 #[.agg #[.int .i64 s.nx, v], kv k] y fun e w' => e = .returned (.tuple #[.int .i64 (twinId s.ks k), .bool true]) ∧ Below y.heap.size y w') ∧ ∃ id par, ∀ (v : Value) (y : World), RdK y v s.ks → Calls Tryd.prog 20 #[.agg #[.int .i64 s.nx, v], .int .i64 (twinId s.ks k)] y fun e w' => e = .returned (.tuple #[.agg #[.int .i64 id, .int .i64 k.ty, .string ⟨k.val.toArray⟩, .int .i64 k.uses, .int .i64 k.start, .int .i64 k.fin, .int .i64 k.ver, .int .i64 par, .bool k.raw], .int .i64 0]) ∧ Below y.heap.size y w') := Lib.hid (by
    intro k hk hlv
    have hf : a3 < k.fin := by unfold liveK at hlv; simp only [Bool.and_eq_true, decide_eq_true_eq] at hlv; exact hlv.2
    obtain ⟨g1, i, g2, g3, id, par, g4⟩ := twin_got hpl hv1 k (mem_selK.2 ⟨hk, hlv⟩) hf
    refine ⟨i, g2, fun v y h => ?_, id, par, fun v y h => ?_⟩
    · have h2 := twin_c s.nx v s.ks k y h; rw [g1] at h2; exact h2
    · have h2 := get_hit s.nx v s.ks (twinId s.ks k) i y h g2 g3; rw [g4] at h2; exact h2)
  have HMEM : Hid (∀ i, i < a0.length → keyAt a0 i ∈ a0) := Lib.hid (fun i hi => by rw [keyAt_eq a0 i hi]; exact List.getElem_mem hi)
  clear hmk hma hns hpl r1 r2 r3 hln hn0' hn1'
  generalize makeP dk (bR a3) (selK a3 a0) = blob at HMK HOP
  have HLEN : Hid (a0.length ≤ 40) := Lib.hid hl0
  generalize selK a3 a0 = sel at HSEL HMK HOP HSR HPL HHO hsl
  clear hl0 hl1 hv0 hv1 h32 hsl f0 f1 x0 x1
  go_enter Tryd.func5, Tryd.ntmps5
  go_upto_region 1 with fail
  rw [← HW.out]
  go_upto_region 6 with (first
    | (refine bld_z rfl rfl ?_)
    | (go_at_call 15; refine (HF0.out _ C.out.r).mono ?_; rintro e yf ⟨rfl, hb⟩; replace C := Lib.hid (C.out.on hb); clear t0 t1 s0 s1; have t0 := C.out.t0; have t1 := C.out.t1; have s0 := C.out.s0; have s1 := C.out.s1; clear hb)
    | (go_at_call 15; refine (HF1.out _ C.out.q).mono ?_; rintro e yg ⟨rfl, hb⟩; replace C := Lib.hid (C.out.on hb); clear t0 t1 s0 s1; have t0 := C.out.t0; have t1 := C.out.t1; have s0 := C.out.s0; have s1 := C.out.s1; clear hb)
    | (go_at_call 11; refine (HV0.out _ C.out.r).mono ?_; rintro e yv ⟨rfl, hb⟩; replace C := Lib.hid (C.out.on hb); clear t0 t1 s0 s1; have t0 := C.out.t0; have t1 := C.out.t1; have s0 := C.out.s0; have s1 := C.out.s1; clear hb)
    | (go_at_call 11; refine (HV1.out _ C.out.q).mono ?_; rintro e yw ⟨rfl, hb⟩; replace C := Lib.hid (C.out.on hb); clear t0 t1 s0 s1; have t0 := C.out.t0; have t1 := C.out.t1; have s0 := C.out.s0; have s1 := C.out.s1; clear hb)
    | (go_at_call 16; refine (HS.out _).mono ?_; rintro e ys ⟨rfl, hb⟩; replace C := Lib.hid (C.out.on hb); clear t0 t1 s0 s1; have t0 := C.out.t0; have t1 := C.out.t1; have s0 := C.out.s0; have s1 := C.out.s1; clear hb)
    | (go_at_call 12; refine (HSEL.out _ C.out.r).mono ?_; rintro e y1 ⟨v1, rfl, hr, hb⟩; replace C := Lib.hid (C.out.on hb); clear t0 t1 s0 s1; have t0 := C.out.t0; have t1 := C.out.t1; have s0 := C.out.s0; have s1 := C.out.s1; obtain ⟨la, lc, rfl, _, _, _⟩ := id hr; have RV := Lib.hid hr; clear hb hr)
    | (refine bld_bR rfl (.const (.int .i64 1)) (.tmp 63) (.const (.string ⟨#[109]⟩)) (.tmp 66) rfl a3 la sel.length lc rfl rfl rfl rfl ?_)
    | (refine st_new (bc (bR a3) (.slice la sel.length lc)) 26 rfl (.tmp 11) (.tmp 67) rfl _ rfl rfl rfl (by rw [bc_size]; exact info_b) (by rw [bc_size]; rfl) (bcone _ _ _ _) ?_))
  have XB : Hid ((y1.alloc (.cells (bc (bR a3) (.slice la sel.length lc)) 26)).heap[y1.heap.size]? = some (.cells (bc (bR a3) (.slice la sel.length lc)) 26 (0, 0))) := Lib.hid (heap_alloc_new _ _)
  replace RV := Lib.hid (RV.out.alloc (.cells (bc (bR a3) (.slice la sel.length lc)) 26))
  replace C := Lib.hid (C.out.on ((Below.refl _ _).alloc (Nat.le_refl _) (.cells (bc (bR a3) (.slice la sel.length lc)) 26)))
  clear t0 t1 s0 s1
  have t0 := C.out.t0; have t1 := C.out.t1; have s0 := C.out.s0; have s1 := C.out.s1
  go_upto_region 8 with (first
    | (refine ld_bk (bR a3) _ rfl (.tmp 11) rfl _ rfl _ XB.out ?_)
    | (go_at_call 8; refine (HMK.out _ _ C.out.k RV.out).mono ?_; rintro e y2 ⟨rfl, hb⟩; replace C := Lib.hid (C.out.on hb); clear t0 t1 s0 s1; have t0 := C.out.t0; have t1 := C.out.t1; have s0 := C.out.s0; have s1 := C.out.s1; replace XB := Lib.hid (row_keep XB.out hb); replace RV := Lib.hid (RV.out.on hb); clear hb)
    | (go_at_call 9; refine (HOP.out _ C.out.k).mono ?_; rintro e y3 ⟨ca, cc, rfl, hr, hb⟩; replace C := Lib.hid (C.out.on hb); clear t0 t1 s0 s1; have t0 := C.out.t0; have t1 := C.out.t1; have s0 := C.out.s0; have s1 := C.out.s1; replace XB := Lib.hid (row_keep XB.out hb); replace RV := Lib.hid (RV.out.on hb); have RC := Lib.hid hr; clear hb hr)
    | (refine st_new (bc (bR a3) (.slice ca sel.length cc)) 26 rfl (.tmp 14) (.tmp 78) rfl _ rfl rfl rfl (by rw [bc_size]; exact info_b) (by rw [bc_size]; rfl) (bcone _ _ _ _) ?_))
  have XC : Hid ((y3.alloc (.cells (bc (bR a3) (.slice ca sel.length cc)) 26)).heap[y3.heap.size]? = some (.cells (bc (bR a3) (.slice ca sel.length cc)) 26 (0, 0))) := Lib.hid (heap_alloc_new _ _)
  replace RC := Lib.hid (RC.out.alloc (.cells (bc (bR a3) (.slice ca sel.length cc)) 26))
  replace RV := Lib.hid (RV.out.alloc (.cells (bc (bR a3) (.slice ca sel.length cc)) 26))
  replace XB := Lib.hid (row_keep XB.out ((Below.refl _ _).alloc (Nat.le_refl _) (.cells (bc (bR a3) (.slice ca sel.length cc)) 26)))
  replace C := Lib.hid (C.out.on ((Below.refl _ _).alloc (Nat.le_refl _) (.cells (bc (bR a3) (.slice ca sel.length cc)) 26)))
  clear t0 t1 s0 s1
  have t0 := C.out.t0; have t1 := C.out.t1; have s0 := C.out.s0; have s1 := C.out.s1
  go_upto_region 11 with (first
    | (refine ld_bk (bR a3) _ rfl (.tmp 11) rfl _ rfl _ XB.out ?_)
    | (refine ld_bk (bR a3) _ rfl (.tmp 14) rfl _ rfl _ XC.out ?_)
    | (go_at_call 10; refine (HSR.out _ _ _ RV.out RC.out).mono ?_; rintro e y4 ⟨rfl, hb⟩; replace C := Lib.hid (C.out.on hb); clear t0 t1 s0 s1; have t0 := C.out.t0; have t1 := C.out.t1; have s0 := C.out.s0; have s1 := C.out.s1; replace XC := Lib.hid (row_keep XC.out hb); replace RC := Lib.hid (RC.out.on hb); clear hb)
    | (go_at_call 17; refine (HPL.out _ _ C.out.q RC.out).mono ?_; rintro e y5 hp; obtain ⟨ka, kc5, ia, ic, rfl, hk, _, hb⟩ := planT_ok_out hp; replace C := Lib.hid (C.out.on hb); clear t0 t1 s0 s1; have t0 := C.out.t0; have t1 := C.out.t1; have s0 := C.out.s0; have s1 := C.out.s1; replace XC := Lib.hid (row_keep XC.out hb); replace RC := Lib.hid (RC.out.on hb); have RK := Lib.hid hk; clear hp hk hb))
  have XU : Hid ((y5.alloc (.cells #[.int .i64 s.nx, .slice ka s.ks.length kc5] 37)).heap[y5.heap.size]? = some (.cells #[.int .i64 s.nx, .slice ka s.ks.length kc5] 37 (0, 0))) := Lib.hid (heap_alloc_new _ _)
  replace RK := Lib.hid (RK.out.alloc (.cells #[.int .i64 s.nx, .slice ka s.ks.length kc5] 37))
  replace RC := Lib.hid (RC.out.alloc (.cells #[.int .i64 s.nx, .slice ka s.ks.length kc5] 37))
  replace XC := Lib.hid (row_keep XC.out ((Below.refl _ _).alloc (Nat.le_refl _) (.cells #[.int .i64 s.nx, .slice ka s.ks.length kc5] 37)))
  replace C := Lib.hid (C.out.on ((Below.refl _ _).alloc (Nat.le_refl _) (.cells #[.int .i64 s.nx, .slice ka s.ks.length kc5] 37)))
  clear t0 t1 s0 s1 RV XB
  generalize y5.alloc (.cells #[.int .i64 s.nx, .slice ka s.ks.length kc5] 37) = WL at *
  generalize y5.heap.size = gu at *
  generalize y3.heap.size = gc at *
  have t0 := C.out.t0; have t1 := C.out.t1; have s0 := C.out.s0; have s1 := C.out.s1
  go_wp2
  go_loopw [105] (fun o wr => ∃ i : Nat, i ≤ a0.length ∧ o = .int .i64 i ∧ Hid (Below WL.heap.size WL wr)) (fun o _ => a0.length - (intOf o).toNat)
  case atStart => exact ⟨0, Nat.zero_le _, rfl, Lib.hid (Below.refl _ _)⟩
  case round =>
    obtain ⟨i, hi, rfl, hb⟩ := hrel
    clear t0 t1 s0 s1
    have C1 := Lib.hid (C.out.on hb.out)
    have XU1 := Lib.hid (row_keep XU.out hb.out)
    have XC1 := Lib.hid (row_keep XC.out hb.out)
    have RK1 := Lib.hid (RK.out.on hb.out)
    have RC1 := Lib.hid (RC.out.on hb.out)
    have HLV := Lib.hid (fun (y : K) (W : World) => live_r y a3 W)
    unfold kv kc at HLV
    by_cases hlt : i < a0.length
    · obtain ⟨bb, off, hta, hbl, hrow⟩ := (C1.out.r.cells) (by omega)
      obtain ⟨d0, d1, d2, d3, d4, d5, d6, d7, d8⟩ := hrow i hlt
      subst hta
      have i2 : (i : Int) < a0.length := by omega
      have i9 : (a0.length : Int) ≤ 40 := by have := HLEN.out; omega
      have HI := Lib.hid hlt
      have HM := Lib.hid (HMEM.out i hlt)
      generalize keyAt a0 i = y at d0 d1 d2 d3 d4 d5 d6 d7 d8 HM
      clear hrow hlt
      have t0 := C1.out.t0
      have t1 := C1.out.t1
      have HX2 : Hid (∀ w1, Below (wr.alloc (.cells #[.int .i64 y.id, .int .i64 y.ty, .string ⟨y.val.toArray⟩, .int .i64 y.uses, .int .i64 y.start, .int .i64 y.fin, .int .i64 y.ver, .int .i64 y.par, .bool y.raw] 48)).heap.size (wr.alloc (.cells #[.int .i64 y.id, .int .i64 y.ty, .string ⟨y.val.toArray⟩, .int .i64 y.uses, .int .i64 y.start, .int .i64 y.fin, .int .i64 y.ver, .int .i64 y.par, .bool y.raw] 48)) w1 → w1.heap[wr.heap.size]? = some (.cells (kc y) 48 (0, 0)) ∧ w1.heap[gu]? = some (.cells #[.int .i64 s.nx, .slice ka s.ks.length kc5] 37 (0, 0)) ∧ RdK w1 (.slice ka s.ks.length kc5) s.ks ∧ Below WL.heap.size WL w1) := Lib.hid (by
        intro w1 h
        have h2 := below1 _ _ h
        exact ⟨row_keep (heap_alloc_new _ _) h, row_keep XU1.out h2, RK1.out.on h2, hb.out.trans (h2.mono hb.out.size)⟩)
      cases hq : liveK a3 y with
      | false =>
        replace HLV := Lib.hid (fun W => HLV.out y W)
        rw [hq] at HLV
        clear hq
        go_wp2_with (first
          | (go_at_call 18; refine (HLV.out _).mono ?_; rintro e z1 ⟨rfl, hb1⟩; obtain ⟨hrw, hxu, hrk, hbz⟩ := HX2.out _ hb1; have HBZ := Lib.hid hbz; clear hb1 hrw hxu hrk hbz))
        go_roundw
        case rel => exact ⟨i + 1, HI.out, by go_num, HBZ⟩
        case measure => have := HI.out; simp [intOf]; omega
      | true =>
        replace HLV := Lib.hid (fun W => HLV.out y W)
        rw [hq] at HLV
        obtain ⟨i3, hi3, htw, kid, kpar, hgt⟩ := HTW.out y HM.out hq
        unfold kv kc at htw
        have HTWC := Lib.hid htw
        have HGT := Lib.hid hgt
        clear hq htw hgt hi3
        generalize twinId s.ks y = tid at HTWC HGT
        have hsv : ((⟨y.val.toArray⟩ : ByteArray).toList != (⟨y.val.toArray⟩ : ByteArray).toList) = false := by simp
        have n1 : (y.ty != y.ty) = false := by simp
        have n2 : (y.uses != y.uses) = false := by simp
        have n3 : (y.start != y.start) = false := by simp
        have n4 : (y.fin != y.fin) = false := by simp
        have n5 : (y.ver != y.ver) = false := by simp
        have n6 : (y.raw != y.raw) = false := by simp
        go_upto_region 19 with (first
          | (go_at_call 18; refine (HLV.out _).mono ?_; rintro e z1 ⟨rfl, hb1⟩; obtain ⟨hrw, hxu, hrk, hbz⟩ := HX2.out _ hb1; have e0 : z1.cell? ⟨wr.heap.size, 0, none⟩ = some (.int .i64 y.id) := cell_of_row _ _ _ _ _ _ hrw; have e1 : z1.cell? ⟨wr.heap.size, 1, none⟩ = some (.int .i64 y.ty) := cell_of_row _ _ _ _ _ _ hrw; have e2 : z1.cell? ⟨wr.heap.size, 2, none⟩ = some (.string ⟨y.val.toArray⟩) := cell_of_row _ _ _ _ _ _ hrw; have e3 : z1.cell? ⟨wr.heap.size, 3, none⟩ = some (.int .i64 y.uses) := cell_of_row _ _ _ _ _ _ hrw; have e4 : z1.cell? ⟨wr.heap.size, 4, none⟩ = some (.int .i64 y.start) := cell_of_row _ _ _ _ _ _ hrw; have e5 : z1.cell? ⟨wr.heap.size, 5, none⟩ = some (.int .i64 y.fin) := cell_of_row _ _ _ _ _ _ hrw; have e6 : z1.cell? ⟨wr.heap.size, 6, none⟩ = some (.int .i64 y.ver) := cell_of_row _ _ _ _ _ _ hrw; have e7 : z1.cell? ⟨wr.heap.size, 7, none⟩ = some (.int .i64 y.par) := cell_of_row _ _ _ _ _ _ hrw; have e8 : z1.cell? ⟨wr.heap.size, 8, none⟩ = some (.bool y.raw) := cell_of_row _ _ _ _ _ _ hrw; have u0 : z1.cell? ⟨gu, 0, none⟩ = some (.int .i64 s.nx) := cell_of_row _ _ _ _ _ _ hxu; have u1 : z1.cell? ⟨gu, 1, none⟩ = some (.slice ka s.ks.length kc5) := cell_of_row _ _ _ _ _ _ hxu; have HB1 := Lib.hid hb1; have RZ := Lib.hid hrk; clear hb1 hrw hxu hrk hbz)
          | (go_at_call 19; refine (HTWC.out _ _ RZ.out).mono ?_; rintro e z2 ⟨rfl, hb2⟩; have HB2 := Lib.hid (HB1.out.trans (hb2.mono HB1.out.size)); clear e0 e1 e2 e3 e4 e5 e6 e7 e8 u0 u1; obtain ⟨hrw, hxu, hrk, hbz⟩ := HX2.out _ HB2.out; have e0 : z2.cell? ⟨wr.heap.size, 0, none⟩ = some (.int .i64 y.id) := cell_of_row _ _ _ _ _ _ hrw; have e1 : z2.cell? ⟨wr.heap.size, 1, none⟩ = some (.int .i64 y.ty) := cell_of_row _ _ _ _ _ _ hrw; have e2 : z2.cell? ⟨wr.heap.size, 2, none⟩ = some (.string ⟨y.val.toArray⟩) := cell_of_row _ _ _ _ _ _ hrw; have e3 : z2.cell? ⟨wr.heap.size, 3, none⟩ = some (.int .i64 y.uses) := cell_of_row _ _ _ _ _ _ hrw; have e4 : z2.cell? ⟨wr.heap.size, 4, none⟩ = some (.int .i64 y.start) := cell_of_row _ _ _ _ _ _ hrw; have e5 : z2.cell? ⟨wr.heap.size, 5, none⟩ = some (.int .i64 y.fin) := cell_of_row _ _ _ _ _ _ hrw; have e6 : z2.cell? ⟨wr.heap.size, 6, none⟩ = some (.int .i64 y.ver) := cell_of_row _ _ _ _ _ _ hrw; have e7 : z2.cell? ⟨wr.heap.size, 7, none⟩ = some (.int .i64 y.par) := cell_of_row _ _ _ _ _ _ hrw; have e8 : z2.cell? ⟨wr.heap.size, 8, none⟩ = some (.bool y.raw) := cell_of_row _ _ _ _ _ _ hrw; have u0 : z2.cell? ⟨gu, 0, none⟩ = some (.int .i64 s.nx) := cell_of_row _ _ _ _ _ _ hxu; have u1 : z2.cell? ⟨gu, 1, none⟩ = some (.slice ka s.ks.length kc5) := cell_of_row _ _ _ _ _ _ hxu; replace RZ := Lib.hid hrk; clear hb2 hrw hxu hrk hbz)
          | (go_at_call 20; refine (HGT.out _ _ RZ.out).mono ?_; rintro e z3 ⟨rfl, hb3⟩; have HB3 := Lib.hid (HB2.out.trans (hb3.mono HB2.out.size)); clear e0 e1 e2 e3 e4 e5 e6 e7 e8 u0 u1; obtain ⟨hrw, hxu, hrk, hbz⟩ := HX2.out _ HB3.out; have e0 : z3.cell? ⟨wr.heap.size, 0, none⟩ = some (.int .i64 y.id) := cell_of_row _ _ _ _ _ _ hrw; have e1 : z3.cell? ⟨wr.heap.size, 1, none⟩ = some (.int .i64 y.ty) := cell_of_row _ _ _ _ _ _ hrw; have e2 : z3.cell? ⟨wr.heap.size, 2, none⟩ = some (.string ⟨y.val.toArray⟩) := cell_of_row _ _ _ _ _ _ hrw; have e3 : z3.cell? ⟨wr.heap.size, 3, none⟩ = some (.int .i64 y.uses) := cell_of_row _ _ _ _ _ _ hrw; have e4 : z3.cell? ⟨wr.heap.size, 4, none⟩ = some (.int .i64 y.start) := cell_of_row _ _ _ _ _ _ hrw; have e5 : z3.cell? ⟨wr.heap.size, 5, none⟩ = some (.int .i64 y.fin) := cell_of_row _ _ _ _ _ _ hrw; have e6 : z3.cell? ⟨wr.heap.size, 6, none⟩ = some (.int .i64 y.ver) := cell_of_row _ _ _ _ _ _ hrw; have e7 : z3.cell? ⟨wr.heap.size, 7, none⟩ = some (.int .i64 y.par) := cell_of_row _ _ _ _ _ _ hrw; have e8 : z3.cell? ⟨wr.heap.size, 8, none⟩ = some (.bool y.raw) := cell_of_row _ _ _ _ _ _ hrw; have u0 : z3.cell? ⟨gu, 0, none⟩ = some (.int .i64 s.nx) := cell_of_row _ _ _ _ _ _ hxu; have u1 : z3.cell? ⟨gu, 1, none⟩ = some (.slice ka s.ks.length kc5) := cell_of_row _ _ _ _ _ _ hxu; have lt3 : wr.heap.size < z3.heap.size := (Array.getElem?_eq_some_iff.1 hrw).1; have HBZ := Lib.hid hbz; clear hb3 hrw hxu hrk hbz))
        have ne3 : wr.heap.size ≠ z3.heap.size := by omega
        go_wp2
        go_roundw
        case rel => exact ⟨i + 1, HI.out, by go_num, Lib.hid (HBZ.out.alloc HBZ.out.size _)⟩
        case measure => have := HI.out; simp [intOf]; omega
    · have i2 : (a0.length : Int) ≤ i := by omega
      clear hlt hi
      have u0 : wr.cell? ⟨gu, 0, none⟩ = some (.int .i64 s.nx) := cell_of_row _ _ _ _ _ _ XU1.out
      have u1 : wr.cell? ⟨gu, 1, none⟩ = some (.slice ka s.ks.length kc5) := cell_of_row _ _ _ _ _ _ XU1.out
      have tokH : True := trivial
      clear hb
      by_cases hg : a4 < a3
      · skip
        go_wp2_with (first
          | (go_at_call 16; refine (HS.out _).mono ?_; rintro e q1 ⟨rfl, hb⟩; replace C1 := Lib.hid (C1.out.on hb); replace XU1 := Lib.hid (row_keep XU1.out hb); replace XC1 := Lib.hid (row_keep XC1.out hb); replace RK1 := Lib.hid (RK1.out.on hb); replace RC1 := Lib.hid (RC1.out.on hb); clear u0 u1; have u0 : q1.cell? ⟨gu, 0, none⟩ = some (.int .i64 s.nx) := cell_of_row _ _ _ _ _ _ XU1.out; have u1 : q1.cell? ⟨gu, 1, none⟩ = some (.slice ka s.ks.length kc5) := cell_of_row _ _ _ _ _ _ XU1.out; clear hb)
          | (refine ld_bk (bR a3) _ rfl (.tmp 14) rfl _ rfl _ XC1.out ?_)
          | (go_at_call 21; clear tokH; refine (HHO.out a3 (Int.le_refl _) _ _ _ RK1.out RC1.out).mono ?_; rintro e q2 ⟨rfl, hb⟩; replace C1 := Lib.hid (C1.out.on hb); replace XU1 := Lib.hid (row_keep XU1.out hb); replace XC1 := Lib.hid (row_keep XC1.out hb); replace RK1 := Lib.hid (RK1.out.on hb); replace RC1 := Lib.hid (RC1.out.on hb); clear u0 u1; have u0 : q2.cell? ⟨gu, 0, none⟩ = some (.int .i64 s.nx) := cell_of_row _ _ _ _ _ _ XU1.out; have u1 : q2.cell? ⟨gu, 1, none⟩ = some (.slice ka s.ks.length kc5) := cell_of_row _ _ _ _ _ _ XU1.out; clear hb))
        go_ret
        exact ⟨rfl, C1.out.bel⟩
      · have HG : Hid (a3 ≤ a4) := Lib.hid (by omega)
        have hdg : decide (a4 < a3) = false := decide_eq_false hg
        go_wp2_with (first
          | (go_at_call 16; refine (HS.out _).mono ?_; rintro e q1 ⟨rfl, hb⟩; replace C1 := Lib.hid (C1.out.on hb); replace XU1 := Lib.hid (row_keep XU1.out hb); replace XC1 := Lib.hid (row_keep XC1.out hb); replace RK1 := Lib.hid (RK1.out.on hb); replace RC1 := Lib.hid (RC1.out.on hb); clear u0 u1; have u0 : q1.cell? ⟨gu, 0, none⟩ = some (.int .i64 s.nx) := cell_of_row _ _ _ _ _ _ XU1.out; have u1 : q1.cell? ⟨gu, 1, none⟩ = some (.slice ka s.ks.length kc5) := cell_of_row _ _ _ _ _ _ XU1.out; clear hb)
          | (refine ld_bk (bR a3) _ rfl (.tmp 14) rfl _ rfl _ XC1.out ?_)
          | (rw [hdg]; refine ld_bk (bR a3) _ rfl (.tmp 14) rfl _ rfl _ XC1.out ?_)
          | (go_at_call 21; clear tokH; refine (HHO.out a3 (Int.le_refl _) _ _ _ RK1.out RC1.out).mono ?_; rintro e q2 ⟨rfl, hb⟩; replace C1 := Lib.hid (C1.out.on hb); replace XU1 := Lib.hid (row_keep XU1.out hb); replace XC1 := Lib.hid (row_keep XC1.out hb); replace RK1 := Lib.hid (RK1.out.on hb); replace RC1 := Lib.hid (RC1.out.on hb); clear u0 u1; have u0 : q2.cell? ⟨gu, 0, none⟩ = some (.int .i64 s.nx) := cell_of_row _ _ _ _ _ _ XU1.out; have u1 : q2.cell? ⟨gu, 1, none⟩ = some (.slice ka s.ks.length kc5) := cell_of_row _ _ _ _ _ _ XU1.out; clear hb)
          | (go_at_call 21; refine (HHO.out a4 HG.out _ _ _ RK1.out RC1.out).mono ?_; rintro e q3 ⟨rfl, hb⟩; replace C1 := Lib.hid (C1.out.on hb); replace XU1 := Lib.hid (row_keep XU1.out hb); replace XC1 := Lib.hid (row_keep XC1.out hb); replace RK1 := Lib.hid (RK1.out.on hb); replace RC1 := Lib.hid (RC1.out.on hb); clear u0 u1; have u0 : q3.cell? ⟨gu, 0, none⟩ = some (.int .i64 s.nx) := cell_of_row _ _ _ _ _ _ XU1.out; have u1 : q3.cell? ⟨gu, 1, none⟩ = some (.slice ka s.ks.length kc5) := cell_of_row _ _ _ _ _ _ XU1.out; clear hb))
        go_ret
        exact ⟨rfl, C1.out.bel⟩
set_option maxRecDepth 100000 in
theorem restoreBackup_lifted (os : Os) (started : os.Started) (H : Type) (enc : TypeId × Value → H) :
    ReturnsInHanded {} Tryd.checked os 5 .any (fun w args => (Rows.restoreBackupSpec.pre enc Tryd.prog Tryd.f5 [] false w args ∧ laidMetH Tryd.prog laidL w) ∧ sizedMet enc Tryd.prog Tryd.f5 (OpenSpec.ofChange Rows.restoreBackupSpec) false w args) (Rows.restoreBackupSpec.post enc Tryd.prog Tryd.f5 false true false false) := by
  refine returnsInHanded_of_change_and (C := Tryd.checked) (X := fun w _ => laidMetH Tryd.prog laidL w) (fun _ _ _ hh h => h.of_heap hh) Tryd.own started (by kernel_rfl) Tryd.func5
    (ChangeSpec.witness_shaped (enc := enc) (C := Tryd.checked) (os := os) (X := fun w _ => laidMetH Tryd.prog laidL w) false (World.doorLaid Tryd.prog 132 os) #[.agg #[.int .i64 0, .slice none 0 0], .agg #[.int .i64 0, .slice none 0 0], .string ByteArray.empty, .int .i64 0, .int .i64 0] 8 rfl (World.shaped_of_RefB (by kernel_rfl) (by kernel_rfl)) (by kernel_rfl) (by kernel_rfl) (by kernel_rfl) (door_met os _)) ?_
  intro W base args ds gs before hval0 hW _ hwt hL _
  have hval : ∀ (j : Nat) t v, Tryd.f5.params[j]? = some t → args[j]? = some v → Value.okWide Tryd.prog W .any base t v := hval0
  have hW' := hW
  obtain ⟨p, q, hA0, hV, rfl, hfz, hnd⟩ := hW
  have hA : DataW.TrodAll enc Tryd.prog W 0 (fun _ => true) true Tryd.f5.params.toList args.toList ds p := hA0
  rw [Tryd.params5] at hA hval
  obtain ⟨v0, vs0, d0, ds0, p0, q0, hargs, rfl, rfl, h0, r0⟩ := trodAll_cons hA
  obtain ⟨v1, vs1, d1, ds1, p1, q1, rfl, rfl, rfl, h1, r1⟩ := trodAll_cons r0
  obtain ⟨v2, vs2, d2, ds2, p2, q2, rfl, rfl, rfl, h2, r2⟩ := trodAll_cons r1
  obtain ⟨v3, vs3, d3, ds3, p3, q3, rfl, rfl, rfl, h3, r3⟩ := trodAll_cons r2
  obtain ⟨v4, vs4, d4, ds4, p4, q4, rfl, rfl, rfl, h4, r4⟩ := trodAll_cons r3
  obtain ⟨rfl, rfl, rfl⟩ := trodAll_nil r4
  obtain rfl : args = #[v0, v1, v2, v3, v4] := by cases args; simp_all
  obtain ⟨rfl, rfl⟩ := trodVars_none hV
  have k0 := h0
  have lt0 : ∀ x ∈ p0, x.block < W.heap.size := by obtain ⟨m, hm⟩ := k0; exact DataW.trod_lt m _ _ _ hm
  have k1 := h1
  have lt1 : ∀ x ∈ p1, x.block < W.heap.size := by obtain ⟨m, hm⟩ := k1; exact DataW.trod_lt m _ _ _ hm
  obtain ⟨n0, u0, a0, rfl, x0, w0, f0⟩ := topen_t (hval 0 37 v0 rfl rfl) h0
  obtain ⟨n1, u1, a1, rfl, x1, w1, f1⟩ := topen_t (hval 1 37 v1 rfl rfl) h1
  obtain ⟨a2, rfl, rfl, rfl, w2⟩ := open_string Tryd.underlying9 (hval 2 9 v2 rfl rfl) h2
  obtain ⟨a3, rfl, rfl, rfl, w3⟩ := open_int Tryd.underlying3 (hval 3 3 v3 rfl rfl) h3
  obtain ⟨a4, rfl, rfl, rfl, w4⟩ := open_int Tryd.underlying3 (hval 4 3 v4 rfl rfl) h4
  have htab := tabs_at hL
  clear hA0 hval0
  refine (restoreBackup_walk n0 u0 a0 n1 u1 a1 a2 a3 a4 W x0 w0 f0 x1 w1 f1 w2 w3 w4 htab).mono fun e W' ⟨he, bel⟩ => ?_
  subst he
  exact ⟨_, rfl, _, _, _, [], _, [], hW', trodAll_mk1 (shut_bool Tryd.underlying4 _), (trodAll_cons_mk (Below.trod Tryd.laidOut (by kernel_rfl) (of_decide_eq_true (by kernel_rfl)) k0 bel lt0) (trodAll_cons_mk (Below.trod Tryd.laidOut (by kernel_rfl) (of_decide_eq_true (by kernel_rfl)) k1 bel lt1) (trodAll_cons_mk (shut_string Tryd.underlying9 w2) (trodAll_cons_mk (shut_int Tryd.underlying3 w3) (trodAll_cons_mk (shut_int Tryd.underlying3 w4) trodAll_mk0))))), rfl, bel.frame _, fun h => by cases h⟩
theorem restoreBackup_row : Rows.RestoreBackupSaid :=
  OpenClaim.holds_of_wide 5 Tryd.f5 rfl rfl rfl rfl rfl rfl rfl ⟨rfl, rfl, rfl, rfl, rfl⟩ rfl rfl rfl rfl rfl (by kernel_rfl) Tryd.func5 (by kernel_rfl)
    (of_decide_eq_true (by kernel_rfl)) (by unfold Func.isWrapper; first | (rw [if_pos (by decide +kernel)]; kernel_rfl) | (rw [if_neg (by decide +kernel)]; exact ⟨rfl, rfl⟩))
    (fun os started H enc _ => restoreBackup_lifted os started H enc)
theorem RestoreBackup_proved : Rows.RestoreBackupCardSaid :=
  Claim7.holds_tied_plain_at .later [] [.data] true Rows.restoreBackupCard.stood.harness false
    restoreBackup_row (fun _ h => by cases h) (by kernel_rfl) (fun _ h => by cases h) restoreBackup_row_tie rfl ⟨rfl, rfl⟩ (by kernel_rfl) rfl
    (fun f fn hf hfn => by
      obtain rfl : f = 5 := Option.some.inj ((show Tryd.prog.funcNamed "custody/custodylaw37.RestoreBackup" = some 5 by kernel_rfl).symm.trans hf) |>.symm
      obtain rfl : fn = Tryd.f5 := (Option.some.inj (Tryd.func5.symm.trans hfn)).symm
      exact ⟨by kernel_rfl, fun j t ht => by
        rw [Tryd.params5] at ht
        rcases j with _ | _ | _ | _ | _ | j
        · simp at ht; subst ht; kernel_rfl
        · simp at ht; subst ht; kernel_rfl
        · simp at ht; subst ht; kernel_rfl
        · simp at ht; subst ht; kernel_rfl
        · simp at ht; subst ht; kernel_rfl
        · simp at ht⟩)
    (by kernel_rfl)

end Go.Proofs.YtbpjdfnnlmblaaaDoor
