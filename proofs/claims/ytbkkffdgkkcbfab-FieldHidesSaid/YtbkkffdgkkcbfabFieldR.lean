/- The examples. -/
import Derived.Test.YtbkkffdgkkcbfabFieldQ
namespace Go.Proofs.Ytbkkffdgkkcbfab
open Go.RowKit F6
set_option linter.unusedSimpArgs false
set_option linter.unusedVariables false
theorem ex_inv (w : World) : Calls Try.prog 9 #[.int .u8 2] w fun e w' => e = .returned (.tuple #[.int .u8 142, .int .i64 0]) ∧ Below w.heap.size w w' := by
  have h := inv_c 2 (by decide) w
  rw [show B8 (inverse 2) = 142 by decide +kernel] at h
  exact h
theorem ex_inv0 (w : World) : Calls Try.prog 9 #[.int .u8 0] w fun e w' => e = .returned (.tuple #[.int .u8 0, .int .i64 1]) ∧ Below w.heap.size w w' :=
  (inv_c0 w).mono fun e w' h => ⟨h.1, by rw [h.2]; exact Below.refl _ _⟩
theorem ex_div (w : World) : Calls Try.prog 11 #[.int .u8 1, .int .u8 2] w fun e w' => e = .returned (.tuple #[.int .u8 142, .int .i64 0]) ∧ Below w.heap.size w w' := by
  have h := div_c 1 2 (by decide) w
  rw [show B8 (div 1 2) = 142 by decide +kernel] at h
  exact h
theorem ex_mul (w : World) : Calls Try.prog 14 #[.int .u8 2, .int .u8 128] w fun e w' => e = .returned (.int .u8 29) ∧ w' = w := by
  have h := mul_c 2 128 w
  rw [show B8 (mul 2 128) = 29 by decide +kernel] at h
  exact h
theorem ex_ok : okX [1, 2] = true := by decide
theorem ex_no : okX [1, 1] = false := by decide
theorem ex_wts (v : Value) (w : World) (hv : RdB w v [1, 2]) : Calls Try.prog 17 #[v, .int .u8 0] w fun e w' => ∃ u, e = .returned (.tuple #[u, .int .i64 0]) ∧ RdB w' u [245, 244] ∧ Below w.heap.size w w' := by
  have h := weights_c v [1, 2] 0 w hv ex_ok
  rw [show wts [1, 2] 0 ([1, 2] : List UInt8).length = [245, 244] by decide +kernel] at h
  exact h.mono fun e w' ⟨u, he, ho, hb⟩ => ⟨u, he, ho.rd, hb⟩
theorem ex_int (v u : Value) (w : World) (hv : RdB w v [1, 2]) (hu : RdB w u [6, 3]) : Calls Try.prog 19 #[v, u, .int .u8 0] w fun e w' => e = .returned (.tuple #[.int .u8 5, .int .i64 0]) ∧ Below w.heap.size w w' := by
  have h := interp_c v u [1, 2] [6, 3] 0 w hv hu ex_ok rfl
  rw [show B8 (interp [1, 2] [6, 3] 0) = 5 by decide +kernel] at h
  exact h
theorem ex_int0 (v u : Value) (w : World) (hv : RdB w v [1, 1]) (hu : RdB w u [0, 0]) : Calls Try.prog 19 #[v, u, .int .u8 0] w fun e w' => e = .returned (.tuple #[.int .u8 0, .int .i64 1]) ∧ Below w.heap.size w w' :=
  interp_c0 v u [1, 1] [0, 0] 0 w hv hu ex_no
theorem ex_coef (v u : Value) (w : World) (hv : RdB w v [1, 2]) (hu : RdB w u [6, 3]) : Calls Try.prog 21 #[v, u] w fun e w' => ∃ u, e = .returned (.tuple #[u, .int .i64 0]) ∧ RdB w' u [5, 3] ∧ Below w.heap.size w w' := by
  have h := coef_c v u [1, 2] [6, 3] w hv hu ex_ok rfl
  rw [show coef [1, 2] [6, 3] = [5, 3] by decide +kernel] at h
  exact h.mono fun e w' ⟨u, he, ho, hb⟩ => ⟨u, he, ho.rd, hb⟩
theorem ex_eval (v : Value) (w : World) (hv : RdB w v [5, 3]) : Calls Try.prog 23 #[v, .int .u8 2] w fun e w' => e = .returned (.int .u8 3) ∧ Below w.heap.size w w' := by
  have h := eval_c v [5, 3] 2 w hv
  rw [show B8 (ev [5, 3] 2) = 3 by decide +kernel] at h
  exact h.mono fun e w' ⟨he, n, hn⟩ => ⟨he, by rw [hn]; exact below_drewN _ (Below.refl _ _)⟩
theorem ex_same1 (v u : Value) (w : World) (hv : RdB w v [245, 244]) (hu : RdB w u [245, 244]) : Calls Try.prog 25 #[v, u] w fun e w' => e = .returned (.bool true) ∧ w' = w :=
  same_r v u _ _ w hv hu
theorem ex_same2 (v u : Value) (w : World) (hv : RdB w v [5, 3]) (hu : RdB w u [5, 3]) : Calls Try.prog 25 #[v, u] w fun e w' => e = .returned (.bool true) ∧ w' = w :=
  same_r v u _ _ w hv hu
theorem bl (w : World) (x y : UInt8) : RdB (w.alloc (.cells #[.int .u8 (B8 x), .int .u8 (B8 y)] 5)) (.slice (some ⟨w.heap.size, 0, none⟩) 2 2) [x, y] := built_rd w [x, y] (by simp)
theorem bl1_2 (w : World) : RdB (w.alloc (.cells #[.int .u8 1, .int .u8 2] 5)) (.slice (some ⟨w.heap.size, 0, none⟩) 2 2) [1, 2] := by
  have h := bl w 1 2
  rw [show B8 1 = 1 from rfl, show B8 2 = 2 from rfl] at h
  exact h
theorem bl6_3 (w : World) : RdB (w.alloc (.cells #[.int .u8 6, .int .u8 3] 5)) (.slice (some ⟨w.heap.size, 0, none⟩) 2 2) [6, 3] := by
  have h := bl w 6 3
  rw [show B8 3 = 3 from rfl, show B8 6 = 6 from rfl] at h
  exact h
theorem bl1_1 (w : World) : RdB (w.alloc (.cells #[.int .u8 1, .int .u8 1] 5)) (.slice (some ⟨w.heap.size, 0, none⟩) 2 2) [1, 1] := by
  have h := bl w 1 1
  rw [show B8 1 = 1 from rfl] at h
  exact h
theorem bl0_0 (w : World) : RdB (w.alloc (.cells #[.int .u8 0, .int .u8 0] 5)) (.slice (some ⟨w.heap.size, 0, none⟩) 2 2) [0, 0] := by
  have h := bl w 0 0
  rw [show B8 0 = 0 from rfl] at h
  exact h
theorem bl5_3 (w : World) : RdB (w.alloc (.cells #[.int .u8 5, .int .u8 3] 5)) (.slice (some ⟨w.heap.size, 0, none⟩) 2 2) [5, 3] := by
  have h := bl w 5 3
  rw [show B8 3 = 3 from rfl, show B8 5 = 5 from rfl] at h
  exact h
theorem bl245_244 (w : World) : RdB (w.alloc (.cells #[.int .u8 245, .int .u8 244] 5)) (.slice (some ⟨w.heap.size, 0, none⟩) 2 2) [245, 244] := by
  have h := bl w 245 244
  rw [show B8 244 = 244 from rfl, show B8 245 = 245 from rfl] at h
  exact h
theorem bp6_3 (w : World) (A : Obj) : RdB ((w.alloc A).alloc (.cells #[.int .u8 6, .int .u8 3] 5)) (.slice (some ⟨w.heap.size + 1, 0, none⟩) 2 2) [6, 3] := by
  have h := bl6_3 (w.alloc A)
  rw [World.size_alloc] at h
  exact h
theorem bp0_0 (w : World) (A : Obj) : RdB ((w.alloc A).alloc (.cells #[.int .u8 0, .int .u8 0] 5)) (.slice (some ⟨w.heap.size + 1, 0, none⟩) 2 2) [0, 0] := by
  have h := bl0_0 (w.alloc A)
  rw [World.size_alloc] at h
  exact h
theorem bp5_3 (w : World) (A : Obj) : RdB ((w.alloc A).alloc (.cells #[.int .u8 5, .int .u8 3] 5)) (.slice (some ⟨w.heap.size + 1, 0, none⟩) 2 2) [5, 3] := by
  have h := bl5_3 (w.alloc A)
  rw [World.size_alloc] at h
  exact h
attribute [local irreducible] mul ev pp wt wts isum interp coef
set_option maxRecDepth 100000 in
set_option maxHeartbeats 2000000 in
theorem sanity_c (w : World) : Calls Try.prog 13 #[] w fun e w' => e = .returned (.bool true) ∧ Below w.heap.size w w' := by
  have tok1 : True := trivial
  have tok2 : True := trivial
  have HB := Below.refl w.heap.size w
  go_enter Try.func13, Try.ntmps13
  go_wp2_with (first
    | (go_at_call 9; clear tok1; refine (ex_inv _).mono ?_; rintro e w1 ⟨rfl, hb⟩; replace HB := HB.trans (hb.mono HB.size); clear hb)
    | (go_at_call 9; refine (ex_inv0 _).mono ?_; rintro e w2 ⟨rfl, hb⟩; replace HB := HB.trans (hb.mono HB.size); clear hb)
    | (go_at_call 11; refine (ex_div _).mono ?_; rintro e w3 ⟨rfl, hb⟩; replace HB := HB.trans (hb.mono HB.size); clear hb)
    | (go_at_call 17; refine (ex_wts _ _ (bl1_2 w3)).mono ?_; rintro e w4 ⟨u4, rfl, HW, hb⟩; replace HB := (HB.alloc HB.size _).trans (hb.mono (HB.alloc HB.size _).size); clear hb)
    | (go_at_call 19; clear tok2; refine (ex_int _ _ _ ((bl1_2 w4).alloc _) (bp6_3 _ _)).mono ?_; rintro e w5 ⟨rfl, hb⟩; replace HW := ((HW.alloc _).alloc _).keep hb (Nat.le_refl _); replace HB := ((HB.alloc HB.size _).alloc (HB.alloc HB.size _).size _).trans (hb.mono ((HB.alloc HB.size _).alloc (HB.alloc HB.size _).size _).size); clear hb)
    | (go_at_call 21; refine (ex_coef _ _ _ ((bl1_2 w5).alloc _) (bp6_3 _ _)).mono ?_; rintro e w6 ⟨u6, rfl, HC, hb⟩; replace HW := ((HW.alloc _).alloc _).keep hb (Nat.le_refl _); replace HB := ((HB.alloc HB.size _).alloc (HB.alloc HB.size _).size _).trans (hb.mono ((HB.alloc HB.size _).alloc (HB.alloc HB.size _).size _).size); clear hb)
    | (go_at_call 19; refine (ex_int0 _ _ _ ((bl1_1 w6).alloc _) (bp0_0 _ _)).mono ?_; rintro e w7 ⟨rfl, hb⟩; replace HW := ((HW.alloc _).alloc _).keep hb (Nat.le_refl _); replace HC := ((HC.alloc _).alloc _).keep hb (Nat.le_refl _); replace HB := ((HB.alloc HB.size _).alloc (HB.alloc HB.size _).size _).trans (hb.mono ((HB.alloc HB.size _).alloc (HB.alloc HB.size _).size _).size); clear hb)
    | (go_at_call 14; refine (ex_mul _).mono ?_; rintro e _ ⟨rfl, rfl⟩)
    | (go_at_call 23; refine (ex_eval _ _ (bl5_3 _)).mono ?_; rintro e w8 ⟨rfl, hb⟩; replace HW := (HW.alloc _).keep hb (Nat.le_refl _); replace HC := (HC.alloc _).keep hb (Nat.le_refl _); replace HB := (HB.alloc HB.size _).trans (hb.mono (HB.alloc HB.size _).size); clear hb)
    | (go_at_call 25; refine (ex_same1 _ _ _ (HW.alloc _) (bl245_244 w8)).mono ?_; rintro e _ ⟨rfl, rfl⟩; replace HC := HC.alloc (.cells #[.int .u8 245, .int .u8 244] 5); clear HW)
    | (go_at_call 25; refine (ex_same2 _ _ _ (HC.alloc _) (bp5_3 _ _)).mono ?_; rintro e _ ⟨rfl, rfl⟩; clear HC))
  go_ret
  exact ⟨rfl, (HB.alloc HB.size _).alloc (HB.alloc HB.size _).size _⟩
end Go.Proofs.Ytbkkffdgkkcbfab
