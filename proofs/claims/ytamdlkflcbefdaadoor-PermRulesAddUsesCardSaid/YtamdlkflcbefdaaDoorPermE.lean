/- Is there a rule: May, both. -/
import Derived.Test.YtamdlkflcbefdaaDoorPermC
namespace Go.Proofs.YtamdlkflcbefdaaDoor
open Go.RowKit Go.Shelf
set_option linter.unusedSimpArgs false
set_option linter.unusedVariables false
/-- the place of a rule -/
def ruIx (l : List RuP) (x : RuP) : Int := firstIx (fun y => decide (y = x)) l
theorem ruIx_mem (l : List RuP) (x : RuP) : decide (0 ≤ ruIx l x) = decide (x ∈ l) := by
  rcases firstIx_parts (fun y => decide (y = x)) l with ⟨h, h2⟩ | ⟨i, hi, h, h2, _⟩
  · have e : ruIx l x = -1 := h
    rw [e]
    symm
    refine decide_eq_false fun hx => ?_
    obtain ⟨i, hi, rfl⟩ := List.mem_iff_getElem.1 hx
    have := h2 i hi
    rw [nth_eq l i hi] at this
    simp at this
  · have e : ruIx l x = i := h
    rw [e]
    have : x ∈ l := by
      have := of_decide_eq_true h2
      rw [nth_eq l i hi] at this
      rw [← this]
      exact List.getElem_mem _
    simp [this]
/-- how two rules differ -/
theorem ru_parts (y x : RuP) : (decide (y = x) = true ∧ y = x) ∨ (decide (y = x) = false ∧ ¬ y.k = x.k) ∨ (decide (y = x) = false ∧ y.k = x.k ∧ ¬ y.a = x.a) ∨ (decide (y = x) = false ∧ y.k = x.k ∧ y.a = x.a ∧ ¬ y.b = x.b) := by
  obtain ⟨yk, ya, yb⟩ := y
  obtain ⟨xk, xa, xb⟩ := x
  by_cases h1 : yk = xk
  · by_cases h2 : ya = xa
    · by_cases h3 : yb = xb
      · left; simp [h1, h2, h3]
      · right; right; right; simp [h1, h2, h3]
    · right; right; left; simp [h1, h2]
  · right; left; simp [h1]
theorem ru_parts' (y x : RuP) : (decide (y = x) = true ∧ y = x) ∨ (decide (y = x) = false ∧ ¬ x.k = y.k) ∨ (decide (y = x) = false ∧ x.k = y.k ∧ ¬ x.a = y.a) ∨ (decide (y = x) = false ∧ x.k = y.k ∧ x.a = y.a ∧ ¬ x.b = y.b) := by
  rcases ru_parts y x with h | ⟨h, h1⟩ | ⟨h, h1, h2⟩ | ⟨h, h1, h2, h3⟩
  · exact .inl h
  · exact .inr (.inl ⟨h, fun e => h1 e.symm⟩)
  · exact .inr (.inr (.inl ⟨h, h1.symm, fun e => h2 e.symm⟩))
  · exact .inr (.inr (.inr ⟨h, h1.symm, h2.symm, fun e => h3 e.symm⟩))
attribute [local irreducible] Calls
set_option maxHeartbeats 4000000 in
theorem index_r (v : Value) (l : List RuP) (x : RuP) (w : World) (hv : RdE eR w v l) :
    Calls Tryd.prog 45 #[v, .agg #[.int .i64 x.k, .int .i64 x.a, .int .i64 x.b]] w fun e w' => e = .returned (.int .i64 (ruIx l x)) ∧ Below w.heap.size w w' := by
  have hlen := hv.len
  unfold maxLen at hlen
  obtain ⟨W0, hW0⟩ : ∃ W0, W0 = w.alloc (.cells #[.int .i64 x.k, .int .i64 x.a, .int .i64 x.b] 55) := ⟨_, rfl⟩
  have HV : Hid (RdE eR W0 v l) := Lib.hid (by rw [hW0]; exact hv.alloc _)
  have HBX : Hid (W0.cell? ⟨w.heap.size, 0, none⟩ = some (.int .i64 x.k) ∧ W0.cell? ⟨w.heap.size, 1, none⟩ = some (.int .i64 x.a) ∧ W0.cell? ⟨w.heap.size, 2, none⟩ = some (.int .i64 x.b) ∧ ∀ n, Below w.heap.size w (W0.drewN n)) :=
    Lib.hid (by rw [hW0]; exact ⟨boxed1 _ _ _ (Below.refl _ _) 0, boxed1 _ _ _ (Below.refl _ _) 1, boxed1 _ _ _ (Below.refl _ _) 2, fun n => below_drewN n ((Below.refl _ _).alloc (Nat.le_refl _) _)⟩)
  obtain ⟨a, cap, rfl, _, _, _⟩ := hv
  have HW := Lib.hid hW0
  clear hW0
  go_enter Tryd.func45, Tryd.ntmps45
  go_wp2
  go_loopw [8] (fun o wr => ∃ k : Nat, k ≤ l.length ∧ o = .int .i64 k ∧ Hid (∀ j, j < k → decide (nth l j = x) = false) ∧ ∃ n, wr = W0.drewN n) (fun o _ => l.length - (intOf o).toNat)
  case atStart => exact ⟨0, Nat.zero_le _, rfl, Lib.hid (fun j hj => absurd hj (by omega)), 0, by rw [HW.out]; rfl⟩
  case round =>
    obtain ⟨k, hk, rfl, hno, n, rfl⟩ := hrel
    obtain ⟨x0, x1, x2, hbe⟩ := HBX.out
    have HBE := Lib.hid hbe
    clear hbe
    by_cases hlt : k < l.length
    · obtain ⟨b, off, rfl, hbl, hrow⟩ := (HV.out.cellsR) (by omega)
      obtain ⟨d0, d1, d2⟩ := hrow k hlt
      have i1 : (k : Int) < l.length := by omega
      have HK := Lib.hid hlt
      have HX : Hid (∀ j, j < k + 1 → j ≠ k → decide (nth l j = x) = false) := Lib.hid (fun j hj hne => hno.out j (by omega))
      have HH := Lib.hid (fun h => firstIx_hit (fun y => decide (y = x)) l k hlt hno.out h)
      clear hrow hno
      generalize hy : nth l k = y at d0 d1 d2 HH
      have HY := Lib.hid hy
      clear hy
      rcases ru_parts' y x with ⟨q0, rfl⟩ | ⟨q0, q1⟩ | ⟨q0, q1, q2⟩ | ⟨q0, q1, q2, q3⟩
      · have r : ruIx l y = k := HH.out q0
        have HR := Lib.hid r
        clear r q0
        go_wp2
        first | refine allD (by kernel_rfl) (by kernel_rfl) ?_ | refine all0 (by kernel_rfl) (by kernel_rfl) ?_
        repeat (go_big_quiet_step (fail))
        refine wpQuiet_nil ?_
        rintro _ ⟨nq, rfl⟩
        go_wp2
        go_ret
        refine ⟨by rw [HR.out]; rfl, ?_⟩
        first | exact HBE.out _ | (rw [World.drewN_drewN]; exact HBE.out _)
      all_goals
        have HQ := Lib.hid q0
        clear q0
        go_wp2
        first | refine allD (by kernel_rfl) (by kernel_rfl) ?_ | refine all0 (by kernel_rfl) (by kernel_rfl) ?_
        repeat (go_big_quiet_step (fail))
        refine wpQuiet_nil ?_
        rintro _ ⟨nq, rfl⟩
        go_wp2
        go_roundw
        case rel => exact ⟨k + 1, HK.out, by go_num, Lib.hid (fun j hj => by
          by_cases e : j = k
          · subst e; rw [HY.out]; exact HQ.out
          · exact HX.out j hj e), _, rfl⟩
        case measure => have := HK.out; simp [intOf]; omega
    · have he : k = l.length := by omega
      have i1 : (l.length : Int) ≤ k := by omega
      have hm : ruIx l x = -1 := firstIx_miss _ l (fun j hj => hno.out j (by omega))
      have HM := Lib.hid hm
      clear hm hno he
      go_wp2
      go_ret
      exact ⟨by rw [HM.out]; rfl, HBE.out _⟩
set_option maxHeartbeats 2000000 in
theorem contains_r (v : Value) (l : List RuP) (x : RuP) (w : World) (hv : RdE eR w v l) :
    Calls Tryd.prog 42 #[v, .agg #[.int .i64 x.k, .int .i64 x.a, .int .i64 x.b]] w fun e w' => e = .returned (.bool (decide (x ∈ l))) ∧ Below w.heap.size w w' := by
  have HC := Lib.hid (index_r v l x (w.alloc (.cells #[.int .i64 x.k, .int .i64 x.a, .int .i64 x.b] 55)) (hv.alloc _))
  rw [← ruIx_mem]
  obtain ⟨a, cap, rfl, _, _, _⟩ := hv
  generalize ruIx l x = z at HC ⊢
  go_enter Tryd.func42, Tryd.ntmps42
  go_wp2_with (go_at_call 45; refine HC.out.mono ?_; rintro e w1 ⟨rfl, hb⟩)
  go_ret
  exact ⟨rfl, below1 _ _ hb⟩
set_option maxHeartbeats 2000000 in
theorem may_c (s : ByteArray) (vt vr vq : Value) (l : List RuP) (k a b : Int) (w : World) (hv : RdE eR w vr l) :
    Calls Tryd.prog 24 #[.agg #[.string s, vt, vr, vq], .int .i64 k, .int .i64 a, .int .i64 b] w fun e w' => e = .returned (.bool (decide (RuP.mk k a b ∈ l))) ∧ Below w.heap.size w w' := by
  have HC := Lib.hid (contains_r vr l ⟨k, a, b⟩ (w.alloc (.cells #[.string s, vt, vr, vq] 26)) (hv.alloc _))
  obtain ⟨ad, cap, rfl, _, _, _⟩ := hv
  go_enter Tryd.func24, Tryd.ntmps24
  go_wp2_with (go_at_call 42; refine HC.out.mono ?_; rintro e w1 ⟨rfl, hb⟩)
  go_ret
  exact ⟨rfl, below1 _ _ hb⟩
set_option maxHeartbeats 4000000 in
theorem may_r (s : ByteArray) (vt vr vq : Value) (l : List RuP) (rk ra rb : Int) (w : World) (hv : RdE eR w vr l) :
    Calls Tryd.prog 25 #[.agg #[.string s, vt, vr, vq], .int .i64 rk, .int .i64 ra, .int .i64 rb] w fun e w' => e = .returned (.bool (decide (RuP.mk rk ra rb ∈ l))) ∧ Below w.heap.size w w' := by
  have hlen := hv.len
  unfold maxLen at hlen
  obtain ⟨W0, hW0⟩ : ∃ W0, W0 = w.alloc (.cells #[.string s, vt, vr, vq] 26) := ⟨_, rfl⟩
  have HV : Hid (RdE eR W0 vr l) := Lib.hid (by rw [hW0]; exact hv.alloc _)
  have HBX : Hid (W0.cell? ⟨w.heap.size, 2, none⟩ = some vr ∧ ∀ n, Below w.heap.size w (W0.drewN n)) :=
    Lib.hid (by rw [hW0]; exact ⟨boxed1 _ _ _ (Below.refl _ _) 2, fun n => below_drewN n ((Below.refl _ _).alloc (Nat.le_refl _) _)⟩)
  rw [← ruIx_mem]
  obtain ⟨a, cap, rfl, _, _, _⟩ := hv
  have HW := Lib.hid hW0
  clear hW0
  go_enter Tryd.func25, Tryd.ntmps25
  go_wp2
  go_loopw [9] (fun o wr => ∃ k : Nat, k ≤ l.length ∧ o = .int .i64 k ∧ Hid (∀ j, j < k → decide (nth l j = ⟨rk, ra, rb⟩) = false) ∧ ∃ n, wr = W0.drewN n) (fun o _ => l.length - (intOf o).toNat)
  case atStart => exact ⟨0, Nat.zero_le _, rfl, Lib.hid (fun j hj => absurd hj (by omega)), 0, by rw [HW.out]; rfl⟩
  case round =>
    obtain ⟨k, hk, rfl, hno, n, rfl⟩ := hrel
    obtain ⟨x0, hbe⟩ := HBX.out
    have HBE := Lib.hid hbe
    clear hbe
    by_cases hlt : k < l.length
    · obtain ⟨b, off, rfl, hbl, hrow⟩ := (HV.out.cellsR) (by omega)
      obtain ⟨d0, d1, d2⟩ := hrow k hlt
      have i1 : (k : Int) < l.length := by omega
      have HK := Lib.hid hlt
      have HX : Hid (∀ j, j < k + 1 → j ≠ k → decide (nth l j = ⟨rk, ra, rb⟩) = false) := Lib.hid (fun j hj hne => hno.out j (by omega))
      have HH := Lib.hid (fun h => firstIx_hit (fun y => decide (y = (⟨rk, ra, rb⟩ : RuP))) l k hlt hno.out h)
      clear hrow hno
      generalize hy : nth l k = y at d0 d1 d2 HH
      have HY := Lib.hid hy
      clear hy
      rcases ru_parts y ⟨rk, ra, rb⟩ with ⟨q0, rfl⟩ | ⟨q0, q1⟩ | ⟨q0, q1, q2⟩ | ⟨q0, q1, q2, q3⟩
      · have r : ruIx l ⟨rk, ra, rb⟩ = k := HH.out q0
        have HR := Lib.hid r
        clear r q0
        go_wp2
        go_ret
        exact ⟨by rw [HR.out]; simp, HBE.out _⟩
      all_goals
        have HQ := Lib.hid q0
        clear q0
        go_wp2
        go_roundw
        case rel => exact ⟨k + 1, HK.out, by go_num, Lib.hid (fun j hj => by
          by_cases e : j = k
          · subst e; rw [HY.out]; exact HQ.out
          · exact HX.out j hj e), _, rfl⟩
        case measure => have := HK.out; simp [intOf]; omega
    · have he : k = l.length := by omega
      have i1 : (l.length : Int) ≤ k := by omega
      have hm : ruIx l ⟨rk, ra, rb⟩ = -1 := firstIx_miss _ l (fun j hj => hno.out j (by omega))
      have HM := Lib.hid hm
      clear hm hno he
      go_wp2
      go_ret
      exact ⟨by rw [HM.out]; rfl, HBE.out _⟩
end Go.Proofs.YtamdlkflcbefdaaDoor
