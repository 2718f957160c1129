/- Equality of rows; the examples. -/
import Derived.Test.YtackbjbmadkkhaaDoorCipF
namespace Go.Proofs.YtackbjbmadkkhaaDoor
open Go.RowKit
set_option linter.unusedSimpArgs false
set_option linter.unusedVariables false

theorem part_row (s : List UInt32) (k : Nat) (hk : k < s.length) (w : World) : (part 39 (row s) k).run Tryd.prog w = .ok (.int .u32 (W32 (w16 s k))) w := by
  have := row_get s k hk
  simp [part, go_sem, hk]
theorem eq_cell (d : Nat) (a b : UInt32) (w : World) : (Op.equalIn (d + 1) 39 (.int .u32 (W32 a)) (.int .u32 (W32 b))).run Tryd.prog w = .ok (decide (a = b)) w := by
  rw [run_equalIn_int w d _ _ _ _ _ Tryd.underlying39]
  by_cases h : a = b
  · subst h; simp
  · have : W32 a ≠ W32 b := fun e => h (u32_inj e)
    simp [h, this]
open Classical in
theorem rows_loop (d : Nat) (s t : List UInt32) (hs : s.length = 16) (ht : t.length = 16) (w : World) : ∀ (n k : Nat), k + n ≤ 16 →
    ((forIn (List.range' k n) ((none : Option Bool), ()) (fun i r => do
      let a ← part 39 (row s) (i * 1)
      let b ← part 39 (row t) (i * 1)
      let c ← Op.equalIn (d + 1) 39 a b
      if (!c) = true then pure (ForInStep.done (some false, ())) else pure (ForInStep.yield (none, ()))) : Sem (Option Bool × Unit)).run Tryd.prog w) =
    .ok ((if ∀ i, k ≤ i → i < k + n → w16 s i = w16 t i then none else some false), ()) w := by
  intro n
  induction n with
  | zero => intro k hk; rw [if_pos (fun i h1 h2 => absurd h2 (by omega))]; rfl
  | succ n ih =>
    intro k hk
    have p1 := part_row s k (by omega) w
    have p2 := part_row t k (by omega) w
    rw [List.range'_succ, List.forIn_cons]
    simp only [Sem.run_bind, p1, p2, Result.andThen_ok, eq_cell, Nat.mul_one]
    by_cases h : w16 s k = w16 t k
    · simp only [h, decide_true, Bool.not_true, Bool.false_eq_true, if_false, Sem.run_pure, Result.andThen_ok]
      have := ih (k + 1) (by omega)
      simp only [Nat.mul_one] at this
      rw [this]
      congr 2
      by_cases h2 : ∀ i, k + 1 ≤ i → i < k + 1 + n → w16 s i = w16 t i
      · rw [if_pos h2, if_pos]
        intro i h3 h4
        rcases Nat.eq_or_lt_of_le h3 with h5 | h5
        · subst h5; exact h
        · exact h2 i h5 (by omega)
      · rw [if_neg h2, if_neg]
        exact fun h3 => h2 (fun i h4 h5 => h3 i (by omega) (by omega))
    · simp only [h, decide_false, Bool.not_false, if_true, Sem.run_pure, Result.andThen_ok]
      rw [if_neg]
      exact fun h3 => h (h3 k (Nat.le_refl _) (by omega))
theorem rows_eq (s t : List UInt32) (hs : s.length = 16) (ht : t.length = 16) : (∀ i, 0 ≤ i → i < 0 + 16 → w16 s i = w16 t i) ↔ s = t := by
  constructor
  · intro h
    apply List.ext_getElem (by rw [hs, ht])
    intro i h1 h2
    have := h i (by omega) (by omega)
    simpa [w16, List.getD_eq_getElem?_getD, List.getElem?_eq_getElem h1, List.getElem?_eq_getElem h2] using this
  · rintro rfl i _ _; rfl
theorem eq_row (d : Nat) (s t : List UInt32) (hs : s.length = 16) (ht : t.length = 16) (w : World) : (Op.equalIn (d + 2) 71 (.agg (row s)) (.agg (row t))).run Tryd.prog w = .ok (decide (s = t)) w := by
  have hz : (sizeOf 39).run Tryd.prog w = .ok 1 w := by
    cases hq : Tryd.prog.info? 39 with
    | none => have := size22e; rw [hq] at this; cases this
    | some i => have h1 := size22e; rw [hq] at h1; simp at h1; simp [sizeOf, typeInfo, hq, h1]
  unfold Op.equalIn
  simp only [Sem.run_bind, run_underlying Tryd.underlying71, Result.andThen_ok, hz, Std.Legacy.Range.forIn_eq_forIn_range', Std.Legacy.Range.size]
  have := rows_loop d s t hs ht w 16 0 (by omega)
  simp only [Nat.sub_zero, Nat.add_sub_cancel, Nat.div_one] at this ⊢
  rw [this]
  simp only [Result.andThen_ok]
  by_cases h : s = t
  · rw [if_pos ((rows_eq s t hs ht).2 h)]; simp [h]
  · rw [if_neg (fun h2 => h ((rows_eq s t hs ht).1 h2))]; simp [h]
theorem guard_row : Tryd.prog.eqGuardType Tryd.prog.depth 71 = false := by kernel_rfl
theorem eql_row (s t : List UInt32) (hs : s.length = 16) (ht : t.length = 16) (w : World) : (binOp .eql 71 (.agg (row s)) (.agg (row t))).run Tryd.prog w = .ok (.bool (decide (s = t))) w := by
  rw [run_eql_struct]
  rw [show (10000 : Nat) = 9998 + 2 from rfl, eq_row 9998 s t hs ht]
  rfl
theorem neq_row (s t : List UInt32) (hs : s.length = 16) (ht : t.length = 16) (w : World) : (binOp .neq 71 (.agg (row s)) (.agg (row t))).run Tryd.prog w = .ok (.bool (!decide (s = t))) w := by
  rw [run_neq_struct]
  rw [show (10000 : Nat) = 9998 + 2 from rfl, eq_row 9998 s t hs ht]
  rfl
end Go.Proofs.YtackbjbmadkkhaaDoor
