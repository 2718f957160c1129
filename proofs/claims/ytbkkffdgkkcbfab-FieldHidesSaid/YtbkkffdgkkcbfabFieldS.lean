/- Facts of the laws, without a walk. -/
import Derived.Test.YtbkkffdgkkcbfabFrameB
namespace Go.Proofs.Ytbkkffdgkkcbfab
open Go.RowKit F6
theorem axioms_three (a b : UInt8) : ((errB b == 0) = true ∧ (B8 b != 0) = true ∧ (B8 b == 0) = false ∧ (B8 (div (mul a b) b) != B8 a) = false ∧ (B8 a == 0) = false ∧ (B8 (mul a b) != 0) = true) ∨
      ((errB b == 0) = true ∧ (B8 b != 0) = true ∧ (B8 b == 0) = false ∧ (B8 (div (mul a b) b) != B8 a) = false ∧ (B8 a == 0) = true ∧ (B8 (mul a b) != 0) = false) ∨
      ((errB b == 0) = false ∧ (B8 b != 0) = false ∧ (B8 b == 0) = true ∧ (B8 a == 0) = false ∧ (B8 (mul a b) != 0) = false) ∨
      ((errB b == 0) = false ∧ (B8 b != 0) = false ∧ (B8 b == 0) = true ∧ (B8 a == 0) = true ∧ (B8 (mul a b) != 0) = false) := by
  by_cases hb : b = 0
  · subst hb
    rw [mul_zero]
    by_cases ha : a = 0
    · subst ha
      exact .inr (.inr (.inr ⟨rfl, rfl, rfl, rfl, rfl⟩))
    · exact .inr (.inr (.inl ⟨rfl, rfl, rfl, b8_ne ha, rfl⟩))
  · have b0 := b8_ne hb
    have b1 : (B8 b != 0) = true := by rw [bne, b0]; rfl
    have b2 : (B8 (div (mul a b) b) != B8 a) = false := by rw [mul_div a b hb]; simp
    have b3 : (errB b == 0) = true := by rw [errB_ne hb]; rfl
    by_cases ha : a = 0
    · subst ha
      rw [zero_mul] at b2 ⊢
      exact .inr (.inl ⟨b3, b1, b0, b2, rfl, rfl⟩)
    · have m0 := b8_ne (mul_ne_zero ha hb)
      exact .inl ⟨b3, b1, b0, b2, b8_ne ha, by rw [bne, m0]; rfl⟩
theorem mul_c1 (a : UInt8) (w : World) : Calls Try.prog 14 #[.int .u8 (B8 a), .int .u8 1] w fun e w' => e = .returned (.int .u8 (B8 a)) ∧ w' = w := by
  have h := mul_c a 1 w
  rw [mul_one] at h
  exact h
theorem RdB.on {w w' : World} {v : Value} {l : List UInt8} (h : RdB w v l) (hb : Below w.heap.size w w') : RdB w' v l := h.keep hb (Nat.le_refl _)
/-- the weights, or none -/
def wtsX (xs : List UInt8) (x : UInt8) : List UInt8 := if okX xs = true then wts xs x xs.length else []
def errW (xs : List UInt8) : Int := if okX xs = true then 0 else 1
def intX (xs ys : List UInt8) (x : UInt8) : UInt8 := if okX xs = true ∧ xs.length = ys.length then interp xs ys x else 0
def coefX (xs ys : List UInt8) : List UInt8 := if okX xs = true ∧ xs.length = ys.length then coef xs ys else []
def errI (xs ys : List UInt8) : Int := if okX xs = true ∧ xs.length = ys.length then 0 else 1
theorem weights_ca (v : Value) (xs : List UInt8) (x : UInt8) (w : World) (hv : RdB w v xs) :
    Calls Try.prog 17 #[v, .int .u8 (B8 x)] w fun e w' => ∃ u, e = .returned (.tuple #[u, .int .i64 (errW xs)]) ∧ RdB w' u (wtsX xs x) ∧ Below w.heap.size w w' := by
  by_cases h : okX xs = true
  · rw [errW, wtsX, if_pos h, if_pos h]
    exact (weights_c v xs x w hv h).mono fun e w' ⟨u, he, ho, hb⟩ => ⟨u, he, ho.rd, hb⟩
  · rw [errW, wtsX, if_neg h, if_neg h]
    exact (weights_c0 v xs x w hv (by simpa using h)).mono fun e w' ⟨he, hb⟩ => ⟨_, he, RdB.nil _, hb⟩
theorem weights_ra (v : Value) (xs : List UInt8) (x : UInt8) (w : World) (hv : RdB w v xs) :
    Calls Try.prog 18 #[v, .int .u8 (B8 x)] w fun e w' => ∃ u, e = .returned (.tuple #[u, .int .i64 (errW xs)]) ∧ RdB w' u (wtsX xs x) ∧ Below w.heap.size w w' := by
  by_cases h : okX xs = true
  · rw [errW, wtsX, if_pos h, if_pos h]
    exact (weights_r v xs x w hv h).mono fun e w' ⟨u, he, ho, hb⟩ => ⟨u, he, ho.rd, hb⟩
  · rw [errW, wtsX, if_neg h, if_neg h]
    exact (weights_r0 v xs x w hv (by simpa using h)).mono fun e w' ⟨he, hb⟩ => ⟨_, he, RdB.nil _, hb⟩
theorem interp_ca (v u : Value) (xs ys : List UInt8) (x : UInt8) (w : World) (hv : RdB w v xs) (hu : RdB w u ys) :
    Calls Try.prog 19 #[v, u, .int .u8 (B8 x)] w fun e w' => e = .returned (.tuple #[.int .u8 (B8 (intX xs ys x)), .int .i64 (errI xs ys)]) ∧ Below w.heap.size w w' := by
  by_cases h : okX xs = true
  · by_cases hl : xs.length = ys.length
    · rw [intX, errI, if_pos ⟨h, hl⟩, if_pos ⟨h, hl⟩]; exact interp_c v u xs ys x w hv hu h hl
    · rw [intX, errI, if_neg (fun e => hl e.2), if_neg (fun e => hl e.2)]; exact interp_c1 v u xs ys x w hv hu h hl
  · rw [intX, errI, if_neg (fun e => h e.1), if_neg (fun e => h e.1)]; exact interp_c0 v u xs ys x w hv hu (by simpa using h)
theorem interp_ra (v u : Value) (xs ys : List UInt8) (x : UInt8) (w : World) (hv : RdB w v xs) (hu : RdB w u ys) :
    Calls Try.prog 20 #[v, u, .int .u8 (B8 x)] w fun e w' => e = .returned (.tuple #[.int .u8 (B8 (intX xs ys x)), .int .i64 (errI xs ys)]) ∧ Below w.heap.size w w' := by
  by_cases h : okX xs = true
  · by_cases hl : xs.length = ys.length
    · rw [intX, errI, if_pos ⟨h, hl⟩, if_pos ⟨h, hl⟩]; exact interp_r v u xs ys x w hv hu h hl
    · rw [intX, errI, if_neg (fun e => hl e.2), if_neg (fun e => hl e.2)]; exact interp_r1 v u xs ys x w hv hu h hl
  · rw [intX, errI, if_neg (fun e => h e.1), if_neg (fun e => h e.1)]; exact interp_r0 v u xs ys x w hv hu (by simpa using h)
theorem coef_ca (v u : Value) (xs ys : List UInt8) (w : World) (hv : RdB w v xs) (hu : RdB w u ys) :
    Calls Try.prog 21 #[v, u] w fun e w' => ∃ u, e = .returned (.tuple #[u, .int .i64 (errI xs ys)]) ∧ RdB w' u (coefX xs ys) ∧ Below w.heap.size w w' := by
  by_cases h : okX xs = true
  · by_cases hl : xs.length = ys.length
    · rw [coefX, errI, if_pos ⟨h, hl⟩, if_pos ⟨h, hl⟩]; exact (coef_c v u xs ys w hv hu h hl).mono fun e w' ⟨u, he, ho, hb⟩ => ⟨u, he, ho.rd, hb⟩
    · rw [coefX, errI, if_neg (fun e => hl e.2), if_neg (fun e => hl e.2)]; exact (coef_c1 v u xs ys w hv hu h hl).mono fun e w' ⟨he, hb⟩ => ⟨_, he, RdB.nil _, hb⟩
  · rw [coefX, errI, if_neg (fun e => h e.1), if_neg (fun e => h e.1)]; exact (coef_c0 v u xs ys w hv hu (by simpa using h)).mono fun e w' ⟨he, hb⟩ => ⟨_, he, RdB.nil _, hb⟩
theorem coef_ra (v u : Value) (xs ys : List UInt8) (w : World) (hv : RdB w v xs) (hu : RdB w u ys) :
    Calls Try.prog 22 #[v, u] w fun e w' => ∃ u, e = .returned (.tuple #[u, .int .i64 (errI xs ys)]) ∧ RdB w' u (coefX xs ys) ∧ Below w.heap.size w w' := by
  by_cases h : okX xs = true
  · by_cases hl : xs.length = ys.length
    · rw [coefX, errI, if_pos ⟨h, hl⟩, if_pos ⟨h, hl⟩]; exact (coef_r v u xs ys w hv hu h hl).mono fun e w' ⟨u, he, ho, hb⟩ => ⟨u, he, ho.rd, hb⟩
    · rw [coefX, errI, if_neg (fun e => hl e.2), if_neg (fun e => hl e.2)]; exact (coef_r1 v u xs ys w hv hu h hl).mono fun e w' ⟨he, hb⟩ => ⟨_, he, RdB.nil _, hb⟩
  · rw [coefX, errI, if_neg (fun e => h e.1), if_neg (fun e => h e.1)]; exact (coef_r0 v u xs ys w hv hu (by simpa using h)).mono fun e w' ⟨he, hb⟩ => ⟨_, he, RdB.nil _, hb⟩
end Go.Proofs.Ytbkkffdgkkcbfab
