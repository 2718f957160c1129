/- Policies: does a type exist, has it flags; the first of a list that a function value takes. -/
import Derived.Test.YtamdlkflcbefdaaDoorPermA
namespace Go.Proofs.YtamdlkflcbefdaaDoor
open Go.RowKit
set_option linter.unusedSimpArgs false
set_option linter.unusedVariables false
/-- t is the index of one of n types -/
def ex (t : Int) (n : Nat) : Bool := decide (0 ≤ t) && decide (t < n)
theorem ex_parts (t : Int) (n : Nat) : (ex t n = false ∧ ¬ 0 ≤ t) ∨ (ex t n = false ∧ 0 ≤ t ∧ ¬ t < n) ∨ (ex t n = true ∧ ∃ i : Nat, t = i ∧ i < n) := by
  unfold ex
  by_cases h1 : 0 ≤ t
  · by_cases h2 : t < n
    · exact .inr (.inr ⟨by simp [h1, h2], t.toNat, by omega, by omega⟩)
    · exact .inr (.inl ⟨by simp [h2], h1, h2⟩)
  · exact .inl ⟨by simp [h1], h1⟩
theorem exists_c (s : ByteArray) (vt vr vq : Value) (l : List TyP) (t : Int) (w : World) (hv : RdE eT w vt l) :
    Calls Tryd.prog 36 #[.agg #[.string s, vt, vr, vq], .int .i64 t] w fun e w' => e = .returned (.bool (ex t l.length)) ∧ Below w.heap.size w w' := by
  obtain ⟨a, cap, rfl, _, _, _⟩ := hv
  rcases ex_parts t l.length with ⟨h0, h1⟩ | ⟨h0, h1, h2⟩ | ⟨h0, i, rfl, h2⟩
  · have h1' : t < 0 := by omega
    rw [h0]
    go_enter Tryd.func36, Tryd.ntmps36
    go_wp2
    go_ret
    exact ⟨by first | rfl | simp_all, (Below.refl _ _).alloc (Nat.le_refl _) _⟩
  · rw [h0]
    go_enter Tryd.func36, Tryd.ntmps36
    go_wp2
    go_ret
    exact ⟨by first | rfl | simp_all, (Below.refl _ _).alloc (Nat.le_refl _) _⟩
  · have h1 : (0 : Int) ≤ i := by omega
    have h3 : (i : Int) < l.length := by omega
    rw [h0]
    go_enter Tryd.func36, Tryd.ntmps36
    go_wp2
    go_ret
    exact ⟨by first | rfl | simp_all, (Below.refl _ _).alloc (Nat.le_refl _) _⟩
theorem is_r (s : ByteArray) (vt vr vq : Value) (l : List TyP) (t : Int) (w : World) (hv : RdE eT w vt l) :
    Calls Tryd.prog 37 #[.agg #[.string s, vt, vr, vq], .int .i64 t] w fun e w' => e = .returned (.bool (ex t l.length)) ∧ Below w.heap.size w w' := by
  obtain ⟨a, cap, rfl, _, _, _⟩ := hv
  rcases ex_parts t l.length with ⟨h0, h1⟩ | ⟨h0, h1, h2⟩ | ⟨h0, i, rfl, h2⟩
  · have h1' : t < 0 := by omega
    rw [h0]
    go_enter Tryd.func37, Tryd.ntmps37
    go_wp2
    go_ret
    exact ⟨by first | rfl | simp_all, (Below.refl _ _).alloc (Nat.le_refl _) _⟩
  · rw [h0]
    go_enter Tryd.func37, Tryd.ntmps37
    go_wp2
    go_ret
    exact ⟨by first | rfl | simp_all, (Below.refl _ _).alloc (Nat.le_refl _) _⟩
  · have h1 : (0 : Int) ≤ i := by omega
    have h3 : (i : Int) < l.length := by omega
    rw [h0]
    go_enter Tryd.func37, Tryd.ntmps37
    go_wp2
    go_ret
    exact ⟨by first | rfl | simp_all, (Below.refl _ _).alloc (Nat.le_refl _) _⟩
theorem subset_c (a b : Int) (w : World) : Calls Tryd.prog 17 #[.int .i64 a, .int .i64 b] w fun e w' => e = .returned (.bool (subB a b)) ∧ w' = w := by
  go_enter Tryd.func17, Tryd.ntmps17
  go_wp2
  go_ret
  exact ⟨rfl, rfl⟩
theorem subset_r (a b : Int) (w : World) : Calls Tryd.prog 18 #[.int .i64 a, .int .i64 b] w fun e w' => e = .returned (.bool (band a b == a)) ∧ w' = w := by
  go_enter Tryd.func18, Tryd.ntmps18
  go_wp2
  go_ret
  exact ⟨rfl, rfl⟩
/-- the type t has the flags f -/
def hasP (l : List TyP) (t f : Int) : Bool := ex t l.length && subB f (nth l t.toNat).fl
def hasR (l : List TyP) (t f : Int) : Bool := ex t l.length && (band f (nth l t.toNat).fl == f)
attribute [local irreducible] Calls
set_option maxHeartbeats 2000000 in
theorem has_c (s : ByteArray) (vt vr vq : Value) (l : List TyP) (t f : Int) (w : World) (hv : RdE eT w vt l) :
    Calls Tryd.prog 15 #[.agg #[.string s, vt, vr, vq], .int .i64 t, .int .i64 f] w fun e w' => e = .returned (.bool (hasP l t f)) ∧ Below w.heap.size w w' := by
  have HX := Lib.hid (exists_c s vt vr vq l t (w.alloc (.cells #[.string s, vt, vr, vq] 26)) (hv.alloc _))
  have HV := Lib.hid (hv.alloc (.cells #[.string s, vt, vr, vq] 26))
  have hlen := hv.len
  unfold maxLen at hlen
  obtain ⟨a, cap, rfl, _, _, _⟩ := hv
  rcases ex_parts t l.length with ⟨h0, h1⟩ | ⟨h0, h1, h2⟩ | ⟨h0, i, rfl, h2⟩
  · have hr : hasP l t f = false := by simp [hasP, h0]
    rw [hr]
    rw [h0] at HX
    go_enter Tryd.func15, Tryd.ntmps15
    go_wp2_with (go_at_call 36; refine HX.out.mono ?_; rintro e w1 ⟨rfl, hb⟩)
    go_ret
    exact ⟨rfl, below1 _ _ hb⟩
  · have hr : hasP l t f = false := by simp [hasP, h0]
    rw [hr]
    rw [h0] at HX
    go_enter Tryd.func15, Tryd.ntmps15
    go_wp2_with (go_at_call 36; refine HX.out.mono ?_; rintro e w1 ⟨rfl, hb⟩)
    go_ret
    exact ⟨rfl, below1 _ _ hb⟩
  · have hr : hasP l i f = subB f (nth l i).fl := by simp [hasP, h0]
    rw [hr]
    rw [h0] at HX
    have i1 : (i : Int) < l.length := by omega
    have HI := Lib.hid h2
    have HS := Lib.hid (subset_c f (nth l i).fl)
    clear h2 h0 hr
    go_enter Tryd.func15, Tryd.ntmps15
    go_wp2_with (first
      | (go_at_call 36; refine HX.out.mono ?_; rintro e w1 ⟨rfl, hb⟩; obtain ⟨b, off, rfl, hbl, hrow⟩ := ((HV.out.on hb).cellsT) (by have := HI.out; omega); obtain ⟨d0, d1, d2⟩ := hrow i HI.out; have t1 : w1.cell? ⟨w.heap.size, 1, none⟩ = some (.slice (some ⟨b, off, none⟩) l.length cap) := boxed1 _ _ _ hb 1; clear hrow)
      | (go_at_call 17; refine (HS.out _).mono ?_; rintro e w2 ⟨rfl, rfl⟩))
    go_ret
    exact ⟨rfl, below1 _ _ hb⟩
set_option maxHeartbeats 2000000 in
theorem has_r (s : ByteArray) (vt vr vq : Value) (l : List TyP) (t f : Int) (w : World) (hv : RdE eT w vt l) :
    Calls Tryd.prog 16 #[.agg #[.string s, vt, vr, vq], .int .i64 t, .int .i64 f] w fun e w' => e = .returned (.bool (hasR l t f)) ∧ Below w.heap.size w w' := by
  have HX := Lib.hid (is_r s vt vr vq l t (w.alloc (.cells #[.string s, vt, vr, vq] 26)) (hv.alloc _))
  have HV := Lib.hid (hv.alloc (.cells #[.string s, vt, vr, vq] 26))
  have hlen := hv.len
  unfold maxLen at hlen
  obtain ⟨a, cap, rfl, _, _, _⟩ := hv
  rcases ex_parts t l.length with ⟨h0, h1⟩ | ⟨h0, h1, h2⟩ | ⟨h0, i, rfl, h2⟩
  · have hr : hasR l t f = false := by simp [hasR, h0]
    rw [hr]
    rw [h0] at HX
    go_enter Tryd.func16, Tryd.ntmps16
    go_wp2_with (go_at_call 37; refine HX.out.mono ?_; rintro e w1 ⟨rfl, hb⟩)
    go_ret
    exact ⟨rfl, below1 _ _ hb⟩
  · have hr : hasR l t f = false := by simp [hasR, h0]
    rw [hr]
    rw [h0] at HX
    go_enter Tryd.func16, Tryd.ntmps16
    go_wp2_with (go_at_call 37; refine HX.out.mono ?_; rintro e w1 ⟨rfl, hb⟩)
    go_ret
    exact ⟨rfl, below1 _ _ hb⟩
  · have hr : hasR l i f = (band f (nth l i).fl == f) := by simp [hasR, h0]
    rw [hr]
    rw [h0] at HX
    have i1 : (i : Int) < l.length := by omega
    have HI := Lib.hid h2
    have HS := Lib.hid (subset_r f (nth l i).fl)
    clear h2 h0 hr
    go_enter Tryd.func16, Tryd.ntmps16
    go_wp2_with (first
      | (go_at_call 37; refine HX.out.mono ?_; rintro e w1 ⟨rfl, hb⟩; obtain ⟨b, off, rfl, hbl, hrow⟩ := ((HV.out.on hb).cellsT) (by have := HI.out; omega); obtain ⟨d0, d1, d2⟩ := hrow i HI.out; have t1 : w1.cell? ⟨w.heap.size, 1, none⟩ = some (.slice (some ⟨b, off, none⟩) l.length cap) := boxed1 _ _ _ hb 1; clear hrow)
      | (go_at_call 18; refine (HS.out _).mono ?_; rintro e w2 ⟨rfl, rfl⟩))
    go_ret
    exact ⟨rfl, below1 _ _ hb⟩
end Go.Proofs.YtamdlkflcbefdaaDoor
