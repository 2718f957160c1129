/- Facts of the law on interpolation. -/
import Derived.Test.YtbkkffdgkkcbfabFieldS
namespace Go.Proofs.Ytbkkffdgkkcbfab
open Go.RowKit F6
def vals (p xs : List UInt8) (k : Nat) : List UInt8 := (xs.take k).map (ev p)
theorem vals_zero (p xs : List UInt8) : vals p xs 0 = [] := rfl
theorem vals_succ (p xs : List UInt8) (k : Nat) (h : k < xs.length) : vals p xs (k + 1) = vals p xs k ++ [ev p (byteAt xs k)] := by rw [vals, vals, take_snoc xs k h, List.map_append]; rfl
theorem vals_len (p xs : List UInt8) (k : Nat) (h : k ≤ xs.length) : (vals p xs k).length = k := by simp [vals]; omega
theorem vals_at (p xs : List UInt8) (j : Nat) (h : j < xs.length) : (vals p xs xs.length).getD j 0 = ev p (xs.getD j 0) := by
  simp [vals, List.getD_eq_getElem?_getD, h]
theorem interpolates_ok (p xs : List UInt8) (x : UInt8) (hl : p.length = xs.length) (hok : okX xs = true) :
    errI xs (vals p xs xs.length) = 0 ∧ coefX xs (vals p xs xs.length) = p ∧ intX xs (vals p xs xs.length) x = ev p x := by
  obtain ⟨hnd, _, _⟩ := okX_nodup hok
  have hv := vals_len p xs xs.length (Nat.le_refl _)
  refine ⟨if_pos ⟨hok, hv.symm⟩, ?_, ?_⟩
  · rw [coefX, if_pos ⟨hok, hv.symm⟩]
    exact (coef_unique xs _ p hnd hl (fun j hj => (vals_at p xs j hj).symm)).symm
  · rw [intX, if_pos ⟨hok, hv.symm⟩]
    exact interp_poly xs p hnd hl _ (fun j hj => vals_at p xs j hj) x
theorem interpolates_no (p xs : List UInt8) (x : UInt8) (hok : ¬ okX xs = true) :
    errI xs (vals p xs xs.length) = 1 ∧ coefX xs (vals p xs xs.length) = [] ∧ (B8 (intX xs (vals p xs xs.length) x) == 0) = true := by
  refine ⟨if_neg (fun e => hok e.1), if_neg (fun e => hok e.1), ?_⟩
  rw [intX, if_neg (fun e => hok e.1)]
  rfl
end Go.Proofs.Ytbkkffdgkkcbfab
