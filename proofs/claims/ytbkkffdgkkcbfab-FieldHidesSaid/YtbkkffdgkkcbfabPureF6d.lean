/- Weights, one factor after another. -/
import Derived.Test.YtbkkffdgkkcbfabFieldG
namespace Go.Proofs.Ytbkkffdgkkcbfab
open F6
/-- the product of x + xs[j] for j < k other than i -/
def pp (xs : List UInt8) (i : Nat) (x : UInt8) (k : Nat) : UInt8 := pr ((xs.take k).eraseIdx i) x
theorem pp_zero (xs : List UInt8) (i : Nat) (x : UInt8) : pp xs i x 0 = 1 := by simp [pp, pr]
theorem pr_snoc (l : List UInt8) (a x : UInt8) : pr (l ++ [a]) x = mul (pr l x) (x ^^^ a) := by simp [pr]
theorem pp_step (xs : List UInt8) (i : Nat) (x : UInt8) (k : Nat) (hk : k < xs.length) (h : k ≠ i) : pp xs i x (k + 1) = mul (pp xs i x k) (x ^^^ byteAt xs k) := by
  have e : (xs.take (k + 1)).eraseIdx i = (xs.take k).eraseIdx i ++ [byteAt xs k] := by
    rw [take_snoc xs k hk]
    by_cases hi : i < k
    · rw [List.eraseIdx_append_of_lt_length (by rw [List.length_take]; omega)]
    · rw [List.eraseIdx_of_length_le (by rw [List.length_append, List.length_take, List.length_singleton]; omega), List.eraseIdx_of_length_le (by rw [List.length_take]; omega)]
  rw [pp, e, pr_snoc]; rfl
theorem pp_skip (xs : List UInt8) (i : Nat) (x : UInt8) (hi : i < xs.length) : pp xs i x (i + 1) = pp xs i x i := by
  have e : (xs.take (i + 1)).eraseIdx i = (xs.take i).eraseIdx i := by
    rw [take_snoc xs i hi, List.eraseIdx_of_length_le (l := xs.take i) (by rw [List.length_take]; omega), List.eraseIdx_append_of_length_le (by rw [List.length_take]; omega)]
    have : i - (xs.take i).length = 0 := by rw [List.length_take]; omega
    rw [this]; simp
  rw [pp, e]; rfl
theorem pp_all (xs : List UInt8) (i : Nat) (x : UInt8) : pp xs i x xs.length = pr (xs.eraseIdx i) x := by rw [pp, List.take_length]
theorem pp_ne (xs : List UInt8) (i : Nat) (hn : xs.Nodup) (hi : i < xs.length) : pp xs i (byteAt xs i) xs.length ≠ 0 := by
  rw [pp_all, pr_eq]
  exact prr_ne (not_mem_eraseIdx xs hn i hi)
theorem pp_wt (xs : List UInt8) (i : Nat) (x : UInt8) : div (pp xs i x xs.length) (pp xs i (byteAt xs i) xs.length) = wt xs x i := by
  rw [pp_all, pp_all]; rfl
/-- all weights -/
def wts (xs : List UInt8) (x : UInt8) (k : Nat) : List UInt8 := (List.range k).map (wt xs x)
theorem wts_succ (xs : List UInt8) (x : UInt8) (k : Nat) : wts xs x (k + 1) = wts xs x k ++ [wt xs x k] := by simp [wts, List.range_succ]
theorem wts_len (xs : List UInt8) (x : UInt8) (k : Nat) : (wts xs x k).length = k := by simp [wts]
theorem wts_at (xs : List UInt8) (x : UInt8) (n k : Nat) (h : k < n) : byteAt (wts xs x n) k = wt xs x k := by
  simp [byteAt, wts, List.getD_eq_getElem?_getD, h]
theorem okX_nodup {l : List UInt8} (h : okX l = true) : l.Nodup ∧ 1 ≤ l.length ∧ l.length ≤ 255 := by
  simp [okX] at h
  exact ⟨h.2, h.1.1, h.1.2⟩
end Go.Proofs.Ytbkkffdgkkcbfab
