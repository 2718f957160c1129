/- How a number and a text are written as bytes, in plain words. -/
import Derived.Test.YtackbjbmadkkhaaDoorHashO
namespace Go.Proofs.YtackbjbmadkkhaaDoor
open Go.RowKit
set_option linter.unusedSimpArgs false
set_option linter.unusedVariables false
/-- how many bytes a number takes -/
def nb (m : Nat) : Nat :=
  if m = 0 then 0 else if m < 256 then 1 else if m < 65536 then 2 else if m < 16777216 then 3 else if m < 4294967296 then 4 else if m < 1099511627776 then 5 else if m < 281474976710656 then 6 else if m < 72057594037927936 then 7 else 8
theorem nb_le (m : Nat) : nb m ≤ 8 := by unfold nb; repeat' split <;> try omega
theorem nb_is (m k : Nat) (hk : k ≤ 8) (h1 : m < 256 ^ k) (h2 : k = 0 ∨ 256 ^ (k - 1) ≤ m) : nb m = k := by
  unfold nb
  rcases (by omega : k = 0 ∨ k = 1 ∨ k = 2 ∨ k = 3 ∨ k = 4 ∨ k = 5 ∨ k = 6 ∨ k = 7 ∨ k = 8) with rfl | rfl | rfl | rfl | rfl | rfl | rfl | rfl | rfl <;> simp at h1 h2 <;> (repeat' split) <;> omega
theorem nb_lt (m : Nat) (hm : m < 18446744073709551616) : m < 256 ^ nb m := by
  unfold nb
  (repeat' split) <;> simp <;> omega
theorem nb_ge (m : Nat) : nb m = 0 ∨ 256 ^ (nb m - 1) ≤ m := by
  unfold nb
  (repeat' split) <;> simp <;> omega
/-- the digits, the most significant one first -/
def beN (m k : Nat) : List UInt8 := (List.range k).map fun i => UInt8.ofNat (m / 256 ^ (k - 1 - i))
def leN (m k : Nat) : List UInt8 := (List.range k).map fun i => UInt8.ofNat (m / 256 ^ i)
def encM (m : Nat) (f : UInt8) : List UInt8 := (UInt8.ofNat (128 + nb m) ^^^ f) :: (beN m (nb m)).map (· ^^^ f)
/-- the encoding of a number -/
def encI (n : Int) : List UInt8 := if 0 ≤ n then encM n.toNat 0 else encM (-1 - n).toNat 255
/-- .. and of a text -/
def encS (s : List UInt8) : List UInt8 := encI s.length ++ s
theorem beN_len (m k : Nat) : (beN m k).length = k := by unfold beN; rw [List.length_map, List.length_range]
theorem leN_len (m k : Nat) : (leN m k).length = k := by unfold leN; rw [List.length_map, List.length_range]
theorem encM_len (m : Nat) (f : UInt8) : (encM m f).length = 1 + nb m := by unfold encM; rw [List.length_cons, List.length_map, beN_len]; omega
theorem encM_le (m : Nat) (f : UInt8) : (encM m f).length ≤ 9 := by rw [encM_len]; have := nb_le m; omega
theorem encI_le (n : Int) : (encI n).length ≤ 9 := by unfold encI; split <;> exact encM_le _ _
theorem encM_one (m : Nat) (f : UInt8) : (encM m f).take 1 = [UInt8.ofNat (128 + nb m) ^^^ f] := rfl
theorem encM_next (m : Nat) (f : UInt8) (r : Nat) (h1 : 1 ≤ r) (h2 : r ≤ nb m) : (encM m f).take (1 + (nb m - (r - 1))) = (encM m f).take (1 + (nb m - r)) ++ [UInt8.ofNat (m / 256 ^ (r - 1)) ^^^ f] := by
  have e : 1 + (nb m - (r - 1)) = (1 + (nb m - r)) + 1 := by omega
  rw [e, List.take_add_one]
  congr 1
  unfold encM
  rw [show 1 + (nb m - r) = (nb m - r) + 1 by omega, List.getElem?_cons_succ]
  unfold beN
  rw [List.getElem?_map, List.getElem?_map, List.getElem?_range (by omega)]
  simp only [Option.map_some]
  rw [show nb m - 1 - (nb m - r) = r - 1 by omega]
  rfl
theorem encM_full (m : Nat) (f : UInt8) : (encM m f).take (1 + (nb m - 0)) = encM m f := List.take_of_length_le (by rw [encM_len]; omega)
theorem leN_next (m k : Nat) : leN m (k + 1) = leN m k ++ [UInt8.ofNat (m / 256 ^ k)] := by
  unfold leN
  rw [List.range_succ, List.map_append]
  rfl
theorem leN_at (m k i : Nat) (h : i < k) : byteAt (leN m k) i = UInt8.ofNat (m / 256 ^ i) := by
  unfold byteAt leN
  rw [List.getD_eq_getElem?_getD, List.getElem?_map, List.getElem?_range h]
  rfl
theorem div_next (m k : Nat) : m / 256 ^ k / 256 = m / 256 ^ (k + 1) := by rw [Nat.div_div_eq_div_mul, Nat.pow_succ]
theorem xor255 (d : UInt8) : (255 : UInt8) - d = d ^^^ 255 := by
  apply UInt8.toBitVec_inj.1
  show (255#8) - d.toBitVec = d.toBitVec ^^^ (255#8)
  rw [show (255#8) = BitVec.allOnes 8 from rfl, BitVec.allOnes_sub_eq_not, BitVec.xor_allOnes]
theorem head255 (k : Nat) (hk : k ≤ 8) : (UInt8.ofNat (128 + k) ^^^ 255 : UInt8) = UInt8.ofNat (127 - k) := by
  rcases (by omega : k = 0 ∨ k = 1 ∨ k = 2 ∨ k = 3 ∨ k = 4 ∨ k = 5 ∨ k = 6 ∨ k = 7 ∨ k = 8) with rfl | rfl | rfl | rfl | rfl | rfl | rfl | rfl | rfl <;> decide
end Go.Proofs.YtackbjbmadkkhaaDoor
