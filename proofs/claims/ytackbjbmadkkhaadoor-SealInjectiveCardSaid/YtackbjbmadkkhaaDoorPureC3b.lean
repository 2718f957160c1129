/- The cipher's laws on plain functions. -/
import Derived.Test.YtackbjbmadkkhaaDoorPureC3
namespace Go.Proofs.YtackbjbmadkkhaaDoor.C3
set_option linter.unusedSimpArgs false
theorem byteAt_xorText (key : List UInt8) (ctr : UInt32) (nonce text : List UInt8) (i : Nat) (h : i < text.length) : byteAt (xorText key ctr nonce text) i = xorAt key ctr nonce text i := by
  unfold byteAt xorText
  rw [List.getD_eq_getElem?_getD, List.getElem?_map, List.getElem?_range h]
  rfl
theorem ext_byte {s t : List UInt8} (hl : s.length = t.length) (h : ∀ i, i < s.length → byteAt s i = byteAt t i) : s = t := by
  apply List.ext_getElem hl
  intro i h1 h2
  have := h i h1
  simpa [byteAt, List.getD_eq_getElem?_getD, List.getElem?_eq_getElem h1, List.getElem?_eq_getElem h2] using this
theorem xor_xor (a b : UInt8) : a ^^^ b ^^^ b = a := by rw [UInt8.xor_assoc, UInt8.xor_self, UInt8.xor_zero]
theorem xorText_twice (key : List UInt8) (ctr : UInt32) (nonce text : List UInt8) : xorText key ctr nonce (xorText key ctr nonce text) = text := by
  refine ext_byte (by rw [length_xorText, length_xorText]) (fun i hi => ?_)
  rw [length_xorText, length_xorText] at hi
  rw [byteAt_xorText _ _ _ _ _ (by rw [length_xorText]; exact hi), xorAt, byteAt_xorText _ _ _ _ _ hi, xorAt, xor_xor]
theorem byteAt_drop (l : List UInt8) (n i : Nat) : byteAt (l.drop n) i = byteAt l (n + i) := by
  unfold byteAt; simp [List.getD_eq_getElem?_getD, List.getElem?_drop]
theorem byteAt_take (l : List UInt8) (n i : Nat) (h : i < n) : byteAt (l.take n) i = byteAt l i := by
  unfold byteAt; simp [List.getD_eq_getElem?_getD, List.getElem?_take, h]
theorem xorText_drop (key : List UInt8) (ctr : UInt32) (nonce text : List UInt8) (n : Nat) (h : 64 * n ≤ text.length) :
    (xorText key ctr nonce text).drop (64 * n) = xorText key (ctr + UInt32.ofNat n) nonce (text.drop (64 * n)) := by
  refine ext_byte (by simp [length_xorText]) (fun i hi => ?_)
  rw [List.length_drop, length_xorText] at hi
  rw [byteAt_drop, byteAt_xorText _ _ _ _ _ (by omega), byteAt_xorText _ _ _ _ _ (by rw [List.length_drop]; omega), xorAt, xorAt, byteAt_drop]
  have e1 : (64 * n + i) / 64 = n + i / 64 := by omega
  have e2 : (64 * n + i) % 64 = i % 64 := by omega
  rw [e1, e2, UInt32.ofNat_add, UInt32.add_assoc]
theorem xorText_take (key : List UInt8) (ctr : UInt32) (nonce text : List UInt8) (n : Nat) : (xorText key ctr nonce text).take n = xorText key ctr nonce (text.take n) := by
  refine ext_byte (by simp [length_xorText]) (fun i hi => ?_)
  rw [List.length_take, length_xorText] at hi
  rw [byteAt_take _ _ _ (by omega), byteAt_xorText _ _ _ _ _ (by omega), byteAt_xorText _ _ _ _ _ (by rw [List.length_take]; omega), xorAt, xorAt, byteAt_take _ _ _ (by omega)]
theorem xorText_diff (key : List UInt8) (ctr : UInt32) (nonce a b : List UInt8) (i : Nat) (ha : i < a.length) (hb : i < b.length) :
    byteAt (xorText key ctr nonce a) i ^^^ byteAt (xorText key ctr nonce b) i = byteAt a i ^^^ byteAt b i := by
  rw [byteAt_xorText _ _ _ _ _ ha, byteAt_xorText _ _ _ _ _ hb, xorAt, xorAt]
  generalize byteAt (block _ _ _) _ = z
  rw [UInt8.xor_assoc, UInt8.xor_comm z, UInt8.xor_assoc, UInt8.xor_self, UInt8.xor_zero]
end Go.Proofs.YtackbjbmadkkhaaDoor.C3
