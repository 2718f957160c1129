/- A slice of bytes that comes in. -/
import Derived.Test.YtbkkffdgkkcbfabFrame
import Derived.Test.YtbkkffdgkkcbfabFieldR
namespace Go.Proofs.Ytbkkffdgkkcbfab
open Go.ChangeShapes Go.WideShapes Go.ChangeAt Go.RowKit F6
set_option linter.unusedSimpArgs false
set_option linter.unusedVariables false
theorem u8_of {a : Int} (h : (Lit.int .u8 a).wf = true) : ∃ c : UInt8, a = B8 c := by
  simp only [Lit.wf, Bool.and_eq_true, decide_eq_true_eq] at h
  have h1 : (0 : Int) ≤ a := h.1
  have h2 : a ≤ 255 := h.2
  refine ⟨UInt8.ofNat a.toNat, ?_⟩
  unfold B8
  rw [UInt8.toNat_ofNat_of_lt' (by show a.toNat < 256; omega)]
  omega
theorem open_b {H : Type} {enc : TypeId × Value → H} {w : World} {r : Reach} {b0 base : Nat} {sp : Nat → Bool} {held : Bool} {v : Value} {d : DataW H} {ps : List MemPlace}
    (hval : Value.okWide Try.prog w r b0 30 v) (hd : DataW.Trod enc Try.prog w base sp held 30 v d ps) : ∃ l : List UInt8, RdB w v l := by
  obtain ⟨a, len, cap, rfl⟩ := okWide_slice Try.underlying30 hval
  obtain ⟨fuel, hf⟩ := hd
  rcases open_ints Try.underlying30 Try.underlying5 (by kernel_rfl) hf with ⟨hcs, _⟩ | ⟨x, l, c, zs, hcs, _, hl, hm, hz, _, hcell, hwz⟩
  · simp [Value.cells] at hcs
    obtain ⟨rfl, rfl, rfl⟩ := hcs
    exact ⟨[], RdB.nil w⟩
  · simp [Value.cells] at hcs
    obtain ⟨rfl, rfl, rfl⟩ := hcs
    have hz' : len ≤ zs.length := by
      rw [hz]
      split
      · exact hl
      · exact Nat.le_refl _
    have hlen : ((zs.take len).map fun n => UInt8.ofNat n.toNat).length = len := by simp; omega
    refine ⟨(zs.take len).map fun n => UInt8.ofNat n.toNat, some x, cap, by rw [hlen], by rw [hlen]; exact hl, hm, fun h0 => ?_⟩
    rw [hlen] at h0
    obtain ⟨b, off, spot⟩ := x
    have h1 := hcell 0 (by omega)
    have hspot : spot = none := by simpa [Addr.add] using World.cell?_spot h1
    subst hspot
    refine ⟨b, off, rfl, ?_, fun i hi => ?_⟩
    · have := World.block_lt_of_cell? _ _ h1
      simpa [Addr.add] using this
    · rw [hlen] at hi
      have h2 := hcell i (by omega)
      have hadd : (⟨b, off, none⟩ : Addr).add i = ⟨b, off + i, none⟩ := by unfold Addr.add; split <;> simp_all
      rw [hadd] at h2
      rw [h2]
      have hw := hwz (zs.getD i 0) (by rw [List.getD_eq_getElem?_getD, List.getElem?_eq_getElem (by omega)]; exact List.getElem_mem _)
      obtain ⟨c, hc⟩ := u8_of hw
      have e : byteAt ((zs.take len).map fun n => UInt8.ofNat n.toNat) i = c := by
        have hi' : i < zs.length := by omega
        have hg : zs.getD i 0 = zs[i] := by rw [List.getD_eq_getElem?_getD, List.getElem?_eq_getElem hi']; rfl
        rw [hg] at hc
        simp [byteAt, List.getD_eq_getElem?_getD, hi, hi', List.getElem?_take, hc, B8]
      rw [e, hc]
/-- the error of a division by b -/
def errB (b : UInt8) : Int := if b = 0 then 1 else 0
theorem errB_ne {b : UInt8} (h : b ≠ 0) : errB b = 0 := if_neg h
theorem inv0 : inverse 0 = 0 := by decide +kernel
theorem div0 (a : UInt8) : div a 0 = 0 := by rw [div, inv0, mul_zero]
theorem inv_ca (a : UInt8) (w : World) : Calls Try.prog 9 #[.int .u8 (B8 a)] w fun e w' => e = .returned (.tuple #[.int .u8 (B8 (inverse a)), .int .i64 (errB a)]) ∧ Below w.heap.size w w' := by
  by_cases h : a = 0
  · subst h
    rw [inv0]
    exact (inv_c0 w).mono fun e w' h => ⟨h.1, by rw [h.2]; exact Below.refl _ _⟩
  · rw [errB_ne h]; exact inv_c a h w
theorem inv_ra (a : UInt8) (w : World) : Calls Try.prog 10 #[.int .u8 (B8 a)] w fun e w' => e = .returned (.tuple #[.int .u8 (B8 (inverse a)), .int .i64 (errB a)]) ∧ w' = w := by
  by_cases h : a = 0
  · subst h
    rw [inv0]
    exact inv_r0 w
  · rw [errB_ne h]; exact inv_r a h w
theorem div_ca (a b : UInt8) (w : World) : Calls Try.prog 11 #[.int .u8 (B8 a), .int .u8 (B8 b)] w fun e w' => e = .returned (.tuple #[.int .u8 (B8 (div a b)), .int .i64 (errB b)]) ∧ Below w.heap.size w w' := by
  by_cases h : b = 0
  · subst h
    rw [div0]
    exact (div_c0 a w).mono fun e w' h => ⟨h.1, by rw [h.2]; exact Below.refl _ _⟩
  · rw [errB_ne h]; exact div_c a b h w
theorem div_ra (a b : UInt8) (w : World) : Calls Try.prog 12 #[.int .u8 (B8 a), .int .u8 (B8 b)] w fun e w' => e = .returned (.tuple #[.int .u8 (B8 (div a b)), .int .i64 (errB b)]) ∧ w' = w := by
  by_cases h : b = 0
  · subst h
    rw [div0]
    exact div_r0 a w
  · rw [errB_ne h]; exact div_r a b h w
end Go.Proofs.Ytbkkffdgkkcbfab
