/- Short texts; the examples. -/
import Derived.Test.YtackbjbmadkkhaaDoorSealD
namespace Go.Proofs.YtackbjbmadkkhaaDoor
open Go.RowKit
set_option linter.unusedSimpArgs false
set_option linter.unusedVariables false
/-- the sum of lengths, as the machine adds -/
def sumW : Int → List (List UInt8) → Int
  | a, [] => a
  | a, x :: r => sumW (IntKind.i64.wrap (a + (x.length : Int))) r
theorem sumW_snoc (l : List (List UInt8)) (x : List UInt8) : ∀ a, sumW a (l ++ [x]) = IntKind.i64.wrap (sumW a l + (x.length : Int)) := by
  induction l with
  | nil => intro a; rfl
  | cons y l ih => intro a; exact ih _
def total (xs : List (List UInt8)) : Nat := (xs.map (·.length)).sum
theorem sumW_small (xs : List (List UInt8)) : ∀ a : Int, 0 ≤ a → a + (total xs : Int) < 9223372036854775808 → sumW a xs = a + (total xs : Int) := by
  induction xs with
  | nil => intro a h0 h1; simp [sumW, total]
  | cons x r ih =>
    intro a h0 h1
    have ht : total (x :: r) = x.length + total r := by simp [total]
    rw [ht] at h1 ⊢
    have hw : IntKind.i64.wrap (a + (x.length : Int)) = a + (x.length : Int) := by rw [IntKind.wrap_i64]; omega
    rw [sumW, hw, ih _ (by omega) (by omega)]
    omega
def fewP (xs : List (List UInt8)) : Bool := decide (sumW 0 xs ≤ 3000)
attribute [local irreducible] Calls
set_option maxRecDepth 100000 in
set_option maxHeartbeats 2000000 in
theorem few_c (bk : Nat) (xs : List (List UInt8)) (w : World) (hcells : ∀ (j : Nat) x, xs[j]? = some x → w.cell? ⟨bk, j, none⟩ = some (.string ⟨x.toArray⟩)) (hx : xs.length ≤ 100) :
    Calls Tryd.prog 8 #[.slice (some ⟨bk, 0, none⟩) xs.length xs.length] w fun e w' => e = .returned (.bool (fewP xs)) ∧ w' = w := by
  have HC := Lib.hid hcells
  have HX := Lib.hid hx
  clear hcells hx
  go_enter Tryd.func8, Tryd.ntmps8
  go_wp2
  go_loopw [8, 3] (fun o u wr => ∃ i : Nat, i ≤ xs.length ∧ o = .int .i64 i ∧ (∃ z : Int, u = .int .i64 z ∧ Hid (z = sumW 0 (xs.take i))) ∧ wr = w) (fun o _ _ => xs.length - (intOf o).toNat)
  case atStart => exact ⟨0, Nat.zero_le _, rfl, ⟨0, rfl, Lib.hid rfl⟩, rfl⟩
  case round =>
    obtain ⟨i, hi, rfl, ⟨z, rfl, hz⟩, rfl⟩ := hrel
    by_cases hlt : i < xs.length
    · have i1 : (i : Int) < xs.length := by omega
      have hxi : xs[i]? = some xs[i] := List.getElem?_eq_getElem hlt
      have hci := HC.out i xs[i] hxi
      have HN : Hid (sumW 0 (xs.take (i + 1)) = IntKind.i64.wrap (z + (xs[i].length : Int))) := Lib.hid (by rw [List.take_add_one, hxi, hz.out]; exact sumW_snoc _ _ _)
      have HI := Lib.hid hlt
      have hi100 : (i : Int) ≤ 100 := by have := HX.out; omega
      generalize xs[i] = x at hci HN
      clear hxi
      go_wp2
      go_roundw
      case rel => exact ⟨i + 1, HI.out, by go_num, ⟨_, rfl, Lib.hid (by rw [HN.out, IntKind.wrap_i64]; unfold RowKit.wrap64; omega)⟩, by first | exact rfl | exact trivial⟩
      case measure => have := HI.out; simp [intOf]; omega
    · have he : i = xs.length := by omega
      have HE := Lib.hid he
      have i1 : ¬ (i : Int) < xs.length := by omega
      clear he hlt hi
      go_wp2
      go_ret
      exact ⟨by unfold fewP; rw [hz.out, HE.out, List.take_length]; rfl, by first | exact rfl | exact trivial⟩
theorem few3 (a b c : List UInt8) (w : World) (T : TypeId) :
    Calls Tryd.prog 8 #[.slice (some ⟨w.heap.size, 0, none⟩) 3 3] (w.alloc (.cells #[.string ⟨a.toArray⟩, .string ⟨b.toArray⟩, .string ⟨c.toArray⟩] T)) fun e w' => e = .returned (.bool (fewP [a, b, c])) ∧ Below w.heap.size w w' := by
  refine (few_c w.heap.size [a, b, c] (w.alloc (.cells #[.string ⟨a.toArray⟩, .string ⟨b.toArray⟩, .string ⟨c.toArray⟩] T)) (built_cells w [a, b, c] T) (by simp)).mono ?_
  rintro e w' ⟨he, hw⟩
  exact ⟨he, by rw [hw]; exact (Below.refl _ _).alloc (Nat.le_refl _) _⟩
theorem few4 (a b c d : List UInt8) (w : World) (T : TypeId) :
    Calls Tryd.prog 8 #[.slice (some ⟨w.heap.size, 0, none⟩) 4 4] (w.alloc (.cells #[.string ⟨a.toArray⟩, .string ⟨b.toArray⟩, .string ⟨c.toArray⟩, .string ⟨d.toArray⟩] T)) fun e w' => e = .returned (.bool (fewP [a, b, c, d])) ∧ Below w.heap.size w w' := by
  refine (few_c w.heap.size [a, b, c, d] (w.alloc (.cells #[.string ⟨a.toArray⟩, .string ⟨b.toArray⟩, .string ⟨c.toArray⟩, .string ⟨d.toArray⟩] T)) (built_cells w [a, b, c, d] T) (by simp)).mono ?_
  rintro e w' ⟨he, hw⟩
  exact ⟨he, by rw [hw]; exact (Below.refl _ _).alloc (Nat.le_refl _) _⟩
theorem few5 (a b c d f : List UInt8) (w : World) (T : TypeId) :
    Calls Tryd.prog 8 #[.slice (some ⟨w.heap.size, 0, none⟩) 5 5] (w.alloc (.cells #[.string ⟨a.toArray⟩, .string ⟨b.toArray⟩, .string ⟨c.toArray⟩, .string ⟨d.toArray⟩, .string ⟨f.toArray⟩] T)) fun e w' => e = .returned (.bool (fewP [a, b, c, d, f])) ∧ Below w.heap.size w w' := by
  refine (few_c w.heap.size [a, b, c, d, f] (w.alloc (.cells #[.string ⟨a.toArray⟩, .string ⟨b.toArray⟩, .string ⟨c.toArray⟩, .string ⟨d.toArray⟩, .string ⟨f.toArray⟩] T)) (built_cells w [a, b, c, d, f] T) (by simp)).mono ?_
  rintro e w' ⟨he, hw⟩
  exact ⟨he, by rw [hw]; exact (Below.refl _ _).alloc (Nat.le_refl _) _⟩
theorem few_ref (key ad t : List UInt8) (h : fewP [key, ad, t] = true) : RefOK key ad t := by
  intro hk
  have hs := of_decide_eq_true h
  by_cases h1 : 1048604 < ad.length
  · exact .inr (.inl h1)
  · by_cases h2 : 1048604 < t.length
    · exact .inr (.inr h2)
    · have ht : total [key, ad, t] = key.length + ad.length + t.length := by simp [total]; omega
      rw [sumW_small _ 0 (Int.le_refl _) (by rw [ht]; omega), ht] at hs
      exact .inl (by omega)
theorem few_tot (xs : List (List UInt8)) (h : fewP xs = true) (hs : total xs < 9223372036854775808) : total xs ≤ 3000 := by
  have h2 := of_decide_eq_true h
  rw [sumW_small xs 0 (Int.le_refl _) (by omega)] at h2
  omega
theorem law_e (key ad t : List UInt8) (hs : ad.length ≤ 1048576 ∧ t.length ≤ 1048576) : sealE key ad t = if key.length = 32 then 0 else 1 := by
  unfold sealE
  rw [if_neg (by omega : ¬ (1048576 < ad.length ∨ 1048576 < t.length))]
/-! the examples' calls -/
attribute [local irreducible] k0 tx eV mV sealX sealE openX openE keysA keysB keysE
theorem c1 (w : World) (hk : KAt w) : Calls Tryd.prog 12 #[.string ⟨k0.toArray⟩, .string ⟨#[97]⟩, .string ⟨#[116, 101, 120, 116]⟩] w fun e w' => e = .returned (.tuple #[.string ⟨(sealX k0 [97] tx).toArray⟩, .int .i64 0]) ∧ Below w.heap.size w w' := by
  have h := seal_t k0 [97] tx w hk
  rw [ex_e] at h
  unfold tx at h ⊢
  exact h
theorem c2 (w : World) (hk : KAt w) : Calls Tryd.prog 14 #[.string ⟨k0.toArray⟩, .string ⟨#[97]⟩, .string ⟨(sealX k0 [97] tx).toArray⟩] w fun e w' => e = .returned (.tuple #[.string ⟨#[116, 101, 120, 116]⟩, .int .i64 0]) ∧ Below w.heap.size w w' := by
  have h := open_t k0 [97] (sealX k0 [97] tx) w hk
  rw [ex_o.1, ex_o.2] at h
  unfold tx at h ⊢
  exact h
theorem c3 (w : World) (hk : KAt w) : Calls Tryd.prog 14 #[.string ⟨k0.toArray⟩, .string ⟨#[98]⟩, .string ⟨(sealX k0 [97] tx).toArray⟩] w fun e w' => e = .returned (.tuple #[.string ⟨(openX k0 [98] (sealX k0 [97] tx)).toArray⟩, .int .i64 8]) ∧ Below w.heap.size w w' := by
  have h := open_t k0 [98] (sealX k0 [97] tx) w hk
  rw [ex_auth] at h
  exact h
theorem c4 (w : World) (hk : KAt w) : Calls Tryd.prog 14 #[.string ⟨k0.toArray⟩, .string ⟨#[97]⟩, .string ⟨(List.replicate 27 (120 : UInt8)).toArray⟩] w fun e w' => e = .returned (.tuple #[.string ⟨(openX k0 [97] (List.replicate 27 120)).toArray⟩, .int .i64 5]) ∧ Below w.heap.size w w' := by
  have h := open_t k0 [97] (List.replicate 27 120) w hk
  rw [ex_short] at h
  exact h
theorem c5 (m : Nat) (w : World) (hk : KAt w) : Calls Tryd.prog 12 #[.string ⟨(k0.tail.take m).toArray⟩, .string ⟨#[97]⟩, .string ⟨#[]⟩] w fun e w' => e = .returned (.tuple #[.string ⟨(sealX (k0.tail.take m) [97] []).toArray⟩, .int .i64 1]) ∧ Below w.heap.size w w' := by
  have h := seal_t (k0.tail.take m) [97] [] w hk
  have e : sealE (k0.tail.take m) [97] [] = 1 := by
    unfold sealE
    rw [if_neg (by rw [List.length_take, List.length_tail, k0_len]; omega)]
  rw [e] at h
  exact h
theorem c6 (w : World) (hk : KAt w) : Calls Tryd.prog 10 #[.string ⟨k0.toArray⟩] w fun e w' => e = .returned (.tuple #[.string ⟨eV.toArray⟩, .string ⟨mV.toArray⟩, .int .i64 0]) ∧ Below w.heap.size w w' := by
  have h := keys_t k0 w hk
  rw [ex_kA, ex_kB, ex_kE] at h
  exact h
theorem c7 (w : World) (hk : K0At w) : Calls Tryd.prog 13 #[.string ⟨k0.toArray⟩, .string ⟨#[97]⟩, .string ⟨#[116, 101, 120, 116]⟩] w fun e w' => e = .returned (.tuple #[.string ⟨(sealX k0 [97] tx).toArray⟩, .int .i64 0]) ∧ Below w.heap.size w w' := by
  have h := seal_rt k0 [97] tx w hk (fun _ => .inl ⟨by decide, by unfold tx; decide⟩)
  rw [ex_e] at h
  unfold tx at h ⊢
  exact h
theorem rep_k : Lib.repeatL [107] 32 = k0 := by unfold k0; rfl
theorem rep_x : Lib.repeatL [120] 27 = List.replicate 27 120 := rfl
theorem r1 (w : World) : Calls Tryd.prog 16 #[.string ⟨#[107]⟩, .int .i64 32] w fun e w' => e = .returned (.string ⟨k0.toArray⟩) ∧ Below w.heap.size w w' := by
  rw [← rep_k]
  exact Tryd.strings_Repeat ⟨#[107]⟩ 32 w (by decide) (by decide)
theorem r2 (w : World) : Calls Tryd.prog 16 #[.string ⟨#[120]⟩, .int .i64 27] w fun e w' => e = .returned (.string ⟨(List.replicate 27 (120 : UInt8)).toArray⟩) ∧ Below w.heap.size w w' := by
  rw [← rep_x]
  exact Tryd.strings_Repeat ⟨#[120]⟩ 27 w (by decide) (by decide)
set_option maxRecDepth 100000 in
set_option maxHeartbeats 4000000 in
theorem sanity_c (w : World) (hk : KAt w) (h0 : K0At w) : Calls Tryd.prog 9 #[] w fun e w' => e = .returned (.bool true) ∧ Below w.heap.size w w' := by
  have HK := Lib.hid hk
  have H0 := Lib.hid h0
  have hel : (eV.length : Int) = 32 := by unfold eV; rfl
  have hml : (mV.length : Int) = 32 := by unfold mV; rfl
  have hne : (eV == mV) = false := by simpa using ex_kne
  have hsl : ((sealX k0 [97] tx).length : Int) = 32 := by rw [ex_len]; rfl
  have hkl : (ByteArray.mk k0.toArray).size = 32 := k0_len
  have hkl2 : k0.length = 32 := k0_len
  have X1 := Lib.hid c1
  have X2 := Lib.hid c2
  have X3 := Lib.hid c3
  have X4 := Lib.hid c4
  have X5 := Lib.hid c5
  have X6 := Lib.hid c6
  have X7 := Lib.hid c7
  have R1 := Lib.hid r1
  have R2 := Lib.hid r2
  clear hk h0
  generalize sealX k0 [97] tx = S at hsl X1 X2 X3 X7
  generalize openX k0 [98] S = S3 at X3
  generalize openX k0 [97] (List.replicate 27 120) = S4 at X4
  generalize List.replicate 27 (120 : UInt8) = S5 at X4 R2
  generalize eV = ek at hel hne X6
  generalize mV = mk at hml hne X6
  go_enter Tryd.func9, Tryd.ntmps9
  go_wp2_with (first
    | (go_at_call 16; refine (R1.out _).mono ?_; rintro e w1 ⟨rfl, hb1⟩; have HB1 := Lib.hid hb1; clear hb1)
    | (go_at_call 12; refine (X1.out _ (HK.out.on HB1.out)).mono ?_; rintro e w2 ⟨rfl, hb2⟩; have HB2 := Lib.hid (HB1.out.trans (hb2.mono HB1.out.size)); clear hb2)
    | (go_at_call 14; refine (X2.out _ (HK.out.on HB2.out)).mono ?_; rintro e w3 ⟨rfl, hb3⟩; have HB3 := Lib.hid (HB2.out.trans (hb3.mono HB2.out.size)); clear hb3)
    | (go_at_call 14; refine (X3.out _ (HK.out.on HB3.out)).mono ?_; rintro e w4 ⟨rfl, hb4⟩; have HB4 := Lib.hid (HB3.out.trans (hb4.mono HB3.out.size)); clear hb4)
    | (go_at_call 16; refine (R2.out _).mono ?_; rintro e w5 ⟨rfl, hb5⟩; have HB5 := Lib.hid (HB4.out.trans (hb5.mono HB4.out.size)); clear hb5)
    | (go_at_call 14; refine (X4.out _ (HK.out.on HB5.out)).mono ?_; rintro e w6 ⟨rfl, hb6⟩; have HB6 := Lib.hid (HB5.out.trans (hb6.mono HB5.out.size)); clear hb6)
    | (go_at_call 12; refine (X5.out _ _ (HK.out.on HB6.out)).mono ?_; rintro e w7 ⟨rfl, hb7⟩; have HB7 := Lib.hid (HB6.out.trans (hb7.mono HB6.out.size)); clear hb7)
    | (go_at_call 10; refine (X6.out _ (HK.out.on HB7.out)).mono ?_; rintro e w8 ⟨rfl, hb8⟩; have HB8 := Lib.hid (HB7.out.trans (hb8.mono HB7.out.size)); clear hb8)
    | (go_at_call 13; refine (X7.out _ (H0.out.on HB8.out)).mono ?_; rintro e w9 ⟨rfl, hb9⟩; have HB9 := Lib.hid (HB8.out.trans (hb9.mono HB8.out.size)); clear hb9))
  go_ret
  exact ⟨rfl, HB9.out⟩
end Go.Proofs.YtackbjbmadkkhaaDoor
