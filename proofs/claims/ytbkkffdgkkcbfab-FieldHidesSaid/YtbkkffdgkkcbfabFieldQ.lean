/- Equality of lists; small lists; the examples. -/
import Derived.Test.YtbkkffdgkkcbfabFieldP
import Derived.Lib.ConvBytes
import Derived.Laws.IdiomStrings
namespace Go.Proofs.Ytbkkffdgkkcbfab
open Go.RowKit F6
set_option linter.unusedSimpArgs false
set_option linter.unusedVariables false
theorem RdB.alloc {w : World} {v : Value} {l : List UInt8} (h : RdB w v l) (X : Obj) : RdB (w.alloc X) v l := h.keep ((Below.refl w.heap.size w).alloc (Nat.le_refl _) X) (Nat.le_refl _)
theorem RdB.nil (w : World) : RdB w (.slice none 0 0) [] := ⟨none, 0, rfl, Nat.le_refl _, by unfold maxLen; omega, fun h => absurd h (by simp)⟩
theorem built_rd (w : World) (l : List UInt8) (h : l.length ≤ 1000) : RdB (w.alloc (.cells (brow l) 5)) (.slice (some ⟨w.heap.size, 0, none⟩) l.length l.length) l :=
  BAt.rd ⟨by simp, heap_alloc_new _ _⟩ (by unfold maxLen; omega)
theorem conv_rd {w : World} {v : Value} {l : List UInt8} (h : RdB w v l) : (convert 30 9 v).run Try.prog w = .ok (.string ⟨l.toArray⟩) w := by
  obtain ⟨a, cap, rfl, h1, h2, h3⟩ := h
  cases a with
  | none =>
    have hl : l = [] := by
      cases l with
      | nil => rfl
      | cons x l =>
        obtain ⟨b, off, e, _⟩ := h3 (by simp)
        cases e
    subst hl
    exact run_convert_bytes_nil w _ _ Try.underlying30 Try.underlying5 _ _ _ Try.underlying9
  | some p =>
    refine run_convert_bytes_back w _ _ _ p cap l Try.underlying30 Try.underlying5 Try.underlying9 (fun j hj => ?_)
    obtain ⟨b, off, e, _, hc⟩ := h3 (by omega)
    cases e
    have hadd : (⟨b, off, none⟩ : Addr).add j = ⟨b, off + j, none⟩ := by unfold Addr.add; split <;> simp_all
    rw [hadd, hc j hj]
    simp [byteAt, List.getD_eq_getElem?_getD, hj, B8]
theorem same_r (v u : Value) (l m : List UInt8) (w : World) (hv : RdB w v l) (hu : RdB w u m) :
    Calls Try.prog 25 #[v, u] w fun e w' => e = .returned (.bool (l == m)) ∧ w' = w := by
  have h1 := conv_rd hv
  have h2 := conv_rd hu
  go_enter Try.func25, Try.ntmps25
  go_wp2
  go_ret
  exact ⟨rfl, rfl⟩
theorem few_q (v u : Value) (l m : List UInt8) (w : World) (hv : RdB w v l) (hu : RdB w u m) :
    Calls Try.prog 16 #[v, u] w fun e w' => e = .returned (.bool (decide (l.length ≤ 40 ∧ m.length ≤ 40))) ∧ w' = w := by
  obtain ⟨a, cap, rfl, _⟩ := hv
  obtain ⟨a2, cap2, rfl, _⟩ := hu
  by_cases h1 : l.length ≤ 40
  · by_cases h2 : m.length ≤ 40
    · have i1 : (l.length : Int) ≤ 40 := by omega
      have i2 : (m.length : Int) ≤ 40 := by omega
      rw [decide_eq_true ⟨h1, h2⟩]
      go_enter Try.func16, Try.ntmps16
      go_wp2
      go_ret
      exact ⟨rfl, rfl⟩
    · have i1 : (l.length : Int) ≤ 40 := by omega
      have i2 : ¬ (m.length : Int) ≤ 40 := by omega
      rw [decide_eq_false (fun e => h2 e.2)]
      go_enter Try.func16, Try.ntmps16
      go_wp2
      go_ret
      exact ⟨rfl, rfl⟩
  · have i1 : ¬ (l.length : Int) ≤ 40 := by omega
    rw [decide_eq_false (fun e => h1 e.1)]
    go_enter Try.func16, Try.ntmps16
    go_wp2
    go_ret
    exact ⟨rfl, rfl⟩
end Go.Proofs.Ytbkkffdgkkcbfab
