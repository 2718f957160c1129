/- Equal tables, equal lists of numbers, small inputs. -/
import Derived.Test.YtjbndfnhollfnaaKeyR
namespace Go.Proofs.Ytjbndfnhollfnaa
open Go.RowKit Go.Shelf
set_option linter.unusedSimpArgs false
set_option linter.unusedVariables false
theorem ext_i {l m : List Int} (h : l.length = m.length) (h2 : ∀ j, j < l.length → intAt l j = intAt m j) : l = m := by
  refine List.ext_getElem h (fun i h3 h4 => ?_)
  have := h2 i h3
  rwa [intAt_eq l i h3, intAt_eq m i h4] at this
attribute [local irreducible] Calls
set_option maxHeartbeats 1000000 in
theorem sameInts (v u : Value) (l m : List Int) (w : World) (hv : RdI w v l) (hu : RdI w u m) :
    Calls Try.prog 15 #[v, u] w fun e w' => e = .returned (.bool (decide (l = m))) ∧ Below w.heap.size w w' := by
  have hlen := hv.len
  unfold maxLen at hlen
  have HV := Lib.hid hv
  have HU := Lib.hid hu
  obtain ⟨a, cap, rfl, _, _, _⟩ := hv
  obtain ⟨a2, cap2, rfl, _, _, _⟩ := hu
  by_cases hl : l.length = m.length
  · have hne : ((l.length : Int) == m.length) = true := by rw [beq_iff_eq]; omega
    have hne2 : ((l.length : Int) != m.length) = false := by rw [bne, hne]; rfl
    have HL := Lib.hid hl
    clear hl
    go_enter Try.func15, Try.ntmps15
    go_wp2
    go_loopw [5] (fun o wr => ∃ i : Nat, i ≤ l.length ∧ o = .int .i64 i ∧ Hid (∀ j, j < i → intAt l j = intAt m j) ∧ ∃ n, wr = w.drewN n) (fun o _ => l.length - (intOf o).toNat)
    case atStart => exact ⟨0, Nat.zero_le _, rfl, Lib.hid (fun j hj => absurd hj (by omega)), 0, rfl⟩
    case round =>
      obtain ⟨i, hi, rfl, hno, n, rfl⟩ := hrel
      by_cases hlt : i < l.length
      · obtain ⟨b, off, rfl, _, hrow⟩ := (HV.out.cells) (by omega)
        obtain ⟨b2, off2, rfl, _, hrow2⟩ := (HU.out.cells) (by have := HL.out; omega)
        have d1 := hrow i hlt
        have d2 := hrow2 i (by have := HL.out; omega)
        have i1 : (i : Int) < l.length := by omega
        have i2 : (i : Int) < m.length := by have := HL.out; omega
        have i3 : i < m.length := by have := HL.out; omega
        have HK := Lib.hid hlt
        have HNO := hno
        clear hrow hrow2 hno
        by_cases hq : intAt l i = intAt m i
        · have q1 : (intAt l i != intAt m i) = false := by rw [hq]; simp
          have HQ := Lib.hid hq
          clear hq
          go_wp2
          first | refine allD (by kernel_rfl) (by kernel_rfl) ?_ | refine all0 (by kernel_rfl) (by kernel_rfl) ?_
          repeat (go_big_quiet_step (fail))
          refine wpQuiet_nil ?_
          rintro _ ⟨nq, rfl⟩
          go_wp2
          go_roundw
          case rel => exact ⟨i + 1, HK.out, by go_num, Lib.hid (fun j hj => by
            by_cases e : j = i
            · subst e; exact HQ.out
            · exact HNO.out j (by omega)), _, rfl⟩
          case measure => have := HK.out; simp [intOf]; omega
        · have q1 : (intAt l i != intAt m i) = true := by rw [bne_iff_ne]; exact hq
          have hres : decide (l = m) = false := decide_eq_false (fun e => hq (by rw [e]))
          have HRES := Lib.hid hres
          clear hq hres
          go_wp2
          first | refine allD (by kernel_rfl) (by kernel_rfl) ?_ | refine all0 (by kernel_rfl) (by kernel_rfl) ?_
          repeat (go_big_quiet_step (fail))
          refine wpQuiet_nil ?_
          rintro _ ⟨nq, rfl⟩
          go_wp2
          go_ret
          exact ⟨by rw [HRES.out]; rfl, below_drewN _ (Below.refl _ _)⟩
      · have i1 : (l.length : Int) ≤ i := by omega
        have hres : decide (l = m) = true := decide_eq_true (ext_i HL.out (fun j hj => hno.out j (by omega)))
        have HRES := Lib.hid hres
        clear hres hno
        go_wp2
        go_ret
        exact ⟨by rw [HRES.out]; rfl, below_drewN _ (Below.refl _ _)⟩
  · have hne : ((l.length : Int) == m.length) = false := by rw [beq_eq_false_iff_ne]; omega
    have hne2 : ((l.length : Int) != m.length) = true := by rw [bne, hne]; rfl
    rw [decide_eq_false (fun e => hl (by rw [e]))]
    clear hl
    go_enter Try.func15, Try.ntmps15
    go_wp2
    go_ret
    exact ⟨rfl, Below.refl _ _⟩
end Go.Proofs.Ytjbndfnhollfnaa
