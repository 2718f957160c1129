/- Equal tables; small inputs. -/
import Derived.Test.YtjbndfnhollfnaaKeyT
namespace Go.Proofs.Ytjbndfnhollfnaa
open Go.RowKit Go.Shelf
set_option linter.unusedSimpArgs false
set_option linter.unusedVariables false
theorem ext_k {l m : List K} (h : l.length = m.length) (h2 : ∀ j, j < l.length → keyAt l j = keyAt m j) : l = m := by
  refine List.ext_getElem h (fun i h3 h4 => ?_)
  have := h2 i h3
  rwa [keyAt_eq l i h3, keyAt_eq m i h4] at this
attribute [local irreducible] Calls kEq
set_option maxRecDepth 100000 in
set_option maxHeartbeats 2000000 in
theorem sameT (n1 n2 : Int) (v u : Value) (l m : List K) (w : World) (hv : RdK w v l) (hu : RdK w u m) :
    Calls Try.prog 14 #[.agg #[.int .i64 n1, v], .agg #[.int .i64 n2, u]] w fun e w' => e = .returned (.bool (decide (n1 = n2 ∧ l = m))) ∧ Below w.heap.size w w' := by
  have hlen := hv.len
  unfold maxLen at hlen
  have hbe : ∀ (A B : Obj) (n : Nat), Below w.heap.size w (((w.alloc A).alloc B).drewN n) := fun A B n => below_drewN n (((Below.refl _ _).alloc (Nat.le_refl _) A).alloc (by simp) B)
  have HBE := Lib.hid hbe
  have HV := Lib.hid ((hv.alloc (.cells #[.int .i64 n1, v] 24)).alloc (.cells #[.int .i64 n2, u] 24))
  have HU := Lib.hid ((hu.alloc (.cells #[.int .i64 n1, v] 24)).alloc (.cells #[.int .i64 n2, u] 24))
  obtain ⟨a, cap, rfl, _, _, _⟩ := hv
  obtain ⟨a2, cap2, rfl, _, _, _⟩ := hu
  clear hbe
  by_cases hn : n1 = n2
  · have hnn : (n1 == n2) = true := by rw [hn]; simp
    have hnn2 : (n1 != n2) = false := by rw [bne, hnn]; rfl
    have HN := Lib.hid hn
    by_cases hl : l.length = m.length
    · have hne : ((l.length : Int) == m.length) = true := by rw [beq_iff_eq]; omega
      have hne2 : ((l.length : Int) != m.length) = false := by rw [bne, hne]; rfl
      have HL := Lib.hid hl
      clear hl hn
      go_enter Try.func14, Try.ntmps14
      go_wp2
      go_loopw [5] (fun o wr => ∃ i : Nat, i ≤ l.length ∧ o = .int .i64 i ∧ Hid (∀ j, j < i → keyAt l j = keyAt m j) ∧ ∃ n, wr = ((w.alloc (.cells #[.int .i64 n1, .slice a l.length cap] 24)).alloc (.cells #[.int .i64 n2, .slice a2 m.length cap2] 24)).drewN n) (fun o _ => l.length - (intOf o).toNat)
      case atStart => exact ⟨0, Nat.zero_le _, rfl, Lib.hid (fun j hj => absurd hj (by omega)), 0, rfl⟩
      case round =>
        obtain ⟨i, hi, rfl, hno, n, rfl⟩ := hrel
        by_cases hlt : i < l.length
        · obtain ⟨b, off, rfl, hb1, hrow⟩ := (HV.out.cells) (by omega)
          obtain ⟨b2, off2, rfl, hb2, hrow2⟩ := (HU.out.cells) (by have := HL.out; omega)
          have hneq := fun w' => neq_k (keyAt l i) (keyAt m i) w'
          rw [kEq_eq] at hneq
          unfold kc at hneq
          obtain ⟨d0, d1, d2, d3, d4, d5, d6, d7, d8⟩ := hrow i hlt
          obtain ⟨x0, x1, x2, x3, x4, x5, x6, x7, x8⟩ := hrow2 i (by have := HL.out; omega)
          have i1 : (i : Int) < l.length := by omega
          have i2 : (i : Int) < m.length := by have := HL.out; omega
          have i3 : i < m.length := by have := HL.out; omega
          have HK := Lib.hid hlt
          have HNO := hno
          clear hrow hrow2 hno
          by_cases hq : keyAt l i = keyAt m i
          · rw [decide_eq_true hq] at hneq
            have HQ := Lib.hid hq
            clear hq
            go_wp2
            first | refine allD (by kernel_rfl) (by kernel_rfl) ?_ | refine all0 (by kernel_rfl) (by kernel_rfl) ?_
            repeat (go_big_quiet_step (fail))
            refine wpQuiet_nil ?_
            rintro _ ⟨nq, rfl⟩
            go_wp2
            go_roundw
            case rel => exact ⟨i + 1, HK.out, by go_num, Lib.hid (fun j hj => by
              by_cases e : j = i
              · subst e; exact HQ.out
              · exact HNO.out j (by omega)), _, rfl⟩
            case measure => have := HK.out; simp [intOf]; omega
          · rw [decide_eq_false hq] at hneq
            have hres : decide (n1 = n2 ∧ l = m) = false := decide_eq_false (fun e => hq (by rw [e.2]))
            have HRES := Lib.hid hres
            clear hq hres
            go_wp2
            first | refine allD (by kernel_rfl) (by kernel_rfl) ?_ | refine all0 (by kernel_rfl) (by kernel_rfl) ?_
            repeat (go_big_quiet_step (fail))
            refine wpQuiet_nil ?_
            rintro _ ⟨nq, rfl⟩
            go_wp2
            go_ret
            exact ⟨by rw [HRES.out]; rfl, HBE.out _ _ _⟩
        · have i1 : (l.length : Int) ≤ i := by omega
          have hres : decide (n1 = n2 ∧ l = m) = true := decide_eq_true ⟨HN.out, ext_k HL.out (fun j hj => hno.out j (by omega))⟩
          have HRES := Lib.hid hres
          clear hres hno
          go_wp2
          go_ret
          exact ⟨by rw [HRES.out]; rfl, HBE.out _ _ _⟩
    · have hne : ((l.length : Int) == m.length) = false := by rw [beq_eq_false_iff_ne]; omega
      have hne2 : ((l.length : Int) != m.length) = true := by rw [bne, hne]; rfl
      rw [decide_eq_false (fun e => hl (by rw [e.2]))]
      clear hl hn
      go_enter Try.func14, Try.ntmps14
      go_wp2
      go_ret
      exact ⟨rfl, HBE.out _ _ 0⟩
  · have hnn : (n1 == n2) = false := by rw [beq_eq_false_iff_ne]; exact hn
    have hnn2 : (n1 != n2) = true := by rw [bne, hnn]; rfl
    rw [decide_eq_false (fun e => hn e.1)]
    clear hn
    go_enter Try.func14, Try.ntmps14
    go_wp2
    go_ret
    exact ⟨rfl, HBE.out _ _ 0⟩
theorem few_k (n1 : Int) (v u : Value) (l m : List K) (b : BK) (w : World) (hv : RdK w v l) (hu : RdK w u m) :
    Calls Try.prog 7 #[.agg #[.int .i64 n1, v], .agg (bc b u)] w fun e w' => e = .returned (.bool (decide (l.length ≤ 40) && (decide (m.length ≤ 40) && decide (b.mo.length ≤ 100)))) ∧ Below w.heap.size w w' := by
  have hbe : ∀ (A B : Obj), Below w.heap.size w ((w.alloc A).alloc B) := fun A B => ((Below.refl _ _).alloc (Nat.le_refl _) A).alloc (by simp) B
  have HBE := Lib.hid hbe
  obtain ⟨a, cap, rfl, _, _, _⟩ := hv
  obtain ⟨a2, cap2, rfl, _, _, _⟩ := hu
  clear hbe
  by_cases h1 : l.length ≤ 40
  · have i1 : (l.length : Int) ≤ 40 := by omega
    by_cases h2 : m.length ≤ 40
    · have i2 : (m.length : Int) ≤ 40 := by omega
      by_cases h3 : b.mo.length ≤ 100
      · have i3 : (b.mo.length : Int) ≤ 100 := by omega
        rw [decide_eq_true h1, decide_eq_true h2, decide_eq_true h3]
        go_enter Try.func7, Try.ntmps7
        go_wp2
        go_ret
        exact ⟨rfl, HBE.out _ _⟩
      · have i3 : ¬ (b.mo.length : Int) ≤ 100 := by omega
        rw [decide_eq_true h1, decide_eq_true h2, decide_eq_false h3]
        go_enter Try.func7, Try.ntmps7
        go_wp2
        go_ret
        exact ⟨rfl, HBE.out _ _⟩
    · have i2 : ¬ (m.length : Int) ≤ 40 := by omega
      rw [decide_eq_true h1, decide_eq_false h2]
      go_enter Try.func7, Try.ntmps7
      go_wp2
      go_ret
      exact ⟨rfl, HBE.out _ _⟩
  · have i1 : ¬ (l.length : Int) ≤ 40 := by omega
    rw [decide_eq_false h1]
    go_enter Try.func7, Try.ntmps7
    go_wp2
    go_ret
    exact ⟨rfl, HBE.out _ _⟩
end Go.Proofs.Ytjbndfnhollfnaa
