/- Small policies, equal lists of numbers, a number of a list. -/
import Derived.Test.YtamdlkflcbefdaaDoorPermC
namespace Go.Proofs.YtamdlkflcbefdaaDoor
open Go.RowKit Go.Shelf
set_option linter.unusedSimpArgs false
set_option linter.unusedVariables false
attribute [local irreducible] Calls
theorem ext_i {l m : List Int} (h : l.length = m.length) (h2 : ∀ j, j < l.length → nth l j = nth m j) : l = m := by
  refine List.ext_getElem h (fun i h3 h4 => ?_)
  have := h2 i h3
  rwa [nth_eq l i h3, nth_eq m i h4] at this
set_option maxHeartbeats 1000000 in
theorem same_r (v u : Value) (l m : List Int) (w : World) (hv : RdE eI w v l) (hu : RdE eI w u m) :
    Calls Tryd.prog 19 #[v, u] w fun e w' => e = .returned (.bool (decide (l = m))) ∧ Below w.heap.size w w' := by
  have hlen := hv.len
  unfold maxLen at hlen
  have HV := Lib.hid hv
  have HU := Lib.hid hu
  obtain ⟨a, cap, rfl, _, _, _⟩ := hv
  obtain ⟨a2, cap2, rfl, _, _, _⟩ := hu
  by_cases hl : l.length = m.length
  · have hne : ((l.length : Int) == m.length) = true := by rw [beq_iff_eq]; omega
    have hne2 : ((l.length : Int) != m.length) = false := by rw [bne, hne]; rfl
    have HL := Lib.hid hl
    clear hl
    go_enter Tryd.func19, Tryd.ntmps19
    go_wp2
    go_loopw [5] (fun o wr => ∃ i : Nat, i ≤ l.length ∧ o = .int .i64 i ∧ Hid (∀ j, j < i → nth l j = nth m j) ∧ ∃ n, wr = w.drewN n) (fun o _ => l.length - (intOf o).toNat)
    case atStart => exact ⟨0, Nat.zero_le _, rfl, Lib.hid (fun j hj => absurd hj (by omega)), 0, rfl⟩
    case round =>
      obtain ⟨i, hi, rfl, hno, n, rfl⟩ := hrel
      by_cases hlt : i < l.length
      · obtain ⟨b, off, rfl, _, hrow⟩ := (HV.out.cellsI) (by omega)
        obtain ⟨b2, off2, rfl, _, hrow2⟩ := (HU.out.cellsI) (by have := HL.out; omega)
        have d1 := hrow i hlt
        have d2 := hrow2 i (by have := HL.out; omega)
        have i1 : (i : Int) < l.length := by omega
        have i2 : (i : Int) < m.length := by have := HL.out; omega
        have i3 : i < m.length := by have := HL.out; omega
        have HK := Lib.hid hlt
        have HNO := hno
        clear hrow hrow2 hno
        by_cases hq : nth l i = nth m i
        · have q1 : (nth l i != nth m i) = false := by rw [hq]; simp
          have HQ := Lib.hid hq
          clear hq
          go_wp2
          first | refine allD (by kernel_rfl) (by kernel_rfl) ?_ | refine all0 (by kernel_rfl) (by kernel_rfl) ?_
          repeat (go_big_quiet_step (fail))
          refine wpQuiet_nil ?_
          rintro _ ⟨nq, rfl⟩
          go_wp2
          go_roundw
          case rel => exact ⟨i + 1, HK.out, by go_num, Lib.hid (fun j hj => by
            by_cases e : j = i
            · subst e; exact HQ.out
            · exact HNO.out j (by omega)), _, rfl⟩
          case measure => have := HK.out; simp [intOf]; omega
        · have q1 : (nth l i != nth m i) = true := by rw [bne_iff_ne]; exact hq
          have hres : decide (l = m) = false := decide_eq_false (fun e => hq (by rw [e]))
          have HRES := Lib.hid hres
          clear hq hres
          go_wp2
          first | refine allD (by kernel_rfl) (by kernel_rfl) ?_ | refine all0 (by kernel_rfl) (by kernel_rfl) ?_
          repeat (go_big_quiet_step (fail))
          refine wpQuiet_nil ?_
          rintro _ ⟨nq, rfl⟩
          go_wp2
          go_ret
          exact ⟨by rw [HRES.out]; rfl, below_drewN _ (Below.refl _ _)⟩
      · have i1 : (l.length : Int) ≤ i := by omega
        have hres : decide (l = m) = true := decide_eq_true (ext_i HL.out (fun j hj => hno.out j (by omega)))
        have HRES := Lib.hid hres
        clear hres hno
        go_wp2
        go_ret
        exact ⟨by rw [HRES.out]; rfl, below_drewN _ (Below.refl _ _)⟩
  · have hne : ((l.length : Int) == m.length) = false := by rw [beq_eq_false_iff_ne]; omega
    have hne2 : ((l.length : Int) != m.length) = true := by rw [bne, hne]; rfl
    rw [decide_eq_false (fun e => hl (by rw [e]))]
    clear hl
    go_enter Tryd.func19, Tryd.ntmps19
    go_wp2
    go_ret
    exact ⟨rfl, Below.refl _ _⟩
set_option maxHeartbeats 2000000 in
theorem holds_r (v : Value) (l : List Int) (n : Int) (w : World) (hv : RdE eI w v l) :
    Calls Tryd.prog 30 #[v, .int .i64 n] w fun e w' => e = .returned (.bool (decide (n ∈ l))) ∧ Below w.heap.size w w' := by
  have hlen := hv.len
  unfold maxLen at hlen
  have HV := Lib.hid hv
  obtain ⟨a, cap, rfl, _, _, _⟩ := hv
  go_enter Tryd.func30, Tryd.ntmps30
  go_wp2
  go_loopw [5] (fun o wr => ∃ i : Nat, i ≤ l.length ∧ o = .int .i64 i ∧ Hid (∀ j, j < i → (nth l j == n) = false) ∧ ∃ k, wr = w.drewN k) (fun o _ => l.length - (intOf o).toNat)
  case atStart => exact ⟨0, Nat.zero_le _, rfl, Lib.hid (fun j hj => absurd hj (by omega)), 0, rfl⟩
  case round =>
    obtain ⟨i, hi, rfl, hno, k, rfl⟩ := hrel
    by_cases hlt : i < l.length
    · obtain ⟨b, off, rfl, _, hrow⟩ := (HV.out.cellsI) (by omega)
      have d1 := hrow i hlt
      have i1 : (i : Int) < l.length := by omega
      have HK := Lib.hid hlt
      have HNO := hno
      clear hrow hno
      cases hq : nth l i == n with
      | true =>
        have hres : decide (n ∈ l) = true := decide_eq_true (by
          have := beq_iff_eq.1 hq
          rw [nth_eq l i hlt] at this
          rw [← this]
          exact List.getElem_mem _)
        have HRES := Lib.hid hres
        clear hres
        go_wp2
        go_ret
        exact ⟨by rw [HRES.out]; rfl, below_drewN _ (Below.refl _ _)⟩
      | false =>
        have HQ := Lib.hid hq
        go_wp2
        go_roundw
        case rel => exact ⟨i + 1, HK.out, by go_num, Lib.hid (fun j hj => by
          by_cases e : j = i
          · subst e; exact HQ.out
          · exact HNO.out j (by omega)), _, rfl⟩
        case measure => have := HK.out; simp [intOf]; omega
    · have i1 : (l.length : Int) ≤ i := by omega
      have hres : decide (n ∈ l) = false := decide_eq_false (fun hm => by
        obtain ⟨j, hj, e⟩ := List.mem_iff_getElem.1 hm
        have := hno.out j (by omega)
        rw [nth_eq l j hj, e] at this
        simp at this)
      have HRES := Lib.hid hres
      clear hres hno
      go_wp2
      go_ret
      exact ⟨by rw [HRES.out]; rfl, below_drewN _ (Below.refl _ _)⟩
/-- a small policy -/
def FewP (tl : List TyP) (rl : List RuP) (ql : List QuP) : Prop := tl.length ≤ 40 ∧ rl.length ≤ 100 ∧ ql.length ≤ 40 ∧ ∀ j, j < tl.length → (nth tl j).nm.length ≤ 40
instance (tl : List TyP) (rl : List RuP) (ql : List QuP) : Decidable (FewP tl rl ql) := by unfold FewP; infer_instance
set_option maxHeartbeats 4000000 in
theorem few_r (s : ByteArray) (vt vr vq : Value) (tl : List TyP) (rl : List RuP) (ql : List QuP) (w : World) (hT : RdE eT w vt tl) (hR : RdE eR w vr rl) (hQ : RdE eQ w vq ql) :
    Calls Tryd.prog 10 #[.agg #[.string s, vt, vr, vq]] w fun e w' => e = .returned (.bool (decide (FewP tl rl ql))) ∧ Below w.heap.size w w' := by
  have hlen := hT.len
  unfold maxLen at hlen
  obtain ⟨W0, hW0⟩ : ∃ W0, W0 = w.alloc (.cells #[.string s, vt, vr, vq] 26) := ⟨_, rfl⟩
  have HT : Hid (RdE eT W0 vt tl) := Lib.hid (by rw [hW0]; exact hT.alloc _)
  have HBX : Hid (W0.cell? ⟨w.heap.size, 1, none⟩ = some vt ∧ ∀ n, Below w.heap.size w (W0.drewN n)) :=
    Lib.hid (by rw [hW0]; exact ⟨boxed1 _ _ _ (Below.refl _ _) 1, fun n => below_drewN n ((Below.refl _ _).alloc (Nat.le_refl _) _)⟩)
  obtain ⟨a, cap, rfl, _, _, _⟩ := hT
  obtain ⟨aR, capR, rfl, _, _, _⟩ := hR
  obtain ⟨aQ, capQ, rfl, _, _, _⟩ := hQ
  have HW := Lib.hid hW0
  by_cases h1 : tl.length ≤ 40
  case neg =>
    have i1 : (40 : Int) < tl.length := by omega
    rw [decide_eq_false (fun h => h1 h.1)]
    have HB := Lib.hid (HBX.out.2 0)
    rw [hW0] at HB
    clear h1 HBX HW hW0 HT
    go_enter Tryd.func10, Tryd.ntmps10
    go_wp2
    go_ret
    exact ⟨rfl, HB.out⟩
  by_cases h2 : rl.length ≤ 100
  case neg =>
    have i1 : ¬ (40 : Int) < tl.length := by omega
    have i2 : (100 : Int) < rl.length := by omega
    rw [decide_eq_false (fun h => h2 h.2.1)]
    have HB := Lib.hid (HBX.out.2 0)
    rw [hW0] at HB
    clear h1 h2 HBX HW hW0 HT
    go_enter Tryd.func10, Tryd.ntmps10
    go_wp2
    go_ret
    exact ⟨rfl, HB.out⟩
  by_cases h3 : ql.length ≤ 40
  case neg =>
    have i1 : ¬ (40 : Int) < tl.length := by omega
    have i2 : ¬ (100 : Int) < rl.length := by omega
    have i3 : (40 : Int) < ql.length := by omega
    rw [decide_eq_false (fun h => h3 h.2.2.1)]
    have HB := Lib.hid (HBX.out.2 0)
    rw [hW0] at HB
    clear h1 h2 h3 HBX HW hW0 HT
    go_enter Tryd.func10, Tryd.ntmps10
    go_wp2
    go_ret
    exact ⟨rfl, HB.out⟩
  have i1 : ¬ (40 : Int) < tl.length := by omega
  have i2 : ¬ (100 : Int) < rl.length := by omega
  have i3 : ¬ (40 : Int) < ql.length := by omega
  have H123 := Lib.hid (And.intro h1 (And.intro h2 h3))
  clear h1 h2 h3 hW0
  go_enter Tryd.func10, Tryd.ntmps10
  go_wp2
  go_loopw [3] (fun o wr => ∃ k : Nat, k ≤ tl.length ∧ o = .int .i64 k ∧ Hid (∀ j, j < k → (nth tl j).nm.length ≤ 40) ∧ ∃ n, wr = W0.drewN n) (fun o _ => tl.length - (intOf o).toNat)
  case atStart => exact ⟨0, Nat.zero_le _, rfl, Lib.hid (fun j hj => absurd hj (by omega)), 0, by rw [HW.out]; rfl⟩
  case round =>
    obtain ⟨k, hk, rfl, hno, n, rfl⟩ := hrel
    obtain ⟨t1, hbe⟩ := HBX.out
    have HBE := Lib.hid hbe
    clear hbe
    by_cases hlt : k < tl.length
    · obtain ⟨b, off, rfl, hbl, hrow⟩ := (HT.out.cellsT) (by omega)
      obtain ⟨d0, d1, d2⟩ := hrow k hlt
      have j1 : (k : Int) < tl.length := by omega
      have HK := Lib.hid hlt
      have HNO := hno
      clear hrow hno
      by_cases hq : (nth tl k).nm.length ≤ 40
      · have j2 : ¬ (40 : Int) < (nth tl k).nm.length := by omega
        have HQ := Lib.hid hq
        clear hq
        go_wp2
        go_roundw
        case rel => exact ⟨k + 1, HK.out, by go_num, Lib.hid (fun j hj => by
          by_cases e : j = k
          · subst e; exact HQ.out
          · exact HNO.out j (by omega)), _, rfl⟩
        case measure => have := HK.out; simp [intOf]; omega
      · have j2 : (40 : Int) < (nth tl k).nm.length := by omega
        have hres : decide (FewP tl rl ql) = false := decide_eq_false (fun h => hq (h.2.2.2 k hlt))
        have HRES := Lib.hid hres
        clear hq hres
        go_wp2
        go_ret
        exact ⟨by rw [HRES.out]; rfl, HBE.out _⟩
    · have j1 : (tl.length : Int) ≤ k := by omega
      have hres : decide (FewP tl rl ql) = true := decide_eq_true ⟨H123.out.1, H123.out.2.1, H123.out.2.2, fun j hj => hno.out j (by omega)⟩
      have HRES := Lib.hid hres
      clear hno hres
      go_wp2
      go_ret
      exact ⟨by rw [HRES.out]; rfl, HBE.out _⟩
end Go.Proofs.YtamdlkflcbefdaaDoor
