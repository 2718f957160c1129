/- Valid backups, both. -/
import Derived.Test.YtjbndfnhollfnaaKeyJ
namespace Go.Proofs.Ytjbndfnhollfnaa
open Go.RowKit Go.Shelf
set_option linter.unusedSimpArgs false
set_option linter.unusedVariables false
def okB (l : List K) (i : Nat) : Bool := validK (keyAt l i) && decide (lastId l i < (keyAt l i).id) && decide ((keyAt l i).id ≤ 2147483647)
def headB (b : BK) (l : List K) : Bool := win b.ep 0 2147483647 && win b.num 0 2147483647 && win b.fw 0 2147483647 && win b.tm 0 1099511627776 && decide (1 ≤ b.mo.length) && decide (b.mo.length ≤ 12) && decide (l.length ≤ 4096)
def validB (b : BK) (l : List K) : Bool := headB b l && (List.range l.length).all (okB l)
theorem okB_four (l : List K) (i : Nat) : (okB l i = false ∧ validK (keyAt l i) = false) ∨ (okB l i = false ∧ validK (keyAt l i) = true ∧ (keyAt l i).id ≤ lastId l i) ∨
    (okB l i = false ∧ validK (keyAt l i) = true ∧ ¬ (keyAt l i).id ≤ lastId l i ∧ 2147483647 < (keyAt l i).id) ∨
    (okB l i = true ∧ validK (keyAt l i) = true ∧ ¬ (keyAt l i).id ≤ lastId l i ∧ ¬ 2147483647 < (keyAt l i).id) := by
  unfold okB
  by_cases h0 : validK (keyAt l i) = true
  · by_cases h1 : (keyAt l i).id ≤ lastId l i
    · exact .inr (.inl ⟨by rw [decide_eq_false (by omega : ¬ lastId l i < (keyAt l i).id)]; simp, h0, h1⟩)
    · by_cases h2 : 2147483647 < (keyAt l i).id
      · exact .inr (.inr (.inl ⟨by rw [decide_eq_false (by omega : ¬ (keyAt l i).id ≤ 2147483647)]; simp, h0, h1, h2⟩))
      · exact .inr (.inr (.inr ⟨by rw [h0, decide_eq_true (by omega : lastId l i < (keyAt l i).id), decide_eq_true (by omega : (keyAt l i).id ≤ 2147483647)]; rfl, h0, h1, h2⟩))
  · have h0' : validK (keyAt l i) = false := by simpa using h0
    exact .inl ⟨by rw [h0']; rfl, h0'⟩
theorem allB_false (l : List K) (i : Nat) (hi : i < l.length) (h : okB l i = false) : (List.range l.length).all (okB l) = false := by
  rw [List.all_eq_false]
  exact ⟨i, List.mem_range.2 hi, by rw [h]; decide⟩
theorem allB_true (l : List K) (h : ∀ j, j < l.length → okB l j = true) : (List.range l.length).all (okB l) = true :=
  List.all_eq_true.2 (fun i hi => h i (List.mem_range.1 hi))
theorem headB_parts (b : BK) (l : List K) :
    (headB b l = true ∧ win b.ep 0 2147483647 = true ∧ win b.num 0 2147483647 = true ∧ win b.fw 0 2147483647 = true ∧ win b.tm 0 1099511627776 = true ∧ ¬ (b.mo.length : Int) < 1 ∧ ¬ 12 < (b.mo.length : Int) ∧ ¬ 4096 < (l.length : Int)) ∨
    (headB b l = false ∧ win b.ep 0 2147483647 = false) ∨
    (headB b l = false ∧ win b.ep 0 2147483647 = true ∧ win b.num 0 2147483647 = false) ∨
    (headB b l = false ∧ win b.ep 0 2147483647 = true ∧ win b.num 0 2147483647 = true ∧ win b.fw 0 2147483647 = false) ∨
    (headB b l = false ∧ win b.ep 0 2147483647 = true ∧ win b.num 0 2147483647 = true ∧ win b.fw 0 2147483647 = true ∧ win b.tm 0 1099511627776 = false) ∨
    (headB b l = false ∧ win b.ep 0 2147483647 = true ∧ win b.num 0 2147483647 = true ∧ win b.fw 0 2147483647 = true ∧ win b.tm 0 1099511627776 = true ∧ (b.mo.length : Int) < 1) ∨
    (headB b l = false ∧ win b.ep 0 2147483647 = true ∧ win b.num 0 2147483647 = true ∧ win b.fw 0 2147483647 = true ∧ win b.tm 0 1099511627776 = true ∧ ¬ (b.mo.length : Int) < 1 ∧ 12 < (b.mo.length : Int)) ∨
    (headB b l = false ∧ win b.ep 0 2147483647 = true ∧ win b.num 0 2147483647 = true ∧ win b.fw 0 2147483647 = true ∧ win b.tm 0 1099511627776 = true ∧ ¬ (b.mo.length : Int) < 1 ∧ ¬ 12 < (b.mo.length : Int) ∧ 4096 < (l.length : Int)) := by
  unfold headB
  cases h1 : win b.ep 0 2147483647
  · simp
  cases h2 : win b.num 0 2147483647
  · simp
  cases h3 : win b.fw 0 2147483647
  · simp
  cases h4 : win b.tm 0 1099511627776
  · simp
  by_cases h5 : (b.mo.length : Int) < 1
  · have : ¬ 1 ≤ b.mo.length := by omega
    simp [h5, this]
  by_cases h6 : 12 < (b.mo.length : Int)
  · have : ¬ b.mo.length ≤ 12 := by omega
    simp [h5, h6, this]
  by_cases h7 : 4096 < (l.length : Int)
  · have : ¬ l.length ≤ 4096 := by omega
    simp [h5, h6, h7, this]
  have a5 : 1 ≤ b.mo.length := by omega
  have a6 : b.mo.length ≤ 12 := by omega
  have a7 : l.length ≤ 4096 := by omega
  simp [h5, h6, h7, a5, a6, a7]
attribute [local irreducible] Calls alikeK twinId twinIs validB okB validK lastId win headB
set_option maxRecDepth 100000 in
set_option maxHeartbeats 4000000 in
theorem validB_r (b : BK) (u : Value) (l : List K) (w : World) (hv : RdK w u l) :
    Calls Try.prog 20 #[.agg (bc b u)] w fun e w' => e = .returned (.bool (validB b l)) ∧ Below w.heap.size w w' := by
  have hlen := hv.len
  unfold maxLen at hlen
  obtain ⟨W0, hW0⟩ : ∃ W0, W0 = w.alloc (.cells (bc b u) 28) := ⟨_, rfl⟩
  have hvw : RdK W0 u l := by rw [hW0]; exact hv.alloc _
  have hbx : ∀ w1, Below W0.heap.size W0 w1 → w1.cell? ⟨w.heap.size, 37, none⟩ = some u := by
    intro w1 h
    rw [hW0] at h
    rw [boxed1 _ _ _ h 37]
    exact bc_37 b u
  have hbe : ∀ w1, Below W0.heap.size W0 w1 → Below w.heap.size w w1 := by
    intro w1 h
    rw [hW0] at h
    exact below1 _ _ h
  have hsz : w.heap.size < W0.heap.size := by rw [hW0]; simp
  have HV := Lib.hid hvw
  have HBX := Lib.hid hbx
  have HBE := Lib.hid hbe
  have HW := Lib.hid hW0
  have hve : validB b l = (headB b l && (List.range l.length).all (okB l)) := by unfold validB; rfl
  rw [hve]
  obtain ⟨a, cap, rfl, _, _, _⟩ := hv
  clear hW0 hvw hbx hbe hve
  rcases headB_parts b l with ⟨hh, f1, f2, f3, f4, f5, f6, f7⟩ | ⟨hh, f1⟩ | ⟨hh, f1, f2⟩ | ⟨hh, f1, f2, f3⟩ | ⟨hh, f1, f2, f3, f4⟩ | ⟨hh, f1, f2, f3, f4, f5⟩ | ⟨hh, f1, f2, f3, f4, f5, f6⟩ | ⟨hh, f1, f2, f3, f4, f5, f6, f7⟩
  case inl =>
    rw [hh, Bool.true_and]
    have HT0 := Lib.hid (fun i hi h => allB_false l i hi h)
    have HT1 := Lib.hid (allB_true l)
    clear hh
    go_enter Try.func20, Try.ntmps20
    go_wp2_with (go_at_call 33; refine (win_33 _ _ _).mono ?_; rintro e wf ⟨rfl, hwf⟩; rw [hwf]; clear hwf)
    go_loopw [3, 4] (fun la o wr => ∃ i : Nat, i ≤ l.length ∧ o = .int .i64 i ∧ la = .int .i64 (lastId l i) ∧ Hid (∀ j, j < i → okB l j = true) ∧ Below W0.heap.size W0 wr) (fun _ o _ => l.length - (intOf o).toNat)
    case atStart => exact ⟨0, Nat.zero_le _, rfl, by rw [lastId_zero], Lib.hid (fun j hj => absurd hj (by omega)), by rw [← HW.out]; exact Below.refl _ _⟩
    case round =>
      obtain ⟨i, hi, rfl, rfl, hno, hb⟩ := hrel
      have t1 := HBX.out wr hb
      have hbs := hb.size
      by_cases hlt : i < l.length
      · obtain ⟨bb, off, rfl, hbl, hrow⟩ := ((HV.out.on hb).cells) (by omega)
        obtain ⟨d0, d1, d2, d3, d4, d5, d6, d7, d8⟩ := hrow i hlt
        have i1 : (i : Int) < l.length := by omega
        have HK := Lib.hid hlt
        have HNO := hno
        have HB := Lib.hid hb
        have hval := valid_ref (keyAt l i) wr
        have hbx2 : ∀ w1, Below wr.heap.size wr w1 → w1.cell? ⟨bb, off + i * 9, none⟩ = some (.int .i64 (keyAt l i).id) ∧ w1.cell? ⟨w.heap.size, 37, none⟩ = some (.slice (some ⟨bb, off, none⟩) l.length cap) ∧ Below W0.heap.size W0 w1 := by
          intro w1 h
          have h2 := HB.out.trans (h.mono hbs)
          exact ⟨by rw [h.cell (p := ⟨bb, off + i * 9, none⟩) hbl]; exact d0, HBX.out _ h2, h2⟩
        unfold kv kc at hval
        have HLS := Lib.hid (lastId_succ l i)
        have HX2 := Lib.hid hbx2
        clear hrow hb hno hbx2
        rcases okB_four l i with ⟨ho, h1⟩ | ⟨ho, h1, h2⟩ | ⟨ho, h1, h2, h3⟩ | ⟨ho, h1, h2, h3⟩
        case inr.inr.inr =>
          rw [h1] at hval
          have HVAL := Lib.hid hval
          have HO := Lib.hid ho
          clear hval h1 ho
          go_wp2_with (go_at_call 22; refine HVAL.out.mono ?_; rintro e w1 ⟨rfl, hb'⟩; obtain ⟨e0, n0, hbb⟩ := HX2.out _ hb'; clear hb')
          go_roundw
          case rel => exact ⟨i + 1, HK.out, by go_num, by rw [HLS.out], Lib.hid (fun j hj => by
            by_cases e : j = i
            · subst e; exact HO.out
            · exact HNO.out j (by omega)), hbb⟩
          case measure => have := HK.out; simp [intOf]; omega
        all_goals
          have HRES := Lib.hid (HT0.out i HK.out ho)
          rw [h1] at hval
          have HVAL := Lib.hid hval
          clear hval h1 ho
          go_wp2_with (go_at_call 22; refine HVAL.out.mono ?_; rintro e w1 ⟨rfl, hb'⟩; obtain ⟨e0, n0, hbb⟩ := HX2.out _ hb'; clear hb')
          go_ret
          exact ⟨by rw [HRES.out]; rfl, HBE.out _ hbb⟩
      · have he : i = l.length := by omega
        have i1 : (l.length : Int) ≤ i := by omega
        have HRES := Lib.hid (HT1.out (fun j hj => hno.out j (by omega)))
        clear hno he
        go_wp2
        go_ret
        exact ⟨by rw [HRES.out]; rfl, HBE.out _ hb⟩
  all_goals
    rw [hh, Bool.false_and]
    clear hh
    go_enter Try.func20, Try.ntmps20
    go_wp2_with (go_at_call 33; refine (win_33 _ _ _).mono ?_; rintro e wf ⟨rfl, hwf⟩; rw [hwf]; clear hwf)
    go_ret
    exact ⟨rfl, HBE.out _ (by rw [← HW.out]; exact Below.refl _ _)⟩
end Go.Proofs.Ytjbndfnhollfnaa
