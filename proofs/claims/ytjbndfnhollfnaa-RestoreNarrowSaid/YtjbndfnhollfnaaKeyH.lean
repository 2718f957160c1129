/- The specification's Holds. -/
import Derived.Test.YtjbndfnhollfnaaKeyG
namespace Go.Proofs.Ytjbndfnhollfnaa
open Go.RowKit Go.Shelf
set_option linter.unusedSimpArgs false
set_option linter.unusedVariables false
theorem holdsK_false (tl bl : List K) (now : Int) (i : Nat) (hi : i < bl.length) (h : lacks tl now (keyAt bl i) = true) : holdsK tl bl now = false := by
  have : bl.any (lacks tl now) = true := List.any_eq_true.2 ⟨bl[i], List.getElem_mem hi, by rw [← keyAt_eq bl i hi]; exact h⟩
  rw [holdsK, this]; rfl
theorem holdsK_true (tl bl : List K) (now : Int) (h : ∀ j, j < bl.length → lacks tl now (keyAt bl j) = false) : holdsK tl bl now = true := by
  have : bl.any (lacks tl now) = false := by
    rw [List.any_eq_false]
    intro x hx
    obtain ⟨i, hi, rfl⟩ := List.mem_iff_getElem.1 hx
    have := h i hi
    rw [keyAt_eq bl i hi] at this
    simpa using this
  rw [holdsK, this]; rfl
theorem boxed2' (w : World) (A : Obj) (cs : Array Value) (T : TypeId) {w1 : World} (h : Below ((w.alloc A).alloc (.cells cs T)).heap.size ((w.alloc A).alloc (.cells cs T)) w1) (j : Nat) : w1.cell? ⟨w.heap.size + 1, j, none⟩ = cs[j]? := by
  have := boxed1 (w.alloc A) cs T h j
  rwa [World.size_alloc] at this
attribute [local irreducible] Calls alikeK twinId twinIs
set_option maxHeartbeats 4000000 in
theorem holds_r (nx now : Int) (v u : Value) (tl bl : List K) (b : BK) (w : World) (hv : RdK w v tl) (hu : RdK w u bl) :
    Calls Try.prog 17 #[.agg #[.int .i64 nx, v], .agg (bc b u), .int .i64 now] w fun e w' => e = .returned (.bool (holdsK tl bl now)) ∧ Below w.heap.size w w' := by
  have hlen := hu.len
  unfold maxLen at hlen
  obtain ⟨W0, hW0⟩ : ∃ W0, W0 = (w.alloc (.cells #[.int .i64 nx, v] 24)).alloc (.cells (bc b u) 28) := ⟨_, rfl⟩
  have hvw : RdK W0 v tl := by rw [hW0]; exact (hv.alloc _).alloc _
  have huw : RdK W0 u bl := by rw [hW0]; exact (hu.alloc _).alloc _
  have hbx : ∀ w1, Below W0.heap.size W0 w1 → w1.cell? ⟨w.heap.size, 0, none⟩ = some (.int .i64 nx) ∧ w1.cell? ⟨w.heap.size, 1, none⟩ = some v ∧ w1.cell? ⟨w.heap.size + 1, 37, none⟩ = some u := by
    intro w1 h
    rw [hW0] at h
    refine ⟨boxed2 _ _ _ _ h 0, boxed2 _ _ _ _ h 1, ?_⟩
    rw [boxed2' _ _ _ _ h 37]
    exact bc_37 b u
  have hbe : ∀ w1, Below W0.heap.size W0 w1 → Below w.heap.size w w1 := by
    intro w1 h
    rw [hW0] at h
    exact below2 _ _ _ h
  have hsz : w.heap.size + 1 < W0.heap.size := by rw [hW0]; simp
  have HV := Lib.hid hvw
  have HU := Lib.hid huw
  have HBX := Lib.hid hbx
  have HBE := Lib.hid hbe
  have HW := Lib.hid hW0
  have HT0 := Lib.hid (fun i hi h => holdsK_false tl bl now i hi h)
  have HT1 := Lib.hid (holdsK_true tl bl now)
  obtain ⟨a, cap, rfl, _, _, _⟩ := hu
  clear hW0 hvw huw hbx hbe hv
  go_enter Try.func17, Try.ntmps17
  go_wp2
  go_loopw [7] (fun o wr => ∃ i : Nat, i ≤ bl.length ∧ o = .int .i64 i ∧ Hid (∀ j, j < i → lacks tl now (keyAt bl j) = false) ∧ Below W0.heap.size W0 wr) (fun o _ => bl.length - (intOf o).toNat)
  case atStart => exact ⟨0, Nat.zero_le _, rfl, Lib.hid (fun j hj => absurd hj (by omega)), by rw [← HW.out]; exact Below.refl _ _⟩
  case round =>
    obtain ⟨i, hi, rfl, hno, hb⟩ := hrel
    obtain ⟨t0, t1, t2⟩ := HBX.out wr hb
    have hbs := hb.size
    have z0 : w.heap.size < wr.heap.size := by omega
    have z1 : w.heap.size + 1 < wr.heap.size := by omega
    by_cases hlt : i < bl.length
    · obtain ⟨bb, off, rfl, hbl, hrow⟩ := ((HU.out.on hb).cells) (by omega)
      obtain ⟨d0, d1, d2, d3, d4, d5, d6, d7, d8⟩ := hrow i hlt
      have i1 : (i : Int) < bl.length := by omega
      have HK := Lib.hid hlt
      have HNO := hno
      have HB := Lib.hid hb
      have hal := fun q : Later wr => Later.call q (twin_r nx v tl (keyAt bl i) q.now ((HV.out.on hb).on q.below))
      unfold kv kc at hal
      have hd : ∀ q : Later wr, q.now.cell? ⟨bb, off + i * 9 + 5, none⟩ = some (.int .i64 (keyAt bl i).fin) := fun q => by rw [q.cell _ _ hbl]; exact d5
      have HD := Lib.hid hd
      have ht : ∀ q : Later wr, q.now.cell? ⟨w.heap.size + 1, 37, none⟩ = some (.slice (some ⟨bb, off, none⟩) bl.length cap) := fun q => by rw [q.cell _ _ z1]; exact t2
      have HT := Lib.hid ht
      have HAL := Lib.hid hal
      have hlk : lacks tl now (keyAt bl i) = (decide (now < (keyAt bl i).fin) && !twinIs tl (keyAt bl i)) := rfl
      have HLK := Lib.hid hlk
      clear hrow hb hd ht hal hno hlk
      cases hq : twinIs tl (keyAt bl i) with
      | true =>
        have HQ := Lib.hid hq
        have hfal : lacks tl now (keyAt bl i) = false := by rw [HLK.out, hq]; simp
        have HF := Lib.hid hfal
        rw [hq] at HAL
        clear hq hfal
        go_wp2
        refine allL (by kernel_rfl) (by kernel_rfl) ?_
        repeat (go_big_quiet_step ((go_at_call 13; exact HAL.out _)))
        refine wpQuiet_nil ?_
        rintro _ ⟨q, rfl⟩
        have e0 := HD.out q
        have e1 := HT.out q
        go_wp2
        all_goals
          go_roundw
          case rel => exact ⟨i + 1, HK.out, by go_num, Lib.hid (fun j hj => by
            by_cases e : j = i
            · subst e; exact HF.out
            · exact HNO.out j (by omega)), HB.out.trans (q.below.mono hbs)⟩
          case measure => have := HK.out; simp [intOf]; omega
      | false =>
        rw [hq] at HAL
        by_cases hf : now < (keyAt bl i).fin
        · have hres := HT0.out i HK.out (by rw [HLK.out, hq, decide_eq_true hf]; rfl)
          have HRES := Lib.hid hres
          clear hq hres
          go_wp2
          refine allL (by kernel_rfl) (by kernel_rfl) ?_
          repeat (go_big_quiet_step ((go_at_call 13; exact HAL.out _)))
          refine wpQuiet_nil ?_
          rintro _ ⟨q, rfl⟩
          have e0 := HD.out q
          have e1 := HT.out q
          go_wp2
          go_ret
          exact ⟨by rw [HRES.out]; rfl, HBE.out _ (HB.out.trans (q.below.mono hbs))⟩
        · have hfal : lacks tl now (keyAt bl i) = false := by rw [HLK.out, hq, decide_eq_false hf]; rfl
          have HF := Lib.hid hfal
          clear hq hfal
          go_wp2
          refine allL (by kernel_rfl) (by kernel_rfl) ?_
          repeat (go_big_quiet_step ((go_at_call 13; exact HAL.out _)))
          refine wpQuiet_nil ?_
          rintro _ ⟨q, rfl⟩
          have e0 := HD.out q
          have e1 := HT.out q
          go_wp2
          go_roundw
          case rel => exact ⟨i + 1, HK.out, by go_num, Lib.hid (fun j hj => by
            by_cases e : j = i
            · subst e; exact HF.out
            · exact HNO.out j (by omega)), HB.out.trans (q.below.mono hbs)⟩
          case measure => have := HK.out; simp [intOf]; omega
    · have he : i = bl.length := by omega
      have i1 : (bl.length : Int) ≤ i := by omega
      have hres := HT1.out (fun j hj => hno.out j (by omega))
      have HRES := Lib.hid hres
      clear hres hno he
      go_wp2
      go_ret
      exact ⟨by rw [HRES.out]; rfl, HBE.out _ hb⟩
end Go.Proofs.Ytjbndfnhollfnaa
