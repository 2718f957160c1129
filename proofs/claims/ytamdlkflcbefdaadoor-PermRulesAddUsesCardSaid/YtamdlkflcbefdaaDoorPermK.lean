/- Uses of the program. -/
import Derived.Test.YtamdlkflcbefdaaDoorPermU
namespace Go.Proofs.YtamdlkflcbefdaaDoor
open Go.RowKit Go.Shelf
set_option linter.unusedSimpArgs false
set_option linter.unusedVariables false
theorem info_tab : (Tryd.prog.info? 70).map (·.size) = some tabC.size := by kernel_rfl
theorem info_tr : (Tryd.prog.info? 69).map (·.size) = some 3 := by kernel_rfl
theorem one_3 (a b c : Int) : ((#[.int .i64 a, .int .i64 b, .int .i64 c] : Array Value).all fun u => u.oneCell') = true := by simp [one_i]
/-- a row of the table -/
def tabR (i : Nat) : Array Value := #[.int .i64 (tabK i), .int .i64 (tabA i), .int .i64 (tabB i)]
theorem stU_parts (t : Int) (y : RuP) (j : Nat) (u : Int) :
    ((tabK j != y.k) = true ∧ stU t y j u = u) ∨
    ((tabK j != y.k) = false ∧ (y.a == t) = true ∧ (y.b == t) = true ∧ stU t y j u = bits .or .i64 (bits .or .i64 u (tabA j)) (tabB j)) ∨
    ((tabK j != y.k) = false ∧ (y.a == t) = true ∧ (y.b == t) = false ∧ stU t y j u = bits .or .i64 u (tabA j)) ∨
    ((tabK j != y.k) = false ∧ (y.a == t) = false ∧ (y.b == t) = true ∧ stU t y j u = bits .or .i64 u (tabB j)) ∨
    ((tabK j != y.k) = false ∧ (y.a == t) = false ∧ (y.b == t) = false ∧ stU t y j u = u) := by
  unfold stU bor
  by_cases h1 : tabK j = y.k
  · by_cases h2 : y.a = t
    · by_cases h3 : y.b = t
      · simp [h1, h2, h3]
      · simp [h1, h2, h3]
    · by_cases h3 : y.b = t
      · simp [h1, h2, h3]
      · simp [h1, h2, h3]
  · simp [h1]
theorem size69 : (Tryd.prog.info? 69).map (·.size) = some 3 := by kernel_rfl
theorem idx_tab (j : Nat) (hj : j < 5) (w : World) : (Instr.index 70 (.agg tabC) (.int .i64 j)).run Tryd.prog w = .ok (.agg (tabR j)) w := by
  have hz : (sizeOf 69).run Tryd.prog w = .ok 3 w := by
    cases hq : Tryd.prog.info? 69 with
    | none => have := size69; rw [hq] at this; cases this
    | some i => have h1 := size69; rw [hq] at h1; simp at h1; simp [sizeOf, typeInfo, hq, h1]
  rcases (by omega : j = 0 ∨ j = 1 ∨ j = 2 ∨ j = 3 ∨ j = 4) with rfl | rfl | rfl | rfl | rfl
  all_goals
    simp [Instr.index, go_sem, hz]
    rfl
attribute [local irreducible] Calls uAll bor band stU
set_option maxRecDepth 100000 in
set_option maxHeartbeats 8000000 in
theorem uses_c (s : ByteArray) (vt vr vq : Value) (tl : List TyP) (l : List RuP) (t : Int) (w : World) (hT : RdE eT w vt tl) (hv : RdE eR w vr l) (htab : TabAt w) :
    Calls Tryd.prog 26 #[.agg #[.string s, vt, vr, vq], .int .i64 t] w fun e w' => e = .returned (.int .i64 (usesP tl l t)) ∧ Below w.heap.size w w' := by
  have hlen := hv.len
  have hlenT := hT.len
  unfold maxLen at hlen hlenT
  obtain ⟨W0, hW0⟩ : ∃ W0, W0 = w.alloc (.cells #[.string s, vt, vr, vq] 26) := ⟨_, rfl⟩
  have HV : Hid (RdE eR W0 vr l) := Lib.hid (by rw [hW0]; exact hv.alloc _)
  have HT : Hid (RdE eT W0 vt tl) := Lib.hid (by rw [hW0]; exact hT.alloc _)
  have HTAB : Hid (TabAt W0) := Lib.hid (by rw [hW0]; exact htab.alloc _)
  have HBX : Hid (∀ w1, Below W0.heap.size W0 w1 → w1.cell? ⟨w.heap.size, 1, none⟩ = some vt ∧ w1.cell? ⟨w.heap.size, 2, none⟩ = some vr ∧ Below w.heap.size w w1) :=
    Lib.hid (fun w1 h => by rw [hW0] at h; exact ⟨boxed1 _ _ _ h 1, boxed1 _ _ _ h 2, below1 _ _ h⟩)
  have HX := Lib.hid (exists_c s vt vr vq tl t W0 HT.out)
  obtain ⟨a, cap, rfl, _, _, _⟩ := hv
  obtain ⟨aT, capT, rfl, _, _, _⟩ := hT
  have HW := Lib.hid hW0
  rw [hW0] at HX
  clear htab
  rcases ex_parts t tl.length with ⟨h0, h1⟩ | ⟨h0, h1, h2⟩ | ⟨h0, i, rfl, h2⟩
  · have e : usesP tl l t = 0 := by unfold usesP; rw [h0]; rfl
    rw [e]
    rw [h0] at HX
    clear hW0
    go_enter Tryd.func26, Tryd.ntmps26
    go_wp2_with (go_at_call 36; refine HX.out.mono ?_; rintro e w1 ⟨rfl, hb⟩; rw [← HW.out] at hb)
    go_ret
    exact ⟨rfl, (HBX.out _ hb).2.2⟩
  · have e : usesP tl l t = 0 := by unfold usesP; rw [h0]; rfl
    rw [e]
    rw [h0] at HX
    clear hW0
    go_enter Tryd.func26, Tryd.ntmps26
    go_wp2_with (go_at_call 36; refine HX.out.mono ?_; rintro e w1 ⟨rfl, hb⟩; rw [← HW.out] at hb)
    go_ret
    exact ⟨rfl, (HBX.out _ hb).2.2⟩
  · have e : usesP tl l i = uAll i l (band (nth tl i).fl 60) := by unfold usesP; rw [h0]; rfl
    rw [e]
    rw [h0] at HX
    have j1 : (i : Int) < tl.length := by omega
    have HI := Lib.hid h2
    generalize hu0 : band (nth tl i).fl 60 = u0
    have HU0 : Hid (bits .and .i64 (nth tl i).fl 60 = u0) := Lib.hid (by rw [← hu0]; unfold band; rfl)
    clear hW0 h0 e h2 hu0
    go_enter Tryd.func26, Tryd.ntmps26
    go_wp2_with (go_at_call 36; refine HX.out.mono ?_; rintro e w1 ⟨rfl, hb⟩; rw [← HW.out] at hb; obtain ⟨t1, t2, _⟩ := HBX.out w1 hb; obtain ⟨b, off, rfl, hbl, hrow⟩ := ((HT.out.on hb).cellsT) (by have := HI.out; omega); obtain ⟨d0, d1, d2⟩ := hrow i HI.out; clear hrow)
    rw [HU0.out]
    go_loopw [24, 5] (fun o u wr => ∃ k : Nat, k ≤ l.length ∧ o = .int .i64 k ∧ u = .int .i64 (uAll i (l.take k) u0) ∧ Below W0.heap.size W0 wr) (fun o _ _ => l.length - (intOf o).toNat)
    case atStart => exact ⟨0, Nat.zero_le _, rfl, by unfold uAll; rfl, hb⟩
    case round =>
      obtain ⟨k, hk, rfl, rfl, hbr⟩ := hrel
      clear d0 d1 d2 hbl t1 t2
      obtain ⟨t1, t2, hbe⟩ := HBX.out wr hbr
      by_cases hlt : k < l.length
      · obtain ⟨b2, off2, rfl, hbl2, hrow2⟩ := ((HV.out.on hbr).cellsR) (by omega)
        obtain ⟨d0, d1, d2⟩ := hrow2 k hlt
        have i1 : (k : Int) < l.length := by omega
        have HK := Lib.hid hlt
        have HB := Lib.hid hbr
        have HS := Lib.hid (uAll_snoc i l u0 k hlt)
        clear hrow2 hbr hbe
        generalize nth l k = y at d0 d1 d2 HS
        generalize uAll i (l.take k) u0 = u1 at HS
        go_wp2_with (first
          | (refine st_T (T := 55) (rc y) info_r rfl (.tmp 7) (.tmp 27) rfl wr.heap.size (rc ⟨0, 0, 0⟩) rfl rfl (one_rc _) rfl (heap_alloc_new wr _) ?_; intro w2 hg2 hb2; have HG2 := Lib.hid hg2; have HB2 := Lib.hid (((Below.refl wr.heap.size wr).alloc (Nat.le_refl _) _).trans (hb2 wr.heap.size (Nat.le_refl _))); have HTB := Lib.hid ((HTAB.out.on HB.out).on HB2.out); clear hg2 hb2)
          | (obtain ⟨tt, htt⟩ := HTB.out; refine wpList_load_row rfl 70 (.global 0) rfl 0 rfl tt tabC (0, 0) _ htt Tryd.underlying70 rfl info_tab ?_; clear htt))
        have HR : Hid (∀ w3, Below w2.heap.size w2 w3 → w3.cell? ⟨wr.heap.size, 0, none⟩ = some (.int .i64 y.k) ∧ w3.cell? ⟨wr.heap.size, 1, none⟩ = some (.int .i64 y.a) ∧ w3.cell? ⟨wr.heap.size, 2, none⟩ = some (.int .i64 y.b) ∧ Below W0.heap.size W0 w3) := Lib.hid (fun w3 h => by
          have hlt2 : wr.heap.size < w2.heap.size := (Array.getElem?_eq_some_iff.1 HG2.out).1
          have hg3 : w3.heap[wr.heap.size]? = some (.cells (rc y) 55 (0, 0)) := by rw [h.block _ hlt2]; exact HG2.out
          exact ⟨cell_of_row _ _ _ _ _ _ hg3, cell_of_row _ _ _ _ _ _ hg3, cell_of_row _ _ _ _ _ _ hg3, (HB.out.trans (HB2.out.mono HB.out.size)).trans (h.mono (by have h1 := HB.out.size; have h2 := HB2.out.size; omega))⟩)
        clear d0 d1 d2 HB2 HTB HG2
        generalize wr.heap.size = R at HR ⊢
        go_loopw [29, 5] (fun o u wr => ∃ j : Nat, j ≤ 5 ∧ o = .int .i64 j ∧ u = .int .i64 (uIn i y j u1) ∧ Below w2.heap.size w2 wr) (fun o _ _ => 5 - (intOf o).toNat)
        case atStart => exact ⟨0, Nat.zero_le _, rfl, rfl, Below.refl _ _⟩
        case round =>
          obtain ⟨j, hj, rfl, rfl, hbi⟩ := hrel
          have HBI := Lib.hid hbi
          obtain ⟨r0, r1, r2, _⟩ := HR.out wr hbi
          clear hbi
          rcases (by omega : j = 0 ∨ j = 1 ∨ j = 2 ∨ j = 3 ∨ j = 4 ∨ j = 5) with rfl | rfl | rfl | rfl | rfl | rfl
          --ROUNDS
          · have HP := Lib.hid (stU_parts i y 0 (uIn i y 0 u1))
            rw [show tabK 0 = 1 from rfl, show tabA 0 = 128 from rfl, show tabB 0 = 512 from rfl] at HP
            generalize hu : uIn i y 0 u1 = u at HP ⊢
            have HU : Hid (uIn i y 1 u1 = stU i y 0 u) := Lib.hid (by rw [← hu]; rfl)
            clear hu
            have c1 : (0 : Int) < 5 := by decide
            have x1 : ∀ w, (Instr.index 70 (.agg tabC) (.int .i64 0)).run Tryd.prog w = .ok (.agg (tabR 0)) w := idx_tab 0 (by decide)
            have x2 : ∀ w, (Instr.index 70 (.agg tabC) (.int .i64 ((0 : Nat) : Int))).run Tryd.prog w = .ok (.agg (tabR 0)) w := idx_tab 0 (by decide)
            rcases HP.out with ⟨q1, q4⟩ | ⟨q1, q2, q3, q4⟩ | ⟨q1, q2, q3, q4⟩ | ⟨q1, q2, q3, q4⟩ | ⟨q1, q2, q3, q4⟩
            all_goals
              have HQ := Lib.hid q4
              clear q4
              go_wp2_with (refine st_T (T := 69) (tabR 0) info_tr rfl (.tmp 9) (.tmp 31) rfl wr.heap.size #[.int .i64 0, .int .i64 0, .int .i64 0] rfl rfl (one_3 _ _ _) rfl (heap_alloc_new wr _) ?_; intro w3 hg3 hb3; have e0 : w3.cell? ⟨wr.heap.size, 0, none⟩ = some (.int .i64 1) := cell_of_row _ _ _ _ _ _ hg3; have e1 : w3.cell? ⟨wr.heap.size, 1, none⟩ = some (.int .i64 128) := cell_of_row _ _ _ _ _ _ hg3; have e2 : w3.cell? ⟨wr.heap.size, 2, none⟩ = some (.int .i64 512) := cell_of_row _ _ _ _ _ _ hg3; have hb4 := ((Below.refl wr.heap.size wr).alloc (Nat.le_refl _) (.cells #[.int .i64 0, .int .i64 0, .int .i64 0] 69)).trans (hb3 wr.heap.size (Nat.le_refl _)); obtain ⟨r0, r1, r2, _⟩ := HR.out w3 (HBI.out.trans (hb4.mono HBI.out.size)); have HB4 := Lib.hid (HBI.out.trans (hb4.mono HBI.out.size)); clear hg3 hb3 hb4)
              go_roundw
              case rel => exact ⟨1, by decide, by go_num, by rw [HU.out, HQ.out], HB4.out⟩
              case measure => simp [intOf]
          · have HP := Lib.hid (stU_parts i y 1 (uIn i y 1 u1))
            rw [show tabK 1 = 2 from rfl, show tabA 1 = 128 from rfl, show tabB 1 = 0 from rfl] at HP
            generalize hu : uIn i y 1 u1 = u at HP ⊢
            have HU : Hid (uIn i y 2 u1 = stU i y 1 u) := Lib.hid (by rw [← hu]; rfl)
            clear hu
            have c1 : (1 : Int) < 5 := by decide
            have x1 : ∀ w, (Instr.index 70 (.agg tabC) (.int .i64 1)).run Tryd.prog w = .ok (.agg (tabR 1)) w := idx_tab 1 (by decide)
            have x2 : ∀ w, (Instr.index 70 (.agg tabC) (.int .i64 ((1 : Nat) : Int))).run Tryd.prog w = .ok (.agg (tabR 1)) w := idx_tab 1 (by decide)
            rcases HP.out with ⟨q1, q4⟩ | ⟨q1, q2, q3, q4⟩ | ⟨q1, q2, q3, q4⟩ | ⟨q1, q2, q3, q4⟩ | ⟨q1, q2, q3, q4⟩
            all_goals
              have HQ := Lib.hid q4
              clear q4
              go_wp2_with (refine st_T (T := 69) (tabR 1) info_tr rfl (.tmp 9) (.tmp 31) rfl wr.heap.size #[.int .i64 0, .int .i64 0, .int .i64 0] rfl rfl (one_3 _ _ _) rfl (heap_alloc_new wr _) ?_; intro w3 hg3 hb3; have e0 : w3.cell? ⟨wr.heap.size, 0, none⟩ = some (.int .i64 2) := cell_of_row _ _ _ _ _ _ hg3; have e1 : w3.cell? ⟨wr.heap.size, 1, none⟩ = some (.int .i64 128) := cell_of_row _ _ _ _ _ _ hg3; have e2 : w3.cell? ⟨wr.heap.size, 2, none⟩ = some (.int .i64 0) := cell_of_row _ _ _ _ _ _ hg3; have hb4 := ((Below.refl wr.heap.size wr).alloc (Nat.le_refl _) (.cells #[.int .i64 0, .int .i64 0, .int .i64 0] 69)).trans (hb3 wr.heap.size (Nat.le_refl _)); obtain ⟨r0, r1, r2, _⟩ := HR.out w3 (HBI.out.trans (hb4.mono HBI.out.size)); have HB4 := Lib.hid (HBI.out.trans (hb4.mono HBI.out.size)); clear hg3 hb3 hb4)
              go_roundw
              case rel => exact ⟨2, by decide, by go_num, by rw [HU.out, HQ.out], HB4.out⟩
              case measure => simp [intOf]
          · have HP := Lib.hid (stU_parts i y 2 (uIn i y 2 u1))
            rw [show tabK 2 = 3 from rfl, show tabA 2 = 128 from rfl, show tabB 2 = 512 from rfl] at HP
            generalize hu : uIn i y 2 u1 = u at HP ⊢
            have HU : Hid (uIn i y 3 u1 = stU i y 2 u) := Lib.hid (by rw [← hu]; rfl)
            clear hu
            have c1 : (2 : Int) < 5 := by decide
            have x1 : ∀ w, (Instr.index 70 (.agg tabC) (.int .i64 2)).run Tryd.prog w = .ok (.agg (tabR 2)) w := idx_tab 2 (by decide)
            have x2 : ∀ w, (Instr.index 70 (.agg tabC) (.int .i64 ((2 : Nat) : Int))).run Tryd.prog w = .ok (.agg (tabR 2)) w := idx_tab 2 (by decide)
            rcases HP.out with ⟨q1, q4⟩ | ⟨q1, q2, q3, q4⟩ | ⟨q1, q2, q3, q4⟩ | ⟨q1, q2, q3, q4⟩ | ⟨q1, q2, q3, q4⟩
            all_goals
              have HQ := Lib.hid q4
              clear q4
              go_wp2_with (refine st_T (T := 69) (tabR 2) info_tr rfl (.tmp 9) (.tmp 31) rfl wr.heap.size #[.int .i64 0, .int .i64 0, .int .i64 0] rfl rfl (one_3 _ _ _) rfl (heap_alloc_new wr _) ?_; intro w3 hg3 hb3; have e0 : w3.cell? ⟨wr.heap.size, 0, none⟩ = some (.int .i64 3) := cell_of_row _ _ _ _ _ _ hg3; have e1 : w3.cell? ⟨wr.heap.size, 1, none⟩ = some (.int .i64 128) := cell_of_row _ _ _ _ _ _ hg3; have e2 : w3.cell? ⟨wr.heap.size, 2, none⟩ = some (.int .i64 512) := cell_of_row _ _ _ _ _ _ hg3; have hb4 := ((Below.refl wr.heap.size wr).alloc (Nat.le_refl _) (.cells #[.int .i64 0, .int .i64 0, .int .i64 0] 69)).trans (hb3 wr.heap.size (Nat.le_refl _)); obtain ⟨r0, r1, r2, _⟩ := HR.out w3 (HBI.out.trans (hb4.mono HBI.out.size)); have HB4 := Lib.hid (HBI.out.trans (hb4.mono HBI.out.size)); clear hg3 hb3 hb4)
              go_roundw
              case rel => exact ⟨3, by decide, by go_num, by rw [HU.out, HQ.out], HB4.out⟩
              case measure => simp [intOf]
          · have HP := Lib.hid (stU_parts i y 3 (uIn i y 3 u1))
            rw [show tabK 3 = 4 from rfl, show tabA 3 = 128 from rfl, show tabB 3 = 0 from rfl] at HP
            generalize hu : uIn i y 3 u1 = u at HP ⊢
            have HU : Hid (uIn i y 4 u1 = stU i y 3 u) := Lib.hid (by rw [← hu]; rfl)
            clear hu
            have c1 : (3 : Int) < 5 := by decide
            have x1 : ∀ w, (Instr.index 70 (.agg tabC) (.int .i64 3)).run Tryd.prog w = .ok (.agg (tabR 3)) w := idx_tab 3 (by decide)
            have x2 : ∀ w, (Instr.index 70 (.agg tabC) (.int .i64 ((3 : Nat) : Int))).run Tryd.prog w = .ok (.agg (tabR 3)) w := idx_tab 3 (by decide)
            rcases HP.out with ⟨q1, q4⟩ | ⟨q1, q2, q3, q4⟩ | ⟨q1, q2, q3, q4⟩ | ⟨q1, q2, q3, q4⟩ | ⟨q1, q2, q3, q4⟩
            all_goals
              have HQ := Lib.hid q4
              clear q4
              go_wp2_with (refine st_T (T := 69) (tabR 3) info_tr rfl (.tmp 9) (.tmp 31) rfl wr.heap.size #[.int .i64 0, .int .i64 0, .int .i64 0] rfl rfl (one_3 _ _ _) rfl (heap_alloc_new wr _) ?_; intro w3 hg3 hb3; have e0 : w3.cell? ⟨wr.heap.size, 0, none⟩ = some (.int .i64 4) := cell_of_row _ _ _ _ _ _ hg3; have e1 : w3.cell? ⟨wr.heap.size, 1, none⟩ = some (.int .i64 128) := cell_of_row _ _ _ _ _ _ hg3; have e2 : w3.cell? ⟨wr.heap.size, 2, none⟩ = some (.int .i64 0) := cell_of_row _ _ _ _ _ _ hg3; have hb4 := ((Below.refl wr.heap.size wr).alloc (Nat.le_refl _) (.cells #[.int .i64 0, .int .i64 0, .int .i64 0] 69)).trans (hb3 wr.heap.size (Nat.le_refl _)); obtain ⟨r0, r1, r2, _⟩ := HR.out w3 (HBI.out.trans (hb4.mono HBI.out.size)); have HB4 := Lib.hid (HBI.out.trans (hb4.mono HBI.out.size)); clear hg3 hb3 hb4)
              go_roundw
              case rel => exact ⟨4, by decide, by go_num, by rw [HU.out, HQ.out], HB4.out⟩
              case measure => simp [intOf]
          · have HP := Lib.hid (stU_parts i y 4 (uIn i y 4 u1))
            rw [show tabK 4 = 5 from rfl, show tabA 4 = 256 from rfl, show tabB 4 = 0 from rfl] at HP
            generalize hu : uIn i y 4 u1 = u at HP ⊢
            have HU : Hid (uIn i y 5 u1 = stU i y 4 u) := Lib.hid (by rw [← hu]; rfl)
            clear hu
            have c1 : (4 : Int) < 5 := by decide
            have x1 : ∀ w, (Instr.index 70 (.agg tabC) (.int .i64 4)).run Tryd.prog w = .ok (.agg (tabR 4)) w := idx_tab 4 (by decide)
            have x2 : ∀ w, (Instr.index 70 (.agg tabC) (.int .i64 ((4 : Nat) : Int))).run Tryd.prog w = .ok (.agg (tabR 4)) w := idx_tab 4 (by decide)
            rcases HP.out with ⟨q1, q4⟩ | ⟨q1, q2, q3, q4⟩ | ⟨q1, q2, q3, q4⟩ | ⟨q1, q2, q3, q4⟩ | ⟨q1, q2, q3, q4⟩
            all_goals
              have HQ := Lib.hid q4
              clear q4
              go_wp2_with (refine st_T (T := 69) (tabR 4) info_tr rfl (.tmp 9) (.tmp 31) rfl wr.heap.size #[.int .i64 0, .int .i64 0, .int .i64 0] rfl rfl (one_3 _ _ _) rfl (heap_alloc_new wr _) ?_; intro w3 hg3 hb3; have e0 : w3.cell? ⟨wr.heap.size, 0, none⟩ = some (.int .i64 5) := cell_of_row _ _ _ _ _ _ hg3; have e1 : w3.cell? ⟨wr.heap.size, 1, none⟩ = some (.int .i64 256) := cell_of_row _ _ _ _ _ _ hg3; have e2 : w3.cell? ⟨wr.heap.size, 2, none⟩ = some (.int .i64 0) := cell_of_row _ _ _ _ _ _ hg3; have hb4 := ((Below.refl wr.heap.size wr).alloc (Nat.le_refl _) (.cells #[.int .i64 0, .int .i64 0, .int .i64 0] 69)).trans (hb3 wr.heap.size (Nat.le_refl _)); obtain ⟨r0, r1, r2, _⟩ := HR.out w3 (HBI.out.trans (hb4.mono HBI.out.size)); have HB4 := Lib.hid (HBI.out.trans (hb4.mono HBI.out.size)); clear hg3 hb3 hb4)
              go_roundw
              case rel => exact ⟨5, by decide, by go_num, by rw [HU.out, HQ.out], HB4.out⟩
              case measure => simp [intOf]
          --ENDROUNDS
          · go_wp2
            go_roundw
            case rel => exact ⟨k + 1, HK.out, by go_num, by rw [HS.out], (HR.out wr HBI.out).2.2.2⟩
            case measure => have := HK.out; simp [intOf]; omega
      · have i1 : (l.length : Int) ≤ k := by omega
        have hr : uAll i (l.take k) u0 = uAll i l u0 := by rw [List.take_of_length_le (by omega)]
        have HR := Lib.hid hr
        have HBE := Lib.hid hbe
        clear hr hbe
        go_wp2
        go_ret
        exact ⟨by rw [HR.out]; rfl, HBE.out⟩
end Go.Proofs.YtamdlkflcbefdaaDoor
