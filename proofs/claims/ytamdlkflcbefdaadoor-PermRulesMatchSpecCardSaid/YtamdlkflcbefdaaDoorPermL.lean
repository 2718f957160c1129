/- Uses of the specification. -/
import Derived.Test.YtamdlkflcbefdaaDoorPermU
import Derived.Deep.CutRange
namespace Go.Proofs.YtamdlkflcbefdaaDoor
open Go.RowKit Go.Shelf
set_option linter.unusedSimpArgs false
set_option linter.unusedVariables false
/-- one rule, as the specification says it -/
def stR (t : Int) (y : RuP) (u : Int) : Int :=
  if y.b = t ∧ (y.k = 1 ∨ y.k = 3) then bor (if y.a = t ∧ y.k = 5 then bor (if y.a = t ∧ 1 ≤ y.k ∧ y.k ≤ 4 then bor u 128 else u) 256 else (if y.a = t ∧ 1 ≤ y.k ∧ y.k ≤ 4 then bor u 128 else u)) 512
  else (if y.a = t ∧ y.k = 5 then bor (if y.a = t ∧ 1 ≤ y.k ∧ y.k ≤ 4 then bor u 128 else u) 256 else (if y.a = t ∧ 1 ≤ y.k ∧ y.k ≤ 4 then bor u 128 else u))
theorem uIn_stR (t : Int) (y : RuP) (u : Int) (hu : I64 u) : uIn t y 5 u = stR t y u := by
  have z1 : bor u 0 = u := bor_zero u hu
  have z2 : ∀ c, bor (bor u c) 0 = bor u c := fun c => bor_zero _ (bor_I _ _)
  obtain ⟨k, a, b⟩ := y
  unfold stR
  simp only [uIn, stU, tabK, tabA, tabB]
  by_cases ha : a = t
  · by_cases hb : b = t
    · rcases (by omega : k ≤ 0 ∨ k = 1 ∨ k = 2 ∨ k = 3 ∨ k = 4 ∨ k = 5 ∨ 6 ≤ k) with h | rfl | rfl | rfl | rfl | rfl | h
      · rw [if_neg (by omega), if_neg (by omega), if_neg (by omega), if_neg (by omega), if_neg (by omega), if_neg (by omega), if_neg (by omega), if_neg (by omega)]
      · simp [ha, hb, z1, z2]
      · simp [ha, hb, z1, z2]
      · simp [ha, hb, z1, z2]
      · simp [ha, hb, z1, z2]
      · simp [ha, hb, z1, z2]
      · rw [if_neg (by omega), if_neg (by omega), if_neg (by omega), if_neg (by omega), if_neg (by omega), if_neg (by omega), if_neg (by omega), if_neg (by omega)]
    · rcases (by omega : k ≤ 0 ∨ k = 1 ∨ k = 2 ∨ k = 3 ∨ k = 4 ∨ k = 5 ∨ 6 ≤ k) with h | rfl | rfl | rfl | rfl | rfl | h
      · rw [if_neg (by omega), if_neg (by omega), if_neg (by omega), if_neg (by omega), if_neg (by omega), if_neg (by omega), if_neg (by omega), if_neg (by omega)]
      · simp [ha, hb, z1, z2]
      · simp [ha, hb, z1, z2]
      · simp [ha, hb, z1, z2]
      · simp [ha, hb, z1, z2]
      · simp [ha, hb, z1, z2]
      · rw [if_neg (by omega), if_neg (by omega), if_neg (by omega), if_neg (by omega), if_neg (by omega), if_neg (by omega), if_neg (by omega), if_neg (by omega)]
  · by_cases hb : b = t
    · rcases (by omega : k ≤ 0 ∨ k = 1 ∨ k = 2 ∨ k = 3 ∨ k = 4 ∨ k = 5 ∨ 6 ≤ k) with h | rfl | rfl | rfl | rfl | rfl | h
      · rw [if_neg (by omega), if_neg (by omega), if_neg (by omega), if_neg (by omega), if_neg (by omega), if_neg (by omega), if_neg (by omega), if_neg (by omega)]
      · simp [ha, hb, z1, z2]
      · simp [ha, hb, z1, z2]
      · simp [ha, hb, z1, z2]
      · simp [ha, hb, z1, z2]
      · simp [ha, hb, z1, z2]
      · rw [if_neg (by omega), if_neg (by omega), if_neg (by omega), if_neg (by omega), if_neg (by omega), if_neg (by omega), if_neg (by omega), if_neg (by omega)]
    · simp [ha, hb]
theorem stU_I (t : Int) (y : RuP) (j : Nat) (u : Int) (h : I64 u) : I64 (stU t y j u) := by
  unfold stU
  split
  · split
    · exact bor_I _ _
    · split
      · exact bor_I _ _
      · exact h
  · exact h
theorem uIn_I (t : Int) (y : RuP) (j : Nat) (u : Int) (h : I64 u) : I64 (uIn t y j u) := by
  induction j with
  | zero => exact h
  | succ j ih => exact stU_I _ _ _ _ ih
theorem uAll_I (t : Int) (l : List RuP) (u : Int) (h : I64 u) : I64 (uAll t l u) := by
  unfold uAll
  induction l generalizing u with
  | nil => exact h
  | cons y l ih => exact ih _ (uIn_I _ _ _ _ h)
/-- the specification's three tests, each by itself -/
theorem A_parts (a t k : Int) : ((a == t) = false ∧ decide (a = t ∧ 1 ≤ k ∧ k ≤ 4) = false) ∨ ((a == t) = true ∧ (1 ≤ k) = False ∧ decide (a = t ∧ 1 ≤ k ∧ k ≤ 4) = false) ∨
    ((a == t) = true ∧ 1 ≤ k ∧ (k ≤ 4) = False ∧ decide (a = t ∧ 1 ≤ k ∧ k ≤ 4) = false) ∨ ((a == t) = true ∧ 1 ≤ k ∧ k ≤ 4 ∧ decide (a = t ∧ 1 ≤ k ∧ k ≤ 4) = true) := by
  by_cases h : a = t
  · by_cases h1 : 1 ≤ k
    · by_cases h2 : k ≤ 4
      · simp [h, h1, h2]
      · simp [h, h1, h2]
    · simp [h, h1]
  · simp [h]
theorem B_parts (a t k : Int) : ((a == t) = false ∧ decide (a = t ∧ k = 5) = false) ∨ ((a == t) = true ∧ (k == 5) = false ∧ decide (a = t ∧ k = 5) = false) ∨ ((a == t) = true ∧ (k == 5) = true ∧ decide (a = t ∧ k = 5) = true) := by
  by_cases h : a = t
  · by_cases h1 : k = 5
    · simp [h, h1]
    · simp [h, h1]
  · simp [h]
theorem C_parts (b t k : Int) : ((b == t) = false ∧ decide (b = t ∧ (k = 1 ∨ k = 3)) = false) ∨ ((b == t) = true ∧ (k == 1) = true ∧ decide (b = t ∧ (k = 1 ∨ k = 3)) = true) ∨
    ((b == t) = true ∧ (k == 1) = false ∧ (k == 3) = true ∧ decide (b = t ∧ (k = 1 ∨ k = 3)) = true) ∨ ((b == t) = true ∧ (k == 1) = false ∧ (k == 3) = false ∧ decide (b = t ∧ (k = 1 ∨ k = 3)) = false) := by
  by_cases h : b = t
  · by_cases h1 : k = 1
    · simp [h, h1]
    · by_cases h2 : k = 3
      · simp [h, h1, h2]
      · simp [h, h1, h2]
  · simp [h]
/-- u, or with the bits c -/
def orIf (p : Bool) (u c : Int) : Int := if p = true then bits .or .i64 u c else u
theorem stR_or (t k a b u : Int) : stR t ⟨k, a, b⟩ u = orIf (decide (b = t ∧ (k = 1 ∨ k = 3))) (orIf (decide (a = t ∧ k = 5)) (orIf (decide (a = t ∧ 1 ≤ k ∧ k ≤ 4)) u 128) 256) 512 := by
  unfold stR orIf bor
  simp only [decide_eq_true_eq]
attribute [local irreducible] Calls uAll band stU uIn
set_option maxRecDepth 100000 in
set_option maxHeartbeats 8000000 in
theorem uses_r (s : ByteArray) (vt vr vq : Value) (tl : List TyP) (l : List RuP) (t : Int) (w : World) (hT : RdE eT w vt tl) (hv : RdE eR w vr l) :
    Calls Tryd.prog 27 #[.agg #[.string s, vt, vr, vq], .int .i64 t] w fun e w' => e = .returned (.int .i64 (usesP tl l t)) ∧ Below w.heap.size w w' := by
  have hlen := hv.len
  have hlenT := hT.len
  unfold maxLen at hlen hlenT
  obtain ⟨W0, hW0⟩ : ∃ W0, W0 = w.alloc (.cells #[.string s, vt, vr, vq] 26) := ⟨_, rfl⟩
  have HV : Hid (RdE eR W0 vr l) := Lib.hid (by rw [hW0]; exact hv.alloc _)
  have HT : Hid (RdE eT W0 vt tl) := Lib.hid (by rw [hW0]; exact hT.alloc _)
  have HBX : Hid (∀ w1, Below W0.heap.size W0 w1 → w1.cell? ⟨w.heap.size, 1, none⟩ = some vt ∧ w1.cell? ⟨w.heap.size, 2, none⟩ = some vr ∧ Below w.heap.size w w1) :=
    Lib.hid (fun w1 h => by rw [hW0] at h; exact ⟨boxed1 _ _ _ h 1, boxed1 _ _ _ h 2, below1 _ _ h⟩)
  have HX := Lib.hid (is_r s vt vr vq tl t W0 HT.out)
  obtain ⟨a, cap, rfl, _, _, _⟩ := hv
  obtain ⟨aT, capT, rfl, _, _, _⟩ := hT
  have HW := Lib.hid hW0
  rw [hW0] at HX
  rcases ex_parts t tl.length with ⟨h0, h1⟩ | ⟨h0, h1, h2⟩ | ⟨h0, i, rfl, h2⟩
  · have e : usesP tl l t = 0 := by unfold usesP; rw [h0]; rfl
    rw [e]
    rw [h0] at HX
    clear hW0
    go_enter Tryd.func27, Tryd.ntmps27
    go_wp2_with (go_at_call 37; refine HX.out.mono ?_; rintro e w1 ⟨rfl, hb⟩; rw [← HW.out] at hb)
    go_ret
    exact ⟨rfl, (HBX.out _ hb).2.2⟩
  · have e : usesP tl l t = 0 := by unfold usesP; rw [h0]; rfl
    rw [e]
    rw [h0] at HX
    clear hW0
    go_enter Tryd.func27, Tryd.ntmps27
    go_wp2_with (go_at_call 37; refine HX.out.mono ?_; rintro e w1 ⟨rfl, hb⟩; rw [← HW.out] at hb)
    go_ret
    exact ⟨rfl, (HBX.out _ hb).2.2⟩
  · have e : usesP tl l i = uAll i l (band (nth tl i).fl 60) := by unfold usesP; rw [h0]; rfl
    rw [e]
    rw [h0] at HX
    have j1 : (i : Int) < tl.length := by omega
    have HI := Lib.hid h2
    have HU0I : Hid (I64 (band (nth tl i).fl 60)) := Lib.hid (band_I _ _)
    generalize hu0 : band (nth tl i).fl 60 = u0 at HU0I ⊢
    have HU0 : Hid (bits .and .i64 (nth tl i).fl 60 = u0) := Lib.hid (by rw [← hu0]; unfold band; rfl)
    clear hW0 h0 e h2 hu0
    go_enter Tryd.func27, Tryd.ntmps27
    go_wp2_with (go_at_call 37; refine HX.out.mono ?_; rintro e w1 ⟨rfl, hb⟩; rw [← HW.out] at hb; obtain ⟨t1, t2, _⟩ := HBX.out w1 hb; obtain ⟨b, off, rfl, hbl, hrow⟩ := ((HT.out.on hb).cellsT) (by have := HI.out; omega); obtain ⟨d0, d1, d2⟩ := hrow i HI.out; clear hrow)
    rw [HU0.out]
    go_loopw [6, 5, 66] (fun o u g wr => ∃ k : Nat, k ≤ l.length ∧ o = .int .i64 k ∧ u = .int .i64 (uAll i (l.take k) u0) ∧ Hid (g = undef ∨ g = .bool true ∨ g = .bool false) ∧ Below W0.heap.size W0 wr) (fun o _ _ _ => l.length - (intOf o).toNat)
    case atStart => exact ⟨0, Nat.zero_le _, rfl, by unfold uAll; rfl, Lib.hid (.inl rfl), hb⟩
    case round =>
      obtain ⟨k, hk, rfl, rfl, hg66, hbr⟩ := hrel
      clear d0 d1 d2 hbl t1 t2
      obtain ⟨t1, t2, hbe⟩ := HBX.out wr hbr
      by_cases hlt : k < l.length
      · obtain ⟨b2, off2, rfl, hbl2, hrow2⟩ := ((HV.out.on hbr).cellsR) (by omega)
        obtain ⟨d0, d1, d2⟩ := hrow2 k hlt
        have i1 : (k : Int) < l.length := by omega
        have HK := Lib.hid hlt
        have HB := Lib.hid hbr
        have HS := Lib.hid ((uAll_snoc i l u0 k hlt).trans (uIn_stR _ _ _ (uAll_I _ _ _ HU0I.out)))
        clear hrow2 hbr hbe
        generalize nth l k = y at d0 d1 d2 HS
        generalize uAll i (l.take k) u0 = u1 at HS
        obtain ⟨yk, ya, yb⟩ := y
        have HYB := Lib.hid (fun w2 (hb2 : ∀ B, B ≤ wr.heap.size → Below B (wr.alloc (.cells #[.int .i64 0, .int .i64 0, .int .i64 0] 55)) w2) => HB.out.trans ((((Below.refl wr.heap.size wr).alloc (Nat.le_refl _) _).trans (hb2 wr.heap.size (Nat.le_refl _))).mono HB.out.size))
        rw [stR_or] at HS
        clear t1
        go_upto_region 8 with (refine st_T (T := 55) (rc ⟨yk, ya, yb⟩) info_r rfl (.tmp 7) (.tmp 30) rfl wr.heap.size (rc ⟨0, 0, 0⟩) rfl rfl (one_rc _) rfl (heap_alloc_new wr _) ?_; intro w2 hg2 hb2; have e0 : w2.cell? ⟨wr.heap.size, 0, none⟩ = some (.int .i64 yk) := cell_of_row _ _ 0 _ _ _ hg2; have e1 : w2.cell? ⟨wr.heap.size, 1, none⟩ = some (.int .i64 ya) := cell_of_row _ _ 1 _ _ _ hg2; have e2 : w2.cell? ⟨wr.heap.size, 2, none⟩ = some (.int .i64 yb) := cell_of_row _ _ 2 _ _ _ hg2; have HB2 := Lib.hid (HYB.out w2 hb2); clear hg2 hb2)
        try dsimp only [Act.put]
        have HA := Lib.hid (A_parts ya i yk)
        have HBP := Lib.hid (B_parts ya i yk)
        have HCP := Lib.hid (C_parts yb i yk)
        go_cut [5, 44, 66] from 19 to 73 (fun u t g wc => u = .int .i64 u1 ∧ t = .bool (decide (ya = (i : Int) ∧ 1 ≤ yk ∧ yk ≤ 4)) ∧ Hid (g = undef ∨ g = .bool true ∨ g = .bool false) ∧ wc = w2)
        case first =>
          rcases HA.out with ⟨q0, hd⟩ | ⟨q0, q1, hd⟩ | ⟨q0, q1, q2, hd⟩ | ⟨q0, q1, q2, hd⟩
          all_goals (go_wp2; go_meet)
          all_goals exact ⟨rfl, by rw [hd], hg66, rfl⟩
        case rest =>
          clear hg66
          obtain ⟨rfl, rfl, hg66, hw⟩ := hcut
          rw [hw]
          clear hw
          generalize decide (ya = (i : Int) ∧ 1 ≤ yk ∧ yk ≤ 4) = A at HS ⊢
          go_upto_if 44 with fail
          go_cut [5, 66] from 19 to 73 (fun u g wc => u = .int .i64 (orIf A u1 128) ∧ Hid (g = undef ∨ g = .bool true ∨ g = .bool false) ∧ wc = w2)
          case first =>
            cases A
            all_goals (go_wp2; go_meet)
            all_goals exact ⟨rfl, hg66, rfl⟩
          case rest =>
            clear hg66
            obtain ⟨rfl, hg66, hw⟩ := hcut
            rw [hw]
            clear hw
            generalize orIf A u1 128 = u2 at HS ⊢
            go_upto_region 10 with fail
            go_cut [5, 55, 66] from 19 to 73 (fun u t g wc => u = .int .i64 u2 ∧ t = .bool (decide (ya = (i : Int) ∧ yk = 5)) ∧ Hid (g = undef ∨ g = .bool true ∨ g = .bool false) ∧ wc = w2)
            case first =>
              rcases HBP.out with ⟨q0, hd⟩ | ⟨q0, q1, hd⟩ | ⟨q0, q1, hd⟩
              all_goals (go_wp2; go_meet)
              all_goals exact ⟨rfl, by rw [hd], hg66, rfl⟩
            case rest =>
              clear hg66
              obtain ⟨rfl, rfl, hg66, hw⟩ := hcut
              rw [hw]
              clear hw
              generalize decide (ya = (i : Int) ∧ yk = 5) = B at HS ⊢
              go_upto_if 55 with fail
              go_cut [5, 66] from 19 to 73 (fun u g wc => u = .int .i64 (orIf B u2 256) ∧ Hid (g = undef ∨ g = .bool true ∨ g = .bool false) ∧ wc = w2)
              case first =>
                cases B
                all_goals (go_wp2; go_meet)
                all_goals exact ⟨rfl, hg66, rfl⟩
              case rest =>
                clear hg66
                obtain ⟨rfl, hg66, hw⟩ := hcut
                rw [hw]
                clear hw
                generalize orIf B u2 256 = u3 at HS ⊢
                go_upto_region 12 with fail
                go_cut [5, 71, 66] from 19 to 73 (fun u t g wc => u = .int .i64 u3 ∧ t = .bool (decide (yb = (i : Int) ∧ (yk = 1 ∨ yk = 3))) ∧ Hid (g = undef ∨ g = .bool true ∨ g = .bool false) ∧ wc = w2)
                case first =>
                  rcases HCP.out with ⟨q0, hd⟩ | ⟨q0, q1, hd⟩ | ⟨q0, q1, q2, hd⟩ | ⟨q0, q1, q2, hd⟩
                  · rcases hg66.out with rfl | rfl | rfl
                    all_goals (go_wp2; go_meet)
                    all_goals exact ⟨rfl, by rw [hd], Lib.hid (by simp), rfl⟩
                  all_goals (go_wp2; go_meet)
                  all_goals exact ⟨rfl, by rw [hd], Lib.hid (by simp), rfl⟩
                case rest =>
                  clear hg66
                  obtain ⟨rfl, rfl, hg66, hw⟩ := hcut
                  rw [hw]
                  clear hw
                  generalize decide (yb = (i : Int) ∧ (yk = 1 ∨ yk = 3)) = C at HS ⊢
                  cases C
                  all_goals
                    go_wp2
                    go_roundw
                    case rel => exact ⟨k + 1, HK.out, by go_num, by rw [HS.out]; rfl, hg66, HB2.out⟩
                    case measure => have := HK.out; simp [intOf]; omega
      · have i1 : (l.length : Int) ≤ k := by omega
        have hr : uAll i (l.take k) u0 = uAll i l u0 := by rw [List.take_of_length_le (by omega)]
        have HR := Lib.hid hr
        have HBE := Lib.hid hbe
        clear hr hbe
        go_wp2
        go_ret
        exact ⟨by rw [HR.out]; rfl, HBE.out⟩
end Go.Proofs.YtamdlkflcbefdaaDoor
