/- Valid tables; small inputs. -/
import Derived.Test.YtjbndfnhollfnaaKeyH
namespace Go.Proofs.Ytjbndfnhollfnaa
open Go.RowKit Go.Shelf
set_option linter.unusedSimpArgs false
set_option linter.unusedVariables false
/-- the Id ahead of place i -/
def lastId (l : List K) (i : Nat) : Int := if i = 0 then 0 else (keyAt l (i - 1)).id
theorem lastId_zero (l : List K) : lastId l 0 = 0 := rfl
theorem lastId_succ (l : List K) (i : Nat) : lastId l (i + 1) = (keyAt l i).id := rfl
def okAt (nx : Int) (l : List K) (i : Nat) : Bool := validK (keyAt l i) && decide (lastId l i < (keyAt l i).id) && decide ((keyAt l i).id < nx) && decide ((keyAt l i).par < nx)
def validTab (nx : Int) (l : List K) : Bool := decide (l.length ≤ 4096) && win nx 1 2147483647 && (List.range l.length).all (okAt nx l)
theorem okAt_five (nx : Int) (l : List K) (i : Nat) : (okAt nx l i = false ∧ validK (keyAt l i) = false) ∨ (okAt nx l i = false ∧ validK (keyAt l i) = true ∧ (keyAt l i).id ≤ lastId l i) ∨
    (okAt nx l i = false ∧ validK (keyAt l i) = true ∧ ¬ (keyAt l i).id ≤ lastId l i ∧ nx ≤ (keyAt l i).id) ∨
    (okAt nx l i = false ∧ validK (keyAt l i) = true ∧ ¬ (keyAt l i).id ≤ lastId l i ∧ ¬ nx ≤ (keyAt l i).id ∧ nx ≤ (keyAt l i).par) ∨
    (okAt nx l i = true ∧ validK (keyAt l i) = true ∧ ¬ (keyAt l i).id ≤ lastId l i ∧ ¬ nx ≤ (keyAt l i).id ∧ ¬ nx ≤ (keyAt l i).par) := by
  unfold okAt
  by_cases h0 : validK (keyAt l i) = true
  · by_cases h1 : (keyAt l i).id ≤ lastId l i
    · exact .inr (.inl ⟨by rw [decide_eq_false (by omega : ¬ lastId l i < (keyAt l i).id)]; simp, h0, h1⟩)
    · by_cases h2 : nx ≤ (keyAt l i).id
      · exact .inr (.inr (.inl ⟨by rw [decide_eq_false (by omega : ¬ (keyAt l i).id < nx)]; simp, h0, h1, h2⟩))
      · by_cases h3 : nx ≤ (keyAt l i).par
        · exact .inr (.inr (.inr (.inl ⟨by rw [decide_eq_false (by omega : ¬ (keyAt l i).par < nx)]; simp, h0, h1, h2, h3⟩)))
        · exact .inr (.inr (.inr (.inr ⟨by rw [h0, decide_eq_true (by omega : lastId l i < (keyAt l i).id), decide_eq_true (by omega : (keyAt l i).id < nx), decide_eq_true (by omega : (keyAt l i).par < nx)]; rfl, h0, h1, h2, h3⟩)))
  · have h0' : validK (keyAt l i) = false := by simpa using h0
    exact .inl ⟨by rw [h0']; rfl, h0'⟩
theorem validTab_false (nx : Int) (l : List K) (i : Nat) (hi : i < l.length) (h : okAt nx l i = false) : validTab nx l = false := by
  have : (List.range l.length).all (okAt nx l) = false := by
    rw [List.all_eq_false]
    exact ⟨i, List.mem_range.2 hi, by rw [h]; decide⟩
  rw [validTab, this]; simp
theorem validTab_true (nx : Int) (l : List K) (h1 : l.length ≤ 4096) (h2 : win nx 1 2147483647 = true) (h : ∀ j, j < l.length → okAt nx l j = true) : validTab nx l = true := by
  have : (List.range l.length).all (okAt nx l) = true := List.all_eq_true.2 (fun i hi => h i (List.mem_range.1 hi))
  rw [validTab, this, h2, decide_eq_true h1]; rfl
theorem validTab_no1 (nx : Int) (l : List K) (h1 : ¬ l.length ≤ 4096) : validTab nx l = false := by rw [validTab, decide_eq_false h1]; rfl
theorem validTab_no2 (nx : Int) (l : List K) (h2 : win nx 1 2147483647 = false) : validTab nx l = false := by rw [validTab, h2]; simp
attribute [local irreducible] Calls alikeK twinId twinIs validTab okAt validK lastId win
set_option maxRecDepth 100000 in
set_option maxHeartbeats 4000000 in
theorem validTable_r (nx : Int) (v : Value) (l : List K) (w : World) (hv : RdK w v l) :
    Calls Try.prog 8 #[.agg #[.int .i64 nx, v]] w fun e w' => e = .returned (.bool (validTab nx l)) ∧ Below w.heap.size w w' := by
  have hlen := hv.len
  unfold maxLen at hlen
  obtain ⟨W0, hW0⟩ : ∃ W0, W0 = w.alloc (.cells #[.int .i64 nx, v] 24) := ⟨_, rfl⟩
  have hvw : RdK W0 v l := by rw [hW0]; exact hv.alloc _
  have hbx : ∀ w1, Below W0.heap.size W0 w1 → w1.cell? ⟨w.heap.size, 0, none⟩ = some (.int .i64 nx) ∧ w1.cell? ⟨w.heap.size, 1, none⟩ = some v := by
    intro w1 h
    rw [hW0] at h
    exact ⟨boxed1 _ _ _ h 0, boxed1 _ _ _ h 1⟩
  have hbe : ∀ w1, Below W0.heap.size W0 w1 → Below w.heap.size w w1 := by
    intro w1 h
    rw [hW0] at h
    exact below1 _ _ h
  have hsz : w.heap.size < W0.heap.size := by rw [hW0]; simp
  have HV := Lib.hid hvw
  have HBX := Lib.hid hbx
  have HBE := Lib.hid hbe
  have HW := Lib.hid hW0
  obtain ⟨a, cap, rfl, _, _, _⟩ := hv
  clear hW0 hvw hbx hbe
  by_cases hl1 : l.length ≤ 4096
  · have j1 : ¬ (4096 : Int) < l.length := by omega
    cases hw2 : win nx 1 2147483647 with
    | true =>
      have hwr := fun w => win_ref nx 1 2147483647 w
      rw [hw2] at hwr
      have HWR := Lib.hid hwr
      have HT0 := Lib.hid (fun i hi h => validTab_false nx l i hi h)
      have HT1 := Lib.hid (validTab_true nx l hl1 hw2)
      clear hwr hw2
      go_enter Try.func8, Try.ntmps8
      go_wp2_with (go_at_call 21; refine (HWR.out _).mono ?_; rintro e wf ⟨rfl, hwf⟩; rw [hwf]; clear hwf)
      go_loopw [3, 4] (fun la o wr => ∃ i : Nat, i ≤ l.length ∧ o = .int .i64 i ∧ la = .int .i64 (lastId l i) ∧ Hid (∀ j, j < i → okAt nx l j = true) ∧ Below W0.heap.size W0 wr) (fun _ o _ => l.length - (intOf o).toNat)
      case atStart => exact ⟨0, Nat.zero_le _, rfl, by rw [lastId_zero], Lib.hid (fun j hj => absurd hj (by omega)), by rw [← HW.out]; exact Below.refl _ _⟩
      case round =>
        obtain ⟨i, hi, rfl, rfl, hno, hb⟩ := hrel
        obtain ⟨t0, t1⟩ := HBX.out wr hb
        have hbs := hb.size
        have z0 : w.heap.size < wr.heap.size := by omega
        have z0' : w.heap.size ≠ wr.heap.size := by omega
        by_cases hlt : i < l.length
        · obtain ⟨bb, off, rfl, hbl, hrow⟩ := ((HV.out.on hb).cells) (by omega)
          obtain ⟨d0, d1, d2, d3, d4, d5, d6, d7, d8⟩ := hrow i hlt
          have i1 : (i : Int) < l.length := by omega
          have HK := Lib.hid hlt
          have HNO := hno
          have HB := Lib.hid hb
          have hval := valid_ref (keyAt l i) (wr.alloc (.cells (kc (keyAt l i)) 30))
          have hbx2 : ∀ w1, Below (wr.alloc (.cells (kc (keyAt l i)) 30)).heap.size (wr.alloc (.cells (kc (keyAt l i)) 30)) w1 →
              w1.cell? ⟨wr.heap.size, 0, none⟩ = some (.int .i64 (keyAt l i).id) ∧ w1.cell? ⟨wr.heap.size, 7, none⟩ = some (.int .i64 (keyAt l i).par) ∧ w1.cell? ⟨w.heap.size, 0, none⟩ = some (.int .i64 nx) ∧ Below W0.heap.size W0 w1 := by
            intro w1 h
            have h2 := HB.out.trans ((below1 _ _ h).mono hbs)
            exact ⟨boxed1 _ _ _ h 0, boxed1 _ _ _ h 7, (HBX.out _ h2).1, h2⟩
          unfold kv at hval
          unfold kc at hval hbx2
          have HLS := Lib.hid (lastId_succ l i)
          have HX2 := Lib.hid hbx2
          clear hrow hb hno hbx2
          rcases okAt_five nx l i with ⟨ho, h1⟩ | ⟨ho, h1, h2⟩ | ⟨ho, h1, h2, h3⟩ | ⟨ho, h1, h2, h3, h4⟩ | ⟨ho, h1, h2, h3, h4⟩
          case inr.inr.inr.inr =>
            rw [h1] at hval
            have HVAL := Lib.hid hval
            have HO := Lib.hid ho
            clear hval h1 ho
            go_wp2_with (go_at_call 22; refine HVAL.out.mono ?_; rintro e w1 ⟨rfl, hb'⟩; obtain ⟨e0, e7, n0, hbb⟩ := HX2.out _ hb'; clear hb')
            go_roundw
            case rel => exact ⟨i + 1, HK.out, by go_num, by rw [HLS.out], Lib.hid (fun j hj => by
              by_cases e : j = i
              · subst e; exact HO.out
              · exact HNO.out j (by omega)), hbb⟩
            case measure => have := HK.out; simp [intOf]; omega
          all_goals
            have HRES := Lib.hid (HT0.out i HK.out ho)
            rw [h1] at hval
            have HVAL := Lib.hid hval
            clear hval h1 ho
            go_wp2_with (go_at_call 22; refine HVAL.out.mono ?_; rintro e w1 ⟨rfl, hb'⟩; obtain ⟨e0, e7, n0, hbb⟩ := HX2.out _ hb'; clear hb')
            go_ret
            exact ⟨by rw [HRES.out]; rfl, HBE.out _ hbb⟩
        · have he : i = l.length := by omega
          have i1 : (l.length : Int) ≤ i := by omega
          have HRES := Lib.hid (HT1.out (fun j hj => hno.out j (by omega)))
          clear hno he
          go_wp2
          go_ret
          exact ⟨by rw [HRES.out]; rfl, HBE.out _ hb⟩
    | false =>
      have hwr := fun w => win_ref nx 1 2147483647 w
      rw [hw2] at hwr
      have HWR := Lib.hid hwr
      rw [validTab_no2 nx l hw2]
      clear hwr hw2
      go_enter Try.func8, Try.ntmps8
      go_wp2_with (go_at_call 21; refine (HWR.out _).mono ?_; rintro e wf ⟨rfl, hwf⟩; rw [hwf]; clear hwf)
      go_ret
      exact ⟨rfl, HBE.out _ (by rw [← HW.out]; exact Below.refl _ _)⟩
  · have j1 : (4096 : Int) < l.length := by omega
    rw [validTab_no1 nx l hl1]
    go_enter Try.func8, Try.ntmps8
    go_wp2
    go_ret
    exact ⟨rfl, HBE.out _ (by rw [← HW.out]; exact Below.refl _ _)⟩
end Go.Proofs.Ytjbndfnhollfnaa
