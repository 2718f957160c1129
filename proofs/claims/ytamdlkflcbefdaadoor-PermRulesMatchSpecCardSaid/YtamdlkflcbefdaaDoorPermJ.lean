/- Sources and Targets of the specification. -/
import Derived.Test.YtamdlkflcbefdaaDoorPermH
import Derived.Test.YtamdlkflcbefdaaDoorPermI
namespace Go.Proofs.YtamdlkflcbefdaaDoor
open Go.RowKit Go.Shelf
set_option linter.unusedSimpArgs false
set_option linter.unusedVariables false
theorem sourcesP_nil (l : List RuP) (k0 z : Int) : insAll (sourcesP (l.take 0) k0 z) = [] := rfl
theorem sourcesP_snoc (l : List RuP) (k0 z : Int) (k : Nat) (h : k < l.length) : sourcesP (l.take (k + 1)) k0 z = sourcesP (l.take k) k0 z ++ (if (((nth l k).k == k0) && ((nth l k).b == z)) = true then [(nth l k).a] else []) :=
  picked_snoc (fun x => x.a) (fun x => (x.k == k0) && (x.b == z)) l k h
theorem targetsP_nil (l : List RuP) (k0 z : Int) : insAll (targetsP (l.take 0) k0 z) = [] := rfl
theorem targetsP_snoc (l : List RuP) (k0 z : Int) (k : Nat) (h : k < l.length) : targetsP (l.take (k + 1)) k0 z = targetsP (l.take k) k0 z ++ (if (((nth l k).k == k0) && ((nth l k).a == z)) = true then [(nth l k).b] else []) :=
  picked_snoc (fun x => x.b) (fun x => (x.k == k0) && (x.a == z)) l k h
attribute [local irreducible] Calls sourcesP targetsP insAll
set_option maxHeartbeats 4000000 in
theorem sources_r (s : ByteArray) (vt vr vq : Value) (l : List RuP) (k0 z : Int) (w : World) (hv : RdE eR w vr l) (hsz : l.length ≤ 1000) :
    Calls Tryd.prog 21 #[.agg #[.string s, vt, vr, vq], .int .i64 k0, .int .i64 z] w fun e w' => ∃ v', e = .returned v' ∧ RdE eI w' v' (insAll (sourcesP l k0 z)) ∧ Below w.heap.size w w' := by
  have hlen := hv.len
  unfold maxLen at hlen
  obtain ⟨W0, hW0⟩ : ∃ W0, W0 = w.alloc (.cells #[.string s, vt, vr, vq] 26) := ⟨_, rfl⟩
  have HV : Hid (RdE eR W0 vr l) := Lib.hid (by rw [hW0]; exact hv.alloc _)
  have HBX : Hid (∀ w1, Below W0.heap.size W0 w1 → w1.cell? ⟨w.heap.size, 2, none⟩ = some vr ∧ Below w.heap.size w w1) :=
    Lib.hid (fun w1 h => by rw [hW0] at h; exact ⟨boxed1 _ _ _ h 2, below1 _ _ h⟩)
  have HSZ := Lib.hid hsz
  obtain ⟨a, cap, rfl, _, _, _⟩ := hv
  have HW := Lib.hid hW0
  clear hW0 hsz
  go_enter Tryd.func21, Tryd.ntmps21
  go_wp2
  go_loopw [8, 7] (fun i u wr => ∃ k : Nat, k ≤ l.length ∧ i = .int .i64 k ∧ Hid (RdE eI wr u (insAll (sourcesP (l.take k) k0 z))) ∧ Below W0.heap.size W0 wr) (fun o _ _ => l.length - (intOf o).toNat)
  case atStart => exact ⟨0, Nat.zero_le _, rfl, Lib.hid (by rw [sourcesP_nil]; exact RdE.nil _), by rw [HW.out]; exact Below.refl _ _⟩
  case round =>
    obtain ⟨k, hk, rfl, hrd, hb⟩ := hrel
    obtain ⟨t2, hbe⟩ := HBX.out wr hb
    have HBE := Lib.hid hbe
    by_cases hlt : k < l.length
    · obtain ⟨b, off, rfl, hbl, hrow⟩ := ((HV.out.on hb).cellsR) (by omega)
      obtain ⟨d0, d1, d2⟩ := hrow k hlt
      have i1 : (k : Int) < l.length := by omega
      have HK := Lib.hid hlt
      have HB := Lib.hid hb
      have HS := Lib.hid (sourcesP_snoc l k0 z k hlt)
      have HL : Hid ((insAll (sourcesP (l.take k) k0 z)).length ≤ 1000) := Lib.hid (by
        have h1 := (insAll_inc (sourcesP (l.take k) k0 z)).2.2
        have h2 := picked_len (fun x => x.a) (fun x => (x.k == k0) && (x.b == z)) (l.take k)
        have h3 := HSZ.out
        rw [List.length_take] at h2
        unfold sourcesP at h1 ⊢
        omega)
      clear hrow hb hbe
      generalize nth l k = y at d0 d1 d2 HS
      cases q1 : y.k == k0 with
      | true =>
        cases q2 : y.b == z with
        | true =>
          have e : (if ((y.k == k0) && (y.b == z)) = true then [y.a] else []) = [y.a] := by rw [q1, q2]; rfl
          rw [e] at HS
          have HS2 := Lib.hid ((congrArg insAll HS.out).trans (insAll_snoc _ _))
          have HC := Lib.hid (insert_r u7 (insAll (sourcesP (l.take k) k0 z)) y.a wr hrd.out HL.out)
          clear e
          go_wp2_with (go_at_call 40; refine HC.out.mono ?_; rintro e w1 ⟨v1, rfl, hr1, hb1⟩; have HR1 := Lib.hid hr1; have HB1 := Lib.hid hb1; clear hr1 hb1)
          go_roundw
          case rel => exact ⟨k + 1, HK.out, by go_num, Lib.hid (by rw [HS2.out]; exact HR1.out), HB.out.trans (HB1.out.mono HB.out.size)⟩
          case measure => have := HK.out; simp [intOf]; omega
        | false =>
          have e : (if ((y.k == k0) && (y.b == z)) = true then [y.a] else []) = [] := by rw [q1, q2]; rfl
          rw [e, List.append_nil] at HS
          clear e
          go_wp2
          go_roundw
          case rel => exact ⟨k + 1, HK.out, by go_num, Lib.hid (by rw [HS.out]; exact hrd.out), HB.out⟩
          case measure => have := HK.out; simp [intOf]; omega
      | false =>
        have e : (if ((y.k == k0) && (y.b == z)) = true then [y.a] else []) = [] := by rw [q1]; rfl
        rw [e, List.append_nil] at HS
        clear e
        go_wp2
        go_roundw
        case rel => exact ⟨k + 1, HK.out, by go_num, Lib.hid (by rw [HS.out]; exact hrd.out), HB.out⟩
        case measure => have := HK.out; simp [intOf]; omega
    · have i1 : (l.length : Int) ≤ k := by omega
      have hr : RdE eI wr u7 (insAll (sourcesP l k0 z)) := by have h := hrd.out; rw [List.take_of_length_le (by omega)] at h; exact h
      have HR := Lib.hid hr
      clear hr hrd
      go_wp2
      go_ret
      exact ⟨_, rfl, HR.out, HBE.out⟩
set_option maxHeartbeats 4000000 in
theorem targets_r (s : ByteArray) (vt vr vq : Value) (l : List RuP) (k0 z : Int) (w : World) (hv : RdE eR w vr l) (hsz : l.length ≤ 1000) :
    Calls Tryd.prog 23 #[.agg #[.string s, vt, vr, vq], .int .i64 k0, .int .i64 z] w fun e w' => ∃ v', e = .returned v' ∧ RdE eI w' v' (insAll (targetsP l k0 z)) ∧ Below w.heap.size w w' := by
  have hlen := hv.len
  unfold maxLen at hlen
  obtain ⟨W0, hW0⟩ : ∃ W0, W0 = w.alloc (.cells #[.string s, vt, vr, vq] 26) := ⟨_, rfl⟩
  have HV : Hid (RdE eR W0 vr l) := Lib.hid (by rw [hW0]; exact hv.alloc _)
  have HBX : Hid (∀ w1, Below W0.heap.size W0 w1 → w1.cell? ⟨w.heap.size, 2, none⟩ = some vr ∧ Below w.heap.size w w1) :=
    Lib.hid (fun w1 h => by rw [hW0] at h; exact ⟨boxed1 _ _ _ h 2, below1 _ _ h⟩)
  have HSZ := Lib.hid hsz
  obtain ⟨a, cap, rfl, _, _, _⟩ := hv
  have HW := Lib.hid hW0
  clear hW0 hsz
  go_enter Tryd.func23, Tryd.ntmps23
  go_wp2
  go_loopw [8, 7] (fun i u wr => ∃ k : Nat, k ≤ l.length ∧ i = .int .i64 k ∧ Hid (RdE eI wr u (insAll (targetsP (l.take k) k0 z))) ∧ Below W0.heap.size W0 wr) (fun o _ _ => l.length - (intOf o).toNat)
  case atStart => exact ⟨0, Nat.zero_le _, rfl, Lib.hid (by rw [targetsP_nil]; exact RdE.nil _), by rw [HW.out]; exact Below.refl _ _⟩
  case round =>
    obtain ⟨k, hk, rfl, hrd, hb⟩ := hrel
    obtain ⟨t2, hbe⟩ := HBX.out wr hb
    have HBE := Lib.hid hbe
    by_cases hlt : k < l.length
    · obtain ⟨b, off, rfl, hbl, hrow⟩ := ((HV.out.on hb).cellsR) (by omega)
      obtain ⟨d0, d1, d2⟩ := hrow k hlt
      have i1 : (k : Int) < l.length := by omega
      have HK := Lib.hid hlt
      have HB := Lib.hid hb
      have HS := Lib.hid (targetsP_snoc l k0 z k hlt)
      have HL : Hid ((insAll (targetsP (l.take k) k0 z)).length ≤ 1000) := Lib.hid (by
        have h1 := (insAll_inc (targetsP (l.take k) k0 z)).2.2
        have h2 := picked_len (fun x => x.b) (fun x => (x.k == k0) && (x.a == z)) (l.take k)
        have h3 := HSZ.out
        rw [List.length_take] at h2
        unfold targetsP at h1 ⊢
        omega)
      clear hrow hb hbe
      generalize nth l k = y at d0 d1 d2 HS
      cases q1 : y.k == k0 with
      | true =>
        cases q2 : y.a == z with
        | true =>
          have e : (if ((y.k == k0) && (y.a == z)) = true then [y.b] else []) = [y.b] := by rw [q1, q2]; rfl
          rw [e] at HS
          have HS2 := Lib.hid ((congrArg insAll HS.out).trans (insAll_snoc _ _))
          have HC := Lib.hid (insert_r u7 (insAll (targetsP (l.take k) k0 z)) y.b wr hrd.out HL.out)
          clear e
          go_wp2_with (go_at_call 40; refine HC.out.mono ?_; rintro e w1 ⟨v1, rfl, hr1, hb1⟩; have HR1 := Lib.hid hr1; have HB1 := Lib.hid hb1; clear hr1 hb1)
          go_roundw
          case rel => exact ⟨k + 1, HK.out, by go_num, Lib.hid (by rw [HS2.out]; exact HR1.out), HB.out.trans (HB1.out.mono HB.out.size)⟩
          case measure => have := HK.out; simp [intOf]; omega
        | false =>
          have e : (if ((y.k == k0) && (y.a == z)) = true then [y.b] else []) = [] := by rw [q1, q2]; rfl
          rw [e, List.append_nil] at HS
          clear e
          go_wp2
          go_roundw
          case rel => exact ⟨k + 1, HK.out, by go_num, Lib.hid (by rw [HS.out]; exact hrd.out), HB.out⟩
          case measure => have := HK.out; simp [intOf]; omega
      | false =>
        have e : (if ((y.k == k0) && (y.a == z)) = true then [y.b] else []) = [] := by rw [q1]; rfl
        rw [e, List.append_nil] at HS
        clear e
        go_wp2
        go_roundw
        case rel => exact ⟨k + 1, HK.out, by go_num, Lib.hid (by rw [HS.out]; exact hrd.out), HB.out⟩
        case measure => have := HK.out; simp [intOf]; omega
    · have i1 : (l.length : Int) ≤ k := by omega
      have hr : RdE eI wr u7 (insAll (targetsP l k0 z)) := by have h := hrd.out; rw [List.take_of_length_le (by omega)] at h; exact h
      have HR := Lib.hid hr
      clear hr hrd
      go_wp2
      go_ret
      exact ⟨_, rfl, HR.out, HBE.out⟩
end Go.Proofs.YtamdlkflcbefdaaDoor
