/- Sources and Targets of the program. -/
import Derived.Test.YtamdlkflcbefdaaDoorPermG
namespace Go.Proofs.YtamdlkflcbefdaaDoor
open Go.RowKit Go.Shelf
set_option linter.unusedSimpArgs false
set_option linter.unusedVariables false
/-- the first types of the rules of a kind with a second type, and the other way round -/
def sourcesP (l : List RuP) (k0 z : Int) : List Int := picked (fun x => x.a) (fun x => (x.k == k0) && (x.b == z)) l
def targetsP (l : List RuP) (k0 z : Int) : List Int := picked (fun x => x.b) (fun x => (x.k == k0) && (x.a == z)) l
attribute [local irreducible] Calls
theorem sources_val (k0 z : Int) (B C : Nat) (w : World) (hB : B < w.heap.size) (hC : C < w.heap.size) (h1 : w.cell? ⟨B, 0, none⟩ = some (.int .i64 k0)) (h2 : w.cell? ⟨C, 0, none⟩ = some (.int .i64 z)) :
    ValR 39 #[.pointer (some ⟨B, 0, none⟩), .pointer (some ⟨C, 0, none⟩)] (fun x => x.a) (fun x => (x.k == k0) && (x.b == z)) w := fun W x hb => by
  have c0 : W.cell? ⟨B, 0, none⟩ = some (.int .i64 k0) := by rw [hb.cell (p := ⟨B, 0, none⟩) hB]; exact h1
  have c1 : W.cell? ⟨C, 0, none⟩ = some (.int .i64 z) := by rw [hb.cell (p := ⟨C, 0, none⟩) hC]; exact h2
  have hlB : B < W.heap.size := Nat.lt_of_lt_of_le hB hb.size
  have hlC : C < W.heap.size := Nat.lt_of_lt_of_le hC hb.size
  have hne : B ≠ W.heap.size := by omega
  have hne2 : C ≠ W.heap.size := by omega
  have HB : Hid (∀ n X, Below W.heap.size W ((W.alloc X).drewN n)) := Lib.hid (fun n X => below_drewN n ((Below.refl _ _).alloc (Nat.le_refl _) X))
  clear hb h1 h2
  show Calls Tryd.prog 39 #[.agg #[.int .i64 x.k, .int .i64 x.a, .int .i64 x.b], .pointer (some ⟨B, 0, none⟩), .pointer (some ⟨C, 0, none⟩)] W _
  by_cases q1 : x.k = k0
  · have e1 : (x.k == k0) = true := by simp [q1]
    cases q2 : x.b == z with
    | true =>
      go_enter Tryd.func39, Tryd.ntmps39
      go_wp2
      first | refine allD (by kernel_rfl) (by kernel_rfl) ?_ | refine all0 (by kernel_rfl) (by kernel_rfl) ?_
      repeat (go_big_quiet_step (fail))
      refine wpQuiet_nil ?_
      rintro _ ⟨nq, rfl⟩
      go_wp2
      go_ret2
      exact ⟨by simp [e1, q2], HB.out _ _⟩
    | false =>
      go_enter Tryd.func39, Tryd.ntmps39
      go_wp2
      first | refine allD (by kernel_rfl) (by kernel_rfl) ?_ | refine all0 (by kernel_rfl) (by kernel_rfl) ?_
      repeat (go_big_quiet_step (fail))
      refine wpQuiet_nil ?_
      rintro _ ⟨nq, rfl⟩
      go_wp2
      go_ret2
      exact ⟨by simp [e1, q2], HB.out _ _⟩
  · have e1 : (x.k == k0) = false := by simp [q1]
    go_enter Tryd.func39, Tryd.ntmps39
    go_wp2
    first | refine allD (by kernel_rfl) (by kernel_rfl) ?_ | refine all0 (by kernel_rfl) (by kernel_rfl) ?_
    repeat (go_big_quiet_step (fail))
    refine wpQuiet_nil ?_
    rintro _ ⟨nq, rfl⟩
    go_wp2
    go_ret2
    exact ⟨by simp [e1], HB.out _ _⟩
theorem eg_sources : ∀ args w, (callFunc 39 args).run Tryd.prog w = .ok (.enter 39 args) w := enters_of Tryd.func39 (by kernel_rfl) rfl
set_option maxHeartbeats 2000000 in
theorem sources_c (s : ByteArray) (vt vr vq : Value) (l : List RuP) (k0 z : Int) (w : World) (hv : RdE eR w vr l) (hsz : l.length ≤ 1000) :
    Calls Tryd.prog 20 #[.agg #[.string s, vt, vr, vq], .int .i64 k0, .int .i64 z] w fun e w' => ∃ v', e = .returned v' ∧ RdE eI w' v' (srt (sourcesP l k0 z)) ∧ Below w.heap.size w w' := by
  have hmf : ∀ (fn : Fn) (first cap : Array Value) (w : World), (Instr.makeFunc fn first cap).run Tryd.prog w = .ok (.func fn first cap) w := fun _ _ _ _ => rfl
  have hcon := distinct_c vr l 39 #[.pointer (some ⟨w.heap.size + 1, 0, none⟩), .pointer (some ⟨w.heap.size + 1 + 1, 0, none⟩)] (fun x => x.a) (fun x => (x.k == k0) && (x.b == z)) (((w.alloc (.cells #[.string s, vt, vr, vq] 26)).alloc (.cells #[.int .i64 k0] 3)).alloc (.cells #[.int .i64 z] 3)) eg_sources
    (((hv.alloc _).alloc _).alloc _) (sources_val k0 z (w.heap.size + 1) (w.heap.size + 1 + 1) _ (by simp) (by simp) (cell3m w _ _ _ _ 0) (by have h := cell2 (w.alloc (.cells #[.string s, vt, vr, vq] 26)) (.cells #[.int .i64 k0] 3) #[.int .i64 z] 3 0; rw [World.size_alloc] at h; exact h)) hsz
  have HC := Lib.hid hcon
  clear hcon
  obtain ⟨a, cap, rfl, _, _, _⟩ := hv
  go_enter Tryd.func20, Tryd.ntmps20
  go_wp2_with (go_at_call 38; refine HC.out.mono ?_; rintro e w1 ⟨v1, rfl, ho, hb⟩)
  go_ret
  exact ⟨_, rfl, ho.rd, below3 _ _ _ _ hb⟩
theorem targets_val (k0 z : Int) (B C : Nat) (w : World) (hB : B < w.heap.size) (hC : C < w.heap.size) (h1 : w.cell? ⟨B, 0, none⟩ = some (.int .i64 k0)) (h2 : w.cell? ⟨C, 0, none⟩ = some (.int .i64 z)) :
    ValR 41 #[.pointer (some ⟨B, 0, none⟩), .pointer (some ⟨C, 0, none⟩)] (fun x => x.b) (fun x => (x.k == k0) && (x.a == z)) w := fun W x hb => by
  have c0 : W.cell? ⟨B, 0, none⟩ = some (.int .i64 k0) := by rw [hb.cell (p := ⟨B, 0, none⟩) hB]; exact h1
  have c1 : W.cell? ⟨C, 0, none⟩ = some (.int .i64 z) := by rw [hb.cell (p := ⟨C, 0, none⟩) hC]; exact h2
  have hlB : B < W.heap.size := Nat.lt_of_lt_of_le hB hb.size
  have hlC : C < W.heap.size := Nat.lt_of_lt_of_le hC hb.size
  have hne : B ≠ W.heap.size := by omega
  have hne2 : C ≠ W.heap.size := by omega
  have HB : Hid (∀ n X, Below W.heap.size W ((W.alloc X).drewN n)) := Lib.hid (fun n X => below_drewN n ((Below.refl _ _).alloc (Nat.le_refl _) X))
  clear hb h1 h2
  show Calls Tryd.prog 41 #[.agg #[.int .i64 x.k, .int .i64 x.a, .int .i64 x.b], .pointer (some ⟨B, 0, none⟩), .pointer (some ⟨C, 0, none⟩)] W _
  by_cases q1 : x.k = k0
  · have e1 : (x.k == k0) = true := by simp [q1]
    cases q2 : x.a == z with
    | true =>
      go_enter Tryd.func41, Tryd.ntmps41
      go_wp2
      first | refine allD (by kernel_rfl) (by kernel_rfl) ?_ | refine all0 (by kernel_rfl) (by kernel_rfl) ?_
      repeat (go_big_quiet_step (fail))
      refine wpQuiet_nil ?_
      rintro _ ⟨nq, rfl⟩
      go_wp2
      go_ret2
      exact ⟨by simp [e1, q2], HB.out _ _⟩
    | false =>
      go_enter Tryd.func41, Tryd.ntmps41
      go_wp2
      first | refine allD (by kernel_rfl) (by kernel_rfl) ?_ | refine all0 (by kernel_rfl) (by kernel_rfl) ?_
      repeat (go_big_quiet_step (fail))
      refine wpQuiet_nil ?_
      rintro _ ⟨nq, rfl⟩
      go_wp2
      go_ret2
      exact ⟨by simp [e1, q2], HB.out _ _⟩
  · have e1 : (x.k == k0) = false := by simp [q1]
    go_enter Tryd.func41, Tryd.ntmps41
    go_wp2
    first | refine allD (by kernel_rfl) (by kernel_rfl) ?_ | refine all0 (by kernel_rfl) (by kernel_rfl) ?_
    repeat (go_big_quiet_step (fail))
    refine wpQuiet_nil ?_
    rintro _ ⟨nq, rfl⟩
    go_wp2
    go_ret2
    exact ⟨by simp [e1], HB.out _ _⟩
theorem eg_targets : ∀ args w, (callFunc 41 args).run Tryd.prog w = .ok (.enter 41 args) w := enters_of Tryd.func41 (by kernel_rfl) rfl
set_option maxHeartbeats 2000000 in
theorem targets_c (s : ByteArray) (vt vr vq : Value) (l : List RuP) (k0 z : Int) (w : World) (hv : RdE eR w vr l) (hsz : l.length ≤ 1000) :
    Calls Tryd.prog 22 #[.agg #[.string s, vt, vr, vq], .int .i64 k0, .int .i64 z] w fun e w' => ∃ v', e = .returned v' ∧ RdE eI w' v' (srt (targetsP l k0 z)) ∧ Below w.heap.size w w' := by
  have hmf : ∀ (fn : Fn) (first cap : Array Value) (w : World), (Instr.makeFunc fn first cap).run Tryd.prog w = .ok (.func fn first cap) w := fun _ _ _ _ => rfl
  have hcon := distinct_c vr l 41 #[.pointer (some ⟨w.heap.size + 1, 0, none⟩), .pointer (some ⟨w.heap.size + 1 + 1, 0, none⟩)] (fun x => x.b) (fun x => (x.k == k0) && (x.a == z)) (((w.alloc (.cells #[.string s, vt, vr, vq] 26)).alloc (.cells #[.int .i64 k0] 3)).alloc (.cells #[.int .i64 z] 3)) eg_targets
    (((hv.alloc _).alloc _).alloc _) (targets_val k0 z (w.heap.size + 1) (w.heap.size + 1 + 1) _ (by simp) (by simp) (cell3m w _ _ _ _ 0) (by have h := cell2 (w.alloc (.cells #[.string s, vt, vr, vq] 26)) (.cells #[.int .i64 k0] 3) #[.int .i64 z] 3 0; rw [World.size_alloc] at h; exact h)) hsz
  have HC := Lib.hid hcon
  clear hcon
  obtain ⟨a, cap, rfl, _, _, _⟩ := hv
  go_enter Tryd.func22, Tryd.ntmps22
  go_wp2_with (go_at_call 38; refine HC.out.mono ?_; rintro e w1 ⟨v1, rfl, ho, hb⟩)
  go_ret
  exact ⟨_, rfl, ho.rd, below3 _ _ _ _ hb⟩
end Go.Proofs.YtamdlkflcbefdaaDoor
