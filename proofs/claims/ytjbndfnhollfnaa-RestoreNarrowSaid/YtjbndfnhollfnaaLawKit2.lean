/- What holds after a plan. -/
import Derived.Test.YtjbndfnhollfnaaLawKit
namespace Go.Proofs.Ytjbndfnhollfnaa
open Go.RowKit
set_option linter.unusedSimpArgs false
set_option linter.unusedVariables false
theorem plRun_err {now : Int} (l : List K) : ∀ (s : PS) (c : Int), plRun now s l = .error c → c ≠ 0 := by
  induction l with
  | nil => intro s c h; cases h
  | cons x l ih =>
    intro s c h
    rw [plRun] at h
    cases h1 : plStep now s x with
    | ok s1 => rw [h1] at h; exact ih s1 c h
    | error e =>
      rw [h1] at h
      cases h
      rcases plStep_parts now s x with ⟨_, e⟩ | ⟨_, ht, e⟩ | ⟨_, _, hne, e⟩ | ⟨_, ht, he, e⟩
      · rw [e] at h1; cases h1
      · rw [e] at h1; cases h1
      · rw [e] at h1; cases h1; exact hne
      · rw [e] at h1; cases h1
theorem planK_err {nx : Int} {tl : List K} {b : BK} {bl : List K} {now c : Int} (h : planK nx tl b bl now = .error c) : c ≠ 0 := by
  rcases planK_four nx tl b bl now with ⟨_, hr⟩ | ⟨_, _, hr⟩ | ⟨_, _, _, hr⟩ | ⟨_, _, _, hr⟩
  · rw [hr] at h; cases h; decide
  · rw [hr] at h; cases h; decide
  · rw [hr] at h; cases h; decide
  · rw [hr] at h; exact plRun_err _ _ _ h
theorem planK_ok {nx : Int} {tl : List K} {b : BK} {bl : List K} {now : Int} {s : PS} (h : planK nx tl b bl now = .ok s) : validB b bl = true ∧ 0 ≤ now ∧ now ≤ 1099511627776 ∧ plRun now ⟨nx, tl, [], []⟩ bl = .ok s := by
  rcases planK_four nx tl b bl now with ⟨_, hr⟩ | ⟨_, _, hr⟩ | ⟨_, _, _, hr⟩ | ⟨h1, h2, h3, hr⟩
  · rw [hr] at h; cases h
  · rw [hr] at h; cases h
  · rw [hr] at h; cases h
  · rw [hr] at h; exact ⟨h1, by omega, by omega, h⟩
theorem planK_good {nx : Int} {tl : List K} {b : BK} {bl : List K} {now : Int} {s : PS} (ht : validTab nx tl = true) (h : planK nx tl b bl now = .ok s) : Good nx tl bl now s :=
  (Good.start nx tl bl now ht).run bl (fun x hx => hx) (planK_ok h).2.2.2
theorem planK_len {nx : Int} {tl : List K} {b : BK} {bl : List K} {now : Int} {s : PS} (h : planK nx tl b bl now = .ok s) : s.ks.length ≤ tl.length + bl.length := (plRun_len _ _ _ (planK_ok h).2.2.2).2.2
theorem planK_holds {nx : Int} {tl : List K} {b : BK} {bl : List K} {now : Int} {s : PS} (h : planK nx tl b bl now = .ok s) (later : Int) (hl : now ≤ later) : holdsK s.ks bl later = true := by
  rw [holdsK_iff]
  intro x hx hf
  exact plRun_twin bl _ _ (planK_ok h).2.2.2 x hx (by omega)
theorem planK_again {nx : Int} {tl : List K} {b : BK} {bl : List K} {now : Int} {s : PS} (h : planK nx tl b bl now = .ok s) (later : Int) (hl : now ≤ later) (hm : later ≤ 1099511627776) :
    ∃ s', planK s.nx s.ks b bl later = .ok s' ∧ s'.nx = s.nx ∧ s'.ks = s.ks ∧ s'.ids = [] := by
  obtain ⟨h1, h2, h3, h4⟩ := planK_ok h
  obtain ⟨s', e1, e2, e3, e4⟩ := plRun_again (now := later) bl ⟨s.nx, s.ks, [], []⟩ (fun x hx hf => plRun_twin bl _ _ h4 x hx (by omega))
  exact ⟨s', by unfold planK; rw [if_pos ⟨h1, by omega, hm⟩]; exact e1, e2, e3, e4⟩
/-- Plan of the same backup, then or later, adds nothing -/
theorem plan_again {nx : Int} {tl : List K} {b : BK} {bl : List K} {now : Int} {s : PS} (ht : validTab nx tl = true) (h : planK nx tl b bl now = .ok s) (later : Int) (hl : now ≤ later) (hm : later ≤ 1099511627776) (h1 : tl.length ≤ 40) (h2 : bl.length ≤ 40)
    (hwf : ∀ i, i < bl.length → (keyAt bl i).wf) (hmo : b.mo.length ≤ maxLen) (v u : Value) (W : World) (hv : RdK W v s.ks) (hu : RdK W u bl) :
    Calls Try.prog 10 #[.agg #[.int .i64 s.nx, v], .agg (bc b u), .int .i64 later] W fun e w' => ∃ a c a2 c2, e = .returned (.tuple #[.agg #[.int .i64 s.nx, .slice a s.ks.length c], .slice a2 0 c2, .int .i64 0]) ∧ RdK w' (.slice a s.ks.length c) s.ks ∧ Below W.heap.size W w' := by
  have hlen := planK_len h
  have hc := plan_c s.nx later v u s.ks bl b W hv hu hwf hmo (by omega) h2 (planK_good ht h).tab
  obtain ⟨s', e1, e2, e3, e4⟩ := planK_again h later hl hm
  rw [e1] at hc
  refine hc.mono fun e w' hp => ?_
  obtain ⟨a, c, a2, c2, he, hk, hi, hb⟩ := planT_out hp
  have r1 : rn (.ok s') = s.nx := e2
  have r2 : rk (.ok s') = s.ks := e3
  have r3 : ri (.ok s') = [] := e4
  have r4 : re (.ok s') = 0 := rfl
  rw [r1, r2, r3, r4] at he
  rw [r2] at hk
  exact ⟨a, c, a2, c2, he, hk, hb⟩
theorem planT_ok_out {w w' : World} {s : PS} {e : Ending} (h : PlanT w (.ok s) e w') : ∃ a c a2 c2, e = .returned (.tuple #[.agg #[.int .i64 s.nx, .slice a s.ks.length c], .slice a2 s.ids.length c2, .int .i64 0]) ∧
    RdK w' (.slice a s.ks.length c) s.ks ∧ RdI w' (.slice a2 s.ids.length c2) s.ids ∧ Below w.heap.size w w' := planT_out h
theorem planT_no_out {w w' : World} {c : Int} {e : Ending} (h : PlanT w (.error c) e w') : e = .returned (.tuple #[.agg #[.int .i64 0, .slice none 0 0], .slice none 0 0, .int .i64 c]) ∧ Below w.heap.size w w' := ⟨h.2, h.1⟩
/-- keys that are read lie in no block of fewer than nine cells -/
theorem RdK.setSmall {w : World} {v : Value} {l : List K} {g i : Nat} {x : Value} {cs : Array Value} {T : TypeId} {fr : Nat × Nat} (h : RdK w v l) (hg : w.heap[g]? = some (.cells cs T fr)) (hs : cs.size < 9) : RdK (w.setCell ⟨g, i, none⟩ x) v l := by
  obtain ⟨a, cap, rfl, h1, h2, h3⟩ := h
  refine ⟨a, cap, rfl, h1, h2, fun h0 => ?_⟩
  obtain ⟨b, off, rfl, hlt, hc⟩ := h3 h0
  refine ⟨b, off, rfl, by rw [setCell_size]; exact hlt, fun j hj k hk => ?_⟩
  have hne : g ≠ b := by
    intro e
    subst e
    have h8 := hc 0 h0 8 (by omega)
    rw [cell_of_row _ _ _ _ _ _ hg] at h8
    rw [Array.getElem?_eq_none (by omega)] at h8
    cases h8
  rw [World.cell?_of_block (a := ⟨b, off + j * 9 + k, none⟩) (setCell_block hne)]
  exact hc j hj k hk
theorem tab_set {w : World} {g : Nat} {n n' : Int} {v v' : Value} (h : w.heap[g]? = some (.cells #[.int .i64 n, v] 24 (0, 0))) :
    ((w.setCell ⟨g, 0, none⟩ (.int .i64 n')).setCell ⟨g, 1, none⟩ v').heap[g]? = some (.cells #[.int .i64 n', v'] 24 (0, 0)) := by
  have h1 := setRow_heap w g _ (#[Value.int .i64 n, v].setIfInBounds 0 (.int .i64 n')) _ _ h
  rw [← setCell_rowK _ _ _ _ _ _ _ h] at h1
  have h2 := setRow_heap _ g _ ((#[Value.int .i64 n, v].setIfInBounds 0 (.int .i64 n')).setIfInBounds 1 v') _ _ h1
  rw [← setCell_rowK _ _ _ _ _ _ _ h1] at h2
  exact h2
theorem RdK.setTab {w : World} {v : Value} {l : List K} {g : Nat} {n n' : Int} {u u' : Value} (h : RdK w v l) (hg : w.heap[g]? = some (.cells #[.int .i64 n, u] 24 (0, 0))) : RdK ((w.setCell ⟨g, 0, none⟩ (.int .i64 n')).setCell ⟨g, 1, none⟩ u') v l := by
  have h1 := setRow_heap w g _ (#[Value.int .i64 n, u].setIfInBounds 0 (.int .i64 n')) _ _ hg
  rw [← setCell_rowK _ _ _ _ _ _ _ hg] at h1
  exact (h.setSmall hg (by show 2 < 9; decide)).setSmall h1 (by show 2 < 9; decide)
end Go.Proofs.Ytjbndfnhollfnaa
