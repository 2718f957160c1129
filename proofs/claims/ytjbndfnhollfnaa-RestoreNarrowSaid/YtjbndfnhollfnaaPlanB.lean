/- Rows of numbers and of pairs; the specification's Plan: what it holds in memory. -/
import Derived.Test.YtjbndfnhollfnaaKeyY
import Derived.Test.YtjbndfnhollfnaaRowE
namespace Go.Proofs.Ytjbndfnhollfnaa
open Go.RowKit Go.Shelf
set_option linter.unusedSimpArgs false
set_option linter.unusedVariables false
abbrev eI : El Int := ⟨3, 36, 1, fun n => [.int .i64 n]⟩
theorem eI_ok : eI.OK := ⟨Try.underlying36, by kernel_rfl, fun _ => rfl, fun x u hu => by simp at hu; rw [hu]; rfl, by decide⟩
theorem eI_flat (l : List Int) (j : Nat) (h : j < l.length) : (eI.flat l)[j]? = some (.int .i64 (intAt l j)) := by
  have := El.flat_at eI_ok l j 0 h (by decide)
  rw [Nat.mul_one, Nat.add_zero] at this
  rw [this, intAt_eq l j h]
  rfl
theorem rdI_of {w : World} {v : Value} {l : List Int} (h : RdE eI w v l) : RdI w v l := by
  obtain ⟨a, cap, rfl, h1, h2, h3⟩ := h
  refine ⟨a, cap, rfl, h1, h2, fun h0 => ?_⟩
  obtain ⟨b, off, rfl, hlt, hc⟩ := h3 h0
  exact ⟨b, off, rfl, hlt, fun i hi => hc i _ (eI_flat l i hi)⟩
abbrev eP : El (Int × Int) := ⟨64, 62, 2, fun p => [.int .i64 p.1, .int .i64 p.2]⟩
theorem eP_ok : eP.OK := ⟨Try.underlying62, by kernel_rfl, fun _ => rfl, fun x u hu => by simp at hu; rcases hu with rfl | rfl <;> rfl, by decide⟩
/-- keys of one's own, where another block is written or another row has grown -/
theorem OwnK.neNew {w : World} {base : Nat} {v : Value} {l : List K} (h : OwnK w base v l) {g : Nat} (hg : w.heap.size ≤ g) : v.ownBlock ≠ some g := fun e => by have := (World.ownsRow.lt h g e).2; omega
theorem OwnK.neOld {w : World} {base : Nat} {v : Value} {l : List K} (h : OwnK w base v l) {g : Nat} (hg : g < base) : v.ownBlock ≠ some g := fun e => by have := (World.ownsRow.lt h g e).1; omega
theorem OwnK.on {w w' : World} {base : Nat} {v : Value} {l : List K} (h : OwnK w base v l) (hb : Below w.heap.size w w') : OwnK w' base v l := h.keep hb (Nat.le_refl _)
theorem OwnK.setNe {w : World} {base : Nat} {v : Value} {l : List K} {g2 k : Nat} {x : Value} (h : OwnK w base v l) (hne : v.ownBlock ≠ some g2) : OwnK (w.setCell ⟨g2, k, none⟩ x) base v l := by
  refine ⟨h.1, ?_⟩
  rcases h.2 with hn | ⟨g, cap, cur, rfl, hg, hgg, r⟩
  · exact .inl hn
  · exact .inr ⟨g, cap, cur, rfl, hg, by rw [setCell_block (fun e => hne (by rw [e]; rfl))]; exact hgg, r⟩
theorem OwnK.grown {w w' : World} {base : Nat} {v : Value} {l : List K} {row : Option Nat} (h : OwnK w base v l) (hg : w.grownBy w' row) (hne : ∀ g, row = some g → v.ownBlock ≠ some g) : OwnK w' base v l := by
  refine World.ownsRow.kept h hg ?_
  cases hv : v.ownBlock with
  | none => exact .inl rfl
  | some g => exact .inr fun e => hne g e.symm (by rw [hv])
theorem OwnK.neOwn {β : Type} {F : El β} {w : World} {b1 b2 : Nat} {v u : Value} {l : List K} {m : List β} (h : OwnK w b1 v l) (h2 : OwnE F w b2 u m) (hT : F.T ≠ 30) : ∀ g, u.ownBlock = some g → v.ownBlock ≠ some g := by
  intro g hg
  rcases h2.2 with ⟨rfl, _⟩ | ⟨g0, cap, cur, rfl, _, hgg, _⟩
  · simp [Value.ownBlock] at hg
  · simp only [Value.ownBlock, Option.some.injEq] at hg
    subst hg
    rcases h.2 with ⟨rfl, _⟩ | ⟨g1, cap1, cur1, rfl, _, hg1, _⟩
    · simp [Value.ownBlock]
    · intro e
      simp only [Value.ownBlock, Option.some.injEq] at e
      subst e
      rw [hgg] at hg1
      simp only [Option.some.injEq, Obj.cells.injEq] at hg1
      exact hT hg1.2.1
theorem OwnK.mono {w : World} {base base' : Nat} {v : Value} {l : List K} (h : OwnK w base v l) (hb : base' ≤ base) : OwnK w base' v l := World.ownsRow.mono h hb
/-- the result of the specification's Plan -/
def pl (n : Int) (v vi : Value) (e : Int) : Array Value := #[.int .i64 n, v, vi, .int .i64 e]
/-- what it holds in memory -/
structure PlW (w : World) (G : Nat) (s : PS) (vk vi vp : Value) : Prop where
  row : w.heap[G]? = some (.cells (pl s.nx vk vi 0) 41 (0, 0))
  k : OwnK w (G + 1) vk s.ks
  i : OwnE eI w (G + 1) vi s.ids
  p : OwnE eP w (G + 1) vp s.ps
theorem PlW.lt {w : World} {G : Nat} {s : PS} {vk vi vp : Value} (h : PlW w G s vk vi vp) : G < w.heap.size := (Array.getElem?_eq_some_iff.1 h.row).1
theorem PlW.on {w w' : World} {G : Nat} {s : PS} {vk vi vp : Value} (h : PlW w G s vk vi vp) (hb : Below w.heap.size w w') : PlW w' G s vk vi vp :=
  ⟨by rw [hb.block _ h.lt]; exact h.row, h.k.on hb, h.i.on hb, h.p.on hb⟩
/-- a key of one's own is written -/
theorem PlW.setKey {w : World} {G : Nat} {s : PS} {vk vi vp : Value} (h : PlW w G s vk vi vp) {g i : Nat} {k : K} {x : Value} (hg : KAt w g k) (hne : vk.ownBlock ≠ some g) : PlW (w.setCell ⟨g, i, none⟩ x) G s vk vi vp := by
  have hG : g ≠ G := by
    intro e
    have h1 := h.row
    rw [← e, hg] at h1
    simp at h1
  exact ⟨by rw [setCell_block hG]; exact h.row, h.k.setNe hne, h.i.setNe (h.i.neType hg (by decide)), h.p.setNe (h.p.neType hg (by decide))⟩
/-- a pair is added -/
theorem PlW.pair {w w' : World} {G : Nat} {s : PS} {vk vi vp vp' : Value} {p : Int × Int} (h : PlW w G s vk vi vp) (hg : w.grownBy w' vp.ownBlock) (hp : OwnE eP w' (G + 1) vp' (s.ps ++ [p])) : PlW w' G ⟨s.nx, s.ks, s.ps ++ [p], s.ids⟩ vk vi vp' :=
  ⟨by rw [grown_block hg h.lt (fun k hk e => by have := (h.p.lt k hk).1; omega)]; exact h.row, h.k.grown hg (h.k.neOwn h.p (by decide)), h.i.grown hg (h.i.neOwn h.p (by decide)), hp⟩
theorem pl_set {w : World} {G : Nat} {n n' : Int} {v v' vi : Value} (h : w.heap[G]? = some (.cells (pl n v vi 0) 41 (0, 0))) :
    ((w.setCell ⟨G, 0, none⟩ (.int .i64 n')).setCell ⟨G, 1, none⟩ v').heap[G]? = some (.cells (pl n' v' vi 0) 41 (0, 0)) := by
  have h1 := setRow_heap w G _ ((pl n v vi 0).setIfInBounds 0 (.int .i64 n')) _ _ h
  rw [← setCell_rowK _ _ _ _ _ _ _ h] at h1
  have h2 := setRow_heap _ G _ (((pl n v vi 0).setIfInBounds 0 (.int .i64 n')).setIfInBounds 1 v') _ _ h1
  rw [← setCell_rowK _ _ _ _ _ _ _ h1] at h2
  exact h2
theorem pl_set2 {w : World} {G : Nat} {n : Int} {v vi vi' : Value} (h : w.heap[G]? = some (.cells (pl n v vi 0) 41 (0, 0))) :
    (w.setCell ⟨G, 2, none⟩ vi').heap[G]? = some (.cells (pl n v vi' 0) 41 (0, 0)) := by
  have h1 := setRow_heap w G _ ((pl n v vi 0).setIfInBounds 2 vi') _ _ h
  rw [← setCell_rowK _ _ _ _ _ _ _ h] at h1
  exact h1
/-- the table is laid anew -/
theorem PlW.table {w : World} {G : Nat} {s : PS} {vk vi vp vk' : Value} {n' : Int} {ks' : List K} (h : PlW w G s vk vi vp) (hk : OwnK w (G + 1) vk' ks') :
    PlW ((w.setCell ⟨G, 0, none⟩ (.int .i64 n')).setCell ⟨G, 1, none⟩ vk') G ⟨n', ks', s.ps, s.ids⟩ vk' vi vp :=
  ⟨pl_set h.row, (hk.setNe (hk.neOld (Nat.lt_succ_self _))).setNe (hk.neOld (Nat.lt_succ_self _)), (h.i.setNe (h.i.neOld (Nat.lt_succ_self _))).setNe (h.i.neOld (Nat.lt_succ_self _)), (h.p.setNe (h.p.neOld (Nat.lt_succ_self _))).setNe (h.p.neOld (Nat.lt_succ_self _))⟩
/-- an Id is added -/
theorem PlW.id {w w' : World} {G : Nat} {s : PS} {vk vi vp vi' : Value} {d : Int} (h : PlW w G s vk vi vp) (hg : w.grownBy w' vi.ownBlock) (hi : OwnE eI w' (G + 1) vi' (s.ids ++ [d])) :
    PlW (w'.setCell ⟨G, 2, none⟩ vi') G ⟨s.nx, s.ks, s.ps, s.ids ++ [d]⟩ vk vi' vp := by
  have hr : w'.heap[G]? = some (.cells (pl s.nx vk vi 0) 41 (0, 0)) := by
    rw [grown_block hg h.lt (fun k hk e => by have := (h.i.lt k hk).1; omega)]; exact h.row
  have hk := h.k.grown hg (h.k.neOwn h.i (by decide))
  have hp := h.p.grown hg (h.p.neOwn h.i (by decide))
  exact ⟨pl_set2 hr, hk.setNe (hk.neOld (Nat.lt_succ_self _)), hi.setNe (hi.neOld (Nat.lt_succ_self _)), hp.setNe (hp.neOld (Nat.lt_succ_self _))⟩
/-- the outcome of the specification's Plan -/
def PlanR (w : World) (r : Except Int PS) (e : Ending) (w' : World) : Prop :=
  Below w.heap.size w w' ∧ match r with
  | .ok s => ∃ v vi, e = .returned (.agg (pl s.nx v vi 0)) ∧ RdK w' v s.ks ∧ RdI w' vi s.ids
  | .error c => e = .returned (.agg (pl 0 (.slice none 0 0) (.slice none 0 0) c))
end Go.Proofs.Ytjbndfnhollfnaa
