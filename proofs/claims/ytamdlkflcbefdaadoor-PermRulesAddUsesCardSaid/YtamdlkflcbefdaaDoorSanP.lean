/- The examples that each law plays. -/
import Derived.Test.YtamdlkflcbefdaaDoorPermH
import Derived.Test.YtamdlkflcbefdaaDoorPermD
import Derived.Test.YtamdlkflcbefdaaDoorPermE
import Derived.Test.YtamdlkflcbefdaaDoorPermM
import Derived.Test.YtamdlkflcbefdaaDoorPermN
namespace Go.Proofs.YtamdlkflcbefdaaDoor
open Go.RowKit Go.Shelf
set_option linter.unusedSimpArgs false
set_option linter.unusedVariables false
def exT : List TyP := [⟨[107, 101, 107], 65, 100⟩, ⟨[100, 101, 107], 29, 0⟩]
def exR : List RuP := [⟨1, 0, 1⟩, ⟨2, 0, 1⟩, ⟨3, 0, 0⟩]
def exQ : List QuP := [⟨3, 2, 0, 0, 0⟩]
theorem rd_row {α : Type} {E : El α} {w : World} {g : Nat} (l : List α) (n : Nat) (hn : l.length = n) (hs : n ≤ 10) (hg : w.heap[g]? = some (.cells (E.flat l).toArray E.T (0, 0))) : RdE E w (.slice (some ⟨g, 0, none⟩) n n) l := by
  subst hn
  exact ⟨_, _, rfl, Nat.le_refl _, by unfold maxLen; omega, fun h0 => ⟨g, 0, rfl, (Array.getElem?_eq_some_iff.1 hg).1, fun j u hu => by rw [Nat.zero_add, cell_of_row _ _ _ _ _ _ hg]; simpa using hu⟩⟩
theorem alloc_get (w : World) (X : Obj) (g : Nat) : (w.alloc X).heap[g]? = if g = w.heap.size then some X else w.heap[g]? := by
  unfold World.alloc
  simp only [Array.getElem?_push]
/-- the example's lists lie in memory -/
structure ExW (w : World) (vt vr vq : Value) : Prop where
  t : RdE eT w vt exT
  r : RdE eR w vr exR
  q : RdE eQ w vq exQ
theorem ExW.on {w w' : World} {vt vr vq : Value} (h : ExW w vt vr vq) (hb : Below w.heap.size w w') : ExW w' vt vr vq := ⟨h.t.on hb, h.r.on hb, h.q.on hb⟩
theorem info_p : (Tryd.prog.info? 26).map (·.size) = some 4 := by kernel_rfl
theorem one_s (a : Option Addr) (n c : Nat) : (Value.slice a n c).oneCell' = true := rfl
theorem one_st (s : ByteArray) : (Value.string s).oneCell' = true := rfl
theorem one_p (s : ByteArray) (a b c : Option Addr) (n1 n2 n3 c1 c2 c3 : Nat) : ((#[.string s, .slice a n1 c1, .slice b n2 c2, .slice c n3 c3] : Array Value).all fun u => u.oneCell') = true := by simp [one_s, one_st]
theorem res_p {fn : Func} (p : Tmp) (h : fn.results = #[.cell p 26]) (tmps : Array Value) (w : World) (g : Nat) (s : ByteArray) (vt vr vq : Value)
    (hp : tmps.getD p undef = .pointer (some ⟨g, 0, none⟩)) (hg : w.heap[g]? = some (.cells #[.string s, vt, vr, vq] 26 (0, 0))) : (results fn tmps).run Tryd.prog w = .ok (.agg #[.string s, vt, vr, vq]) w :=
  results_cell_row h tmps w g _ #[.string s, vt, vr, vq] (0, 0) _ hp hg Tryd.underlying26 rfl info_p
attribute [local irreducible] Calls
set_option maxRecDepth 100000 in
set_option maxHeartbeats 4000000 in
theorem example_c (w : World) : Calls Tryd.prog 31 #[] w fun e w' => ∃ s ar ar2 ar3, e = .returned (.agg #[.string s, .slice (some ar) 2 2, .slice (some ar2) 3 3, .slice (some ar3) 1 1]) ∧ ExW w' (.slice (some ar) 2 2) (.slice (some ar2) 3 3) (.slice (some ar3) 1 1) ∧ Below w.heap.size w w' := by
  go_enter Tryd.func31, Tryd.ntmps31
  go_wp2
  refine bodyPost_ret (res_p 0 rfl _ _ w.heap.size ⟨#[]⟩ (.slice (some ⟨w.heap.size + 1, 0, none⟩) 2 2) (.slice (some ⟨w.heap.size + 1 + 1, 0, none⟩) 3 3) (.slice (some ⟨w.heap.size + 1 + 1 + 1, 0, none⟩) 1 1) rfl ?h1) rfl ?_
  case h1 => simp only [alloc_get, World.size_alloc]; rw [if_neg (by omega), if_neg (by omega), if_neg (by omega), if_pos trivial]
  refine ⟨_, _, _, _, rfl, ⟨rd_row exT 2 rfl (by decide) ?_, rd_row exR 3 rfl (by decide) ?_, rd_row exQ 1 rfl (by decide) ?_⟩, ?_⟩
  · simp only [alloc_get, World.size_alloc]; rw [if_neg (by omega), if_neg (by omega), if_pos trivial]; rfl
  · simp only [alloc_get, World.size_alloc]; rw [if_neg (by omega), if_pos trivial]; rfl
  · simp only [alloc_get, World.size_alloc]; rw [if_pos trivial]; rfl
  · exact ((((Below.refl _ _).alloc (Nat.le_refl _) _).alloc (by simp) _).alloc (by simp; omega) _).alloc (by simp; omega) _
/-- .. and the policy in its box -/
structure SanP (w : World) (P : Nat) (s : ByteArray) (vt vr vq : Value) : Prop where
  e : ExW w vt vr vq
  tab : TabAt w
  box : w.heap[P]? = some (.cells #[.string s, vt, vr, vq] 26 (0, 0))
theorem SanP.on {w w' : World} {P : Nat} {s : ByteArray} {vt vr vq : Value} (h : SanP w P s vt vr vq) (hb : Below w.heap.size w w') : SanP w' P s vt vr vq :=
  ⟨h.e.on hb, h.tab.on hb, by rw [hb.block _ (Array.getElem?_eq_some_iff.1 h.box).1]; exact h.box⟩
theorem SanP.cells {w : World} {P : Nat} {s : ByteArray} {vt vr vq : Value} (h : SanP w P s vt vr vq) : w.cell? ⟨P, 0, none⟩ = some (.string s) ∧ w.cell? ⟨P, 1, none⟩ = some vt ∧ w.cell? ⟨P, 2, none⟩ = some vr ∧ w.cell? ⟨P, 3, none⟩ = some vq :=
  ⟨cell_of_row _ _ _ _ _ _ h.box, cell_of_row _ _ _ _ _ _ h.box, cell_of_row _ _ _ _ _ _ h.box, cell_of_row _ _ _ _ _ _ h.box⟩
theorem ex_type (w : World) (s : ByteArray) (vt vr vq : Value) (h : ExW w vt vr vq) :
    Calls Tryd.prog 11 #[.agg #[.string s, vt, vr, vq], .string ⟨#[100, 101, 107]⟩] w fun e w' => e = .returned (.tuple #[.int .i64 1, .bool true]) ∧ Below w.heap.size w w' := by
  have h := type_c s vt vr vq exT [100, 101, 107] w h.t
  rw [show max (tyIx exT [100, 101, 107]) 0 = 1 from by kernel_rfl, show decide (0 ≤ tyIx exT [100, 101, 107]) = true from by kernel_rfl] at h
  exact h
theorem ex_grant (t u li a b c : Int) (hr : grP exT exR t u li = (a, b, c)) (w : World) (s : ByteArray) (vt vr vq : Value) (h : ExW w vt vr vq) (ht : TabAt w) :
    Calls Tryd.prog 28 #[.agg #[.string s, vt, vr, vq], .int .i64 t, .int .i64 u, .int .i64 li] w fun e w' => e = .returned (.tuple #[.int .i64 a, .int .i64 b, .int .i64 c]) ∧ Below w.heap.size w w' := by
  have h := grant_c s vt vr vq exT exR t u li w h.t h.r ht
  rw [hr] at h
  exact h
theorem gr1 : grP exT exR 0 128 0 = (128, 100, 0) := by kernel_rfl
theorem gr2 : grP exT exR 0 128 101 = (0, 0, 10) := by kernel_rfl
theorem gr3 : grP exT exR 2 0 0 = (0, 0, 11) := by kernel_rfl
theorem ex_quorum (w : World) (s : ByteArray) (vt vr vq : Value) (h : ExW w vt vr vq) :
    Calls Tryd.prog 13 #[.agg #[.string s, vt, vr, vq], .int .i64 3] w fun e w' => e = .returned (.tuple #[.agg #[.int .i64 3, .int .i64 2, .int .i64 0, .int .i64 0, .int .i64 0], .bool true]) ∧ Below w.heap.size w w' := by
  have h := quorum_c s vt vr vq exQ 3 w h.q
  rw [show quP exQ 3 = ⟨3, 2, 0, 0, 0⟩ from by kernel_rfl, show decide (0 ≤ quIx exQ 3) = true from by kernel_rfl] at h
  exact h
theorem ex_targets (w : World) (s : ByteArray) (vt vr vq : Value) (h : ExW w vt vr vq) :
    Calls Tryd.prog 22 #[.agg #[.string s, vt, vr, vq], .int .i64 1, .int .i64 0] w fun e w' => ∃ v', e = .returned v' ∧ RdE eI w' v' [1] ∧ Below w.heap.size w w' := by
  have h := targets_c s vt vr vq exR 1 0 w h.r (by decide)
  rw [show srt (targetsP exR 1 0) = [1] from by rw [srt_insAll]; kernel_rfl] at h
  exact h
theorem ex_sources (w : World) (s : ByteArray) (vt vr vq : Value) (h : ExW w vt vr vq) :
    Calls Tryd.prog 20 #[.agg #[.string s, vt, vr, vq], .int .i64 1, .int .i64 1] w fun e w' => ∃ v', e = .returned v' ∧ RdE eI w' v' [0] ∧ Below w.heap.size w w' := by
  have h := sources_c s vt vr vq exR 1 1 w h.r (by decide)
  rw [show srt (sourcesP exR 1 1) = [0] from by rw [srt_insAll]; kernel_rfl] at h
  exact h
theorem ex_same (w : World) (v u : Value) (n : Int) (hv : RdE eI w v [n]) (hu : RdE eI w u [n]) : Calls Tryd.prog 19 #[v, u] w fun e w' => e = .returned (.bool true) ∧ Below w.heap.size w w' := by
  have h := same_r v u [n] [n] w hv hu
  rw [decide_eq_true rfl] at h
  exact h
theorem ex_uses (w : World) (s : ByteArray) (vt vr vq : Value) (h : ExW w vt vr vq) (ht : TabAt w) :
    Calls Tryd.prog 26 #[.agg #[.string s, vt, vr, vq], .int .i64 0] w fun e w' => e = .returned (.int .i64 640) ∧ Below w.heap.size w w' := by
  have h := uses_c s vt vr vq exT exR 0 w h.t h.r ht
  rw [show usesP exT exR 0 = 640 from by kernel_rfl] at h
  exact h
theorem ex_has (t f : Int) (b : Bool) (hr : hasP exT t f = b) (w : World) (s : ByteArray) (vt vr vq : Value) (h : ExW w vt vr vq) :
    Calls Tryd.prog 15 #[.agg #[.string s, vt, vr, vq], .int .i64 t, .int .i64 f] w fun e w' => e = .returned (.bool b) ∧ Below w.heap.size w w' := by
  have h := has_c s vt vr vq exT t f w h.t
  rw [hr] at h
  exact h
theorem hs1 : hasP exT 1 8 = true := by kernel_rfl
theorem hs2 : hasP exT 2 0 = false := by kernel_rfl
theorem ex_may (w : World) (s : ByteArray) (vt vr vq : Value) (h : ExW w vt vr vq) :
    Calls Tryd.prog 24 #[.agg #[.string s, vt, vr, vq], .int .i64 3, .int .i64 0, .int .i64 0] w fun e w' => e = .returned (.bool true) ∧ Below w.heap.size w w' := by
  have h := may_c s vt vr vq exR 3 0 0 w h.r
  rw [show decide (RuP.mk 3 0 0 ∈ exR) = true from by decide] at h
  exact h
theorem ex_sub (a b : Int) (r : Bool) (hr : subB a b = r) (w : World) : Calls Tryd.prog 17 #[.int .i64 a, .int .i64 b] w fun e w' => e = .returned (.bool r) ∧ w' = w := by
  have h := subset_c a b w
  rw [hr] at h
  exact h
theorem sb1 : subB 5 7 = true := by kernel_rfl
theorem sb2 : subB 5 6 = false := by kernel_rfl
end Go.Proofs.YtamdlkflcbefdaaDoor
