/- Parts of a proof, joined: contracts of functions of the program and plain lemmas (RowE, RowI, PlanB, PlanC, PlanD, MapI, PlanE, PlanF, FrameK). No condition. -/
import Derived.Test.YtbpjdfnnlmblaaaDoorMA02
import Derived.Test.YtbpjdfnnlmblaaaDoorChecked
import Derived.Maps.AppendAt
import Derived.ArgAppend
import Derived.Deep.Upon
import Derived.Lib.SliceRun
import Derived.Maps.OwnOps
import Derived.Maps.Views
import Derived.WalkArith
import Derived.Deep.Slices
import Derived.Deep.Fields
import Derived.ChangeSame
/- Slices of any element type: read, owned, appended to. -/
namespace Go.Proofs.YtbpjdfnnlmblaaaDoor
open Go.RowKit
set_option linter.unusedSimpArgs false
set_option linter.unusedVariables false
/-- how an element lies in memory -/
structure El (α : Type) where
  T : TypeId
  S : TypeId
  c : Nat
  cf : α → List Value
/-- .. and that the program's types say so -/
structure El.OK {α : Type} (E : El α) : Prop where
  und : Tryd.prog.underlying E.S = some (.slice E.T)
  info : (Tryd.prog.info? E.T).map (fun i => (i.zero.map (·.cells.size), i.size, decide (0 < i.bytes ∧ i.bytes ≤ 200))) = some (some E.c, E.c, true)
  len : ∀ x, (E.cf x).length = E.c
  one : ∀ x, ∀ u ∈ E.cf x, u.oneCell' = true
  pos : 0 < E.c
variable {α : Type} {E : El α}
theorem El.OK.info' (h : E.OK) : ∃ i z, Tryd.prog.info? E.T = some i ∧ i.zero = some z ∧ i.size = E.c ∧ z.cells.size = E.c ∧ 0 < i.bytes ∧ i.bytes ≤ 200 := by
  have h := h.info
  cases hi : Tryd.prog.info? E.T with
  | none => rw [hi] at h; cases h
  | some i =>
    rw [hi] at h
    simp only [Option.map_some, Option.some.injEq, Prod.mk.injEq, decide_eq_true_eq] at h
    cases hz : i.zero with
    | none => rw [hz] at h; cases h.1
    | some z =>
      rw [hz] at h
      exact ⟨i, z, rfl, hz, h.2.1, by simpa using h.1, h.2.2.1, h.2.2.2⟩
/-- the cells of elements, one after the other -/
def El.flat (E : El α) : List α → List Value
  | [] => []
  | x :: l => E.cf x ++ E.flat l
theorem El.flat_len (hE : E.OK) (l : List α) : (E.flat l).length = l.length * E.c := by
  induction l with
  | nil => simp [El.flat]
  | cons x l ih => rw [El.flat, List.length_append, hE.len, ih, List.length_cons, Nat.add_mul]; omega
theorem El.flat_append (l m : List α) : E.flat (l ++ m) = E.flat l ++ E.flat m := by
  induction l with
  | nil => rfl
  | cons x l ih => rw [List.cons_append, El.flat, El.flat, ih, List.append_assoc]
theorem El.flat_one (hE : E.OK) (l : List α) : ∀ u ∈ E.flat l, u.oneCell' = true := by
  induction l with
  | nil => intro u hu; simp [El.flat] at hu
  | cons x l ih =>
    intro u hu
    rw [El.flat, List.mem_append] at hu
    rcases hu with hu | hu
    · exact hE.one x u hu
    · exact ih u hu
theorem El.flat_at (hE : E.OK) (l : List α) (j i : Nat) (hj : j < l.length) (hi : i < E.c) : (E.flat l)[j * E.c + i]? = (E.cf l[j])[i]? := by
  induction l generalizing j with
  | nil => simp at hj
  | cons x l ih =>
    cases j with
    | zero =>
      rw [El.flat, Nat.zero_mul, Nat.zero_add, List.getElem?_append_left (by rw [hE.len]; exact hi)]
      rfl
    | succ j =>
      have hj' : j < l.length := by simpa using hj
      rw [El.flat, List.getElem?_append_right (by rw [hE.len, Nat.add_mul]; omega), hE.len, show (j + 1) * E.c + i - E.c = j * E.c + i by rw [Nat.add_mul]; omega, ih j hj']
      rfl
/-- v is a slice with the elements l in world w -/
def RdE (E : El α) (w : World) (v : Value) (l : List α) : Prop :=
  ∃ a cap, v = .slice a l.length cap ∧ l.length ≤ cap ∧ cap ≤ maxLen ∧
    (0 < l.length → ∃ b off, a = some ⟨b, off, none⟩ ∧ b < w.heap.size ∧ ∀ j u, (E.flat l)[j]? = some u → w.cell? ⟨b, off + j, none⟩ = some u)
theorem RdE.keep {w w' : World} {v : Value} {l : List α} {B : Nat} (h : RdE E w v l) (hb : Below B w w') (hB : w.heap.size ≤ B) : RdE E w' v l := by
  obtain ⟨a, cap, rfl, h1, h2, h3⟩ := h
  refine ⟨a, cap, rfl, h1, h2, fun h0 => ?_⟩
  obtain ⟨b, off, rfl, hlt, hc⟩ := h3 h0
  refine ⟨b, off, rfl, Nat.lt_of_lt_of_le hlt hb.size, fun j u hu => ?_⟩
  rw [hb.cell (p := ⟨b, off + j, none⟩) (Nat.lt_of_lt_of_le hlt hB)]
  exact hc j u hu
theorem RdE.on {w w' : World} {v : Value} {l : List α} (h : RdE E w v l) (hb : Below w.heap.size w w') : RdE E w' v l := h.keep hb (Nat.le_refl _)
theorem RdE.alloc {w : World} {v : Value} {l : List α} (h : RdE E w v l) (X : Obj) : RdE E (w.alloc X) v l := h.on ((Below.refl w.heap.size w).alloc (Nat.le_refl _) X)
theorem RdE.drew {w : World} {v : Value} {l : List α} (n : Nat) (h : RdE E w v l) : RdE E (w.drewN n) v l := h.on (below_drewN n (Below.refl w.heap.size w))
theorem RdE.nil (w : World) : RdE E w (.slice none 0 0) [] := ⟨none, 0, rfl, Nat.le_refl _, by unfold maxLen; omega, fun h => absurd h (by simp)⟩
theorem RdE.len {w : World} {v : Value} {l : List α} (h : RdE E w v l) : l.length ≤ maxLen := by
  obtain ⟨a, cap, rfl, h1, h2, h3⟩ := h
  omega
theorem RdE.cell (hE : E.OK) {w : World} {a : Option Addr} {n cap : Nat} {l : List α} (h : RdE E w (.slice a n cap) l) (h0 : 0 < l.length) : ∃ b off, a = some ⟨b, off, none⟩ ∧ b < w.heap.size ∧
    ∀ j (hj : j < l.length) i, i < E.c → w.cell? ⟨b, off + j * E.c + i, none⟩ = (E.cf l[j])[i]? := by
  obtain ⟨a', c', e, _, _, h3⟩ := h
  cases e
  obtain ⟨b, off, rfl, hlt, hc⟩ := h3 h0
  refine ⟨b, off, rfl, hlt, fun j hj i hi => ?_⟩
  have h1 := El.flat_at hE l j i hj hi
  have h2 : i < (E.cf l[j]).length := by rw [hE.len]; exact hi
  rw [List.getElem?_eq_getElem h2] at h1 ⊢
  have := hc _ _ h1
  rwa [← Nat.add_assoc] at this
theorem RdE.flatc {w : World} {a : Option Addr} {n cap : Nat} {l : List α} (hE : E.OK) (h : RdE E w (.slice a n cap) l) : ∀ b, a = some b → ∀ j u, (E.flat l)[j]? = some u → w.cell? (b.add j) = some u := by
  obtain ⟨a', c', e, _, _, h3⟩ := h
  cases e
  intro b hb j u hu
  have hj : 0 < l.length := by
    rcases Nat.eq_zero_or_pos l.length with h0 | h0
    · have : l = [] := List.length_eq_zero_iff.1 h0
      subst this
      simp [El.flat] at hu
    · exact h0
  obtain ⟨b0, off, e, _, hc⟩ := h3 hj
  rw [hb] at e
  cases e
  have hadd : (⟨b0, off, none⟩ : Addr).add j = ⟨b0, off + j, none⟩ := by unfold Addr.add; split <;> simp_all
  rw [hadd]
  exact hc j u hu
theorem RdE.clip {w : World} {a : Option Addr} {cap : Nat} {l : List α} (h : RdE E w (.slice a l.length cap) l) : RdE E w (.slice a l.length l.length) l := by
  obtain ⟨a', c', e, h1, h2, h3⟩ := h
  cases e
  exact ⟨a, l.length, rfl, Nat.le_refl _, by omega, h3⟩
/-- .. that the call has made, in a block from base on -/
def OwnE (E : El α) (w : World) (base : Nat) (v : Value) (l : List α) : Prop := w.ownsRow base E.T E.c v l.length (E.flat l)
theorem OwnE.rd {w : World} {base : Nat} {v : Value} {l : List α} (h : OwnE E w base v l) : RdE E w v l := by
  rcases h.2 with ⟨rfl, h0⟩ | ⟨g, cap, cur, rfl, hb, hg, h1, h2, h3, h4⟩
  · have : l = [] := List.length_eq_zero_iff.1 h0
    subst this
    exact RdE.nil w
  · refine ⟨_, cap, rfl, h1, h2, fun h0 => ⟨g, 0, rfl, (Array.getElem?_eq_some_iff.1 hg).1, fun j u hu => ?_⟩⟩
    have hj : j < (E.flat l).length := (List.getElem?_eq_some_iff.1 hu).1
    rw [Nat.zero_add, cell_of_row _ _ _ _ _ _ hg, ← hu, ← h4, List.getElem?_take]
    have hj2 : j < l.length * E.c := by rw [← h4, List.length_take] at hj; omega
    rw [if_pos hj2, Array.getElem?_toList]
theorem OwnE.nil (w : World) (base : Nat) : OwnE E w base (.slice none 0 0) [] := ⟨by simp [El.flat], .inl ⟨rfl, rfl⟩⟩
theorem OwnE.keep {w w' : World} {base B : Nat} {v : Value} {l : List α} (h : OwnE E w base v l) (hb : Below B w w') (hB : w.heap.size ≤ B) : OwnE E w' base v l := by
  refine ⟨h.1, ?_⟩
  rcases h.2 with hn | ⟨g, cap, cur, rfl, hg, hgg, r⟩
  · exact .inl hn
  · exact .inr ⟨g, cap, cur, rfl, hg, by rw [hb.block _ (Nat.lt_of_lt_of_le (Array.getElem?_eq_some_iff.1 hgg).1 hB)]; exact hgg, r⟩
theorem OwnE.on {w w' : World} {base : Nat} {v : Value} {l : List α} (h : OwnE E w base v l) (hb : Below w.heap.size w w') : OwnE E w' base v l := h.keep hb (Nat.le_refl _)
theorem OwnE.mono {w : World} {base base' : Nat} {v : Value} {l : List α} (h : OwnE E w base v l) (hb : base' ≤ base) : OwnE E w base' v l := by
  refine ⟨h.1, ?_⟩
  rcases h.2 with hn | ⟨g, cap, cur, rfl, hg, r⟩
  · exact .inl hn
  · exact .inr ⟨g, cap, cur, rfl, Nat.le_trans hb hg, r⟩
theorem setCell_other {w : World} {g g2 k : Nat} {v : Value} (h : g2 ≠ g) : (w.setCell ⟨g2, k, none⟩ v).heap[g]? = w.heap[g]? := by
  unfold World.setCell
  simp [Array.getElem?_modify, h]
/-- .. whose block is not the one that is written -/
theorem OwnE.setNe {w : World} {base : Nat} {v : Value} {l : List α} {g2 k : Nat} {x : Value} (h : OwnE E w base v l) (hne : v.ownBlock ≠ some g2) : OwnE E (w.setCell ⟨g2, k, none⟩ x) base v l := by
  refine ⟨h.1, ?_⟩
  rcases h.2 with hn | ⟨g, cap, cur, rfl, hg, hgg, r⟩
  · exact .inl hn
  · exact .inr ⟨g, cap, cur, rfl, hg, by rw [setCell_other (fun e => hne (by rw [e]; rfl))]; exact hgg, r⟩
theorem OwnE.lt {w : World} {base : Nat} {v : Value} {l : List α} (h : OwnE E w base v l) : ∀ k, v.ownBlock = some k → base ≤ k ∧ k < w.heap.size := World.ownsRow.lt h
theorem OwnE.neNew {w : World} {base : Nat} {v : Value} {l : List α} (h : OwnE E w base v l) {g : Nat} (hg : w.heap.size ≤ g) : v.ownBlock ≠ some g := fun e => by have := (h.lt g e).2; omega
theorem OwnE.neOld {w : World} {base : Nat} {v : Value} {l : List α} (h : OwnE E w base v l) {g : Nat} (hg : g < base) : v.ownBlock ≠ some g := fun e => by have := (h.lt g e).1; omega
/-- a block of another type is not its block -/
theorem OwnE.neType {w : World} {base : Nat} {v : Value} {l : List α} (h : OwnE E w base v l) {g : Nat} {cs : Array Value} {T : TypeId} {fr : Nat × Nat} (hb : w.heap[g]? = some (.cells cs T fr)) (hT : T ≠ E.T) : v.ownBlock ≠ some g := by
  rcases h.2 with ⟨rfl, _⟩ | ⟨g0, cap, cur, rfl, _, hg, _⟩
  · simp [Value.ownBlock]
  · intro e
    simp only [Value.ownBlock, Option.some.injEq] at e
    subst e
    rw [hg] at hb
    simp only [Option.some.injEq, Obj.cells.injEq] at hb
    exact hT hb.2.1.symm
theorem OwnE.neMap {w : World} {base : Nat} {v : Value} {l : List α} (h : OwnE E w base v l) {g : Nat} {es : Array MapEntry} {n : Nat} (hb : w.heap[g]? = some (.map es n)) : v.ownBlock ≠ some g := by
  rcases h.2 with ⟨rfl, _⟩ | ⟨g0, cap, cur, rfl, _, hg, _⟩
  · simp [Value.ownBlock]
  · intro e
    simp only [Value.ownBlock, Option.some.injEq] at e
    subst e
    rw [hg] at hb
    cases hb
theorem OwnE.grown {w w' : World} {base : Nat} {v : Value} {l : List α} {row : Option Nat} (h : OwnE E w base v l) (hg : w.grownBy w' row) (hne : ∀ g, row = some g → v.ownBlock ≠ some g) : OwnE E w' base v l := by
  refine World.ownsRow.kept h hg ?_
  cases hv : v.ownBlock with
  | none => exact .inl rfl
  | some g =>
    refine .inr fun e => ?_
    exact hne g e.symm (by rw [hv])
/-- two rows of different types -/
theorem OwnE.neOwn {β : Type} {F : El β} {w : World} {b1 b2 : Nat} {v u : Value} {l : List α} {m : List β} (h : OwnE E w b1 v l) (h2 : OwnE F w b2 u m) (hT : F.T ≠ E.T) : ∀ g, u.ownBlock = some g → v.ownBlock ≠ some g := by
  intro g hg
  rcases h2.2 with ⟨rfl, _⟩ | ⟨g0, cap, cur, rfl, _, hgg, _⟩
  · simp [Value.ownBlock] at hg
  · simp only [Value.ownBlock, Option.some.injEq] at hg
    subst hg
    exact h.neType hgg hT
theorem one_e (w : World) (x : α) (hE : E.OK) : RdE E (w.alloc (.cells (E.cf x).toArray E.T)) (.slice (some ⟨w.heap.size, 0, none⟩) 1 1) [x] :=
  ⟨_, 1, rfl, Nat.le_refl _, by unfold maxLen; omega, fun _ => ⟨w.heap.size, 0, rfl, by simp, fun j u hu => by
    rw [cell_of_row _ _ _ _ _ _ (heap_alloc_new _ _), Nat.zero_add]
    simpa [El.flat] using hu⟩⟩
theorem empty_e (w : World) (h0 : E.c = E.c) : OwnE E (w.alloc (.cells #[] E.T)) w.heap.size (.slice (some ⟨w.heap.size, 0, none⟩) 0 0) [] :=
  ⟨by simp [El.flat], .inr ⟨w.heap.size, 0, #[], rfl, Nat.le_refl _, heap_alloc_new _ _, Nat.le_refl _, by unfold maxLen; omega, by simp, by simp [El.flat]⟩⟩
/-- append of elements that can be read to one's own -/
theorem app_e {w : World} {ops : Array Oper} {rest : List Oper} {o : Oper} {a : Act} {Q : Exit → Act → World → Prop} (hE : E.OK) (hgd : o.guard = none) (s x : Operand)
    (ho : o.op = .call { callee := .builtin .append, args := #[s, x], argTypes := #[E.S, E.S] })
    (base : Nat) (v : Value) (l : List α) (hs : a.eval s = v) (hown : OwnE E w base v l) (xv : Value) (news : List α) (hx : a.eval x = xv) (hr : RdE E w xv news)
    (hsz : l.length + news.length ≤ 1000000) (hbase : base ≤ w.heap.size)
    (h : ∀ v' w', OwnE E w' base v' (l ++ news) → w.grownBy w' v.ownBlock → (v'.ownBlock = v.ownBlock ∨ v'.ownBlock = some w.heap.size) → wpList Tryd.prog ops Q rest (a.put o.dst v') w') : wpList Tryd.prog ops Q (o :: rest) a w := by
  obtain ⟨i0, z0, hi, hz, hs9, hz9, hb0, hb1⟩ := hE.info'
  have hfl := hr
  obtain ⟨ad, cap, rfl, hcap, _, hc⟩ := hr
  have hflat := hfl.flatc hE
  cases ad with
  | some p =>
    refine wpList_append_own_at w hgd s x E.S ho base E.T i0 z0 E.c i0.bytes hE.und hi hz hs9 rfl hz9 hE.pos v l.length (E.flat l) hs hown p news.length cap (E.flat news) hx (El.flat_len hE news) (hflat p rfl) (El.flat_one hE news)
      (by unfold maxLen; omega) (Nat.le_trans (Nat.mul_le_mul hsz hb1) (by decide)) hbase ?_
    intro v' w' h1 h2 _ h3
    refine h v' w' ?_ h2 h3
    unfold OwnE
    rw [List.length_append, El.flat_append]
    exact h1
  | none =>
    have hn : news = [] := by
      cases news with
      | nil => rfl
      | cons c l =>
        obtain ⟨b, off, e, _⟩ := hc (by simp)
        cases e
    subst hn
    have key : ∃ ad' n cap', v = .slice ad' n cap' ∧ n ≤ cap' := by
      rcases hown.2 with ⟨rfl, _⟩ | ⟨g, cap', cur, rfl, _, _, h1, _⟩
      · exact ⟨none, 0, 0, rfl, Nat.le_refl _⟩
      · exact ⟨_, _, _, rfl, h1⟩
    obtain ⟨ad', n, cap', rfl, hle⟩ := key
    have hrun := run_append_nothing (P := Tryd.prog) w E.S E.S o.type E.T i0 hE.und hi ad' n cap' hle (.slice none 0 cap) (Src.ofNil w hE.und cap)
    refine wpList_plain hgd fun K hK => ?_
    unfold Oper.wp execOp
    have hx' : a.eval x = .slice none 0 cap := hx
    simp only [ho, resolve, invoke, builtin, Sem.run_bind, Sem.run_pure, Result.andThen_ok, List.map_toArray, List.map_cons, List.map_nil, hs, hx', hrun]
    exact hK _ _ (h _ _ (by rw [List.append_nil]; exact hown) ⟨rfl, rfl, rfl, Nat.le_refl _, fun _ _ _ => rfl⟩ (.inl rfl))
/-- what has grown lies below what is written -/
theorem grown_below {w w' : World} {v : Value} {B : Nat} (hg : w.grownBy w' v.ownBlock) (hB : B ≤ w.heap.size) (hv : ∀ k, v.ownBlock = some k → B ≤ k) : Below B w w' := (Below.refl B w).grown hg hB hv
theorem OwnE.below {w w' : World} {base : Nat} {v : Value} {l : List α} (h : OwnE E w base v l) (hg : w.grownBy w' v.ownBlock) (hB : base ≤ w.heap.size) : Below base w w' := grown_below hg hB (fun k hk => (h.lt k hk).1)
theorem grown_block {w w' : World} {row : Option Nat} (hg : w.grownBy w' row) {g : Nat} (hlt : g < w.heap.size) (hne : ∀ k, row = some k → k ≠ g) : w'.heap[g]? = w.heap[g]? :=
  hg.block g hlt (fun e => hne g e.symm rfl)
end Go.Proofs.YtbpjdfnnlmblaaaDoor
/- Rows of numbers and of texts. -/
namespace Go.Proofs.YtbpjdfnnlmblaaaDoor
open Go.RowKit
set_option linter.unusedSimpArgs false
set_option linter.unusedVariables false
abbrev eI : El Int := ⟨3, 44, 1, fun n => [.int .i64 n]⟩
theorem eI_ok : eI.OK := ⟨Tryd.underlying44, by kernel_rfl, fun _ => rfl, fun x u hu => by simp at hu; rw [hu]; rfl, by decide⟩
end Go.Proofs.YtbpjdfnnlmblaaaDoor
/- Rows of numbers and of pairs; the specification's Plan: what it holds in memory. -/
namespace Go.Proofs.YtbpjdfnnlmblaaaDoor
open Go.RowKit Go.Shelf
set_option linter.unusedSimpArgs false
set_option linter.unusedVariables false
theorem eI_flat (l : List Int) (j : Nat) (h : j < l.length) : (eI.flat l)[j]? = some (.int .i64 (intAt l j)) := by
  have := El.flat_at eI_ok l j 0 h (by decide)
  rw [Nat.mul_one, Nat.add_zero] at this
  rw [this, intAt_eq l j h]
  rfl
theorem rdI_of {w : World} {v : Value} {l : List Int} (h : RdE eI w v l) : RdI w v l := by
  obtain ⟨a, cap, rfl, h1, h2, h3⟩ := h
  refine ⟨a, cap, rfl, h1, h2, fun h0 => ?_⟩
  obtain ⟨b, off, rfl, hlt, hc⟩ := h3 h0
  exact ⟨b, off, rfl, hlt, fun i hi => hc i _ (eI_flat l i hi)⟩
/-- keys of one's own, where another block is written or another row has grown -/
theorem OwnK.neNew {w : World} {base : Nat} {v : Value} {l : List K} (h : OwnK w base v l) {g : Nat} (hg : w.heap.size ≤ g) : v.ownBlock ≠ some g := fun e => by have := (World.ownsRow.lt h g e).2; omega
theorem OwnK.neOld {w : World} {base : Nat} {v : Value} {l : List K} (h : OwnK w base v l) {g : Nat} (hg : g < base) : v.ownBlock ≠ some g := fun e => by have := (World.ownsRow.lt h g e).1; omega
theorem OwnK.on {w w' : World} {base : Nat} {v : Value} {l : List K} (h : OwnK w base v l) (hb : Below w.heap.size w w') : OwnK w' base v l := h.keep hb (Nat.le_refl _)
theorem OwnK.setNe {w : World} {base : Nat} {v : Value} {l : List K} {g2 k : Nat} {x : Value} (h : OwnK w base v l) (hne : v.ownBlock ≠ some g2) : OwnK (w.setCell ⟨g2, k, none⟩ x) base v l := by
  refine ⟨h.1, ?_⟩
  rcases h.2 with hn | ⟨g, cap, cur, rfl, hg, hgg, r⟩
  · exact .inl hn
  · exact .inr ⟨g, cap, cur, rfl, hg, by rw [setCell_block (fun e => hne (by rw [e]; rfl))]; exact hgg, r⟩
theorem OwnK.grown {w w' : World} {base : Nat} {v : Value} {l : List K} {row : Option Nat} (h : OwnK w base v l) (hg : w.grownBy w' row) (hne : ∀ g, row = some g → v.ownBlock ≠ some g) : OwnK w' base v l := by
  refine World.ownsRow.kept h hg ?_
  cases hv : v.ownBlock with
  | none => exact .inl rfl
  | some g => exact .inr fun e => hne g e.symm (by rw [hv])
theorem OwnK.neOwn {β : Type} {F : El β} {w : World} {b1 b2 : Nat} {v u : Value} {l : List K} {m : List β} (h : OwnK w b1 v l) (h2 : OwnE F w b2 u m) (hT : F.T ≠ 48) : ∀ g, u.ownBlock = some g → v.ownBlock ≠ some g := by
  intro g hg
  rcases h2.2 with ⟨rfl, _⟩ | ⟨g0, cap, cur, rfl, _, hgg, _⟩
  · simp [Value.ownBlock] at hg
  · simp only [Value.ownBlock, Option.some.injEq] at hg
    subst hg
    rcases h.2 with ⟨rfl, _⟩ | ⟨g1, cap1, cur1, rfl, _, hg1, _⟩
    · simp [Value.ownBlock]
    · intro e
      simp only [Value.ownBlock, Option.some.injEq] at e
      subst e
      rw [hgg] at hg1
      simp only [Option.some.injEq, Obj.cells.injEq] at hg1
      exact hT hg1.2.1
theorem OwnK.mono {w : World} {base base' : Nat} {v : Value} {l : List K} (h : OwnK w base v l) (hb : base' ≤ base) : OwnK w base' v l := World.ownsRow.mono h hb
/-- the result of the specification's Plan -/
def pl (n : Int) (v vi : Value) (e : Int) : Array Value := #[.int .i64 n, v, vi, .int .i64 e]
/-- the outcome of the specification's Plan -/
def PlanR (w : World) (r : Except Int PS) (e : Ending) (w' : World) : Prop :=
  Below w.heap.size w w' ∧ match r with
  | .ok s => ∃ v vi, e = .returned (.agg (pl s.nx v vi 0)) ∧ RdK w' v s.ks ∧ RdI w' vi s.ids
  | .error c => e = .returned (.agg (pl 0 (.slice none 0 0) (.slice none 0 0) c))
end Go.Proofs.YtbpjdfnnlmblaaaDoor
/- The specification's Plan, refused at once. -/
namespace Go.Proofs.YtbpjdfnnlmblaaaDoor
open Go.RowKit Go.Shelf
set_option linter.unusedSimpArgs false
set_option linter.unusedVariables false
theorem ld_bk2 {w : World} (b : BK) (u : Value) (A C : Obj) : ((((w.alloc A).alloc (.cells (bc b u) 26)).alloc C).heap[w.heap.size + 1]?) = some (.cells (bc b u) 26 (0, 0)) := by
  have h := heap_alloc_new (w.alloc A) (.cells (bc b u) 26)
  rw [World.size_alloc] at h
  have h2 := (Below.refl ((w.alloc A).alloc (.cells (bc b u) 26)).heap.size ((w.alloc A).alloc (.cells (bc b u) 26))).alloc (Nat.le_refl _) C
  rw [h2.block _ (by simp)]
  exact h
attribute [local irreducible] Calls validB planK
end Go.Proofs.YtbpjdfnnlmblaaaDoor
/- The specification's Plan. -/
namespace Go.Proofs.YtbpjdfnnlmblaaaDoor
open Go.RowKit Go.Shelf
set_option linter.unusedSimpArgs false
set_option linter.unusedVariables false
theorem plRun_nil (now : Int) (s : PS) (l : List K) : plRun now s (l.take 0) = .ok s := by rw [List.take_zero]; rfl
/-- the pair at a place -/
def pairAt (l : List (Int × Int)) (j : Nat) : Int × Int := l.getD j (0, 0)
theorem pairAt_eq (l : List (Int × Int)) (j : Nat) (h : j < l.length) : pairAt l j = l[j] := by simp [pairAt, h]
theorem lookP_take (ps : List (Int × Int)) (x : Int) (j : Nat) (h : j < ps.length) : lookP (ps.take (j + 1)) x = if (pairAt ps j).1 = x then (pairAt ps j).2 else lookP (ps.take j) x := by
  rw [List.take_succ_eq_append_getElem h, lookP_snoc, pairAt_eq ps j h]
theorem plStep_three (now : Int) (s : PS) (x : K) : (x.fin ≤ now ∧ plStep now s x = .ok s) ∨ (¬ x.fin ≤ now ∧ twinIs s.ks x = true ∧ plStep now s x = .ok (plTwin s x)) ∨
    (¬ x.fin ≤ now ∧ twinIs s.ks x = false ∧ ((addErr s.nx s.ks (newK s x) ≠ 0 ∧ plStep now s x = .error (addErr s.nx s.ks (newK s x))) ∨ (addErr s.nx s.ks (newK s x) = 0 ∧ plStep now s x = .ok (plAdd s x)))) := by
  rcases plStep_parts now s x with h | h | ⟨a, b, c⟩ | ⟨a, b, c⟩
  · exact .inl h
  · exact .inr (.inl h)
  · exact .inr (.inr ⟨a, b, .inl c⟩)
  · exact .inr (.inr ⟨a, b, .inr c⟩)
theorem kat_par {w : World} {B : Nat} {k : K} (h : KeyAt w B k) (n : Int) : KeyAt (w.setCell ⟨B, 7, none⟩ (.int .i64 n)) B (withPar k n) := by
  unfold KeyAt at *
  rw [setCell_rowK w B 7 _ _ _ _ h, setRow_heap _ _ _ _ _ _ h]
  rfl
theorem KeyAt.grown {w w' : World} {B : Nat} {k : K} {row : Option Nat} (h : KeyAt w B k) (hg : w.grownBy w' row) (hne : ∀ g, row = some g → g ≠ B) : KeyAt w' B k := by
  unfold KeyAt
  rw [grown_block hg h.lt hne]
  exact h
theorem OwnK.form {w : World} {base : Nat} {v : Value} {l : List K} (h : OwnK w base v l) : ∃ a n c, v = .slice a n c := by
  rcases h.2 with ⟨rfl, _⟩ | ⟨g, cap, cur, rfl, _⟩
  · exact ⟨_, _, _, rfl⟩
  · exact ⟨_, _, _, rfl⟩
theorem OwnE.form {α : Type} {E : El α} {w : World} {base : Nat} {v : Value} {l : List α} (h : OwnE E w base v l) : ∃ a n c, v = .slice a n c := by
  rcases h.2 with ⟨rfl, _⟩ | ⟨g, cap, cur, rfl, _⟩
  · exact ⟨_, _, _, rfl⟩
  · exact ⟨_, _, _, rfl⟩
theorem Good.wrap {nx : Int} {tl bl : List K} {now : Int} {s : PS} (h : Good nx tl bl now s) : IntKind.i64.wrap (s.nx + 1) = s.nx + 1 := by
  obtain ⟨_, h1, h2, _⟩ := (validTab_iff _ _).1 h.tab
  rw [IntKind.wrap_i64]
  omega
attribute [local irreducible] Calls validB planK plRun
theorem planR_ok {w w' : World} {s : PS} {e : Ending} {v vi : Value} {r : Except Int PS} (hr : r = .ok s) (he : e = .returned (.agg (pl s.nx v vi 0))) (h1 : RdK w' v s.ks) (h2 : RdI w' vi s.ids) (hb : Below w.heap.size w w') : PlanR w r e w' := by
  subst hr
  exact ⟨hb, v, vi, he, h1, h2⟩
theorem planR_no {w w' : World} {c : Int} {e : Ending} {r : Except Int PS} (hr : r = .error c) (he : e = .returned (.agg (pl 0 (.slice none 0 0) (.slice none 0 0) c))) (hb : Below w.heap.size w w') : PlanR w r e w' := by
  subst hr
  exact ⟨hb, he⟩
attribute [local irreducible] PlanR
end Go.Proofs.YtbpjdfnnlmblaaaDoor
/- A map from numbers to numbers that the call makes, as a function. -/
namespace Go.Proofs.YtbpjdfnnlmblaaaDoor
open Go.RowKit Go.Maps
set_option linter.unusedSimpArgs false
set_option linter.unusedVariables false
theorem lawI : Keyed Tryd.prog 3 := int_keyed Tryd.underlying3
theorem zeroI (w : World) : (zeroValue 3).run Tryd.prog w = .ok (.int .i64 0) w := by kernel_rfl
/-- a number of the machine's -/
def Wf (x : Int) : Prop := (Lit.int .i64 x).wf = true
theorem wf_of {x : Int} (h1 : -9223372036854775808 ≤ x) (h2 : x ≤ 9223372036854775807) : Wf x := WalkArith.wf_i64 ⟨h1, h2⟩
/-- block M is a map of at most n entries that answers f -/
def MapI (w : World) (M n : Nat) (f : Int → Int) : Prop :=
  ∃ D : DataW Unit, w.ownsMap Tryd.prog 3 (plainElem Tryd.prog 3) M n D ∧ IsMap D ∧ ∀ x : Int, Wf x → D.atKey (.int .i64 x) (.lit (.int .i64 0)) = .lit (.int .i64 (f x))
theorem MapI.made (w : World) : MapI (w.alloc (.map #[] 0)) w.heap.size 0 (fun _ => 0) := ⟨_, World.ownsMap_made _ _ _ _, isMap_empty, fun _ _ => rfl⟩
theorem MapI.block {w w' : World} {M n : Nat} {f : Int → Int} (h : MapI w M n f) (hb : w'.heap[M]? = w.heap[M]?) : MapI w' M n f := by
  obtain ⟨D, ⟨es, clock, hh, r⟩, h2⟩ := h
  exact ⟨D, ⟨es, clock, hb.trans hh, r⟩, h2⟩
theorem MapI.at {w : World} {M n : Nat} {f : Int → Int} (h : MapI w M n f) : ∃ es clock, w.heap[M]? = some (.map es clock) := by
  obtain ⟨D, ⟨es, clock, hh, r⟩, h2⟩ := h
  exact ⟨es, clock, hh⟩
theorem MapI.lt {w : World} {M n : Nat} {f : Int → Int} (h : MapI w M n f) : M < w.heap.size := by
  obtain ⟨es, clock, hh⟩ := h.at
  exact (Array.getElem?_eq_some_iff.1 hh).1
theorem MapI.on {w w' : World} {M n : Nat} {f : Int → Int} (h : MapI w M n f) (hb : Below w.heap.size w w') : MapI w' M n f := h.block (hb.block _ h.lt)
theorem MapI.eq {w : World} {M n : Nat} {f g : Int → Int} (h : MapI w M n f) (e : f = g) : MapI w M n g := e ▸ h
/-- a block of cells is not the map's -/
theorem MapI.ne {w : World} {M n : Nat} {f : Int → Int} (h : MapI w M n f) {g : Nat} {cs : Array Value} {T : TypeId} {fr : Nat × Nat} (hg : w.heap[g]? = some (.cells cs T fr)) : g ≠ M := by
  intro e
  subst e
  obtain ⟨es, clock, hh⟩ := h.at
  rw [hg] at hh
  cases hh
/-- m[k] -/
theorem look_i {w : World} {ops : Array Oper} {rest : List Oper} {o : Oper} {a : Act} {Q : Exit → Act → World → Prop}
    (hgd : o.guard = none) (m x : Operand) (hop : o.op = Op.lookup 86 m x false) (M n : Nat) (f : Int → Int) (hm : a.eval m = .map (some M)) (h : MapI w M n f) (k : Int) (hx : a.eval x = .int .i64 k) (hk : Wf k)
    (hK : wpList Tryd.prog ops Q rest (a.put o.dst (.int .i64 (f k))) w) : wpList Tryd.prog ops Q (o :: rest) a w := by
  obtain ⟨D, hown, _, hf⟩ := h
  refine wpList_lookup_own_int w hgd m x 86 hop 3 3 .i64 lawI Tryd.underlying86 Tryd.underlying3 (zeroI _) M n D hm hown _ (.int .i64 k) hx (keyOf_int_mk Tryd.underlying3 hk) ?_
  intro c hat _
  rw [hf k hk] at hat
  cases hat
  exact hK
/-- m[k] = v -/
theorem put_i {w : World} {ops : Array Oper} {rest : List Oper} {o : Oper} {a : Act} {Q : Exit → Act → World → Prop}
    (hgd : o.guard = none) (m x v : Operand) (hop : o.op = Op.mapUpdate 86 m x v) (M n : Nat) (f : Int → Int) (hm : a.eval m = .map (some M)) (h : MapI w M n f) (hn : n < 1000000) (k c : Int) (hx : a.eval x = .int .i64 k) (hv : a.eval v = .int .i64 c) (hk : Wf k) (hc : Wf c)
    (hK : ∀ w', MapI w' M (n + 1) (fun y => if k = y then c else f y) → w.grownBy w' (some M) → wpList Tryd.prog ops Q rest (a.put o.dst undef) w') : wpList Tryd.prog ops Q (o :: rest) a w := by
  obtain ⟨D, hown, hD, hf⟩ := h
  refine wpList_mapUpdate_own w hgd m x v 86 hop 3 3 lawI Tryd.underlying86 _ M n D hm hown (by unfold maxLen; omega) _ _ (.int .i64 k) hx hv (keyOf_int_mk Tryd.underlying3 hk) (.lit (.int .i64 c)) [] (plainElem_int Tryd.underlying3 hc) ?_
  intro w' h1 h2
  refine hK w' ⟨_, h1, hD.put _ _, fun y hy => ?_⟩ h2
  dsimp only
  by_cases e : k = y
  · subst e
    rw [if_pos rfl]
    exact atKey_put_same hD (show Go.WideAt.IsKeyLit (.int .i64 k) from trivial) _ _
  · rw [if_neg e, atKey_put_other (fun e2 => e (by cases e2; rfl))]
    exact hf y hy
end Go.Proofs.YtbpjdfnnlmblaaaDoor
/- The program's Plan: what it holds in memory. -/
namespace Go.Proofs.YtbpjdfnnlmblaaaDoor
open Go.RowKit Go.Shelf
set_option linter.unusedSimpArgs false
set_option linter.unusedVariables false
theorem OwnK.neMap {w : World} {base : Nat} {v : Value} {l : List K} (h : OwnK w base v l) {M n : Nat} {f : Int → Int} (hm : MapI w M n f) : v.ownBlock ≠ some M := by
  obtain ⟨es, clock, hb⟩ := hm.at
  rcases h.2 with ⟨rfl, _⟩ | ⟨g0, cap, cur, rfl, _, hg, _⟩
  · simp [Value.ownBlock]
  · intro e
    simp only [Value.ownBlock, Option.some.injEq] at e
    subst e
    rw [hg] at hb
    cases hb
theorem OwnE.neMapI {α : Type} {E : El α} {w : World} {base : Nat} {v : Value} {l : List α} (h : OwnE E w base v l) {M n : Nat} {f : Int → Int} (hm : MapI w M n f) : v.ownBlock ≠ some M := by
  obtain ⟨es, clock, hb⟩ := hm.at
  exact h.neMap hb
theorem grown_row {w w' : World} {row : Option Nat} (hg : w.grownBy w' row) {g : Nat} {X : Obj} (h : w.heap[g]? = some X) (hne : ∀ k, row = some k → k ≠ g) : w'.heap[g]? = some X :=
  (grown_block hg (Array.getElem?_eq_some_iff.1 h).1 hne).trans h
/-- what the program's Plan holds in memory: the table's box, the backup's, the result's, the keys, the Ids, the map -/
structure PcW (w wr : World) (base M : Nat) (b : BK) (u : Value) (s : PS) (vk vi : Value) : Prop where
  bel : Below w.heap.size w wr
  hb : w.heap.size + 1 + 1 < base
  t : wr.heap[w.heap.size]? = some (.cells #[.int .i64 s.nx, vk] 37 (0, 0))
  bk : wr.heap[w.heap.size + 1]? = some (.cells (bc b u) 26 (0, 0))
  r : wr.heap[w.heap.size + 1 + 1]? = some (.cells #[.int .i64 0, .slice none 0 0] 37 (0, 0))
  k : OwnK wr base vk s.ks
  i : OwnE eI wr base vi s.ids
  m : MapI wr M s.ps.length (lookP s.ps)
  hM : base ≤ M
variable {w wr w' : World} {base M : Nat} {b : BK} {u : Value} {s : PS} {vk vi : Value}
theorem PcW.lt (h : PcW w wr base M b u s vk vi) : w.heap.size + 1 + 1 < wr.heap.size := (Array.getElem?_eq_some_iff.1 h.r).1
theorem PcW.on (h : PcW w wr base M b u s vk vi) (hb : Below wr.heap.size wr w') : PcW w w' base M b u s vk vi :=
  have hl := h.lt
  ⟨h.bel.trans (hb.mono h.bel.size), h.hb, by rw [hb.block _ (by omega)]; exact h.t, by rw [hb.block _ (by omega)]; exact h.bk, by rw [hb.block _ (by omega)]; exact h.r, h.k.on hb, h.i.on hb, h.m.on hb, h.hM⟩
/-- a key of one's own is written -/
theorem PcW.setKey (h : PcW w wr base M b u s vk vi) {g i : Nat} {k : K} {x : Value} (hg : KeyAt wr g k) (hge : w.heap.size + 1 + 1 < g) (hne : vk.ownBlock ≠ some g) : PcW w (wr.setCell ⟨g, i, none⟩ x) base M b u s vk vi :=
  ⟨h.bel.setCell (p := ⟨g, i, none⟩) (by show _ ≤ g; omega) _, h.hb, by rw [setCell_block (by omega)]; exact h.t, by rw [setCell_block (by omega)]; exact h.bk, by rw [setCell_block (by omega)]; exact h.r,
    h.k.setNe hne, h.i.setNe (h.i.neType hg (by decide)), h.m.block (setCell_block (h.m.ne hg)), h.hM⟩
/-- the map is written -/
theorem PcW.put (h : PcW w wr base M b u s vk vi) {p : Int × Int} (hg : wr.grownBy w' (some M)) (hm : MapI w' M (s.ps.length + 1) (fun y => if p.1 = y then p.2 else lookP s.ps y)) : PcW w w' base M b u ⟨s.nx, s.ks, s.ps ++ [p], s.ids⟩ vk vi :=
  ⟨h.bel.grown hg h.bel.size (fun k hk => by cases hk; have := h.hb; have := h.hM; omega), h.hb, grown_row hg h.t (fun k hk e => by cases hk; have := h.hb; have := h.hM; omega), grown_row hg h.bk (fun k hk e => by cases hk; have := h.hb; have := h.hM; omega), grown_row hg h.r (fun k hk e => by cases hk; have := h.hb; have := h.hM; omega),
    h.k.grown hg (fun g hgg => by cases hgg; exact h.k.neMap h.m), h.i.grown hg (fun g hgg => by cases hgg; exact h.i.neMapI h.m),
    (by rw [List.length_append, List.length_singleton]; exact hm.eq (by funext y; rw [lookP_snoc])), h.hM⟩
/-- the table is laid anew -/
theorem PcW.table (h : PcW w wr base M b u s vk vi) {vk' : Value} {n' : Int} {ks' : List K} (hk : OwnK wr base vk' ks') :
    PcW w ((wr.setCell ⟨w.heap.size, 0, none⟩ (.int .i64 n')).setCell ⟨w.heap.size, 1, none⟩ vk') base M b u ⟨n', ks', s.ps, s.ids⟩ vk' vi := by
  have hlt : w.heap.size < base := by have := h.hb; omega
  have h1 := setRow_heap wr w.heap.size _ (#[Value.int .i64 s.nx, vk].setIfInBounds 0 (.int .i64 n')) _ _ h.t
  rw [← setCell_rowK _ _ _ _ _ _ _ h.t] at h1
  have h2 := setRow_heap _ w.heap.size _ ((#[Value.int .i64 s.nx, vk].setIfInBounds 0 (.int .i64 n')).setIfInBounds 1 vk') _ _ h1
  rw [← setCell_rowK _ _ _ _ _ _ _ h1] at h2
  exact ⟨(h.bel.setCell (p := ⟨w.heap.size, 0, none⟩) (Nat.le_refl _) _).setCell (p := ⟨w.heap.size, 1, none⟩) (Nat.le_refl _) _, h.hb, h2, by rw [setCell_block (by omega), setCell_block (by omega)]; exact h.bk, by rw [setCell_block (by omega), setCell_block (by omega)]; exact h.r,
    (hk.setNe (hk.neOld hlt)).setNe (hk.neOld hlt), (h.i.setNe (h.i.neOld hlt)).setNe (h.i.neOld hlt), (h.m.block (setCell_block (by have := h.hM; omega))).block (setCell_block (by have := h.hM; omega)), h.hM⟩
/-- an Id is added -/
theorem PcW.id (h : PcW w wr base M b u s vk vi) {vi' : Value} {d : Int} (hg : wr.grownBy w' vi.ownBlock) (hi : OwnE eI w' base vi' (s.ids ++ [d])) : PcW w w' base M b u ⟨s.nx, s.ks, s.ps, s.ids ++ [d]⟩ vk vi' :=
  have hl := h.hb
  ⟨h.bel.grown hg h.bel.size (fun k hk => by have := (h.i.lt k hk).1; omega), h.hb, grown_row hg h.t (fun k hk e => by have := (h.i.lt k hk).1; omega), grown_row hg h.bk (fun k hk e => by have := (h.i.lt k hk).1; omega), grown_row hg h.r (fun k hk e => by have := (h.i.lt k hk).1; omega),
    h.k.grown hg (h.k.neOwn h.i (by decide)), hi, h.m.block (grown_block hg h.m.lt (fun k hk e => by subst e; exact (h.i.neMapI h.m) hk)), h.hM⟩
theorem validB_key {b : BK} {l : List K} (h : validB b l = true) (i : Nat) (hi : i < l.length) : validK (keyAt l i) = true ∧ 0 < (keyAt l i).id ∧ (keyAt l i).id ≤ 2147483647 := by
  have h2 : (List.range l.length).all (okB l) = true := by
    unfold validB at h
    exact (Bool.and_eq_true _ _ ▸ h).2
  have hall : ∀ i, i < l.length → okB l i = true := fun i hi => List.all_eq_true.1 h2 i (List.mem_range.2 hi)
  have ok : ∀ i, i < l.length → validK (keyAt l i) = true ∧ lastId l i < (keyAt l i).id ∧ (keyAt l i).id ≤ 2147483647 := by
    intro i hi
    have := hall i hi
    unfold okB at this
    simp only [Bool.and_eq_true, decide_eq_true_eq] at this
    exact ⟨this.1.1, this.1.2, this.2⟩
  refine ⟨(ok i hi).1, ?_, (ok i hi).2.2⟩
  have pos : ∀ i, i < l.length → 0 < (keyAt l i).id := by
    intro i
    induction i with
    | zero => intro h0; have := (ok 0 h0).2.1; rw [lastId_zero] at this; exact this
    | succ i ih => intro h0; have h1 := (ok (i + 1) h0).2.1; rw [lastId_succ] at h1; have := ih (by omega); omega
  exact pos i hi
theorem validK_par {k : K} (h : validK k = true) : 0 ≤ k.par ∧ k.par ≤ 2147483647 := by
  unfold validK at h
  simp only [Bool.and_eq_true] at h
  exact (win_iff _ _ _).1 h.2
theorem Good.nxb {nx : Int} {tl bl : List K} {now : Int} (h : Good nx tl bl now s) : 1 ≤ s.nx ∧ s.nx ≤ 2147483647 := by
  obtain ⟨_, h1, h2, _⟩ := (validTab_iff _ _).1 h.tab
  exact ⟨h1, h2⟩
theorem Good.idb {nx : Int} {tl bl : List K} {now : Int} (h : Good nx tl bl now s) (k : K) (hk : k ∈ s.ks) : 0 ≤ k.id ∧ k.id ≤ 2147483647 := by
  obtain ⟨_, h1, h2, h3⟩ := (validTab_iff _ _).1 h.tab
  obtain ⟨i, hi, rfl⟩ := List.mem_iff_getElem.1 hk
  have ok := fun i hi => (okAt_iff _ _ _).1 (h3 i hi)
  have pos : ∀ i, i < s.ks.length → 0 < (keyAt s.ks i).id := by
    intro i
    induction i with
    | zero => intro h0; have := (ok 0 h0).2.1; rw [lastId_zero] at this; exact this
    | succ i ih => intro h0; have h4 := (ok (i + 1) h0).2.1; rw [lastId_succ] at h4; have := ih (by omega); omega
  have h5 := ok i hi
  have h6 := pos i hi
  rw [keyAt_eq _ _ hi] at h5 h6
  omega
theorem Good.twin {nx : Int} {tl bl : List K} {now : Int} (h : Good nx tl bl now s) (x : K) (hx : twinIs s.ks x = true) : Wf (twinId s.ks x) := by
  obtain ⟨k, hk, e⟩ := twinId_mem _ _ hx
  have := h.idb k hk
  rw [e] at this
  exact wf_of (by omega) (by omega)
/-- the outcome of the program's Plan -/
def PlanT (w : World) (r : Except Int PS) (e : Ending) (w' : World) : Prop :=
  Below w.heap.size w w' ∧ match r with
  | .ok s => ∃ v vi, e = .returned (.tuple #[.agg #[.int .i64 s.nx, v], vi, .int .i64 0]) ∧ RdK w' v s.ks ∧ RdI w' vi s.ids
  | .error c => e = .returned (.tuple #[.agg #[.int .i64 0, .slice none 0 0], .slice none 0 0, .int .i64 c])
theorem planT_ok {e : Ending} {v vi : Value} {r : Except Int PS} (hr : r = .ok s) (he : e = .returned (.tuple #[.agg #[.int .i64 s.nx, v], vi, .int .i64 0])) (h1 : RdK w' v s.ks) (h2 : RdI w' vi s.ids) (hb : Below w.heap.size w w') : PlanT w r e w' := by
  subst hr
  exact ⟨hb, v, vi, he, h1, h2⟩
theorem planT_no {c : Int} {e : Ending} {r : Except Int PS} (hr : r = .error c) (he : e = .returned (.tuple #[.agg #[.int .i64 0, .slice none 0 0], .slice none 0 0, .int .i64 c])) (hb : Below w.heap.size w w') : PlanT w r e w' := by
  subst hr
  exact ⟨hb, he⟩
end Go.Proofs.YtbpjdfnnlmblaaaDoor
/- The program's Plan. -/
namespace Go.Proofs.YtbpjdfnnlmblaaaDoor
open Go.RowKit Go.Shelf
set_option linter.unusedSimpArgs false
set_option linter.unusedVariables false
attribute [local irreducible] Calls validB planK plRun
set_option maxRecDepth 100000 in
set_option maxHeartbeats 2000000 in
theorem plan_cn (nx now : Int) (v u : Value) (tl bl : List K) (b : BK) (w : World) (hu : RdK w u bl) (hwf : ∀ i, i < bl.length → (keyAt bl i).wf) (hmo : b.mo.length ≤ maxLen) (he : validB b bl = false ∨ now < 0 ∨ 1099511627776 < now) :
    Calls Tryd.prog 17 #[.agg #[.int .i64 nx, v], .agg (bc b u), .int .i64 now] w fun e w' => e = .returned (.tuple #[.agg #[.int .i64 0, .slice none 0 0], .slice none 0 0, .int .i64 1]) ∧ Below w.heap.size w w' := by
  obtain ⟨W0, hW0⟩ : ∃ W0, W0 = ((w.alloc (.cells #[.int .i64 nx, v] 37)).alloc (.cells (bc b u) 26)).alloc (.cells #[.int .i64 0, .slice none 0 0] 37) := ⟨_, rfl⟩
  have hval := validB_c b u bl W0 (by rw [hW0]; exact ((hu.alloc _).alloc _).alloc _) hwf hmo
  have HB0 := Lib.hid (ld_bk2 (w := w) b u (.cells #[.int .i64 nx, v] 37) (.cells #[.int .i64 0, .slice none 0 0] 37))
  have hbx : ∀ w1, Below W0.heap.size W0 w1 → w1.heap[w.heap.size + 1 + 1]? = some (.cells #[.int .i64 0, .slice none 0 0] 37 (0, 0)) ∧ Below w.heap.size w w1 := by
    intro w1 h
    rw [hW0] at h
    exact ⟨by rw [h.block _ (by simp)]; exact kheap3_2' _ _ _ _, kbelow3 _ _ _ _ h⟩
  have HBX := Lib.hid hbx
  rw [hW0] at hval
  have HW := Lib.hid hW0
  clear hW0 hbx
  have ways : (validB b bl = false) ∨ (validB b bl = true ∧ now < 0) ∨ (validB b bl = true ∧ ¬ now < 0 ∧ 1099511627776 < now) := by
    cases hvv : validB b bl
    · exact .inl rfl
    · by_cases h : now < 0
      · exact .inr (.inl ⟨rfl, h⟩)
      · exact .inr (.inr ⟨rfl, h, by rw [hvv] at he; rcases he with h1 | h1 | h1 <;> first | cases h1 | omega⟩)
  clear he hwf
  rcases ways with h1 | ⟨h1, h2⟩ | ⟨h1, h2, h3⟩
  all_goals
    rw [h1] at hval
    have HVAL := Lib.hid hval
    clear hval h1
    go_enter Tryd.func17, Tryd.ntmps17
    go_wp2_with (first
      | (refine ld_bk b u rfl (.tmp 4) rfl _ rfl _ HB0.out ?_)
      | (go_at_call 24; refine HVAL.out.mono ?_; rintro e w1 ⟨rfl, hb⟩; rw [← HW.out] at hb; obtain ⟨hg, hbb⟩ := HBX.out _ hb; have r0 : w1.cell? ⟨w.heap.size + 1 + 1, 0, none⟩ = some (.int .i64 0) := cell_of_row _ _ _ _ _ _ hg; have r1 : w1.cell? ⟨w.heap.size + 1 + 1, 1, none⟩ = some (.slice none 0 0) := cell_of_row _ _ _ _ _ _ hg; have g0 := frow hg 0; have g1 := frow hg 1; have HBB := Lib.hid hbb; clear hg hb hbb))
    have hle : w.heap.size ≤ w.heap.size + 1 + 1 := by omega
    refine bodyPost_ret (v := .tuple #[.agg #[.int .i64 0, .slice none 0 0], .slice none 0 0, .int .i64 1]) (by simp [results, Tryd.results17, go_sem, r0, r1]) rfl ⟨rfl, ?_⟩
    exact (HBB.out.setCell (p := ⟨w.heap.size + 1 + 1, 0, none⟩) hle _).setCell (p := ⟨w.heap.size + 1 + 1, 1, none⟩) hle _
theorem pc_start {w w2 : World} {base : Nat} {b : BK} {u vk v0 : Value} {nx : Int} {tl : List K} (hbb : Below w.heap.size w w2) (hb : w.heap.size + 1 + 1 < base) (hs : base ≤ w2.heap.size) (ht : w2.heap[w.heap.size]? = some (.cells #[.int .i64 nx, v0] 37 (0, 0)))
    (hbk : w2.heap[w.heap.size + 1]? = some (.cells (bc b u) 26 (0, 0))) (hr : w2.heap[w.heap.size + 1 + 1]? = some (.cells #[.int .i64 0, .slice none 0 0] 37 (0, 0))) (hk : OwnK w2 base vk tl) :
    PcW w ((w2.setCell ⟨w.heap.size, 1, none⟩ vk).alloc (.map #[] 0)) base w2.heap.size b u ⟨nx, tl, [], []⟩ vk (.slice none 0 0) := by
  have h1 := setRow_heap w2 w.heap.size _ (#[Value.int .i64 nx, v0].setIfInBounds 1 vk) _ _ ht
  rw [← setCell_rowK _ _ _ _ _ _ _ ht] at h1
  have hold : ∀ g, g < w2.heap.size → ((w2.setCell ⟨w.heap.size, 1, none⟩ vk).alloc (.map #[] 0)).heap[g]? = (w2.setCell ⟨w.heap.size, 1, none⟩ vk).heap[g]? := fun g hg =>
    ((Below.refl (w2.setCell ⟨w.heap.size, 1, none⟩ vk).heap.size _).alloc (Nat.le_refl _) (.map #[] 0)).block _ (by rw [setCell_size]; exact hg)
  have hm := MapI.made (w2.setCell ⟨w.heap.size, 1, none⟩ vk)
  rw [setCell_size] at hm
  refine ⟨(hbb.setCell (p := ⟨w.heap.size, 1, none⟩) (Nat.le_refl _) _).alloc (by rw [setCell_size]; omega) _, hb, by rw [hold _ (by omega)]; exact h1, by rw [hold _ (by omega), setCell_block (by omega)]; exact hbk, by rw [hold _ (by omega), setCell_block (by omega)]; exact hr, ?_, OwnE.nil _ _, hm.eq rfl, hs⟩
  exact (hk.setNe (hk.neOld (by omega))).on ((Below.refl _ _).alloc (Nat.le_refl _) _)
attribute [local irreducible] PlanT
set_option maxRecDepth 100000 in
set_option maxHeartbeats 8000000 in
theorem plan_cy (nx now : Int) (v u : Value) (tl bl : List K) (b : BK) (w : World) (hv : RdK w v tl) (hu : RdK w u bl) (hwf : ∀ i, i < bl.length → (keyAt bl i).wf) (hmo : b.mo.length ≤ maxLen) (htl : tl.length ≤ 1000) (hbl : bl.length ≤ 40) (htab : validTab nx tl = true)
    (hvb : validB b bl = true) (h0 : ¬ now < 0) (h1 : ¬ 1099511627776 < now) :
    Calls Tryd.prog 17 #[.agg #[.int .i64 nx, v], .agg (bc b u), .int .i64 now] w (PlanT w (plRun now ⟨nx, tl, [], []⟩ bl)) := by
  obtain ⟨W0, hW0⟩ : ∃ W0, W0 = ((w.alloc (.cells #[.int .i64 nx, v] 37)).alloc (.cells (bc b u) 26)).alloc (.cells #[.int .i64 0, .slice none 0 0] 37) := ⟨_, rfl⟩
  have hval := validB_c b u bl W0 (by rw [hW0]; exact ((hu.alloc _).alloc _).alloc _) hwf hmo
  have HB0 := Lib.hid (ld_bk2 (w := w) b u (.cells #[.int .i64 nx, v] 37) (.cells #[.int .i64 0, .slice none 0 0] 37))
  have hbx : ∀ w1, Below W0.heap.size W0 w1 → w1.heap[w.heap.size]? = some (.cells #[.int .i64 nx, v] 37 (0, 0)) ∧ w1.heap[w.heap.size + 1]? = some (.cells (bc b u) 26 (0, 0)) ∧
      w1.heap[w.heap.size + 1 + 1]? = some (.cells #[.int .i64 0, .slice none 0 0] 37 (0, 0)) ∧ Below w.heap.size w w1 := by
    intro w1 h
    rw [hW0] at h
    exact ⟨by rw [h.block _ (by simp; omega)]; exact kheap3_0 _ _ _ _, by rw [h.block _ (by simp)]; exact ld_bk2 _ _ _ _, by rw [h.block _ (by simp)]; exact kheap3_2' _ _ _ _, kbelow3 _ _ _ _ h⟩
  have HBX := Lib.hid hbx
  have hszW : w.heap.size + 1 + 1 < W0.heap.size := by rw [hW0]; simp
  have HV : Hid (RdK W0 v tl) := Lib.hid (by rw [hW0]; exact ((hv.alloc _).alloc _).alloc _)
  have HU : Hid (RdK w u bl) := Lib.hid hu
  have hcl := clone_k v tl
  rw [hW0] at hval
  have HW := Lib.hid hW0
  have HGOOD := Lib.hid (Good.start nx tl bl now htab)
  have HKEY := Lib.hid (fun i hi => validB_key hvb i hi)
  have HWF := Lib.hid hwf
  rw [hvb] at hval
  have HVAL := Lib.hid hval
  have HTW := Lib.hid (fun (s : PS) (x : K) (vk : Value) (w' : World) (h : RdK w' vk s.ks) => twin_c s.nx vk s.ks x w' h)
  unfold kv kc at HTW
  have hulen := hu.len
  obtain ⟨a, cap, rfl, _, _, _⟩ := hv
  obtain ⟨a2, cap2, rfl, _, _, _⟩ := hu
  unfold maxLen at hulen
  have HCL := Lib.hid hcl
  clear hW0 hbx hval hvb htab hwf hcl
  have hmm := @run_makeMap Tryd.prog
  go_enter Tryd.func17, Tryd.ntmps17
  go_wp2_with (first
    | (refine ld_bk b _ rfl (.tmp 4) rfl _ rfl _ HB0.out ?_)
    | (go_at_call 24; refine HVAL.out.mono ?_; rintro e w1 ⟨rfl, hb⟩; rw [← HW.out] at hb; obtain ⟨ht1, hb1, hr1, hbb⟩ := HBX.out _ hb; have t1 : w1.cell? ⟨w.heap.size, 1, none⟩ = some (.slice a tl.length cap) := cell_of_row _ _ _ _ _ _ ht1; have HBB := Lib.hid hbb; have HB1 := Lib.hid hb; have hb1s := hb.size; have z0 : w.heap.size < w1.heap.size := (by omega); have z2 : w.heap.size + 1 + 1 < w1.heap.size := (by omega); clear hb hbb ht1 hb1 hr1)
    | (go_at_call 46; refine (HCL.out _ (HV.out.on HB1.out) (by omega)).mono ?_; rintro e w2 ⟨v1, rfl, ho2, hb2⟩; obtain ⟨ht2, hb2', hr2, hbb2⟩ := HBX.out _ (HB1.out.trans (hb2.mono hb1s)); have t0 : w2.cell? ⟨w.heap.size, 0, none⟩ = some (.int .i64 nx) := cell_of_row _ _ _ _ _ _ ht2; have t1' : w2.cell? ⟨w.heap.size, 1, none⟩ = some (.slice a tl.length cap) := cell_of_row _ _ _ _ _ _ ht2; have g1 := frow ht2 1; have b37 : w2.cell? ⟨w.heap.size + 1, 37, none⟩ = some (.slice a2 bl.length cap2) := (cell_of_row _ _ _ _ _ _ hb2').trans (bc_37 b _); obtain ⟨va, ln, vc, rfl⟩ := ho2.form; have HO2 := Lib.hid ho2; have HT2 := Lib.hid ht2; have HB2 := Lib.hid hb2'; have HR2 := Lib.hid hr2; have HBB2 := Lib.hid hbb2; have hb2s := hb2.size; have y0 : w.heap.size < w2.heap.size := (by omega); have y1 : w.heap.size + 1 < w2.heap.size := (by omega); have yn : w.heap.size + 1 ≠ w.heap.size := (by omega); clear ht2 hb2' hr2 hbb2 ho2 hb2))
  skip
  go_loopw [10, 39] (fun vi o wr => ∃ (i : Nat) (s : PS) (vk : Value), i ≤ bl.length ∧ o = .int .i64 i ∧ Hid (plRun now ⟨nx, tl, [], []⟩ (bl.take i) = .ok s) ∧ Hid (PcW w wr w1.heap.size w2.heap.size b (.slice a2 bl.length cap2) s vk vi)) (fun _ o _ => bl.length - (intOf o).toNat)
  case atStart => exact ⟨0, ⟨nx, tl, [], []⟩, _, Nat.zero_le _, rfl, Lib.hid (plRun_nil _ _ _), Lib.hid (pc_start HBB2.out z2 hb2s HT2.out HB2.out HR2.out HO2.out)⟩
  case round =>
    obtain ⟨i, s, vk, hi, rfl, hrun, hpc⟩ := hrel
    have hlt3 := hpc.out.lt
    have y0 : w.heap.size < wr.heap.size := by omega
    have y1 : w.heap.size + 1 < wr.heap.size := by omega
    have n1 : w.heap.size ≠ wr.heap.size := by omega
    have n2 : wr.heap.size ≠ w.heap.size := by omega
    have r0 : wr.cell? ⟨w.heap.size, 0, none⟩ = some (.int .i64 s.nx) := cell_of_row _ _ _ _ _ _ hpc.out.t
    have r1 : wr.cell? ⟨w.heap.size, 1, none⟩ = some vk := cell_of_row _ _ _ _ _ _ hpc.out.t
    have hlen := plRun_len _ _ _ hrun.out
    rw [List.length_take] at hlen
    simp only [List.length_nil] at hlen
    have HLN : Hid (s.ps.length ≤ 40 ∧ s.ids.length ≤ 40 ∧ s.ks.length ≤ 1040) := Lib.hid (by omega)
    have HGS : Hid (Good nx tl bl now s) := Lib.hid (HGOOD.out.run _ (fun x hx => List.mem_of_mem_take hx) hrun.out)
    clear hlen
    by_cases hlt : i < bl.length
    · obtain ⟨bb, off, rfl, hbl2, hrow⟩ := ((HU.out.on hpc.out.bel).cells) (by omega)
      obtain ⟨d0, d1, d2, d3, d4, d5, d6, d7, d8⟩ := hrow i hlt
      have i1 : (i : Int) < bl.length := by omega
      have hstep := plRun_take now _ s bl i hlt hrun.out
      have HFELL := Lib.hid (plRun_fell now _ s bl i hlt hrun.out)
      have HK := Lib.hid hlt
      have HID : Hid (Wf (keyAt bl i).id) := Lib.hid (by have := HKEY.out i hlt; exact wf_of (by omega) (by omega))
      have HPAR : Hid (Wf (keyAt bl i).par) := Lib.hid (by have := validK_par (HKEY.out i hlt).1; exact wf_of (by omega) (by omega))
      have HX : Hid (∀ w3, Below (wr.alloc (.cells (kc (keyAt bl i)) 48)).heap.size (wr.alloc (.cells (kc (keyAt bl i)) 48)) w3 → PcW w w3 w1.heap.size w2.heap.size b (.slice (some ⟨bb, off, none⟩) bl.length cap2) s vk u10 ∧ KeyAt w3 wr.heap.size (keyAt bl i)) :=
        Lib.hid (fun w3 h3 => ⟨(hpc.out.on ((Below.refl _ _).alloc (Nat.le_refl _) _)).on h3, (KeyAt.new wr (keyAt bl i)).on h3⟩)
      have HNE := Lib.hid (hpc.out.k.neNew (Nat.le_refl _))
      have hpw := hpc.out.k.rd
      clear hrow hlt
      rcases plStep_three now s (keyAt bl i) with ⟨hf, hst⟩ | ⟨hf, ht, hst⟩ | ⟨hf, ht, hst⟩
      · rw [hst] at hstep
        have HS := Lib.hid hstep
        clear hst hstep
        have X1 := Lib.hid (HX.out _ (Below.refl _ _)).1
        unfold kc at X1
        go_wp2
        go_roundw
        case rel => exact ⟨i + 1, s, vk, HK.out, by go_num, HS, X1⟩
        case measure => have := HK.out; simp [intOf]; omega
      · rw [hst] at hstep
        have HS := Lib.hid hstep
        have HWT := Lib.hid (HGS.out.twin (keyAt bl i) ht)
        have htw := HTW.out s (keyAt bl i) vk _ (hpw.alloc (.cells (kc (keyAt bl i)) 48))
        rw [ht] at htw
        have HT := Lib.hid htw
        unfold kc at HT HX
        clear hst hstep htw ht hpw
        go_wp2_with (first
          | (go_at_call 19; refine HT.out.mono ?_; rintro e w3 ⟨rfl, hb3⟩; obtain ⟨x1, x2⟩ := HX.out _ hb3; have e0 : w3.cell? ⟨wr.heap.size, 0, none⟩ = some (.int .i64 (keyAt bl i).id) := x2.cell 0; have X1 := Lib.hid x1; clear x1 x2)
          | (refine put_i rfl (.tmp 54) (.tmp 56) (.tmp 57) rfl w2.heap.size s.ps.length _ rfl X1.out.m (by have := HLN.out; omega) (keyAt bl i).id (twinId s.ks (keyAt bl i)) rfl rfl HID.out HWT.out ?_; intro w4 hm4 hg4; have X4 := Lib.hid (X1.out.put (p := ((keyAt bl i).id, twinId s.ks (keyAt bl i))) hg4 hm4); clear hm4 hg4))
        go_roundw
        case rel => exact ⟨i + 1, _, vk, HK.out, by go_num, HS, X4⟩
        case measure => have := HK.out; simp [intOf]; omega
      · have HST := Lib.hid hst
        have HSTEP := Lib.hid hstep
        have htw := HTW.out s (keyAt bl i) vk _ (hpw.alloc (.cells (kc (keyAt bl i)) 48))
        rw [ht] at htw
        have HT := Lib.hid htw
        unfold kc at HT HX
        clear hst hstep htw ht hpw
        go_wp2_with (first
          | (go_at_call 19; refine HT.out.mono ?_; rintro e w3 ⟨rfl, hb3⟩; obtain ⟨x1, x2⟩ := HX.out _ hb3; have r0 : w3.cell? ⟨w.heap.size, 0, none⟩ = some (.int .i64 s.nx) := cell_of_row _ _ _ _ _ _ x1.t; have r1 : w3.cell? ⟨w.heap.size, 1, none⟩ = some vk := cell_of_row _ _ _ _ _ _ x1.t; obtain ⟨k0, k1, k2, k3, k4, k5, k6, k7, k8⟩ := x2.nine; simp only [Nat.zero_add] at k1 k2 k3 k4 k5 k6 k7 k8; have kf := x2.free 7; have X1 := Lib.hid x1; have X2 := Lib.hid x2; have x2s := x2.lt; clear x1 x2)
          | (refine look_i rfl (.tmp 60) (.tmp 62) rfl w2.heap.size s.ps.length _ rfl X1.out.m (keyAt bl i).par rfl HPAR.out ?_))
        have H5 : Hid (PcW w (w3.setCell ⟨wr.heap.size, 7, none⟩ (.int .i64 (lookP s.ps (keyAt bl i).par))) w1.heap.size w2.heap.size b (.slice (some ⟨bb, off, none⟩) bl.length cap2) s vk u10) := Lib.hid (X1.out.setKey X2.out hlt3 HNE.out)
        clear k0 k1 k2 k3 k4 k5 k6 k7 k8 kf r0 r1 hrun
        generalize hw5 : w3.setCell ⟨wr.heap.size, 7, none⟩ (.int .i64 (lookP s.ps (keyAt bl i).par)) = w5 at *
        clear hw5
        have l5 := H5.out.lt
        have hwfn : (newK s (keyAt bl i)).wf := ⟨(HWF.out i HK.out).id, (HWF.out i HK.out).uses⟩
        rcases HST.out with ⟨he, hst⟩ | ⟨he, hst⟩
        · have hadd := add_cn s.nx vk s.ks (newK s (keyAt bl i)) w5 H5.out.k.rd hwfn he
          generalize addErr s.nx s.ks (newK s (keyAt bl i)) = er at *
          unfold kv kc at hadd
          dsimp only [newK, withPar] at hadd
          have e1 : (er == 0) = false := by rw [beq_eq_false_iff_ne]; exact he
          have e2 : (er != 0) = true := by rw [bne_iff_ne]; exact he
          have HFE := Lib.hid (HFELL.out er hst)
          clear he hst HST HSTEP hwfn
          refine hadd.mono ?_
          rintro e w6 ⟨rfl, hb6⟩
          have H6 := Lib.hid (H5.out.on hb6)
          have q0 : w6.cell? ⟨w.heap.size + 1 + 1, 0, none⟩ = some (.int .i64 0) := cell_of_row _ _ _ _ _ _ H6.out.r
          have q1 : w6.cell? ⟨w.heap.size + 1 + 1, 1, none⟩ = some (.slice none 0 0) := cell_of_row _ _ _ _ _ _ H6.out.r
          have g0 := frow H6.out.r 0
          have g1 := frow H6.out.r 1
          have l6 := H6.out.lt
          have b6s := H6.out.bel.size
          clear hadd hb6
          go_wp2
          refine bodyPost_ret (v := .tuple #[.agg #[.int .i64 0, .slice none 0 0], .slice none 0 0, .int .i64 er]) (by simp [results, Tryd.results17, go_sem, q0, q1, l6]) rfl (planT_no HFE.out rfl ?_)
          have hle : w.heap.size ≤ w.heap.size + 1 + 1 := by omega
          exact ((H6.out.bel.setCell (p := ⟨w.heap.size + 1 + 1, 0, none⟩) hle _).setCell (p := ⟨w.heap.size + 1 + 1, 1, none⟩) hle _).alloc (by simp only [setCell_size]; omega) _
        · have hadd := addKey_c s.nx vk s.ks (newK s (keyAt bl i)) w5 H5.out.k.rd hwfn he (by have := HLN.out; omega) HGS.out.wrap
          have HS : Hid (plRun now ⟨nx, tl, [], []⟩ (bl.take (i + 1)) = .ok (plAdd s (keyAt bl i))) := Lib.hid (HSTEP.out.trans hst)
          generalize hks : s.ks ++ [withId (newK s (keyAt bl i)) s.nx] = ks' at hadd
          have HKS := Lib.hid hks
          have HNX : Hid (Wf s.nx) := Lib.hid (by have := HGS.out.nxb; exact wf_of (by omega) (by omega))
          unfold kv kc at hadd
          dsimp only [newK, withPar] at hadd
          clear he hst HST HSTEP HFELL hks hwfn
          refine hadd.mono ?_
          rintro e w6 ⟨vn, rfl, ho6, hb6⟩
          have H6 := Lib.hid (H5.out.on hb6)
          have hbs5 : w1.heap.size ≤ w5.heap.size := by have := H5.out.hM; have := H5.out.m.lt; omega
          have ho6' := ho6.mono hbs5
          obtain ⟨va6, ln6, vc6, rfl⟩ := ho6'.form
          have H7 := Lib.hid (H6.out.table (n' := s.nx + 1) ho6')
          have r0 : w6.cell? ⟨w.heap.size, 0, none⟩ = some (.int .i64 s.nx) := cell_of_row _ _ _ _ _ _ H6.out.t
          have r1 : w6.cell? ⟨w.heap.size, 1, none⟩ = some vk := cell_of_row _ _ _ _ _ _ H6.out.t
          have g0 := frow H6.out.t 0
          have g1 := frow H6.out.t 1
          have l6 : w.heap.size < w6.heap.size := by have := H6.out.lt; omega
          have b6s : w1.heap.size ≤ w6.heap.size := by have := hb6.size; omega
          clear ho6 ho6' hb6 hadd
          go_wp2_with (first
            | (refine put_i rfl (.tmp 76) (.tmp 77) (.tmp 79) rfl w2.heap.size s.ps.length _ rfl (H7.out.m.on ((Below.refl _ _).alloc (Nat.le_refl _) _)) (by have := HLN.out; omega) (keyAt bl i).id s.nx rfl rfl HID.out HNX.out ?_; intro w8 hm8 hg8; have H8 := Lib.hid ((H7.out.on ((Below.refl _ _).alloc (Nat.le_refl _) _)).put (p := ((keyAt bl i).id, s.nx)) hg8 hm8); have b8s := hg8.size; simp only [World.size_alloc, setCell_size] at b8s; clear hm8 hg8)
            | (at_builtin; refine app_e eI_ok rfl (.tmp 80) (.tmp 82) rfl w1.heap.size u10 s.ids rfl (H8.out.on ((Below.refl _ _).alloc (Nat.le_refl _) _)).i (.slice (some ⟨w8.heap.size, 0, none⟩) 1 1) [s.nx] rfl (one_e w8 s.nx eI_ok) (by have := HLN.out; simp; omega) (by simp; omega) ?_; intro vi' w9 hi' hg' hloc; have H9 := Lib.hid ((H8.out.on ((Below.refl _ _).alloc (Nat.le_refl _) _)).id hg' hi'); clear hi' hg' hloc))
          go_roundw
          case rel => exact ⟨i + 1, _, _, HK.out, by go_num, HS, Lib.hid (by rw [← HKS.out] at H9; exact H9.out)⟩
          case measure => have := HK.out; simp [intOf]; omega
    · have i1 : (bl.length : Int) ≤ i := by omega
      have hrun' := hrun.out
      rw [List.take_of_length_le (by omega)] at hrun'
      have HR := Lib.hid hrun'
      have q0 : wr.cell? ⟨w.heap.size + 1 + 1, 0, none⟩ = some (.int .i64 0) := cell_of_row _ _ _ _ _ _ hpc.out.r
      have q1 : wr.cell? ⟨w.heap.size + 1 + 1, 1, none⟩ = some (.slice none 0 0) := cell_of_row _ _ _ _ _ _ hpc.out.r
      have g0 := frow hpc.out.r 0
      have g1 := frow hpc.out.r 1
      obtain ⟨vka, vkn, vkc, rfl⟩ := hpc.out.k.form
      have lb : w.heap.size + 1 + 1 < w1.heap.size := z2
      clear hrun hrun'
      go_wp2
      refine bodyPost_ret (v := .tuple #[.agg #[.int .i64 s.nx, .slice vka vkn vkc], u10, .int .i64 0]) (by simp [results, Tryd.results17, go_sem, q0, q1]) rfl (planT_ok HR.out rfl ?_ ?_ ?_)
      · exact ((hpc.out.k.setNe (hpc.out.k.neOld lb)).setNe (hpc.out.k.neOld lb)).rd
      · exact rdI_of ((hpc.out.i.setNe (hpc.out.i.neOld lb)).setNe (hpc.out.i.neOld lb)).rd
      · have hle : w.heap.size ≤ w.heap.size + 1 + 1 := by omega
        exact (hpc.out.bel.setCell (p := ⟨w.heap.size + 1 + 1, 0, none⟩) hle _).setCell (p := ⟨w.heap.size + 1 + 1, 1, none⟩) hle _
end Go.Proofs.YtbpjdfnnlmblaaaDoor
/- Tables, backups, keys and places that come in. -/
namespace Go.Proofs.YtbpjdfnnlmblaaaDoor
open Go.ChangeShapes Go.WideShapes Go.ChangeAt Go.RowKit Go.Deep
set_option linter.unusedSimpArgs false
set_option linter.unusedVariables false
set_option maxRecDepth 10000
section
variable {H : Type} {enc : TypeId × Value → H} {w : World} {base : Nat} {sp : Nat → Bool} {held : Bool}
theorem fld {T t : TypeId} {fs : Array Field} {fuel : Nat} {cs : List Value} {x : DataW H × List MemPlace} (ht : Tryd.prog.underlying T = some (.struct fs)) (h : DataW.trod enc Tryd.prog w base sp held fuel T cs = some x) (i o c : Nat)
    (hf : (fs.toList.map fun f => (f.type, f.offset))[i]? = some (t, o)) (hc : Tryd.prog.cellsOf t = c) : ∃ n y, DataW.trod enc Tryd.prog w base sp held n t ((cs.drop o).take c) = some y := by
  obtain ⟨xs, n, _, _, _, hxs, hh⟩ := DataW.trod_struct ht h
  rw [List.getElem?_map] at hf
  cases hfi : fs.toList[i]? with
  | none => rw [hfi] at hf; cases hf
  | some f =>
    rw [hfi] at hf
    simp only [Option.map_some, Option.some.injEq, Prod.mk.injEq] at hf
    have hfa : fs[i]? = some f := by rw [← Array.getElem?_toList]; exact hfi
    have h1 := hh i f hfa
    rw [hf.1, hf.2, hc] at h1
    have hlt : i < xs.length := by rw [hxs]; exact (Array.getElem?_eq_some_iff.1 hfa).1
    exact ⟨n, xs[i], by rw [h1, List.getElem?_eq_getElem hlt]⟩
theorem fld_len {T : TypeId} {fs : Array Field} {fuel c : Nat} {cs : List Value} {x : DataW H × List MemPlace} (ht : Tryd.prog.underlying T = some (.struct fs)) (hc : Tryd.prog.cellsOf T = c) (h : DataW.trod enc Tryd.prog w base sp held fuel T cs = some x) : cs.length = c := by
  obtain ⟨xs, n, _, _, hl, _⟩ := DataW.trod_struct ht h
  rw [hl, hc]
theorem cut1 {cs : List Value} {o : Nat} {v : Value} (h : (cs.drop o).take 1 = [v]) : cs[o]? = some v := cell_of_cut h
theorem fld_int {T : TypeId} {fs : Array Field} {fuel : Nat} {cs : List Value} {x : DataW H × List MemPlace} (ht : Tryd.prog.underlying T = some (.struct fs)) (h : DataW.trod enc Tryd.prog w base sp held fuel T cs = some x) (i o : Nat)
    (hf : (fs.toList.map fun f => (f.type, f.offset))[i]? = some (3, o)) : ∃ z : Int, cs[o]? = some (.int .i64 z) ∧ (Lit.int .i64 z).wf = true := by
  obtain ⟨n, y, hy⟩ := fld ht h i o 1 hf (by kernel_rfl)
  obtain ⟨z, hz, _, hw⟩ := DataW.trod_int Tryd.underlying3 hy
  exact ⟨z, cut1 hz, hw⟩
theorem fld_str {T : TypeId} {fs : Array Field} {fuel : Nat} {cs : List Value} {x : DataW H × List MemPlace} (ht : Tryd.prog.underlying T = some (.struct fs)) (h : DataW.trod enc Tryd.prog w base sp held fuel T cs = some x) (i o : Nat)
    (hf : (fs.toList.map fun f => (f.type, f.offset))[i]? = some (9, o)) : ∃ l : List UInt8, cs[o]? = some (.string ⟨l.toArray⟩) ∧ l.length ≤ maxLen := by
  obtain ⟨n, y, hy⟩ := fld ht h i o 1 hf (by kernel_rfl)
  obtain ⟨s, hs, _, hl⟩ := DataW.trod_string Tryd.underlying9 hy
  obtain ⟨l, rfl⟩ := str_of s
  exact ⟨l, cut1 hs, hl⟩
theorem fld_bool {T : TypeId} {fs : Array Field} {fuel : Nat} {cs : List Value} {x : DataW H × List MemPlace} (ht : Tryd.prog.underlying T = some (.struct fs)) (h : DataW.trod enc Tryd.prog w base sp held fuel T cs = some x) (i o : Nat)
    (hf : (fs.toList.map fun f => (f.type, f.offset))[i]? = some (4, o)) : ∃ b : Bool, cs[o]? = some (.bool b) := by
  obtain ⟨n, y, hy⟩ := fld ht h i o 1 hf (by kernel_rfl)
  obtain ⟨b, hb, _⟩ := DataW.trod_bool Tryd.underlying4 hy
  exact ⟨b, cut1 hb⟩
theorem u8_of {a : Int} (h : (Lit.int .u8 a).wf = true) : ∃ c : UInt8, a = B8 c := by
  simp only [Lit.wf, Bool.and_eq_true, decide_eq_true_eq] at h
  have h1 : (0 : Int) ≤ a := h.1
  have h2 : a ≤ 255 := h.2
  refine ⟨UInt8.ofNat a.toNat, ?_⟩
  unfold B8
  rw [UInt8.toNat_ofNat_of_lt' (by show a.toNat < 256; omega)]
  omega
theorem wrap_of {a : Int} (h : (Lit.int .i64 a).wf = true) : IntKind.i64.wrap a = a := by
  have := i64_of h
  rw [IntKind.wrap_i64]
  omega
theorem choose_bytes {Q : Nat → UInt8 → Prop} (n : Nat) (h : ∀ i, i < n → ∃ c, Q i c) : ∃ d : List UInt8, d.length = n ∧ ∀ i, i < n → Q i (byteAt d i) := by
  induction n with
  | zero => exact ⟨[], rfl, fun i hi => absurd hi (by omega)⟩
  | succ n ih =>
    obtain ⟨d, hd, hq⟩ := ih (fun i hi => h i (by omega))
    obtain ⟨c, hc⟩ := h n (by omega)
    refine ⟨d ++ [c], by simp [hd], fun i hi => ?_⟩
    by_cases e : i < n
    · have : byteAt (d ++ [c]) i = byteAt d i := by unfold byteAt; rw [List.getD_eq_getElem?_getD, List.getD_eq_getElem?_getD, List.getElem?_append_left (by omega)]
      rw [this]; exact hq i e
    · obtain rfl : i = n := by omega
      have : byteAt (d ++ [c]) i = c := by unfold byteAt; rw [List.getD_eq_getElem?_getD, List.getElem?_append_right (by omega), hd]; simp
      rw [this]; exact hc
theorem dig_of {fuel : Nat} {cs : List Value} {x : DataW H × List MemPlace} (h : DataW.trod enc Tryd.prog w base sp held fuel 23 cs = some x) : ∃ d : List UInt8, cs = (drow d).toList := by
  obtain ⟨xs, m, _, _, hl, hxs, hh⟩ := DataW.trod_array Tryd.underlying23 h
  have hc : Tryd.prog.cellsOf 23 = 16 := by kernel_rfl
  have hu : Tryd.prog.cellsOf 5 = 1 := by kernel_rfl
  rw [hc] at hl
  rw [hu] at hh
  have key : ∀ i, i < 16 → ∃ c : UInt8, cs[i]? = some (.int .u8 (B8 c)) := by
    intro i hi
    have h1 := hh i hi
    rw [List.getElem?_eq_getElem (by omega : i < xs.length), Nat.mul_one] at h1
    obtain ⟨z, hz, _, hw⟩ := DataW.trod_int Tryd.underlying5 h1
    obtain ⟨c, rfl⟩ := u8_of hw
    exact ⟨c, cut1 hz⟩
  obtain ⟨d, hd, hq⟩ := choose_bytes 16 key
  refine ⟨d, List.ext_getElem? fun i => ?_⟩
  have e : (drow d).toList = (List.range 16).map (dcell d) := rfl
  rw [e]
  by_cases hi : i < 16
  · rw [hq i hi]; simp [hi, dcell]
  · rw [List.getElem?_eq_none (by omega), List.getElem?_eq_none (by simp; omega)]
theorem und_k : Tryd.prog.underlying 48 = some (.struct (Tryd.prog.fieldsOf 48)) := by kernel_rfl
theorem und_t : Tryd.prog.underlying 37 = some (.struct (Tryd.prog.fieldsOf 37)) := by kernel_rfl
theorem und_b : Tryd.prog.underlying 26 = some (.struct (Tryd.prog.fieldsOf 26)) := by kernel_rfl
theorem und_p : Tryd.prog.underlying 82 = some (.struct (Tryd.prog.fieldsOf 82)) := by kernel_rfl
theorem fs_k : ((Tryd.prog.fieldsOf 48).toList.map fun f => (f.type, f.offset)) = [(3, 0), (3, 1), (9, 2), (3, 3), (3, 4), (3, 5), (3, 6), (3, 7), (4, 8)] := by kernel_rfl
theorem fs_t : ((Tryd.prog.fieldsOf 37).toList.map fun f => (f.type, f.offset)) = [(3, 0), (24, 1)] := by kernel_rfl
theorem fs_b : ((Tryd.prog.fieldsOf 26).toList.map fun f => (f.type, f.offset)) = [(23, 0), (3, 16), (3, 17), (3, 18), (3, 19), (23, 20), (9, 36), (24, 37)] := by kernel_rfl
theorem fs_p : ((Tryd.prog.fieldsOf 82).toList.map fun f => (f.type, f.offset)) = [(23, 0), (23, 16), (3, 32), (3, 33)] := by kernel_rfl
theorem list9 (l : List Value) (h : l.length = 9) : ∃ c0 c1 c2 c3 c4 c5 c6 c7 c8, l = [c0, c1, c2, c3, c4, c5, c6, c7, c8] := by
  match l, h with
  | [c0, c1, c2, c3, c4, c5, c6, c7, c8], _ => exact ⟨c0, c1, c2, c3, c4, c5, c6, c7, c8, rfl⟩
theorem list2 (l : List Value) (h : l.length = 2) : ∃ c0 c1, l = [c0, c1] := by
  match l, h with
  | [c0, c1], _ => exact ⟨c0, c1, rfl⟩
theorem list38 (l : List Value) (h : l.length = 38) : ∃ c0 c1 c2 c3 c4 c5 c6 c7 c8 c9 c10 c11 c12 c13 c14 c15 c16 c17 c18 c19 c20 c21 c22 c23 c24 c25 c26 c27 c28 c29 c30 c31 c32 c33 c34 c35 c36 c37, l = [c0, c1, c2, c3, c4, c5, c6, c7, c8, c9, c10, c11, c12, c13, c14, c15, c16, c17, c18, c19, c20, c21, c22, c23, c24, c25, c26, c27, c28, c29, c30, c31, c32, c33, c34, c35, c36, c37] := by
  match l, h with
  | c0 :: c1 :: c2 :: c3 :: c4 :: c5 :: c6 :: c7 :: c8 :: c9 :: c10 :: c11 :: c12 :: c13 :: c14 :: c15 :: c16 :: c17 :: c18 :: c19 :: c20 :: c21 :: c22 :: c23 :: c24 :: c25 :: c26 :: c27 :: c28 :: c29 :: c30 :: c31 :: c32 :: c33 :: c34 :: c35 :: c36 :: c37 :: [], _ => exact ⟨c0, c1, c2, c3, c4, c5, c6, c7, c8, c9, c10, c11, c12, c13, c14, c15, c16, c17, c18, c19, c20, c21, c22, c23, c24, c25, c26, c27, c28, c29, c30, c31, c32, c33, c34, c35, c36, c37, rfl⟩
theorem list34 (l : List Value) (h : l.length = 34) : ∃ c0 c1 c2 c3 c4 c5 c6 c7 c8 c9 c10 c11 c12 c13 c14 c15 c16 c17 c18 c19 c20 c21 c22 c23 c24 c25 c26 c27 c28 c29 c30 c31 c32 c33, l = [c0, c1, c2, c3, c4, c5, c6, c7, c8, c9, c10, c11, c12, c13, c14, c15, c16, c17, c18, c19, c20, c21, c22, c23, c24, c25, c26, c27, c28, c29, c30, c31, c32, c33] := by
  match l, h with
  | c0 :: c1 :: c2 :: c3 :: c4 :: c5 :: c6 :: c7 :: c8 :: c9 :: c10 :: c11 :: c12 :: c13 :: c14 :: c15 :: c16 :: c17 :: c18 :: c19 :: c20 :: c21 :: c22 :: c23 :: c24 :: c25 :: c26 :: c27 :: c28 :: c29 :: c30 :: c31 :: c32 :: c33 :: [], _ => exact ⟨c0, c1, c2, c3, c4, c5, c6, c7, c8, c9, c10, c11, c12, c13, c14, c15, c16, c17, c18, c19, c20, c21, c22, c23, c24, c25, c26, c27, c28, c29, c30, c31, c32, c33, rfl⟩
theorem key_of {fuel : Nat} {cs : List Value} {x : DataW H × List MemPlace} (h : DataW.trod enc Tryd.prog w base sp held fuel 48 cs = some x) : ∃ k : K, cs = (kc k).toList ∧ k.wf := by
  have hl := fld_len und_k (c := 9) (by kernel_rfl) h
  obtain ⟨z0, e0, w0⟩ := fld_int und_k h 0 0 (by rw [fs_k]; rfl)
  obtain ⟨z1, e1, w1⟩ := fld_int und_k h 1 1 (by rw [fs_k]; rfl)
  obtain ⟨z2, e2, w2⟩ := fld_str und_k h 2 2 (by rw [fs_k]; rfl)
  obtain ⟨z3, e3, w3⟩ := fld_int und_k h 3 3 (by rw [fs_k]; rfl)
  obtain ⟨z4, e4, w4⟩ := fld_int und_k h 4 4 (by rw [fs_k]; rfl)
  obtain ⟨z5, e5, w5⟩ := fld_int und_k h 5 5 (by rw [fs_k]; rfl)
  obtain ⟨z6, e6, w6⟩ := fld_int und_k h 6 6 (by rw [fs_k]; rfl)
  obtain ⟨z7, e7, w7⟩ := fld_int und_k h 7 7 (by rw [fs_k]; rfl)
  obtain ⟨z8, e8⟩ := fld_bool und_k h 8 8 (by rw [fs_k]; rfl)
  refine ⟨⟨z0, z1, z2, z3, z4, z5, z6, z7, z8⟩, ?_, wrap_of w0, wrap_of w3⟩
  obtain ⟨c0, c1, c2, c3, c4, c5, c6, c7, c8, rfl⟩ := list9 cs hl
  simp at e0 e1 e2 e3 e4 e5 e6 e7 e8
  subst e0 e1 e2 e3 e4 e5 e6 e7 e8
  rfl
theorem choose_k {Q : Nat → K → Prop} (n : Nat) (h : ∀ i, i < n → ∃ c, Q i c) : ∃ d : List K, d.length = n ∧ ∀ i, i < n → Q i (keyAt d i) := by
  induction n with
  | zero => exact ⟨[], rfl, fun i hi => absurd hi (by omega)⟩
  | succ n ih =>
    obtain ⟨d, hd, hq⟩ := ih (fun i hi => h i (by omega))
    obtain ⟨c, hc⟩ := h n (by omega)
    refine ⟨d ++ [c], by simp [hd], fun i hi => ?_⟩
    by_cases e : i < n
    · rw [keyAt_append_left _ _ _ (by omega)]; exact hq i e
    · obtain rfl : i = d.length := by omega
      rw [keyAt_last, hd]; exact hc
theorem keys_of {fuel : Nat} {v : Value} {x : DataW H × List MemPlace} (h : DataW.trod enc Tryd.prog w base sp held fuel 24 [v] = some x) : ∃ l : List K, RdK w v l ∧ ∀ i, i < l.length → (keyAt l i).wf := by
  rcases open_slice Tryd.underlying24 h with ⟨hcs, _⟩ | ⟨a, len, cap, m, n, D, Pl, hcs, _, hl, hm, hmm, _, hi⟩
  · simp only [List.cons.injEq, and_true] at hcs
    subst hcs
    exact ⟨[], RdK.nil w, fun i hi => absurd hi (by simp)⟩
  · simp only [List.cons.injEq, and_true] at hcs
    subst hcs
    have hle : len ≤ m := by rw [hmm]; split <;> omega
    have hc : Tryd.prog.cellsOf 48 = 9 := by kernel_rfl
    rw [hc] at hi
    obtain ⟨l, hlen, hq⟩ := choose_k (Q := fun i k => (∀ j, j < 9 → w.cell? (a.add (i * 9 + j)) = (kc k)[j]?) ∧ k.wf) len (fun i hil => by
      obtain ⟨cs', h1, h2⟩ := hi i (by omega)
      obtain ⟨k, rfl, hwf⟩ := key_of h2
      obtain ⟨_, _, h3⟩ := World.cells?_some h1
      refine ⟨k, fun j hj => ?_, hwf⟩
      have := h3 j hj
      rw [← Go.Deep.add_add, this, Array.getElem?_toList])
    refine ⟨l, ⟨some a, cap, by rw [hlen], by omega, hm, fun h0 => ?_⟩, fun i hil => (hq i (by omega)).2⟩
    obtain ⟨b, off, spot⟩ := a
    have h1 := (hq 0 (by omega)).1 0 (by omega)
    have hk0 : (kc (keyAt l 0))[0]? = some (.int .i64 (keyAt l 0).id) := rfl
    rw [hk0] at h1
    have hspot : spot = none := by simpa [Addr.add] using World.cell?_spot h1
    subst hspot
    have hadd : ∀ i, (⟨b, off, none⟩ : Addr).add i = ⟨b, off + i, none⟩ := by intro i; unfold Addr.add; split <;> simp_all
    refine ⟨b, off, rfl, ?_, fun j hj i hi9 => ?_⟩
    · have := World.block_lt_of_cell? _ _ h1
      simpa [Addr.add] using this
    · have := (hq j (by omega)).1 i hi9
      rw [hadd, ← Nat.add_assoc] at this
      exact this
theorem table_of {fuel : Nat} {cs : List Value} {x : DataW H × List MemPlace} (h : DataW.trod enc Tryd.prog w base sp held fuel 37 cs = some x) : ∃ (nx : Int) (v : Value) (l : List K), cs = [.int .i64 nx, v] ∧ (Lit.int .i64 nx).wf = true ∧ RdK w v l ∧ ∀ i, i < l.length → (keyAt l i).wf := by
  have hl := fld_len und_t (c := 2) (by kernel_rfl) h
  obtain ⟨z0, e0, w0⟩ := fld_int und_t h 0 0 (by rw [fs_t]; rfl)
  obtain ⟨n, y, hy⟩ := fld und_t h 1 1 1 (by rw [fs_t]; rfl) (by kernel_rfl)
  obtain ⟨c0, c1, rfl⟩ := list2 cs hl
  obtain ⟨l, hr, hw⟩ := keys_of (v := c1) hy
  simp at e0
  subst e0
  exact ⟨z0, c1, l, rfl, w0, hr, hw⟩
theorem backup_of {fuel : Nat} {cs : List Value} {x : DataW H × List MemPlace} (h : DataW.trod enc Tryd.prog w base sp held fuel 26 cs = some x) : ∃ (b : BK) (v : Value) (l : List K), cs = (bc b v).toList ∧ b.mo.length ≤ maxLen ∧ RdK w v l ∧ ∀ i, i < l.length → (keyAt l i).wf := by
  have hl := fld_len und_b (c := 38) (by kernel_rfl) h
  obtain ⟨n0, y0, h0⟩ := fld und_b h 0 0 16 (by rw [fs_b]; rfl) (by kernel_rfl)
  obtain ⟨d0, f0⟩ := dig_of h0
  obtain ⟨z1, e1, w1⟩ := fld_int und_b h 1 16 (by rw [fs_b]; rfl)
  obtain ⟨z2, e2, w2⟩ := fld_int und_b h 2 17 (by rw [fs_b]; rfl)
  obtain ⟨z3, e3, w3⟩ := fld_int und_b h 3 18 (by rw [fs_b]; rfl)
  obtain ⟨z4, e4, w4⟩ := fld_int und_b h 4 19 (by rw [fs_b]; rfl)
  obtain ⟨n5, y5, h5⟩ := fld und_b h 5 20 16 (by rw [fs_b]; rfl) (by kernel_rfl)
  obtain ⟨d5, f5⟩ := dig_of h5
  obtain ⟨z6, e6, w6⟩ := fld_str und_b h 6 36 (by rw [fs_b]; rfl)
  obtain ⟨n7, y7, h7⟩ := fld und_b h 7 37 1 (by rw [fs_b]; rfl) (by kernel_rfl)
  clear h h0 h5
  obtain ⟨c0, c1, c2, c3, c4, c5, c6, c7, c8, c9, c10, c11, c12, c13, c14, c15, c16, c17, c18, c19, c20, c21, c22, c23, c24, c25, c26, c27, c28, c29, c30, c31, c32, c33, c34, c35, c36, c37, rfl⟩ := list38 cs hl
  obtain ⟨l, hr, hw⟩ := keys_of (v := c37) h7
  refine ⟨⟨d0, z1, z2, z3, z4, d5, z6⟩, c37, l, ?_, w6, hr, hw⟩
  unfold drow at f0 f5
  simp at f0 f5 e1 e2 e3 e4 e6
  obtain ⟨rfl, rfl, rfl, rfl, rfl, rfl, rfl, rfl, rfl, rfl, rfl, rfl, rfl, rfl, rfl, rfl⟩ := f0
  obtain ⟨rfl, rfl, rfl, rfl, rfl, rfl, rfl, rfl, rfl, rfl, rfl, rfl, rfl, rfl, rfl, rfl⟩ := f5
  subst e1 e2 e3 e4 e6
  unfold bc
  rfl
theorem place_of {fuel : Nat} {cs : List Value} {x : DataW H × List MemPlace} (h : DataW.trod enc Tryd.prog w base sp held fuel 82 cs = some x) : ∃ (p : PK), cs = (pc p).toList := by
  have hl := fld_len und_p (c := 34) (by kernel_rfl) h
  obtain ⟨n0, y0, h0⟩ := fld und_p h 0 0 16 (by rw [fs_p]; rfl) (by kernel_rfl)
  obtain ⟨d0, f0⟩ := dig_of h0
  obtain ⟨n1, y1, h1⟩ := fld und_p h 1 16 16 (by rw [fs_p]; rfl) (by kernel_rfl)
  obtain ⟨d1, f1⟩ := dig_of h1
  obtain ⟨z2, e2, w2⟩ := fld_int und_p h 2 32 (by rw [fs_p]; rfl)
  obtain ⟨z3, e3, w3⟩ := fld_int und_p h 3 33 (by rw [fs_p]; rfl)
  clear h h0 h1
  obtain ⟨c0, c1, c2, c3, c4, c5, c6, c7, c8, c9, c10, c11, c12, c13, c14, c15, c16, c17, c18, c19, c20, c21, c22, c23, c24, c25, c26, c27, c28, c29, c30, c31, c32, c33, rfl⟩ := list34 cs hl
  refine ⟨⟨d0, d1, z2, z3⟩, ?_⟩
  unfold drow at f0 f1
  simp at f0 f1 e2 e3
  obtain ⟨rfl, rfl, rfl, rfl, rfl, rfl, rfl, rfl, rfl, rfl, rfl, rfl, rfl, rfl, rfl, rfl⟩ := f0
  obtain ⟨rfl, rfl, rfl, rfl, rfl, rfl, rfl, rfl, rfl, rfl, rfl, rfl, rfl, rfl, rfl, rfl⟩ := f1
  subst e2 e3
  unfold pc
  rfl
theorem agg_of {r : Reach} {b0 : Nat} {T : TypeId} {fs : Array Field} {v : Value} (ht : Tryd.prog.underlying T = some (.struct fs)) (hval : Value.okWide Tryd.prog w r b0 T v) {d : DataW H} {ps : List MemPlace} (hd : DataW.Trod enc Tryd.prog w base sp held T v d ps) :
    ∃ cs : Array Value, v = .agg cs ∧ ∃ fuel, DataW.trod enc Tryd.prog w base sp held fuel T cs.toList = some (d, ps) := by
  obtain ⟨cs, rfl, _⟩ := okWide_struct ht hval
  obtain ⟨fuel, hf⟩ := hd
  exact ⟨cs, rfl, fuel, hf⟩
theorem toArr {cs : Array Value} {l : List Value} (h : cs.toList = l) : cs = l.toArray := by rw [← h]
theorem kopen_t {r : Reach} {b0 : Nat} {v : Value} {d : DataW H} {ps : List MemPlace} (hval : Value.okWide Tryd.prog w r b0 37 v) (hd : DataW.Trod enc Tryd.prog w base sp held 37 v d ps) :
    ∃ (nx : Int) (u : Value) (l : List K), v = .agg #[.int .i64 nx, u] ∧ (Lit.int .i64 nx).wf = true ∧ RdK w u l ∧ ∀ i, i < l.length → (keyAt l i).wf := by
  obtain ⟨cs, rfl, fuel, hf⟩ := agg_of und_t hval hd
  obtain ⟨nx, u, l, hcs, h1, h2, h3⟩ := table_of hf
  exact ⟨nx, u, l, by rw [toArr hcs], h1, h2, h3⟩
theorem open_bk {r : Reach} {b0 : Nat} {v : Value} {d : DataW H} {ps : List MemPlace} (hval : Value.okWide Tryd.prog w r b0 26 v) (hd : DataW.Trod enc Tryd.prog w base sp held 26 v d ps) :
    ∃ (b : BK) (u : Value) (l : List K), v = .agg (bc b u) ∧ b.mo.length ≤ maxLen ∧ RdK w u l ∧ ∀ i, i < l.length → (keyAt l i).wf := by
  obtain ⟨cs, rfl, fuel, hf⟩ := agg_of und_b hval hd
  obtain ⟨b, u, l, hcs, h1, h2, h3⟩ := backup_of hf
  exact ⟨b, u, l, by rw [toArr hcs], h1, h2, h3⟩
theorem open_k {r : Reach} {b0 : Nat} {v : Value} {d : DataW H} {ps : List MemPlace} (hval : Value.okWide Tryd.prog w r b0 48 v) (hd : DataW.Trod enc Tryd.prog w base sp held 48 v d ps) : ∃ k : K, v = kv k ∧ k.wf := by
  obtain ⟨cs, rfl, fuel, hf⟩ := agg_of und_k hval hd
  obtain ⟨k, hcs, h1⟩ := key_of hf
  exact ⟨k, by rw [toArr hcs]; rfl, h1⟩
theorem open_p {r : Reach} {b0 : Nat} {v : Value} {d : DataW H} {ps : List MemPlace} (hval : Value.okWide Tryd.prog w r b0 82 v) (hd : DataW.Trod enc Tryd.prog w base sp held 82 v d ps) : ∃ p : PK, v = .agg (pc p) := by
  obtain ⟨cs, rfl, fuel, hf⟩ := agg_of und_p hval hd
  obtain ⟨p, hcs⟩ := place_of hf
  exact ⟨p, by rw [toArr hcs]⟩
end
end Go.Proofs.YtbpjdfnnlmblaaaDoor
