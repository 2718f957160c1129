/- Slices of any element type: read, owned, appended to. -/
import Derived.Test.YtackbjbmadkkhaaDoorRegion
import Derived.Test.YtackbjbmadkkhaaDoorBase
import Derived.Test.YtackbjbmadkkhaaDoorChecked
import Derived.Maps.AppendAt
import Derived.ArgAppend
import Derived.Deep.Upon
import Derived.Lib.SliceRun
namespace Go.Proofs.YtackbjbmadkkhaaDoor
open Go.RowKit
set_option linter.unusedSimpArgs false
set_option linter.unusedVariables false
/-- how an element lies in memory -/
structure El (α : Type) where
  T : TypeId
  S : TypeId
  c : Nat
  cf : α → List Value
/-- .. and that the program's types say so -/
structure El.OK {α : Type} (E : El α) : Prop where
  und : Tryd.prog.underlying E.S = some (.slice E.T)
  info : (Tryd.prog.info? E.T).map (fun i => (i.zero.map (·.cells.size), i.size, decide (0 < i.bytes ∧ i.bytes ≤ 200))) = some (some E.c, E.c, true)
  len : ∀ x, (E.cf x).length = E.c
  one : ∀ x, ∀ u ∈ E.cf x, u.oneCell' = true
  pos : 0 < E.c
variable {α : Type} {E : El α}
theorem El.OK.info' (h : E.OK) : ∃ i z, Tryd.prog.info? E.T = some i ∧ i.zero = some z ∧ i.size = E.c ∧ z.cells.size = E.c ∧ 0 < i.bytes ∧ i.bytes ≤ 200 := by
  have h := h.info
  cases hi : Tryd.prog.info? E.T with
  | none => rw [hi] at h; cases h
  | some i =>
    rw [hi] at h
    simp only [Option.map_some, Option.some.injEq, Prod.mk.injEq, decide_eq_true_eq] at h
    cases hz : i.zero with
    | none => rw [hz] at h; cases h.1
    | some z =>
      rw [hz] at h
      exact ⟨i, z, rfl, hz, h.2.1, by simpa using h.1, h.2.2.1, h.2.2.2⟩
/-- the cells of elements, one after the other -/
def El.flat (E : El α) : List α → List Value
  | [] => []
  | x :: l => E.cf x ++ E.flat l
theorem El.flat_len (hE : E.OK) (l : List α) : (E.flat l).length = l.length * E.c := by
  induction l with
  | nil => simp [El.flat]
  | cons x l ih => rw [El.flat, List.length_append, hE.len, ih, List.length_cons, Nat.add_mul]; omega
theorem El.flat_append (l m : List α) : E.flat (l ++ m) = E.flat l ++ E.flat m := by
  induction l with
  | nil => rfl
  | cons x l ih => rw [List.cons_append, El.flat, El.flat, ih, List.append_assoc]
theorem El.flat_one (hE : E.OK) (l : List α) : ∀ u ∈ E.flat l, u.oneCell' = true := by
  induction l with
  | nil => intro u hu; simp [El.flat] at hu
  | cons x l ih =>
    intro u hu
    rw [El.flat, List.mem_append] at hu
    rcases hu with hu | hu
    · exact hE.one x u hu
    · exact ih u hu
theorem El.flat_at (hE : E.OK) (l : List α) (j i : Nat) (hj : j < l.length) (hi : i < E.c) : (E.flat l)[j * E.c + i]? = (E.cf l[j])[i]? := by
  induction l generalizing j with
  | nil => simp at hj
  | cons x l ih =>
    cases j with
    | zero =>
      rw [El.flat, Nat.zero_mul, Nat.zero_add, List.getElem?_append_left (by rw [hE.len]; exact hi)]
      rfl
    | succ j =>
      have hj' : j < l.length := by simpa using hj
      rw [El.flat, List.getElem?_append_right (by rw [hE.len, Nat.add_mul]; omega), hE.len, show (j + 1) * E.c + i - E.c = j * E.c + i by rw [Nat.add_mul]; omega, ih j hj']
      rfl
/-- v is a slice with the elements l in world w -/
def RdE (E : El α) (w : World) (v : Value) (l : List α) : Prop :=
  ∃ a cap, v = .slice a l.length cap ∧ l.length ≤ cap ∧ cap ≤ maxLen ∧
    (0 < l.length → ∃ b off, a = some ⟨b, off, none⟩ ∧ b < w.heap.size ∧ ∀ j u, (E.flat l)[j]? = some u → w.cell? ⟨b, off + j, none⟩ = some u)
theorem RdE.keep {w w' : World} {v : Value} {l : List α} {B : Nat} (h : RdE E w v l) (hb : Below B w w') (hB : w.heap.size ≤ B) : RdE E w' v l := by
  obtain ⟨a, cap, rfl, h1, h2, h3⟩ := h
  refine ⟨a, cap, rfl, h1, h2, fun h0 => ?_⟩
  obtain ⟨b, off, rfl, hlt, hc⟩ := h3 h0
  refine ⟨b, off, rfl, Nat.lt_of_lt_of_le hlt hb.size, fun j u hu => ?_⟩
  rw [hb.cell (p := ⟨b, off + j, none⟩) (Nat.lt_of_lt_of_le hlt hB)]
  exact hc j u hu
theorem RdE.on {w w' : World} {v : Value} {l : List α} (h : RdE E w v l) (hb : Below w.heap.size w w') : RdE E w' v l := h.keep hb (Nat.le_refl _)
theorem RdE.alloc {w : World} {v : Value} {l : List α} (h : RdE E w v l) (X : Obj) : RdE E (w.alloc X) v l := h.on ((Below.refl w.heap.size w).alloc (Nat.le_refl _) X)
theorem RdE.drew {w : World} {v : Value} {l : List α} (n : Nat) (h : RdE E w v l) : RdE E (w.drewN n) v l := h.on (below_drewN n (Below.refl w.heap.size w))
theorem RdE.nil (w : World) : RdE E w (.slice none 0 0) [] := ⟨none, 0, rfl, Nat.le_refl _, by unfold maxLen; omega, fun h => absurd h (by simp)⟩
theorem RdE.len {w : World} {v : Value} {l : List α} (h : RdE E w v l) : l.length ≤ maxLen := by
  obtain ⟨a, cap, rfl, h1, h2, h3⟩ := h
  omega
theorem RdE.cell (hE : E.OK) {w : World} {a : Option Addr} {n cap : Nat} {l : List α} (h : RdE E w (.slice a n cap) l) (h0 : 0 < l.length) : ∃ b off, a = some ⟨b, off, none⟩ ∧ b < w.heap.size ∧
    ∀ j (hj : j < l.length) i, i < E.c → w.cell? ⟨b, off + j * E.c + i, none⟩ = (E.cf l[j])[i]? := by
  obtain ⟨a', c', e, _, _, h3⟩ := h
  cases e
  obtain ⟨b, off, rfl, hlt, hc⟩ := h3 h0
  refine ⟨b, off, rfl, hlt, fun j hj i hi => ?_⟩
  have h1 := El.flat_at hE l j i hj hi
  have h2 : i < (E.cf l[j]).length := by rw [hE.len]; exact hi
  rw [List.getElem?_eq_getElem h2] at h1 ⊢
  have := hc _ _ h1
  rwa [← Nat.add_assoc] at this
theorem RdE.flatc {w : World} {a : Option Addr} {n cap : Nat} {l : List α} (hE : E.OK) (h : RdE E w (.slice a n cap) l) : ∀ b, a = some b → ∀ j u, (E.flat l)[j]? = some u → w.cell? (b.add j) = some u := by
  obtain ⟨a', c', e, _, _, h3⟩ := h
  cases e
  intro b hb j u hu
  have hj : 0 < l.length := by
    rcases Nat.eq_zero_or_pos l.length with h0 | h0
    · have : l = [] := List.length_eq_zero_iff.1 h0
      subst this
      simp [El.flat] at hu
    · exact h0
  obtain ⟨b0, off, e, _, hc⟩ := h3 hj
  rw [hb] at e
  cases e
  have hadd : (⟨b0, off, none⟩ : Addr).add j = ⟨b0, off + j, none⟩ := by unfold Addr.add; split <;> simp_all
  rw [hadd]
  exact hc j u hu
theorem RdE.clip {w : World} {a : Option Addr} {cap : Nat} {l : List α} (h : RdE E w (.slice a l.length cap) l) : RdE E w (.slice a l.length l.length) l := by
  obtain ⟨a', c', e, h1, h2, h3⟩ := h
  cases e
  exact ⟨a, l.length, rfl, Nat.le_refl _, by omega, h3⟩
/-- .. that the call has made, in a block from base on -/
def OwnE (E : El α) (w : World) (base : Nat) (v : Value) (l : List α) : Prop := w.ownsRow base E.T E.c v l.length (E.flat l)
theorem OwnE.rd {w : World} {base : Nat} {v : Value} {l : List α} (h : OwnE E w base v l) : RdE E w v l := by
  rcases h.2 with ⟨rfl, h0⟩ | ⟨g, cap, cur, rfl, hb, hg, h1, h2, h3, h4⟩
  · have : l = [] := List.length_eq_zero_iff.1 h0
    subst this
    exact RdE.nil w
  · refine ⟨_, cap, rfl, h1, h2, fun h0 => ⟨g, 0, rfl, (Array.getElem?_eq_some_iff.1 hg).1, fun j u hu => ?_⟩⟩
    have hj : j < (E.flat l).length := (List.getElem?_eq_some_iff.1 hu).1
    rw [Nat.zero_add, cell_of_row _ _ _ _ _ _ hg, ← hu, ← h4, List.getElem?_take]
    have hj2 : j < l.length * E.c := by rw [← h4, List.length_take] at hj; omega
    rw [if_pos hj2, Array.getElem?_toList]
theorem OwnE.nil (w : World) (base : Nat) : OwnE E w base (.slice none 0 0) [] := ⟨by simp [El.flat], .inl ⟨rfl, rfl⟩⟩
theorem OwnE.keep {w w' : World} {base B : Nat} {v : Value} {l : List α} (h : OwnE E w base v l) (hb : Below B w w') (hB : w.heap.size ≤ B) : OwnE E w' base v l := by
  refine ⟨h.1, ?_⟩
  rcases h.2 with hn | ⟨g, cap, cur, rfl, hg, hgg, r⟩
  · exact .inl hn
  · exact .inr ⟨g, cap, cur, rfl, hg, by rw [hb.block _ (Nat.lt_of_lt_of_le (Array.getElem?_eq_some_iff.1 hgg).1 hB)]; exact hgg, r⟩
theorem OwnE.on {w w' : World} {base : Nat} {v : Value} {l : List α} (h : OwnE E w base v l) (hb : Below w.heap.size w w') : OwnE E w' base v l := h.keep hb (Nat.le_refl _)
theorem OwnE.mono {w : World} {base base' : Nat} {v : Value} {l : List α} (h : OwnE E w base v l) (hb : base' ≤ base) : OwnE E w base' v l := by
  refine ⟨h.1, ?_⟩
  rcases h.2 with hn | ⟨g, cap, cur, rfl, hg, r⟩
  · exact .inl hn
  · exact .inr ⟨g, cap, cur, rfl, Nat.le_trans hb hg, r⟩
theorem setCell_other {w : World} {g g2 k : Nat} {v : Value} (h : g2 ≠ g) : (w.setCell ⟨g2, k, none⟩ v).heap[g]? = w.heap[g]? := by
  unfold World.setCell
  simp [Array.getElem?_modify, h]
/-- .. whose block is not the one that is written -/
theorem OwnE.setNe {w : World} {base : Nat} {v : Value} {l : List α} {g2 k : Nat} {x : Value} (h : OwnE E w base v l) (hne : v.ownBlock ≠ some g2) : OwnE E (w.setCell ⟨g2, k, none⟩ x) base v l := by
  refine ⟨h.1, ?_⟩
  rcases h.2 with hn | ⟨g, cap, cur, rfl, hg, hgg, r⟩
  · exact .inl hn
  · exact .inr ⟨g, cap, cur, rfl, hg, by rw [setCell_other (fun e => hne (by rw [e]; rfl))]; exact hgg, r⟩
theorem OwnE.lt {w : World} {base : Nat} {v : Value} {l : List α} (h : OwnE E w base v l) : ∀ k, v.ownBlock = some k → base ≤ k ∧ k < w.heap.size := World.ownsRow.lt h
theorem OwnE.neNew {w : World} {base : Nat} {v : Value} {l : List α} (h : OwnE E w base v l) {g : Nat} (hg : w.heap.size ≤ g) : v.ownBlock ≠ some g := fun e => by have := (h.lt g e).2; omega
theorem OwnE.neOld {w : World} {base : Nat} {v : Value} {l : List α} (h : OwnE E w base v l) {g : Nat} (hg : g < base) : v.ownBlock ≠ some g := fun e => by have := (h.lt g e).1; omega
/-- a block of another type is not its block -/
theorem OwnE.neType {w : World} {base : Nat} {v : Value} {l : List α} (h : OwnE E w base v l) {g : Nat} {cs : Array Value} {T : TypeId} {fr : Nat × Nat} (hb : w.heap[g]? = some (.cells cs T fr)) (hT : T ≠ E.T) : v.ownBlock ≠ some g := by
  rcases h.2 with ⟨rfl, _⟩ | ⟨g0, cap, cur, rfl, _, hg, _⟩
  · simp [Value.ownBlock]
  · intro e
    simp only [Value.ownBlock, Option.some.injEq] at e
    subst e
    rw [hg] at hb
    simp only [Option.some.injEq, Obj.cells.injEq] at hb
    exact hT hb.2.1.symm
theorem OwnE.neMap {w : World} {base : Nat} {v : Value} {l : List α} (h : OwnE E w base v l) {g : Nat} {es : Array MapEntry} {n : Nat} (hb : w.heap[g]? = some (.map es n)) : v.ownBlock ≠ some g := by
  rcases h.2 with ⟨rfl, _⟩ | ⟨g0, cap, cur, rfl, _, hg, _⟩
  · simp [Value.ownBlock]
  · intro e
    simp only [Value.ownBlock, Option.some.injEq] at e
    subst e
    rw [hg] at hb
    cases hb
theorem OwnE.grown {w w' : World} {base : Nat} {v : Value} {l : List α} {row : Option Nat} (h : OwnE E w base v l) (hg : w.grownBy w' row) (hne : ∀ g, row = some g → v.ownBlock ≠ some g) : OwnE E w' base v l := by
  refine World.ownsRow.kept h hg ?_
  cases hv : v.ownBlock with
  | none => exact .inl rfl
  | some g =>
    refine .inr fun e => ?_
    exact hne g e.symm (by rw [hv])
/-- two rows of different types -/
theorem OwnE.neOwn {β : Type} {F : El β} {w : World} {b1 b2 : Nat} {v u : Value} {l : List α} {m : List β} (h : OwnE E w b1 v l) (h2 : OwnE F w b2 u m) (hT : F.T ≠ E.T) : ∀ g, u.ownBlock = some g → v.ownBlock ≠ some g := by
  intro g hg
  rcases h2.2 with ⟨rfl, _⟩ | ⟨g0, cap, cur, rfl, _, hgg, _⟩
  · simp [Value.ownBlock] at hg
  · simp only [Value.ownBlock, Option.some.injEq] at hg
    subst hg
    exact h.neType hgg hT
theorem one_e (w : World) (x : α) (hE : E.OK) : RdE E (w.alloc (.cells (E.cf x).toArray E.T)) (.slice (some ⟨w.heap.size, 0, none⟩) 1 1) [x] :=
  ⟨_, 1, rfl, Nat.le_refl _, by unfold maxLen; omega, fun _ => ⟨w.heap.size, 0, rfl, by simp, fun j u hu => by
    rw [cell_of_row _ _ _ _ _ _ (heap_alloc_new _ _), Nat.zero_add]
    simpa [El.flat] using hu⟩⟩
theorem empty_e (w : World) (h0 : E.c = E.c) : OwnE E (w.alloc (.cells #[] E.T)) w.heap.size (.slice (some ⟨w.heap.size, 0, none⟩) 0 0) [] :=
  ⟨by simp [El.flat], .inr ⟨w.heap.size, 0, #[], rfl, Nat.le_refl _, heap_alloc_new _ _, Nat.le_refl _, by unfold maxLen; omega, by simp, by simp [El.flat]⟩⟩
/-- append of elements that can be read to one's own -/
theorem app_e {w : World} {ops : Array Oper} {rest : List Oper} {o : Oper} {a : Act} {Q : Exit → Act → World → Prop} (hE : E.OK) (hgd : o.guard = none) (s x : Operand)
    (ho : o.op = .call { callee := .builtin .append, args := #[s, x], argTypes := #[E.S, E.S] })
    (base : Nat) (v : Value) (l : List α) (hs : a.eval s = v) (hown : OwnE E w base v l) (xv : Value) (news : List α) (hx : a.eval x = xv) (hr : RdE E w xv news)
    (hsz : l.length + news.length ≤ 1000000) (hbase : base ≤ w.heap.size)
    (h : ∀ v' w', OwnE E w' base v' (l ++ news) → w.grownBy w' v.ownBlock → (v'.ownBlock = v.ownBlock ∨ v'.ownBlock = some w.heap.size) → wpList Tryd.prog ops Q rest (a.put o.dst v') w') : wpList Tryd.prog ops Q (o :: rest) a w := by
  obtain ⟨i0, z0, hi, hz, hs9, hz9, hb0, hb1⟩ := hE.info'
  have hfl := hr
  obtain ⟨ad, cap, rfl, hcap, _, hc⟩ := hr
  have hflat := hfl.flatc hE
  cases ad with
  | some p =>
    refine wpList_append_own_at w hgd s x E.S ho base E.T i0 z0 E.c i0.bytes hE.und hi hz hs9 rfl hz9 hE.pos v l.length (E.flat l) hs hown p news.length cap (E.flat news) hx (El.flat_len hE news) (hflat p rfl) (El.flat_one hE news)
      (by unfold maxLen; omega) (Nat.le_trans (Nat.mul_le_mul hsz hb1) (by decide)) hbase ?_
    intro v' w' h1 h2 _ h3
    refine h v' w' ?_ h2 h3
    unfold OwnE
    rw [List.length_append, El.flat_append]
    exact h1
  | none =>
    have hn : news = [] := by
      cases news with
      | nil => rfl
      | cons c l =>
        obtain ⟨b, off, e, _⟩ := hc (by simp)
        cases e
    subst hn
    have key : ∃ ad' n cap', v = .slice ad' n cap' ∧ n ≤ cap' := by
      rcases hown.2 with ⟨rfl, _⟩ | ⟨g, cap', cur, rfl, _, _, h1, _⟩
      · exact ⟨none, 0, 0, rfl, Nat.le_refl _⟩
      · exact ⟨_, _, _, rfl, h1⟩
    obtain ⟨ad', n, cap', rfl, hle⟩ := key
    have hrun := run_append_nothing (P := Tryd.prog) w E.S E.S o.type E.T i0 hE.und hi ad' n cap' hle (.slice none 0 cap) (Src.ofNil w hE.und cap)
    refine wpList_plain hgd fun K hK => ?_
    unfold Oper.wp execOp
    have hx' : a.eval x = .slice none 0 cap := hx
    simp only [ho, resolve, invoke, builtin, Sem.run_bind, Sem.run_pure, Result.andThen_ok, List.map_toArray, List.map_cons, List.map_nil, hs, hx', hrun]
    exact hK _ _ (h _ _ (by rw [List.append_nil]; exact hown) ⟨rfl, rfl, rfl, Nat.le_refl _, fun _ _ _ => rfl⟩ (.inl rfl))
/-- what has grown lies below what is written -/
theorem grown_below {w w' : World} {v : Value} {B : Nat} (hg : w.grownBy w' v.ownBlock) (hB : B ≤ w.heap.size) (hv : ∀ k, v.ownBlock = some k → B ≤ k) : Below B w w' := (Below.refl B w).grown hg hB hv
theorem OwnE.below {w w' : World} {base : Nat} {v : Value} {l : List α} (h : OwnE E w base v l) (hg : w.grownBy w' v.ownBlock) (hB : base ≤ w.heap.size) : Below base w w' := grown_below hg hB (fun k hk => (h.lt k hk).1)
theorem grown_block {w w' : World} {row : Option Nat} (hg : w.grownBy w' row) {g : Nat} (hlt : g < w.heap.size) (hne : ∀ k, row = some k → k ≠ g) : w'.heap[g]? = w.heap[g]? :=
  hg.block g hlt (fun e => hne g e.symm rfl)
end Go.Proofs.YtackbjbmadkkhaaDoor
