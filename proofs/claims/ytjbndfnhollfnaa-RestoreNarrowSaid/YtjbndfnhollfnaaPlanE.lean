/- The program's Plan: what it holds in memory. -/
import Derived.Test.YtjbndfnhollfnaaPlanD
import Derived.Test.YtjbndfnhollfnaaMapI
namespace Go.Proofs.Ytjbndfnhollfnaa
open Go.RowKit Go.Shelf
set_option linter.unusedSimpArgs false
set_option linter.unusedVariables false
theorem OwnK.neMap {w : World} {base : Nat} {v : Value} {l : List K} (h : OwnK w base v l) {M n : Nat} {f : Int → Int} (hm : MapI w M n f) : v.ownBlock ≠ some M := by
  obtain ⟨es, clock, hb⟩ := hm.at
  rcases h.2 with ⟨rfl, _⟩ | ⟨g0, cap, cur, rfl, _, hg, _⟩
  · simp [Value.ownBlock]
  · intro e
    simp only [Value.ownBlock, Option.some.injEq] at e
    subst e
    rw [hg] at hb
    cases hb
theorem OwnE.neMapI {α : Type} {E : El α} {w : World} {base : Nat} {v : Value} {l : List α} (h : OwnE E w base v l) {M n : Nat} {f : Int → Int} (hm : MapI w M n f) : v.ownBlock ≠ some M := by
  obtain ⟨es, clock, hb⟩ := hm.at
  exact h.neMap hb
theorem grown_row {w w' : World} {row : Option Nat} (hg : w.grownBy w' row) {g : Nat} {X : Obj} (h : w.heap[g]? = some X) (hne : ∀ k, row = some k → k ≠ g) : w'.heap[g]? = some X :=
  (grown_block hg (Array.getElem?_eq_some_iff.1 h).1 hne).trans h
/-- what the program's Plan holds in memory: the table's box, the backup's, the result's, the keys, the Ids, the map -/
structure PcW (w wr : World) (base M : Nat) (b : BK) (u : Value) (s : PS) (vk vi : Value) : Prop where
  bel : Below w.heap.size w wr
  hb : w.heap.size + 1 + 1 < base
  t : wr.heap[w.heap.size]? = some (.cells #[.int .i64 s.nx, vk] 24 (0, 0))
  bk : wr.heap[w.heap.size + 1]? = some (.cells (bc b u) 28 (0, 0))
  r : wr.heap[w.heap.size + 1 + 1]? = some (.cells #[.int .i64 0, .slice none 0 0] 24 (0, 0))
  k : OwnK wr base vk s.ks
  i : OwnE eI wr base vi s.ids
  m : MapI wr M s.ps.length (lookP s.ps)
  hM : base ≤ M
variable {w wr w' : World} {base M : Nat} {b : BK} {u : Value} {s : PS} {vk vi : Value}
theorem PcW.lt (h : PcW w wr base M b u s vk vi) : w.heap.size + 1 + 1 < wr.heap.size := (Array.getElem?_eq_some_iff.1 h.r).1
theorem PcW.on (h : PcW w wr base M b u s vk vi) (hb : Below wr.heap.size wr w') : PcW w w' base M b u s vk vi :=
  have hl := h.lt
  ⟨h.bel.trans (hb.mono h.bel.size), h.hb, by rw [hb.block _ (by omega)]; exact h.t, by rw [hb.block _ (by omega)]; exact h.bk, by rw [hb.block _ (by omega)]; exact h.r, h.k.on hb, h.i.on hb, h.m.on hb, h.hM⟩
/-- a key of one's own is written -/
theorem PcW.setKey (h : PcW w wr base M b u s vk vi) {g i : Nat} {k : K} {x : Value} (hg : KAt wr g k) (hge : w.heap.size + 1 + 1 < g) (hne : vk.ownBlock ≠ some g) : PcW w (wr.setCell ⟨g, i, none⟩ x) base M b u s vk vi :=
  ⟨h.bel.setCell (p := ⟨g, i, none⟩) (by show _ ≤ g; omega) _, h.hb, by rw [setCell_block (by omega)]; exact h.t, by rw [setCell_block (by omega)]; exact h.bk, by rw [setCell_block (by omega)]; exact h.r,
    h.k.setNe hne, h.i.setNe (h.i.neType hg (by decide)), h.m.block (setCell_block (h.m.ne hg)), h.hM⟩
/-- the map is written -/
theorem PcW.put (h : PcW w wr base M b u s vk vi) {p : Int × Int} (hg : wr.grownBy w' (some M)) (hm : MapI w' M (s.ps.length + 1) (fun y => if p.1 = y then p.2 else lookP s.ps y)) : PcW w w' base M b u ⟨s.nx, s.ks, s.ps ++ [p], s.ids⟩ vk vi :=
  ⟨h.bel.grown hg h.bel.size (fun k hk => by cases hk; have := h.hb; have := h.hM; omega), h.hb, grown_row hg h.t (fun k hk e => by cases hk; have := h.hb; have := h.hM; omega), grown_row hg h.bk (fun k hk e => by cases hk; have := h.hb; have := h.hM; omega), grown_row hg h.r (fun k hk e => by cases hk; have := h.hb; have := h.hM; omega),
    h.k.grown hg (fun g hgg => by cases hgg; exact h.k.neMap h.m), h.i.grown hg (fun g hgg => by cases hgg; exact h.i.neMapI h.m),
    (by rw [List.length_append, List.length_singleton]; exact hm.eq (by funext y; rw [lookP_snoc])), h.hM⟩
/-- the table is laid anew -/
theorem PcW.table (h : PcW w wr base M b u s vk vi) {vk' : Value} {n' : Int} {ks' : List K} (hk : OwnK wr base vk' ks') :
    PcW w ((wr.setCell ⟨w.heap.size, 0, none⟩ (.int .i64 n')).setCell ⟨w.heap.size, 1, none⟩ vk') base M b u ⟨n', ks', s.ps, s.ids⟩ vk' vi := by
  have hlt : w.heap.size < base := by have := h.hb; omega
  have h1 := setRow_heap wr w.heap.size _ (#[Value.int .i64 s.nx, vk].setIfInBounds 0 (.int .i64 n')) _ _ h.t
  rw [← setCell_rowK _ _ _ _ _ _ _ h.t] at h1
  have h2 := setRow_heap _ w.heap.size _ ((#[Value.int .i64 s.nx, vk].setIfInBounds 0 (.int .i64 n')).setIfInBounds 1 vk') _ _ h1
  rw [← setCell_rowK _ _ _ _ _ _ _ h1] at h2
  exact ⟨(h.bel.setCell (p := ⟨w.heap.size, 0, none⟩) (Nat.le_refl _) _).setCell (p := ⟨w.heap.size, 1, none⟩) (Nat.le_refl _) _, h.hb, h2, by rw [setCell_block (by omega), setCell_block (by omega)]; exact h.bk, by rw [setCell_block (by omega), setCell_block (by omega)]; exact h.r,
    (hk.setNe (hk.neOld hlt)).setNe (hk.neOld hlt), (h.i.setNe (h.i.neOld hlt)).setNe (h.i.neOld hlt), (h.m.block (setCell_block (by have := h.hM; omega))).block (setCell_block (by have := h.hM; omega)), h.hM⟩
/-- an Id is added -/
theorem PcW.id (h : PcW w wr base M b u s vk vi) {vi' : Value} {d : Int} (hg : wr.grownBy w' vi.ownBlock) (hi : OwnE eI w' base vi' (s.ids ++ [d])) : PcW w w' base M b u ⟨s.nx, s.ks, s.ps, s.ids ++ [d]⟩ vk vi' :=
  have hl := h.hb
  ⟨h.bel.grown hg h.bel.size (fun k hk => by have := (h.i.lt k hk).1; omega), h.hb, grown_row hg h.t (fun k hk e => by have := (h.i.lt k hk).1; omega), grown_row hg h.bk (fun k hk e => by have := (h.i.lt k hk).1; omega), grown_row hg h.r (fun k hk e => by have := (h.i.lt k hk).1; omega),
    h.k.grown hg (h.k.neOwn h.i (by decide)), hi, h.m.block (grown_block hg h.m.lt (fun k hk e => by subst e; exact (h.i.neMapI h.m) hk)), h.hM⟩
theorem validB_key {b : BK} {l : List K} (h : validB b l = true) (i : Nat) (hi : i < l.length) : validK (keyAt l i) = true ∧ 0 < (keyAt l i).id ∧ (keyAt l i).id ≤ 2147483647 := by
  have h2 : (List.range l.length).all (okB l) = true := by
    unfold validB at h
    exact (Bool.and_eq_true _ _ ▸ h).2
  have hall : ∀ i, i < l.length → okB l i = true := fun i hi => List.all_eq_true.1 h2 i (List.mem_range.2 hi)
  have ok : ∀ i, i < l.length → validK (keyAt l i) = true ∧ lastId l i < (keyAt l i).id ∧ (keyAt l i).id ≤ 2147483647 := by
    intro i hi
    have := hall i hi
    unfold okB at this
    simp only [Bool.and_eq_true, decide_eq_true_eq] at this
    exact ⟨this.1.1, this.1.2, this.2⟩
  refine ⟨(ok i hi).1, ?_, (ok i hi).2.2⟩
  have pos : ∀ i, i < l.length → 0 < (keyAt l i).id := by
    intro i
    induction i with
    | zero => intro h0; have := (ok 0 h0).2.1; rw [lastId_zero] at this; exact this
    | succ i ih => intro h0; have h1 := (ok (i + 1) h0).2.1; rw [lastId_succ] at h1; have := ih (by omega); omega
  exact pos i hi
theorem validK_par {k : K} (h : validK k = true) : 0 ≤ k.par ∧ k.par ≤ 2147483647 := by
  unfold validK at h
  simp only [Bool.and_eq_true] at h
  exact (win_iff _ _ _).1 h.2
theorem Good.nxb {nx : Int} {tl bl : List K} {now : Int} (h : Good nx tl bl now s) : 1 ≤ s.nx ∧ s.nx ≤ 2147483647 := by
  obtain ⟨_, h1, h2, _⟩ := (validTab_iff _ _).1 h.tab
  exact ⟨h1, h2⟩
theorem Good.idb {nx : Int} {tl bl : List K} {now : Int} (h : Good nx tl bl now s) (k : K) (hk : k ∈ s.ks) : 0 ≤ k.id ∧ k.id ≤ 2147483647 := by
  obtain ⟨_, h1, h2, h3⟩ := (validTab_iff _ _).1 h.tab
  obtain ⟨i, hi, rfl⟩ := List.mem_iff_getElem.1 hk
  have ok := fun i hi => (okAt_iff _ _ _).1 (h3 i hi)
  have pos : ∀ i, i < s.ks.length → 0 < (keyAt s.ks i).id := by
    intro i
    induction i with
    | zero => intro h0; have := (ok 0 h0).2.1; rw [lastId_zero] at this; exact this
    | succ i ih => intro h0; have h4 := (ok (i + 1) h0).2.1; rw [lastId_succ] at h4; have := ih (by omega); omega
  have h5 := ok i hi
  have h6 := pos i hi
  rw [keyAt_eq _ _ hi] at h5 h6
  omega
theorem Good.twin {nx : Int} {tl bl : List K} {now : Int} (h : Good nx tl bl now s) (x : K) (hx : twinIs s.ks x = true) : Wf (twinId s.ks x) := by
  obtain ⟨k, hk, e⟩ := twinId_mem _ _ hx
  have := h.idb k hk
  rw [e] at this
  exact wf_of (by omega) (by omega)
/-- the outcome of the program's Plan -/
def PlanT (w : World) (r : Except Int PS) (e : Ending) (w' : World) : Prop :=
  Below w.heap.size w w' ∧ match r with
  | .ok s => ∃ v vi, e = .returned (.tuple #[.agg #[.int .i64 s.nx, v], vi, .int .i64 0]) ∧ RdK w' v s.ks ∧ RdI w' vi s.ids
  | .error c => e = .returned (.tuple #[.agg #[.int .i64 0, .slice none 0 0], .slice none 0 0, .int .i64 c])
theorem planT_ok {e : Ending} {v vi : Value} {r : Except Int PS} (hr : r = .ok s) (he : e = .returned (.tuple #[.agg #[.int .i64 s.nx, v], vi, .int .i64 0])) (h1 : RdK w' v s.ks) (h2 : RdI w' vi s.ids) (hb : Below w.heap.size w w') : PlanT w r e w' := by
  subst hr
  exact ⟨hb, v, vi, he, h1, h2⟩
theorem planT_no {c : Int} {e : Ending} {r : Except Int PS} (hr : r = .error c) (he : e = .returned (.tuple #[.agg #[.int .i64 0, .slice none 0 0], .slice none 0 0, .int .i64 c])) (hb : Below w.heap.size w w') : PlanT w r e w' := by
  subst hr
  exact ⟨hb, he⟩
end Go.Proofs.Ytjbndfnhollfnaa
