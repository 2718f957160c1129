/- A rule more: append as a step of a region that draws; the uses with a rule more. -/
import Derived.Test.YtamdlkflcbefdaaDoorLawP
import Derived.Deep.RegionLaw
import Derived.Deep.AppendLies
import Derived.Deep.RegionLawGrows
import Derived.Deep.CutRange
namespace Go.Proofs.YtamdlkflcbefdaaDoor
open Go.RowKit Go.Shelf
set_option linter.unusedSimpArgs false
set_option linter.unusedVariables false
/-- append of what can be read to one's own, as a step of a region that draws -/
theorem step_app_e {α : Type} {E : El α} {ops : Array Oper} {o : Oper} {a : Act} {w : World} {K : Act → World → Prop} {Q : Exit → Act → World → Prop} {F : Prop} (hE : E.OK) (hgd : o.guard = none) (s x : Operand)
    (ho : o.op = .call { callee := .builtin .append, args := #[s, x], argTypes := #[E.S, E.S] })
    (base : Nat) (v : Value) (l : List α) (hs : a.eval s = v) (hown : OwnE E w base v l) (xv : Value) (news : List α) (hx : a.eval x = xv) (hr : RdE E w xv news)
    (hsz : l.length + news.length ≤ 1000000) (hbase : base ≤ w.heap.size)
    (h : ∀ v' w', OwnE E w' base v' (l ++ news) → w.grownBy w' v.ownBlock → K (a.put o.dst v') w') :
    if Region.wanted o (yielded ops a.tmps) = true then Oper.wp Tryd.prog o a w K Q else F := by
  obtain ⟨i0, z0, hi, hz, hs9, hz9, hb0, hb1⟩ := hE.info'
  have hfl := hr
  obtain ⟨ad, cap, rfl, hcap, _, hc⟩ := hr
  have hflat := hfl.flatc hE
  by_cases hm : 0 < news.length
  · obtain ⟨b, off, rfl, _, _⟩ := hc hm
    refine step_append_lies w hgd s x E.S ho base E.T i0 z0 E.c i0.bytes hE.und hi hz hs9 rfl hz9 hE.pos v l.length (E.flat l) hs hown ⟨b, off, none⟩ news.length cap (E.flat news) hx (El.flat_len hE news) (hflat _ rfl) (El.flat_one hE news) hm
      (by unfold maxLen; omega) (Nat.le_trans (Nat.mul_le_mul hsz hb1) (by decide)) hbase w.heap.size rfl ?_
    intro g cap' w' h1 h2 _ _
    refine h _ w' ?_ h2
    unfold OwnE
    rw [List.length_append, El.flat_append]
    exact h1
  · have hn : news = [] := List.length_eq_zero_iff.1 (by omega)
    subst hn
    have key : ∃ ad' n cap', v = .slice ad' n cap' ∧ n ≤ cap' := by
      rcases hown.2 with ⟨rfl, _⟩ | ⟨g, cap', cur, rfl, _, _, h1, _⟩
      · exact ⟨none, 0, 0, rfl, Nat.le_refl _⟩
      · exact ⟨_, _, _, rfl, h1⟩
    obtain ⟨ad', n, cap', rfl, hle⟩ := key
    have hsrc : Src Tryd.prog i0.size E.S (.slice ad 0 cap) 0 [] w := by
      cases ad with
      | none => exact Src.ofNil w hE.und cap
      | some p => exact Src.ofSlice w hE.und p 0 cap [] (by simp) (fun j u hj => by simp at hj) (fun u hu => by simp at hu)
    have hrun := run_append_nothing (P := Tryd.prog) w E.S E.S o.type E.T i0 hE.und hi ad' n cap' hle (.slice ad 0 cap) hsrc
    have hw : Region.wanted o (yielded ops a.tmps) = true := by simp [Region.wanted, hgd]
    rw [if_pos hw]
    unfold Oper.wp execOp
    have hx' : a.eval x = .slice ad 0 cap := hx
    simp only [ho, resolve, invoke, builtin, Sem.run_bind, Sem.run_pure, Result.andThen_ok, List.map_toArray, List.map_cons, List.map_nil, hs, hx', hrun]
    exact h _ _ (by rw [List.append_nil]; exact hown) ⟨rfl, rfl, rfl, Nat.le_refl _, fun _ _ _ => rfl⟩
theorem setCell_rowK (w : World) (g i : Nat) (cs : Array Value) (T : TypeId) (fr : Nat × Nat) (v : Value) (h : w.heap[g]? = some (.cells cs T fr)) : w.setCell ⟨g, i, none⟩ v = w.setRow g (cs.setIfInBounds i v) := by
  unfold World.setCell World.setRow
  simp only [World.mk.injEq, and_true]
  apply Array.ext_getElem?
  intro j
  simp only [Array.getElem?_modify]
  by_cases h' : g = j
  · subst h'
    simp [h]
  · simp [h']
/-! an empty list and a list of one, laid one behind the other -/
theorem own_e0 {w : World} {g base : Nat} (hb : base ≤ g) (hg : w.heap[g]? = some (.cells #[] 55 (0, 0))) : OwnE eR w base (.slice (some ⟨g, 0, none⟩) 0 0) [] :=
  ⟨by simp [El.flat], .inr ⟨g, 0, #[], rfl, hb, hg, Nat.le_refl _, by unfold maxLen; omega, by simp, by simp [El.flat]⟩⟩
theorem own_r1 {w : World} {g base : Nat} (r : RuP) (hb : base ≤ g) (hg : w.heap[g]? = some (.cells #[.int .i64 r.k, .int .i64 r.a, .int .i64 r.b] 55 (0, 0))) : OwnE eR w base (.slice (some ⟨g, 0, none⟩) 1 1) [r] :=
  ⟨by simp [El.flat], .inr ⟨g, 1, #[.int .i64 r.k, .int .i64 r.a, .int .i64 r.b], rfl, hb, hg, Nat.le_refl _, by unfold maxLen; omega, by simp, by simp [El.flat]⟩⟩
theorem get_a0 (w : World) (X : Obj) : ((w.drewN 1).alloc X).heap[w.heap.size]? = some X := by
  rw [alloc_get]; exact if_pos rfl
theorem get_b0 (w : World) (X Z : Obj) : (((w.drewN 1).alloc X).alloc Z).heap[w.heap.size]? = some X := by
  rw [alloc_get, if_neg (by simp), get_a0]
theorem get_b1 (w : World) (X Z : Obj) : (((w.drewN 1).alloc X).alloc Z).heap[w.heap.size + 1]? = some Z := by
  rw [alloc_get, if_pos (by simp)]
theorem oE_a (w : World) : OwnE eR ((w.drewN 1).alloc (.cells #[] 55)) w.heap.size (.slice (some ⟨w.heap.size, 0, none⟩) 0 0) [] := own_e0 (Nat.le_refl _) (get_a0 _ _)
theorem oE_b (w : World) (r : RuP) : OwnE eR (((w.drewN 1).alloc (.cells #[] 55)).alloc (.cells #[.int .i64 r.k, .int .i64 r.a, .int .i64 r.b] 55)) w.heap.size (.slice (some ⟨w.heap.size, 0, none⟩) 0 0) [] := own_e0 (Nat.le_refl _) (get_b0 _ _ _)
theorem oR_b (w : World) (r : RuP) : OwnE eR (((w.drewN 1).alloc (.cells #[] 55)).alloc (.cells #[.int .i64 r.k, .int .i64 r.a, .int .i64 r.b] 55)) w.heap.size (.slice (some ⟨w.heap.size + 1, 0, none⟩) 1 1) [r] := own_r1 r (by omega) (get_b1 _ _ _)
theorem oE_c (w : World) (r : RuP) : OwnE eR (((w.drewN 1).alloc (.cells #[.int .i64 r.k, .int .i64 r.a, .int .i64 r.b] 55)).alloc (.cells #[] 55)) w.heap.size (.slice (some ⟨w.heap.size + 1, 0, none⟩) 0 0) [] := own_e0 (by omega) (get_b1 _ _ _)
theorem oR_c (w : World) (r : RuP) : OwnE eR (((w.drewN 1).alloc (.cells #[.int .i64 r.k, .int .i64 r.a, .int .i64 r.b] 55)).alloc (.cells #[] 55)) w.heap.size (.slice (some ⟨w.heap.size, 0, none⟩) 1 1) [r] := own_r1 r (Nat.le_refl _) (get_b0 _ _ _)
theorem ne_blk {x y n c m d : Nat} (h : x ≠ y) : ∀ g, (Value.slice (some ⟨x, 0, none⟩) n c).ownBlock = some g → (Value.slice (some ⟨y, 0, none⟩) m d).ownBlock ≠ some g := by
  intro g hg e
  simp only [Value.ownBlock, Option.some.injEq] at hg e
  omega
theorem RdE.form1 {α : Type} {E : El α} {w : World} {v : Value} {l : List α} (h : RdE E w v l) {n : Nat} (hn : l.length = n) : ∃ a cap, v = .slice a n cap := by
  obtain ⟨a, cap, rfl, _⟩ := h
  exact ⟨a, cap, by rw [hn]⟩
/-- the policy in block P, a rule in block R -/
structure LR (w : World) (P R : Nat) (s : ByteArray) (vt vr vq : Value) (tl : List TyP) (rl : List RuP) (ql : List QuP) (x : RuP) : Prop where
  t : RdE eT w vt tl
  r : RdE eR w vr rl
  q : RdE eQ w vq ql
  tab : TabAt w
  box : w.heap[P]? = some (.cells #[.string s, vt, vr, vq] 26 (0, 0))
  arr : w.heap[R]? = some (.cells #[.int .i64 x.k, .int .i64 x.a, .int .i64 x.b] 55 (0, 0))
section
variable {w w' : World} {P R : Nat} {s : ByteArray} {vt vr vq : Value} {tl : List TyP} {rl : List RuP} {ql : List QuP} {r : RuP}
theorem LR.on (h : LR w P R s vt vr vq tl rl ql r) (hb : Below w.heap.size w w') : LR w' P R s vt vr vq tl rl ql r :=
  ⟨h.t.on hb, h.r.on hb, h.q.on hb, h.tab.on hb, row_on h.box hb, row_on h.arr hb⟩
theorem LR.cells (h : LR w P R s vt vr vq tl rl ql r) : w.cell? ⟨P, 0, none⟩ = some (.string s) ∧ w.cell? ⟨P, 1, none⟩ = some vt ∧ w.cell? ⟨P, 2, none⟩ = some vr ∧ w.cell? ⟨P, 3, none⟩ = some vq ∧
    w.cell? ⟨R, 0, none⟩ = some (.int .i64 r.k) ∧ w.cell? ⟨R, 1, none⟩ = some (.int .i64 r.a) ∧ w.cell? ⟨R, 2, none⟩ = some (.int .i64 r.b) :=
  ⟨cell_of_row _ _ _ _ _ _ h.box, cell_of_row _ _ _ _ _ _ h.box, cell_of_row _ _ _ _ _ _ h.box, cell_of_row _ _ _ _ _ _ h.box, cell_of_row _ _ _ _ _ _ h.arr, cell_of_row _ _ _ _ _ _ h.arr, cell_of_row _ _ _ _ _ _ h.arr⟩
theorem LR.four (h : LR w P R s vt vr vq tl rl ql r) : w.cell? ⟨P, 2, none⟩ = some vr ∧ w.cell? ⟨R, 0, none⟩ = some (.int .i64 r.k) ∧ w.cell? ⟨R, 1, none⟩ = some (.int .i64 r.a) ∧ w.cell? ⟨R, 2, none⟩ = some (.int .i64 r.b) :=
  ⟨h.cells.2.2.1, h.cells.2.2.2.2⟩
theorem LR.lt (h : LR w P R s vt vr vq tl rl ql r) : P < w.heap.size ∧ R < w.heap.size := ⟨(Array.getElem?_eq_some_iff.1 h.box).1, (Array.getElem?_eq_some_iff.1 h.arr).1⟩
theorem lr_start (w : World) (hT : RdE eT w vt tl) (hR : RdE eR w vr rl) (hQ : RdE eQ w vq ql) (htab : TabAt w) :
    LR ((w.alloc (.cells #[.string s, vt, vr, vq] 26)).alloc (.cells #[.int .i64 r.k, .int .i64 r.a, .int .i64 r.b] 55)) w.heap.size (w.heap.size + 1) s vt vr vq tl rl ql r :=
  ⟨(hT.alloc _).alloc _, (hR.alloc _).alloc _, (hQ.alloc _).alloc _, (htab.alloc _).alloc _,
    by simp only [alloc_get, World.size_alloc]; rw [if_neg (by omega), if_pos trivial], by simp only [alloc_get, World.size_alloc]; rw [if_pos trivial]⟩
end
/-! the uses with a rule more -/
theorem stU_sub (t : Int) (y : RuP) (j : Nat) (a u : Int) (h : subB a u = true) : subB a (stU t y j u) = true := by
  unfold stU
  split
  · split
    · split
      · exact subB_or _ _ _ (subB_or _ _ _ h)
      · exact subB_or _ _ _ h
    · split
      · exact subB_or _ _ _ h
      · exact h
  · exact h
theorem uIn_sub (t : Int) (y : RuP) (j : Nat) (a u : Int) (h : subB a u = true) : subB a (uIn t y j u) = true := by
  induction j with
  | zero => exact h
  | succ j ih => exact stU_sub _ _ _ _ _ ih
theorem uIn_same (t : Int) (y : RuP) (j : Nat) (u : Int) (ha : ¬ y.a = t) (hb : ¬ y.b = t) : uIn t y j u = u := by
  induction j with
  | zero => rfl
  | succ j ih => rw [uIn, ih]; unfold stU; simp [ha, hb]
theorem usesP_snoc (tl : List TyP) (rl : List RuP) (r : RuP) (t : Int) : subB (usesP tl rl t) (usesP tl (rl ++ [r]) t) = true ∧ (¬ r.a = t → ¬ r.b = t → usesP tl (rl ++ [r]) t = usesP tl rl t) := by
  unfold usesP
  by_cases hx : ex t tl.length = true
  · rw [if_pos hx, if_pos hx]
    have e : ∀ u, uAll t (rl ++ [r]) u = uIn t r 5 (uAll t rl u) := fun u => by unfold uAll; rw [List.foldl_append]; rfl
    rw [e]
    exact ⟨uIn_sub _ _ _ _ _ (subB_refl _), fun ha hb => uIn_same _ _ _ _ ha hb⟩
  · rw [if_neg hx, if_neg hx]
    exact ⟨subB_refl _, fun _ _ => rfl⟩
end Go.Proofs.YtamdlkflcbefdaaDoor
