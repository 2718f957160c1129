/- What the laws on restoring lean on. -/
import Derived.Test.YtjbndfnhollfnaaPlanG
import Derived.Deep.Cut
namespace Go.Proofs.Ytjbndfnhollfnaa
open Go.RowKit
set_option linter.unusedSimpArgs false
set_option linter.unusedVariables false
theorem row_keep {W W' : World} {g : Nat} {X : Obj} (h : W.heap[g]? = some X) (hb : Below W.heap.size W W') : W'.heap[g]? = some X := by
  rw [hb.block _ (Array.getElem?_eq_some_iff.1 h).1]; exact h
theorem two_0 (w : World) (A B : Obj) : ((w.alloc A).alloc B).heap[w.heap.size]? = some A := by
  rw [((Below.refl (w.alloc A).heap.size _).alloc (Nat.le_refl _) B).block _ (by simp)]
  exact heap_alloc_new _ _
theorem two_1 (w : World) (A B : Obj) : ((w.alloc A).alloc B).heap[w.heap.size + 1]? = some B := by
  have h := heap_alloc_new (w.alloc A) B
  rwa [World.size_alloc] at h
theorem validB_num {b : BK} {l : List K} (h : validB b l = true) : 0 ≤ b.num ∧ b.num ≤ 2147483647 := by
  unfold validB headB at h
  simp only [Bool.and_eq_true] at h
  exact (win_iff _ _ _).1 h.1.1.1.1.1.1.2
/-- the place one number on -/
def pnext (p : PK) (n : Int) : PK := ⟨p.dom, p.pol, p.fw, n⟩
theorem pc_set33 {w : World} {g : Nat} {T : TypeId} {p : PK} (n : Int) (h : w.heap[g]? = some (.cells (pc p) T (0, 0))) : (w.setCell ⟨g, 33, none⟩ (.int .i64 n)).heap[g]? = some (.cells (pc (pnext p n)) T (0, 0)) := by
  have h1 := setRow_heap w g _ ((pc p).setIfInBounds 33 (.int .i64 n)) _ _ h
  rw [← setCell_rowK _ _ _ _ _ _ _ h] at h1
  exact h1
theorem admit_next {p : PK} {b : BK} {l : List K} (h : admitK p b l = 0) : admitK (pnext p (b.num + 1)) b l = 20 := by
  rcases admit_six p b l with ⟨_, hr⟩ | ⟨_, _, hr⟩ | ⟨_, _, _, hr⟩ | ⟨_, _, _, _, hr⟩ | ⟨_, _, _, _, _, hr⟩ | ⟨h1, h2, h3, h4, h5, hr⟩
  · rw [hr] at h; cases h
  · rw [hr] at h; cases h
  · rw [hr] at h; cases h
  · rw [hr] at h; cases h
  · rw [hr] at h; cases h
  · unfold admitK
    rw [if_pos h1, if_pos ⟨h2, h3⟩, if_neg]
    intro h6
    have : b.num + 1 ≤ b.num := h6.2
    omega
/-- a row, or a part of one, is loaded in a region that draws its order -/
theorem qq_row {ops : Array Oper} {C : World → Prop} {Q : Act → Prop} {a : Act} {o : Oper} {rest : List Oper} (hw : Region.wanted o (yielded ops a.tmps) = true) (ty : TypeId) (x : Operand) (ho : o.op = .load ty x)
    (g off : Nat) (hx : a.eval x = .pointer (some ⟨g, off, none⟩)) (cs : Array Value) (hC : ∀ w', C w' → (loadVar ty ⟨g, off, none⟩).run Try.prog w' = .ok (.agg cs) w')
    (h : wpQuiet Try.prog ops C Q rest (a.put o.dst (.agg cs))) : wpQuiet Try.prog ops C Q (o :: rest) a := by
  unfold wpQuiet
  rw [if_pos hw]
  refine ⟨.agg cs, fun w' hw' => ?_, h⟩
  unfold Oper.quietAt execOp
  simp only [ho, hx, Instr.loadAt, Instr.sureAddr, Sem.run_bind, Sem.run_pure, Result.andThen_ok, hC w' hw']
  exact ⟨rfl, rfl⟩
theorem ru_bk (b : BK) (u : Value) {w : World} {g : Nat} (h : w.heap[g]? = some (.cells (bc b u) 28 (0, 0))) : (loadVar 28 ⟨g, 0, none⟩).run Try.prog w = .ok (.agg (bc b u)) w :=
  run_loadVar_row w g _ _ (bc b u) _ _ h Try.underlying28 rfl (by rw [bc_size]; exact info_b)
theorem ru_pk (p : PK) {w : World} {g : Nat} (h : w.heap[g]? = some (.cells (pc p) 32 (0, 0))) : (loadVar 32 ⟨g, 0, none⟩).run Try.prog w = .ok (.agg (pc p)) w :=
  run_loadVar_row w g _ _ (pc p) _ _ h Try.underlying32 rfl (by rw [pc_size]; exact info_p)
theorem ru_dig (d : List UInt8) {w : World} {g off : Nat} (h : w.rangeAt g off (drow d).toList) : (loadVar 26 ⟨g, off, none⟩).run Try.prog w = .ok (.agg (drow d)) w :=
  run_loadVar_mid w g off _ (drow d).toList _ h Try.underlying26 rfl info_d
theorem built_q (d q : List UInt8) (f n : Int) : Try.prog.built 50 [(0, .agg (drow d)), (1, .agg (drow q)), (2, .int .i64 f), (3, .int .i64 n)] = some (pc ⟨d, q, f, n⟩) := by kernel_rfl
/-- a place of the specification's is built there -/
theorem q_place {ops : Array Oper} {C : World → Prop} {Q : Act → Prop} {a : Act} {o : Oper} {rest : List Oper} (hw : Region.wanted o (yielded ops a.tmps) = true) (x y z v : Operand) (ho : o.op = .build 50 #[(0, x), (1, y), (2, z), (3, v)])
    (d q : List UInt8) (f n : Int) (hx : a.eval x = .agg (drow d)) (hy : a.eval y = .agg (drow q)) (hz : a.eval z = .int .i64 f) (hv : a.eval v = .int .i64 n)
    (h : wpQuiet Try.prog ops C Q rest (a.put o.dst (.agg (pc ⟨d, q, f, n⟩)))) : wpQuiet Try.prog ops C Q (o :: rest) a := by
  unfold wpQuiet
  rw [if_pos hw]
  refine ⟨.agg (pc ⟨d, q, f, n⟩), fun w' hw' => ?_, h⟩
  have hr := run_build (P := Try.prog) w' 50 #[(0, .agg (drow d)), (1, .agg (drow q)), (2, .int .i64 f), (3, .int .i64 n)] _ (built_q d q f n)
  unfold Oper.quietAt execOp
  simp only [ho, List.map_toArray, List.map_cons, List.map_nil, hx, hy, hz, hv, hr, Sem.run_bind, Sem.run_pure, Result.andThen_ok]
  exact ⟨rfl, rfl⟩
theorem four_0 (w : World) (A B C D : Obj) : ((((w.alloc A).alloc B).alloc C).alloc D).heap[w.heap.size]? = some A := by
  have h := (((Below.refl (w.alloc A).heap.size (w.alloc A)).alloc (Nat.le_refl _) B).alloc (by simp) C).alloc (by simp) D
  rw [h.block _ (by simp)]
  exact heap_alloc_new _ _
theorem four_1 (w : World) (A B C D : Obj) : ((((w.alloc A).alloc B).alloc C).alloc D).heap[w.heap.size + 1]? = some B := by
  have h := ((Below.refl ((w.alloc A).alloc B).heap.size ((w.alloc A).alloc B)).alloc (Nat.le_refl _) C).alloc (by simp) D
  rw [h.block _ (by simp)]
  exact two_1 _ _ _
theorem four_2 (w : World) (A B C D : Obj) : ((((w.alloc A).alloc B).alloc C).alloc D).heap[w.heap.size + 1 + 1]? = some C := by
  have h := (Below.refl (((w.alloc A).alloc B).alloc C).heap.size (((w.alloc A).alloc B).alloc C)).alloc (Nat.le_refl _) D
  rw [h.block _ (by simp)]
  have h2 := heap_alloc_new ((w.alloc A).alloc B) C
  rw [World.size_alloc, World.size_alloc] at h2
  exact h2
theorem four_3 (w : World) (A B C D : Obj) : ((((w.alloc A).alloc B).alloc C).alloc D).heap[w.heap.size + 1 + 1 + 1]? = some D := by
  have h2 := heap_alloc_new (((w.alloc A).alloc B).alloc C) D
  rw [World.size_alloc, World.size_alloc, World.size_alloc] at h2
  exact h2
theorem below4 (w : World) (A B C D : Obj) {w1 : World} (h : Below ((((w.alloc A).alloc B).alloc C).alloc D).heap.size ((((w.alloc A).alloc B).alloc C).alloc D) w1) : Below w.heap.size w w1 :=
  below3 w A B C ((Below.refl _ _).alloc (Nat.le_refl _) D |>.trans (h.mono (by simp)))
/-! what a plan comes to: the number, the keys, the Ids, the error -/
def rn : Except Int PS → Int
  | .ok s => s.nx
  | .error _ => 0
def rk : Except Int PS → List K
  | .ok s => s.ks
  | .error _ => []
def ri : Except Int PS → List Int
  | .ok s => s.ids
  | .error _ => []
def re : Except Int PS → Int
  | .ok _ => 0
  | .error c => c
theorem planT_out {w w' : World} {r : Except Int PS} {e : Ending} (h : PlanT w r e w') : ∃ a c a2 c2, e = .returned (.tuple #[.agg #[.int .i64 (rn r), .slice a (rk r).length c], .slice a2 (ri r).length c2, .int .i64 (re r)]) ∧
    RdK w' (.slice a (rk r).length c) (rk r) ∧ RdI w' (.slice a2 (ri r).length c2) (ri r) ∧ Below w.heap.size w w' := by
  obtain ⟨hb, h⟩ := h
  cases r with
  | ok s =>
    obtain ⟨v, vi, he, h1, h2⟩ := h
    obtain ⟨a, c, rfl, _, _, _⟩ := id h1
    obtain ⟨a2, c2, rfl, _, _, _⟩ := id h2
    exact ⟨a, c, a2, c2, he, h1, h2, hb⟩
  | error c => exact ⟨none, 0, none, 0, h, RdK.nil _, RdI.nil _, hb⟩
theorem planR_out {w w' : World} {r : Except Int PS} {e : Ending} (h : PlanR w r e w') : ∃ a c a2 c2, e = .returned (.agg #[.int .i64 (rn r), .slice a (rk r).length c, .slice a2 (ri r).length c2, .int .i64 (re r)]) ∧
    RdK w' (.slice a (rk r).length c) (rk r) ∧ RdI w' (.slice a2 (ri r).length c2) (ri r) ∧ Below w.heap.size w w' := by
  obtain ⟨hb, h⟩ := h
  cases r with
  | ok s =>
    obtain ⟨v, vi, he, h1, h2⟩ := h
    obtain ⟨a, c, rfl, _, _, _⟩ := id h1
    obtain ⟨a2, c2, rfl, _, _, _⟩ := id h2
    exact ⟨a, c, a2, c2, he, h1, h2, hb⟩
  | error c => exact ⟨none, 0, none, 0, h, RdK.nil _, RdI.nil _, hb⟩
theorem sameT_refl (n : Int) (v u : Value) (l : List K) (w : World) (hv : RdK w v l) (hu : RdK w u l) :
    Calls Try.prog 14 #[.agg #[.int .i64 n, v], .agg #[.int .i64 n, u]] w fun e w' => e = .returned (.bool true) ∧ Below w.heap.size w w' := by
  have h := sameT n n v u l l w hv hu
  rw [decide_eq_true ⟨rfl, rfl⟩] at h
  exact h
theorem sameI_refl (v u : Value) (l : List Int) (w : World) (hv : RdI w v l) (hu : RdI w u l) :
    Calls Try.prog 15 #[v, u] w fun e w' => e = .returned (.bool true) ∧ Below w.heap.size w w' := by
  have h := sameInts v u l l w hv hu
  rw [decide_eq_true rfl] at h
  exact h
end Go.Proofs.Ytjbndfnhollfnaa
