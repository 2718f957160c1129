/- The examples: what each call of them answers. -/
import Derived.Test.YtjbndfnhollfnaaPlanG
import Derived.Test.YtjbndfnhollfnaaShelf
import Derived.Great.BuildSlice
namespace Go.Proofs.Ytjbndfnhollfnaa
open Go.RowKit Go.Shelf
set_option linter.unusedSimpArgs false
set_option linter.unusedVariables false
def v32 : List UInt8 := List.replicate 32 118
def k1 : K := ⟨1, 0, v32, 0, 1, 9, 1, 0, false⟩
def k4 : K := ⟨4, 0, v32, 0, 1, 9, 2, 1, false⟩
def k6 : K := ⟨6, 0, v32, 0, 1, 5, 1, 0, false⟩
def k2 : K := ⟨2, 0, v32, 0, 1, 9, 2, 1, false⟩
def b0 : BK := ⟨[], 0, 2, 0, 0, [], [109]⟩
def bz : BK := ⟨[], 0, 0, 0, 0, [], []⟩
def p2 : PK := ⟨[], [], 0, 2⟩
def p3 : PK := ⟨[], [], 0, 3⟩
def pd : PK := ⟨[], [1], 0, 2⟩
theorem rep32 (w : World) : Calls Try.prog 23 #[.string ⟨#[118]⟩, .int .i64 32] w fun e w' => e = .returned (.string ⟨v32.toArray⟩) ∧ Below w.heap.size w w' :=
  (Try.strings_Repeat ⟨#[118]⟩ 32 w (by decide) (by decide)).mono fun e w' h => ⟨h.1.trans (by rfl), h.2⟩
theorem wfs : ∀ i, i < [k1, k4, k6].length → (keyAt [k1, k4, k6] i).wf := by
  intro i hi
  match i, hi with
  | 0, _ => exact ⟨by decide, by decide⟩
  | 1, _ => exact ⟨by decide, by decide⟩
  | 2, _ => exact ⟨by decide, by decide⟩
theorem s1 : planK 2 [k1] b0 [k1, k4, k6] 5 = .ok ⟨3, [k1, k2], [(1, 1), (4, 2)], [2]⟩ := by kernel_rfl
theorem s2 : planK 3 [k1, k2] b0 [k1, k4, k6] 5 = .ok ⟨3, [k1, k2], [(1, 1), (4, 2)], []⟩ := by kernel_rfl
theorem tab1 : validTab 2 [k1] = true := by kernel_rfl
theorem tab2 : validTab 3 [k1, k2] = true := by kernel_rfl
theorem ex_plan1 (w : World) (v u : Value) (hv : RdK w v [k1]) (hu : RdK w u [k1, k4, k6]) :
    Calls Try.prog 10 #[.agg #[.int .i64 2, v], .agg (bc b0 u), .int .i64 5] w fun e w' => ∃ a c a2 c2, e = .returned (.tuple #[.agg #[.int .i64 3, .slice a 2 c], .slice a2 1 c2, .int .i64 0]) ∧ RdK w' (.slice a 2 c) [k1, k2] ∧ RdI w' (.slice a2 1 c2) [2] ∧ Below w.heap.size w w' := by
  have h := plan_c 2 5 v u [k1] [k1, k4, k6] b0 w hv hu wfs (by unfold maxLen; decide) (by decide) (by decide) tab1
  rw [s1] at h
  refine h.mono fun e w' h => ?_
  obtain ⟨hb, v', vi, he, h1, h2⟩ := h
  obtain ⟨a, c, rfl, _, _, _⟩ := id h1
  obtain ⟨a2, c2, rfl, _, _, _⟩ := id h2
  exact ⟨a, c, a2, c2, he, h1, h2, hb⟩
theorem ex_plan2 (w : World) (v u : Value) (hv : RdK w v [k1, k2]) (hu : RdK w u [k1, k4, k6]) :
    Calls Try.prog 10 #[.agg #[.int .i64 3, v], .agg (bc b0 u), .int .i64 5] w fun e w' => ∃ a c a2 c2, e = .returned (.tuple #[.agg #[.int .i64 3, .slice a 2 c], .slice a2 0 c2, .int .i64 0]) ∧ RdK w' (.slice a 2 c) [k1, k2] ∧ Below w.heap.size w w' := by
  have h := plan_c 3 5 v u [k1, k2] [k1, k4, k6] b0 w hv hu wfs (by unfold maxLen; decide) (by decide) (by decide) tab2
  rw [s2] at h
  refine h.mono fun e w' h => ?_
  obtain ⟨hb, v', vi, he, h1, h2⟩ := h
  obtain ⟨a, c, rfl, _, _, _⟩ := id h1
  obtain ⟨a2, c2, rfl, _, _, _⟩ := id h2
  exact ⟨a, c, a2, c2, he, h1, hb⟩
theorem ex_twin1 (w : World) (v : Value) (hv : RdK w v [k1, k2]) : Calls Try.prog 12 #[.agg #[.int .i64 3, v], kv k4] w fun e w' => e = .returned (.tuple #[.int .i64 2, .bool true]) ∧ Below w.heap.size w w' := by
  have h := twin_c 3 v [k1, k2] k4 w hv
  rw [show twinId [k1, k2] k4 = 2 from by kernel_rfl, show twinIs [k1, k2] k4 = true from by kernel_rfl] at h
  exact h
theorem ex_twin2 (w : World) (v : Value) (hv : RdK w v [k1]) : Calls Try.prog 12 #[.agg #[.int .i64 2, v], kv k4] w fun e w' => e = .returned (.tuple #[.int .i64 0, .bool false]) ∧ Below w.heap.size w w' := by
  have h := twin_c 2 v [k1] k4 w hv
  rw [show twinId [k1] k4 = 0 from by kernel_rfl, show twinIs [k1] k4 = false from by kernel_rfl] at h
  exact h
theorem ex_admit (p : PK) (c : Int) (hc : admitK p b0 [k1, k4, k6] = c) (w : World) (u : Value) (hu : RdK w u [k1, k4, k6]) : Calls Try.prog 18 #[.agg (pc p), .agg (bc b0 u)] w fun e w' => e = .returned (.int .i64 c) ∧ Below w.heap.size w w' := by
  have h := admit_c p b0 u _ w hu wfs (by unfold maxLen; decide)
  rw [hc] at h
  exact h
theorem ex_admz (w : World) : Calls Try.prog 18 #[.agg (pc p2), .agg (bc bz (.slice none 0 0))] w fun e w' => e = .returned (.int .i64 1) ∧ Below w.heap.size w w' := by
  have h := admit_c p2 bz _ [] w (RdK.nil w) (fun i hi => absurd hi (by simp)) (by unfold maxLen; decide)
  rw [show admitK p2 bz [] = 1 from by kernel_rfl] at h
  exact h
theorem a1 : admitK p3 b0 [k1, k4, k6] = 20 := by kernel_rfl
theorem a2 : admitK pd b0 [k1, k4, k6] = 10 := by kernel_rfl
theorem a3 : admitK p2 b0 [k1, k4, k6] = 0 := by kernel_rfl
theorem ex_same (w : World) (v u : Value) (hv : RdK w v [k1, k2]) (hu : RdK w u [k1, k2]) : Calls Try.prog 14 #[.agg #[.int .i64 3, v], .agg #[.int .i64 3, u]] w fun e w' => e = .returned (.bool true) ∧ Below w.heap.size w w' := by
  have h := sameT 3 3 v u _ _ w hv hu
  rw [decide_eq_true (by simp)] at h
  exact h
theorem ex_holds (nx now : Int) (l : List K) (r : Bool) (hr : holdsK l [k1, k4, k6] now = r) (w : World) (v u : Value) (hv : RdK w v l) (hu : RdK w u [k1, k4, k6]) : Calls Try.prog 16 #[.agg #[.int .i64 nx, v], .agg (bc b0 u), .int .i64 now] w fun e w' => e = .returned (.bool r) ∧ Below w.heap.size w w' := by
  have h := holds_c nx now v u l _ b0 w hv hu
  rw [hr] at h
  exact h
theorem h1 : holdsK [k1, k2] [k1, k4, k6] 5 = true := by kernel_rfl
theorem h2 : holdsK [k1] [k1, k4, k6] 5 = false := by kernel_rfl
theorem h3 : holdsK [k1] [k1, k4, k6] 9 = true := by kernel_rfl
theorem setRow_new (w : World) (cs0 cs : Array Value) (T : TypeId) : (w.alloc (.cells cs0 T)).setRow w.heap.size cs = w.alloc (.cells cs T) := by
  unfold World.setRow World.alloc
  simp only [World.mk.injEq, and_true]
  apply Array.ext_getElem?
  intro j
  rw [Array.getElem?_modify]
  by_cases h : w.heap.size = j
  · subst h
    simp
  · simp only [h, if_false]
    simp only [Array.getElem?_push]
    rw [if_neg (fun e => h e.symm), if_neg (fun e => h e.symm)]
/-- a store of a whole row into the block that was made last -/
theorem st_new {ops : Array Oper} {rest : List Oper} {o : Oper} {a : Act} {w0 : World} {Q : Exit → Act → World → Prop} {cs0 : Array Value} (cs : Array Value) (T : TypeId) (hgd : o.guard = none) (x y : Operand) (ho : o.op = .store T x y)
    (n : Nat) (hx : a.eval x = .pointer (some ⟨n, 0, none⟩)) (hn : w0.heap.size = n) (hy : a.eval y = .agg cs) (hi : (Try.prog.info? T).map (·.size) = some cs.size) (hold : cs0.size = cs.size) (h1 : cs.all (·.oneCell') = true)
    (h : wpList Try.prog ops Q rest (a.put o.dst undef) (w0.alloc (.cells cs T))) : wpList Try.prog ops Q (o :: rest) a (w0.alloc (.cells cs0 T)) := by
  subst hn
  refine wpList_store_row hgd T x y ho w0.heap.size cs hx hy T cs0 (heap_alloc_new _ _) hi hold h1 ?_
  rw [setRow_new]
  exact h
attribute [local semireducible] bc
theorem bc_one (b : BK) (a : Option Addr) (n c : Nat) : (bc b (.slice a n c)).all (·.oneCell') = true := by
  have h1 : ∀ d i, (dcell d i).oneCell' = true := fun _ _ => rfl
  have h2 : ∀ k, (Value.int .i64 k).oneCell' = true := fun _ => rfl
  have h3 : ∀ s, (Value.string s).oneCell' = true := fun _ => rfl
  have h4 : (Value.slice a n c).oneCell' = true := rfl
  unfold bc
  simp [h1, h2, h3, h4]
theorem built_b0 (p : Option Addr) (n c : Nat) : Try.prog.built 28 [(2, .int .i64 2), (6, .string ⟨#[109]⟩), (7, .slice p n c)] = some (bc b0 (.slice p n c)) := by kernel_rfl
theorem built_bz : Try.prog.built 28 [] = some (bc bz (.slice none 0 0)) := by kernel_rfl
theorem built_p2 : Try.prog.built 32 [(3, .int .i64 2)] = some (pc p2) := by kernel_rfl
theorem built_p3 : Try.prog.built 32 [(3, .int .i64 3)] = some (pc p3) := by kernel_rfl
theorem built_d1 : Try.prog.built 26 [(0, .int .u8 1)] = some (drow [1]) := by kernel_rfl
theorem built_pd : Try.prog.built 32 [(3, .int .i64 2), (1, .agg (drow [1]))] = some (pc pd) := by kernel_rfl
theorem bld_b0 {ops : Array Oper} {rest : List Oper} {o : Oper} {a : Act} {w : World} {Q : Exit → Act → World → Prop} (hg : o.guard = none) (x y z : Operand) (ho : o.op = .build 28 #[(2, x), (6, y), (7, z)])
    (p : Option Addr) (n c : Nat) (hx : a.eval x = .int .i64 2) (hy : a.eval y = .string ⟨#[109]⟩) (hz : a.eval z = .slice p n c)
    (h : wpList Try.prog ops Q rest (a.put o.dst (.agg (bc b0 (.slice p n c)))) w) : wpList Try.prog ops Q (o :: rest) a w := by
  have e : (Try.prog.built 28 ((#[(2, x), (6, y), (7, z)] : Array (Nat × Operand)).map fun (i, x) => (i, a.eval x)).toList) = some (bc b0 (.slice p n c)) := by
    simp only [List.map_toArray, List.map_cons, List.map_nil, hx, hy, hz]
    exact built_b0 p n c
  refine wpList_build hg 28 _ ho (by rw [e]; rfl) ?_
  rw [e]
  exact h
/-- a struct is built of one part -/
theorem bld_1 {ops : Array Oper} {rest : List Oper} {o : Oper} {a : Act} {w : World} {Q : Exit → Act → World → Prop} (T : TypeId) (i : Nat) (v : Value) (cs : Array Value) (hb : Try.prog.built T [(i, v)] = some cs) (hg : o.guard = none) (x : Operand) (ho : o.op = .build T #[(i, x)])
    (hx : a.eval x = v) (h : wpList Try.prog ops Q rest (a.put o.dst (.agg cs)) w) : wpList Try.prog ops Q (o :: rest) a w := by
  have e : (Try.prog.built T ((#[(i, x)] : Array (Nat × Operand)).map fun (i, x) => (i, a.eval x)).toList) = some cs := by
    simp only [List.map_toArray, List.map_cons, List.map_nil, hx]
    exact hb
  refine wpList_build hg T _ ho (by rw [e]; rfl) ?_
  rw [e]
  exact h
/-- .. of two parts -/
theorem bld_2 {ops : Array Oper} {rest : List Oper} {o : Oper} {a : Act} {w : World} {Q : Exit → Act → World → Prop} (T : TypeId) (i j : Nat) (v u : Value) (cs : Array Value) (hb : Try.prog.built T [(i, v), (j, u)] = some cs) (hg : o.guard = none) (x y : Operand) (ho : o.op = .build T #[(i, x), (j, y)])
    (hx : a.eval x = v) (hy : a.eval y = u) (h : wpList Try.prog ops Q rest (a.put o.dst (.agg cs)) w) : wpList Try.prog ops Q (o :: rest) a w := by
  have e : (Try.prog.built T ((#[(i, x), (j, y)] : Array (Nat × Operand)).map fun (i, x) => (i, a.eval x)).toList) = some cs := by
    simp only [List.map_toArray, List.map_cons, List.map_nil, hx, hy]
    exact hb
  refine wpList_build hg T _ ho (by rw [e]; rfl) ?_
  rw [e]
  exact h
end Go.Proofs.Ytjbndfnhollfnaa
