/- Parts of a proof, joined: contracts of functions of the program and plain lemmas (SanA, BalC, BalD, BalE, BalF). No condition. -/
import Derived.Test.YtbpjdfnnlmblaaaDoorMA12
import Derived.Great.BuildSlice
/- The examples: what each call of them answers. -/
namespace Go.Proofs.YtbpjdfnnlmblaaaDoor
open Go.RowKit Go.Shelf
set_option linter.unusedSimpArgs false
set_option linter.unusedVariables false
def v32 : List UInt8 := List.replicate 32 118
def k1 : K := ⟨1, 0, v32, 0, 1, 9, 1, 0, false⟩
def k4 : K := ⟨4, 0, v32, 0, 1, 9, 2, 1, false⟩
def k6 : K := ⟨6, 0, v32, 0, 1, 5, 1, 0, false⟩
def k2 : K := ⟨2, 0, v32, 0, 1, 9, 2, 1, false⟩
def b0 : BK := ⟨[], 0, 2, 0, 0, [], [109]⟩
def bz : BK := ⟨[], 0, 0, 0, 0, [], []⟩
def p2 : PK := ⟨[], [], 0, 2⟩
def p3 : PK := ⟨[], [], 0, 3⟩
def pd : PK := ⟨[], [1], 0, 2⟩
theorem rep32 (w : World) : Calls Tryd.prog 43 #[.string ⟨#[118]⟩, .int .i64 32] w fun e w' => e = .returned (.string ⟨v32.toArray⟩) ∧ Below w.heap.size w w' :=
  (Tryd.strings_Repeat ⟨#[118]⟩ 32 w (by decide) (by decide)).mono fun e w' h => ⟨h.1.trans (by rfl), h.2⟩
theorem wfs : ∀ i, i < [k1, k4, k6].length → (keyAt [k1, k4, k6] i).wf := by
  intro i hi
  match i, hi with
  | 0, _ => exact ⟨by decide, by decide⟩
  | 1, _ => exact ⟨by decide, by decide⟩
  | 2, _ => exact ⟨by decide, by decide⟩
theorem s1 : planK 2 [k1] b0 [k1, k4, k6] 5 = .ok ⟨3, [k1, k2], [(1, 1), (4, 2)], [2]⟩ := by kernel_rfl
theorem s2 : planK 3 [k1, k2] b0 [k1, k4, k6] 5 = .ok ⟨3, [k1, k2], [(1, 1), (4, 2)], []⟩ := by kernel_rfl
theorem tab1 : validTab 2 [k1] = true := by kernel_rfl
theorem tab2 : validTab 3 [k1, k2] = true := by kernel_rfl
theorem ex_plan1 (w : World) (v u : Value) (hv : RdK w v [k1]) (hu : RdK w u [k1, k4, k6]) :
    Calls Tryd.prog 17 #[.agg #[.int .i64 2, v], .agg (bc b0 u), .int .i64 5] w fun e w' => ∃ a c a2 c2, e = .returned (.tuple #[.agg #[.int .i64 3, .slice a 2 c], .slice a2 1 c2, .int .i64 0]) ∧ RdK w' (.slice a 2 c) [k1, k2] ∧ RdI w' (.slice a2 1 c2) [2] ∧ Below w.heap.size w w' := by
  have h := plan_c 2 5 v u [k1] [k1, k4, k6] b0 w hv hu wfs (by unfold maxLen; decide) (by decide) (by decide) tab1
  rw [s1] at h
  refine h.mono fun e w' h => ?_
  obtain ⟨hb, v', vi, he, h1, h2⟩ := h
  obtain ⟨a, c, rfl, _, _, _⟩ := id h1
  obtain ⟨a2, c2, rfl, _, _, _⟩ := id h2
  exact ⟨a, c, a2, c2, he, h1, h2, hb⟩
theorem ex_plan2 (w : World) (v u : Value) (hv : RdK w v [k1, k2]) (hu : RdK w u [k1, k4, k6]) :
    Calls Tryd.prog 17 #[.agg #[.int .i64 3, v], .agg (bc b0 u), .int .i64 5] w fun e w' => ∃ a c a2 c2, e = .returned (.tuple #[.agg #[.int .i64 3, .slice a 2 c], .slice a2 0 c2, .int .i64 0]) ∧ RdK w' (.slice a 2 c) [k1, k2] ∧ Below w.heap.size w w' := by
  have h := plan_c 3 5 v u [k1, k2] [k1, k4, k6] b0 w hv hu wfs (by unfold maxLen; decide) (by decide) (by decide) tab2
  rw [s2] at h
  refine h.mono fun e w' h => ?_
  obtain ⟨hb, v', vi, he, h1, h2⟩ := h
  obtain ⟨a, c, rfl, _, _, _⟩ := id h1
  obtain ⟨a2, c2, rfl, _, _, _⟩ := id h2
  exact ⟨a, c, a2, c2, he, h1, hb⟩
theorem ex_twin1 (w : World) (v : Value) (hv : RdK w v [k1, k2]) : Calls Tryd.prog 19 #[.agg #[.int .i64 3, v], kv k4] w fun e w' => e = .returned (.tuple #[.int .i64 2, .bool true]) ∧ Below w.heap.size w w' := by
  have h := twin_c 3 v [k1, k2] k4 w hv
  rw [show twinId [k1, k2] k4 = 2 from by kernel_rfl, show twinIs [k1, k2] k4 = true from by kernel_rfl] at h
  exact h
theorem ex_twin2 (w : World) (v : Value) (hv : RdK w v [k1]) : Calls Tryd.prog 19 #[.agg #[.int .i64 2, v], kv k4] w fun e w' => e = .returned (.tuple #[.int .i64 0, .bool false]) ∧ Below w.heap.size w w' := by
  have h := twin_c 2 v [k1] k4 w hv
  rw [show twinId [k1] k4 = 0 from by kernel_rfl, show twinIs [k1] k4 = false from by kernel_rfl] at h
  exact h
theorem ex_admit (p : PK) (c : Int) (hc : admitK p b0 [k1, k4, k6] = c) (w : World) (u : Value) (hu : RdK w u [k1, k4, k6]) : Calls Tryd.prog 44 #[.agg (pc p), .agg (bc b0 u)] w fun e w' => e = .returned (.int .i64 c) ∧ Below w.heap.size w w' := by
  have h := admit_c p b0 u _ w hu wfs (by unfold maxLen; decide)
  rw [hc] at h
  exact h
theorem ex_admz (w : World) : Calls Tryd.prog 44 #[.agg (pc p2), .agg (bc bz (.slice none 0 0))] w fun e w' => e = .returned (.int .i64 1) ∧ Below w.heap.size w w' := by
  have h := admit_c p2 bz _ [] w (RdK.nil w) (fun i hi => absurd hi (by simp)) (by unfold maxLen; decide)
  rw [show admitK p2 bz [] = 1 from by kernel_rfl] at h
  exact h
theorem a1 : admitK p3 b0 [k1, k4, k6] = 20 := by kernel_rfl
theorem a2 : admitK pd b0 [k1, k4, k6] = 10 := by kernel_rfl
theorem a3 : admitK p2 b0 [k1, k4, k6] = 0 := by kernel_rfl
theorem ex_same (w : World) (v u : Value) (hv : RdK w v [k1, k2]) (hu : RdK w u [k1, k2]) : Calls Tryd.prog 45 #[.agg #[.int .i64 3, v], .agg #[.int .i64 3, u]] w fun e w' => e = .returned (.bool true) ∧ Below w.heap.size w w' := by
  have h := sameT 3 3 v u _ _ w hv hu
  rw [decide_eq_true (by simp)] at h
  exact h
theorem ex_holds (nx now : Int) (l : List K) (r : Bool) (hr : holdsK l [k1, k4, k6] now = r) (w : World) (v u : Value) (hv : RdK w v l) (hu : RdK w u [k1, k4, k6]) : Calls Tryd.prog 21 #[.agg #[.int .i64 nx, v], .agg (bc b0 u), .int .i64 now] w fun e w' => e = .returned (.bool r) ∧ Below w.heap.size w w' := by
  have h := holds_c nx now v u l _ b0 w hv hu
  rw [hr] at h
  exact h
theorem h1 : holdsK [k1, k2] [k1, k4, k6] 5 = true := by kernel_rfl
theorem h2 : holdsK [k1] [k1, k4, k6] 5 = false := by kernel_rfl
theorem h3 : holdsK [k1] [k1, k4, k6] 9 = true := by kernel_rfl
attribute [local semireducible] bc
theorem bc_one (b : BK) (a : Option Addr) (n c : Nat) : (bc b (.slice a n c)).all (·.oneCell') = true := by
  have h1 : ∀ d i, (dcell d i).oneCell' = true := fun _ _ => rfl
  have h2 : ∀ k, (Value.int .i64 k).oneCell' = true := fun _ => rfl
  have h3 : ∀ s, (Value.string s).oneCell' = true := fun _ => rfl
  have h4 : (Value.slice a n c).oneCell' = true := rfl
  unfold bc
  simp [h1, h2, h3, h4]
theorem built_b0 (p : Option Addr) (n c : Nat) : Tryd.prog.built 26 [(2, .int .i64 2), (6, .string ⟨#[109]⟩), (7, .slice p n c)] = some (bc b0 (.slice p n c)) := by kernel_rfl
theorem built_bz : Tryd.prog.built 26 [] = some (bc bz (.slice none 0 0)) := by kernel_rfl
theorem built_p2 : Tryd.prog.built 82 [(3, .int .i64 2)] = some (pc p2) := by kernel_rfl
theorem built_p3 : Tryd.prog.built 82 [(3, .int .i64 3)] = some (pc p3) := by kernel_rfl
theorem built_d1 : Tryd.prog.built 23 [(0, .int .u8 1)] = some (drow [1]) := by kernel_rfl
theorem built_pd : Tryd.prog.built 82 [(3, .int .i64 2), (1, .agg (drow [1]))] = some (pc pd) := by kernel_rfl
theorem bld_b0 {ops : Array Oper} {rest : List Oper} {o : Oper} {a : Act} {w : World} {Q : Exit → Act → World → Prop} (hg : o.guard = none) (x y z : Operand) (ho : o.op = .build 26 #[(2, x), (6, y), (7, z)])
    (p : Option Addr) (n c : Nat) (hx : a.eval x = .int .i64 2) (hy : a.eval y = .string ⟨#[109]⟩) (hz : a.eval z = .slice p n c)
    (h : wpList Tryd.prog ops Q rest (a.put o.dst (.agg (bc b0 (.slice p n c)))) w) : wpList Tryd.prog ops Q (o :: rest) a w := by
  have e : (Tryd.prog.built 26 ((#[(2, x), (6, y), (7, z)] : Array (Nat × Operand)).map fun (i, x) => (i, a.eval x)).toList) = some (bc b0 (.slice p n c)) := by
    simp only [List.map_toArray, List.map_cons, List.map_nil, hx, hy, hz]
    exact built_b0 p n c
  refine wpList_build hg 26 _ ho (by rw [e]; rfl) ?_
  rw [e]
  exact h
/-- a struct is built of one part -/
theorem kbld_1 {ops : Array Oper} {rest : List Oper} {o : Oper} {a : Act} {w : World} {Q : Exit → Act → World → Prop} (T : TypeId) (i : Nat) (v : Value) (cs : Array Value) (hb : Tryd.prog.built T [(i, v)] = some cs) (hg : o.guard = none) (x : Operand) (ho : o.op = .build T #[(i, x)])
    (hx : a.eval x = v) (h : wpList Tryd.prog ops Q rest (a.put o.dst (.agg cs)) w) : wpList Tryd.prog ops Q (o :: rest) a w := by
  have e : (Tryd.prog.built T ((#[(i, x)] : Array (Nat × Operand)).map fun (i, x) => (i, a.eval x)).toList) = some cs := by
    simp only [List.map_toArray, List.map_cons, List.map_nil, hx]
    exact hb
  refine wpList_build hg T _ ho (by rw [e]; rfl) ?_
  rw [e]
  exact h
/-- .. of two parts -/
theorem bld_2 {ops : Array Oper} {rest : List Oper} {o : Oper} {a : Act} {w : World} {Q : Exit → Act → World → Prop} (T : TypeId) (i j : Nat) (v u : Value) (cs : Array Value) (hb : Tryd.prog.built T [(i, v), (j, u)] = some cs) (hg : o.guard = none) (x y : Operand) (ho : o.op = .build T #[(i, x), (j, y)])
    (hx : a.eval x = v) (hy : a.eval y = u) (h : wpList Tryd.prog ops Q rest (a.put o.dst (.agg cs)) w) : wpList Tryd.prog ops Q (o :: rest) a w := by
  have e : (Tryd.prog.built T ((#[(i, x), (j, y)] : Array (Nat × Operand)).map fun (i, x) => (i, a.eval x)).toList) = some cs := by
    simp only [List.map_toArray, List.map_cons, List.map_nil, hx, hy]
    exact hb
  refine wpList_build hg T _ ho (by rw [e]; rfl) ?_
  rw [e]
  exact h
end Go.Proofs.YtbpjdfnnlmblaaaDoor
/- The examples that each law of custodylaw36 plays. -/
namespace Go.Proofs.YtbpjdfnnlmblaaaDoor
open Go.RowKit Go.Shelf
set_option linter.unusedSimpArgs false
set_option linter.unusedVariables false
theorem y_v118 (w : World) : Calls Tryd.prog 22 #[.int .u8 118] w fun e w' => e = .returned (.string ⟨(vS 118).toArray⟩) ∧ Below w.heap.size w w' := value_c 118 w
theorem y_v100 (w : World) : Calls Tryd.prog 22 #[.int .u8 100] w fun e w' => e = .returned (.string ⟨(vS 100).toArray⟩) ∧ Below w.heap.size w w' := value_c 100 w
theorem y_v120 (w : World) : Calls Tryd.prog 22 #[.int .u8 120] w fun e w' => e = .returned (.string ⟨(vS 120).toArray⟩) ∧ Below w.heap.size w w' := value_c 120 w
theorem built_dS1 : Tryd.prog.built 23 [(0, .int .u8 1)] = some (drow (dS 1)) := by kernel_rfl
theorem built_dS6 : Tryd.prog.built 23 [(0, .int .u8 6)] = some (drow (dS 6)) := by kernel_rfl
theorem built_bS (p : Option Addr) (n c : Nat) : Tryd.prog.built 26 [(0, .agg (drow (dS 1))), (1, .int .i64 2), (2, .int .i64 3), (3, .int .i64 4), (4, .int .i64 5), (5, .agg (drow (dS 6))), (6, .string ⟨#[109]⟩), (7, .slice p n c)] = some (bc bS (.slice p n c)) := by kernel_rfl
theorem bld_bS {ops : Array Oper} {rest : List Oper} {o : Oper} {a : Act} {w : World} {Q : Exit → Act → World → Prop} (hg : o.guard = none) (x0 x1 x2 x3 x4 x5 x6 x7 : Operand)
    (ho : o.op = .build 26 #[(0, x0), (1, x1), (2, x2), (3, x3), (4, x4), (5, x5), (6, x6), (7, x7)])
    (p : Option Addr) (n c : Nat) (h0 : a.eval x0 = .agg (drow (dS 1))) (h1 : a.eval x1 = .int .i64 2) (h2 : a.eval x2 = .int .i64 3) (h3 : a.eval x3 = .int .i64 4) (h4 : a.eval x4 = .int .i64 5) (h5 : a.eval x5 = .agg (drow (dS 6))) (h6 : a.eval x6 = .string ⟨#[109]⟩) (h7 : a.eval x7 = .slice p n c)
    (h : wpList Tryd.prog ops Q rest (a.put o.dst (.agg (bc bS (.slice p n c)))) w) : wpList Tryd.prog ops Q (o :: rest) a w := by
  have e : (Tryd.prog.built 26 ((#[(0, x0), (1, x1), (2, x2), (3, x3), (4, x4), (5, x5), (6, x6), (7, x7)] : Array (Nat × Operand)).map fun (i, x) => (i, a.eval x)).toList) = some (bc bS (.slice p n c)) := by
    simp only [List.map_toArray, List.map_cons, List.map_nil, h0, h1, h2, h3, h4, h5, h6, h7]
    exact built_bS p n c
  refine wpList_build hg 26 _ ho (by rw [e]; rfl) ?_
  rw [e]
  exact h
/-- the key and the backup of the examples -/
structure SB36 (W : World) (g : Nat) : Prop where
  k : KeyAt W g kS
  b : W.heap[g + 1 + 1]? = some (.cells (bc bS (.slice (some ⟨g + 1, 0, none⟩) 1 1)) 26 (0, 0))
  r : RdK W (.slice (some ⟨g + 1, 0, none⟩) 1 1) [kS]
theorem SB36.on {W W' : World} {g : Nat} (h : SB36 W g) (hb : Below W.heap.size W W') : SB36 W' g := ⟨h.k.on hb, row_keep h.b hb, h.r.on hb⟩
theorem SB36.lt {W : World} {g : Nat} (h : SB36 W g) : g + 1 + 1 < W.heap.size := (Array.getElem?_eq_some_iff.1 h.b).1
theorem sb36_start (w : World) : SB36 (((w.alloc (.cells (kc kS) 48)).alloc (.cells (kc kS) 48)).alloc (.cells (bc bS (.slice (some ⟨w.heap.size + 1, 0, none⟩) 1 1)) 26)) w.heap.size := by
  have h1 := one_k (w.alloc (.cells (kc kS) 48)) kS
  rw [World.size_alloc] at h1
  have h2 := heap_alloc_new ((w.alloc (.cells (kc kS) 48)).alloc (.cells (kc kS) 48)) (.cells (bc bS (.slice (some ⟨w.heap.size + 1, 0, none⟩) 1 1)) 26)
  rw [World.size_alloc, World.size_alloc] at h2
  refine ⟨((KeyAt.new w kS).on ((Below.refl _ _).alloc (Nat.le_refl _) _)).on ((Below.refl _ _).alloc (Nat.le_refl _) _), h2, h1.alloc _⟩
/-- a backup of the example's, opened -/
structure SC36 (W : World) (g : Nat) (a : Option Addr) (c : Nat) : Prop where
  b : W.heap[g]? = some (.cells (bc bS (.slice a 1 c)) 26 (0, 0))
  r : RdK W (.slice a 1 c) [kS]
theorem SC36.on {W W' : World} {g c : Nat} {a : Option Addr} (h : SC36 W g a c) (hb : Below W.heap.size W W') : SC36 W' g a c := ⟨row_keep h.b hb, h.r.on hb⟩
def SP36 (W : World) (g : Nat) : Prop := W.heap[g]? = some (.cells (bc bS nilS) 26 (0, 0))
theorem SP36.on {W W' : World} {g : Nat} (h : SP36 W g) (hb : Below W.heap.size W W') : SP36 W' g := row_keep h hb
structure ST36 (W : World) (g gs : Nat) : Prop where
  t : W.heap[g]? = some (.cells #[.int .i64 9, .slice (some ⟨gs, 0, none⟩) 1 1] 37 (0, 0))
  r : RdK W (.slice (some ⟨gs, 0, none⟩) 1 1) [kS]
theorem ST36.on {W W' : World} {g gs : Nat} (h : ST36 W g gs) (hb : Below W.heap.size W W') : ST36 W' g gs := ⟨row_keep h.t hb, h.r.on hb⟩
theorem ST36.t0 {W : World} {g gs : Nat} (h : ST36 W g gs) : W.cell? ⟨g, 0, none⟩ = some (.int .i64 9) := cell_of_row _ _ _ _ _ _ h.t
theorem ST36.t1 {W : World} {g gs : Nat} (h : ST36 W g gs) : W.cell? ⟨g, 1, none⟩ = some (.slice (some ⟨gs, 0, none⟩) 1 1) := cell_of_row _ _ _ _ _ _ h.t
/-- the table and the copy without keys, as they are laid -/
theorem st36_new (W : World) : ST36 ((W.alloc (.cells (kc kS) 48)).alloc (.cells #[.int .i64 9, .slice (some ⟨W.heap.size, 0, none⟩) 1 1] 37)) (W.heap.size + 1) W.heap.size :=
  ⟨two_1 _ _ _, (one_k W kS).alloc _⟩
theorem sp36_set {W : World} {g : Nat} {u : Value} (h : W.heap[g]? = some (.cells (bc bS u) 26 (0, 0))) : SP36 (W.setCell ⟨g, 37, none⟩ (.slice none 0 0)) g := by
  unfold SP36
  rw [setCell_rowC _ _ _ _ _ _ _ h, bcset_37]
  exact setRow_heap _ _ _ _ _ _ h
theorem RdK.setOther {w : World} {v : Value} {l : List K} {g i : Nat} {x : Value} (h : RdK w v l) (hne : ∀ b off, v = .slice (some ⟨b, off, none⟩) l.length l.length → b ≠ g) (hv : ∃ b, v = .slice (some ⟨b, 0, none⟩) l.length l.length) : RdK (w.setCell ⟨g, i, none⟩ x) v l := by
  obtain ⟨a, cap, rfl, h1, h2, h3⟩ := h
  obtain ⟨b', hb'⟩ := hv
  refine ⟨a, cap, rfl, h1, h2, fun h0 => ?_⟩
  obtain ⟨b, off, rfl, hlt, hc⟩ := h3 h0
  simp only [Value.slice.injEq, Option.some.injEq, Addr.mk.injEq, true_and, and_true] at hb'
  obtain ⟨⟨rfl, rfl⟩, rfl⟩ := hb'
  refine ⟨b, 0, rfl, by rw [setCell_size]; exact hlt, fun j hj k hk => ?_⟩
  have hne2 : g ≠ b := fun e => hne b 0 rfl e.symm
  rw [World.cell?_of_block (a := ⟨b, 0 + j * 9 + k, none⟩) (setCell_block hne2)]
  exact hc j hj k hk
end Go.Proofs.YtbpjdfnnlmblaaaDoor
/- custodylaw36.sanity. -/
namespace Go.Proofs.YtbpjdfnnlmblaaaDoor
open Go.RowKit Go.Shelf
set_option linter.unusedSimpArgs false
set_option linter.unusedVariables false
theorem set37_new (W : World) (u : Value) : W.alloc (.cells ((bc bS u).setIfInBounds 37 (.slice none 0 0)) 26) = W.alloc (.cells (bc bS nilS) 26) := by
  rw [bcset_37]
  rfl
attribute [local irreducible] Calls putAll drow vS sS headP bS
set_option maxRecDepth 100000 in
set_option maxHeartbeats 8000000 in
theorem sanity36_c (w : World) (hk : KAt w) : Calls Tryd.prog 7 #[] w fun e w' => e = .returned (.bool true) ∧ Below w.heap.size w w' := by
  have HK := Lib.hid hk
  have HHL := Lib.hid headS_len
  clear hk
  go_enter Tryd.func7, Tryd.ntmps7
  go_upto_region 2 with (go_at_call 22; refine (y_v118 _).mono ?_; rintro e w1 ⟨rfl, hb1⟩)
  go_upto_region 3 with (first
    | (refine kbld_1 23 0 (.int .u8 1) (drow (dS 1)) built_dS1 rfl (.const (.int .u8 1)) rfl rfl ?_)
    | (refine kbld_1 23 0 (.int .u8 6) (drow (dS 6)) built_dS6 rfl (.const (.int .u8 6)) rfl rfl ?_)
    | (refine bld_bS rfl (.tmp 17) (.const (.int .i64 2)) (.const (.int .i64 3)) (.const (.int .i64 4)) (.const (.int .i64 5)) (.tmp 18) (.const (.string ⟨#[109]⟩)) (.tmp 20) rfl (some ⟨w1.heap.size + 1, 0, none⟩) 1 1 rfl rfl rfl rfl rfl rfl rfl rfl ?_)
    | (refine st_new (bc bS (.slice (some ⟨w1.heap.size + 1, 0, none⟩) 1 1)) 26 rfl (.tmp 2) (.tmp 21) rfl _ rfl (by simp) rfl (by rw [bc_size]; exact info_b) (by rw [bc_size]; rfl) (bcone _ _ _ _) ?_))
  have hs := sb36_start w1
  have hbw : Below w.heap.size w (((w1.alloc (.cells (kc kS) 48)).alloc (.cells (kc kS) 48)).alloc (.cells (bc bS (.slice (some ⟨w1.heap.size + 1, 0, none⟩) 1 1)) 26)) := by
    have h0 := hb1.size
    exact ((hb1.alloc h0 _).alloc (by simp; omega) _).alloc (by simp; omega) _
  obtain ⟨W, hW⟩ : ∃ W, W = ((w1.alloc (.cells (kc kS) 48)).alloc (.cells (kc kS) 48)).alloc (.cells (bc bS (.slice (some ⟨w1.heap.size + 1, 0, none⟩) 1 1)) 26) := ⟨_, rfl⟩
  rw [← hW] at hs hbw
  have hg1 : w1.heap.size + 1 + 1 = w1.heap.size + 2 := rfl
  unfold kc at hW
  change W = ((w1.alloc (.cells #[.int .i64 3, .int .i64 1, .string ⟨(vS 118).toArray⟩, .int .i64 8, .int .i64 0, .int .i64 9, .int .i64 2, .int .i64 0, .bool true] 48)).alloc (.cells #[.int .i64 3, .int .i64 1, .string ⟨(vS 118).toArray⟩, .int .i64 8, .int .i64 0, .int .i64 9, .int .i64 2, .int .i64 0, .bool true] 48)).alloc (.cells (bc bS (.slice (some ⟨w1.heap.size + 1, 0, none⟩) 1 1)) 26) at hW
  rw [← hW]
  generalize w1.heap.size = g at *
  clear hW hb1
  have HB := Lib.hid hbw
  have X := Lib.hid hs
  clear hs hbw
  try dsimp only [Act.put]
  refine region_rel 7 [[], [], [0, 1], [2], [3], [3], [4]]
    (SP.of [.eq (.string ⟨(vS 100).toArray⟩), .eq (.agg (bc bS (.slice (some ⟨g + 1, 0, none⟩) 1 1))), .eq (.tuple #[.string ⟨sS.toArray⟩, .int .i64 0]), .eq (.tuple #[.string ⟨sS.toArray⟩, .int .i64 0]), .eq (.string ⟨sS.toArray⟩), .eq (.int .i64 0), .eq (.string ⟨sS.toArray⟩)]) (fun _ => undef) ?q1 ?q2 ?q3 ?q4 ?q5 ?q6
  case q1 => kernel_rfl
  case q2 => kernel_rfl
  case q3 => kernel_rfl
  case q4 =>
    simp only [List.take_succ_cons, List.take_zero]
    repeat (first | exact trivial | refine ⟨fun vals v => by kernel_rfl, ?_⟩)
  case q5 =>
    simp only [List.take_succ_cons, List.take_zero]
    refine ⟨?_, ?_, ?_, ?_, ?_, ?_, ?_, trivial⟩
    all_goals (intro wq hbq vals; simp only [Nat.reduceAdd, Nat.zero_add, List.getD_cons_succ, List.getD_cons_zero]; repeat (first | refine given_nil ?_ | refine given_eq rfl ?_); have HBQ := Lib.hid (HB.out.trans (hbq.mono HB.out.size)); have XQ := Lib.hid (X.out.on hbq); clear hbq; intro Q hQ; simp only [putAll, upd, Act.put, List.setIfInBounds_toArray, List.set_cons_zero, List.set_cons_succ, Nat.reduceAdd, Nat.zero_add, Nat.reduceEqDiff, if_true, if_false, reduceIte])
    case refine_1 =>
      go_wp2_with (go_at_call 22; refine (y_v100 _).mono ?_; rintro e x1 ⟨rfl, hx1⟩)
      exact relEnd_fin hQ _ (by kernel_rfl) hx1 rfl
    case refine_2 =>
      go_wp2_with (refine ld_bk bS _ rfl (.tmp 2) rfl _ rfl _ XQ.out.b ?_)
      exact relEnd_fin hQ _ (by kernel_rfl) (Below.refl _ _) rfl
    case refine_3 =>
      go_wp2_with (go_at_call 8; refine (y_make _ _ (HK.out.on HBQ.out) XQ.out.r).mono ?_; rintro e x1 ⟨rfl, hx1⟩)
      exact relEnd_fin hQ _ (by kernel_rfl) hx1 rfl
    all_goals go_wp2
    all_goals exact relEnd_fin hQ _ (by kernel_rfl) (Below.refl _ _) rfl
  case q6 =>
    intro w4 hb4 vals
    rw [show List.range 7 = [0, 1, 2, 3, 4, 5, 6] from by decide]
    repeat (first | refine given_nil ?_ | refine given_eq rfl ?_)
    simp only [List.take_succ_cons, List.take_zero, List.drop_succ_cons, List.drop_zero]
    simp only [putAll, upd, Act.put, List.setIfInBounds_toArray, List.set_cons_zero, List.set_cons_succ, Nat.reduceAdd, Nat.zero_add, Nat.reduceEqDiff, if_true, if_false, reduceIte]
    replace HB := Lib.hid (HB.out.trans (hb4.mono HB.out.size))
    replace X := Lib.hid (X.out.on hb4)
    clear hb4
    go_upto_region 5 with (first
      | (go_at_call 22; refine (y_v100 _).mono ?_; rintro e w5 ⟨rfl, hb⟩; replace HB := Lib.hid (HB.out.trans (hb.mono HB.out.size)); replace X := Lib.hid (X.out.on hb); clear hb)
      | (go_at_call 9; refine (y_open _ (HK.out.on HB.out)).mono ?_; rintro e w6 ⟨ca, cc, rfl, hr, hb⟩; replace HB := Lib.hid (HB.out.trans (hb.mono HB.out.size)); replace X := Lib.hid (X.out.on hb); have HR := Lib.hid hr; clear hb hr)
      | (refine st_new (bc bS (.slice ca 1 cc)) 26 rfl (.tmp 5) (.tmp 32) rfl _ rfl rfl rfl (by rw [bc_size]; exact info_b) (by rw [bc_size]; rfl) (bcone _ _ _ _) ?_))
    have XC : Hid (SC36 (w6.alloc (.cells (bc bS (.slice ca 1 cc)) 26)) w6.heap.size ca cc) := Lib.hid ⟨heap_alloc_new _ _, HR.out.alloc _⟩
    replace X := Lib.hid (X.out.on ((Below.refl _ _).alloc (Nat.le_refl _) (.cells (bc bS (.slice ca 1 cc)) 26)))
    replace HB := Lib.hid (HB.out.alloc HB.out.size (.cells (bc bS (.slice ca 1 cc)) 26))
    clear HR
    generalize w6.alloc (.cells (bc bS (.slice ca 1 cc)) 26) = w7 at *
    generalize w6.heap.size = go at *
    go_upto_region 6 with (first
      | (go_at_call 23; refine (y_peek _).mono ?_; rintro e w8 ⟨rfl, hb⟩; replace HB := Lib.hid (HB.out.trans (hb.mono HB.out.size)); replace X := Lib.hid (X.out.on hb); replace XC := Lib.hid (XC.out.on hb); clear hb)
      | (refine st_new (bc bS nilS) 26 rfl (.tmp 7) (.tmp 37) rfl _ rfl rfl rfl (by rw [bc_size]; exact info_b) (by rw [bc_size]; rfl) (bcone _ _ _ _) ?_))
    have XP : Hid (SP36 (w8.alloc (.cells (bc bS nilS) 26)) w8.heap.size) := Lib.hid (heap_alloc_new _ _)
    replace X := Lib.hid (X.out.on ((Below.refl _ _).alloc (Nat.le_refl _) (.cells (bc bS nilS) 26)))
    replace XC := Lib.hid (XC.out.on ((Below.refl _ _).alloc (Nat.le_refl _) (.cells (bc bS nilS) 26)))
    replace HB := Lib.hid (HB.out.alloc HB.out.size (.cells (bc bS nilS) 26))
    generalize w8.alloc (.cells (bc bS nilS) 26) = w9 at *
    generalize w8.heap.size = gp at *
    go_upto_region 7 with (first
      | (go_at_call 22; refine (y_v120 _).mono ?_; rintro e w10 ⟨rfl, hb⟩; replace HB := Lib.hid (HB.out.trans (hb.mono HB.out.size)); replace X := Lib.hid (X.out.on hb); replace XC := Lib.hid (XC.out.on hb); replace XP := Lib.hid (XP.out.on hb); clear hb)
      | (go_at_call 9; refine (y_other _ (HK.out.on HB.out)).mono ?_; rintro e w11 ⟨xa, xn, xc, rfl, hb⟩; replace HB := Lib.hid (HB.out.trans (hb.mono HB.out.size)); replace X := Lib.hid (X.out.on hb); replace XC := Lib.hid (XC.out.on hb); replace XP := Lib.hid (XP.out.on hb); clear hb)
      | (refine st_new (bc zB (.slice xa xn xc)) 26 rfl (.tmp 9) (.tmp 43) rfl _ rfl rfl rfl (by rw [bc_size]; exact info_b) (by rw [bc_size]; rfl) (bcone _ _ _ _) ?_))
    replace X := Lib.hid (X.out.on ((Below.refl _ _).alloc (Nat.le_refl _) (.cells (bc zB (.slice xa xn xc)) 26)))
    replace XC := Lib.hid (XC.out.on ((Below.refl _ _).alloc (Nat.le_refl _) (.cells (bc zB (.slice xa xn xc)) 26)))
    replace XP := Lib.hid (XP.out.on ((Below.refl _ _).alloc (Nat.le_refl _) (.cells (bc zB (.slice xa xn xc)) 26)))
    replace HB := Lib.hid (HB.out.alloc HB.out.size (.cells (bc zB (.slice xa xn xc)) 26))
    generalize w11.alloc (.cells (bc zB (.slice xa xn xc)) 26) = w12 at *
    generalize w11.heap.size = gx at *
    go_upto_region 8 with (first
      | (refine ld_bk bS _ rfl (.tmp 2) rfl _ rfl _ X.out.b ?_)
      | (go_at_call 8; refine (y_short _ _ (HK.out.on HB.out) X.out.r).mono ?_; rintro e w13 ⟨rfl, hb⟩; replace HB := Lib.hid (HB.out.trans (hb.mono HB.out.size)); replace X := Lib.hid (X.out.on hb); replace XC := Lib.hid (XC.out.on hb); replace XP := Lib.hid (XP.out.on hb); clear hb))
    have k0 : w13.cell? ⟨g, 0, none⟩ = some (.int .i64 3) := X.out.k.cell 0
    have k1 : w13.cell? ⟨g, 1, none⟩ = some (.int .i64 1) := X.out.k.cell 1
    have k2 : w13.cell? ⟨g, 2, none⟩ = some (.string ⟨(vS 118).toArray⟩) := X.out.k.cell 2
    have k3 : w13.cell? ⟨g, 3, none⟩ = some (.int .i64 8) := X.out.k.cell 3
    have k4 : w13.cell? ⟨g, 4, none⟩ = some (.int .i64 0) := X.out.k.cell 4
    have k5 : w13.cell? ⟨g, 5, none⟩ = some (.int .i64 9) := X.out.k.cell 5
    have k6 : w13.cell? ⟨g, 6, none⟩ = some (.int .i64 2) := X.out.k.cell 6
    have k7 : w13.cell? ⟨g, 7, none⟩ = some (.int .i64 0) := X.out.k.cell 7
    have k8 : w13.cell? ⟨g, 8, none⟩ = some (.bool true) := X.out.k.cell 8
    go_upto_region 9 with fail
    have XT := Lib.hid (st36_new w13)
    unfold kc at XT
    have XX : ∀ A B : Obj, Below w13.heap.size w13 ((w13.alloc A).alloc B) := fun A B => ((Below.refl _ _).alloc (Nat.le_refl _) A).alloc (by simp) B
    replace X := Lib.hid (X.out.on (XX (.cells #[.int .i64 3, .int .i64 1, .string ⟨(vS 118).toArray⟩, .int .i64 8, .int .i64 0, .int .i64 9, .int .i64 2, .int .i64 0, .bool true] 48) (.cells #[.int .i64 9, .slice (some ⟨w13.heap.size, 0, none⟩) 1 1] 37)))
    replace XC := Lib.hid (XC.out.on (XX (.cells #[.int .i64 3, .int .i64 1, .string ⟨(vS 118).toArray⟩, .int .i64 8, .int .i64 0, .int .i64 9, .int .i64 2, .int .i64 0, .bool true] 48) (.cells #[.int .i64 9, .slice (some ⟨w13.heap.size, 0, none⟩) 1 1] 37)))
    replace XP := Lib.hid (XP.out.on (XX (.cells #[.int .i64 3, .int .i64 1, .string ⟨(vS 118).toArray⟩, .int .i64 8, .int .i64 0, .int .i64 9, .int .i64 2, .int .i64 0, .bool true] 48) (.cells #[.int .i64 9, .slice (some ⟨w13.heap.size, 0, none⟩) 1 1] 37)))
    replace HB := Lib.hid (HB.out.trans ((XX (.cells #[.int .i64 3, .int .i64 1, .string ⟨(vS 118).toArray⟩, .int .i64 8, .int .i64 0, .int .i64 9, .int .i64 2, .int .i64 0, .bool true] 48) (.cells #[.int .i64 9, .slice (some ⟨w13.heap.size, 0, none⟩) 1 1] 37)).mono HB.out.size))
    change Hid (ST36 ((w13.alloc (.cells #[.int .i64 3, .int .i64 1, .string ⟨(vS 118).toArray⟩, .int .i64 8, .int .i64 0, .int .i64 9, .int .i64 2, .int .i64 0, .bool true] 48)).alloc (.cells #[.int .i64 9, .slice (some ⟨w13.heap.size, 0, none⟩) 1 1] 37)) (w13.heap.size + 1) w13.heap.size) at XT
    clear k0 k1 k2 k3 k4 k5 k6 k7 k8 XX
    generalize (w13.alloc (.cells #[.int .i64 3, .int .i64 1, .string ⟨(vS 118).toArray⟩, .int .i64 8, .int .i64 0, .int .i64 9, .int .i64 2, .int .i64 0, .bool true] 48)).alloc (.cells #[.int .i64 9, .slice (some ⟨w13.heap.size, 0, none⟩) 1 1] 37) = w14 at *
    generalize w13.heap.size = gt at *
    go_upto_region 10 with (first
      | (refine ld_bk bS _ rfl (.tmp 2) rfl _ rfl _ X.out.b ?_)
      | (refine st_new (bc bS (.slice (some ⟨g + 1, 0, none⟩) 1 1)) 26 rfl (.tmp 14) (.tmp 53) rfl _ rfl rfl rfl (by rw [bc_size]; exact info_b) (by rw [bc_size]; rfl) (bcone _ _ _ _) ?_))
    have hset := set37_new w14 (.slice (some ⟨g + 1, 0, none⟩) 1 1)
    have hba : Below w14.heap.size w14 (w14.alloc (.cells (bc bS nilS) 26)) := (Below.refl _ _).alloc (Nat.le_refl _) _
    rw [← hset] at hba
    have XE : Hid (SP36 (w14.alloc (.cells ((bc bS (.slice (some ⟨g + 1, 0, none⟩) 1 1)).setIfInBounds 37 (.slice none 0 0)) 26)) w14.heap.size) := Lib.hid (by rw [hset]; exact heap_alloc_new _ _)
    replace X := Lib.hid (X.out.on hba)
    replace XC := Lib.hid (XC.out.on hba)
    replace XP := Lib.hid (XP.out.on hba)
    replace XT := Lib.hid (XT.out.on hba)
    replace HB := Lib.hid (HB.out.trans (hba.mono HB.out.size))
    clear hset hba
    have tok1 : True := trivial
    have tok2 : True := trivial
    have tok3 : True := trivial
    have tok4 : True := trivial
    have t0 := XT.out.t0
    have t1 := XT.out.t1
    have hhl := HHL.out
    go_upto_region 11 with fail
    try simp only [List.append_eq, List.cons_append, List.nil_append]
    go_wp2_with (first
      | (refine ld_bk bS _ rfl (.tmp 2) rfl _ rfl _ X.out.b ?_)
      | (refine ld_bk bS _ rfl (.tmp 5) rfl _ rfl _ XC.out.b ?_)
      | (refine ld_bk bS _ rfl (.tmp 7) rfl _ rfl _ XP.out ?_)
      | (refine ld_bk bS _ rfl (.tmp 14) rfl _ rfl _ XE.out ?_)
      | (go_at_call 10; clear tok1; refine (y_same1 _ _ _ X.out.r XC.out.r).mono ?_; rintro e x1 ⟨rfl, hb⟩; replace HB := Lib.hid (HB.out.trans (hb.mono HB.out.size)); replace X := Lib.hid (X.out.on hb); replace XC := Lib.hid (XC.out.on hb); replace XP := Lib.hid (XP.out.on hb); replace XT := Lib.hid (XT.out.on hb); replace XE := Lib.hid (XE.out.on hb); clear hb t0 t1; have t0 := XT.out.t0; have t1 := XT.out.t1)
      | (go_at_call 10; refine (y_same2 _).mono ?_; rintro e x2 ⟨rfl, hb⟩; replace HB := Lib.hid (HB.out.trans (hb.mono HB.out.size)); replace X := Lib.hid (X.out.on hb); replace XC := Lib.hid (XC.out.on hb); replace XP := Lib.hid (XP.out.on hb); replace XT := Lib.hid (XT.out.on hb); replace XE := Lib.hid (XE.out.on hb); clear hb t0 t1; have t0 := XT.out.t0; have t1 := XT.out.t1)
      | (go_at_call 24; refine (y_valid _ _ X.out.r).mono ?_; rintro e x3 ⟨rfl, hb⟩; replace HB := Lib.hid (HB.out.trans (hb.mono HB.out.size)); replace X := Lib.hid (X.out.on hb); replace XC := Lib.hid (XC.out.on hb); replace XP := Lib.hid (XP.out.on hb); replace XT := Lib.hid (XT.out.on hb); replace XE := Lib.hid (XE.out.on hb); clear hb t0 t1; have t0 := XT.out.t0; have t1 := XT.out.t1)
      | (go_at_call 25; clear tok2; refine (y_eq1 _ _ _ X.out.r XC.out.r).mono ?_; rintro e x4 ⟨rfl, hb⟩; replace HB := Lib.hid (HB.out.trans (hb.mono HB.out.size)); replace X := Lib.hid (X.out.on hb); replace XC := Lib.hid (XC.out.on hb); replace XP := Lib.hid (XP.out.on hb); replace XT := Lib.hid (XT.out.on hb); replace XE := Lib.hid (XE.out.on hb); clear hb t0 t1; have t0 := XT.out.t0; have t1 := XT.out.t1)
      | (go_at_call 25; refine (y_eq2 _ _ X.out.r).mono ?_; rintro e x5 ⟨rfl, hb⟩; replace HB := Lib.hid (HB.out.trans (hb.mono HB.out.size)); replace X := Lib.hid (X.out.on hb); replace XC := Lib.hid (XC.out.on hb); replace XP := Lib.hid (XP.out.on hb); replace XT := Lib.hid (XT.out.on hb); replace XE := Lib.hid (XE.out.on hb); clear hb t0 t1; have t0 := XT.out.t0; have t1 := XT.out.t1)
      | (go_at_call 13; clear tok3; refine (y_comp 5 [kS] true cS5 _ _ _ XT.out.r X.out.r).mono ?_; rintro e x6 ⟨rfl, hb⟩; replace HB := Lib.hid (HB.out.trans (hb.mono HB.out.size)); replace X := Lib.hid (X.out.on hb); replace XC := Lib.hid (XC.out.on hb); replace XP := Lib.hid (XP.out.on hb); replace XT := Lib.hid (XT.out.on hb); replace XE := Lib.hid (XE.out.on hb); clear hb t0 t1; have t0 := XT.out.t0; have t1 := XT.out.t1)
      | (go_at_call 13; clear tok4; refine (y_comp 5 [] false cE5 _ _ _ XT.out.r (rdK_nil _)).mono ?_; rintro e x7 ⟨rfl, hb⟩; replace HB := Lib.hid (HB.out.trans (hb.mono HB.out.size)); replace X := Lib.hid (X.out.on hb); replace XC := Lib.hid (XC.out.on hb); replace XP := Lib.hid (XP.out.on hb); replace XT := Lib.hid (XT.out.on hb); replace XE := Lib.hid (XE.out.on hb); clear hb t0 t1; have t0 := XT.out.t0; have t1 := XT.out.t1)
      | (go_at_call 13; refine (y_comp 9 [] true cE9 _ _ _ XT.out.r (rdK_nil _)).mono ?_; rintro e x8 ⟨rfl, hb⟩; replace HB := Lib.hid (HB.out.trans (hb.mono HB.out.size)); replace X := Lib.hid (X.out.on hb); replace XC := Lib.hid (XC.out.on hb); replace XP := Lib.hid (XP.out.on hb); replace XT := Lib.hid (XT.out.on hb); replace XE := Lib.hid (XE.out.on hb); clear hb t0 t1; have t0 := XT.out.t0; have t1 := XT.out.t1)
      | (go_at_call 12; refine (y_sel _ _ XT.out.r).mono ?_; rintro e x9 ⟨sa, sc, rfl, hb⟩; replace HB := Lib.hid (HB.out.trans (hb.mono HB.out.size)); replace X := Lib.hid (X.out.on hb); clear hb t0 t1)
      | (go_at_call 26; refine (header_c bS _ _ bS_wf).mono ?_; rintro e x10 ⟨rfl, hb⟩; replace HB := Lib.hid (HB.out.trans (hb.mono HB.out.size)); clear hb))
    go_ret
    exact ⟨rfl, HB.out⟩
end Go.Proofs.YtbpjdfnnlmblaaaDoor
/- What the laws of custodylaw36 lean on. -/
namespace Go.Proofs.YtbpjdfnnlmblaaaDoor
open Go.RowKit Go.Shelf
set_option linter.unusedSimpArgs false
set_option linter.unusedVariables false
theorem dEq_refl (x : List UInt8) : dEq x x = true := by unfold dEq; simp
theorem sameB_refl (b : BK) (l : List K) : sameB b l b l = true := by unfold sameB headS; simp [dEq_refl]
theorem str_self (x : List UInt8) : ((⟨x.toArray⟩ : ByteArray).toList == (⟨x.toArray⟩ : ByteArray).toList) = true := by simp
theorem built_zq : Tryd.prog.built 26 [] = some (bc zB nilS) := by kernel_rfl
/-- a backup of nothing is built, in a region with guards -/
theorem bld_z {ops : Array Oper} {rest : List Oper} {o : Oper} {a : Act} {w : World} {Q : Exit → Act → World → Prop} (hgd : Region.wanted o (yielded ops a.tmps) = true) (ho : o.op = .build 26 #[])
    (h : wpList Tryd.prog ops Q rest (a.put o.dst (.agg (bc zB nilS))) w) : wpList Tryd.prog ops Q (o :: rest) a w :=
  wpList_step fun K hK => by
    rw [if_pos hgd]
    have hr := run_build (P := Tryd.prog) w 26 #[] _ built_zq
    unfold Oper.wp execOp
    simp only [ho, List.map_toArray, List.map_nil, hr, Sem.run_bind, Sem.run_pure, Result.andThen_ok]
    exact hK _ _ h
theorem opE_no (dk blob : List UInt8) (h : opE dk blob ≠ 0) : opB dk blob = zB ∧ opK dk blob = [] := by
  unfold opB opK
  rw [if_neg h, if_neg h]
  exact ⟨rfl, rfl⟩
/-- Open, of any two texts -/
theorem bopen_t (dk blob : List UInt8) (w : World) (hk : KAt w) (hl : blob.length ≤ 800000) :
    Calls Tryd.prog 9 #[.string ⟨dk.toArray⟩, .string ⟨blob.toArray⟩] w fun en w' => ∃ a c, en = .returned (.tuple #[.agg (bc (opB dk blob) (.slice a (opK dk blob).length c)), .int .i64 (opE dk blob)]) ∧ RdK w' (.slice a (opK dk blob).length c) (opK dk blob) ∧ Below w.heap.size w w' := by
  by_cases h32 : dk.length = 32
  · refine (bopen_c dk blob w hk h32 hl).mono fun e w' h => ?_
    obtain ⟨v, he, hr, hb⟩ := h
    obtain ⟨a, c, rfl, _, _, _⟩ := id hr
    exact ⟨a, c, he, hr, hb⟩
  · have hE : opE dk blob = 1 := by unfold opE; rw [if_neg h32]
    obtain ⟨h1, h2⟩ := opE_no dk blob (by rw [hE]; decide)
    rw [hE, h1, h2]
    refine (open_no32 dk blob w h32).mono fun e w' h => ?_
    exact ⟨none, 0, h.1, rdK_nil _, h.2⟩
/-- what was opened: its numbers are the machine's -/
theorem opB_mach (dk blob : List UInt8) (hl : blob.length ≤ 800000) (h : opE dk blob = 0) : (opB dk blob).mach ∧ numK (opK dk blob) := by
  obtain ⟨h1, h2, h3, h4, h5⟩ := rt_make dk blob h
  have hv : validB (opB dk blob) (opK dk blob) = true := by unfold makeOk at h1; simp only [Bool.and_eq_true] at h1; exact h1.2
  refine ⟨⟨h3, h4, h5, ?_⟩, ?_⟩
  · have := (validB_mo hv).2.1
    unfold maxLen
    omega
  · have hK : opK dk blob = ctK (blT dk blob) := by unfold opK; rw [if_pos h]
    rw [hK]
    unfold ctK
    exact numK_of (foldK_num _ _)
end Go.Proofs.YtbpjdfnnlmblaaaDoor
/- A backup whose keys are set; the places of a table and a backup. -/
namespace Go.Proofs.YtbpjdfnnlmblaaaDoor
open Go.RowKit Go.Shelf
set_option linter.unusedSimpArgs false
set_option linter.unusedVariables false
theorem bc_str (b : BK) (a : Option Addr) (n c : Nat) (j : Nat) (s : ByteArray) (h : (bc b (.slice a n c))[j]? = some (.string s)) : j = 36 := by
  have hj : j < 38 := by have := (Array.getElem?_eq_some_iff.1 h).1; rwa [bc_size] at this
  by_cases h1 : j < 16
  · rw [bcdom_at _ _ j h1] at h; unfold dcell at h; cases h
  by_cases h2 : j < 20
  · have : j = 16 ∨ j = 17 ∨ j = 18 ∨ j = 19 := by omega
    rcases this with rfl | rfl | rfl | rfl
    · rw [bc_16] at h; cases h
    · rw [bc_17] at h; cases h
    · rw [bc_18] at h; cases h
    · rw [bc_19] at h; cases h
  by_cases h3 : j < 36
  · obtain ⟨k, rfl⟩ : ∃ k, j = 20 + k := ⟨j - 20, by omega⟩
    rw [bcpol_at _ _ k (by omega)] at h; unfold dcell at h; cases h
  have : j = 36 ∨ j = 37 := by omega
  rcases this with rfl | rfl
  · rfl
  · rw [bc_37] at h; cases h
/-- keys that are read do not lie in a backup -/
theorem RdK.setBk {w : World} {v : Value} {l : List K} {g i : Nat} {x : Value} {b : BK} {a' : Option Addr} {n' c' : Nat} {T : TypeId} {fr : Nat × Nat} (h : RdK w v l) (hg : w.heap[g]? = some (.cells (bc b (.slice a' n' c')) T fr)) : RdK (w.setCell ⟨g, i, none⟩ x) v l := by
  obtain ⟨a, cap, rfl, h1, h2, h3⟩ := h
  refine ⟨a, cap, rfl, h1, h2, fun h0 => ?_⟩
  obtain ⟨b0, off, rfl, hlt, hc⟩ := h3 h0
  refine ⟨b0, off, rfl, by rw [setCell_size]; exact hlt, fun j hj k hk => ?_⟩
  have hne : g ≠ b0 := by
    intro e
    subst e
    have h8 := hc 0 h0 2 (by omega)
    rw [cell_of_row _ _ _ _ _ _ hg] at h8
    have h9 := bc_str _ _ _ _ _ _ (h8.trans (rfl : (kc (keyAt l 0))[2]? = some (.string ⟨(keyAt l 0).val.toArray⟩)))
    have h7 := hc 0 h0 1 (by omega)
    rw [cell_of_row _ _ _ _ _ _ hg] at h7
    have e1 : off + 0 * 9 + 1 = 20 + 15 := by omega
    rw [e1, bcpol_at _ _ 15 (by decide)] at h7
    unfold dcell at h7
    have h6 := h7.trans (rfl : (kc (keyAt l 0))[1]? = some (.int .i64 (keyAt l 0).ty))
    cases h6
  rw [World.cell?_of_block (a := ⟨b0, off + j * 9 + k, none⟩) (setCell_block hne)]
  exact hc j hj k hk
/-- a table and a backup in their boxes -/
structure TB36 (w W : World) (n : Int) (u : Value) (tl : List K) (b : BK) (v : Value) : Prop where
  t : W.heap[w.heap.size]? = some (.cells #[.int .i64 n, u] 37 (0, 0))
  b : W.heap[w.heap.size + 1]? = some (.cells (bc b v) 26 (0, 0))
  r : RdK W u tl
  k : KAt W
  bel : Below w.heap.size w W
theorem TB36.start {w : World} {n : Int} {u : Value} {tl : List K} {b : BK} {v : Value} (hr : RdK w u tl) (hk : KAt w) : TB36 w ((w.alloc (.cells #[.int .i64 n, u] 37)).alloc (.cells (bc b v) 26)) n u tl b v := by
  have hb : Below w.heap.size w ((w.alloc (.cells #[.int .i64 n, u] 37)).alloc (.cells (bc b v) 26)) := ((Below.refl _ _).alloc (Nat.le_refl _) _).alloc (by simp) _
  exact ⟨two_0 _ _ _, two_1 _ _ _, hr.on hb, hk.on hb, hb⟩
theorem TB36.on {w W W' : World} {n : Int} {u : Value} {tl : List K} {b : BK} {v : Value} (h : TB36 w W n u tl b v) (hb : Below W.heap.size W W') : TB36 w W' n u tl b v :=
  ⟨row_keep h.t hb, row_keep h.b hb, h.r.on hb, h.k.on hb, h.bel.trans (hb.mono h.bel.size)⟩
theorem KAt.bel {w W : World} (h : KAt w) (hb : Below w.heap.size w W) : KAt W := h.on hb
theorem TB36.set {w W : World} {n : Int} {u : Value} {tl : List K} {b : BK} {a : Option Addr} {m c : Nat} (h : TB36 w W n u tl b (.slice a m c)) (hk : KAt w) (v' : Value) : TB36 w (W.setCell ⟨w.heap.size + 1, 37, none⟩ v') n u tl b v' := by
  have hb2 : Below w.heap.size w (W.setCell ⟨w.heap.size + 1, 37, none⟩ v') := h.bel.setCell (p := ⟨w.heap.size + 1, 37, none⟩) (by show w.heap.size ≤ w.heap.size + 1; omega) _
  refine ⟨(setCell_block (by omega)).trans h.t, ?_, h.r.setBk h.b, hk.on hb2, hb2⟩
  rw [setCell_rowC _ _ _ _ _ _ _ h.b, bcset_37]
  exact setRow_heap _ _ _ _ _ _ h.b
theorem TB36.t0 {w W : World} {n : Int} {u : Value} {tl : List K} {b : BK} {v : Value} (h : TB36 w W n u tl b v) : W.cell? ⟨w.heap.size, 0, none⟩ = some (.int .i64 n) := cell_of_row _ _ _ _ _ _ h.t
theorem TB36.t1 {w W : World} {n : Int} {u : Value} {tl : List K} {b : BK} {v : Value} (h : TB36 w W n u tl b v) : W.cell? ⟨w.heap.size, 1, none⟩ = some u := cell_of_row _ _ _ _ _ _ h.t
theorem TB36.b36 {w W : World} {n : Int} {u : Value} {tl : List K} {b : BK} {v : Value} (h : TB36 w W n u tl b v) : W.cell? ⟨w.heap.size + 1, 36, none⟩ = some (.string ⟨b.mo.toArray⟩) := by
  rw [cell_of_row _ _ _ _ _ _ h.b]; exact bc_36 _ _
theorem TB36.c37 {w W : World} {n : Int} {u : Value} {tl : List K} {b : BK} {v : Value} (h : TB36 w W n u tl b v) : W.cell? ⟨w.heap.size + 1, 37, none⟩ = some v := by
  rw [cell_of_row _ _ _ _ _ _ h.b]; exact bc_37 _ _
theorem TB36.lt {w W : World} {n : Int} {u : Value} {tl : List K} {b : BK} {v : Value} (h : TB36 w W n u tl b v) : w.heap.size + 1 < W.heap.size := (Array.getElem?_eq_some_iff.1 h.b).1
end Go.Proofs.YtbpjdfnnlmblaaaDoor
