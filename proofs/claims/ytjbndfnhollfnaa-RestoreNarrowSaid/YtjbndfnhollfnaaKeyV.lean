/- The specification's Add. -/
import Derived.Test.YtjbndfnhollfnaaKeyU
namespace Go.Proofs.Ytjbndfnhollfnaa
open Go.RowKit Go.Shelf
set_option linter.unusedSimpArgs false
set_option linter.unusedVariables false
def addErr (nx : Int) (l : List K) (k : K) : Int := if validK k = true ∧ k.par < nx then (if l.length < 4096 ∧ nx < 2147483647 then 0 else 2) else 1
theorem addErr_parts (nx : Int) (l : List K) (k : K) : (validK k = false ∧ addErr nx l k = 1) ∨ (validK k = true ∧ nx ≤ k.par ∧ addErr nx l k = 1) ∨ (validK k = true ∧ ¬ nx ≤ k.par ∧ (4096 : Int) ≤ l.length ∧ addErr nx l k = 2) ∨
    (validK k = true ∧ ¬ nx ≤ k.par ∧ ¬ (4096 : Int) ≤ l.length ∧ 2147483647 ≤ nx ∧ addErr nx l k = 2) ∨ (validK k = true ∧ ¬ nx ≤ k.par ∧ ¬ (4096 : Int) ≤ l.length ∧ ¬ 2147483647 ≤ nx ∧ addErr nx l k = 0) := by
  unfold addErr
  cases h1 : validK k
  · simp
  by_cases h2 : nx ≤ k.par
  · have : ¬ k.par < nx := by omega
    simp [h2, this]
  have a2 : k.par < nx := by omega
  by_cases h3 : (4096 : Int) ≤ l.length
  · have : ¬ l.length < 4096 := by omega
    simp [h2, a2, h3, this]
  have a3 : l.length < 4096 := by omega
  by_cases h4 : 2147483647 ≤ nx
  · have : ¬ nx < 2147483647 := by omega
    simp [h2, a2, h3, a3, h4, this]
  have a4 : nx < 2147483647 := by omega
  simp [h2, a2, h3, a3, h4, a4]
theorem info_a : (Try.prog.info? 66).map (·.size) = some 4 := by kernel_rfl
theorem heap3_2' (w : World) (A B C : Obj) : (((w.alloc A).alloc B).alloc C).heap[w.heap.size + 1 + 1]? = some C := heap3_2 w A B C
theorem below_row {w : World} {g B : Nat} {cs : Array Value} (h : B ≤ g) : Below B w (w.setRow g cs) :=
  ⟨rfl, rfl, rfl, by simp [World.setRow], fun k hk => by
    unfold World.setRow
    rw [Array.getElem?_modify]
    have : ¬ g = k := by omega
    simp [this]⟩
/-- the result variable of Add -/
def ac (n : Int) (v : Value) (i e : Int) : Array Value := #[.int .i64 n, v, .int .i64 i, .int .i64 e]
theorem st_add {ops : Array Oper} {rest : List Oper} {o : Oper} {a : Act} {w : World} {Q : Exit → Act → World → Prop} (hgd : o.guard = none) (x y : Operand) (ho : o.op = .store 66 x y)
    (g : Nat) (n i e n0 i0 e0 : Int) (v v0 : Value) (hx : a.eval x = .pointer (some ⟨g, 0, none⟩)) (hy : a.eval y = .agg (ac n v i e)) (hv : v.oneCell' = true)
    (hg : w.heap[g]? = some (.cells (ac n0 v0 i0 e0) 66 (0, 0)))
    (h : ∀ w', w'.heap[g]? = some (.cells (ac n v i e) 66 (0, 0)) → (∀ B, B ≤ g → Below B w w') → wpList Try.prog ops Q rest (a.put o.dst undef) w') : wpList Try.prog ops Q (o :: rest) a w := by
  refine wpList_store_row hgd _ x y ho g (ac n v i e) hx hy _ _ hg info_a rfl ?_ (h _ (setRow_heap _ _ _ _ _ _ hg) (fun B hB => below_row hB))
  have h1 : ∀ k, (Value.int .i64 k).oneCell' = true := fun k => rfl
  simp [ac, h1, hv]
theorem res_add {fn : Func} {p : Tmp} (h : fn.results = #[.cell p 66]) (tmps : Array Value) (w : World) (g : Nat) (n i e : Int) (v : Value)
    (hp : tmps.getD p undef = .pointer (some ⟨g, 0, none⟩)) (hg : w.heap[g]? = some (.cells (ac n v i e) 66 (0, 0))) : (results fn tmps).run Try.prog w = .ok (.agg (ac n v i e)) w :=
  results_cell_row h tmps w g _ (ac n v i e) (0, 0) _ hp hg Try.underlying66 rfl info_a
attribute [local irreducible] Calls validK
set_option maxRecDepth 100000 in
set_option maxHeartbeats 2000000 in
theorem add_rn (nx : Int) (v : Value) (l : List K) (k : K) (w : World) (hv : RdK w v l) (he : addErr nx l k ≠ 0) :
    Calls Try.prog 27 #[.agg #[.int .i64 nx, v], kv k] w fun e w' => e = .returned (.agg #[.int .i64 0, .slice none 0 0, .int .i64 0, .int .i64 (addErr nx l k)]) ∧ Below w.heap.size w w' := by
  have hval := fun w => valid_ref k w
  obtain ⟨W0, hW0⟩ : ∃ W0, W0 = ((w.alloc (.cells #[.int .i64 nx, v] 24)).alloc (.cells (kc k) 30)).alloc (.cells #[.int .i64 0, .slice none 0 0, .int .i64 0, .int .i64 0] 66) := ⟨_, rfl⟩
  have hbx : ∀ w1, Below W0.heap.size W0 w1 → w1.cell? ⟨w.heap.size, 0, none⟩ = some (.int .i64 nx) ∧ w1.cell? ⟨w.heap.size, 1, none⟩ = some v ∧ w1.cell? ⟨w.heap.size + 1, 7, none⟩ = some (.int .i64 k.par) ∧
      w1.heap[w.heap.size + 1 + 1]? = some (.cells #[.int .i64 0, .slice none 0 0, .int .i64 0, .int .i64 0] 66 (0, 0)) ∧ Below w.heap.size w w1 := by
    intro w1 h
    rw [hW0] at h
    have h1 : Below ((w.alloc (.cells #[.int .i64 nx, v] 24)).alloc (.cells (kc k) 30)).heap.size ((w.alloc (.cells #[.int .i64 nx, v] 24)).alloc (.cells (kc k) 30)) w1 := below1 _ _ h
    exact ⟨boxed2 _ _ _ _ h1 0, boxed2 _ _ _ _ h1 1, boxed2' _ _ _ _ h1 7, by rw [h.block _ (by simp)]; exact heap3_2' _ _ _ _, below3 _ _ _ _ h⟩
  have HBX := Lib.hid hbx
  have HW := Lib.hid hW0
  obtain ⟨a, cap, rfl, _, _, _⟩ := hv
  clear hW0 hbx
  unfold kv kc at hval ⊢
  unfold kc at HW
  rcases addErr_parts nx l k with ⟨h1, hr⟩ | ⟨h1, h2, hr⟩ | ⟨h1, h2, h3, hr⟩ | ⟨h1, h2, h3, h4, hr⟩ | ⟨h1, h2, h3, h4, hr⟩
  case inr.inr.inr.inr => exact absurd hr he
  all_goals
    rw [h1] at hval
    rw [hr]
    clear h1 hr he
    go_enter Try.func27, Try.ntmps27
    go_wp2_with (first
      | (go_at_call 22; refine (hval _).mono ?_; rintro e w1 ⟨rfl, hb⟩; rw [← HW.out] at hb; obtain ⟨n0, n1, p7, hg, hbb⟩ := HBX.out _ hb; have HG := Lib.hid hg; clear hg)
      | (refine st_add rfl (.tmp 4) (.tmp 18) rfl _ 0 0 1 0 0 0 (.slice none 0 0) (.slice none 0 0) rfl rfl rfl HG.out ?_; intro w2 hg2 hb2)
      | (refine st_add rfl (.tmp 4) (.tmp 28) rfl _ 0 0 2 0 0 0 (.slice none 0 0) (.slice none 0 0) rfl rfl rfl HG.out ?_; intro w2 hg2 hb2))
    (try simp only [Exit.inBlock, Exit.then])
    refine bodyPost_ret (res_add rfl _ _ (w.heap.size + 1 + 1) _ _ _ _ rfl hg2) rfl ?_
    exact ⟨rfl, hbb.trans (hb2 _ (by omega))⟩
end Go.Proofs.Ytjbndfnhollfnaa
