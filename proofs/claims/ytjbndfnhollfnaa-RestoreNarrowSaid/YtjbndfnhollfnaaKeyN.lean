/- Admit, both. -/
import Derived.Test.YtjbndfnhollfnaaKeyM
import Derived.Laws.Tables
namespace Go.Proofs.Ytjbndfnhollfnaa
open Go.RowKit Go.Shelf
set_option linter.unusedSimpArgs false
set_option linter.unusedVariables false
theorem info_b : (Try.prog.info? 28).map (·.size) = some 38 := by kernel_rfl
theorem info_d : (Try.prog.info? 26).map (·.size) = some 16 := by kernel_rfl
theorem info_p : (Try.prog.info? 32).map (·.size) = some 34 := by kernel_rfl
/-- a whole backup out of memory -/
theorem ld_bk {ops : Array Oper} {rest : List Oper} {o : Oper} {a : Act} {w : World} {Q : Exit → Act → World → Prop} (b : BK) (u : Value)
    (hgd : Region.wanted o (yielded ops a.tmps) = true) (x : Operand) (ho : o.op = .load 28 x)
    (g : Nat) (hx : a.eval x = .pointer (some ⟨g, 0, none⟩)) (T' : TypeId) (hg : w.heap[g]? = some (.cells (bc b u) T' (0, 0)))
    (h : wpList Try.prog ops Q rest (a.put o.dst (.agg (bc b u))) w) : wpList Try.prog ops Q (o :: rest) a w :=
  wpList_step fun K hK => by
    rw [if_pos hgd]
    exact wp_load_row _ x ho g hx _ (bc b u) (0, 0) _ hg Try.underlying28 rfl (by rw [bc_size]; exact info_b) (hK _ _ h)
/-- a digest out of memory -/
theorem ld_dig {ops : Array Oper} {rest : List Oper} {o : Oper} {a : Act} {w : World} {Q : Exit → Act → World → Prop} (d : List UInt8) (g off : Nat) (hc : w.rangeAt g off (drow d).toList)
    (hgd : Region.wanted o (yielded ops a.tmps) = true) (x : Operand) (ho : o.op = .load 26 x) (hx : a.eval x = .pointer (some ⟨g, off, none⟩))
    (h : wpList Try.prog ops Q rest (a.put o.dst (.agg (drow d))) w) : wpList Try.prog ops Q (o :: rest) a w :=
  wpList_step fun K hK => by
    rw [if_pos hgd]
    exact wp_load_mid _ x ho g off hx (drow d).toList _ hc Try.underlying26 rfl info_d (hK _ _ h)
theorem range_row {w : World} {g : Nat} {cs : Array Value} {T : TypeId} (h : w.heap[g]? = some (.cells cs T (0, 0))) (off : Nat) (l : List Value) (hl : (cs.toList.drop off).take l.length = l) : w.rangeAt g off l := by
  intro j v hj
  rw [cell_of_row _ _ _ _ _ _ h]
  have hlt : j < l.length := (List.getElem?_eq_some_iff.1 hj).1
  have e : ((cs.toList.drop off).take l.length)[j]? = l[j]? := by rw [hl]
  rw [List.getElem?_take, if_pos hlt, List.getElem?_drop, hj] at e
  rw [← Array.getElem?_toList]
  exact e
def admitK (p : PK) (b : BK) (l : List K) : Int :=
  if validB b l = true then (if dEq b.dom p.dom = true ∧ dEq b.pol p.pol = true then (if b.fw ≤ p.fw ∧ p.num ≤ b.num then 0 else 20) else 10) else 1
theorem admit_six (p : PK) (b : BK) (l : List K) : (validB b l = false ∧ admitK p b l = 1) ∨ (validB b l = true ∧ dEq b.dom p.dom = false ∧ admitK p b l = 10) ∨ (validB b l = true ∧ dEq b.dom p.dom = true ∧ dEq b.pol p.pol = false ∧ admitK p b l = 10) ∨
    (validB b l = true ∧ dEq b.dom p.dom = true ∧ dEq b.pol p.pol = true ∧ p.fw < b.fw ∧ admitK p b l = 20) ∨ (validB b l = true ∧ dEq b.dom p.dom = true ∧ dEq b.pol p.pol = true ∧ ¬ p.fw < b.fw ∧ b.num < p.num ∧ admitK p b l = 20) ∨
    (validB b l = true ∧ dEq b.dom p.dom = true ∧ dEq b.pol p.pol = true ∧ ¬ p.fw < b.fw ∧ ¬ b.num < p.num ∧ admitK p b l = 0) := by
  unfold admitK
  cases h1 : validB b l
  · simp
  cases h2 : dEq b.dom p.dom
  · simp
  cases h3 : dEq b.pol p.pol
  · simp
  by_cases h4 : p.fw < b.fw
  · have : ¬ b.fw ≤ p.fw := by omega
    simp [h4, this]
  by_cases h5 : b.num < p.num
  · have : ¬ p.num ≤ b.num := by omega
    simp [h4, h5, this]
  have a4 : b.fw ≤ p.fw := by omega
  have a5 : p.num ≤ b.num := by omega
  simp [h4, h5, a4, a5]
attribute [local semireducible] bc
theorem bc_dom (b : BK) (u : Value) : ((bc b u).toList.drop 0).take (drow b.dom).toList.length = (drow b.dom).toList := rfl
theorem bc_pol (b : BK) (u : Value) : ((bc b u).toList.drop 20).take (drow b.pol).toList.length = (drow b.pol).toList := rfl
theorem pc_dom (p : PK) : ((pc p).toList.drop 0).take (drow p.dom).toList.length = (drow p.dom).toList := rfl
theorem pc_pol (p : PK) : ((pc p).toList.drop 16).take (drow p.pol).toList.length = (drow p.pol).toList := rfl
attribute [local irreducible] bc pc drow Calls validB admitK dEq
set_option maxRecDepth 100000 in
set_option maxHeartbeats 4000000 in
theorem admit_r (p : PK) (b : BK) (u : Value) (l : List K) (w : World) (hv : RdK w u l) :
    Calls Try.prog 19 #[.agg (pc p), .agg (bc b u)] w fun e w' => e = .returned (.int .i64 (admitK p b l)) ∧ Below w.heap.size w w' := by
  obtain ⟨W0, hW0⟩ : ∃ W0, W0 = (w.alloc (.cells (pc p) 50)).alloc (.cells (bc b u) 28) := ⟨_, rfl⟩
  have hvw : RdK W0 u l := by rw [hW0]; exact (hv.alloc _).alloc _
  have hbh : ∀ w1, Below W0.heap.size W0 w1 → w1.heap[w.heap.size]? = some (.cells (pc p) 50 (0, 0)) ∧ w1.heap[w.heap.size + 1]? = some (.cells (bc b u) 28 (0, 0)) := by
    intro w1 h
    rw [hW0] at h
    have h1 := ((Below.refl (w.alloc (.cells (pc p) 50)).heap.size (w.alloc (.cells (pc p) 50))).alloc (Nat.le_refl _) (.cells (bc b u) 28)).trans (h.mono (by simp))
    have h2 := heap_alloc_new (w.alloc (.cells (pc p) 50)) (.cells (bc b u) 28)
    rw [World.size_alloc] at h2
    exact ⟨by rw [h1.block _ (by simp)]; exact heap_alloc_new _ _, by rw [h.block _ (by simp)]; exact h2⟩
  have hbe : ∀ w1, Below W0.heap.size W0 w1 → Below w.heap.size w w1 := by
    intro w1 h
    rw [hW0] at h
    exact below2 _ _ _ h
  have hB0 : W0.heap[w.heap.size + 1]? = some (.cells (bc b u) 28 (0, 0)) := (hbh W0 (Below.refl _ _)).2
  rw [hW0] at hB0
  have hval := validB_r b u l W0 hvw
  rw [hW0] at hval
  have HVAL := Lib.hid hval
  have HB0 := Lib.hid hB0
  have HBH := Lib.hid hbh
  have HBE := Lib.hid hbe
  have HW := Lib.hid hW0
  have hn1 := fun w => neq_d b.dom p.dom w
  have hn2 := fun w => neq_d b.pol p.pol w
  clear hW0 hvw hbh hbe hB0 hval
  rcases admit_six p b l with ⟨hv1, hr⟩ | ⟨hv1, hd1, hr⟩ | ⟨hv1, hd1, hd2, hr⟩ | ⟨hv1, hd1, hd2, hf, hr⟩ | ⟨hv1, hd1, hd2, hf, hg, hr⟩ | ⟨hv1, hd1, hd2, hf, hg, hr⟩
  all_goals
    rw [hr]
    rw [hv1] at HVAL
    try rw [hd1] at hn1
    try rw [hd2] at hn2
    clear hr hv1
    go_enter Try.func19, Try.ntmps19
    go_wp2_with (first
      | (refine ld_bk b u rfl (.tmp 3) rfl _ rfl _ HB0.out ?_)
      | (go_at_call 20; refine HVAL.out.mono ?_; rintro e w1 ⟨rfl, hb⟩; rw [← HW.out] at hb; obtain ⟨g1, g2⟩ := HBH.out _ hb; have p32 := (cell_of_row _ _ 32 _ _ _ g1).trans (pc_32 p); have p33 := (cell_of_row _ _ 33 _ _ _ g1).trans (pc_33 p); have b17 := (cell_of_row _ _ 17 _ _ _ g2).trans (bc_17 b u); have b18 := (cell_of_row _ _ 18 _ _ _ g2).trans (bc_18 b u); have G1 := Lib.hid g1; have G2 := Lib.hid g2; clear g1 g2)
      | (refine ld_dig b.dom _ _ (range_row G2.out 0 _ (bc_dom b u)) rfl (.tmp 10) rfl rfl ?_)
      | (refine ld_dig p.dom _ _ (range_row G1.out 0 _ (pc_dom p)) rfl (.tmp 12) rfl rfl ?_)
      | (refine ld_dig b.pol _ _ (range_row G2.out 20 _ (bc_pol b u)) rfl (.tmp 16) rfl rfl ?_)
      | (refine ld_dig p.pol _ _ (range_row G1.out 16 _ (pc_pol p)) rfl (.tmp 18) rfl rfl ?_))
    go_ret
    exact ⟨rfl, HBE.out _ hb⟩
end Go.Proofs.Ytjbndfnhollfnaa
