/- The program's Admit. -/
import Derived.Test.YtjbndfnhollfnaaKeyO
namespace Go.Proofs.Ytjbndfnhollfnaa
open Go.RowKit Go.Shelf
set_option linter.unusedSimpArgs false
set_option linter.unusedVariables false
theorem built_p (d q : List UInt8) (f n : Int) : Try.prog.built 32 [(0, .agg (drow d)), (1, .agg (drow q)), (2, .int .i64 f), (3, .int .i64 n)] = some (pc ⟨d, q, f, n⟩) := by kernel_rfl
theorem bld_p {ops : Array Oper} {rest : List Oper} {o : Oper} {a : Act} {w : World} {Q : Exit → Act → World → Prop} (hg : o.guard = none) (x y z v : Operand) (ho : o.op = .build 32 #[(0, x), (1, y), (2, z), (3, v)])
    (d q : List UInt8) (f n : Int) (hx : a.eval x = .agg (drow d)) (hy : a.eval y = .agg (drow q)) (hz : a.eval z = .int .i64 f) (hv : a.eval v = .int .i64 n)
    (h : wpList Try.prog ops Q rest (a.put o.dst (.agg (pc ⟨d, q, f, n⟩))) w) : wpList Try.prog ops Q (o :: rest) a w := by
  have e : (Try.prog.built 32 ((#[(0, x), (1, y), (2, z), (3, v)] : Array (Nat × Operand)).map fun (i, x) => (i, a.eval x)).toList) = some (pc ⟨d, q, f, n⟩) := by
    simp only [List.map_toArray, List.map_cons, List.map_nil, hx, hy, hz, hv]
    exact built_p d q f n
  refine wpList_build hg 32 _ ho (by rw [e]; rfl) ?_
  rw [e]
  exact h
theorem pc_size (p : PK) : (pc p).size = 34 := rfl
/-- a whole place out of memory -/
theorem ld_pk {ops : Array Oper} {rest : List Oper} {o : Oper} {a : Act} {w : World} {Q : Exit → Act → World → Prop} (p : PK)
    (hgd : Region.wanted o (yielded ops a.tmps) = true) (x : Operand) (ho : o.op = .load 32 x)
    (g : Nat) (hx : a.eval x = .pointer (some ⟨g, 0, none⟩)) (T' : TypeId) (hg : w.heap[g]? = some (.cells (pc p) T' (0, 0)))
    (h : wpList Try.prog ops Q rest (a.put o.dst (.agg (pc p))) w) : wpList Try.prog ops Q (o :: rest) a w :=
  wpList_step fun K hK => by
    rw [if_pos hgd]
    exact wp_load_row _ x ho g hx _ (pc p) (0, 0) _ hg Try.underlying32 rfl (by rw [pc_size]; exact info_p) (hK _ _ h)
theorem dEq_comm (x y : List UInt8) : dEq x y = dEq y x := by
  unfold dEq
  congr 1
  funext i
  exact Bool.beq_comm
theorem pEq_at (p : PK) (b : BK) : pEq p ⟨b.dom, b.pol, p.fw, p.num⟩ = (dEq b.dom p.dom && dEq b.pol p.pol) := by
  unfold pEq
  rw [dEq_comm p.dom, dEq_comm p.pol]
  simp
attribute [local irreducible] pc drow Calls validB admitK dEq pEq
set_option maxRecDepth 100000 in
set_option maxHeartbeats 4000000 in
theorem admit_c (p : PK) (b : BK) (u : Value) (l : List K) (w : World) (hv : RdK w u l) (hwf : ∀ i, i < l.length → (keyAt l i).wf) (hmo : b.mo.length ≤ maxLen) :
    Calls Try.prog 18 #[.agg (pc p), .agg (bc b u)] w fun e w' => e = .returned (.int .i64 (admitK p b l)) ∧ Below w.heap.size w w' := by
  obtain ⟨W0, hW0⟩ : ∃ W0, W0 = (w.alloc (.cells (pc p) 32)).alloc (.cells (bc b u) 28) := ⟨_, rfl⟩
  have hvw : RdK W0 u l := by rw [hW0]; exact (hv.alloc _).alloc _
  have hbh : ∀ w1, Below W0.heap.size W0 w1 → w1.heap[w.heap.size]? = some (.cells (pc p) 32 (0, 0)) ∧ w1.heap[w.heap.size + 1]? = some (.cells (bc b u) 28 (0, 0)) := by
    intro w1 h
    rw [hW0] at h
    have h1 := ((Below.refl (w.alloc (.cells (pc p) 32)).heap.size (w.alloc (.cells (pc p) 32))).alloc (Nat.le_refl _) (.cells (bc b u) 28)).trans (h.mono (by simp))
    have h2 := heap_alloc_new (w.alloc (.cells (pc p) 32)) (.cells (bc b u) 28)
    rw [World.size_alloc] at h2
    exact ⟨by rw [h1.block _ (by simp)]; exact heap_alloc_new _ _, by rw [h.block _ (by simp)]; exact h2⟩
  have hbe : ∀ w1, Below W0.heap.size W0 w1 → Below w.heap.size w w1 := by
    intro w1 h
    rw [hW0] at h
    exact below2 _ _ _ h
  have hB0 : W0.heap[w.heap.size + 1]? = some (.cells (bc b u) 28 (0, 0)) := (hbh W0 (Below.refl _ _)).2
  rw [hW0] at hB0
  have hval := validB_c b u l W0 hvw hwf hmo
  rw [hW0] at hval
  have HVAL := Lib.hid hval
  have HB0 := Lib.hid hB0
  have HBH := Lib.hid hbh
  have HBE := Lib.hid hbe
  have HW := Lib.hid hW0
  have hn1 := fun w => neq_p p ⟨b.dom, b.pol, p.fw, p.num⟩ w
  rw [pEq_at] at hn1
  clear hW0 hvw hbh hbe hB0 hval hwf
  rcases admit_six p b l with ⟨hv1, hr⟩ | ⟨hv1, hd1, hr⟩ | ⟨hv1, hd1, hd2, hr⟩ | ⟨hv1, hd1, hd2, hf, hr⟩ | ⟨hv1, hd1, hd2, hf, hg, hr⟩ | ⟨hv1, hd1, hd2, hf, hg, hr⟩
  all_goals
    rw [hr]
    rw [hv1] at HVAL
    try rw [hd1] at hn1
    try rw [hd2] at hn1
    clear hr hv1
    go_enter Try.func18, Try.ntmps18
    go_wp2_with (first
      | (refine ld_bk b u rfl (.tmp 3) rfl _ rfl _ HB0.out ?_)
      | (go_at_call 24; refine HVAL.out.mono ?_; rintro e w1 ⟨rfl, hb⟩; rw [← HW.out] at hb; obtain ⟨g1, g2⟩ := HBH.out _ hb; have p32 := (cell_of_row _ _ 32 _ _ _ g1).trans (pc_32 p); have p33 := (cell_of_row _ _ 33 _ _ _ g1).trans (pc_33 p); have b17 := (cell_of_row _ _ 17 _ _ _ g2).trans (bc_17 b u); have b18 := (cell_of_row _ _ 18 _ _ _ g2).trans (bc_18 b u); have G1 := Lib.hid g1; have G2 := Lib.hid g2; clear g1 g2)
      | (refine ld_pk p rfl (.tmp 2) rfl _ rfl _ G1.out ?_)
      | (refine ld_dig b.dom _ _ (range_row G2.out 0 _ (bc_dom b u)) rfl (.tmp 11) rfl rfl ?_)
      | (refine ld_dig b.pol _ _ (range_row G2.out 20 _ (bc_pol b u)) rfl (.tmp 13) rfl rfl ?_)
      | (refine bld_p rfl (.tmp 12) (.tmp 14) (.tmp 16) (.tmp 18) rfl b.dom b.pol p.fw p.num rfl rfl rfl rfl ?_))
    go_ret
    exact ⟨rfl, HBE.out _ hb⟩
end Go.Proofs.Ytjbndfnhollfnaa
