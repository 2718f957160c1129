/- The examples that each law plays. -/
import Derived.Test.YtjbndfnhollfnaaSanA
namespace Go.Proofs.Ytjbndfnhollfnaa
open Go.RowKit Go.Shelf
set_option linter.unusedSimpArgs false
set_option linter.unusedVariables false
theorem alloc_get (w : World) (X : Obj) (g : Nat) : (w.alloc X).heap[g]? = if g = w.heap.size then some X else w.heap[g]? := by
  unfold World.alloc
  simp only [Array.getElem?_push]
/-- the blocks that the examples lay -/
structure SanW (W : World) (g : Nat) : Prop where
  t : RdK W (.slice (some ⟨g + 1, 0, none⟩) 1 1) [k1]
  b : RdK W (.slice (some ⟨g + 1 + 1 + 1 + 1 + 1, 0, none⟩) 3 3) [k1, k4, k6]
  tt : W.heap[g + 1 + 1]? = some (.cells #[.int .i64 2, .slice (some ⟨g + 1, 0, none⟩) 1 1] 24 (0, 0))
  f : KAt W (g + 1 + 1 + 1) k4
  bb : W.heap[g + 1 + 1 + 1 + 1 + 1 + 1]? = some (.cells (bc b0 (.slice (some ⟨g + 1 + 1 + 1 + 1 + 1, 0, none⟩) 3 3)) 28 (0, 0))
theorem SanW.on {W W' : World} {g : Nat} (h : SanW W g) (hb : Below W.heap.size W W') : SanW W' g :=
  ⟨h.t.on hb, h.b.on hb, by rw [hb.block _ (Array.getElem?_eq_some_iff.1 h.tt).1]; exact h.tt, h.f.on hb, by rw [hb.block _ (Array.getElem?_eq_some_iff.1 h.bb).1]; exact h.bb⟩
theorem san_start (w : World) : SanW (((((((w.alloc (.cells (kc k1) 30)).alloc (.cells (kc k1) 30)).alloc (.cells #[.int .i64 2, .slice (some ⟨w.heap.size + 1, 0, none⟩) 1 1] 24)).alloc (.cells (kc k4) 30)).alloc (.cells (kc k6) 30)).alloc (.cells (kflat [k1, k4, k6]).toArray 30)).alloc (.cells (bc b0 (.slice (some ⟨w.heap.size + 1 + 1 + 1 + 1 + 1, 0, none⟩) 3 3)) 28)) w.heap.size := by
  have rd : ∀ (W : World) (g : Nat) (l : List K) (n : Nat), l.length = n → n ≤ 10 → W.heap[g]? = some (.cells (kflat l).toArray 30 (0, 0)) → RdK W (.slice (some ⟨g, 0, none⟩) n n) l := by
    intro W g l n hn h10 hg
    subst hn
    exact ⟨_, _, rfl, Nat.le_refl _, by unfold maxLen; omega, fun h0 => ⟨g, 0, rfl, (Array.getElem?_eq_some_iff.1 hg).1, fun j hj i hi => by rw [Nat.zero_add, cell_of_row _ _ _ _ _ _ hg, ← kflat_at l j i hj hi]; simp⟩⟩
  have n1 : ¬ w.heap.size + 1 = w.heap.size := by omega
  refine ⟨rd _ _ _ _ rfl (by decide) ?_, rd _ _ _ _ rfl (by decide) ?_, ?_, ?_, ?_⟩
  · simp only [alloc_get, World.size_alloc]; rw [if_neg (by omega), if_neg (by omega), if_neg (by omega), if_neg (by omega), if_neg (by omega), if_pos trivial]; rfl
  · simp only [alloc_get, World.size_alloc]; rw [if_neg (by omega), if_pos trivial]
  · simp only [alloc_get, World.size_alloc]; rw [if_neg (by omega), if_neg (by omega), if_neg (by omega), if_neg (by omega), if_pos trivial]
  · unfold KAt; simp only [alloc_get, World.size_alloc]; rw [if_neg (by omega), if_neg (by omega), if_neg (by omega), if_pos trivial]
  · simp only [alloc_get, World.size_alloc]; rw [if_pos trivial]
theorem SanW.cells {W : World} {g : Nat} (h : SanW W g) : W.cell? ⟨g + 1 + 1, 0, none⟩ = some (.int .i64 2) ∧ W.cell? ⟨g + 1 + 1, 1, none⟩ = some (.slice (some ⟨g + 1, 0, none⟩) 1 1) ∧
    W.cell? ⟨g + 1 + 1 + 1, 0, none⟩ = some (.int .i64 4) ∧ W.cell? ⟨g + 1 + 1 + 1, 1, none⟩ = some (.int .i64 0) ∧ W.cell? ⟨g + 1 + 1 + 1, 2, none⟩ = some (.string ⟨v32.toArray⟩) ∧ W.cell? ⟨g + 1 + 1 + 1, 3, none⟩ = some (.int .i64 0) ∧
    W.cell? ⟨g + 1 + 1 + 1, 4, none⟩ = some (.int .i64 1) ∧ W.cell? ⟨g + 1 + 1 + 1, 5, none⟩ = some (.int .i64 9) ∧ W.cell? ⟨g + 1 + 1 + 1, 6, none⟩ = some (.int .i64 2) ∧ W.cell? ⟨g + 1 + 1 + 1, 7, none⟩ = some (.int .i64 1) ∧ W.cell? ⟨g + 1 + 1 + 1, 8, none⟩ = some (.bool false) :=
  ⟨cell_of_row _ _ _ _ _ _ h.tt, cell_of_row _ _ _ _ _ _ h.tt, h.f.cell 0, h.f.cell 1, h.f.cell 2, h.f.cell 3, h.f.cell 4, h.f.cell 5, h.f.cell 6, h.f.cell 7, h.f.cell 8⟩
theorem SanW.lt {W : World} {g : Nat} (h : SanW W g) : g + 1 + 1 + 1 + 1 + 1 + 1 < W.heap.size := (Array.getElem?_eq_some_iff.1 h.bb).1
/-- .. and the tables that Plan has returned, the key that is wanted, the place -/
structure SanX (W : World) (g ga gb gd ge : Nat) (a a2 a3 : Option Addr) (c c2 c3 : Nat) : Prop where
  s : SanW W g
  t7 : W.heap[ga]? = some (.cells #[.int .i64 3, .slice a 2 c] 24 (0, 0))
  u : RdK W (.slice a 2 c) [k1, k2]
  l : RdI W (.slice a2 1 c2) [2]
  t10 : W.heap[gb]? = some (.cells #[.int .i64 3, .slice a3 2 c3] 24 (0, 0))
  v : RdK W (.slice a3 2 c3) [k1, k2]
  k : KAt W gd k2
  p : W.heap[ge]? = some (.cells (pc p2) 32 (0, 0))
theorem row_on {W W' : World} {g : Nat} {X : Obj} (h : W.heap[g]? = some X) (hb : Below W.heap.size W W') : W'.heap[g]? = some X := by
  rw [hb.block _ (Array.getElem?_eq_some_iff.1 h).1]; exact h
theorem SanX.on {W W' : World} {g ga gb gd ge : Nat} {a a2 a3 : Option Addr} {c c2 c3 : Nat} (h : SanX W g ga gb gd ge a a2 a3 c c2 c3) (hb : Below W.heap.size W W') : SanX W' g ga gb gd ge a a2 a3 c c2 c3 :=
  ⟨h.s.on hb, row_on h.t7 hb, h.u.on hb, h.l.on hb, row_on h.t10 hb, h.v.on hb, h.k.on hb, row_on h.p hb⟩
theorem SanX.cells {W : World} {g ga gb gd ge lb loff : Nat} {a a3 : Option Addr} {c c2 c3 : Nat} (h : SanX W g ga gb gd ge a (some ⟨lb, loff, none⟩) a3 c c2 c3) : W.cell? ⟨ga, 0, none⟩ = some (.int .i64 3) ∧ W.cell? ⟨ga, 1, none⟩ = some (.slice a 2 c) ∧
    W.cell? ⟨gb, 0, none⟩ = some (.int .i64 3) ∧ W.cell? ⟨gb, 1, none⟩ = some (.slice a3 2 c3) ∧ W.cell? ⟨g + 1 + 1, 0, none⟩ = some (.int .i64 2) ∧ W.cell? ⟨g + 1 + 1, 1, none⟩ = some (.slice (some ⟨g + 1, 0, none⟩) 1 1) ∧ W.cell? ⟨lb, loff, none⟩ = some (.int .i64 2) := by
  obtain ⟨b, off, e, _, hc⟩ := h.l.cells (by decide)
  cases e
  exact ⟨cell_of_row _ _ _ _ _ _ h.t7, cell_of_row _ _ _ _ _ _ h.t7, cell_of_row _ _ _ _ _ _ h.t10, cell_of_row _ _ _ _ _ _ h.t10, cell_of_row _ _ _ _ _ _ h.s.tt, cell_of_row _ _ _ _ _ _ h.s.tt, hc 0 (by decide)⟩
theorem SanX.ukey {W : World} {g ga gb gd ge ub uoff : Nat} {a2 a3 : Option Addr} {c c2 c3 : Nat} (h : SanX W g ga gb gd ge (some ⟨ub, uoff, none⟩) a2 a3 c c2 c3) : Nine W ub (uoff + 9) k2 := by
  obtain ⟨b, off, e, _, hc⟩ := h.u.cells (by decide)
  cases e
  exact hc 1 (by decide)
theorem SanX.lts {W : World} {g ga gb gd ge ub uoff lb loff : Nat} {a3 : Option Addr} {c c2 c3 : Nat} (h : SanX W g ga gb gd ge (some ⟨ub, uoff, none⟩) (some ⟨lb, loff, none⟩) a3 c c2 c3) : ga < W.heap.size ∧ gb < W.heap.size ∧ g + 1 + 1 < W.heap.size ∧ gd < W.heap.size ∧ ge < W.heap.size ∧ ub < W.heap.size ∧ lb < W.heap.size := by
  obtain ⟨b, off, e, h1, _⟩ := h.u.cells (by decide)
  cases e
  obtain ⟨b, off, e, h2, _⟩ := h.l.cells (by decide)
  cases e
  exact ⟨(Array.getElem?_eq_some_iff.1 h.t7).1, (Array.getElem?_eq_some_iff.1 h.t10).1, (Array.getElem?_eq_some_iff.1 h.s.tt).1, h.k.lt, (Array.getElem?_eq_some_iff.1 h.p).1, h1, h2⟩
/-- a whole row is loaded in a region that draws its order -/
theorem q_row {ops : Array Oper} {C : World → Prop} {Q : Act → Prop} {a : Act} {o : Oper} {rest : List Oper} (hw : Region.wanted o (yielded ops a.tmps) = true) (ty : TypeId) (x : Operand) (ho : o.op = .load ty x)
    (g : Nat) (hx : a.eval x = .pointer (some ⟨g, 0, none⟩)) (cs : Array Value) (hC : ∀ w', C w' → (loadVar ty ⟨g, 0, none⟩).run Try.prog w' = .ok (.agg cs) w')
    (h : wpQuiet Try.prog ops C Q rest (a.put o.dst (.agg cs))) : wpQuiet Try.prog ops C Q (o :: rest) a := by
  unfold wpQuiet
  rw [if_pos hw]
  refine ⟨.agg cs, fun w' hw' => ?_, h⟩
  unfold Oper.quietAt execOp
  simp only [ho, hx, Instr.loadAt, Instr.sureAddr, Sem.run_bind, Sem.run_pure, Result.andThen_ok, hC w' hw']
  exact ⟨rfl, rfl⟩
theorem q_zero {ops : Array Oper} {C : World → Prop} {Q : Act → Prop} {a : Act} {o : Oper} {rest : List Oper} (hw : Region.wanted o (yielded ops a.tmps) = true) (ho : o.op = .build 28 #[])
    (h : wpQuiet Try.prog ops C Q rest (a.put o.dst (.agg (bc bz (.slice none 0 0))))) : wpQuiet Try.prog ops C Q (o :: rest) a := by
  unfold wpQuiet
  rw [if_pos hw]
  refine ⟨.agg (bc bz (.slice none 0 0)), fun w' hw' => ?_, h⟩
  have hr := run_build (P := Try.prog) w' 28 #[] _ built_bz
  unfold Oper.quietAt execOp
  simp only [ho, List.map_toArray, List.map_nil, hr, Sem.run_bind, Sem.run_pure, Result.andThen_ok]
  exact ⟨rfl, rfl⟩
theorem run_bk (b : BK) (u : Value) {w : World} {g : Nat} (h : w.heap[g]? = some (.cells (bc b u) 28 (0, 0))) : (loadVar 28 ⟨g, 0, none⟩).run Try.prog w = .ok (.agg (bc b u)) w :=
  run_loadVar_row w g _ _ (bc b u) _ _ h Try.underlying28 rfl (by rw [bc_size]; exact info_b)
theorem run_pk (p : PK) {w : World} {g : Nat} (h : w.heap[g]? = some (.cells (pc p) 32 (0, 0))) : (loadVar 32 ⟨g, 0, none⟩).run Try.prog w = .ok (.agg (pc p)) w :=
  run_loadVar_row w g _ _ (pc p) _ _ h Try.underlying32 rfl (by rw [pc_size]; exact info_p)
theorem pc_one : (pc p2).all (·.oneCell') = true := by kernel_rfl
attribute [local irreducible] Calls pc
set_option maxRecDepth 100000 in
set_option maxHeartbeats 8000000 in
theorem sanity_c (w : World) : Calls Try.prog 9 #[] w fun e w' => e = .returned (.bool true) ∧ Below w.heap.size w w' := by
  go_enter Try.func9, Try.ntmps9
  go_upto_region 8 with (go_at_call 23; refine (rep32 _).mono ?_; rintro e w1 ⟨rfl, hb1⟩)
  go_upto_region 9 with (first
    | (refine bld_b0 rfl (.const (.int .i64 2)) (.const (.string ⟨#[109]⟩)) (.tmp 37) rfl (some ⟨w1.heap.size + 1 + 1 + 1 + 1 + 1, 0, none⟩) 3 3 rfl rfl rfl ?_)
    | (refine st_new (bc b0 (.slice (some ⟨w1.heap.size + 1 + 1 + 1 + 1 + 1, 0, none⟩) 3 3)) 28 rfl (.tmp 6) (.tmp 38) rfl _ rfl (by simp) rfl (by rw [bc_size]; exact info_b) (by rw [bc_size]; rfl) (bc_one _ _ _ _) ?_))
  have hs := san_start w1
  have hbw : Below w.heap.size w (((((((w1.alloc (.cells (kc k1) 30)).alloc (.cells (kc k1) 30)).alloc (.cells #[.int .i64 2, .slice (some ⟨w1.heap.size + 1, 0, none⟩) 1 1] 24)).alloc (.cells (kc k4) 30)).alloc (.cells (kc k6) 30)).alloc (.cells (kflat [k1, k4, k6]).toArray 30)).alloc (.cells (bc b0 (.slice (some ⟨w1.heap.size + 1 + 1 + 1 + 1 + 1, 0, none⟩) 3 3)) 28)) := by
    have h0 := hb1.size
    exact ((((((hb1.alloc h0 _).alloc (by simp; omega) _).alloc (by simp; omega) _).alloc (by simp; omega) _).alloc (by simp; omega) _).alloc (by simp; omega) _).alloc (by simp; omega) _
  obtain ⟨W, hW⟩ : ∃ W, W = (((((((w1.alloc (.cells (kc k1) 30)).alloc (.cells (kc k1) 30)).alloc (.cells #[.int .i64 2, .slice (some ⟨w1.heap.size + 1, 0, none⟩) 1 1] 24)).alloc (.cells (kc k4) 30)).alloc (.cells (kc k6) 30)).alloc (.cells (kflat [k1, k4, k6]).toArray 30)).alloc (.cells (bc b0 (.slice (some ⟨w1.heap.size + 1 + 1 + 1 + 1 + 1, 0, none⟩) 3 3)) 28)) := ⟨_, rfl⟩
  rw [← hW] at hs hbw
  unfold kc at hW
  change W = (((((((w1.alloc (.cells #[.int .i64 1, .int .i64 0, .string ⟨v32.toArray⟩, .int .i64 0, .int .i64 1, .int .i64 9, .int .i64 1, .int .i64 0, .bool false] 30)).alloc (.cells #[.int .i64 1, .int .i64 0, .string ⟨v32.toArray⟩, .int .i64 0, .int .i64 1, .int .i64 9, .int .i64 1, .int .i64 0, .bool false] 30)).alloc (.cells #[.int .i64 2, .slice (some ⟨w1.heap.size + 1, 0, none⟩) 1 1] 24)).alloc (.cells #[.int .i64 4, .int .i64 0, .string ⟨v32.toArray⟩, .int .i64 0, .int .i64 1, .int .i64 9, .int .i64 2, .int .i64 1, .bool false] 30)).alloc (.cells #[.int .i64 6, .int .i64 0, .string ⟨v32.toArray⟩, .int .i64 0, .int .i64 1, .int .i64 5, .int .i64 1, .int .i64 0, .bool false] 30)).alloc (.cells #[.int .i64 1, .int .i64 0, .string ⟨v32.toArray⟩, .int .i64 0, .int .i64 1, .int .i64 9, .int .i64 1, .int .i64 0, .bool false, .int .i64 4, .int .i64 0, .string ⟨v32.toArray⟩, .int .i64 0, .int .i64 1, .int .i64 9, .int .i64 2, .int .i64 1, .bool false, .int .i64 6, .int .i64 0, .string ⟨v32.toArray⟩, .int .i64 0, .int .i64 1, .int .i64 5, .int .i64 1, .int .i64 0, .bool false] 30)).alloc (.cells (bc b0 (.slice (some ⟨w1.heap.size + 1 + 1 + 1 + 1 + 1, 0, none⟩) 3 3)) 28)) at hW
  rw [← hW]
  generalize w1.heap.size = g at *
  clear hW hb1
  have HB := Lib.hid hbw
  have HS := Lib.hid hs
  have hlt := hs.lt
  obtain ⟨t0, t1, f0, f1, f2, f3, f4, f5, f6, f7, f8⟩ := hs.cells
  clear hs hbw
  go_upto_region 12 with (first
    | (refine ld_bk b0 _ rfl (.tmp 6) rfl _ rfl _ HS.out.bb ?_)
    | (go_at_call 10; refine (ex_plan1 _ _ _ HS.out.t HS.out.b).mono ?_; rintro e wa ⟨a, c, a2, c2, rfl, hu, hl, hb⟩; replace HB := Lib.hid (HB.out.trans (hb.mono HB.out.size)); replace HS := Lib.hid (HS.out.on hb); have HU := Lib.hid hu; have HL := Lib.hid hl; clear t0 t1 f0 f1 f2 f3 f4 f5 f6 f7 f8 hlt hu hl hb))
  have hla := HS.out.lt
  have HS2 : Hid (SanW (wa.alloc (.cells #[.int .i64 3, .slice a 2 c] 24)) g) := Lib.hid (HS.out.on ((Below.refl _ _).alloc (Nat.le_refl _) _))
  have HT7 : Hid ((wa.alloc (.cells #[.int .i64 3, .slice a 2 c] 24)).heap[wa.heap.size]? = some (.cells #[.int .i64 3, .slice a 2 c] 24 (0, 0))) := Lib.hid (heap_alloc_new _ _)
  replace HU := Lib.hid (HU.out.alloc (.cells #[.int .i64 3, .slice a 2 c] 24))
  replace HL := Lib.hid (HL.out.alloc (.cells #[.int .i64 3, .slice a 2 c] 24))
  replace HB := Lib.hid (HB.out.alloc HB.out.size (.cells #[.int .i64 3, .slice a 2 c] 24))
  go_upto_region 13 with (first
    | (refine ld_bk b0 _ rfl (.tmp 6) rfl _ rfl _ HS2.out.bb ?_)
    | (go_at_call 10; refine (ex_plan2 _ _ _ HU.out HS2.out.b).mono ?_; rintro e wb ⟨a3, c3, a4, c4, rfl, hv, hb⟩; replace HB := Lib.hid (HB.out.trans (hb.mono HB.out.size)); replace HS := Lib.hid (HS2.out.on hb); replace HT7 := Lib.hid (row_on HT7.out hb); replace HU := Lib.hid (HU.out.on hb); replace HL := Lib.hid (HL.out.on hb); have HV := Lib.hid hv; have hlb := hb.size; simp only [World.size_alloc] at hlb; clear HS2 hv hb))
  have q0 : wb.cell? ⟨wa.heap.size, 0, none⟩ = some (.int .i64 3) := cell_of_row _ _ _ _ _ _ HT7.out
  have q1 : wb.cell? ⟨wa.heap.size, 1, none⟩ = some (.slice a 2 c) := cell_of_row _ _ _ _ _ _ HT7.out
  obtain ⟨t0, t1, f0, f1, f2, f3, f4, f5, f6, f7, f8⟩ := HS.out.cells
  have l1 : wa.heap.size < wb.heap.size := by omega
  have l2 : g + 1 + 1 < wb.heap.size := by omega
  have l3 : g + 1 + 1 + 1 < wb.heap.size := by omega
  have HX0 : Hid (∀ w', Below (wb.alloc (.cells #[.int .i64 3, .slice a3 2 c3] 24)).heap.size (wb.alloc (.cells #[.int .i64 3, .slice a3 2 c3] 24)) w' → SanW w' g ∧ w'.heap[wa.heap.size]? = some (.cells #[.int .i64 3, .slice a 2 c] 24 (0, 0)) ∧ RdK w' (.slice a 2 c) [k1, k2] ∧ RdI w' (.slice a2 1 c2) [2] ∧
      w'.heap[wb.heap.size]? = some (.cells #[.int .i64 3, .slice a3 2 c3] 24 (0, 0)) ∧ RdK w' (.slice a3 2 c3) [k1, k2] ∧ Below w.heap.size w w') :=
    Lib.hid (fun w' h => ⟨(HS.out.on ((Below.refl _ _).alloc (Nat.le_refl _) _)).on h, row_on (row_on HT7.out ((Below.refl _ _).alloc (Nat.le_refl _) _)) h, (HU.out.alloc _).on h, (HL.out.alloc _).on h, row_on (heap_alloc_new _ _) h, (HV.out.alloc _).on h, (HB.out.alloc HB.out.size _).trans (h.mono (HB.out.alloc HB.out.size _).size)⟩)
  have tok1 : True := trivial
  go_upto_region 15 with (first
    | (go_at_call 12; clear tok1; refine (ex_twin1 _ _ (HU.out.alloc _)).mono ?_; rintro e wc ⟨rfl, hb⟩; have hlc := hb.size; simp only [World.size_alloc] at hlc; have HBC := Lib.hid hb; obtain ⟨xs, _, _, _, _, _, _⟩ := HX0.out _ hb; clear t0 t1 f0 f1 f2 f3 f4 f5 f6 f7 f8 hb; obtain ⟨t0, t1, f0, f1, f2, f3, f4, f5, f6, f7, f8⟩ := xs.cells; have XS := Lib.hid xs; clear xs)
    | (go_at_call 12; refine (ex_twin2 _ _ XS.out.t).mono ?_; rintro e wd ⟨rfl, hb⟩; have hld := hb.size; have HBD := Lib.hid (HBC.out.trans (hb.mono HBC.out.size)); obtain ⟨xs, _, _, _, _, _, _⟩ := HX0.out _ HBD.out; clear t0 t1 f0 f1 f2 f3 f4 f5 f6 f7 f8 hb; obtain ⟨t0, t1, f0, f1, f2, f3, f4, f5, f6, f7, f8⟩ := xs.cells; clear xs))
  go_upto_region 18 with (first
    | (refine bld_1 32 3 (.int .i64 2) (pc p2) built_p2 rfl (.const (.int .i64 2)) rfl rfl ?_)
    | (refine st_new (pc p2) 32 rfl (.tmp 18) (.tmp 80) rfl _ rfl (by simp) rfl (by rw [pc_size]; exact info_p) (by rw [pc_size]; rfl) pc_one ?_))
  obtain ⟨xs, x1, x2, x3, x4, x5, x6⟩ := HX0.out _ HBD.out
  have hx : SanX ((wd.alloc (.cells (kc k2) 30)).alloc (.cells (pc p2) 32)) g wa.heap.size wb.heap.size wd.heap.size (wd.heap.size + 1) a a2 a3 c c2 c3 := by
    have hb2 : Below wd.heap.size wd ((wd.alloc (.cells (kc k2) 30)).alloc (.cells (pc p2) 32)) := ((Below.refl _ _).alloc (Nat.le_refl _) _).alloc (by simp) _
    have hn := heap_alloc_new (wd.alloc (.cells (kc k2) 30)) (.cells (pc p2) 32)
    rw [World.size_alloc] at hn
    exact ⟨xs.on hb2, row_on x1 hb2, x2.on hb2, x3.on hb2, row_on x4 hb2, x5.on hb2, (KAt.new wd k2).on ((Below.refl _ _).alloc (Nat.le_refl _) _), hn⟩
  have hbx : Below w.heap.size w ((wd.alloc (.cells (kc k2) 30)).alloc (.cells (pc p2) 32)) := (x6.alloc x6.size _).alloc (by have := x6.size; simp; omega) _
  obtain ⟨W, hW⟩ : ∃ W, W = (wd.alloc (.cells #[.int .i64 2, .int .i64 0, .string ⟨v32.toArray⟩, .int .i64 0, .int .i64 1, .int .i64 9, .int .i64 2, .int .i64 1, .bool false] 30)).alloc (.cells (pc p2) 32) := ⟨_, rfl⟩
  change SanX ((wd.alloc (.cells #[.int .i64 2, .int .i64 0, .string ⟨v32.toArray⟩, .int .i64 0, .int .i64 1, .int .i64 9, .int .i64 2, .int .i64 1, .bool false] 30)).alloc (.cells (pc p2) 32)) _ _ _ _ _ _ _ _ _ _ _ at hx
  change Below w.heap.size w ((wd.alloc (.cells #[.int .i64 2, .int .i64 0, .string ⟨v32.toArray⟩, .int .i64 0, .int .i64 1, .int .i64 9, .int .i64 2, .int .i64 1, .bool false] 30)).alloc (.cells (pc p2) 32)) at hbx
  rw [← hW] at hx hbx ⊢
  have X := Lib.hid hx
  replace HB := Lib.hid hbx
  clear hW hx hbx xs x1 x2 x3 x4 x5 x6 t0 t1 f0 f1 f2 f3 f4 f5 f6 f7 f8 q0 q1 HX0 HBD HBC XS HS HT7 HU HL HV hld hlc hlb l1 l2 l3 hla
  generalize wa.heap.size = ga at *
  generalize wb.heap.size = gb at *
  generalize wd.heap.size = gd at *
  obtain ⟨ub, uoff, rfl, lub, _⟩ := X.out.u.cells (by decide)
  obtain ⟨lb, loff, rfl, llb, _⟩ := X.out.l.cells (by decide)
  have tokA : True := trivial
  go_upto_region 20 with (first
    | (refine bld_1 32 3 (.int .i64 3) (pc p3) built_p3 rfl (.const (.int .i64 3)) rfl rfl ?_)
    | (refine bld_1 26 0 (.int .u8 1) (drow [1]) built_d1 rfl (.const (.int .u8 1)) rfl rfl ?_)
    | (refine bld_2 32 3 1 (.int .i64 2) (.agg (drow [1])) (pc pd) built_pd rfl (.const (.int .i64 2)) (.tmp 84) rfl rfl rfl ?_)
    | (refine ld_bk b0 _ rfl (.tmp 6) rfl _ rfl _ X.out.s.bb ?_)
    | (go_at_call 18; clear tokA; refine (ex_admit p3 20 a1 _ _ X.out.s.b).mono ?_; rintro e w2 ⟨rfl, hb⟩; replace HB := Lib.hid (HB.out.trans (hb.mono HB.out.size)); replace X := Lib.hid (X.out.on hb); clear hb)
    | (go_at_call 18; refine (ex_admit pd 10 Proofs.Ytjbndfnhollfnaa.a2 _ _ X.out.s.b).mono ?_; rintro e w3 ⟨rfl, hb⟩; replace HB := Lib.hid (HB.out.trans (hb.mono HB.out.size)); replace X := Lib.hid (X.out.on hb); clear hb))
  have lt := X.out.lts
  obtain ⟨lga, lgb, lg2, lgd, lge, lub, llb⟩ := lt
  obtain ⟨q0, q1, r0, r1, t0, t1, l0⟩ := X.out.cells; obtain ⟨m0, m1, m2, m3, m4, m5, m6, m7, m8⟩ := X.out.ukey; obtain ⟨n0, n1, n2, n3, n4, n5, n6, n7, n8⟩ := X.out.k.nine; simp only [Nat.zero_add] at n1 n2 n3 n4 n5 n6 n7 n8
  have tokH : True := trivial
  have tokI : True := trivial
  refine allL (by kernel_rfl) (by kernel_rfl) ?_
  simp only [List.append_eq, List.cons_append, List.nil_append]
  repeat (first
    | (refine q_row rfl 28 (.tmp 6) rfl _ rfl (bc b0 (.slice (some ⟨g + 1 + 1 + 1 + 1 + 1, 0, none⟩) 3 3)) (fun w' ⟨u, e⟩ => by rw [e]; exact run_bk _ _ (X.out.on u.below).s.bb) ?_; simp only [Act.put, List.setIfInBounds_toArray, List.set_cons_zero, List.set_cons_succ])
    | (refine q_row rfl 32 (.tmp 18) rfl _ rfl (pc p2) (fun w' ⟨u, e⟩ => by rw [e]; exact run_pk _ (X.out.on u.below).p) ?_; simp only [Act.put, List.setIfInBounds_toArray, List.set_cons_zero, List.set_cons_succ])
    | (refine q_zero rfl rfl ?_; simp only [Act.put, List.setIfInBounds_toArray, List.set_cons_zero, List.set_cons_succ])
    | go_big_quiet_step ((first
        | (go_at_call 14; exact Later.call _ (ex_same _ _ _ (X.out.on (Later.below _)).u (X.out.on (Later.below _)).v))
        | (go_at_call 16; exact Later.call _ (ex_holds 3 5 [k1, k2] true Proofs.Ytjbndfnhollfnaa.h1 _ _ _ (X.out.on (Later.below _)).u (X.out.on (Later.below _)).s.b))
        | (go_at_call 16; exact Later.call _ (ex_holds 2 5 [k1] false Proofs.Ytjbndfnhollfnaa.h2 _ _ _ (X.out.on (Later.below _)).s.t (X.out.on (Later.below _)).s.b))
        | (go_at_call 16; exact Later.call _ (ex_holds 2 9 [k1] true Proofs.Ytjbndfnhollfnaa.h3 _ _ _ (X.out.on (Later.below _)).s.t (X.out.on (Later.below _)).s.b))
        | (go_at_call 18; exact Later.call _ (ex_admit p2 0 Proofs.Ytjbndfnhollfnaa.a3 _ _ (X.out.on (Later.below _)).s.b))
        | (go_at_call 18; exact Later.call _ (ex_admz _)))))
  refine wpQuiet_nil ?_
  rintro _ ⟨u, rfl⟩
  have HF := Lib.hid (HB.out.trans (u.below.mono HB.out.size))
  go_wp2
  go_ret
  exact ⟨rfl, HF.out⟩
end Go.Proofs.Ytjbndfnhollfnaa
