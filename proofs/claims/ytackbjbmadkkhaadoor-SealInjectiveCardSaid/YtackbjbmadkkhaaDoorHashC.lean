/- A block is taken in. -/
import Derived.Test.YtackbjbmadkkhaaDoorHashB
import Derived.Laws.Cover3
import Derived.Deep.CutRange
namespace Go.Proofs.YtackbjbmadkkhaaDoor
open Go.RowKit
set_option linter.unusedSimpArgs false
set_option linter.unusedVariables false
/-- a hash value as words -/
def hs (s : HS) : List UInt32 := [s.a, s.b, s.c, s.d, s.e, s.f, s.g, s.h]
theorem hs_len (s : HS) : (hs s).length = 8 := rfl
/-- four words in memory -/
abbrev q4 (a b c d : UInt32) : Array Value := #[.int .u32 (W32 a), .int .u32 (W32 b), .int .u32 (W32 c), .int .u32 (W32 d)]
/-- the constants stand in memory -/
def KAt (w : World) : Prop := ∃ t, w.heap[1]? = some (.cells (row KK) t (0, 0))
theorem KAt.lt {w : World} (h : KAt w) : 1 < w.heap.size := by obtain ⟨t, h⟩ := h; exact (Array.getElem?_eq_some_iff.1 h).1
theorem rnds_zero (w : List UInt32) (s : HS) : rnds w s 0 = s := rfl
theorem rnds_succ (w : List UInt32) (s : HS) (t : Nat) : rnds w s (t + 1) = rnd (wd KK t) (wd w t) (rnds w s t) := rfl
theorem KK_len : KK.length = 64 := rfl
theorem row_hs (s : HS) : row (hs s) = #[.int .u32 (W32 s.a), .int .u32 (W32 s.b), .int .u32 (W32 s.c), .int .u32 (W32 s.d), .int .u32 (W32 s.e), .int .u32 (W32 s.f), .int .u32 (W32 s.g), .int .u32 (W32 s.h)] := rfl
@[go_sem] theorem arr4 (a : Option Addr) (len cap : Nat) (w : World) (h : 4 ≤ len) : (Instr.arrayAt 90 (.slice a len cap)).run Tryd.prog w = .ok (.pointer a) w := by simp [Instr.arrayAt, run_underlying Tryd.underlying90, Nat.not_lt.2 h]
def hrow (s : HS) : Array Value := #[.int .u32 (W32 s.a), .int .u32 (W32 s.b), .int .u32 (W32 s.c), .int .u32 (W32 s.d), .int .u32 (W32 s.e), .int .u32 (W32 s.f), .int .u32 (W32 s.g), .int .u32 (W32 s.h)]
theorem block_facts (s : HS) (w w1 : World) {Z : Obj} (h : Below ((w.alloc (.cells (hrow s) 60)).alloc Z).heap.size ((w.alloc (.cells (hrow s) 60)).alloc Z) w1) :
    w.heap.size + 2 ≤ w1.heap.size ∧ w1.heap[w.heap.size]? = some (.cells (hrow s) 60) ∧ (∀ i u, (hrow s)[i]? = some u → w1.cell? ⟨w.heap.size, i, none⟩ = some u) := by
  have hs := h.size
  simp only [World.size_alloc] at hs
  have hb : w1.heap[w.heap.size]? = some (.cells (hrow s) 60) := by
    rw [h.block _ (by simp only [World.size_alloc]; omega)]
    exact heap2_first w _ _ 0
  refine ⟨by omega, hb, fun i u hu => ?_⟩
  unfold World.cell?
  simp [hb, hu]
/-- what lies in memory in a round: the hash value that came in (or its sum), the schedule, the two halves -/
structure CW (w : World) (l : List UInt32) (b : List UInt8) (gt gv ge : Nat) (v : HS) (wr : World) : Prop where
  kk : KAt wr
  ll : wr.heap[w.heap.size]? = some (.cells (row l) 60)
  rr : ∃ z, wr.heap[w.heap.size + 1]? = some (.cells z 60) ∧ z.size = 8
  tt : wr.heap[gt]? = some (.cells (row (sch b 64)) 82)
  vv : wr.heap[gv]? = some (.cells (q4 v.a v.b v.c v.d) 90)
  ee : wr.heap[ge]? = some (.cells (q4 v.e v.f v.g v.h) 90)
  ht : w.heap.size + 1 < gt
  hv : gt < gv
  he : gt < ge
  hn : gv ≠ ge
  below : Below w.heap.size w wr
  h0 : 1 < w.heap.size
theorem CW.drew {w wr : World} {l b gt gv ge v} (h : CW w l b gt gv ge v wr) (n : Nat) : CW w l b gt gv ge v (wr.drewN n) :=
  ⟨h.kk, h.ll, h.rr, h.tt, h.vv, h.ee, h.ht, h.hv, h.he, h.hn, below_drewN n h.below, h.h0⟩
/-- behind the two halves' making, in either order -/
theorem cw_start (s : HS) (b : List UInt8) (w w1 : World) (hK : KAt w) {Z : Array Value} (hZ : Z.size = 8)
    (h : Below ((w.alloc (.cells (hrow s) 60)).alloc (.cells Z 60)).heap.size ((w.alloc (.cells (hrow s) 60)).alloc (.cells Z 60)) w1) (wr : World)
    (hb : Below w1.heap.size w1 wr) (gv ge : Nat) (ht : wr.heap[w1.heap.size]? = some (.cells (row (sch b 64)) 82))
    (hv : wr.heap[gv]? = some (.cells (q4 s.a s.b s.c s.d) 90)) (he : wr.heap[ge]? = some (.cells (q4 s.e s.f s.g s.h) 90))
    (g1 : w1.heap.size < gv) (g2 : w1.heap.size < ge) (hn : gv ≠ ge) : CW w (hs s) b w1.heap.size gv ge s wr := by
  have hs1 := h.size
  simp only [World.size_alloc] at hs1
  have hk1 : 1 < w.heap.size := hK.lt
  have hA : Below w.heap.size w ((w.alloc (.cells (hrow s) 60)).alloc (.cells Z 60)) := ((Below.refl _ _).alloc (Nat.le_refl _) _).alloc (by simp) _
  have hW : Below w.heap.size w w1 := hA.trans (h.mono (by simp only [World.size_alloc]; omega))
  refine ⟨?_, ?_, ⟨Z, ?_, hZ⟩, ht, hv, he, by omega, g1, g2, hn, hW.trans (hb.mono (by omega)), hk1⟩
  · unfold KAt; rw [hb.block 1 (by omega), hW.block 1 hk1]; exact hK
  · rw [hb.block _ (by omega), h.block _ (by simp only [World.size_alloc]; omega)]; exact heap2_first w _ _ 0
  · rw [hb.block _ (by omega), h.block _ (by simp only [World.size_alloc]; omega)]; exact heap2_second w _ _ 0
theorem heap3_0 (w : World) (A X Y : Obj) (n : Nat) : ((((w.alloc A).alloc X).alloc Y).drewN n).heap[w.heap.size]? = some A := by
  show (((w.alloc A).alloc X).alloc Y).heap[w.heap.size]? = some A
  rw [heap_past _ _ _ (by simp only [World.size_alloc]; omega), heap_past _ _ _ (by simp only [World.size_alloc]; omega), heap_last _ _ _ rfl]
theorem heap3_1 (w : World) (A X Y : Obj) (n : Nat) : ((((w.alloc A).alloc X).alloc Y).drewN n).heap[w.heap.size + 1]? = some X := by
  show (((w.alloc A).alloc X).alloc Y).heap[w.heap.size + 1]? = some X
  rw [heap_past _ _ _ (by simp only [World.size_alloc]; omega), heap_last _ _ _ (by simp only [World.size_alloc])]
theorem heap3_2 (w : World) (A X Y : Obj) (n : Nat) : ((((w.alloc A).alloc X).alloc Y).drewN n).heap[w.heap.size + 1 + 1]? = some Y := by
  show (((w.alloc A).alloc X).alloc Y).heap[w.heap.size + 1 + 1]? = some Y
  rw [heap_last _ _ _ (by simp only [World.size_alloc])]
theorem below3 (w : World) (A X Y : Obj) (n : Nat) : Below w.heap.size w ((((w.alloc A).alloc X).alloc Y).drewN n) :=
  below_drewN n ((((Below.refl _ _).alloc (Nat.le_refl _) _).alloc (by simp only [World.size_alloc]; omega) _).alloc (by simp only [World.size_alloc]; omega) _)
theorem CW.cells {w wr : World} {l b gt gv ge v} (h : CW w l b gt gv ge v wr) :
    (wr.cell? ⟨gv, 0, none⟩ = some (.int .u32 (W32 v.a)) ∧ wr.cell? ⟨gv, 1, none⟩ = some (.int .u32 (W32 v.b)) ∧ wr.cell? ⟨gv, 2, none⟩ = some (.int .u32 (W32 v.c)) ∧ wr.cell? ⟨gv, 3, none⟩ = some (.int .u32 (W32 v.d))) ∧
    (wr.cell? ⟨ge, 0, none⟩ = some (.int .u32 (W32 v.e)) ∧ wr.cell? ⟨ge, 1, none⟩ = some (.int .u32 (W32 v.f)) ∧ wr.cell? ⟨ge, 2, none⟩ = some (.int .u32 (W32 v.g)) ∧ wr.cell? ⟨ge, 3, none⟩ = some (.int .u32 (W32 v.h))) := by
  have h1 := h.vv
  have h2 := h.ee
  refine ⟨⟨?_, ?_, ?_, ?_⟩, ⟨?_, ?_, ?_, ?_⟩⟩ <;> (unfold World.cell?; simp [h1, h2])
theorem CW.word {w wr : World} {l b gt gv ge v} (h : CW w l b gt gv ge v wr) (t : Nat) (ht : t < 64) : wr.cell? ⟨gt, t, none⟩ = some (.int .u32 (W32 (w16 (sch b 64) t))) := by
  have h1 := h.tt
  have h2 := row_get (sch b 64) t (by rw [sch_len]; exact ht)
  unfold World.cell?; simp [h1, h2]
theorem size22 : (Tryd.prog.info? 39).map (·.size) = some 1 := by kernel_rfl
theorem idx_64 (s : List UInt32) (hs : s.length = 64) (k : Nat) (hk : k < 64) (w : World) : (Instr.index 82 (.agg (row s)) (.int .i64 k)).run Tryd.prog w = .ok (.int .u32 (W32 (w16 s k))) w := by
  have hz : (sizeOf 39).run Tryd.prog w = .ok 1 w := by
    cases hq : Tryd.prog.info? 39 with
    | none => have := size22; rw [hq] at this; cases this
    | some i => have h1 := size22; rw [hq] at h1; simp at h1; simp [sizeOf, typeInfo, hq, h1]
  have h1 : (k : Int) < 64 := by omega
  have h2 : k < s.length := by omega
  simp [Instr.index, go_sem, hz, h1, h2]
  intro h3; omega
@[go_sem] theorem u32_not (x : UInt32) : bits .xor .u32 IntKind.u32.max (W32 x) = W32 (~~~x) := by
  have e : IntKind.u32.max = W32 4294967295 := rfl
  rw [e, u32_xor_u32]
  congr 1
theorem add4 (a b c d : UInt32) : (W32 a + W32 b + W32 c + W32 d) % 4294967296 = W32 (a + b + c + d) := by
  unfold W32
  simp only [UInt32.toNat_add]
  omega
theorem info4 : (Tryd.prog.info? 90).map (·.size) = some 4 := by kernel_rfl
theorem below_row {w : World} {g B : Nat} {cs : Array Value} (h : B ≤ g) : Below B w (w.setRow g cs) :=
  ⟨rfl, rfl, rfl, by simp [World.setRow], fun k hk => by
    unfold World.setRow
    rw [Array.getElem?_modify]
    have : ¬ g = k := by omega
    simp [this]⟩
theorem setRow_else (w : World) (g : Nat) (cs : Array Value) (k : Nat) (h : k ≠ g) : (w.setRow g cs).heap[k]? = w.heap[k]? := by
  unfold World.setRow
  rw [Array.getElem?_modify, if_neg (fun e => h e.symm)]
/-- a whole row is stored; all other blocks are as they were -/
theorem st_T {T : TypeId} (cs : Array Value) (hinf : (Tryd.prog.info? T).map (·.size) = some cs.size) {ops : Array Oper} {rest : List Oper} {o : Oper} {a : Act} {w : World} {Q : Exit → Act → World → Prop} (hgd : o.guard = none) (x y : Operand) (ho : o.op = .store T x y)
    (g : Nat) (c0 : Array Value) (hx : a.eval x = .pointer (some ⟨g, 0, none⟩)) (hy : a.eval y = .agg cs) (hone : (cs.all fun u => u.oneCell') = true) (hsz : c0.size = cs.size)
    (hg : w.heap[g]? = some (.cells c0 T (0, 0)))
    (h : ∀ w', w'.heap[g]? = some (.cells cs T (0, 0)) → (∀ k, k ≠ g → w'.heap[k]? = w.heap[k]?) → (∀ B, B ≤ g → Below B w w') → wpList Tryd.prog ops Q rest (a.put o.dst undef) w') : wpList Tryd.prog ops Q (o :: rest) a w :=
  wpList_store_row hgd _ x y ho g cs hx hy _ _ hg hinf hsz hone (h _ (setRow_heap _ _ _ _ _ _ hg) (fun k hk => setRow_else _ _ _ _ hk) (fun B hB => below_row hB))
theorem one_q4 (a b c d : UInt32) : ((q4 a b c d).all fun u => u.oneCell') = true := by
  have h : ∀ x, (Value.int .u32 x).oneCell' = true := fun _ => rfl
  simp [q4, h]
theorem CW.setE {w wr w' : World} {l b gt gv ge v} (h : CW w l b gt gv ge v wr) {e f g k : UInt32} (hg : w'.heap[ge]? = some (.cells (q4 e f g k) 90 (0, 0))) (ho : ∀ k, k ≠ ge → w'.heap[k]? = wr.heap[k]?) (hb : ∀ B, B ≤ ge → Below B wr w') :
    CW w l b gt gv ge ⟨v.a, v.b, v.c, v.d, e, f, g, k⟩ w' := by
  have h1 := h.ht
  have h2 := h.he
  have h3 := h.hv
  have h4 := h.hn
  exact ⟨by unfold KAt; rw [ho 1 (by omega)]; exact h.kk, by rw [ho _ (by omega)]; exact h.ll, by rw [ho _ (by omega)]; exact h.rr, by rw [ho _ (by omega)]; exact h.tt, by rw [ho _ h4]; exact h.vv, hg, h1, h3, h2, h4, h.below.trans (hb _ (by omega)), h.h0⟩
theorem CW.setV {w wr w' : World} {l b gt gv ge v} (h : CW w l b gt gv ge v wr) {e f g k : UInt32} (hg : w'.heap[gv]? = some (.cells (q4 e f g k) 90 (0, 0))) (ho : ∀ k, k ≠ gv → w'.heap[k]? = wr.heap[k]?) (hb : ∀ B, B ≤ gv → Below B wr w') :
    CW w l b gt gv ge ⟨e, f, g, k, v.e, v.f, v.g, v.h⟩ w' := by
  have h1 := h.ht
  have h2 := h.he
  have h3 := h.hv
  have h4 := h.hn
  exact ⟨by unfold KAt; rw [ho 1 (by omega)]; exact h.kk, by rw [ho _ (by omega)]; exact h.ll, by rw [ho _ (by omega)]; exact h.rr, by rw [ho _ (by omega)]; exact h.tt, hg, by rw [ho _ (fun e => h4 e.symm)]; exact h.ee, h1, h3, h2, h4, h.below.trans (hb _ (by omega)), h.h0⟩
theorem setCell_rowC (w : World) (g i : Nat) (cs : Array Value) (T : TypeId) (fr : Nat × Nat) (v : Value) (h : w.heap[g]? = some (.cells cs T fr)) : w.setCell ⟨g, i, none⟩ v = w.setRow g (cs.setIfInBounds i v) := by
  unfold World.setCell World.setRow
  simp only [World.mk.injEq, and_true]
  apply Array.ext_getElem?
  intro j
  simp only [Array.getElem?_modify]
  by_cases h' : g = j
  · subst h'
    simp [h]
  · simp [h']
/-- one word of the hash value is stored -/
theorem CW.setL {w wr : World} {l b gt gv ge v} (h : CW w l b gt gv ge v wr) (i : Nat) (hi : i < l.length) (x : UInt32) : CW w (l.set i x) b gt gv ge v (wr.setCell ⟨w.heap.size, i, none⟩ (.int .u32 (W32 x))) := by
  have h1 := h.ht
  have h2 := h.he
  have h3 := h.hv
  have h4 := h.hn
  have hk : 1 < w.heap.size ∨ w.heap.size ≤ 1 := by omega
  rw [setCell_rowC _ _ _ _ _ _ _ h.ll, row_set]
  refine ⟨?_, setRow_heap _ _ _ _ _ _ h.ll, by rw [setRow_else _ _ _ _ (by omega)]; exact h.rr, by rw [setRow_else _ _ _ _ (by omega)]; exact h.tt, by rw [setRow_else _ _ _ _ (by omega)]; exact h.vv, by rw [setRow_else _ _ _ _ (by omega)]; exact h.ee, h1, h3, h2, h4, h.below.trans (below_row (Nat.le_refl _)), h.h0⟩
  have h0 := h.h0
  unfold KAt
  rw [setRow_else _ _ _ _ (by omega)]
  exact h.kk
theorem CW.lcell {w wr : World} {l b gt gv ge v} (h : CW w l b gt gv ge v wr) (i : Nat) (hi : i < l.length) : wr.cell? ⟨w.heap.size, i, none⟩ = some (.int .u32 (W32 (w16 l i))) := by
  have h1 := h.ll
  have h2 := row_get l i hi
  unfold World.cell?; simp [h1, h2]
theorem CW.lfree {w wr : World} {l b gt gv ge v} (h : CW w l b gt gv ge v wr) (i : Nat) : wr.frozen? ⟨w.heap.size, i, none⟩ = false := frozen_of_row _ _ i _ _ h.ll
/-- the sums, i of each half -/
def addL (s v : HS) : Nat → List UInt32
  | 0 => [s.a, s.b, s.c, s.d, s.e, s.f, s.g, s.h]
  | 1 => [s.a + v.a, s.b, s.c, s.d, s.e + v.e, s.f, s.g, s.h]
  | 2 => [s.a + v.a, s.b + v.b, s.c, s.d, s.e + v.e, s.f + v.f, s.g, s.h]
  | 3 => [s.a + v.a, s.b + v.b, s.c + v.c, s.d, s.e + v.e, s.f + v.f, s.g + v.g, s.h]
  | _ => [s.a + v.a, s.b + v.b, s.c + v.c, s.d + v.d, s.e + v.e, s.f + v.f, s.g + v.g, s.h + v.h]
theorem addL_len (s v : HS) (i : Nat) : (addL s v i).length = 8 := by
  unfold addL; split <;> rfl
theorem size8 (l : List UInt32) (h : l.length = 8) : (Tryd.prog.info? 60).map (·.size) = some (row l).size := by rw [row_size, h]; kernel_rfl
attribute [local irreducible] Calls sch rnds cmpr row KK z64
set_option maxRecDepth 100000 in
set_option maxHeartbeats 2000000 in
theorem compress_c (s : HS) (v : Value) (b : List UInt8) (w : World) (hv : RdE eB w v b) (hb : b.length = 64) (hk : KAt w) :
    Calls Tryd.prog 51 #[.agg (row (hs s)), v] w fun e w' => e = .returned (.agg (row (hs (cmpr s b)))) ∧ Below w.heap.size w w' := by
  have HV := Lib.hid hv
  have HK := Lib.hid hk
  clear hv hk
  rw [row_hs s]
  have hz := zero_64
  have hsl := sch_len b 64
  go_enter Tryd.func51, Tryd.ntmps51
  go_wp2_with (first
    | (go_at_call 63; refine (schedule_c v b _ ((HV.out.alloc _).alloc _) hb).mono ?_; rintro e w1 ⟨rfl, hB⟩; have HB := Lib.hid hB; clear hB)
    | (refine st_64 rfl (.tmp 5) (.tmp 14) rfl _ _ rfl rfl 82 _ (heap_alloc_new _ _) (by rw [row_size]; exact z64_len) hsl ?_))
  rw [setRow_alloc_last _ _ _ _ _ rfl]
  obtain ⟨hsz, hblk, hcell⟩ := block_facts s w w1 HB.out
  have c0 : w1.cell? ⟨w.heap.size, 0, none⟩ = some (.int .u32 (W32 s.a)) := hcell 0 _ rfl
  have c1 : w1.cell? ⟨w.heap.size, 1, none⟩ = some (.int .u32 (W32 s.b)) := hcell 1 _ rfl
  have c2 : w1.cell? ⟨w.heap.size, 2, none⟩ = some (.int .u32 (W32 s.c)) := hcell 2 _ rfl
  have c3 : w1.cell? ⟨w.heap.size, 3, none⟩ = some (.int .u32 (W32 s.d)) := hcell 3 _ rfl
  have c4 : w1.cell? ⟨w.heap.size, 4, none⟩ = some (.int .u32 (W32 s.e)) := hcell 4 _ rfl
  have c5 : w1.cell? ⟨w.heap.size, 5, none⟩ = some (.int .u32 (W32 s.f)) := hcell 5 _ rfl
  have c6 : w1.cell? ⟨w.heap.size, 6, none⟩ = some (.int .u32 (W32 s.g)) := hcell 6 _ rfl
  have c7 : w1.cell? ⟨w.heap.size, 7, none⟩ = some (.int .u32 (W32 s.h)) := hcell 7 _ rfl
  clear hz
  have hlt0 : w.heap.size < w1.heap.size := by omega
  have hlt1 : w.heap.size < w1.heap.size + 1 := by omega
  have hlt2 : w.heap.size < w1.heap.size + 2 := by omega
  have hlt3 : w.heap.size < w1.heap.size + 1 + 1 := by omega
  simp only [Act.put]
  go_cut [6, 7] from 15 to 20 (fun o p wx => ∃ gv ge : Nat, o = .pointer (some ⟨gv, 0, none⟩) ∧ p = .pointer (some ⟨ge, 0, none⟩) ∧ CW w (hs s) b w1.heap.size gv ge s wx)
  case first =>
    go_region
    all_goals (go_wp2; go_meet)
    case rel => first
      | exact ⟨_, _, rfl, rfl, cw_start s b w w1 HK.out rfl HB.out _ (below3 w1 _ _ _ 1) _ _ (heap3_0 w1 _ _ _ 1) (heap3_1 w1 _ _ _ 1) (heap3_2 w1 _ _ _ 1) (by omega) (by omega) (by omega)⟩
      | exact ⟨_, _, rfl, rfl, cw_start s b w w1 HK.out rfl HB.out _ (below3 w1 _ _ _ 1) _ _ (heap3_0 w1 _ _ _ 1) (heap3_2 w1 _ _ _ 1) (heap3_1 w1 _ _ _ 1) (by omega) (by omega) (by omega)⟩
    case rel => first
      | exact ⟨_, _, rfl, rfl, cw_start s b w w1 HK.out rfl HB.out _ (below3 w1 _ _ _ 1) _ _ (heap3_0 w1 _ _ _ 1) (heap3_1 w1 _ _ _ 1) (heap3_2 w1 _ _ _ 1) (by omega) (by omega) (by omega)⟩
      | exact ⟨_, _, rfl, rfl, cw_start s b w w1 HK.out rfl HB.out _ (below3 w1 _ _ _ 1) _ _ (heap3_0 w1 _ _ _ 1) (heap3_2 w1 _ _ _ 1) (heap3_1 w1 _ _ _ 1) (by omega) (by omega) (by omega)⟩
  case rest =>
    obtain ⟨gv, ge, rfl, rfl, hcw⟩ := hcut
    have HCW := Lib.hid hcw
    clear hcw c0 c1 c2 c3 c4 c5 c6 c7 hlt0 hlt1 hlt2 hlt3 hblk hcell
    obtain ⟨tk, hkk⟩ := HCW.out.kk
    have HKK := Lib.hid hkk
    clear hkk
    go_wp2_with (refine ld_64 rfl (.global 1) rfl _ rfl _ tk HKK.out KK_len ?_)
    have m1 : ∀ (x : UInt32) (w : World), Calls Tryd.prog 64 #[.int .u32 (W32 x), .int .i64 6, .int .i64 11, .int .i64 25] w fun e w' => e = .returned (.int .u32 (W32 (mix3 x 6 11 25))) ∧ ∃ n, w' = w.drewN n := fun x w => (mix_c x 6 11 25 (by omega) (by omega) (by omega) (by omega) (by omega) (by omega) w).mono fun _ _ h => ⟨h.1, 0, h.2⟩
    have m2 : ∀ (x : UInt32) (w : World), Calls Tryd.prog 64 #[.int .u32 (W32 x), .int .i64 2, .int .i64 13, .int .i64 22] w fun e w' => e = .returned (.int .u32 (W32 (mix3 x 2 13 22))) ∧ ∃ n, w' = w.drewN n := fun x w => (mix_c x 2 13 22 (by omega) (by omega) (by omega) (by omega) (by omega) (by omega) w).mono fun _ _ h => ⟨h.1, 0, h.2⟩
    go_loopw [22] (fun i wr => ∃ t : Nat, t ≤ 64 ∧ i = .int .i64 t ∧ Hid (CW w (hs s) b w1.heap.size gv ge (rnds (sch b 64) s t) wr)) (fun i _ => 64 - (intOf i).toNat)
    case atStart => exact ⟨0, by omega, rfl, by rw [rnds_zero]; exact HCW⟩
    case round =>
      obtain ⟨t, ht, rfl, hcw⟩ := hrel
      by_cases hlt : t < 64
      · have hd : decide ((t : Int) < 64) = true := by simp; omega
        have hkl : t < KK.length := by rw [KK_len]; exact hlt
        have hix := idx_64 KK KK_len t hlt
        have hti : (t : Int) < 64 := by omega
        obtain ⟨⟨v0, v1, v2, v3⟩, ⟨e0, e1, e2, e3⟩⟩ := hcw.out.cells
        have ct := hcw.out.word t hlt
        have hee := hcw.out.ee
        generalize hst : rnds (sch b 64) s t = st at hcw v0 v1 v2 v3 e0 e1 e2 e3
        have HST := Lib.hid hst
        have HLT := Lib.hid hlt
        clear hst hee
        go_upto_region 6 with fail
        go_cut [10] from 23 to 93 (fun x wc => x = .int .u32 (W32 (rndX (wd KK t) (wd (sch b 64) t) st)) ∧ ∃ n, wc = wr.drewN n)
        case first =>
          go_quiet ((go_at_call 64; exact Calls.quiet_of (m1 _ _)))
          all_goals (go_wp2; go_meet)
          exact ⟨by rw [add4]; rfl, _, rfl⟩
        case rest =>
          obtain ⟨rfl, n1, hw⟩ := hcut
          have H1 : Hid (CW w (hs s) b w1.heap.size gv ge st wc) := Lib.hid (by rw [hw]; exact hcw.out.drew n1)
          clear hw hcw v0 v1 v2 v3 e0 e1 e2 e3 ct
          obtain ⟨X, hX⟩ : ∃ X, X = rndX (wd KK t) (wd (sch b 64) t) st := ⟨_, rfl⟩
          have HX := Lib.hid hX
          rw [← hX]
          clear hX
          obtain ⟨⟨v0, v1, v2, v3⟩, ⟨e0, e1, e2, e3⟩⟩ := H1.out.cells
          go_upto_region 7 with fail
          go_cut [11] from 23 to 93 (fun y wf => y = .int .u32 (W32 (rndY st)) ∧ ∃ n, wf = wc.drewN n)
          case first =>
            first | refine allD (by kernel_rfl) (by kernel_rfl) ?_ | refine all0 (by kernel_rfl) (by kernel_rfl) ?_
            repeat (quiet_step ((go_at_call 64; exact Calls.quiet_of (m2 _ _))))
            refine wpQuiet_nil ?_
            rintro _ ⟨nq2, rfl⟩
            all_goals (go_wp2; go_meet)
            exact ⟨rfl, _, rfl⟩
          case rest =>
            obtain ⟨rfl, n2, hw⟩ := hcut
            have H2 := Lib.hid (H1.out.drew n2)
            rw [← hw] at H2
            clear hw v0 v1 v2 v3 e0 e1 e2 e3
            obtain ⟨Y, hY⟩ : ∃ Y, Y = rndY st := ⟨_, rfl⟩
            have HY := Lib.hid hY
            rw [← hY]
            clear hY
            obtain ⟨⟨v0, v1, v2, v3⟩, ⟨e0, e1, e2, e3⟩⟩ := H2.out.cells
            go_wp2_with (first
              | (refine st_T (T := 90) (q4 (st.d + X) st.e st.f st.g) info4 rfl (.tmp 7) (.tmp 82) rfl ge (q4 st.e st.f st.g st.h) rfl rfl (one_q4 _ _ _ _) rfl H2.out.ee ?_; intro wa hga hoa hba; have H3 := Lib.hid (H2.out.setE hga hoa hba); clear hga hoa hba v0 v1 v2 v3 e0 e1 e2 e3; obtain ⟨⟨v0, v1, v2, v3⟩, ⟨e0, e1, e2, e3⟩⟩ := H3.out.cells)
              | (refine st_T (T := 90) (q4 (X + Y) st.a st.b st.c) info4 rfl (.tmp 6) (.tmp 92) rfl gv (q4 st.a st.b st.c st.d) rfl rfl (one_q4 _ _ _ _) rfl H3.out.vv ?_; intro wb hgb hob hbb; have H4 := Lib.hid (H3.out.setV hgb hob hbb); clear hgb hob hbb v0 v1 v2 v3 e0 e1 e2 e3))
            go_roundw
            case rel => exact ⟨t + 1, by have := HLT.out; omega, by go_num, Lib.hid (by rw [rnds_succ, HST.out]; unfold rnd; rw [← HX.out, ← HY.out]; exact H4.out)⟩
            case measure => have := HLT.out; simp [intOf]; omega
      · have he : t = 64 := by omega
        subst he
        obtain ⟨vz, hvz⟩ : ∃ vz, vz = rnds (sch b 64) s 64 := ⟨_, rfl⟩
        have HVZ := Lib.hid hvz
        rw [← hvz] at hcw
        clear hvz hlt ht
        go_wp2
        go_loopw [94] (fun o wr => ∃ i : Nat, i ≤ 4 ∧ o = .int .i64 i ∧ Hid (CW w (addL s vz i) b w1.heap.size gv ge vz wr)) (fun o _ => 4 - (intOf o).toNat)
        case atStart => exact ⟨0, by omega, rfl, hcw⟩
        case round =>
          obtain ⟨i, hi, rfl, H⟩ := hrel
          clear hcw
          rcases (by omega : i = 0 ∨ i = 1 ∨ i = 2 ∨ i = 3 ∨ i = 4) with rfl | rfl | rfl | rfl | rfl
          · have l0 : wr.cell? ⟨w.heap.size, 0, none⟩ = some (.int .u32 (W32 s.a)) := H.out.lcell 0 (by rw [addL_len]; decide)
            have f0 := H.out.lfree 0
            obtain ⟨⟨v0, v1, v2, v3⟩, ⟨e0, e1, e2, e3⟩⟩ := H.out.cells
            go_upto_region 14 with fail
            go_cut [12] from 95 to 114 (fun u wc => u = .int .i64 0 ∧ CW w ((addL s vz 0).set 0 (s.a + vz.a)) b w1.heap.size gv ge vz wc)
            case first =>
              first | refine tailD 8 (by kernel_rfl) (by kernel_rfl) ?_ | refine tail0 8 (by kernel_rfl) (by kernel_rfl) ?_
              simp only [List.take_succ_cons, List.take_zero, List.drop_succ_cons, List.drop_zero]
              repeat (go_big_quiet_step (fail))
              refine wpQuiet_nil ?_
              rintro _ ⟨nq, rfl⟩
              all_goals (go_wp2; go_meet)
              exact ⟨rfl, (H.out.drew nq).setL 0 (by rw [addL_len]; decide) _⟩
            case rest =>
              obtain ⟨rfl, hc⟩ := hcut
              have H2 := Lib.hid hc
              clear hc l0 f0 v0 v1 v2 v3 e0 e1 e2 e3
              have l4 : wc.cell? ⟨w.heap.size, 4, none⟩ = some (.int .u32 (W32 s.e)) := H2.out.lcell 4 (by rw [List.length_set, addL_len]; decide)
              have f4 := H2.out.lfree 4
              obtain ⟨⟨v0, v1, v2, v3⟩, ⟨e0, e1, e2, e3⟩⟩ := H2.out.cells
              go_wp2
              first | refine tailD 9 (by kernel_rfl) (by kernel_rfl) ?_ | refine tail0 9 (by kernel_rfl) (by kernel_rfl) ?_
              simp only [List.take_succ_cons, List.take_zero, List.drop_succ_cons, List.drop_zero]
              repeat (go_big_quiet_step (fail))
              refine wpQuiet_nil ?_
              rintro _ ⟨nq, rfl⟩
              go_wp2
              go_roundw
              case rel => exact ⟨1, by decide, by go_num, Lib.hid ((H2.out.drew nq).setL 4 (by rw [List.length_set, addL_len]; decide) (s.e + vz.e))⟩
              case measure => simp [intOf]
          · have l0 : wr.cell? ⟨w.heap.size, 1, none⟩ = some (.int .u32 (W32 s.b)) := H.out.lcell 1 (by rw [addL_len]; decide)
            have f0 := H.out.lfree 1
            obtain ⟨⟨v0, v1, v2, v3⟩, ⟨e0, e1, e2, e3⟩⟩ := H.out.cells
            go_upto_region 14 with fail
            go_cut [12] from 95 to 114 (fun u wc => u = .int .i64 1 ∧ CW w ((addL s vz 1).set 1 (s.b + vz.b)) b w1.heap.size gv ge vz wc)
            case first =>
              first | refine tailD 8 (by kernel_rfl) (by kernel_rfl) ?_ | refine tail0 8 (by kernel_rfl) (by kernel_rfl) ?_
              simp only [List.take_succ_cons, List.take_zero, List.drop_succ_cons, List.drop_zero]
              repeat (go_big_quiet_step (fail))
              refine wpQuiet_nil ?_
              rintro _ ⟨nq, rfl⟩
              all_goals (go_wp2; go_meet)
              exact ⟨rfl, (H.out.drew nq).setL 1 (by rw [addL_len]; decide) _⟩
            case rest =>
              obtain ⟨rfl, hc⟩ := hcut
              have H2 := Lib.hid hc
              clear hc l0 f0 v0 v1 v2 v3 e0 e1 e2 e3
              have l4 : wc.cell? ⟨w.heap.size, 5, none⟩ = some (.int .u32 (W32 s.f)) := H2.out.lcell 5 (by rw [List.length_set, addL_len]; decide)
              have f4 := H2.out.lfree 5
              obtain ⟨⟨v0, v1, v2, v3⟩, ⟨e0, e1, e2, e3⟩⟩ := H2.out.cells
              go_wp2
              first | refine tailD 9 (by kernel_rfl) (by kernel_rfl) ?_ | refine tail0 9 (by kernel_rfl) (by kernel_rfl) ?_
              simp only [List.take_succ_cons, List.take_zero, List.drop_succ_cons, List.drop_zero]
              repeat (go_big_quiet_step (fail))
              refine wpQuiet_nil ?_
              rintro _ ⟨nq, rfl⟩
              go_wp2
              go_roundw
              case rel => exact ⟨2, by decide, by go_num, Lib.hid ((H2.out.drew nq).setL 5 (by rw [List.length_set, addL_len]; decide) (s.f + vz.f))⟩
              case measure => simp [intOf]
          · have l0 : wr.cell? ⟨w.heap.size, 2, none⟩ = some (.int .u32 (W32 s.c)) := H.out.lcell 2 (by rw [addL_len]; decide)
            have f0 := H.out.lfree 2
            obtain ⟨⟨v0, v1, v2, v3⟩, ⟨e0, e1, e2, e3⟩⟩ := H.out.cells
            go_upto_region 14 with fail
            go_cut [12] from 95 to 114 (fun u wc => u = .int .i64 2 ∧ CW w ((addL s vz 2).set 2 (s.c + vz.c)) b w1.heap.size gv ge vz wc)
            case first =>
              first | refine tailD 8 (by kernel_rfl) (by kernel_rfl) ?_ | refine tail0 8 (by kernel_rfl) (by kernel_rfl) ?_
              simp only [List.take_succ_cons, List.take_zero, List.drop_succ_cons, List.drop_zero]
              repeat (go_big_quiet_step (fail))
              refine wpQuiet_nil ?_
              rintro _ ⟨nq, rfl⟩
              all_goals (go_wp2; go_meet)
              exact ⟨rfl, (H.out.drew nq).setL 2 (by rw [addL_len]; decide) _⟩
            case rest =>
              obtain ⟨rfl, hc⟩ := hcut
              have H2 := Lib.hid hc
              clear hc l0 f0 v0 v1 v2 v3 e0 e1 e2 e3
              have l4 : wc.cell? ⟨w.heap.size, 6, none⟩ = some (.int .u32 (W32 s.g)) := H2.out.lcell 6 (by rw [List.length_set, addL_len]; decide)
              have f4 := H2.out.lfree 6
              obtain ⟨⟨v0, v1, v2, v3⟩, ⟨e0, e1, e2, e3⟩⟩ := H2.out.cells
              go_wp2
              first | refine tailD 9 (by kernel_rfl) (by kernel_rfl) ?_ | refine tail0 9 (by kernel_rfl) (by kernel_rfl) ?_
              simp only [List.take_succ_cons, List.take_zero, List.drop_succ_cons, List.drop_zero]
              repeat (go_big_quiet_step (fail))
              refine wpQuiet_nil ?_
              rintro _ ⟨nq, rfl⟩
              go_wp2
              go_roundw
              case rel => exact ⟨3, by decide, by go_num, Lib.hid ((H2.out.drew nq).setL 6 (by rw [List.length_set, addL_len]; decide) (s.g + vz.g))⟩
              case measure => simp [intOf]
          · have l0 : wr.cell? ⟨w.heap.size, 3, none⟩ = some (.int .u32 (W32 s.d)) := H.out.lcell 3 (by rw [addL_len]; decide)
            have f0 := H.out.lfree 3
            obtain ⟨⟨v0, v1, v2, v3⟩, ⟨e0, e1, e2, e3⟩⟩ := H.out.cells
            go_upto_region 14 with fail
            go_cut [12] from 95 to 114 (fun u wc => u = .int .i64 3 ∧ CW w ((addL s vz 3).set 3 (s.d + vz.d)) b w1.heap.size gv ge vz wc)
            case first =>
              first | refine tailD 8 (by kernel_rfl) (by kernel_rfl) ?_ | refine tail0 8 (by kernel_rfl) (by kernel_rfl) ?_
              simp only [List.take_succ_cons, List.take_zero, List.drop_succ_cons, List.drop_zero]
              repeat (go_big_quiet_step (fail))
              refine wpQuiet_nil ?_
              rintro _ ⟨nq, rfl⟩
              all_goals (go_wp2; go_meet)
              exact ⟨rfl, (H.out.drew nq).setL 3 (by rw [addL_len]; decide) _⟩
            case rest =>
              obtain ⟨rfl, hc⟩ := hcut
              have H2 := Lib.hid hc
              clear hc l0 f0 v0 v1 v2 v3 e0 e1 e2 e3
              have l4 : wc.cell? ⟨w.heap.size, 7, none⟩ = some (.int .u32 (W32 s.h)) := H2.out.lcell 7 (by rw [List.length_set, addL_len]; decide)
              have f4 := H2.out.lfree 7
              obtain ⟨⟨v0, v1, v2, v3⟩, ⟨e0, e1, e2, e3⟩⟩ := H2.out.cells
              go_wp2
              first | refine tailD 9 (by kernel_rfl) (by kernel_rfl) ?_ | refine tail0 9 (by kernel_rfl) (by kernel_rfl) ?_
              simp only [List.take_succ_cons, List.take_zero, List.drop_succ_cons, List.drop_zero]
              repeat (go_big_quiet_step (fail))
              refine wpQuiet_nil ?_
              rintro _ ⟨nq, rfl⟩
              go_wp2
              go_roundw
              case rel => exact ⟨4, by decide, by go_num, Lib.hid ((H2.out.drew nq).setL 7 (by rw [List.length_set, addL_len]; decide) (s.h + vz.h))⟩
              case measure => simp [intOf]
          · obtain ⟨z, hz1, hz2⟩ := H.out.rr
            have HZ := Lib.hid hz1
            clear hz1
            go_wp2_with (first
              | (refine wpList_load_row rfl 60 (.tmp 2) rfl w.heap.size rfl _ (row (addL s vz 4)) (0, 0) _ H.out.ll Tryd.underlying60 rfl (size8 _ (addL_len _ _ _)) ?_)
              | (refine st_T (T := 60) (row (addL s vz 4)) (size8 _ (addL_len _ _ _)) rfl (.tmp 4) (.tmp 115) rfl (w.heap.size + 1) z rfl rfl (row_one _) (by rw [hz2, row_size, addL_len]) HZ.out ?_; intro wb hgb hob hbb))
            (try simp only [Exit.inBlock, Exit.then])
            refine bodyPost_ret (v := .agg (row (addL s vz 4))) (results_cell_row rfl _ _ (w.heap.size + 1) _ _ (0, 0) _ rfl hgb Tryd.underlying60 rfl (size8 _ (addL_len _ _ _))) rfl ⟨?_, H.out.below.trans (hbb _ (by omega))⟩
            rw [show hs (cmpr s b) = addL s vz 4 from by unfold cmpr; rw [← HVZ.out]; rfl]
end Go.Proofs.YtackbjbmadkkhaaDoor
