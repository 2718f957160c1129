/- Parts of a proof, joined: contracts of functions of the program and plain lemmas (HashC, HashD, HashE, HashF, HashG). No condition. -/
import Derived.Test.YtbpjdfnnlmblaaaGreatDoorMA01
import Derived.Laws.Cover3
import Derived.Deep.CutRange
import Derived.Great.BuildSlice
import Derived.Laws.CopyRow
import Derived.Laws.CopyOwn
import Derived.Deep.MidRow
/- A block is taken in. -/
namespace Go.Proofs.YtbpjdfnnlmblaaaGreatDoor
open Go.RowKit
set_option linter.unusedSimpArgs false
set_option linter.unusedVariables false
/-- a hash value as words -/
def hs (s : HS) : List UInt32 := [s.a, s.b, s.c, s.d, s.e, s.f, s.g, s.h]
theorem hs_len (s : HS) : (hs s).length = 8 := rfl
/-- four words in memory -/
abbrev q4 (a b c d : UInt32) : Array Value := #[.int .u32 (W32 a), .int .u32 (W32 b), .int .u32 (W32 c), .int .u32 (W32 d)]
/-- the constants stand in memory -/
def KAt (w : World) : Prop := ∃ t, w.heap[1]? = some (.cells (row KK) t (0, 0))
theorem KAt.lt {w : World} (h : KAt w) : 1 < w.heap.size := by obtain ⟨t, h⟩ := h; exact (Array.getElem?_eq_some_iff.1 h).1
theorem rnds_zero (w : List UInt32) (s : HS) : rnds w s 0 = s := rfl
theorem rnds_succ (w : List UInt32) (s : HS) (t : Nat) : rnds w s (t + 1) = rnd (wd KK t) (wd w t) (rnds w s t) := rfl
theorem KK_len : KK.length = 64 := rfl
theorem row_hs (s : HS) : row (hs s) = #[.int .u32 (W32 s.a), .int .u32 (W32 s.b), .int .u32 (W32 s.c), .int .u32 (W32 s.d), .int .u32 (W32 s.e), .int .u32 (W32 s.f), .int .u32 (W32 s.g), .int .u32 (W32 s.h)] := rfl
@[go_sem] theorem arr4 (a : Option Addr) (len cap : Nat) (w : World) (h : 4 ≤ len) : (Instr.arrayAt 152 (.slice a len cap)).run Tryz.prog w = .ok (.pointer a) w := by simp [Instr.arrayAt, run_underlying Tryz.underlying152, Nat.not_lt.2 h]
def hrow (s : HS) : Array Value := #[.int .u32 (W32 s.a), .int .u32 (W32 s.b), .int .u32 (W32 s.c), .int .u32 (W32 s.d), .int .u32 (W32 s.e), .int .u32 (W32 s.f), .int .u32 (W32 s.g), .int .u32 (W32 s.h)]
theorem block_facts (s : HS) (w w1 : World) {Z : Obj} (h : Below ((w.alloc (.cells (hrow s) 117)).alloc Z).heap.size ((w.alloc (.cells (hrow s) 117)).alloc Z) w1) :
    w.heap.size + 2 ≤ w1.heap.size ∧ w1.heap[w.heap.size]? = some (.cells (hrow s) 117) ∧ (∀ i u, (hrow s)[i]? = some u → w1.cell? ⟨w.heap.size, i, none⟩ = some u) := by
  have hs := h.size
  simp only [World.size_alloc] at hs
  have hb : w1.heap[w.heap.size]? = some (.cells (hrow s) 117) := by
    rw [h.block _ (by simp only [World.size_alloc]; omega)]
    exact heap2_first w _ _ 0
  refine ⟨by omega, hb, fun i u hu => ?_⟩
  unfold World.cell?
  simp [hb, hu]
/-- what lies in memory in a round: the hash value that came in (or its sum), the schedule, the two halves -/
structure CW (w : World) (l : List UInt32) (b : List UInt8) (gt gv ge : Nat) (v : HS) (wr : World) : Prop where
  kk : KAt wr
  ll : wr.heap[w.heap.size]? = some (.cells (row l) 117)
  rr : ∃ z, wr.heap[w.heap.size + 1]? = some (.cells z 117) ∧ z.size = 8
  tt : wr.heap[gt]? = some (.cells (row (sch b 64)) 146)
  vv : wr.heap[gv]? = some (.cells (q4 v.a v.b v.c v.d) 152)
  ee : wr.heap[ge]? = some (.cells (q4 v.e v.f v.g v.h) 152)
  ht : w.heap.size + 1 < gt
  hv : gt < gv
  he : gt < ge
  hn : gv ≠ ge
  below : Below w.heap.size w wr
  h0 : 1 < w.heap.size
theorem CW.drew {w wr : World} {l b gt gv ge v} (h : CW w l b gt gv ge v wr) (n : Nat) : CW w l b gt gv ge v (wr.drewN n) :=
  ⟨h.kk, h.ll, h.rr, h.tt, h.vv, h.ee, h.ht, h.hv, h.he, h.hn, below_drewN n h.below, h.h0⟩
/-- behind the two halves' making, in either order -/
theorem cw_start (s : HS) (b : List UInt8) (w w1 : World) (hK : KAt w) {Z : Array Value} (hZ : Z.size = 8)
    (h : Below ((w.alloc (.cells (hrow s) 117)).alloc (.cells Z 117)).heap.size ((w.alloc (.cells (hrow s) 117)).alloc (.cells Z 117)) w1) (wr : World)
    (hb : Below w1.heap.size w1 wr) (gv ge : Nat) (ht : wr.heap[w1.heap.size]? = some (.cells (row (sch b 64)) 146))
    (hv : wr.heap[gv]? = some (.cells (q4 s.a s.b s.c s.d) 152)) (he : wr.heap[ge]? = some (.cells (q4 s.e s.f s.g s.h) 152))
    (g1 : w1.heap.size < gv) (g2 : w1.heap.size < ge) (hn : gv ≠ ge) : CW w (hs s) b w1.heap.size gv ge s wr := by
  have hs1 := h.size
  simp only [World.size_alloc] at hs1
  have hk1 : 1 < w.heap.size := hK.lt
  have hA : Below w.heap.size w ((w.alloc (.cells (hrow s) 117)).alloc (.cells Z 117)) := ((Below.refl _ _).alloc (Nat.le_refl _) _).alloc (by simp) _
  have hW : Below w.heap.size w w1 := hA.trans (h.mono (by simp only [World.size_alloc]; omega))
  refine ⟨?_, ?_, ⟨Z, ?_, hZ⟩, ht, hv, he, by omega, g1, g2, hn, hW.trans (hb.mono (by omega)), hk1⟩
  · unfold KAt; rw [hb.block 1 (by omega), hW.block 1 hk1]; exact hK
  · rw [hb.block _ (by omega), h.block _ (by simp only [World.size_alloc]; omega)]; exact heap2_first w _ _ 0
  · rw [hb.block _ (by omega), h.block _ (by simp only [World.size_alloc]; omega)]; exact heap2_second w _ _ 0
theorem heap3_0 (w : World) (A X Y : Obj) (n : Nat) : ((((w.alloc A).alloc X).alloc Y).drewN n).heap[w.heap.size]? = some A := by
  show (((w.alloc A).alloc X).alloc Y).heap[w.heap.size]? = some A
  rw [heap_past _ _ _ (by simp only [World.size_alloc]; omega), heap_past _ _ _ (by simp only [World.size_alloc]; omega), heap_last _ _ _ rfl]
theorem heap3_1 (w : World) (A X Y : Obj) (n : Nat) : ((((w.alloc A).alloc X).alloc Y).drewN n).heap[w.heap.size + 1]? = some X := by
  show (((w.alloc A).alloc X).alloc Y).heap[w.heap.size + 1]? = some X
  rw [heap_past _ _ _ (by simp only [World.size_alloc]; omega), heap_last _ _ _ (by simp only [World.size_alloc])]
theorem heap3_2 (w : World) (A X Y : Obj) (n : Nat) : ((((w.alloc A).alloc X).alloc Y).drewN n).heap[w.heap.size + 1 + 1]? = some Y := by
  show (((w.alloc A).alloc X).alloc Y).heap[w.heap.size + 1 + 1]? = some Y
  rw [heap_last _ _ _ (by simp only [World.size_alloc])]
theorem below3 (w : World) (A X Y : Obj) (n : Nat) : Below w.heap.size w ((((w.alloc A).alloc X).alloc Y).drewN n) :=
  below_drewN n ((((Below.refl _ _).alloc (Nat.le_refl _) _).alloc (by simp only [World.size_alloc]; omega) _).alloc (by simp only [World.size_alloc]; omega) _)
theorem CW.cells {w wr : World} {l b gt gv ge v} (h : CW w l b gt gv ge v wr) :
    (wr.cell? ⟨gv, 0, none⟩ = some (.int .u32 (W32 v.a)) ∧ wr.cell? ⟨gv, 1, none⟩ = some (.int .u32 (W32 v.b)) ∧ wr.cell? ⟨gv, 2, none⟩ = some (.int .u32 (W32 v.c)) ∧ wr.cell? ⟨gv, 3, none⟩ = some (.int .u32 (W32 v.d))) ∧
    (wr.cell? ⟨ge, 0, none⟩ = some (.int .u32 (W32 v.e)) ∧ wr.cell? ⟨ge, 1, none⟩ = some (.int .u32 (W32 v.f)) ∧ wr.cell? ⟨ge, 2, none⟩ = some (.int .u32 (W32 v.g)) ∧ wr.cell? ⟨ge, 3, none⟩ = some (.int .u32 (W32 v.h))) := by
  have h1 := h.vv
  have h2 := h.ee
  refine ⟨⟨?_, ?_, ?_, ?_⟩, ⟨?_, ?_, ?_, ?_⟩⟩ <;> (unfold World.cell?; simp [h1, h2])
theorem CW.word {w wr : World} {l b gt gv ge v} (h : CW w l b gt gv ge v wr) (t : Nat) (ht : t < 64) : wr.cell? ⟨gt, t, none⟩ = some (.int .u32 (W32 (w16 (sch b 64) t))) := by
  have h1 := h.tt
  have h2 := row_get (sch b 64) t (by rw [sch_len]; exact ht)
  unfold World.cell?; simp [h1, h2]
theorem size22 : (Tryz.prog.info? 88).map (·.size) = some 1 := by kernel_rfl
theorem idx_64 (s : List UInt32) (hs : s.length = 64) (k : Nat) (hk : k < 64) (w : World) : (Instr.index 146 (.agg (row s)) (.int .i64 k)).run Tryz.prog w = .ok (.int .u32 (W32 (w16 s k))) w := by
  have hz : (sizeOf 88).run Tryz.prog w = .ok 1 w := by
    cases hq : Tryz.prog.info? 88 with
    | none => have := size22; rw [hq] at this; cases this
    | some i => have h1 := size22; rw [hq] at h1; simp at h1; simp [sizeOf, typeInfo, hq, h1]
  have h1 : (k : Int) < 64 := by omega
  have h2 : k < s.length := by omega
  simp [Instr.index, go_sem, hz, h1, h2]
  intro h3; omega
@[go_sem] theorem u32_not (x : UInt32) : bits .xor .u32 IntKind.u32.max (W32 x) = W32 (~~~x) := by
  have e : IntKind.u32.max = W32 4294967295 := rfl
  rw [e, u32_xor_u32]
  congr 1
theorem add4 (a b c d : UInt32) : (W32 a + W32 b + W32 c + W32 d) % 4294967296 = W32 (a + b + c + d) := by
  unfold W32
  simp only [UInt32.toNat_add]
  omega
theorem info4 : (Tryz.prog.info? 152).map (·.size) = some 4 := by kernel_rfl
theorem below_row {w : World} {g B : Nat} {cs : Array Value} (h : B ≤ g) : Below B w (w.setRow g cs) :=
  ⟨rfl, rfl, rfl, by simp [World.setRow], fun k hk => by
    unfold World.setRow
    rw [Array.getElem?_modify]
    have : ¬ g = k := by omega
    simp [this]⟩
theorem setRow_else (w : World) (g : Nat) (cs : Array Value) (k : Nat) (h : k ≠ g) : (w.setRow g cs).heap[k]? = w.heap[k]? := by
  unfold World.setRow
  rw [Array.getElem?_modify, if_neg (fun e => h e.symm)]
/-- a whole row is stored; all other blocks are as they were -/
theorem st_T {T : TypeId} (cs : Array Value) (hinf : (Tryz.prog.info? T).map (·.size) = some cs.size) {ops : Array Oper} {rest : List Oper} {o : Oper} {a : Act} {w : World} {Q : Exit → Act → World → Prop} (hgd : o.guard = none) (x y : Operand) (ho : o.op = .store T x y)
    (g : Nat) (c0 : Array Value) (hx : a.eval x = .pointer (some ⟨g, 0, none⟩)) (hy : a.eval y = .agg cs) (hone : (cs.all fun u => u.oneCell') = true) (hsz : c0.size = cs.size)
    (hg : w.heap[g]? = some (.cells c0 T (0, 0)))
    (h : ∀ w', w'.heap[g]? = some (.cells cs T (0, 0)) → (∀ k, k ≠ g → w'.heap[k]? = w.heap[k]?) → (∀ B, B ≤ g → Below B w w') → wpList Tryz.prog ops Q rest (a.put o.dst undef) w') : wpList Tryz.prog ops Q (o :: rest) a w :=
  wpList_store_row hgd _ x y ho g cs hx hy _ _ hg hinf hsz hone (h _ (setRow_heap _ _ _ _ _ _ hg) (fun k hk => setRow_else _ _ _ _ hk) (fun B hB => below_row hB))
theorem one_q4 (a b c d : UInt32) : ((q4 a b c d).all fun u => u.oneCell') = true := by
  have h : ∀ x, (Value.int .u32 x).oneCell' = true := fun _ => rfl
  simp [q4, h]
theorem CW.setE {w wr w' : World} {l b gt gv ge v} (h : CW w l b gt gv ge v wr) {e f g k : UInt32} (hg : w'.heap[ge]? = some (.cells (q4 e f g k) 152 (0, 0))) (ho : ∀ k, k ≠ ge → w'.heap[k]? = wr.heap[k]?) (hb : ∀ B, B ≤ ge → Below B wr w') :
    CW w l b gt gv ge ⟨v.a, v.b, v.c, v.d, e, f, g, k⟩ w' := by
  have h1 := h.ht
  have h2 := h.he
  have h3 := h.hv
  have h4 := h.hn
  exact ⟨by unfold KAt; rw [ho 1 (by omega)]; exact h.kk, by rw [ho _ (by omega)]; exact h.ll, by rw [ho _ (by omega)]; exact h.rr, by rw [ho _ (by omega)]; exact h.tt, by rw [ho _ h4]; exact h.vv, hg, h1, h3, h2, h4, h.below.trans (hb _ (by omega)), h.h0⟩
theorem CW.setV {w wr w' : World} {l b gt gv ge v} (h : CW w l b gt gv ge v wr) {e f g k : UInt32} (hg : w'.heap[gv]? = some (.cells (q4 e f g k) 152 (0, 0))) (ho : ∀ k, k ≠ gv → w'.heap[k]? = wr.heap[k]?) (hb : ∀ B, B ≤ gv → Below B wr w') :
    CW w l b gt gv ge ⟨e, f, g, k, v.e, v.f, v.g, v.h⟩ w' := by
  have h1 := h.ht
  have h2 := h.he
  have h3 := h.hv
  have h4 := h.hn
  exact ⟨by unfold KAt; rw [ho 1 (by omega)]; exact h.kk, by rw [ho _ (by omega)]; exact h.ll, by rw [ho _ (by omega)]; exact h.rr, by rw [ho _ (by omega)]; exact h.tt, hg, by rw [ho _ (fun e => h4 e.symm)]; exact h.ee, h1, h3, h2, h4, h.below.trans (hb _ (by omega)), h.h0⟩
theorem setCell_rowC (w : World) (g i : Nat) (cs : Array Value) (T : TypeId) (fr : Nat × Nat) (v : Value) (h : w.heap[g]? = some (.cells cs T fr)) : w.setCell ⟨g, i, none⟩ v = w.setRow g (cs.setIfInBounds i v) := by
  unfold World.setCell World.setRow
  simp only [World.mk.injEq, and_true]
  apply Array.ext_getElem?
  intro j
  simp only [Array.getElem?_modify]
  by_cases h' : g = j
  · subst h'
    simp [h]
  · simp [h']
/-- one word of the hash value is stored -/
theorem CW.setL {w wr : World} {l b gt gv ge v} (h : CW w l b gt gv ge v wr) (i : Nat) (hi : i < l.length) (x : UInt32) : CW w (l.set i x) b gt gv ge v (wr.setCell ⟨w.heap.size, i, none⟩ (.int .u32 (W32 x))) := by
  have h1 := h.ht
  have h2 := h.he
  have h3 := h.hv
  have h4 := h.hn
  have hk : 1 < w.heap.size ∨ w.heap.size ≤ 1 := by omega
  rw [setCell_rowC _ _ _ _ _ _ _ h.ll, row_set]
  refine ⟨?_, setRow_heap _ _ _ _ _ _ h.ll, by rw [setRow_else _ _ _ _ (by omega)]; exact h.rr, by rw [setRow_else _ _ _ _ (by omega)]; exact h.tt, by rw [setRow_else _ _ _ _ (by omega)]; exact h.vv, by rw [setRow_else _ _ _ _ (by omega)]; exact h.ee, h1, h3, h2, h4, h.below.trans (below_row (Nat.le_refl _)), h.h0⟩
  have h0 := h.h0
  unfold KAt
  rw [setRow_else _ _ _ _ (by omega)]
  exact h.kk
theorem CW.lcell {w wr : World} {l b gt gv ge v} (h : CW w l b gt gv ge v wr) (i : Nat) (hi : i < l.length) : wr.cell? ⟨w.heap.size, i, none⟩ = some (.int .u32 (W32 (w16 l i))) := by
  have h1 := h.ll
  have h2 := row_get l i hi
  unfold World.cell?; simp [h1, h2]
theorem CW.lfree {w wr : World} {l b gt gv ge v} (h : CW w l b gt gv ge v wr) (i : Nat) : wr.frozen? ⟨w.heap.size, i, none⟩ = false := frozen_of_row _ _ i _ _ h.ll
/-- the sums, i of each half -/
def addL (s v : HS) : Nat → List UInt32
  | 0 => [s.a, s.b, s.c, s.d, s.e, s.f, s.g, s.h]
  | 1 => [s.a + v.a, s.b, s.c, s.d, s.e + v.e, s.f, s.g, s.h]
  | 2 => [s.a + v.a, s.b + v.b, s.c, s.d, s.e + v.e, s.f + v.f, s.g, s.h]
  | 3 => [s.a + v.a, s.b + v.b, s.c + v.c, s.d, s.e + v.e, s.f + v.f, s.g + v.g, s.h]
  | _ => [s.a + v.a, s.b + v.b, s.c + v.c, s.d + v.d, s.e + v.e, s.f + v.f, s.g + v.g, s.h + v.h]
theorem addL_len (s v : HS) (i : Nat) : (addL s v i).length = 8 := by
  unfold addL; split <;> rfl
theorem size8 (l : List UInt32) (h : l.length = 8) : (Tryz.prog.info? 117).map (·.size) = some (row l).size := by rw [row_size, h]; kernel_rfl
attribute [local irreducible] Calls sch rnds cmpr row KK z64
set_option maxRecDepth 100000 in
set_option maxHeartbeats 2000000 in
theorem compress_c (s : HS) (v : Value) (b : List UInt8) (w : World) (hv : RdE eB w v b) (hb : b.length = 64) (hk : KAt w) :
    Calls Tryz.prog 115 #[.agg (row (hs s)), v] w fun e w' => e = .returned (.agg (row (hs (cmpr s b)))) ∧ Below w.heap.size w w' := by
  have HV := Lib.hid hv
  have HK := Lib.hid hk
  clear hv hk
  rw [row_hs s]
  have hz := zero_64
  have hsl := sch_len b 64
  go_enter Tryz.func115, Tryz.ntmps115
  go_wp2_with (first
    | (go_at_call 125; refine (schedule_c v b _ ((HV.out.alloc _).alloc _) hb).mono ?_; rintro e w1 ⟨rfl, hB⟩; have HB := Lib.hid hB; clear hB)
    | (refine st_64 rfl (.tmp 5) (.tmp 14) rfl _ _ rfl rfl 146 _ (heap_alloc_new _ _) (by rw [row_size]; exact z64_len) hsl ?_))
  rw [setRow_alloc_last _ _ _ _ _ rfl]
  obtain ⟨hsz, hblk, hcell⟩ := block_facts s w w1 HB.out
  have c0 : w1.cell? ⟨w.heap.size, 0, none⟩ = some (.int .u32 (W32 s.a)) := hcell 0 _ rfl
  have c1 : w1.cell? ⟨w.heap.size, 1, none⟩ = some (.int .u32 (W32 s.b)) := hcell 1 _ rfl
  have c2 : w1.cell? ⟨w.heap.size, 2, none⟩ = some (.int .u32 (W32 s.c)) := hcell 2 _ rfl
  have c3 : w1.cell? ⟨w.heap.size, 3, none⟩ = some (.int .u32 (W32 s.d)) := hcell 3 _ rfl
  have c4 : w1.cell? ⟨w.heap.size, 4, none⟩ = some (.int .u32 (W32 s.e)) := hcell 4 _ rfl
  have c5 : w1.cell? ⟨w.heap.size, 5, none⟩ = some (.int .u32 (W32 s.f)) := hcell 5 _ rfl
  have c6 : w1.cell? ⟨w.heap.size, 6, none⟩ = some (.int .u32 (W32 s.g)) := hcell 6 _ rfl
  have c7 : w1.cell? ⟨w.heap.size, 7, none⟩ = some (.int .u32 (W32 s.h)) := hcell 7 _ rfl
  clear hz
  have hlt0 : w.heap.size < w1.heap.size := by omega
  have hlt1 : w.heap.size < w1.heap.size + 1 := by omega
  have hlt2 : w.heap.size < w1.heap.size + 2 := by omega
  have hlt3 : w.heap.size < w1.heap.size + 1 + 1 := by omega
  simp only [Act.put]
  go_cut [6, 7] from 15 to 20 (fun o p wx => ∃ gv ge : Nat, o = .pointer (some ⟨gv, 0, none⟩) ∧ p = .pointer (some ⟨ge, 0, none⟩) ∧ CW w (hs s) b w1.heap.size gv ge s wx)
  case first =>
    go_region
    all_goals (go_wp2; go_meet)
    case rel => first
      | exact ⟨_, _, rfl, rfl, cw_start s b w w1 HK.out rfl HB.out _ (below3 w1 _ _ _ 1) _ _ (heap3_0 w1 _ _ _ 1) (heap3_1 w1 _ _ _ 1) (heap3_2 w1 _ _ _ 1) (by omega) (by omega) (by omega)⟩
      | exact ⟨_, _, rfl, rfl, cw_start s b w w1 HK.out rfl HB.out _ (below3 w1 _ _ _ 1) _ _ (heap3_0 w1 _ _ _ 1) (heap3_2 w1 _ _ _ 1) (heap3_1 w1 _ _ _ 1) (by omega) (by omega) (by omega)⟩
    case rel => first
      | exact ⟨_, _, rfl, rfl, cw_start s b w w1 HK.out rfl HB.out _ (below3 w1 _ _ _ 1) _ _ (heap3_0 w1 _ _ _ 1) (heap3_1 w1 _ _ _ 1) (heap3_2 w1 _ _ _ 1) (by omega) (by omega) (by omega)⟩
      | exact ⟨_, _, rfl, rfl, cw_start s b w w1 HK.out rfl HB.out _ (below3 w1 _ _ _ 1) _ _ (heap3_0 w1 _ _ _ 1) (heap3_2 w1 _ _ _ 1) (heap3_1 w1 _ _ _ 1) (by omega) (by omega) (by omega)⟩
  case rest =>
    obtain ⟨gv, ge, rfl, rfl, hcw⟩ := hcut
    have HCW := Lib.hid hcw
    clear hcw c0 c1 c2 c3 c4 c5 c6 c7 hlt0 hlt1 hlt2 hlt3 hblk hcell
    obtain ⟨tk, hkk⟩ := HCW.out.kk
    have HKK := Lib.hid hkk
    clear hkk
    go_wp2_with (refine ld_64 rfl (.global 1) rfl _ rfl _ tk HKK.out KK_len ?_)
    have m1 : ∀ (x : UInt32) (w : World), Calls Tryz.prog 126 #[.int .u32 (W32 x), .int .i64 6, .int .i64 11, .int .i64 25] w fun e w' => e = .returned (.int .u32 (W32 (mix3 x 6 11 25))) ∧ ∃ n, w' = w.drewN n := fun x w => (mix_c x 6 11 25 (by omega) (by omega) (by omega) (by omega) (by omega) (by omega) w).mono fun _ _ h => ⟨h.1, 0, h.2⟩
    have m2 : ∀ (x : UInt32) (w : World), Calls Tryz.prog 126 #[.int .u32 (W32 x), .int .i64 2, .int .i64 13, .int .i64 22] w fun e w' => e = .returned (.int .u32 (W32 (mix3 x 2 13 22))) ∧ ∃ n, w' = w.drewN n := fun x w => (mix_c x 2 13 22 (by omega) (by omega) (by omega) (by omega) (by omega) (by omega) w).mono fun _ _ h => ⟨h.1, 0, h.2⟩
    go_loopw [22] (fun i wr => ∃ t : Nat, t ≤ 64 ∧ i = .int .i64 t ∧ Hid (CW w (hs s) b w1.heap.size gv ge (rnds (sch b 64) s t) wr)) (fun i _ => 64 - (intOf i).toNat)
    case atStart => exact ⟨0, by omega, rfl, by rw [rnds_zero]; exact HCW⟩
    case round =>
      obtain ⟨t, ht, rfl, hcw⟩ := hrel
      by_cases hlt : t < 64
      · have hd : decide ((t : Int) < 64) = true := by simp; omega
        have hkl : t < KK.length := by rw [KK_len]; exact hlt
        have hix := idx_64 KK KK_len t hlt
        have hti : (t : Int) < 64 := by omega
        obtain ⟨⟨v0, v1, v2, v3⟩, ⟨e0, e1, e2, e3⟩⟩ := hcw.out.cells
        have ct := hcw.out.word t hlt
        have hee := hcw.out.ee
        generalize hst : rnds (sch b 64) s t = st at hcw v0 v1 v2 v3 e0 e1 e2 e3
        have HST := Lib.hid hst
        have HLT := Lib.hid hlt
        clear hst hee
        go_upto_region 6 with fail
        go_cut [10] from 23 to 93 (fun x wc => x = .int .u32 (W32 (rndX (wd KK t) (wd (sch b 64) t) st)) ∧ ∃ n, wc = wr.drewN n)
        case first =>
          go_quiet ((go_at_call 126; exact Calls.quiet_of (m1 _ _)))
          all_goals (go_wp2; go_meet)
          exact ⟨by rw [add4]; rfl, _, rfl⟩
        case rest =>
          obtain ⟨rfl, n1, hw⟩ := hcut
          have H1 : Hid (CW w (hs s) b w1.heap.size gv ge st wc) := Lib.hid (by rw [hw]; exact hcw.out.drew n1)
          clear hw hcw v0 v1 v2 v3 e0 e1 e2 e3 ct
          obtain ⟨X, hX⟩ : ∃ X, X = rndX (wd KK t) (wd (sch b 64) t) st := ⟨_, rfl⟩
          have HX := Lib.hid hX
          rw [← hX]
          clear hX
          obtain ⟨⟨v0, v1, v2, v3⟩, ⟨e0, e1, e2, e3⟩⟩ := H1.out.cells
          go_upto_region 7 with fail
          go_cut [11] from 23 to 93 (fun y wf => y = .int .u32 (W32 (rndY st)) ∧ ∃ n, wf = wc.drewN n)
          case first =>
            first | refine allD (by kernel_rfl) (by kernel_rfl) ?_ | refine all0 (by kernel_rfl) (by kernel_rfl) ?_
            repeat (quiet_step ((go_at_call 126; exact Calls.quiet_of (m2 _ _))))
            refine wpQuiet_nil ?_
            rintro _ ⟨nq2, rfl⟩
            all_goals (go_wp2; go_meet)
            exact ⟨rfl, _, rfl⟩
          case rest =>
            obtain ⟨rfl, n2, hw⟩ := hcut
            have H2 := Lib.hid (H1.out.drew n2)
            rw [← hw] at H2
            clear hw v0 v1 v2 v3 e0 e1 e2 e3
            obtain ⟨Y, hY⟩ : ∃ Y, Y = rndY st := ⟨_, rfl⟩
            have HY := Lib.hid hY
            rw [← hY]
            clear hY
            obtain ⟨⟨v0, v1, v2, v3⟩, ⟨e0, e1, e2, e3⟩⟩ := H2.out.cells
            go_wp2_with (first
              | (refine st_T (T := 152) (q4 (st.d + X) st.e st.f st.g) info4 rfl (.tmp 7) (.tmp 82) rfl ge (q4 st.e st.f st.g st.h) rfl rfl (one_q4 _ _ _ _) rfl H2.out.ee ?_; intro wa hga hoa hba; have H3 := Lib.hid (H2.out.setE hga hoa hba); clear hga hoa hba v0 v1 v2 v3 e0 e1 e2 e3; obtain ⟨⟨v0, v1, v2, v3⟩, ⟨e0, e1, e2, e3⟩⟩ := H3.out.cells)
              | (refine st_T (T := 152) (q4 (X + Y) st.a st.b st.c) info4 rfl (.tmp 6) (.tmp 92) rfl gv (q4 st.a st.b st.c st.d) rfl rfl (one_q4 _ _ _ _) rfl H3.out.vv ?_; intro wb hgb hob hbb; have H4 := Lib.hid (H3.out.setV hgb hob hbb); clear hgb hob hbb v0 v1 v2 v3 e0 e1 e2 e3))
            go_roundw
            case rel => exact ⟨t + 1, by have := HLT.out; omega, by go_num, Lib.hid (by rw [rnds_succ, HST.out]; unfold rnd; rw [← HX.out, ← HY.out]; exact H4.out)⟩
            case measure => have := HLT.out; simp [intOf]; omega
      · have he : t = 64 := by omega
        subst he
        obtain ⟨vz, hvz⟩ : ∃ vz, vz = rnds (sch b 64) s 64 := ⟨_, rfl⟩
        have HVZ := Lib.hid hvz
        rw [← hvz] at hcw
        clear hvz hlt ht
        go_wp2
        go_loopw [94] (fun o wr => ∃ i : Nat, i ≤ 4 ∧ o = .int .i64 i ∧ Hid (CW w (addL s vz i) b w1.heap.size gv ge vz wr)) (fun o _ => 4 - (intOf o).toNat)
        case atStart => exact ⟨0, by omega, rfl, hcw⟩
        case round =>
          obtain ⟨i, hi, rfl, H⟩ := hrel
          clear hcw
          rcases (by omega : i = 0 ∨ i = 1 ∨ i = 2 ∨ i = 3 ∨ i = 4) with rfl | rfl | rfl | rfl | rfl
          · have l0 : wr.cell? ⟨w.heap.size, 0, none⟩ = some (.int .u32 (W32 s.a)) := H.out.lcell 0 (by rw [addL_len]; decide)
            have f0 := H.out.lfree 0
            obtain ⟨⟨v0, v1, v2, v3⟩, ⟨e0, e1, e2, e3⟩⟩ := H.out.cells
            go_upto_region 14 with fail
            go_cut [12] from 95 to 114 (fun u wc => u = .int .i64 0 ∧ CW w ((addL s vz 0).set 0 (s.a + vz.a)) b w1.heap.size gv ge vz wc)
            case first =>
              first | refine tailD 8 (by kernel_rfl) (by kernel_rfl) ?_ | refine tail0 8 (by kernel_rfl) (by kernel_rfl) ?_
              simp only [List.take_succ_cons, List.take_zero, List.drop_succ_cons, List.drop_zero]
              repeat (go_big_quiet_step (fail))
              refine wpQuiet_nil ?_
              rintro _ ⟨nq, rfl⟩
              all_goals (go_wp2; go_meet)
              exact ⟨rfl, (H.out.drew nq).setL 0 (by rw [addL_len]; decide) _⟩
            case rest =>
              obtain ⟨rfl, hc⟩ := hcut
              have H2 := Lib.hid hc
              clear hc l0 f0 v0 v1 v2 v3 e0 e1 e2 e3
              have l4 : wc.cell? ⟨w.heap.size, 4, none⟩ = some (.int .u32 (W32 s.e)) := H2.out.lcell 4 (by rw [List.length_set, addL_len]; decide)
              have f4 := H2.out.lfree 4
              obtain ⟨⟨v0, v1, v2, v3⟩, ⟨e0, e1, e2, e3⟩⟩ := H2.out.cells
              go_wp2
              first | refine tailD 9 (by kernel_rfl) (by kernel_rfl) ?_ | refine tail0 9 (by kernel_rfl) (by kernel_rfl) ?_
              simp only [List.take_succ_cons, List.take_zero, List.drop_succ_cons, List.drop_zero]
              repeat (go_big_quiet_step (fail))
              refine wpQuiet_nil ?_
              rintro _ ⟨nq, rfl⟩
              go_wp2
              go_roundw
              case rel => exact ⟨1, by decide, by go_num, Lib.hid ((H2.out.drew nq).setL 4 (by rw [List.length_set, addL_len]; decide) (s.e + vz.e))⟩
              case measure => simp [intOf]
          · have l0 : wr.cell? ⟨w.heap.size, 1, none⟩ = some (.int .u32 (W32 s.b)) := H.out.lcell 1 (by rw [addL_len]; decide)
            have f0 := H.out.lfree 1
            obtain ⟨⟨v0, v1, v2, v3⟩, ⟨e0, e1, e2, e3⟩⟩ := H.out.cells
            go_upto_region 14 with fail
            go_cut [12] from 95 to 114 (fun u wc => u = .int .i64 1 ∧ CW w ((addL s vz 1).set 1 (s.b + vz.b)) b w1.heap.size gv ge vz wc)
            case first =>
              first | refine tailD 8 (by kernel_rfl) (by kernel_rfl) ?_ | refine tail0 8 (by kernel_rfl) (by kernel_rfl) ?_
              simp only [List.take_succ_cons, List.take_zero, List.drop_succ_cons, List.drop_zero]
              repeat (go_big_quiet_step (fail))
              refine wpQuiet_nil ?_
              rintro _ ⟨nq, rfl⟩
              all_goals (go_wp2; go_meet)
              exact ⟨rfl, (H.out.drew nq).setL 1 (by rw [addL_len]; decide) _⟩
            case rest =>
              obtain ⟨rfl, hc⟩ := hcut
              have H2 := Lib.hid hc
              clear hc l0 f0 v0 v1 v2 v3 e0 e1 e2 e3
              have l4 : wc.cell? ⟨w.heap.size, 5, none⟩ = some (.int .u32 (W32 s.f)) := H2.out.lcell 5 (by rw [List.length_set, addL_len]; decide)
              have f4 := H2.out.lfree 5
              obtain ⟨⟨v0, v1, v2, v3⟩, ⟨e0, e1, e2, e3⟩⟩ := H2.out.cells
              go_wp2
              first | refine tailD 9 (by kernel_rfl) (by kernel_rfl) ?_ | refine tail0 9 (by kernel_rfl) (by kernel_rfl) ?_
              simp only [List.take_succ_cons, List.take_zero, List.drop_succ_cons, List.drop_zero]
              repeat (go_big_quiet_step (fail))
              refine wpQuiet_nil ?_
              rintro _ ⟨nq, rfl⟩
              go_wp2
              go_roundw
              case rel => exact ⟨2, by decide, by go_num, Lib.hid ((H2.out.drew nq).setL 5 (by rw [List.length_set, addL_len]; decide) (s.f + vz.f))⟩
              case measure => simp [intOf]
          · have l0 : wr.cell? ⟨w.heap.size, 2, none⟩ = some (.int .u32 (W32 s.c)) := H.out.lcell 2 (by rw [addL_len]; decide)
            have f0 := H.out.lfree 2
            obtain ⟨⟨v0, v1, v2, v3⟩, ⟨e0, e1, e2, e3⟩⟩ := H.out.cells
            go_upto_region 14 with fail
            go_cut [12] from 95 to 114 (fun u wc => u = .int .i64 2 ∧ CW w ((addL s vz 2).set 2 (s.c + vz.c)) b w1.heap.size gv ge vz wc)
            case first =>
              first | refine tailD 8 (by kernel_rfl) (by kernel_rfl) ?_ | refine tail0 8 (by kernel_rfl) (by kernel_rfl) ?_
              simp only [List.take_succ_cons, List.take_zero, List.drop_succ_cons, List.drop_zero]
              repeat (go_big_quiet_step (fail))
              refine wpQuiet_nil ?_
              rintro _ ⟨nq, rfl⟩
              all_goals (go_wp2; go_meet)
              exact ⟨rfl, (H.out.drew nq).setL 2 (by rw [addL_len]; decide) _⟩
            case rest =>
              obtain ⟨rfl, hc⟩ := hcut
              have H2 := Lib.hid hc
              clear hc l0 f0 v0 v1 v2 v3 e0 e1 e2 e3
              have l4 : wc.cell? ⟨w.heap.size, 6, none⟩ = some (.int .u32 (W32 s.g)) := H2.out.lcell 6 (by rw [List.length_set, addL_len]; decide)
              have f4 := H2.out.lfree 6
              obtain ⟨⟨v0, v1, v2, v3⟩, ⟨e0, e1, e2, e3⟩⟩ := H2.out.cells
              go_wp2
              first | refine tailD 9 (by kernel_rfl) (by kernel_rfl) ?_ | refine tail0 9 (by kernel_rfl) (by kernel_rfl) ?_
              simp only [List.take_succ_cons, List.take_zero, List.drop_succ_cons, List.drop_zero]
              repeat (go_big_quiet_step (fail))
              refine wpQuiet_nil ?_
              rintro _ ⟨nq, rfl⟩
              go_wp2
              go_roundw
              case rel => exact ⟨3, by decide, by go_num, Lib.hid ((H2.out.drew nq).setL 6 (by rw [List.length_set, addL_len]; decide) (s.g + vz.g))⟩
              case measure => simp [intOf]
          · have l0 : wr.cell? ⟨w.heap.size, 3, none⟩ = some (.int .u32 (W32 s.d)) := H.out.lcell 3 (by rw [addL_len]; decide)
            have f0 := H.out.lfree 3
            obtain ⟨⟨v0, v1, v2, v3⟩, ⟨e0, e1, e2, e3⟩⟩ := H.out.cells
            go_upto_region 14 with fail
            go_cut [12] from 95 to 114 (fun u wc => u = .int .i64 3 ∧ CW w ((addL s vz 3).set 3 (s.d + vz.d)) b w1.heap.size gv ge vz wc)
            case first =>
              first | refine tailD 8 (by kernel_rfl) (by kernel_rfl) ?_ | refine tail0 8 (by kernel_rfl) (by kernel_rfl) ?_
              simp only [List.take_succ_cons, List.take_zero, List.drop_succ_cons, List.drop_zero]
              repeat (go_big_quiet_step (fail))
              refine wpQuiet_nil ?_
              rintro _ ⟨nq, rfl⟩
              all_goals (go_wp2; go_meet)
              exact ⟨rfl, (H.out.drew nq).setL 3 (by rw [addL_len]; decide) _⟩
            case rest =>
              obtain ⟨rfl, hc⟩ := hcut
              have H2 := Lib.hid hc
              clear hc l0 f0 v0 v1 v2 v3 e0 e1 e2 e3
              have l4 : wc.cell? ⟨w.heap.size, 7, none⟩ = some (.int .u32 (W32 s.h)) := H2.out.lcell 7 (by rw [List.length_set, addL_len]; decide)
              have f4 := H2.out.lfree 7
              obtain ⟨⟨v0, v1, v2, v3⟩, ⟨e0, e1, e2, e3⟩⟩ := H2.out.cells
              go_wp2
              first | refine tailD 9 (by kernel_rfl) (by kernel_rfl) ?_ | refine tail0 9 (by kernel_rfl) (by kernel_rfl) ?_
              simp only [List.take_succ_cons, List.take_zero, List.drop_succ_cons, List.drop_zero]
              repeat (go_big_quiet_step (fail))
              refine wpQuiet_nil ?_
              rintro _ ⟨nq, rfl⟩
              go_wp2
              go_roundw
              case rel => exact ⟨4, by decide, by go_num, Lib.hid ((H2.out.drew nq).setL 7 (by rw [List.length_set, addL_len]; decide) (s.h + vz.h))⟩
              case measure => simp [intOf]
          · obtain ⟨z, hz1, hz2⟩ := H.out.rr
            have HZ := Lib.hid hz1
            clear hz1
            go_wp2_with (first
              | (refine wpList_load_row rfl 117 (.tmp 2) rfl w.heap.size rfl _ (row (addL s vz 4)) (0, 0) _ H.out.ll Tryz.underlying117 rfl (size8 _ (addL_len _ _ _)) ?_)
              | (refine st_T (T := 117) (row (addL s vz 4)) (size8 _ (addL_len _ _ _)) rfl (.tmp 4) (.tmp 115) rfl (w.heap.size + 1) z rfl rfl (row_one _) (by rw [hz2, row_size, addL_len]) HZ.out ?_; intro wb hgb hob hbb))
            (try simp only [Exit.inBlock, Exit.then])
            refine bodyPost_ret (v := .agg (row (addL s vz 4))) (results_cell_row rfl _ _ (w.heap.size + 1) _ _ (0, 0) _ rfl hgb Tryz.underlying117 rfl (size8 _ (addL_len _ _ _))) rfl ⟨?_, H.out.below.trans (hbb _ (by omega))⟩
            rw [show hs (cmpr s b) = addL s vz 4 from by unfold cmpr; rw [← HVZ.out]; rfl]
end Go.Proofs.YtbpjdfnnlmblaaaGreatDoor
/- A stream that is hashed: its cells; Begin. -/
namespace Go.Proofs.YtbpjdfnnlmblaaaGreatDoor
open Go.RowKit
set_option linter.unusedSimpArgs false
set_option linter.unusedVariables false
/-- the cells of a stream: the hash value, the last block, the length -/
def stc (s : HS) (bk : List UInt8) (n : Nat) : Array Value := ((hs s).map (fun x => Value.int .u32 (W32 x)) ++ bk.map (fun x => Value.int .u8 (B8 x)) ++ [Value.int .u64 n]).toArray
theorem stc_size (s : HS) (bk : List UInt8) (n : Nat) (h : bk.length = 64) : (stc s bk n).size = 73 := by simp [stc, hs_len, h]
theorem stc_one (s : HS) (bk : List UInt8) (n : Nat) : ((stc s bk n).all fun u => u.oneCell') = true := by
  have h1 : ∀ x : UInt32, (Value.int .u32 (W32 x)).oneCell' = true := fun _ => rfl
  have h2 : ∀ x : UInt8, (Value.int .u8 (B8 x)).oneCell' = true := fun _ => rfl
  have h3 : (Value.int .u64 n).oneCell' = true := rfl
  simp [stc, h1, h2, h3]
theorem stc_s (s : HS) (bk : List UInt8) (n i : Nat) (hi : i < 8) : (stc s bk n)[i]? = some (.int .u32 (W32 (w16 (hs s) i))) := by
  have h : i < (hs s).length := by rw [hs_len]; exact hi
  simp only [stc, List.getElem?_toArray, List.append_assoc]
  rw [List.getElem?_append_left (by simpa using h), List.getElem?_map, List.getElem?_eq_getElem h, Option.map_some]
  simp [w16, h]
theorem stc_b (s : HS) (bk : List UInt8) (n i : Nat) (hi : i < bk.length) : (stc s bk n)[8 + i]? = some (.int .u8 (B8 (byteAt bk i))) := by
  simp only [stc, List.getElem?_toArray, List.append_assoc]
  rw [List.getElem?_append_right (by simp [hs_len]), List.length_map, hs_len, Nat.add_sub_cancel_left, List.getElem?_append_left (by simpa using hi), List.getElem?_map, List.getElem?_eq_getElem hi, Option.map_some]
  simp [byteAt, hi]
theorem stc_n (s : HS) (bk : List UInt8) (n : Nat) (h : bk.length = 64) : (stc s bk n)[72]? = some (.int .u64 n) := by
  simp only [stc, List.getElem?_toArray, List.append_assoc]
  rw [List.getElem?_append_right (by simp [hs_len]), List.length_map, hs_len, List.getElem?_append_right (by simp [h]), List.length_map, h]
  rfl
def zb : List UInt8 := List.replicate 64 0
def z73 : HS := ⟨0, 0, 0, 0, 0, 0, 0, 0⟩
theorem zero_st' : (Tryz.prog.info? 120).map (·.zero) = some (some (.agg (stc z73 zb 0))) := by kernel_rfl
theorem zero_st (w : World) : (zeroValue 120).run Tryz.prog w = .ok (.agg (stc z73 zb 0)) w := by
  have h := zero_st'
  generalize stc z73 zb 0 = L at h ⊢
  cases hq : Tryz.prog.info? 120 with
  | none => rw [hq] at h; cases h
  | some i =>
    rw [hq] at h
    simp at h
    simp [zeroValue, typeInfo, hq, h]
theorem info73 : (Tryz.prog.info? 120).map (·.size) = some 73 := by kernel_rfl
theorem size73 (s : HS) (bk : List UInt8) (n : Nat) (h : bk.length = 64) : (Tryz.prog.info? 120).map (·.size) = some (stc s bk n).size := by rw [stc_size _ _ _ h]; exact info73
/-- bytes are laid into a block, round and round -/
def fillB : List UInt8 → Nat → List UInt8 → List UInt8
  | bk, _, [] => bk
  | bk, n, c :: t => fillB (bk.set (n % 64) c) (n + 1) t
/-- the last block of a stream whose message is M -/
def tailB (M : List UInt8) : List UInt8 := fillB zb 0 M
/-- the value of a stream whose message is M -/
def stv (M : List UInt8) : Value := .agg (stc (blks M (M.length / 64)) (tailB M) M.length)
/-- a stream whose message is M -/
def StV (M : List UInt8) (v : Value) : Prop :=
  ∃ bk : List UInt8, v = .agg (stc (blks M (M.length / 64)) bk M.length) ∧ bk.length = 64 ∧ bk.take (M.length % 64) = M.drop (64 * (M.length / 64)) ∧ bk = tailB M
theorem StV.eq {M : List UInt8} {v : Value} (h : StV M v) : v = stv M := by
  obtain ⟨bk, rfl, _, _, rfl⟩ := h
  rfl
theorem fillB_append (x y : List UInt8) (bk : List UInt8) (n : Nat) : fillB bk n (x ++ y) = fillB (fillB bk n x) (n + x.length) y := by
  induction x generalizing bk n with
  | nil => rfl
  | cons c x ih => rw [List.cons_append, fillB, fillB, ih, List.length_cons, show n + 1 + x.length = n + (x.length + 1) by omega]
theorem fillB_len (x : List UInt8) (bk : List UInt8) (n : Nat) : (fillB bk n x).length = bk.length := by
  induction x generalizing bk n with
  | nil => rfl
  | cons c x ih => rw [fillB, ih, List.length_set]
theorem tailB_len (M : List UInt8) : (tailB M).length = 64 := fillB_len _ _ _
theorem StV.nil : StV [] (.agg (stc iv zb 0)) := ⟨zb, rfl, rfl, rfl, rfl⟩
theorem res_st {fn : Func} {p : Tmp} (h : fn.results = #[.cell p 120]) (tmps : Array Value) (w : World) (g : Nat) (s : HS) (bk : List UInt8) (n : Nat) (hb : bk.length = 64)
    (hp : tmps.getD p undef = .pointer (some ⟨g, 0, none⟩)) (hg : w.heap[g]? = some (.cells (stc s bk n) 120 (0, 0))) : (results fn tmps).run Tryz.prog w = .ok (.agg (stc s bk n)) w :=
  results_cell_row h tmps w g _ (stc s bk n) (0, 0) _ hp hg Tryz.underlying120 rfl (size73 _ _ _ hb)
/-- a struct is built of one part -/
theorem bld_1 {ops : Array Oper} {rest : List Oper} {o : Oper} {a : Act} {w : World} {Q : Exit → Act → World → Prop} (T : TypeId) (i : Nat) (v : Value) (cs : Array Value) (hb : Tryz.prog.built T [(i, v)] = some cs) (hg : o.guard = none) (x : Operand) (ho : o.op = .build T #[(i, x)])
    (hx : a.eval x = v) (h : wpList Tryz.prog ops Q rest (a.put o.dst (.agg cs)) w) : wpList Tryz.prog ops Q (o :: rest) a w := by
  have e : (Tryz.prog.built T ((#[(i, x)] : Array (Nat × Operand)).map fun (i, x) => (i, a.eval x)).toList) = some cs := by
    simp only [List.map_toArray, List.map_cons, List.map_nil, hx]
    exact hb
  refine wpList_build hg T _ ho (by rw [e]; rfl) ?_
  rw [e]
  exact h
theorem built_iv : Tryz.prog.built 120 [(0, .agg #[.int .u32 1779033703, .int .u32 3144134277, .int .u32 1013904242, .int .u32 2773480762, .int .u32 1359893119, .int .u32 2600822924, .int .u32 528734635, .int .u32 1541459225])] = some (stc iv zb 0) := by kernel_rfl
attribute [local irreducible] Calls stc blks
set_option maxRecDepth 100000 in
set_option maxHeartbeats 2000000 in
theorem begin_c (w : World) : Calls Tryz.prog 97 #[] w fun e w' => e = .returned (.agg (stc iv zb 0)) ∧ Below w.heap.size w w' := by
  have hz := zero_st
  go_enter Tryz.func97, Tryz.ntmps97
  go_wp2_with (first
    | (refine bld_1 120 0 _ _ built_iv rfl (.tmp 1) rfl rfl ?_)
    | (refine st_T (T := 120) (stc iv zb 0) (size73 _ _ _ rfl) rfl (.tmp 0) (.tmp 2) rfl w.heap.size (stc z73 zb 0) rfl rfl (stc_one _ _ _) (by rw [stc_size _ _ _ rfl, stc_size _ _ _ rfl]) (heap_alloc_new w _) ?_; intro w2 hg2 ho2 hb2))
  (try simp only [Exit.inBlock, Exit.then])
  refine bodyPost_ret (res_st rfl _ _ w.heap.size iv zb 0 rfl rfl hg2) rfl ⟨rfl, ?_⟩
  exact ((Below.refl _ w).alloc (Nat.le_refl _) _).trans (hb2 _ (Nat.le_refl _))
end Go.Proofs.YtbpjdfnnlmblaaaGreatDoor
/- copy of a text into an array; a text is taken in. -/
namespace Go.Proofs.YtbpjdfnnlmblaaaGreatDoor
open Go.RowKit
set_option linter.unusedSimpArgs false
set_option linter.unusedVariables false
/-- bytes as cells -/
def bcs (l : List UInt8) : List Value := l.map fun x => .int .u8 (B8 x)
theorem bcs_len (l : List UInt8) : (bcs l).length = l.length := by simp [bcs]
theorem bcs_one (l : List UInt8) : ∀ v ∈ bcs l, v.oneCell' = true := by
  intro v hv
  obtain ⟨x, _, rfl⟩ := List.mem_map.1 hv
  rfl
theorem run_copy_str (w : World) (l : List UInt8) (ty : TypeId) (g off dLen dCap n : Nat) (cur : Array Value) (t : TypeId) (hg : w.heap[g]? = some (.cells cur t (0, 0))) (hn : Nat.min l.length dLen = n) (hfit : off + n ≤ cur.size) :
    (Builtin.copy_ #[50, 9] ty #[.slice (some ⟨g, off, none⟩) dLen dCap, .string ⟨l.toArray⟩]).run Tryz.prog w =
      .ok (goInt n) (w.setRow g (cur.toList.take off ++ bcs (l.take n) ++ cur.toList.drop (off + n)).toArray) := by
  have hnl : n ≤ l.length := by rw [← hn]; exact Nat.min_le_left _ _
  have hlen : (bcs (l.take n)).length = n := by rw [bcs_len, List.length_take, Nat.min_eq_left hnl]
  have hst := run_storeCells_at Tryz.prog g off t (bcs (l.take n)) 0 cur w hg (by rw [hlen]; simpa using hfit) (bcs_one _)
  rw [hlen] at hst
  simp only [Nat.add_zero] at hst
  have hsz : (ByteArray.mk l.toArray).size = l.length := rfl
  have htk : List.take n (List.map (fun b : UInt8 => Value.int IntKind.u8 (b.toNat : Int)) l) = bcs (l.take n) := by
    rw [← List.map_take]; rfl
  have hs1 : (Tryz.prog.info? 5).map (·.size) = some 1 := by kernel_rfl
  cases hq : Tryz.prog.info? 5 with
  | none => simp [hq] at hs1
  | some i =>
    have hi : i.size = 1 := by simpa [hq] using hs1
    simp [Builtin.copy_, run_underlying Tryz.underlying50, Builtin.lenOf, Builtin.firstCells, sizeOf, typeInfo, hq, hi, hsz, hn]
    rw [htk, hst]
    simp
/-- copy of a text into a row -/
theorem cp_str {ops : Array Oper} {rest : List Oper} {o : Oper} {a : Act} {w : World} {Q : Exit → Act → World → Prop} (hgd : o.guard = none) (d s : Operand)
    (ho : o.op = .call { callee := .builtin .copy, args := #[d, s], argTypes := #[50, 9] }) (l : List UInt8) (g off dLen dCap n : Nat) (hd : a.eval d = .slice (some ⟨g, off, none⟩) dLen dCap) (hs : a.eval s = .string ⟨l.toArray⟩)
    (cur : Array Value) (t : TypeId) (hg : w.heap[g]? = some (.cells cur t (0, 0))) (hn : Nat.min l.length dLen = n) (hfit : off + n ≤ cur.size)
    (h : ∀ w', w'.heap[g]? = some (.cells (cur.toList.take off ++ bcs (l.take n) ++ cur.toList.drop (off + n)).toArray t (0, 0)) → (∀ k, k ≠ g → w'.heap[k]? = w.heap[k]?) → (∀ B, B ≤ g → Below B w w') → wpList Tryz.prog ops Q rest (a.put o.dst (goInt n)) w') : wpList Tryz.prog ops Q (o :: rest) a w := by
  refine wpList_plain hgd fun K hK => ?_
  have hrun := run_copy_str w l o.type g off dLen dCap n cur t hg hn hfit
  unfold Oper.wp
  simp [execOp, ho, resolve, invoke, builtin, hd, hs, hrun, Result.andThen]
  refine hK _ _ ?_
  simpa using h _ (setRow_heap _ _ _ _ _ _ hg) (fun k hk => setRow_else _ _ _ _ hk) (fun B hB => below_row hB)
end Go.Proofs.YtbpjdfnnlmblaaaGreatDoor
/- What a stream holds behind a piece of text, in plain words. -/
namespace Go.Proofs.YtbpjdfnnlmblaaaGreatDoor
open Go.RowKit
set_option linter.unusedSimpArgs false
set_option linter.unusedVariables false
theorem blks_pre (m x : List UInt8) (n : Nat) (h : 64 * n ≤ m.length) : blks (m ++ x) n = blks m n := by
  induction n with
  | zero => rfl
  | succ n ih =>
    rw [blks, blks, ih (by omega)]
    congr 1
    rw [List.drop_append_of_le_length (by omega), List.take_append_of_le_length (by rw [List.length_drop]; omega)]
/-- the last block behind a piece x that is laid at a -/
def lay (bk : List UInt8) (a : Nat) (x : List UInt8) : List UInt8 := bk.take a ++ x ++ bk.drop (a + x.length)
theorem lay_len (bk : List UInt8) (a : Nat) (x : List UInt8) (hb : bk.length = 64) (h : a + x.length ≤ 64) : (lay bk a x).length = 64 := by
  simp [lay, hb]; omega
theorem lay_take (bk : List UInt8) (a : Nat) (x : List UInt8) (hb : bk.length = 64) (h : a + x.length ≤ 64) : (lay bk a x).take (a + x.length) = bk.take a ++ x := by
  unfold lay
  rw [List.take_append_of_le_length (by simp [hb]; omega), List.take_of_length_le (by simp [hb]; omega)]
theorem fillB_lay (x : List UInt8) (bk : List UInt8) (n : Nat) (hb : bk.length = 64) (h : n % 64 + x.length ≤ 64) : fillB bk n x = lay bk (n % 64) x := by
  induction x generalizing bk n with
  | nil => simp [fillB, lay]
  | cons c x ih =>
    rw [fillB]
    cases x with
    | nil =>
      simp only [fillB, lay, List.length_cons, List.length_nil]
      rw [List.set_eq_take_append_cons_drop, if_pos (by omega)]
      simp
    | cons d x =>
      simp only [List.length_cons] at h
      have e : (n + 1) % 64 = n % 64 + 1 := by omega
      rw [ih _ _ (by rw [List.length_set]; exact hb) (by simp only [List.length_cons]; omega), e]
      unfold lay
      have e1 : (bk.set (n % 64) c).take (n % 64 + 1) = bk.take (n % 64) ++ [c] := by
        rw [List.set_eq_take_append_cons_drop, if_pos (by omega), List.take_append, List.length_take, hb, Nat.min_eq_left (by omega), List.take_of_length_le (by rw [List.length_take]; omega), show n % 64 + 1 - n % 64 = 1 by omega]
        rfl
      have e2 : (bk.set (n % 64) c).drop (n % 64 + 1 + (d :: x).length) = bk.drop (n % 64 + (c :: d :: x).length) := by
        rw [List.drop_set_of_lt (by simp only [List.length_cons]; omega)]
        congr 1
        simp only [List.length_cons]
        omega
      rw [e1, e2]
      simp
theorem tailB_lay (N x : List UInt8) (h : N.length % 64 + x.length ≤ 64) : tailB (N ++ x) = lay (tailB N) (N.length % 64) x := by
  unfold tailB
  rw [fillB_append, Nat.zero_add, fillB_lay _ _ _ (fillB_len _ _ _) h]
theorem st_part (N x bk : List UInt8) (hb : bk.length = 64) (ht : bk.take (N.length % 64) = N.drop (64 * (N.length / 64))) (h : N.length % 64 + x.length < 64) :
    (N ++ x).length / 64 = N.length / 64 ∧ (N ++ x).length % 64 = N.length % 64 + x.length ∧ blks (N ++ x) (N.length / 64) = blks N (N.length / 64) ∧ (lay bk (N.length % 64) x).take (N.length % 64 + x.length) = (N ++ x).drop (64 * (N.length / 64)) := by
  refine ⟨by rw [List.length_append]; omega, by rw [List.length_append]; omega, blks_pre _ _ _ (by omega), ?_⟩
  rw [lay_take _ _ _ hb (by omega), ht, List.drop_append_of_le_length (by omega)]
theorem st_full (N x bk : List UInt8) (hb : bk.length = 64) (ht : bk.take (N.length % 64) = N.drop (64 * (N.length / 64))) (h : N.length % 64 + x.length = 64) :
    (N ++ x).length / 64 = N.length / 64 + 1 ∧ (N ++ x).length % 64 = 0 ∧ blks (N ++ x) (N.length / 64 + 1) = cmpr (blks N (N.length / 64)) (lay bk (N.length % 64) x) ∧ (N ++ x).drop (64 * (N.length / 64 + 1)) = [] := by
  refine ⟨by rw [List.length_append]; omega, by rw [List.length_append]; omega, ?_, List.drop_eq_nil_of_le (by rw [List.length_append]; omega)⟩
  rw [blks, blks_pre _ _ _ (by omega)]
  congr 1
  have h1 := lay_take bk (N.length % 64) x hb (by omega)
  rw [h, List.take_of_length_le (by rw [lay_len _ _ _ hb (by omega)]; omega), ht] at h1
  rw [h1, List.drop_append_of_le_length (by omega), List.take_of_length_le (by rw [List.length_append, List.length_drop]; omega)]
theorem stc_list (s : HS) (bk : List UInt8) (n : Nat) : (stc s bk n).toList = (hs s).map (fun x => Value.int .u32 (W32 x)) ++ (bcs bk ++ [Value.int .u64 n]) := by
  simp [stc, bcs]
theorem stc_copy (s : HS) (bk x : List UInt8) (n a : Nat) (hb : bk.length = 64) (h : a + x.length ≤ 64) :
    ((stc s bk n).toList.take (8 + a) ++ bcs x ++ (stc s bk n).toList.drop (8 + a + x.length)).toArray = stc s (lay bk a x) n := by
  apply Array.ext'
  rw [stc_list, stc_list]
  have h8 : ((hs s).map (fun x => Value.int .u32 (W32 x))).length = 8 := by rw [List.length_map, hs_len]
  generalize (hs s).map (fun x => Value.int .u32 (W32 x)) = H at h8
  have e1 : (H ++ (bcs bk ++ [Value.int .u64 n])).take (8 + a) = H ++ (bcs bk).take a := by
    rw [List.take_append, h8, List.take_of_length_le (by omega), Nat.add_sub_cancel_left, List.take_append_of_le_length (by rw [bcs_len]; omega)]
  have e2 : (H ++ (bcs bk ++ [Value.int .u64 n])).drop (8 + a + x.length) = (bcs bk).drop (a + x.length) ++ [Value.int .u64 n] := by
    rw [List.drop_append, h8, List.drop_eq_nil_of_le (by omega), List.nil_append, show 8 + a + x.length - 8 = a + x.length by omega, List.drop_append_of_le_length (by rw [bcs_len]; omega)]
  rw [e1, e2]
  simp [lay, bcs]
theorem stc_set (s : HS) (bk : List UInt8) (n m : Nat) (hb : bk.length = 64) : (stc s bk n).setIfInBounds 72 (.int .u64 m) = stc s bk m := by
  apply Array.ext'
  rw [Array.toList_setIfInBounds, stc_list, stc_list]
  have h8 : ((hs s).map (fun x => Value.int .u32 (W32 x))).length = 8 := by rw [List.length_map, hs_len]
  generalize (hs s).map (fun x => Value.int .u32 (W32 x)) = H at h8
  rw [List.set_append_right _ _ (by omega), h8, List.set_append_right _ _ (by rw [bcs_len]; omega), bcs_len, hb]
  rfl
theorem stc_head (s s' : HS) (bk : List UInt8) (n : Nat) : ((stc s bk n).toList.take 0 ++ (row (hs s')).toList ++ (stc s bk n).toList.drop 8).toArray = stc s' bk n := by
  apply Array.ext'
  rw [stc_list, stc_list]
  have h8 : ((hs s).map (fun x => Value.int .u32 (W32 x))).length = 8 := by rw [List.length_map, hs_len]
  have hr : (row (hs s')).toList = (hs s').map (fun x => Value.int .u32 (W32 x)) := by simp [row]
  rw [hr]
  generalize (hs s).map (fun x => Value.int .u32 (W32 x)) = H at h8
  rw [List.drop_append, h8, List.drop_eq_nil_of_le (by omega)]
  simp
/-- a new hash value is stored into a stream -/
theorem st_head {ops : Array Oper} {rest : List Oper} {o : Oper} {a : Act} {w : World} {Q : Exit → Act → World → Prop} (hgd : o.guard = none) (x y : Operand) (ho : o.op = .store 117 x y)
    (g : Nat) (s s' : HS) (bk : List UInt8) (n : Nat) (hx : a.eval x = .pointer (some ⟨g, 0, none⟩)) (hy : a.eval y = .agg (row (hs s'))) (hb : bk.length = 64) (hg : w.heap[g]? = some (.cells (stc s bk n) 120 (0, 0)))
    (h : ∀ w', w'.heap[g]? = some (.cells (stc s' bk n) 120 (0, 0)) → (∀ k, k ≠ g → w'.heap[k]? = w.heap[k]?) → (∀ B, B ≤ g → Below B w w') → wpList Tryz.prog ops Q rest (a.put o.dst undef) w') : wpList Tryz.prog ops Q (o :: rest) a w := by
  refine wpList_plain hgd fun K hK => ?_
  have hl : (row (hs s')).toList.length = 8 := by simp [row, hs_len]
  have hst := run_storeCells_at Tryz.prog g 0 120 (row (hs s')).toList 0 (stc s bk n) w hg (by rw [hl, stc_size _ _ _ hb]; omega) (fun v hv => by
    have := row_one (hs s')
    rw [Array.all_eq_true_iff_forall_mem] at this
    exact this v (by simpa using hv))
  rw [hl] at hst
  simp only [Nat.add_zero, Nat.zero_add] at hst
  rw [stc_head] at hst
  have hi := size8 (hs s') (hs_len s')
  cases hq : Tryz.prog.info? 117 with
  | none => rw [hq] at hi; cases hi
  | some i =>
    have hz : (row (hs s')).size = i.size := by rw [hq] at hi; simpa using hi.symm
    have hc : (Value.agg (row (hs s'))).cells = row (hs s') := rfl
    have h8 : (row (hs s')).size = 8 := by rw [row_size, hs_len]
    unfold Oper.wp
    simp [execOp, ho, hx, hy, Instr.storeAt, Instr.sureAddr, storeVar, typeInfo, hq, ← hz, hc, h8, hst, Result.andThen]
    exact hK _ _ (h _ (setRow_heap _ _ _ _ _ _ hg) (fun k hk => setRow_else _ _ _ _ hk) (fun B hB => below_row hB))
end Go.Proofs.YtbpjdfnnlmblaaaGreatDoor
/- A text is taken in by a stream. -/
namespace Go.Proofs.YtbpjdfnnlmblaaaGreatDoor
open Go.RowKit
set_option linter.unusedSimpArgs false
set_option linter.unusedVariables false
/-- what lies in memory while a text is taken in -/
structure AW (w : World) (s : HS) (bk : List UInt8) (n : Nat) (wr : World) : Prop where
  b : wr.heap[w.heap.size]? = some (.cells (stc s bk n) 120 (0, 0))
  r : ∃ z, wr.heap[w.heap.size + 1]? = some (.cells z 120 (0, 0)) ∧ z.size = 73
  k : KAt wr
  below : Below w.heap.size w wr
  lb : bk.length = 64
theorem AW.set {w wr w' : World} {s s' : HS} {bk bk' : List UInt8} {n n' : Nat} (h : AW w s bk n wr) (hw : 1 < w.heap.size) (hl : bk'.length = 64) (hg : w'.heap[w.heap.size]? = some (.cells (stc s' bk' n') 120 (0, 0))) (ho : ∀ k, k ≠ w.heap.size → w'.heap[k]? = wr.heap[k]?) (hb : ∀ B, B ≤ w.heap.size → Below B wr w') : AW w s' bk' n' w' :=
  ⟨hg, by rw [ho _ (by omega)]; exact h.r, by unfold KAt; rw [ho _ (by omega)]; exact h.k, h.below.trans (hb _ (Nat.le_refl _)), hl⟩
theorem AW.on {w wr w' : World} {s : HS} {bk : List UInt8} {n : Nat} (h : AW w s bk n wr) (hw : 1 < w.heap.size) (hb : Below wr.heap.size wr w') : AW w s bk n w' := by
  obtain ⟨z, hz, hz2⟩ := h.r
  have h1 := (Array.getElem?_eq_some_iff.1 h.b).1
  have h2 := (Array.getElem?_eq_some_iff.1 hz).1
  have h3 := h.k.lt
  exact ⟨by rw [hb.block _ h1]; exact h.b, ⟨z, by rw [hb.block _ h2]; exact hz, hz2⟩, by unfold KAt; rw [hb.block _ h3]; exact h.k, h.below.trans (hb.mono h.below.size), h.lb⟩
theorem AW.setN {w wr : World} {s : HS} {bk : List UInt8} {n : Nat} (h : AW w s bk n wr) (hw : 1 < w.heap.size) (m : Nat) : AW w s bk m (wr.setCell ⟨w.heap.size, 72, none⟩ (.int .u64 m)) := by
  rw [setCell_rowC _ _ _ _ _ _ _ h.b, stc_set _ _ _ _ h.lb]
  exact h.set hw h.lb (setRow_heap _ _ _ _ _ _ h.b) (fun k hk => setRow_else _ _ _ _ hk) (fun B hB => below_row hB)
theorem drop_cut (l : List UInt8) (n : Nat) : (l.drop n).take (l.length - n) = l.drop n := List.take_of_length_le (by rw [List.length_drop]; exact Nat.le_refl _)
theorem flat_b (l : List UInt8) : eB.flat l = bcs l := by
  induction l with
  | nil => rfl
  | cons x l ih => rw [El.flat, ih]; rfl
theorem AW.rd {w wr : World} {s : HS} {bk : List UInt8} {n : Nat} (h : AW w s bk n wr) : RdE eB wr (.slice (some ⟨w.heap.size, 8, none⟩) 64 64) bk := by
  refine ⟨_, 64, by rw [h.lb], by rw [h.lb]; exact Nat.le_refl _, by unfold maxLen; omega, fun _ => ⟨w.heap.size, 8, rfl, (Array.getElem?_eq_some_iff.1 h.b).1, fun j u hu => ?_⟩⟩
  rw [flat_b] at hu
  have hj : j < bk.length := by have := (List.getElem?_eq_some_iff.1 hu).1; rwa [bcs_len] at this
  rw [cell_of_row _ _ _ _ _ _ h.b, stc_b _ _ _ _ hj, ← hu]
  simp [bcs, byteAt, hj]
theorem AW.ld {w wr : World} {s : HS} {bk : List UInt8} {n : Nat} (h : AW w s bk n wr) : (loadVar 117 ⟨w.heap.size, 0, none⟩).run Tryz.prog wr = .ok (.agg (row (hs s))) wr := by
  have hr : (row (hs s)).toList = (hs s).map (fun x => Value.int .u32 (W32 x)) := by simp [row]
  have h1 := run_loadVar_mid (P := Tryz.prog) wr w.heap.size 0 117 (row (hs s)).toList _ (fun j v hv => by
    rw [hr] at hv
    have hj : j < 8 := by have := (List.getElem?_eq_some_iff.1 hv).1; simpa [hs_len] using this
    rw [cell_of_row _ _ _ _ _ _ h.b, Nat.zero_add, stc_s _ _ _ _ hj, ← hv]
    have hj2 : j < (hs s).length := by rw [hs_len]; exact hj
    simp [w16, hj2]) Tryz.underlying117 rfl (by rw [size8 _ (hs_len s)]; simp)
  simpa using h1
theorem q_row {ops : Array Oper} {C : World → Prop} {Q : Act → Prop} {a : Act} {o : Oper} {rest : List Oper} (hw : Region.wanted o (yielded ops a.tmps) = true) (ty : TypeId) (x : Operand) (ho : o.op = .load ty x)
    (g : Nat) (hx : a.eval x = .pointer (some ⟨g, 0, none⟩)) (cs : Array Value) (hC : ∀ w', C w' → (loadVar ty ⟨g, 0, none⟩).run Tryz.prog w' = .ok (.agg cs) w')
    (h : wpQuiet Tryz.prog ops C Q rest (a.put o.dst (.agg cs))) : wpQuiet Tryz.prog ops C Q (o :: rest) a := by
  unfold wpQuiet
  rw [if_pos hw]
  refine ⟨.agg cs, fun w' hw' => ?_, h⟩
  unfold Oper.quietAt execOp
  simp only [ho, hx, Instr.loadAt, Instr.sureAddr, Sem.run_bind, Sem.run_pure, Result.andThen_ok, hC w' hw']
  exact ⟨rfl, rfl⟩
def sLen : Value → Nat
  | .string s => s.size
  | _ => 0
attribute [local irreducible] Calls stc blks cmpr row
set_option maxRecDepth 100000 in
set_option maxHeartbeats 4000000 in
theorem add_c (M text : List UInt8) (v : Value) (w : World) (hv : StV M v) (hk : KAt w) (hlen : M.length + text.length ≤ 1000000000000) :
    Calls Tryz.prog 98 #[v, .string ⟨text.toArray⟩] w fun e w' => ∃ v', e = .returned v' ∧ StV (M ++ text) v' ∧ Below w.heap.size w w' := by
  obtain ⟨bk0, rfl, hb0, ht0, htb0⟩ := hv
  have hz := zero_st
  have hw1 : 1 < w.heap.size := hk.lt
  have HW1 := Lib.hid hw1
  have HLEN := Lib.hid hlen
  have H0 : Hid (AW w (blks M (M.length / 64)) bk0 M.length ((w.alloc (.cells (stc (blks M (M.length / 64)) bk0 M.length) 120)).alloc (.cells (stc z73 zb 0) 120))) := Lib.hid
    ⟨by rw [heap_past _ _ _ (by simp), heap_last _ _ _ rfl], ⟨_, heap_last _ _ _ (by simp), stc_size _ _ _ rfl⟩, by unfold KAt; rw [heap_past _ _ _ (by first | (simp; done) | (simp; omega)), heap_past _ _ _ hw1]; exact hk, ((Below.refl _ _).alloc (Nat.le_refl _) _).alloc (by simp) _, hb0⟩
  have HT0 := Lib.hid ht0
  have HTB0 := Lib.hid htb0
  clear hk ht0 hb0 htb0
  go_enter Tryz.func98, Tryz.ntmps98
  go_wp2
  go_loopw [1] (fun o wr => ∃ (k : Nat) (bk : List UInt8), k ≤ text.length ∧ o = .string ⟨(text.drop k).toArray⟩ ∧ Hid (bk.take ((M ++ text.take k).length % 64) = (M ++ text.take k).drop (64 * ((M ++ text.take k).length / 64))) ∧ Hid (bk = tailB (M ++ text.take k)) ∧ Hid (AW w (blks (M ++ text.take k) ((M ++ text.take k).length / 64)) bk (M ++ text.take k).length wr)) (fun o _ => sLen o)
  case atStart => exact ⟨0, bk0, Nat.zero_le _, rfl, by simpa using HT0, by simpa using HTB0, by simpa using H0⟩
  case round =>
    obtain ⟨k, bk, hk, rfl, hbt, htb, haw⟩ := hrel
    clear hz
    have hnl : (M ++ text.take k).length ≤ 1000000000000 := by have := HLEN.out; simp; omega
    generalize hN : M ++ text.take k = N at hbt htb haw hnl
    by_cases hlt : k < text.length
    · have cn : wr.cell? ⟨w.heap.size, 72, none⟩ = some (.int .u64 N.length) := by rw [cell_of_row _ _ _ _ _ _ haw.out.b, stc_n _ _ _ haw.out.lb]
      have ha : N.length % 64 < 64 := Nat.mod_lt _ (by decide)
      have hmod : ((N.length : Nat) : Int) % 64 = ((N.length % 64 : Nat) : Int) := by omega
      generalize hA : N.length % 64 = a at ha hmod hbt
      generalize hrem : text.drop k = rem
      have hrl : 0 < rem.length := by rw [← hrem, List.length_drop]; omega
      have hne : rem ≠ [] := by intro e; rw [e] at hrl; simp at hrl
      have hemp : rem.isEmpty = false := by cases rem with | nil => exact absurd rfl hne | cons _ _ => rfl
      obtain ⟨kk, hkk⟩ : ∃ kk, Nat.min rem.length (64 - a) = kk := ⟨_, rfl⟩
      have hk1 : kk ≤ rem.length := by rw [← hkk]; exact Nat.min_le_left _ _
      have hk2 : a + kk ≤ 64 := by
        have : kk ≤ 64 - a := by rw [← hkk]; exact Nat.min_le_right _ _
        omega
      have hk3 : 0 < kk := by rw [← hkk]; exact Nat.lt_min.2 ⟨hrl, by omega⟩
      have hxl : (rem.take kk).length = kk := by rw [List.length_take]; omega
      have ha2 : (a : Int) ≤ 64 := by omega
      have HKK := Lib.hid hkk
      have HK2 := Lib.hid hk2
      have HXL := Lib.hid hxl
      clear hne hkk
      go_upto_region 4 with (refine cp_str rfl (.tmp 15) (.tmp 16) rfl rem w.heap.size (8 + a) (64 - a) (64 - a) kk rfl rfl (stc (blks N (N.length / 64)) bk N.length) 120 haw.out.b HKK.out (by rw [stc_size _ _ _ haw.out.lb]; have := HK2.out; omega) ?_; intro wa hga hoa hba; have hgb : wa.heap[w.heap.size]? = some (.cells (stc (blks N (N.length / 64)) (lay bk a (rem.take kk)) N.length) 120 (0, 0)) := (by rw [hga, ← stc_copy _ _ _ _ _ haw.out.lb (by rw [HXL.out]; exact HK2.out), HXL.out]); have H1 := Lib.hid (haw.out.set HW1.out (lay_len _ _ _ haw.out.lb (by rw [HXL.out]; exact HK2.out)) hgb hoa hba); clear hga hoa hba hgb)
      try dsimp only [Act.put]
      have kki : (kk : Int) ≤ rem.length := by omega
      have kk0 : (0 : Int) ≤ kk := by omega
      have ks : kk ≤ (ByteArray.mk rem.toArray).size := hk1
      have c72 : wa.cell? ⟨w.heap.size, 72, none⟩ = some (.int .u64 N.length) := by rw [cell_of_row _ _ _ _ _ _ H1.out.b, stc_n _ _ _ H1.out.lb]
      have f72 := frozen_of_row _ _ 72 _ _ H1.out.b
      have hsum : ((N.length : Int) + (kk : Int)) % 18446744073709551616 = ((N.length + kk : Nat) : Int) := by omega
      clear cn
      go_upto_region 5 with fail
      go_cut [6] from 7 to 36 (fun q wc => q = .int .i64 kk ∧ AW w (blks N (N.length / 64)) (lay bk a (rem.take kk)) (N.length + kk) wc)
      case first =>
        go_wp2
        all_goals go_meet
        exact ⟨rfl, by rw [← Int.natCast_add]; exact H1.out.setN HW1.out _⟩
      case rest =>
        obtain ⟨rfl, haw2⟩ := hcut
        have H2 := Lib.hid haw2
        have hNN : M ++ text.take (k + kk) = N ++ rem.take kk := by rw [← hN, ← hrem, List.append_assoc, ← List.take_add]
        have HNN := Lib.hid hNN
        have HREM : Hid (text.drop (k + kk) = rem.drop kk) := Lib.hid (by rw [← hrem, List.drop_drop])
        have HNL : Hid ((N ++ rem.take kk).length = N.length + kk) := Lib.hid (by rw [List.length_append, hxl])
        have HBT : Hid (bk.take (N.length % 64) = N.drop (64 * (N.length / 64))) := Lib.hid (by rw [hA]; exact hbt.out)
        have HA := Lib.hid hA
        have HTB : Hid (lay bk a (rem.take kk) = tailB (M ++ text.take (k + kk))) := Lib.hid (by rw [hNN, tailB_lay _ _ (by rw [hA, hxl]; exact HK2.out), ← htb.out, hA])
        have HKT : Hid (k + kk ≤ text.length) := Lib.hid (by rw [← hrem, List.length_drop] at hk1; omega)
        have HK3 := Lib.hid hk3
        have HRL := Lib.hid hk1
        have HLB := Lib.hid haw.out.lb
        clear haw2 c72 f72 hNN
        by_cases h64 : a + kk = 64
        · have e1 : ((a : Int) + (kk : Int) == 64) = true := by simp; omega
          have HFULL := Lib.hid (st_full N (rem.take kk) bk HLB.out HBT.out (by rw [HA.out, hxl]; exact h64))
          clear hN hrem hA hbt haw h64
          have zB : w.heap.size < wc.heap.size := (Array.getElem?_eq_some_iff.1 H2.out.b).1
          go_wp2
          refine tailL 6 (by kernel_rfl) (by kernel_rfl) ?_
          simp only [List.take_succ_cons, List.take_zero, List.drop_succ_cons, List.drop_zero]
          repeat (first
            | (refine q_row rfl 117 (.tmp 31) rfl w.heap.size rfl (row (hs (blks N (N.length / 64)))) (fun w' ⟨u, e⟩ => by rw [e]; exact (H2.out.on HW1.out u.below).ld) ?_; simp only [Act.put, List.setIfInBounds_toArray, List.set_cons_zero, List.set_cons_succ])
            | go_big_quiet_step ((go_at_call 115; exact Later.call _ (compress_c _ _ (lay bk a (rem.take kk)) _ (H2.out.on HW1.out (Later.below _)).rd H2.out.lb (H2.out.on HW1.out (Later.below _)).k))))
          refine wpQuiet_nil ?_
          rintro _ ⟨u, rfl⟩
          have H3 := Lib.hid (H2.out.on HW1.out u.below)
          go_wp2_with (refine st_head rfl (.tmp 36) (.tmp 35) rfl w.heap.size _ _ _ _ rfl rfl H2.out.lb H3.out.b ?_; intro wd hgd hod hbd; have H4 := Lib.hid (H3.out.set HW1.out H2.out.lb hgd hod hbd); clear hgd hod hbd)
          go_roundw
          case rel =>
            obtain ⟨p1, p2, p3, p4⟩ := HFULL.out
            rw [HA.out] at p3
            have F1 : Hid ((lay bk a (rem.take kk)).take ((M ++ text.take (k + kk)).length % 64) = (M ++ text.take (k + kk)).drop (64 * ((M ++ text.take (k + kk)).length / 64))) := Lib.hid (by rw [HNN.out, p1, p2, p4]; rfl)
            have F2 : Hid (AW w (blks (M ++ text.take (k + kk)) ((M ++ text.take (k + kk)).length / 64)) (lay bk a (rem.take kk)) (M ++ text.take (k + kk)).length wd) := Lib.hid (by rw [HNN.out, p1, p3, HNL.out]; exact H4.out)
            clear p1 p2 p3 p4
            (repeat apply Exists.intro)
            exact ⟨⟨k + kk, lay bk a (rem.take kk), HKT.out, by rw [HREM.out, drop_cut], F1, HTB, F2⟩, rfl⟩
          case measure =>
            have h1 := HK3.out
            have h2 := HRL.out
            show sLen (.string _) < sLen (.string _)
            simp only [sLen, ByteArray.size, List.size_toArray, List.length_take, List.length_drop]
            omega
        · have e1 : ((a : Int) + (kk : Int) == 64) = false := by simp; omega
          have HPART := Lib.hid (st_part N (rem.take kk) bk HLB.out HBT.out (by rw [HA.out, hxl]; omega))
          clear hN hrem hA hbt haw h64
          go_wp2
          go_roundw
          case rel =>
            obtain ⟨p1, p2, p3, p4⟩ := HPART.out
            rw [HA.out, HXL.out] at p2 p4
            refine ⟨k + kk, lay bk a (rem.take kk), HKT.out, ?_, Lib.hid ?_, HTB, Lib.hid ?_⟩
            · rw [HREM.out, drop_cut]
            · rw [HNN.out, p1, p2]; exact p4
            · rw [HNN.out, p1, p3, HNL.out]; exact H2.out
          case measure =>
            have h1 := HK3.out
            have h2 := HRL.out
            simp [sLen, ByteArray.size]
            omega
    · have hke : k = text.length := by omega
      have hd : text.drop k = [] := List.drop_eq_nil_of_le (by omega)
      have hfull : N = M ++ text := by rw [← hN, hke, List.take_length]
      obtain ⟨z, hz1, hz2⟩ := haw.out.r
      have HZ := Lib.hid hz1
      have HNF := Lib.hid hfull
      have HZ2 := Lib.hid hz2
      rw [hd]
      clear hN hke hd hfull hz1 hz2 hlt hnl
      go_wp2_with (first
        | (refine wpList_load_row rfl 120 (.tmp 2) rfl w.heap.size rfl _ _ (0, 0) _ haw.out.b Tryz.underlying120 rfl (size73 _ _ _ haw.out.lb) ?_)
        | (refine st_T (T := 120) (stc (blks N (N.length / 64)) bk N.length) (size73 _ _ _ haw.out.lb) rfl (.tmp 4) (.tmp 37) rfl (w.heap.size + 1) z rfl rfl (stc_one _ _ _) (by rw [HZ2.out, stc_size _ _ _ haw.out.lb]) HZ.out ?_; intro wb hgb hob hbb))
      (try simp only [Exit.inBlock, Exit.then])
      refine bodyPost_ret (res_st rfl _ _ (w.heap.size + 1) _ _ _ haw.out.lb rfl hgb) rfl ?_
      refine ⟨_, rfl, ⟨bk, by rw [← HNF.out], haw.out.lb, by rw [← HNF.out]; exact hbt.out, by rw [← HNF.out]; exact htb.out⟩, haw.out.below.trans (hbb _ (by omega))⟩
end Go.Proofs.YtbpjdfnnlmblaaaGreatDoor
