/- Parts of a proof, joined: contracts of functions of the program and plain lemmas (HashN, HashO, WireR, RefA, RefB). No condition. -/
import Derived.Test.YtbpjdfnnlmblaaaGreatDoorMA05
/- The specification's hash. -/
namespace Go.Proofs.YtbpjdfnnlmblaaaGreatDoor
open Go.RowKit
set_option linter.unusedSimpArgs false
set_option linter.unusedVariables false
/-- the constants stand in memory -/
def K0At (w : World) : Prop := ∃ t, w.heap[0]? = some (.cells (row KK) t (0, 0))
theorem K0At.lt {w : World} (h : K0At w) : 0 < w.heap.size := by obtain ⟨t, h⟩ := h; exact (Array.getElem?_eq_some_iff.1 h).1
theorem K0At.on {w w' : World} (h : K0At w) (hb : Below w.heap.size w w') : K0At w' := by
  have hlt := h.lt
  unfold K0At
  rw [hb.block _ hlt]
  exact h
/-- a slice of one's own: its block's content tells what it reads -/
theorem own_obj {w : World} {base : Nat} {v : Value} {l : List UInt8} (h : OwnE eB w base v l) (h0 : 0 < l.length) :
    ∃ b cap X, v = .slice (some ⟨b, 0, none⟩) l.length cap ∧ l.length ≤ cap ∧ cap ≤ maxLen ∧ base ≤ b ∧ w.heap[b]? = some X ∧ ∀ w' : World, w'.heap[b]? = some X → RdE eB w' (.slice (some ⟨b, 0, none⟩) l.length cap) l := by
  rcases h.2 with ⟨rfl, hn⟩ | ⟨g, cap, cur, rfl, hb, hg, h1, h2, h3, h4⟩
  · omega
  · refine ⟨g, cap, _, rfl, h1, h2, hb, hg, fun w' hw' => ?_⟩
    exact OwnE.rd (base := base) (⟨h.1, .inr ⟨g, cap, cur, rfl, hb, hw', h1, h2, h3, h4⟩⟩ : OwnE eB w' base _ l)
/-- a block of a text that is read -/
theorem rd_block {w : World} {b cap n : Nat} {l : List UInt8} (h : RdE eB w (.slice (some ⟨b, 0, none⟩) n cap) l) (k : Nat) (hk : k + 64 ≤ l.length) (c : Nat) (hc1 : 64 ≤ c) (hc2 : c ≤ maxLen) : RdE eB w (.slice (some ⟨b, k, none⟩) 64 c) ((l.drop k).take 64) := by
  obtain ⟨a', c', e, h1, h2, h3⟩ := h
  cases e
  obtain ⟨b2, off, e, hlt, hcell⟩ := h3 (by omega)
  cases e
  have hl : ((l.drop k).take 64).length = 64 := by rw [List.length_take, List.length_drop]; omega
  refine ⟨_, c, by rw [hl], by rw [hl]; exact hc1, hc2, fun _ => ⟨b, k, rfl, hlt, fun j u hu => ?_⟩⟩
  rw [flat_b] at hu hcell
  have hj : j < 64 := by have := (List.getElem?_eq_some_iff.1 hu).1; rw [bcs_len, hl] at this; exact this
  have := hcell (k + j) u (by rw [← hu]; unfold bcs; rw [List.getElem?_map, List.getElem?_map, List.getElem?_take, if_pos hj, List.getElem?_drop])
  rwa [Nat.zero_add] at this
/-- what lies in memory between the blocks -/
structure RW (w : World) (b0 : Nat) (X : Obj) (S : List UInt32) (wr : World) : Prop where
  k : K0At wr
  r : wr.heap[w.heap.size]? = some (.cells (brow z32) 114 (0, 0))
  s : wr.heap[w.heap.size + 1]? = some (.cells (row S) 117 (0, 0))
  p : wr.heap[b0]? = some X
  hb : w.heap.size + 1 < b0
  below : Below w.heap.size w wr
  ls : S.length = 8
theorem RW.on {w wr w' : World} {b0 : Nat} {X : Obj} {S : List UInt32} (h : RW w b0 X S wr) (hb : Below wr.heap.size wr w') : RW w b0 X S w' :=
  ⟨h.k.on hb, by rw [hb.block _ (Array.getElem?_eq_some_iff.1 h.r).1]; exact h.r, by rw [hb.block _ (Array.getElem?_eq_some_iff.1 h.s).1]; exact h.s, by rw [hb.block _ (Array.getElem?_eq_some_iff.1 h.p).1]; exact h.p, h.hb, h.below.trans (hb.mono h.below.size), h.ls⟩
/-- .. within a block's rounds: the schedule, the words -/
structure VW (w : World) (b0 : Nat) (X : Obj) (S : List UInt32) (gt gv : Nat) (ws V : List UInt32) (wr : World) : Prop extends RW w b0 X S wr where
  t : wr.heap[gt]? = some (.cells (row ws) 146 (0, 0))
  v : wr.heap[gv]? = some (.cells (row V) 117 (0, 0))
  ht : b0 < gt
  hv : gt < gv
  lt : ws.length = 64
  lv : V.length = 8
theorem VW.drew {w wr : World} {b0 : Nat} {X : Obj} {S : List UInt32} {gt gv : Nat} {ws V : List UInt32} (h : VW w b0 X S gt gv ws V wr) (n : Nat) : VW w b0 X S gt gv ws V (wr.drewN n) :=
  ⟨⟨h.k, h.r, h.s, h.p, h.hb, below_drewN n h.below, h.ls⟩, h.t, h.v, h.ht, h.hv, h.lt, h.lv⟩
theorem VW.setV {w wr w' : World} {b0 : Nat} {X : Obj} {S : List UInt32} {gt gv : Nat} {ws V V' : List UInt32} (h : VW w b0 X S gt gv ws V wr) (hl : V'.length = 8) (hg : w'.heap[gv]? = some (.cells (row V') 117 (0, 0))) (ho : ∀ k, k ≠ gv → w'.heap[k]? = wr.heap[k]?) (hb : ∀ B, B ≤ gv → Below B wr w') : VW w b0 X S gt gv ws V' w' := by
  have h1 := h.hb
  have h2 := h.ht
  have h3 := h.hv
  exact ⟨⟨by unfold K0At; rw [ho _ (by omega)]; exact h.k, by rw [ho _ (by omega)]; exact h.r, by rw [ho _ (by omega)]; exact h.s, by rw [ho _ (by omega)]; exact h.p, h.hb, h.below.trans (hb _ (by omega)), h.ls⟩, by rw [ho _ (by omega)]; exact h.t, hg, h.ht, h.hv, h.lt, hl⟩
theorem VW.setS {w wr : World} {b0 : Nat} {X : Obj} {S : List UInt32} {gt gv : Nat} {ws V : List UInt32} (h : VW w b0 X S gt gv ws V wr) (h0 : 0 < w.heap.size) (i : Nat) (x : UInt32) : VW w b0 X (S.set i x) gt gv ws V (wr.setCell ⟨w.heap.size + 1, i, none⟩ (.int .u32 (W32 x))) := by
  have h1 := h.hb
  have h2 := h.ht
  have h3 := h.hv
  rw [setCell_rowC _ _ _ _ _ _ _ h.s]
  have e : (row S).setIfInBounds i (.int .u32 (W32 x)) = row (S.set i x) := by
    unfold row
    apply Array.ext'
    rw [Array.toList_setIfInBounds]
    simp [List.map_set]
  rw [e]
  exact ⟨⟨by unfold K0At; rw [setRow_else _ _ _ _ (by omega)]; exact h.k, by rw [setRow_else _ _ _ _ (by omega)]; exact h.r, setRow_heap _ _ _ _ _ _ h.s, by rw [setRow_else _ _ _ _ (by omega)]; exact h.p, h.hb, h.below.trans (below_row (by omega)), by rw [List.length_set]; exact h.ls⟩, by rw [setRow_else _ _ _ _ (by omega)]; exact h.t, by rw [setRow_else _ _ _ _ (by omega)]; exact h.v, h.ht, h.hv, h.lt, h.lv⟩
theorem VW.vc {w wr : World} {b0 : Nat} {X : Obj} {S : List UInt32} {gt gv : Nat} {ws V : List UInt32} (h : VW w b0 X S gt gv ws V wr) (i : Nat) (hi : i < 8) : wr.cell? ⟨gv, i, none⟩ = some (.int .u32 (W32 (w16 V i))) := by
  have hl := h.lv
  rw [cell_of_row _ _ _ _ _ _ h.v]
  simp [row, w16, show i < V.length by omega]
theorem VW.sc {w wr : World} {b0 : Nat} {X : Obj} {S : List UInt32} {gt gv : Nat} {ws V : List UInt32} (h : VW w b0 X S gt gv ws V wr) (i : Nat) (hi : i < 8) : wr.cell? ⟨w.heap.size + 1, i, none⟩ = some (.int .u32 (W32 (w16 S i))) := by
  have hl := h.ls
  rw [cell_of_row _ _ _ _ _ _ h.s]
  simp [row, w16, show i < S.length by omega]
theorem VW.tc {w wr : World} {b0 : Nat} {X : Obj} {S : List UInt32} {gt gv : Nat} {ws V : List UInt32} (h : VW w b0 X S gt gv ws V wr) (i : Nat) (hi : i < 64) : wr.cell? ⟨gt, i, none⟩ = some (.int .u32 (W32 (wd ws i))) := by
  have hl := h.lt
  rw [cell_of_row _ _ _ _ _ _ h.t]
  simp [row, wd, show i < ws.length by omega]
theorem VW.kc {w wr : World} {b0 : Nat} {X : Obj} {S : List UInt32} {gt gv : Nat} {ws V : List UInt32} (h : VW w b0 X S gt gv ws V wr) (i : Nat) (hi : i < 64) : wr.cell? ⟨0, i, none⟩ = some (.int .u32 (W32 (wd KK i))) := by
  have hl := KK_len
  obtain ⟨tk, hk⟩ := h.k
  rw [cell_of_row _ _ _ _ _ _ hk]
  simp [row, wd, show i < KK.length by omega]
theorem row_iv : row (hs iv) = #[.int .u32 1779033703, .int .u32 3144134277, .int .u32 1013904242, .int .u32 2773480762, .int .u32 1359893119, .int .u32 2600822924, .int .u32 528734635, .int .u32 1541459225] := rfl
def z8 : List UInt32 := List.replicate 8 0
theorem zero_8' : (Tryz.prog.info? 117).map (·.zero) = some (some (.agg (row z8))) := by kernel_rfl
theorem zero_8 (w : World) : (zeroValue 117).run Tryz.prog w = .ok (.agg (row z8)) w := by
  have h := zero_8'
  generalize row z8 = L at h ⊢
  cases hq : Tryz.prog.info? 117 with
  | none => rw [hq] at h; cases h
  | some i =>
    rw [hq] at h
    simp at h
    simp [zeroValue, typeInfo, hq, h]
theorem rw_start {w w1 : World} {b0 : Nat} {X : Obj} (hk : K0At w) (hb : Below ((w.alloc (.cells (brow z32) 114)).alloc (.cells (row (hs iv)) 117)).heap.size ((w.alloc (.cells (brow z32) 114)).alloc (.cells (row (hs iv)) 117)) w1)
    (hX : w1.heap[b0]? = some X) (h0 : ((w.alloc (.cells (brow z32) 114)).alloc (.cells (row (hs iv)) 117)).heap.size ≤ b0) : RW w b0 X (hs iv) w1 := by
  have hs0 := h0
  simp only [World.size_alloc] at hs0
  have hA : Below w.heap.size w ((w.alloc (.cells (brow z32) 114)).alloc (.cells (row (hs iv)) 117)) := ((Below.refl _ _).alloc (Nat.le_refl _) _).alloc (by simp) _
  exact ⟨(hk.on hA).on hb, by rw [hb.block _ (by simp only [World.size_alloc]; omega)]; exact heap2_first w _ _ 0, by rw [hb.block _ (by simp only [World.size_alloc]; omega)]; exact heap2_second w _ _ 0, hX, by omega, hA.trans (hb.mono hA.size), rfl⟩
theorem vw_start {w w2 w3 w4 : World} {b0 : Nat} {X : Obj} {S ws : List UInt32} (h2 : RW w b0 X S w2) (h3 : RW w b0 X S w3) (ht : w3.heap[w2.heap.size]? = some (.cells (row ws) 146 (0, 0))) (lt : ws.length = 64)
    (hg : w4.heap[w3.heap.size]? = some (.cells (row S) 117 (0, 0))) (hb : Below w3.heap.size w3 w4) : VW w b0 X S w2.heap.size w3.heap.size ws S w4 :=
  ⟨h3.on hb, by rw [hb.block _ (Array.getElem?_eq_some_iff.1 ht).1]; exact ht, hg, (Array.getElem?_eq_some_iff.1 h2.p).1, (Array.getElem?_eq_some_iff.1 ht).1, lt, h3.ls⟩
abbrev q8 (a b c d e f g h : UInt32) : Array Value := #[.int .u32 (W32 a), .int .u32 (W32 b), .int .u32 (W32 c), .int .u32 (W32 d), .int .u32 (W32 e), .int .u32 (W32 f), .int .u32 (W32 g), .int .u32 (W32 h)]
theorem q8_row (a b c d e f g h : UInt32) : row (hs ⟨a, b, c, d, e, f, g, h⟩) = q8 a b c d e f g h := rfl
theorem built_8 (a b c d e f g h : UInt32) : Tryz.prog.built 117 [(0, .int .u32 (W32 a)), (1, .int .u32 (W32 b)), (2, .int .u32 (W32 c)), (3, .int .u32 (W32 d)), (4, .int .u32 (W32 e)), (5, .int .u32 (W32 f)), (6, .int .u32 (W32 g)), (7, .int .u32 (W32 h))] = some (q8 a b c d e f g h) := by kernel_rfl
theorem bld_8 {ops : Array Oper} {rest : List Oper} {o : Oper} {a : Act} {w : World} {Q : Exit → Act → World → Prop} (hg : o.guard = none) (x0 x1 x2 x3 x4 x5 x6 x7 : Operand) (ho : o.op = .build 117 #[(0, x0), (1, x1), (2, x2), (3, x3), (4, x4), (5, x5), (6, x6), (7, x7)])
    (v0 v1 v2 v3 v4 v5 v6 v7 : UInt32) (h0 : a.eval x0 = .int .u32 (W32 v0)) (h1 : a.eval x1 = .int .u32 (W32 v1)) (h2 : a.eval x2 = .int .u32 (W32 v2)) (h3 : a.eval x3 = .int .u32 (W32 v3)) (h4 : a.eval x4 = .int .u32 (W32 v4)) (h5 : a.eval x5 = .int .u32 (W32 v5)) (h6 : a.eval x6 = .int .u32 (W32 v6)) (h7 : a.eval x7 = .int .u32 (W32 v7))
    (h : wpList Tryz.prog ops Q rest (a.put o.dst (.agg (q8 v0 v1 v2 v3 v4 v5 v6 v7))) w) : wpList Tryz.prog ops Q (o :: rest) a w := by
  have e : (Tryz.prog.built 117 ((#[(0, x0), (1, x1), (2, x2), (3, x3), (4, x4), (5, x5), (6, x6), (7, x7)] : Array (Nat × Operand)).map fun (i, x) => (i, a.eval x)).toList) = some (q8 v0 v1 v2 v3 v4 v5 v6 v7) := by
    simp only [List.map_toArray, List.map_cons, List.map_nil, h0, h1, h2, h3, h4, h5, h6, h7]
    exact built_8 v0 v1 v2 v3 v4 v5 v6 v7
  refine wpList_build hg _ _ ho (by rw [e]; rfl) ?_
  rw [e]
  exact h
theorem info8 : (Tryz.prog.info? 117).map (·.size) = some 8 := by kernel_rfl
theorem one_q8 (a b c d e f g h : UInt32) : ((q8 a b c d e f g h).all fun u => u.oneCell') = true := by
  rw [← q8_row]
  exact row_one _
/-- the sum of two rows, i words of it made -/
def addV (s v : List UInt32) (i : Nat) : List UInt32 := (List.zipWith (· + ·) s v).take i ++ s.drop i
theorem addV_at (s v : HS) (i : Nat) (hi : i < 8) : w16 (addV (hs s) (hs v) i) i = w16 (hs s) i := by
  rcases (by omega : i = 0 ∨ i = 1 ∨ i = 2 ∨ i = 3 ∨ i = 4 ∨ i = 5 ∨ i = 6 ∨ i = 7) with rfl | rfl | rfl | rfl | rfl | rfl | rfl | rfl <;> rfl
theorem addV_set (s v : HS) (i : Nat) (hi : i < 8) : (addV (hs s) (hs v) i).set i (w16 (hs s) i + w16 (hs v) i) = addV (hs s) (hs v) (i + 1) := by
  rcases (by omega : i = 0 ∨ i = 1 ∨ i = 2 ∨ i = 3 ∨ i = 4 ∨ i = 5 ∨ i = 6 ∨ i = 7) with rfl | rfl | rfl | rfl | rfl | rfl | rfl | rfl <;> rfl
theorem addV_all (s v : HS) : addV (hs s) (hs v) 8 = hs (hadd s v) := rfl
theorem rnds_succ' (w : List UInt32) (s : HS) (t : Nat) : rnds w s (t + 1) = rnd (wd KK t) (wd w t) (rnds w s t) := rfl
theorem blks_succ' (m : List UInt8) (n : Nat) : hs (blks m (n + 1)) = addV (hs (blks m n)) (hs (rnds (sch ((m.drop (64 * n)).take 64) 64) (blks m n) 64)) 8 := rfl
theorem sha_def (m : List UInt8) : sha m = hbytes (blks (padd m) ((padd m).length / 64)) := rfl
/-- what lies in memory while the result is written -/
structure OW (w : World) (s : HS) (g i : Nat) (wr : World) : Prop where
  sr : wr.heap[w.heap.size + 1]? = some (.cells (row (hs s)) 117 (0, 0))
  r : wr.heap[w.heap.size]? = some (.cells (brow z32) 114 (0, 0))
  o : wr.heap[g]? = some (.cells (brow (outr s i)) 114 (0, 0))
  hg : w.heap.size + 1 < g
  below : Below w.heap.size w wr
theorem ow_start {w wr : World} {b0 : Nat} {X : Obj} {s : HS} (h : RW w b0 X (hs s) wr) : OW w s wr.heap.size 0 (wr.alloc (.cells (brow z32) 114)) :=
  ⟨by rw [heap_past _ _ _ (Array.getElem?_eq_some_iff.1 h.s).1]; exact h.s, by rw [heap_past _ _ _ (Array.getElem?_eq_some_iff.1 h.r).1]; exact h.r, heap_last _ _ _ rfl, (Array.getElem?_eq_some_iff.1 h.s).1, h.below.alloc h.below.size _⟩
theorem OW.next {w wr : World} {s : HS} {g i : Nat} (h : OW w s g i wr) (hi : i < 32) (c : UInt8) (hc : (hbytes s)[i]? = some c) : OW w s g (i + 1) (wr.setCell ⟨g, i, none⟩ (.int .u8 (B8 c))) := by
  have h1 := h.hg
  rw [setCell_rowC _ _ _ _ _ _ _ h.o, brow_set s i hi c hc]
  exact ⟨by rw [setRow_else _ _ _ _ (by omega)]; exact h.sr, by rw [setRow_else _ _ _ _ (by omega)]; exact h.r, setRow_heap _ _ _ _ _ _ h.o, h.hg, h.below.trans (below_row (by omega))⟩
theorem OW.sc {w wr : World} {s : HS} {g i : Nat} (h : OW w s g i wr) (q : Nat) (hq : q < 8) : wr.cell? ⟨w.heap.size + 1, q, none⟩ = some (.int .u32 (W32 (w16 (hs s) q))) := by
  rw [cell_of_row _ _ _ _ _ _ h.sr]
  have hl : (hs s).length = 8 := rfl
  simp [row, w16, show q < (hs s).length by omega]
theorem not_xor (x : UInt32) : bits .xor .u32 (W32 x) 4294967295 = W32 (~~~x) := by
  have h := u32_xor_u32 x 0xffffffff
  have e : x ^^^ 0xffffffff = ~~~x := UInt32.xor_neg_one
  rw [e] at h
  exact h
theorem padd_pos (m : List UInt8) : 0 < (padd m).length := by
  have := padd_len m
  unfold padd at *
  simp only [List.length_append, List.length_singleton] at *
  omega
theorem padd_le (m : List UInt8) : (padd m).length ≤ m.length + 80 := by
  have := zpad_lt m.length
  unfold padd be8
  simp only [List.length_append, List.length_replicate, List.length_map, List.length_range, List.length_singleton]
  omega
attribute [local irreducible] Calls brow row sha padd
set_option maxRecDepth 100000 in
set_option maxHeartbeats 4000000 in
theorem sum_r (v : Value) (m : List UInt8) (w : World) (hv : RdE eB w v m) (hk : K0At w) (hlen : m.length ≤ 400000) :
    Calls Tryz.prog 104 #[v] w fun e w' => e = .returned (.agg (brow (sha m))) ∧ Below w.heap.size w w' := by
  have hz := zero_32
  have hz64 := zero_64
  have HLEN := Lib.hid hlen
  have HV2 : Hid (∀ u : World, Below w.heap.size w u → RdE eB u v m) := Lib.hid (fun u hu => hv.on hu)
  have HK := Lib.hid hk
  have H0 := Lib.hid hk.lt
  clear hv hk hlen
  go_enter Tryz.func104, Tryz.ntmps104
  go_upto_region 4 with (first
    | (go_at_call 118; refine (padded_r v m _ (HV2.out _ (((Below.refl _ _).alloc (Nat.le_refl _) _).alloc (by simp) _)) (by have := HLEN.out; omega)).mono ?_; rintro e w1 ⟨v1, rfl, ho1, hb1⟩; obtain ⟨b0, cap, X, rfl, hc1, hc2, hb0, hX, hrd⟩ := own_obj ho1 (padd_pos m); rw [← row_iv] at hb1 hb0; have HR1 := Lib.hid (rw_start HK.out hb1 hX hb0); have HRD := Lib.hid hrd; have HC1 := Lib.hid hc1; have HC2 := Lib.hid hc2; clear ho1 hb1 hb0 hX hrd hc1 hc2))
  have hz8 := zero_8
  obtain ⟨q, hq⟩ : ∃ q, (padd m).length = 64 * q := ⟨(padd m).length / 64, by have := padd_len m; omega⟩
  have HQ := Lib.hid hq
  have hqb : q ≤ 100000 := by have := padd_le m; have := HLEN.out; omega
  have HQB := Lib.hid hqb
  have hc1 := HC1.out
  have hc2 := HC2.out
  unfold maxLen at hc2
  rw [hq] at hc1 ⊢
  rw [hq] at HRD
  clear hq hqb
  go_loopw [5] (fun o wr => ∃ n : Nat, n ≤ q ∧ o = .int .i64 (64 * (n : Int)) ∧ Hid (RW w b0 X (hs (blks (padd m) n)) wr)) (fun o _ => 64 * 100000 - (intOf o).toNat)
  case atStart => exact ⟨0, by omega, rfl, HR1⟩
  case round =>
    obtain ⟨n, hn, rfl, hrw⟩ := hrel
    have bq := HQB.out
    by_cases hlt : n < q
    · have hL : (hs (blks (padd m) n)).length = 8 := rfl
      generalize hS : blks (padd m) n = S0 at hrw hL
      have HS := Lib.hid hS
      have HLT := Lib.hid hlt
      have HPL : Hid (64 * n + 64 ≤ (padd m).length) := Lib.hid (by rw [HQ.out]; omega)
      have bn : (n : Int) ≤ 100000 := by omega
      have bn0 : (0 : Int) ≤ 64 * (n : Int) := by omega
      have bn1 : 64 * (n : Int) < 64 * (q : Int) := by omega
      have bn2 : 64 * (n : Int) + 64 ≤ (cap : Int) := by omega
      have bn3 : 64 * n + 64 ≤ cap := by omega
      clear hS hlt hn
      have HBL : Hid ((((padd m).drop (64 * n)).take 64).length = 64) := Lib.hid (by rw [List.length_take, List.length_drop]; have := HPL.out; omega)
      go_upto_region 8 with (first
        | (go_at_call 119; refine (words_r _ (((padd m).drop (64 * n)).take 64) _ (rd_block (HRD.out _ hrw.out.p) (64 * n) HPL.out _ (by omega) (by unfold maxLen; omega)) HBL.out).mono ?_; rintro e w2 ⟨rfl, hb2⟩; have H2 := Lib.hid (hrw.out.on hb2); clear hb2)
        | (refine st_T (T := 146) (row (sch (((padd m).drop (64 * n)).take 64) 64)) (size64 _ (sch_len _ _)) rfl (.tmp 6) (.tmp 28) rfl w2.heap.size (row z64) rfl rfl (row_one _) (by rw [row_size, row_size, sch_len]; exact z64_len) (heap_last _ _ _ rfl) ?_; intro w3 hg3 ho3 hb3; have H3 := Lib.hid (H2.out.on (((Below.refl _ _).alloc (Nat.le_refl _) _).trans (hb3 _ (Nat.le_refl _)))); have HT3 := Lib.hid hg3; clear hg3 ho3 hb3)
        | (refine wpList_load_row rfl 117 (.tmp 3) rfl (w.heap.size + 1) rfl _ _ (0, 0) _ H3.out.s Tryz.underlying117 rfl (size8 _ hL) ?_)
        | (refine st_T (T := 117) (row (hs S0)) (size8 _ hL) rfl (.tmp 7) (.tmp 29) rfl w3.heap.size (row z8) rfl rfl (row_one _) (by rw [row_size, row_size, hL]; rfl) (heap_last _ _ _ rfl) ?_; intro w4 hg4 ho4 hb4; have H4 := Lib.hid (vw_start H2.out H3.out HT3.out (sch_len _ _) hg4 (((Below.refl _ _).alloc (Nat.le_refl _) _).trans (hb4 _ (Nat.le_refl _)))); clear hg4 ho4 hb4))
      have H4' : Hid (∃ gt gv ws, w2.heap.size = gt ∧ w3.heap.size = gv ∧ sch (((padd m).drop (64 * n)).take 64) 64 = ws ∧ VW w b0 X (hs S0) gt gv ws (hs S0) w4) := Lib.hid ⟨_, _, _, rfl, rfl, rfl, H4.out⟩
      obtain ⟨gt, gv, ws, e1, e2, e3, h4⟩ := H4'.out
      have HWS := Lib.hid e3
      have H5 := Lib.hid h4
      rw [e1, e2, e3]
      clear e3 h4 H4 H4' HT3 HBL
      clear e1 e2 H3 H2 hrw
      go_wp2
      go_loopw [8] (fun o wr => ∃ t : Nat, t ≤ 64 ∧ o = .int .i64 t ∧ Hid (VW w b0 X (hs S0) gt gv ws (hs (rnds ws S0 t)) wr)) (fun o _ => 64 - (intOf o).toNat)
      case atStart => exact ⟨0, by omega, rfl, H5⟩
      case round =>
        obtain ⟨t, ht, rfl, hvw⟩ := hrel
        by_cases h64 : t < 64
        · have hd : decide ((t : Int) < 64) = true := by simp; omega
          generalize hst : rnds ws S0 t = st at hvw
          have HST := Lib.hid hst
          have HLT2 := Lib.hid h64
          have c0 : wr.cell? ⟨gv, 0, none⟩ = some (.int .u32 (W32 st.a)) := hvw.out.vc 0 (by decide)
          have c1 : wr.cell? ⟨gv, 1, none⟩ = some (.int .u32 (W32 st.b)) := hvw.out.vc 1 (by decide)
          have c2 : wr.cell? ⟨gv, 2, none⟩ = some (.int .u32 (W32 st.c)) := hvw.out.vc 2 (by decide)
          have c3 : wr.cell? ⟨gv, 3, none⟩ = some (.int .u32 (W32 st.d)) := hvw.out.vc 3 (by decide)
          have c4 : wr.cell? ⟨gv, 4, none⟩ = some (.int .u32 (W32 st.e)) := hvw.out.vc 4 (by decide)
          have c5 : wr.cell? ⟨gv, 5, none⟩ = some (.int .u32 (W32 st.f)) := hvw.out.vc 5 (by decide)
          have c6 : wr.cell? ⟨gv, 6, none⟩ = some (.int .u32 (W32 st.g)) := hvw.out.vc 6 (by decide)
          have c7 : wr.cell? ⟨gv, 7, none⟩ = some (.int .u32 (W32 st.h)) := hvw.out.vc 7 (by decide)
          have ct := hvw.out.tc t h64
          have ck := hvw.out.kc t h64
          have hnx : bits .xor .u32 (W32 st.e) 4294967295 = W32 (~~~st.e) := not_xor _
          have R6 : Hid (∀ (x : UInt32) (w : World), Calls Tryz.prog 120 #[.int .u32 (W32 x), .int .i64 6] w fun e w' => e = .returned (.int .u32 (W32 (rr x 6))) ∧ ∃ n, w' = w.drewN n) := Lib.hid (fun x w => rotr_r x 6 (by omega) (by omega) w)
          have R11 : Hid (∀ (x : UInt32) (w : World), Calls Tryz.prog 120 #[.int .u32 (W32 x), .int .i64 11] w fun e w' => e = .returned (.int .u32 (W32 (rr x 11))) ∧ ∃ n, w' = w.drewN n) := Lib.hid (fun x w => rotr_r x 11 (by omega) (by omega) w)
          have R25 : Hid (∀ (x : UInt32) (w : World), Calls Tryz.prog 120 #[.int .u32 (W32 x), .int .i64 25] w fun e w' => e = .returned (.int .u32 (W32 (rr x 25))) ∧ ∃ n, w' = w.drewN n) := Lib.hid (fun x w => rotr_r x 25 (by omega) (by omega) w)
          have R2 : Hid (∀ (x : UInt32) (w : World), Calls Tryz.prog 120 #[.int .u32 (W32 x), .int .i64 2] w fun e w' => e = .returned (.int .u32 (W32 (rr x 2))) ∧ ∃ n, w' = w.drewN n) := Lib.hid (fun x w => rotr_r x 2 (by omega) (by omega) w)
          have R13 : Hid (∀ (x : UInt32) (w : World), Calls Tryz.prog 120 #[.int .u32 (W32 x), .int .i64 13] w fun e w' => e = .returned (.int .u32 (W32 (rr x 13))) ∧ ∃ n, w' = w.drewN n) := Lib.hid (fun x w => rotr_r x 13 (by omega) (by omega) w)
          have R22 : Hid (∀ (x : UInt32) (w : World), Calls Tryz.prog 120 #[.int .u32 (W32 x), .int .i64 22] w fun e w' => e = .returned (.int .u32 (W32 (rr x 22))) ∧ ∃ n, w' = w.drewN n) := Lib.hid (fun x w => rotr_r x 22 (by omega) (by omega) w)
          clear hst ht bn2 bn3 bn1 hc1 hc2 bn bn0 bq
          go_upto_region 11 with fail
          go_cut [9] from 30 to 117 (fun x wc => x = .int .u32 (W32 (rndX (wd KK t) (wd ws t) st)) ∧ ∃ n, wc = wr.drewN n)
          case first =>
            first | refine allD (by kernel_rfl) (by kernel_rfl) ?_ | refine all0 (by kernel_rfl) (by kernel_rfl) ?_
            repeat (first
              | go_big_quiet_step ((go_at_call 120; exact Calls.quiet_of (R6.out _ _)))
              | go_big_quiet_step ((go_at_call 120; exact Calls.quiet_of (R11.out _ _)))
              | go_big_quiet_step ((go_at_call 120; exact Calls.quiet_of (R25.out _ _))))
            refine wpQuiet_nil ?_
            rintro _ ⟨nq, rfl⟩
            go_wp2
            go_meet
            exact ⟨rfl, _, rfl⟩
          case rest =>
            obtain ⟨rfl, n1, hw⟩ := hcut
            have H6 : Hid (VW w b0 X (hs S0) gt gv ws (hs st) wc) := Lib.hid (by rw [hw]; exact hvw.out.drew n1)
            clear hw hvw c0 c1 c2 c3 c4 c5 c6 c7 ct ck hnx R6 R11 R25
            obtain ⟨XX, hX⟩ : ∃ XX, XX = rndX (wd KK t) (wd ws t) st := ⟨_, rfl⟩
            have HX := Lib.hid hX
            rw [← hX]
            clear hX
            have c0 : wc.cell? ⟨gv, 0, none⟩ = some (.int .u32 (W32 st.a)) := H6.out.vc 0 (by decide)
            have c1 : wc.cell? ⟨gv, 1, none⟩ = some (.int .u32 (W32 st.b)) := H6.out.vc 1 (by decide)
            have c2 : wc.cell? ⟨gv, 2, none⟩ = some (.int .u32 (W32 st.c)) := H6.out.vc 2 (by decide)
            go_upto_region 12 with fail
            go_cut [10] from 30 to 117 (fun y wf => y = .int .u32 (W32 (rndY st)) ∧ ∃ n, wf = wc.drewN n)
            case first =>
              first | refine allD (by kernel_rfl) (by kernel_rfl) ?_ | refine all0 (by kernel_rfl) (by kernel_rfl) ?_
              repeat (first
                | go_big_quiet_step ((go_at_call 120; exact Calls.quiet_of (R2.out _ _)))
                | go_big_quiet_step ((go_at_call 120; exact Calls.quiet_of (R13.out _ _)))
                | go_big_quiet_step ((go_at_call 120; exact Calls.quiet_of (R22.out _ _))))
              refine wpQuiet_nil ?_
              rintro _ ⟨nq, rfl⟩
              go_wp2
              go_meet
              exact ⟨rfl, _, rfl⟩
            case rest =>
              obtain ⟨rfl, n2, hw⟩ := hcut
              have H7 := Lib.hid (H6.out.drew n2)
              rw [← hw] at H7
              clear hw c0 c1 c2 R2 R13 R22
              obtain ⟨YY, hY⟩ : ∃ YY, YY = rndY st := ⟨_, rfl⟩
              have HY := Lib.hid hY
              rw [← hY]
              clear hY
              have c0 : wc.cell? ⟨gv, 0, none⟩ = some (.int .u32 (W32 st.a)) := H7.out.vc 0 (by decide)
              have c1 : wc.cell? ⟨gv, 1, none⟩ = some (.int .u32 (W32 st.b)) := H7.out.vc 1 (by decide)
              have c2 : wc.cell? ⟨gv, 2, none⟩ = some (.int .u32 (W32 st.c)) := H7.out.vc 2 (by decide)
              have c3 : wc.cell? ⟨gv, 3, none⟩ = some (.int .u32 (W32 st.d)) := H7.out.vc 3 (by decide)
              have c4 : wc.cell? ⟨gv, 4, none⟩ = some (.int .u32 (W32 st.e)) := H7.out.vc 4 (by decide)
              have c5 : wc.cell? ⟨gv, 5, none⟩ = some (.int .u32 (W32 st.f)) := H7.out.vc 5 (by decide)
              have c6 : wc.cell? ⟨gv, 6, none⟩ = some (.int .u32 (W32 st.g)) := H7.out.vc 6 (by decide)
              clear hd
              have hr8 : (row (hs st)).size = 8 := row_size (hs st)
              go_wp2_with (first
                | (refine bld_8 rfl (.tmp 100) (.tmp 102) (.tmp 104) (.tmp 106) (.tmp 110) (.tmp 112) (.tmp 114) (.tmp 116) rfl (XX + YY) st.a st.b st.c (st.d + XX) st.e st.f st.g rfl rfl rfl rfl rfl rfl rfl rfl ?_)
                | (refine st_T (T := 117) (q8 (XX + YY) st.a st.b st.c (st.d + XX) st.e st.f st.g) info8 rfl (.tmp 7) (.tmp 117) rfl gv (row (hs st)) rfl rfl (one_q8 _ _ _ _ _ _ _ _) hr8 H7.out.v ?_; intro wd hgd hod hbd; have H8 := Lib.hid (H7.out.setV (V' := hs ⟨XX + YY, st.a, st.b, st.c, st.d + XX, st.e, st.f, st.g⟩) rfl (by rw [q8_row]; exact hgd) hod hbd); clear hgd hod hbd))
              go_roundw
              case rel => exact ⟨t + 1, by have := HLT2.out; omega, by go_num, Lib.hid (by rw [rnds_succ' ws S0 t, HST.out]; unfold rnd; rw [← HX.out, ← HY.out]; exact H8.out)⟩
              case measure => have := HLT2.out; simp [intOf]; omega
        · have he : t = 64 := by omega
          subst he
          obtain ⟨vz, hvz⟩ : ∃ vz, vz = rnds ws S0 64 := ⟨_, rfl⟩
          have HVZ := Lib.hid hvz
          rw [← hvz] at hvw
          clear hvz h64 ht hc1 hc2 bn2 bn3 bn1 bn bn0 bq
          go_wp2
          go_loopw [11] (fun o wr => ∃ i : Nat, i ≤ 8 ∧ o = .int .i64 i ∧ Hid (VW w b0 X (addV (hs S0) (hs vz) i) gt gv ws (hs vz) wr)) (fun o _ => 8 - (intOf o).toNat)
          case atStart => exact ⟨0, by omega, rfl, hvw⟩
          case round =>
            obtain ⟨i, hi, rfl, H⟩ := hrel
            by_cases h8 : i < 8
            · have hd : decide ((i : Int) < 8) = true := by simp; omega
              have s0 := H.out.sc i h8
              rw [addV_at S0 vz i h8] at s0
              have v0 := H.out.vc i h8
              have f0 := frozen_of_row _ _ i _ _ H.out.s
              clear hvw
              go_wp2
              first | refine tailD 9 (by kernel_rfl) (by kernel_rfl) ?_ | refine tail0 9 (by kernel_rfl) (by kernel_rfl) ?_
              simp only [List.take_succ_cons, List.take_zero, List.drop_succ_cons, List.drop_zero]
              repeat (go_big_quiet_step (fail))
              refine wpQuiet_nil ?_
              rintro _ ⟨nq, rfl⟩
              go_wp2
              go_roundw
              case rel => exact ⟨i + 1, h8, by go_num, Lib.hid (by rw [← addV_set S0 vz i h8]; exact (H.out.drew nq).setS H0.out i _)⟩
              case measure => simp [intOf]; omega
            · have he8 : i = 8 := by omega
              subst he8
              have hd : decide (((8 : Nat) : Int) < 8) = false := by decide
              have HF : Hid (RW w b0 X (hs (blks (padd m) (n + 1))) wr) := Lib.hid (by rw [blks_succ' (padd m) n, HS.out, HWS.out, ← HVZ.out]; exact H.out.toRW)
              have bnn : (n : Int) ≤ 100000 := by have := HLT.out; have := HQB.out; omega
              have bnn0 : (0 : Int) ≤ 64 * (n : Int) := by omega
              clear hvw h8 hi
              go_wp2
              go_roundw
              case rel => exact ⟨n + 1, HLT.out, by go_num, HF⟩
              case measure => have := HLT.out; have := HQB.out; simp [intOf]; omega
    · have he : n = q := by omega
      subst he
      have HS1 : Hid (sha m = hbytes (blks (padd m) n)) := Lib.hid (by rw [sha_def, HQ.out, Nat.mul_div_cancel_left _ (by decide)])
      generalize blks (padd m) n = s1 at hrw HS1
      clear hn bq hc1 hc2 hz64 hz8
      have hd : decide (64 * (n : Int) < 64 * (n : Int)) = false := by simp
      go_wp2
      go_loopw [13] (fun o wr' => ∃ i : Nat, i ≤ 32 ∧ o = .int .i64 i ∧ Hid (OW w s1 wr.heap.size i wr')) (fun o _ => 32 - (intOf o).toNat)
      case atStart => exact ⟨0, by omega, rfl, Lib.hid (ow_start hrw.out)⟩
      case round =>
        obtain ⟨i, hi, rfl, how⟩ := hrel
        clear hd
        by_cases h32 : i < 32
        · obtain ⟨q, r, hqr, hq8, hr4⟩ : ∃ q r, i = 4 * q + r ∧ q < 8 ∧ r < 4 := ⟨i / 4, i % 4, by omega, by omega, by omega⟩
          have hcx := how.out.sc q hq8
          have hfz := frozen_of_row _ _ i _ _ how.out.o
          have hq : (i : Int) / 4 = (q : Int) := by omega
          have hbx : (hbytes s1)[i]? = (w4 (w16 (hs s1) q))[r]? := by rw [hqr]; exact hb_at s1 q r hq8 hr4
          have hL : i < 32 := h32
          have hcell := cell_of_row _ _ i _ _ _ how.out.o
          rw [brow_at _ _ (by rw [outr_len _ _ hi]; exact h32)] at hcell
          have hr : (i : Int) % 4 = (r : Int) := by omega
          generalize w16 (hs s1) q = x at hcx hbx
          have HQR := Lib.hid hqr
          clear hqr
          rcases (by omega : r = 0 ∨ r = 1 ∨ r = 2 ∨ r = 3) with rfl | rfl | rfl | rfl
          · have HX : Hid ((hbytes s1)[i]? = some (shr x 24).toUInt8) := Lib.hid hbx
            clear hbx
            go_wp2
            go_roundw
            case rel => exact ⟨i + 1, h32, by go_num, Lib.hid (how.out.next h32 _ HX.out)⟩
            case measure => simp [intOf]; omega
          · have HX : Hid ((hbytes s1)[i]? = some (shr x 16).toUInt8) := Lib.hid hbx
            clear hbx
            go_wp2
            go_roundw
            case rel => exact ⟨i + 1, h32, by go_num, Lib.hid (how.out.next h32 _ HX.out)⟩
            case measure => simp [intOf]; omega
          · have HX : Hid ((hbytes s1)[i]? = some (shr x 8).toUInt8) := Lib.hid hbx
            clear hbx
            go_wp2
            go_roundw
            case rel => exact ⟨i + 1, h32, by go_num, Lib.hid (how.out.next h32 _ HX.out)⟩
            case measure => simp [intOf]; omega
          · have HX : Hid ((hbytes s1)[i]? = some x.toUInt8) := Lib.hid hbx
            clear hbx
            go_wp2
            go_roundw
            case rel => exact ⟨i + 1, h32, by go_num, Lib.hid (how.out.next h32 _ HX.out)⟩
            case measure => simp [intOf]; omega
        · have h32' : i = 32 := by omega
          subst h32'
          have HLX : (outr s1 32).length = 32 := outr_len _ _ (Nat.le_refl _)
          clear h32 hi
          go_wp2_with (first
            | (refine wpList_load_row rfl 114 (.tmp 12) rfl _ rfl _ _ (0, 0) _ how.out.o Tryz.underlying114 rfl (size32 _ HLX) ?_)
            | (refine st_T (T := 114) (brow (outr s1 32)) (size32 _ HLX) rfl (.tmp 2) (.tmp 147) rfl w.heap.size (brow z32) rfl rfl (brow_one _) (by rw [brow_size, brow_size, HLX]; rfl) how.out.r ?_; intro we hge hoe hbe))
          (try simp only [Exit.inBlock, Exit.then])
          refine bodyPost_ret (results_cell_row rfl _ _ w.heap.size _ (brow (outr s1 32)) (0, 0) _ rfl hge Tryz.underlying114 rfl (size32 _ HLX)) rfl ?_
          exact ⟨by rw [outr_all, HS1.out], how.out.below.trans (hbe _ (Nat.le_refl _))⟩
end Go.Proofs.YtbpjdfnnlmblaaaGreatDoor
/- The specification's authentication code. -/
namespace Go.Proofs.YtbpjdfnnlmblaaaGreatDoor
open Go.RowKit
set_option linter.unusedSimpArgs false
set_option linter.unusedVariables false
attribute [local irreducible] Calls brow sha
set_option maxRecDepth 100000 in
set_option maxHeartbeats 2000000 in
theorem bytes32_r (l : List UInt8) (hl : l.length = 32) (w : World) : Calls Tryz.prog 103 #[.agg (brow l)] w fun e w' => e = .returned (.string ⟨l.toArray⟩) ∧ Below w.heap.size w w' := by
  have HL := Lib.hid hl
  have HG : Hid ((w.alloc (.cells (brow l) 114)).heap[w.heap.size]? = some (.cells (brow l) 114 (0, 0))) := Lib.hid (heap_last _ _ _ rfl)
  have HB : Hid (Below w.heap.size w (w.alloc (.cells (brow l) 114))) := Lib.hid ((Below.refl _ _).alloc (Nat.le_refl _) _)
  have hbx := size32 l hl
  go_enter Tryz.func103, Tryz.ntmps103
  go_upto_region 3 with fail
  go_loopw [4, 3] (fun o u wr => ∃ i : Nat, i ≤ 32 ∧ o = .int .i64 i ∧ (∃ a cap, u = .slice a i cap) ∧ Hid (OwnE eB wr (w.heap.size + 1) u (l.take i)) ∧ Hid (wr.heap[w.heap.size]? = some (.cells (brow l) 114 (0, 0))) ∧ Hid (Below w.heap.size w wr)) (fun o _ _ => 32 - (intOf o).toNat)
  case atStart => exact ⟨0, by omega, rfl, ⟨_, _, rfl⟩, Lib.hid (by rw [List.take_zero]; exact OwnE.nil _ _), HG, HB⟩
  case round =>
    obtain ⟨i, hi, rfl, ⟨a, cap, rfl⟩, hown, hg, hb⟩ := hrel
    clear HG HB
    have HW : Hid (w.heap.size + 1 ≤ wr.heap.size) := Lib.hid (Array.getElem?_eq_some_iff.1 hg.out).1
    by_cases h32 : i < 32
    · have hd : decide ((i : Int) < 32) = true := by simp; omega
      have hcell := cell_of_row _ _ i _ _ _ hg.out
      rw [brow_at _ _ (by rw [hl]; exact h32)] at hcell
      have et : l.take (i + 1) = l.take i ++ [byteAt l i] := by rw [List.take_add_one, List.getElem?_eq_getElem (by omega), byteAt_eq l i (by omega)]; rfl
      have ET := Lib.hid et
      generalize byteAt l i = c at hcell et ET
      have HI := Lib.hid h32
      clear et hi
      go_wp2_with (at_builtin; refine app_e eB_ok rfl (.tmp 9) (.tmp 13) rfl (w.heap.size + 1) _ _ rfl (hown.out.on ((Below.refl _ _).alloc (Nat.le_refl _) _)) (.slice (some ⟨wr.heap.size, 0, none⟩) 1 1) [c] rfl (one_e wr c eB_ok) (by rw [List.length_take, HL.out]; simp; omega) (by have := HW.out; simp; omega) ?_; intro v5 w4 ho4 hg4 hloc; have HB4 := Lib.hid (((Below.refl wr.heap.size wr).alloc (Nat.le_refl _) (.cells #[.int .u8 (B8 c)] 5)).mono HW.out |>.trans ((hown.out.on ((Below.refl _ _).alloc (Nat.le_refl _) _)).below hg4 (by have := HW.out; simp; omega))); have HO4 := Lib.hid ho4; clear ho4 hg4 hloc)
      go_roundw
      case rel => exact ⟨i + 1, HI.out, by go_num, HO4.out.rd.form1 (by rw [List.length_append, List.length_take, HL.out]; have := HI.out; simp; omega), Lib.hid (by rw [ET.out]; exact HO4.out), Lib.hid (by rw [HB4.out.block _ (by omega)]; exact hg.out), Lib.hid (hb.out.trans (HB4.out.mono (by omega)))⟩
      case measure => have := HI.out; simp [intOf]; omega
    · have he : i = 32 := by omega
      subst he
      have hd : decide (((32 : Nat) : Int) < 32) = false := by decide
      have hcv := conv_e hown.out.rd
      rw [List.take_of_length_le (by omega)] at hcv
      clear h32 hi
      go_wp2
      go_ret
      exact ⟨rfl, hb.out⟩
set_option maxRecDepth 100000 in
set_option maxHeartbeats 2000000 in
theorem padKey_r (k : List UInt8) (c : UInt8) (w : World) (hk : K0At w) (hl : k.length ≤ 400000) :
    Calls Tryz.prog 102 #[.string ⟨k.toArray⟩, .int .u8 (B8 c)] w fun e w' => ∃ v', e = .returned v' ∧ OwnE eB w' w.heap.size v' (padK (shortK k) c) ∧ Below w.heap.size w w' := by
  have HL := Lib.hid hl
  have HK := Lib.hid hk
  clear hl hk
  go_enter Tryz.func102, Tryz.ntmps102
  go_upto_if 12 with fail
  go_cut [5, 12] from 13 to 16 (fun s _ wc => s = .string ⟨(shortK k).toArray⟩ ∧ Hid (Below w.heap.size w wc))
  case first =>
    by_cases h64 : k.length ≤ 64
    · have i1 : ¬ (64 : Int) < k.length := by omega
      have hs : shortK k = k := by unfold shortK; rw [if_pos h64]
      go_wp2
      all_goals go_meet
      case rel => exact ⟨by rw [hs], Lib.hid (Below.refl _ _)⟩
    · have i1 : (64 : Int) < k.length := by omega
      have HS : Hid (shortK k = sha k) := Lib.hid (by unfold shortK; rw [if_neg h64])
      have hcv := conv_sb w k
      have HSB := Lib.hid (sb_below w k)
      have HRD := Lib.hid (sb_rd w k (by have := HL.out; unfold maxLen; omega))
      generalize Lib.bytesWorld w 5 ⟨k.toArray⟩ = ws at hcv HSB HRD
      go_wp2_with (first
        | (go_at_call 104; refine (sum_r _ k _ HRD.out (HK.out.on HSB.out) HL.out).mono ?_; rintro e w1 ⟨rfl, hb1⟩; have HB1 := Lib.hid ((HSB.out).trans (hb1.mono HSB.out.size)); clear hb1)
        | (go_at_call 103; refine (bytes32_r (sha k) (sha_len k) _).mono ?_; rintro e w2 ⟨rfl, hb2⟩; have HB2 := Lib.hid ((HB1.out).trans (hb2.mono HB1.out.size)); clear hb2))
      go_meet
      case rel => exact ⟨by rw [HS.out], HB2⟩
  case rest =>
    obtain ⟨rfl, hbc⟩ := hcut
    have HPL : Hid ((shortK k).length ≤ 64) := Lib.hid (by unfold shortK; split; assumption; rw [sha_len]; omega)
    generalize hsk : shortK k = sk at HPL ⊢
    have HSK := Lib.hid hsk
    clear hsk
    have hpl := HPL.out
    have hpi : (sk.length : Int) ≤ 64 := by omega
    go_wp2
    go_loopw [7, 6] (fun o u wr => ∃ i : Nat, i ≤ 64 ∧ o = .int .i64 i ∧ (∃ a cap, u = .slice a i cap) ∧ Hid (OwnE eB wr w.heap.size u ((padK sk c).take i)) ∧ Hid (Below w.heap.size w wr)) (fun o _ _ => 64 - (intOf o).toNat)
    case atStart => exact ⟨0, by omega, rfl, ⟨_, _, rfl⟩, Lib.hid (by rw [List.take_zero]; exact OwnE.nil _ _), hbc⟩
    case round =>
      obtain ⟨i, hi, rfl, ⟨a, cap, rfl⟩, hown, hb⟩ := hrel
      have HW := Lib.hid hb.out.size
      by_cases h64 : i < 64
      · have hd : decide ((i : Int) < 64) = true := by simp; omega
        have et : (padK sk c).take (i + 1) = (padK sk c).take i ++ [byteAt sk i ^^^ c] := by
          have hp : (padK sk c)[i]? = some (byteAt sk i ^^^ c) := by
            unfold padK
            rw [List.getElem?_map, List.getElem?_range h64]
            rfl
          rw [List.take_add_one, hp]
          rfl
        have ET := Lib.hid et
        have HI := Lib.hid h64
        clear et hi
        by_cases hik : i < sk.length
        · have i2 : (i : Int) < sk.length := by omega
          have i3 : i < (ByteArray.mk sk.toArray).size := hik
          go_wp2_with (at_builtin; refine app_e eB_ok rfl (.tmp 28) (.tmp 32) rfl w.heap.size _ _ rfl (hown.out.on ((Below.refl _ _).alloc (Nat.le_refl _) _)) (.slice (some ⟨wr.heap.size, 0, none⟩) 1 1) [byteAt sk i ^^^ c] rfl (one_e wr (byteAt sk i ^^^ c) eB_ok) (by rw [List.length_take, padK_len]; simp; omega) (by have := HW.out; simp; omega) ?_; intro v5 w4 ho4 hg4 hloc; have HB4 := Lib.hid (hb.out.trans (((Below.refl wr.heap.size wr).alloc (Nat.le_refl _) (.cells #[.int .u8 (B8 (byteAt sk i ^^^ c))] 5)).mono HW.out |>.trans ((hown.out.on ((Below.refl _ _).alloc (Nat.le_refl _) _)).below hg4 (by have := HW.out; simp; omega)))); have HO4 := Lib.hid ho4; clear ho4 hg4 hloc)
          go_roundw
          case rel => exact ⟨i + 1, HI.out, by go_num, HO4.out.rd.form1 (by rw [List.length_append, List.length_take, padK_len]; have := HI.out; simp; omega), Lib.hid (by rw [ET.out]; exact HO4.out), HB4⟩
          case measure => have := HI.out; simp [intOf]; omega
        · have i2 : ¬ (i : Int) < sk.length := by omega
          have hz : byteAt sk i = 0 := by unfold byteAt; rw [List.getD_eq_getElem?_getD, List.getElem?_eq_none (by omega)]; rfl
          have hx : bits .xor .u8 0 (B8 c) = B8 (0 ^^^ c) := u8_xor_u8 0 c
          rw [hz] at ET
          generalize (0 ^^^ c : UInt8) = d at ET hx
          clear hz
          go_wp2_with (at_builtin; refine app_e eB_ok rfl (.tmp 28) (.tmp 32) rfl w.heap.size _ _ rfl (hown.out.on ((Below.refl _ _).alloc (Nat.le_refl _) _)) (.slice (some ⟨wr.heap.size, 0, none⟩) 1 1) [d] rfl (one_e wr d eB_ok) (by rw [List.length_take, padK_len]; simp; omega) (by have := HW.out; simp; omega) ?_; intro v5 w4 ho4 hg4 hloc; have HB4 := Lib.hid (hb.out.trans (((Below.refl wr.heap.size wr).alloc (Nat.le_refl _) (.cells #[.int .u8 (B8 d)] 5)).mono HW.out |>.trans ((hown.out.on ((Below.refl _ _).alloc (Nat.le_refl _) _)).below hg4 (by have := HW.out; simp; omega)))); have HO4 := Lib.hid ho4; clear ho4 hg4 hloc)
          go_roundw
          case rel => exact ⟨i + 1, HI.out, by go_num, HO4.out.rd.form1 (by rw [List.length_append, List.length_take, padK_len]; have := HI.out; simp; omega), Lib.hid (by rw [ET.out]; exact HO4.out), HB4⟩
          case measure => have := HI.out; simp [intOf]; omega
      · have he : i = 64 := by omega
        subst he
        have hd : decide (((64 : Nat) : Int) < 64) = false := by decide
        have HR : Hid (OwnE eB wr w.heap.size (.slice a 64 cap) (padK sk c)) := Lib.hid (by have h := hown.out; rw [List.take_of_length_le (Nat.le_of_eq (padK_len sk c))] at h; exact h)
        clear h64 hi
        go_wp2
        go_ret
        exact ⟨_, rfl, by rw [HSK.out]; exact HR.out, hb.out⟩
set_option maxRecDepth 100000 in
set_option maxHeartbeats 2000000 in
theorem mac_r (k t : List UInt8) (w : World) (hk : K0At w) (hl : k.length ≤ 400000) (ht : t.length ≤ 300000) :
    Calls Tryz.prog 69 #[.string ⟨k.toArray⟩, .string ⟨t.toArray⟩] w fun e w' => e = .returned (.string ⟨(mac k t).toArray⟩) ∧ Below w.heap.size w w' := by
  have HL := Lib.hid hl
  have HT := Lib.hid ht
  have HK := Lib.hid hk
  have hm : mac k t = sha (padK (shortK k) 92 ++ sha (padK (shortK k) 54 ++ t)) := rfl
  have HM := Lib.hid hm
  clear hl hk ht hm
  go_enter Tryz.func69, Tryz.ntmps69
  have tok1 : True := trivial
  have tok2 : True := trivial
  have tok3 : True := trivial
  have tok4 : True := trivial
  go_wp2_with (first
    | (go_at_call 102; clear tok1; refine (padKey_r k 54 _ HK.out HL.out).mono ?_; rintro e w1 ⟨v1, rfl, ho1, hb1⟩; have HO1 := Lib.hid ho1; have HB1 := Lib.hid hb1; clear ho1 hb1)
    | (at_builtin; clear tok2; refine app_s rfl (.tmp 9) (.tmp 10) rfl w.heap.size _ (padK (shortK k) 54) rfl HO1.out t rfl (by rw [padK_len]; have := HT.out; omega) HB1.out.size ?_; intro v2 w2 ho2 hg2; have HB2 := Lib.hid (HB1.out.trans (HO1.out.below hg2 HB1.out.size)); have HO2 := Lib.hid ho2; clear ho2 hg2)
    | (go_at_call 102; clear tok3; refine (padKey_r k 92 _ (HK.out.on HB2.out) HL.out).mono ?_; rintro e w3 ⟨v3, rfl, ho3, hb3⟩; have HO3 := Lib.hid ho3; have HI3 := Lib.hid ((HO2.out.on hb3).rd); have HB3 := Lib.hid (HB2.out.trans (hb3.mono HB2.out.size)); have HW3 := Lib.hid hb3.size; clear ho3 hb3)
    | (go_at_call 104; clear tok4; refine (sum_r _ (padK (shortK k) 54 ++ t) _ HI3.out (HK.out.on HB3.out) (by rw [List.length_append, padK_len]; have := HT.out; omega)).mono ?_; rintro e w4 ⟨rfl, hb4⟩; have HB4 := Lib.hid (HB3.out.trans (hb4.mono HB3.out.size)); have HO4 := Lib.hid (HO3.out.on hb4); have HW4 := Lib.hid (Nat.le_trans HW3.out hb4.size); clear hb4; generalize hinn : sha (padK (shortK k) 54 ++ t) = inn; have HIN := Lib.hid hinn; have HIL : Hid (inn.length = 32) := (Lib.hid (by rw [← hinn]; exact sha_len _)); clear hinn)
    | (go_at_call 103; refine (bytes32_r inn HIL.out _).mono ?_; rintro e w5 ⟨rfl, hb5⟩; have HB5 := Lib.hid (HB4.out.trans (hb5.mono HB4.out.size)); have HO5 := Lib.hid (HO4.out.on hb5); have HW5 := Lib.hid (Nat.le_trans HW4.out hb5.size); clear hb5)
    | (at_builtin; refine app_s rfl (.tmp 14) (.tmp 17) rfl w2.heap.size _ (padK (shortK k) 92) rfl HO5.out inn rfl (by rw [padK_len, HIL.out]; decide) HW5.out ?_; intro v6 w6 ho6 hg6; have HB6 := Lib.hid (HB5.out.trans ((HO5.out.below hg6 HW5.out).mono HB2.out.size)); have HO6 := Lib.hid ho6; clear ho6 hg6)
    | (go_at_call 104; refine (sum_r _ (padK (shortK k) 92 ++ inn) _ HO6.out.rd (HK.out.on HB6.out) (by rw [List.length_append, padK_len, HIL.out]; decide)).mono ?_; rintro e w7 ⟨rfl, hb7⟩; have HB7 := Lib.hid (HB6.out.trans (hb7.mono HB6.out.size)); clear hb7; generalize hout : sha (padK (shortK k) 92 ++ inn) = out; have HOU := Lib.hid hout; have HOL : Hid (out.length = 32) := (Lib.hid (by rw [← hout]; exact sha_len _)); clear hout)
    | (go_at_call 103; refine (bytes32_r out HOL.out _).mono ?_; rintro e w8 ⟨rfl, hb8⟩; have HB8 := Lib.hid (HB7.out.trans (hb8.mono HB7.out.size)); clear hb8))
  go_ret
  exact ⟨by rw [HM.out, HIN.out, HOU.out]; rfl, HB8.out⟩
end Go.Proofs.YtbpjdfnnlmblaaaGreatDoor
/- The specification's encodings. -/
namespace Go.Proofs.YtbpjdfnnlmblaaaGreatDoor
open Go.RowKit
set_option linter.unusedSimpArgs false
set_option linter.unusedVariables false
attribute [local irreducible] Calls
theorem b8_sub (c : UInt8) : 255 - B8 c = B8 (c ^^^ 255) := by
  rw [← xor255]
  unfold B8
  have h := c.toNat_lt
  rw [UInt8.toNat_sub]
  show (255 : Int) - (c.toNat : Int) = ((2 ^ 8 - c.toNat + 255) % 2 ^ 8 : Nat)
  omega
theorem leN_b (M j : Nat) : ((M / 256 ^ j : Nat) : Int) % 256 = B8 (UInt8.ofNat (M / 256 ^ j)) := by rw [b8_of]
set_option maxRecDepth 100000 in
set_option maxHeartbeats 4000000 in
theorem int_r (n : Int) (hlo : -9223372036854775808 ≤ n) (hhi : n < 9223372036854775808) (w : World) :
    Calls Tryz.prog 72 #[.int .i64 n] w fun e w' => ∃ v', e = .returned v' ∧ OwnE eB w' w.heap.size v' (encI n) ∧ Below w.heap.size w w' := by
  obtain ⟨M, F, hM, hE, hs⟩ : ∃ (M : Nat) (F : UInt8), M < 9223372036854775808 ∧ encI n = encM M F ∧ ((0 ≤ n ∧ n = M ∧ F = 0) ∨ (n < 0 ∧ (-1 - n) = M ∧ F = 255)) := by
    by_cases h : 0 ≤ n
    · exact ⟨n.toNat, 0, by omega, by unfold encI; rw [if_pos h], .inl ⟨h, by omega, rfl⟩⟩
    · exact ⟨(-1 - n).toNat, 255, by omega, by unfold encI; rw [if_neg h], .inr ⟨by omega, by omega, rfl⟩⟩
  have HE := Lib.hid hE
  have HM := Lib.hid hM
  have HS := Lib.hid hs
  go_enter Tryz.func72, Tryz.ntmps72
  go_upto_if 11 with fail
  go_cut [3, 11] from 12 to 13 (fun m _ wc => m = .int .i64 (M : Int) ∧ wc = w)
  case first =>
    rcases hs with ⟨h0, h1, rfl⟩ | ⟨h0, h1, rfl⟩
    · have i1 : ¬ n < 0 := by omega
      have H1 := Lib.hid h1
      clear h1
      go_wp2
      all_goals go_meet
      case rel => exact ⟨by rw [H1.out], rfl⟩
    · have H1 := Lib.hid h1
      have e1 : IntKind.i64.wrap (-1 - n) = -1 - n := by rw [IntKind.wrap_i64]; omega
      clear h1
      go_wp2
      all_goals go_meet
      case rel => exact ⟨by rw [H1.out], rfl⟩
  case rest =>
    obtain ⟨rfl, hw⟩ := hcut
    rw [hw]
    clear hw hs hE
    go_wp2
    go_loopw [3, 4] (fun o u wr => ∃ j : Nat, (j = 0 ∨ 256 ^ (j - 1) ≤ M) ∧ (∃ x : Int, o = .int .i64 x ∧ Hid (x = ((M / 256 ^ j : Nat) : Int))) ∧ (∃ a cap, u = .slice a j cap) ∧ Hid (OwnE eB wr w.heap.size u (leN M j)) ∧ Hid (Below w.heap.size w wr)) (fun o _ _ => (intOf o).toNat)
    case atStart => exact ⟨0, .inl rfl, ⟨_, rfl, Lib.hid (by simp)⟩, ⟨_, _, rfl⟩, Lib.hid (OwnE.nil _ _), Lib.hid (Below.refl _ _)⟩
    case round =>
      obtain ⟨j, hj, ⟨x, rfl, hx⟩, ⟨a, cap, rfl⟩, hown, hb⟩ := hrel
      have HJ := Lib.hid hj
      have HX0 := hx.out
      have HW := Lib.hid hb.out.size
      have hj8 : j ≤ 8 := by
        rcases hj with rfl | hj
        · omega
        · rcases Nat.lt_or_ge 8 j with h | h
          · exfalso
            have h1 : 256 ^ 8 ≤ 256 ^ (j - 1) := Nat.pow_le_pow_right (by decide) (by omega)
            have h2 : (256 : Nat) ^ 8 = 18446744073709551616 := by decide
            omega
          · exact h
      have HJ8 := Lib.hid hj8
      have hdn := div_next M j
      have hlb := leN_b M j
      have hln := leN_next M j
      have hqm : M / 256 ^ j ≤ M := Nat.div_le_self _ _
      rw [← HX0] at hlb
      generalize hq : M / 256 ^ j = q at hdn hln hqm HX0
      have HXQ := Lib.hid HX0
      have HQ := Lib.hid hq
      generalize hc : UInt8.ofNat (M / 256 ^ j) = c at hlb
      have hc2 : UInt8.ofNat q = c := by rw [← hq]; exact hc
      rw [hc2] at hln
      clear hj hq hc hc2
      by_cases h0 : 0 < q
      · have i1 : (0 : Int) < x := by omega
        have hqi : x < 9223372036854775808 := by omega
        have hqd : Hid (x / 256 = ((q / 256 : Nat) : Int)) := Lib.hid (by omega)
        have em : B8 c % 256 = B8 c := B8_mod c
        have HDN := Lib.hid hdn
        have HLN := Lib.hid hln
        have HP := Lib.hid h0
        clear hdn hln hqm hM h0 hj8 HX0
        go_wp2_with (at_builtin; go_loud (refine app_e eB_ok rfl (.tmp 16) (.tmp 20) rfl w.heap.size _ _ rfl (hown.out.on ((Below.refl _ _).alloc (Nat.le_refl _) _)) (.slice (some ⟨wr.heap.size, 0, none⟩) 1 1) [c] rfl (one_e wr c eB_ok) (by rw [leN_len]; have := HJ8.out; simp; omega) (by have := HW.out; simp; omega) ?_); intro v5 w4 ho4 hg4 hloc; have HB4 := Lib.hid (hb.out.trans (((Below.refl wr.heap.size wr).alloc (Nat.le_refl _) (.cells #[.int .u8 (B8 c)] 5)).mono HW.out |>.trans ((hown.out.on ((Below.refl _ _).alloc (Nat.le_refl _) _)).below hg4 (by have := HW.out; simp; omega)))); have HO4 := Lib.hid ho4; clear ho4 hg4 hloc)
        go_roundw
        case rel =>
          refine ⟨j + 1, .inr ?_, ⟨_, rfl, Lib.hid (by rw [hqd.out, HDN.out])⟩, HO4.out.rd.form1 (by rw [List.length_append, leN_len]; rfl), Lib.hid (by rw [HLN.out]; exact HO4.out), HB4⟩
          have h1 := HQ.out
          have h2 := HP.out
          rw [Nat.add_sub_cancel]
          rw [← h1] at h2
          exact (Nat.div_pos_iff.1 h2).2
        case measure => have := HP.out; have := HXQ.out; simp [intOf]; omega
      · have hq0 : q = 0 := by omega
        subst hq0
        have hx0 : x = 0 := by simpa using HX0
        subst hx0
        have HKN : Hid (nb M = j) := Lib.hid (nb_is M j HJ8.out ((Nat.div_eq_zero_iff.1 HQ.out).resolve_left (Nat.pos_iff_ne_zero.1 (Nat.pow_pos (by decide)))) HJ.out)
        have HLE : Hid (leN M (nb M) = leN M j) := Lib.hid (by rw [HKN.out])
        clear hdn hlb hln hqm h0 hM HX0
        have hji : (j : Int) ≤ 8 := by omega
        go_upto_if 27 with fail
        have hrd := hown.out.rd
        have HDG := Lib.hid (fun (u : World) (h : Below wr.heap.size wr u) => hrd.on h)
        clear hrd
        obtain ⟨hne, hF⟩ : (n < 0 → F = 255) ∧ (¬ n < 0 → F = 0) := ⟨fun h => by rcases HS.out with h1 | h1; omega; exact h1.2.2, fun h => by rcases HS.out with h1 | h1; exact h1.2.2; omega⟩
        have HNE := Lib.hid hne
        have HF := Lib.hid hF
        have HBW := hb
        clear hne hF hown
        go_cut [6, 27] from 28 to 39 (fun u _ wx => (∃ a cap, u = .slice a 1 cap) ∧ Hid (OwnE eB wx wr.heap.size u ((encM M F).take 1)) ∧ Hid (Below wr.heap.size wr wx))
        case first =>
          by_cases hn : n < 0
          · have i1 : ¬ 0 ≤ n := by omega
            have hd1 : 127 - (j : Int) = B8 (UInt8.ofNat (127 - j)) := by rw [b8_of]; omega
            have HT : Hid ((encM M F).take 1 = [UInt8.ofNat (127 - j)]) := Lib.hid (by rw [encM_one, HNE.out hn, HKN.out, head255 j HJ8.out])
            generalize UInt8.ofNat (127 - j) = d at hd1 HT
            have em : B8 d % 256 = B8 d := B8_mod d
            clear hn
            go_wp2_with (at_builtin; go_loud (refine app_e eB_ok rfl (.tmp 34) (.tmp 38) rfl wr.heap.size (.slice none 0 0) [] rfl (OwnE.nil _ _) (.slice (some ⟨wr.heap.size, 0, none⟩) 1 1) [d] rfl (one_e wr d eB_ok) (by simp) (by simp) ?_); intro v5 w4 ho4 hg4 hloc; have HB4 := Lib.hid (((Below.refl wr.heap.size wr).alloc (Nat.le_refl _) (.cells #[.int .u8 (B8 d)] 5)).trans ((OwnE.nil (E := eB) _ wr.heap.size).below hg4 (by simp))); have HO4 : Hid (OwnE eB w4 wr.heap.size v5 [d]) := (Lib.hid ho4); clear ho4 hg4 hloc)
            go_meet
            case rel => exact ⟨HO4.out.rd.form1 rfl, Lib.hid (by rw [HT.out]; exact HO4.out), HB4⟩
          · have i1 : 0 ≤ n := by omega
            have hd1 : 128 + (j : Int) = B8 (UInt8.ofNat (128 + j)) := by rw [b8_of]; omega
            have HT : Hid ((encM M F).take 1 = [UInt8.ofNat (128 + j)]) := Lib.hid (by rw [encM_one, HF.out hn, HKN.out, UInt8.xor_zero])
            generalize UInt8.ofNat (128 + j) = d at hd1 HT
            have em : B8 d % 256 = B8 d := B8_mod d
            clear hn
            go_wp2_with (at_builtin; go_loud (refine app_e eB_ok rfl (.tmp 28) (.tmp 32) rfl wr.heap.size (.slice none 0 0) [] rfl (OwnE.nil _ _) (.slice (some ⟨wr.heap.size, 0, none⟩) 1 1) [d] rfl (one_e wr d eB_ok) (by simp) (by simp) ?_); intro v5 w4 ho4 hg4 hloc; have HB4 := Lib.hid (((Below.refl wr.heap.size wr).alloc (Nat.le_refl _) (.cells #[.int .u8 (B8 d)] 5)).trans ((OwnE.nil (E := eB) _ wr.heap.size).below hg4 (by simp))); have HO4 : Hid (OwnE eB w4 wr.heap.size v5 [d]) := (Lib.hid ho4); clear ho4 hg4 hloc)
            go_meet
            case rel => exact ⟨HO4.out.rd.form1 rfl, Lib.hid (by rw [HT.out]; exact HO4.out), HB4⟩
        case rest =>
          obtain ⟨⟨a6, cap6, rfl⟩, hown6, hb6⟩ := hcut
          obtain ⟨w1, ew1⟩ : ∃ w1, w1 = wr := ⟨_, rfl⟩
          subst ew1
          go_wp2
          go_loopw [7, 6] (fun o u wy => ∃ r : Nat, r ≤ j ∧ o = .int .i64 ((r : Int) - 1) ∧ (∃ a cap, u = .slice a (1 + (j - r)) cap) ∧ Hid (OwnE eB wy w1.heap.size u ((encM M F).take (1 + (j - r)))) ∧ Hid (Below w1.heap.size w1 wy)) (fun o _ _ => (intOf o + 1).toNat)
          case atStart => exact ⟨j, Nat.le_refl _, rfl, ⟨_, _, by rw [Nat.sub_self]⟩, Lib.hid (by rw [Nat.sub_self]; exact hown6.out), hb6⟩
          case round =>
            obtain ⟨r, hr, rfl, ⟨a2, cap2, rfl⟩, hown2, hb2⟩ := hrel
            have HW2 := Lib.hid hb2.out.size
            cases r with
            | zero =>
              have HR : Hid (OwnE eB wr w1.heap.size (.slice a2 (1 + (j - 0)) cap2) (encI n)) := Lib.hid (by have h := hown2.out; rw [← HKN.out, encM_full] at h; rw [HE.out, ← HKN.out]; exact h)
              clear hown6
              go_wp2
              go_ret
              exact ⟨_, rfl, HR.out.mono HW.out, HBW.out.trans (hb2.out.mono HW.out)⟩
            | succ i =>
              have e1 : (((i + 1 : Nat) : Int) - 1) = (i : Int) := by omega
              rw [e1]
              have hrd := HDG.out wr hb2.out
              have hij : i < j := by omega
              obtain ⟨b, off, rfl, hbl, hc⟩ := RdB_cells hrd (by rw [leN_len]; omega)
              have hci := hc i (by rw [leN_len]; exact hij)
              rw [leN_at M j i hij] at hci
              have i3 : (i : Int) < (j : Int) := by omega
              have et := encM_next M F (i + 1) (by omega) (by rw [HKN.out]; omega)
              rw [HKN.out, Nat.add_sub_cancel] at et
              have ET := Lib.hid et
              have HR := Lib.hid hr
              generalize UInt8.ofNat (M / 256 ^ i) = c at hci ET et
              have hfr : True := trivial
              clear hrd hc et hr hown6 hfr
              by_cases hn : n < 0
              · have hF := HNE.out hn
                subst hF
                have hsub : 255 - B8 c = B8 (c ^^^ 255) := b8_sub c
                have em : B8 (c ^^^ 255) % 256 = B8 (c ^^^ 255) := B8_mod _
                go_wp2_with (at_builtin; go_loud (refine app_e eB_ok rfl (.tmp 54) (.tmp 56) rfl w1.heap.size _ _ rfl (hown2.out.on ((Below.refl _ _).alloc (Nat.le_refl _) _)) (.slice (some ⟨wr.heap.size, 0, none⟩) 1 1) [c ^^^ 255] rfl (one_e wr (c ^^^ 255) eB_ok) (by rw [List.length_take, encM_len]; have := nb_le M; simp; omega) (by have := HW2.out; simp; omega) ?_); intro v5 w4 ho4 hg4 hloc; have HB4 := Lib.hid (hb2.out.trans (((Below.refl wr.heap.size wr).alloc (Nat.le_refl _) (.cells #[.int .u8 (B8 (c ^^^ 255))] 5)).mono HW2.out |>.trans ((hown2.out.on ((Below.refl _ _).alloc (Nat.le_refl _) _)).below hg4 (by have := HW2.out; simp; omega)))); have HO4 := Lib.hid ho4; clear ho4 hg4 hloc)
                go_roundw
                case rel => exact ⟨i, by have := HR.out; omega, by go_num, HO4.out.rd.form1 (by rw [List.length_append, List.length_take, encM_len]; have := HR.out; have := HKN.out; simp; omega), Lib.hid (by rw [ET.out]; exact HO4.out), HB4⟩
                case measure => simp [intOf]
              · have hF := HF.out (by omega)
                subst hF
                rw [UInt8.xor_zero] at ET
                go_wp2_with (at_builtin; go_loud (refine app_e eB_ok rfl (.tmp 54) (.tmp 56) rfl w1.heap.size _ _ rfl (hown2.out.on ((Below.refl _ _).alloc (Nat.le_refl _) _)) (.slice (some ⟨wr.heap.size, 0, none⟩) 1 1) [c] rfl (one_e wr (c) eB_ok) (by rw [List.length_take, encM_len]; have := nb_le M; simp; omega) (by have := HW2.out; simp; omega) ?_); intro v5 w4 ho4 hg4 hloc; have HB4 := Lib.hid (hb2.out.trans (((Below.refl wr.heap.size wr).alloc (Nat.le_refl _) (.cells #[.int .u8 (B8 (c))] 5)).mono HW2.out |>.trans ((hown2.out.on ((Below.refl _ _).alloc (Nat.le_refl _) _)).below hg4 (by have := HW2.out; simp; omega)))); have HO4 := Lib.hid ho4; clear ho4 hg4 hloc)
                go_roundw
                case rel => exact ⟨i, by have := HR.out; omega, by go_num, HO4.out.rd.form1 (by rw [List.length_append, List.length_take, encM_len]; have := HR.out; have := HKN.out; simp; omega), Lib.hid (by rw [ET.out]; exact HO4.out), HB4⟩
                case measure => simp [intOf]
set_option maxRecDepth 100000 in
set_option maxHeartbeats 2000000 in
theorem bytes_r (s : List UInt8) (w : World) (hl : s.length ≤ 900000) :
    Calls Tryz.prog 32 #[.string ⟨s.toArray⟩] w fun e w' => ∃ v', e = .returned v' ∧ OwnE eB w' w.heap.size v' (encS s) ∧ Below w.heap.size w w' := by
  have HL := Lib.hid hl
  clear hl
  go_enter Tryz.func32, Tryz.ntmps32
  go_wp2_with (first
    | (go_at_call 72; refine (int_r (s.length : Int) (by omega) (by have := HL.out; omega) _).mono ?_; rintro e w1 ⟨v1, rfl, ho1, hb1⟩; have HO1 := Lib.hid ho1; have HB1 := Lib.hid hb1; clear ho1 hb1; have hcv := conv_sb w1 s; have HSB := Lib.hid (sb_below w1 s); have HRD := Lib.hid (sb_rd w1 s (by have := HL.out; unfold maxLen; omega)); generalize Lib.bytesWorld w1 5 ⟨s.toArray⟩ = ws at hcv HSB HRD)
    | (at_builtin; refine app_e eB_ok rfl (.tmp 5) (.tmp 7) rfl w.heap.size _ (encI (s.length : Int)) rfl (HO1.out.on HSB.out) _ s rfl HRD.out (by have := HL.out; have := encI_le (s.length : Int); omega) (Nat.le_trans HB1.out.size HSB.out.size) ?_; intro v2 w2 ho2 hg2 hloc; have HB2 := Lib.hid ((HB1.out.trans (HSB.out.mono HB1.out.size)).trans ((HO1.out.on HSB.out).below hg2 (Nat.le_trans HB1.out.size HSB.out.size))); have HO2 := Lib.hid ho2; clear ho2 hg2 hloc))
  go_ret
  exact ⟨_, rfl, HO2.out, HB2.out⟩
end Go.Proofs.YtbpjdfnnlmblaaaGreatDoor
/- The specification's reading of numbers and texts. -/
namespace Go.Proofs.YtbpjdfnnlmblaaaGreatDoor
open Go.RowKit
set_option linter.unusedSimpArgs false
set_option linter.unusedVariables false
theorem ext_b {l m : List UInt8} (h : l.length = m.length) (h2 : ∀ j, j < l.length → byteAt l j = byteAt m j) : l = m := by
  refine List.ext_getElem h (fun i h3 h4 => ?_)
  have := h2 i h3
  unfold byteAt at this
  rwa [List.getD_eq_getElem?_getD, List.getElem?_eq_getElem h3, List.getD_eq_getElem?_getD, List.getElem?_eq_getElem h4] at this
/-! in plain words -/
theorem beVal_grow (r : List UInt8) (f : UInt8) (j : Nat) : ∀ K, j < K → K ≤ r.length → 256 * beVal ((r.take j).map (· ^^^ f)) ≤ beVal ((r.take K).map (· ^^^ f)) := by
  intro K
  induction K with
  | zero => intro h; omega
  | succ K ih =>
    intro h1 h2
    rw [beVal_step r f K (by omega)]
    rcases Nat.lt_or_ge j K with h | h
    · have := ih h (by omega)
      omega
    · have : j = K := by omega
      subst this
      omega
theorem gi_early (h : UInt8) (r : List UInt8) (j : Nat) (h1 : kOf h ≤ 8) (h2 : kOf h ≤ r.length) (h3 : j < kOf h) (h4 : 36028797018963967 < beVal ((r.take j).map (· ^^^ flipOf h))) : decI (h :: r) = (0, 0, 6) := by
  have h5 := beVal_grow r (flipOf h) j (kOf h) h3 h2
  rcases decI_parts h r with ⟨p1, p2⟩ | ⟨p1, p2, p3⟩ | ⟨p1, p2, p3, p4, p5⟩ | ⟨p1, p2, p3, ⟨p4, p5⟩ | ⟨p4, p5⟩⟩
  · omega
  · omega
  · exact p5
  · exact p5
  · unfold vOf at p4; omega
/-- the number that is tried -/
def giN (h : UInt8) (r : List UInt8) : Int := if h.toNat < 128 then -1 - (vOf h r : Int) else (vOf h r : Int)
theorem gi_yes (h : UInt8) (r : List UInt8) (h2 : kOf h ≤ r.length) (h3 : vOf h r < 9223372036854775808) (h4 : encI (giN h r) = (h :: r).take (kOf h + 1)) : decI (h :: r) = (giN h r, kOf h + 1, 0) := by
  have e : h :: r = encI (giN h r) ++ (h :: r).drop (kOf h + 1) := by rw [h4, List.take_append_drop]
  have hl : (encI (giN h r)).length = kOf h + 1 := by rw [h4, List.length_take, List.length_cons]; omega
  have := decI_enc (giN h r) (by unfold giN; split <;> omega) (by unfold giN; split <;> omega) ((h :: r).drop (kOf h + 1))
  rw [← e, hl] at this
  exact this
theorem gi_no (h : UInt8) (r : List UInt8) (h1 : kOf h ≤ 8) (h2 : kOf h ≤ r.length) (h4 : ¬ encI (giN h r) = (h :: r).take (kOf h + 1)) : decI (h :: r) = (0, 0, 6) := by
  rcases decI_parts h r with ⟨p1, p2⟩ | ⟨p1, p2, p3⟩ | ⟨p1, p2, p3, p4, p5⟩ | ⟨p1, p2, p3, ⟨p4, p5⟩ | ⟨p4, p5⟩⟩
  · omega
  · omega
  · exact p5
  · exact p5
  · exfalso
    obtain ⟨k1, k2, _⟩ := decI_ok (h :: r) _ _ p5
    have hg : (if h.toNat < 128 then -1 - (vOf h r : Int) else (vOf h r : Int)) = giN h r := rfl
    rw [hg] at k1 k2
    apply h4
    have e : (h :: r).take (kOf h + 1) = (encI (giN h r) ++ (h :: r).drop (kOf h + 1)).take (kOf h + 1) := by rw [← k1]
    rw [e, k2, List.take_left]
theorem kOf_hi (h : UInt8) : (8 < kOf h ↔ h.toNat < 119 ∨ 136 < h.toNat) ∧ (kOf h : Int) = (if h.toNat < 128 then 127 - B8 h else B8 h - 128) := by
  have h1 := h.toNat_lt
  rcases flip_cases h with ⟨h2, h3⟩ | ⟨h2, h3⟩
  · have e : (h ^^^ 255).toNat = 255 - h.toNat := by
      have := b8_sub h
      unfold B8 at this
      omega
    unfold kOf B8
    rw [h3, e, if_pos h2]
    omega
  · unfold kOf B8
    rw [h3, UInt8.xor_zero, if_neg h2]
    omega
attribute [local irreducible] Calls vOf
set_option maxRecDepth 100000 in
set_option maxHeartbeats 2000000 in
theorem sameR_c (v u : Value) (l m : List UInt8) (w : World) (hv : RdE eB w v l) (hu : RdE eB w u m) :
    Calls Tryz.prog 107 #[v, u] w fun e w' => e = .returned (.bool (decide (l = m))) ∧ Below w.heap.size w w' := by
  have hlen := hv.len
  unfold maxLen at hlen
  have HV := Lib.hid hv
  have HU := Lib.hid hu
  obtain ⟨a, cap, rfl, _, _, _⟩ := hv
  obtain ⟨a2, cap2, rfl, _, _, _⟩ := hu
  by_cases hl : l.length = m.length
  · have hne : ((l.length : Int) == m.length) = true := by rw [beq_iff_eq]; omega
    have hne2 : ((l.length : Int) != m.length) = false := by rw [bne, hne]; rfl
    have HL := Lib.hid hl
    clear hl
    go_enter Tryz.func107, Tryz.ntmps107
    go_wp2
    go_loopw [5] (fun o wr => ∃ i : Nat, i ≤ l.length ∧ o = .int .i64 i ∧ Hid (∀ j, j < i → byteAt l j = byteAt m j) ∧ ∃ n, wr = w.drewN n) (fun o _ => l.length - (intOf o).toNat)
    case atStart => exact ⟨0, Nat.zero_le _, rfl, Lib.hid (fun j hj => absurd hj (by omega)), 0, rfl⟩
    case round =>
      obtain ⟨i, hi, rfl, hno, n, rfl⟩ := hrel
      by_cases hlt : i < l.length
      · obtain ⟨b, off, rfl, _, hrow⟩ := RdB_cells HV.out (by omega)
        obtain ⟨b2, off2, rfl, _, hrow2⟩ := RdB_cells HU.out (by have := HL.out; omega)
        have d1 := hrow i hlt
        have d2 := hrow2 i (by have := HL.out; omega)
        have i1 : (i : Int) < l.length := by omega
        have i2 : (i : Int) < m.length := by have := HL.out; omega
        have i3 : i < m.length := by have := HL.out; omega
        have HK := Lib.hid hlt
        have HNO := hno
        clear hrow hrow2 hno
        by_cases hq : byteAt l i = byteAt m i
        · have q1 : (B8 (byteAt l i) != B8 (byteAt m i)) = false := by rw [hq]; simp
          have HQ := Lib.hid hq
          clear hq
          go_wp2
          first | refine allD (by kernel_rfl) (by kernel_rfl) ?_ | refine all0 (by kernel_rfl) (by kernel_rfl) ?_
          repeat (go_big_quiet_step (fail))
          refine wpQuiet_nil ?_
          rintro _ ⟨nq, rfl⟩
          go_wp2
          go_roundw
          case rel => exact ⟨i + 1, HK.out, by go_num, Lib.hid (fun j hj => by
            by_cases e : j = i
            · subst e; exact HQ.out
            · exact HNO.out j (by omega)), _, rfl⟩
          case measure => have := HK.out; simp [intOf]; omega
        · have q1 : (B8 (byteAt l i) != B8 (byteAt m i)) = true := by rw [bne_iff_ne]; exact fun e => hq (u8_inj e)
          have hres : decide (l = m) = false := decide_eq_false (fun e => hq (by rw [e]))
          have HRES := Lib.hid hres
          clear hq hres
          go_wp2
          first | refine allD (by kernel_rfl) (by kernel_rfl) ?_ | refine all0 (by kernel_rfl) (by kernel_rfl) ?_
          repeat (go_big_quiet_step (fail))
          refine wpQuiet_nil ?_
          rintro _ ⟨nq, rfl⟩
          go_wp2
          go_ret
          exact ⟨by rw [HRES.out]; rfl, below_drewN _ (Below.refl _ _)⟩
      · have i1 : (l.length : Int) ≤ i := by omega
        have hres : decide (l = m) = true := decide_eq_true (ext_b HL.out (fun j hj => hno.out j (by omega)))
        have HRES := Lib.hid hres
        clear hres hno
        go_wp2
        go_ret
        exact ⟨by rw [HRES.out]; rfl, below_drewN _ (Below.refl _ _)⟩
  · have hne : ((l.length : Int) == m.length) = false := by rw [beq_eq_false_iff_ne]; omega
    have hne2 : ((l.length : Int) != m.length) = true := by rw [bne, hne]; rfl
    rw [decide_eq_false (fun e => hl (by rw [e]))]
    clear hl
    go_enter Tryz.func107, Tryz.ntmps107
    go_wp2
    go_ret
    exact ⟨rfl, Below.refl _ _⟩
end Go.Proofs.YtbpjdfnnlmblaaaGreatDoor
/- The specification's GetInt, count and GetBytes. -/
namespace Go.Proofs.YtbpjdfnnlmblaaaGreatDoor
open Go.RowKit
set_option linter.unusedSimpArgs false
set_option linter.unusedVariables false
/-- bytes that the call has made -/
def SP.ownR (B : Nat) (l : List UInt8) : SP := .pred (fun v w => OwnE eB w B v l) (fun _ _ _ hb h => h.on hb)
theorem slice_hR {v : Value} {w0 : World} {b : List UInt8} (hv : RdE eB w0 v b) (j : Nat) (hj : j ≤ b.length) :
    ∃ a c, (∀ wx : World, (Instr.slice 50 v none (some (.int .i64 j)) none).run Tryz.prog wx = .ok (.slice a j c) wx) ∧ ∀ u : World, RdE eB u v b → RdE eB u (.slice a j c) (b.take j) := by
  obtain ⟨a, cap, rfl, h1, h2, h3⟩ := hv
  have hs : ∃ a2 c2, sliced a 0 j cap 1 = .slice a2 j c2 := ⟨_, _, rfl⟩
  obtain ⟨a2, c2, e⟩ := hs
  refine ⟨a2, c2, fun wx => ?_, fun u hu => ?_⟩
  · rw [run_slice_h wx _ a _ cap under_b .i64 _ (by omega) (by omega), size_b]
    simp [Result.andThen, e]
  · have h := sliced_b hu 0 j (Nat.zero_le _) hj
    rw [List.drop_zero, Nat.sub_zero, e] at h
    exact h
@[go_sem] theorem b8_i64 (x : UInt8) : IntKind.i64.wrap (B8 x) = B8 x := by rw [IntKind.wrap_i64]; have := u8_lo x; have := u8_hi x; omega
@[go_sem] theorem b8_w64 (x : UInt8) : wrap64 (B8 x) = B8 x := by have := u8_lo x; have := u8_hi x; unfold wrap64; omega
theorem decI_nil : decI [] = (0, 0, 5) := rfl
theorem gi_step (m : Nat) (c f : UInt8) : (256 : Int) * (m : Int) + B8 (c ^^^ f) = ((256 * m + (c ^^^ f).toNat : Nat) : Int) := by unfold B8; omega
attribute [local irreducible] Calls vOf encI decI
set_option maxRecDepth 100000 in
set_option maxHeartbeats 4000000 in
theorem getIntR_c (v : Value) (b : List UInt8) (w : World) (hv : RdE eB w v b) :
    Calls Tryz.prog 88 #[v] w fun e w' => e = .returned (numV (decI b)) ∧ Below w.heap.size w w' := by
  have HV := Lib.hid hv
  have hlen := hv.len
  unfold maxLen at hlen
  cases b with
  | nil =>
    have HR := Lib.hid decI_nil
    obtain ⟨a, cap, rfl, hcap, hcm, _⟩ := hv
    go_enter Tryz.func88, Tryz.ntmps88
    go_wp2
    go_ret3
    exact ⟨by rw [HR.out]; rfl, Below.refl _ _⟩
  | cons h r =>
    obtain ⟨a, cap, rfl, hcap, hcm, _⟩ := hv
    unfold maxLen at hcm
    obtain ⟨bb, off, rfl, hbl, hrow⟩ := RdB_cells HV.out (by simp)
    have HROW := Lib.hid hrow
    clear hrow
    have hc0 := HROW.out 0 (by simp)
    have e0 : byteAt (h :: r) 0 = h := rfl
    rw [e0, Nat.add_zero] at hc0
    clear e0
    have hlo := u8_lo h
    have hhi := u8_hi h
    obtain ⟨kh1, kh2⟩ := kOf_hi h
    have hB : B8 h = (h.toNat : Int) := rfl
    by_cases h8 : 8 < kOf h
    · have HR : Hid (decI (h :: r) = (0, 0, 6)) := Lib.hid (by
        rcases decI_parts h r with ⟨p1, p2⟩ | ⟨p1, p2, p3⟩ | ⟨p1, p2, p3, p4, p5⟩ | ⟨p1, p2, p3, p4⟩
        · exact p2
        all_goals omega)
      have h9 := kh1.1 h8
      clear kh1 kh2 h8 hlen
      rcases Nat.lt_or_ge h.toNat 119 with h1 | h1
      · have i1 : B8 h < 119 := by omega
        clear h9 hB h1
        go_enter Tryz.func88, Tryz.ntmps88
        go_wp2
        go_ret3
        exact ⟨by rw [HR.out]; rfl, Below.refl _ _⟩
      · have i1 : ¬ B8 h < 119 := by omega
        have i2 : 136 < B8 h := by omega
        clear h9 hB h1
        go_enter Tryz.func88, Tryz.ntmps88
        go_wp2
        go_ret3
        exact ⟨by rw [HR.out]; rfl, Below.refl _ _⟩
    · have i1 : ¬ B8 h < 119 := by omega
      have i2 : ¬ 136 < B8 h := by omega
      have HK8 : Hid (kOf h ≤ 8) := Lib.hid (by omega)
      obtain ⟨F, hF⟩ : ∃ F, F = flipOf h := ⟨_, rfl⟩
      have HFF := Lib.hid hF
      have HFC := Lib.hid (flip_cases h)
      obtain ⟨K, hK⟩ : ∃ K, K = kOf h := ⟨_, rfl⟩
      have HKK := Lib.hid hK
      have hk8 : (K : Int) ≤ 8 := by rw [hK]; omega
      rw [← hK] at kh2
      have HK2 := Lib.hid kh2
      have HBH := Lib.hid hB
      clear kh1 h8 hF hK kh2 hlen hB
      go_enter Tryz.func88, Tryz.ntmps88
      go_upto_if 27 with fail
      go_cut [6, 13, 27] from 28 to 29 (fun k _ _ wc => k = .int .i64 (K : Int) ∧ wc = w)
      case first =>
        rcases HFC.out with ⟨hc1, hc2⟩ | ⟨hc1, hc2⟩
        · have i3 : B8 h < 128 := by have := HBH.out; omega
          have E1 := HK2
          rw [if_pos hc1] at E1
          clear hc1 hc2
          go_wp2
          all_goals go_meet
          case rel => exact ⟨by rw [E1.out], rfl⟩
        · have i3 : ¬ B8 h < 128 := by have := HBH.out; omega
          have E1 := HK2
          rw [if_neg hc1] at E1
          clear hc1 hc2
          go_wp2
          all_goals go_meet
          case rel => exact ⟨by rw [E1.out], rfl⟩
      case rest =>
        obtain ⟨rfl, hwc⟩ := hcut
        rw [hwc]
        clear hwc
        by_cases hKL : r.length < K
        · have i3 : (r.length : Int) + 1 < (K : Int) + 1 := by omega
          have i4 : (r.length : Int) < (K : Int) := by omega
          have HR : Hid (decI (h :: r) = (0, 0, 5)) := Lib.hid (by
            rcases decI_parts h r with ⟨p1, p2⟩ | ⟨p1, p2, p3⟩ | ⟨p1, p2, p3, p4, p5⟩ | ⟨p1, p2, p3, p4⟩
            · have := HK8.out; omega
            · exact p3
            all_goals (have := HKK.out; omega))
          clear hKL
          go_wp2
          go_ret3
          exact ⟨by rw [HR.out]; rfl, Below.refl _ _⟩
        · have i3 : ¬ (r.length : Int) + 1 < (K : Int) + 1 := by omega
          have i4 : ¬ (r.length : Int) < (K : Int) := by omega
          have HKL : Hid (K ≤ r.length) := Lib.hid (by omega)
          clear hKL
          go_wp2
          go_loopw [8, 7] (fun i v wr => ∃ (j m : Nat), 1 ≤ j ∧ j ≤ K + 1 ∧ i = .int .i64 j ∧ v = .int .i64 m ∧ Hid (m = beVal ((r.take (j - 1)).map (· ^^^ F))) ∧ m < 9223372036854775808 ∧ wr = w) (fun i _ _ => (K + 1) - (intOf i).toNat)
          case atStart => exact ⟨1, 0, Nat.le_refl _, by omega, rfl, rfl, Lib.hid (by simp [beVal]), by decide, rfl⟩
          case round =>
            obtain ⟨j, m, hj1, hj2, rfl, rfl, hm, hml, hwr⟩ := hrel
            rw [hwr]
            clear hwr
            have HM := hm
            have HJ1 := Lib.hid hj1
            by_cases hlt : j ≤ K
            · have j1 : (j : Int) ≤ K := by omega
              have j2 : (j : Int) < (r.length : Int) + 1 := by omega
              have j3 : j < r.length + 1 := by omega
              have hcj := HROW.out j (by have := HKL.out; simp; omega)
              have e2 : byteAt (h :: r) j = byteAt r (j - 1) := by
                cases j with
                | zero => omega
                | succ j => rfl
              rw [e2] at hcj
              have hst := beVal_step r F (j - 1) (by have := HKL.out; omega)
              rw [show j - 1 + 1 = j by omega, ← HM.out] at hst
              have HST := Lib.hid hst
              generalize byteAt r (j - 1) = c at hcj HST
              have HJ := Lib.hid hlt
              have clo := u8_lo c
              have chi := u8_hi c
              by_cases hm55 : 36028797018963967 < m
              · have HR : Hid (decI (h :: r) = (0, 0, 6)) := Lib.hid (gi_early h r (j - 1) HK8.out (by rw [← HKK.out]; exact HKL.out) (by have := HKK.out; omega) (by rw [← HFF.out, ← HM.out]; exact hm55))
                have m1 : (36028797018963967 : Int) < m := by omega
                clear hm55 e2 hst hm hlt hml
                rcases HFC.out with ⟨hc1, hc2⟩ | ⟨hc1, hc2⟩
                · have i6 : B8 h < 128 := by have := HBH.out; omega
                  clear hc1 hc2
                  go_wp2
                  go_ret3
                  exact ⟨by rw [HR.out]; rfl, Below.refl _ _⟩
                · have i6 : ¬ B8 h < 128 := by have := HBH.out; omega
                  clear hc1 hc2
                  go_wp2
                  go_ret3
                  exact ⟨by rw [HR.out]; rfl, Below.refl _ _⟩
              · have m1 : ¬ (36028797018963967 : Int) < m := by omega
                have m2 : (m : Int) ≤ 36028797018963967 := by omega
                have m3 : (0 : Int) ≤ m := by omega
                have HM2 : Hid (m ≤ 36028797018963967) := Lib.hid (by omega)
                clear hm55 e2 hst hm hlt hml
                rcases HFC.out with ⟨hc1, hc2⟩ | ⟨hc1, hc2⟩
                · have i6 : B8 h < 128 := by have := HBH.out; omega
                  have EF : Hid (F = 255) := Lib.hid (by rw [HFF.out, hc2])
                  have hsub : 255 - B8 c = B8 (c ^^^ 255) := b8_sub c
                  have HGS := Lib.hid (gi_step m c 255)
                  rw [EF.out] at HST
                  have dlo := u8_lo (c ^^^ 255)
                  have dhi := u8_hi (c ^^^ 255)
                  have HLT := Lib.hid (c ^^^ 255).toNat_lt
                  clear hc1 hc2 clo chi
                  go_wp2
                  go_roundw
                  case rel => exact ⟨j + 1, 256 * m + (c ^^^ 255).toNat, by omega, by have := HJ.out; omega, by go_num, congrArg (Value.int .i64) HGS.out, Lib.hid (by rw [show j + 1 - 1 = j by omega, EF.out]; exact HST.out.symm), by have := HLT.out; have := HM2.out; omega, by first | exact rfl | exact trivial⟩
                  case measure => have := HJ.out; simp [intOf]; omega
                · have i6 : ¬ B8 h < 128 := by have := HBH.out; omega
                  have EF : Hid (F = 0) := Lib.hid (by rw [HFF.out, hc2])
                  have HGS := Lib.hid (gi_step m c 0)
                  rw [EF.out] at HST
                  rw [UInt8.xor_zero] at HGS
                  have HLT := Lib.hid (c ^^^ 0).toNat_lt
                  clear hc1 hc2
                  go_wp2
                  go_roundw
                  case rel => exact ⟨j + 1, 256 * m + (c ^^^ 0).toNat, by omega, by have := HJ.out; omega, by go_num, congrArg (Value.int .i64) (by rw [UInt8.xor_zero]; exact HGS.out), Lib.hid (by rw [show j + 1 - 1 = j by omega, EF.out]; exact HST.out.symm), by have := HLT.out; have := HM2.out; omega, by first | exact rfl | exact trivial⟩
                  case measure => have := HJ.out; simp [intOf]; omega
            · have hjk : j = K + 1 := by omega
              subst hjk
              have HV2 : Hid (m = vOf h r) := Lib.hid (by rw [HM.out]; unfold vOf; rw [HKK.out, HFF.out]; rfl)
              have j1 : ¬ (((K + 1 : Nat) : Int)) ≤ K := by omega
              have HGN : Hid (giN h r = if h.toNat < 128 then -1 - (m : Int) else (m : Int)) := Lib.hid (by unfold giN; rw [HV2.out])
              have hYES := Lib.hid (gi_yes h r (by rw [← HKK.out]; exact HKL.out) (by rw [← HV2.out]; exact hml))
              have hNO := Lib.hid (gi_no h r HK8.out (by rw [← HKK.out]; exact HKL.out))
              rw [← HKK.out] at hYES hNO
              generalize giN h r = N at HGN hYES hNO
              have m2 : (m : Int) < 9223372036854775808 := by omega
              have m3 : (0 : Int) ≤ m := by omega
              have HNB : Hid (-9223372036854775808 ≤ N ∧ N < 9223372036854775808) := Lib.hid (by rw [HGN.out]; split <;> omega)
              obtain ⟨mi, hmi⟩ : ∃ mi : Int, mi = (m : Int) := ⟨_, rfl⟩
              rw [← hmi] at m2 m3 ⊢
              have HMI := Lib.hid hmi
              have HEQ := Lib.hid (Nat.succ_le_succ HKL.out)
              obtain ⟨sa, sc, hsr, hsp⟩ := slice_hR HV.out (K + 1) (by have := HKL.out; simp; omega)
              have HSP := Lib.hid hsp
              have hs : ∀ wx : World, (Instr.slice 50 (.slice (some ⟨bb, off, none⟩) (r.length + 1) cap) none (some (.int .i64 ((K : Int) + 1))) none).run Tryz.prog wx = .ok (.slice sa (K + 1) sc) wx := hsr
              clear hm hlt hj1 hj2 hml hmi hsr hsp
              go_upto_if 57 with fail
              go_cut [10, 57] from 58 to 59 (fun n _ wc => n = .int .i64 N ∧ wc = w)
              case first =>
                rcases HFC.out with ⟨hc1, hc2⟩ | ⟨hc1, hc2⟩
                · have i6 : B8 h < 128 := by have := HBH.out; omega
                  have HN2 := HGN.out
                  rw [if_pos hc1, ← HMI.out] at HN2
                  have HN3 := Lib.hid HN2
                  clear hc1 hc2 HN2
                  go_wp2
                  all_goals go_meet
                  case rel => exact ⟨by rw [HN3.out], rfl⟩
                · have i6 : ¬ B8 h < 128 := by have := HBH.out; omega
                  have HN2 := HGN.out
                  rw [if_neg hc1, ← HMI.out] at HN2
                  have HN3 := Lib.hid HN2
                  clear hc1 hc2 HN2
                  go_wp2
                  all_goals go_meet
                  case rel => exact ⟨by rw [HN3.out], rfl⟩
              case rest =>
                obtain ⟨rfl, hwc⟩ := hcut
                rw [hwc]
                clear hwc
                generalize hq : decide (encI N = (h :: r).take (K + 1)) = q
                have HQ := Lib.hid hq
                clear hq
                go_upto_region 24 with fail
                try dsimp only [Act.put]
                refine region_rel 7 [[], [0], [], [], [3], [2, 4], [1, 5]] (SP.of [.eq (.int .i64 N), .ownR w.heap.size (encI N), .eq (.slice (some ⟨bb, off, none⟩) (r.length + 1) cap), .eq (.int .i64 K), .eq (.int .i64 ((K : Int) + 1)), .eq (.slice sa (K + 1) sc), .eq (.bool q)]) (fun _ => undef) ?h1 ?h2 ?h3 ?h4 ?h5 ?h6
                case h1 => kernel_rfl
                case h2 => kernel_rfl
                case h3 => kernel_rfl
                case h4 =>
                  simp only [List.take_succ_cons, List.take_zero]
                  repeat (first | exact trivial | refine ⟨fun vals v => by kernel_rfl, ?_⟩)
                case h5 =>
                  simp only [List.take_succ_cons, List.take_zero]
                  refine ⟨?_, ?_, ?_, ?_, ?_, ?_, ?_, trivial⟩
                  all_goals (intro wq hbq vals; simp only [given, SP.of, SP.ownR, Nat.reduceAdd, Nat.zero_add, List.getD_cons_succ, List.getD_cons_zero]; have HBQ := Lib.hid hbq; clear hbq)
                  case refine_7 =>
                    intro v1 hv1 Q hQ
                    simp only [putAll, upd, Act.put, List.setIfInBounds_toArray, List.set_cons_zero, List.set_cons_succ, Nat.reduceAdd, Nat.zero_add, Nat.reduceEqDiff, if_true, if_false, reduceIte]
                    have HV1 := Lib.hid hv1
                    clear hv1
                    go_wp2_with (go_at_call 107; refine (sameR_c v1 _ (encI N) _ wq HV1.out.rd (HSP.out wq (HV.out.on HBQ.out))).mono ?_; rintro e x1 ⟨rfl, hx1⟩; rw [HQ.out])
                    exact relEnd_fin hQ _ (by kernel_rfl) hx1 rfl
                  all_goals (intro Q hQ; simp only [putAll, upd, Act.put, List.setIfInBounds_toArray, List.set_cons_zero, List.set_cons_succ, Nat.reduceAdd, Nat.zero_add, Nat.reduceEqDiff, if_true, if_false, reduceIte])
                  case refine_2 =>
                    go_wp2_with (go_at_call 72; refine (int_r N HNB.out.1 HNB.out.2 _).mono ?_; rintro e x1 ⟨v1, rfl, ho1, hx1⟩; have HO1 := Lib.hid ho1; have HX1 := Lib.hid hx1; clear ho1 hx1)
                    exact relEnd_fin hQ _ (by kernel_rfl) HX1.out (HO1.out.mono HBQ.out.size)
                  all_goals go_wp2
                  all_goals exact relEnd_fin hQ _ (by kernel_rfl) (Below.refl _ _) rfl
                case h6 =>
                  intro wq hbq vals
                  show given _ _ _ [0, 1, 2, 3, 4, 5, 6] _
                  simp only [given, SP.of, SP.ownR, List.getD_cons_succ, List.getD_cons_zero]
                  rintro v1 ho1
                  simp only [List.take_succ_cons, List.take_zero, List.drop_succ_cons, List.drop_zero]
                  simp only [putAll, upd, Act.put, List.setIfInBounds_toArray, List.set_cons_zero, List.set_cons_succ, Nat.reduceAdd, Nat.zero_add, Nat.reduceEqDiff, if_true, if_false, reduceIte]
                  have HBQ := Lib.hid hbq
                  clear hbq ho1
                  cases q with
                  | true =>
                    have HR := Lib.hid (hYES.out (of_decide_eq_true HQ.out))
                    go_wp2
                    go_ret3
                    exact ⟨by rw [HR.out]; rfl, HBQ.out⟩
                  | false =>
                    have HR := Lib.hid (hNO.out (of_decide_eq_false HQ.out))
                    go_wp2
                    go_ret3
                    exact ⟨by rw [HR.out]; rfl, HBQ.out⟩
end Go.Proofs.YtbpjdfnnlmblaaaGreatDoor
