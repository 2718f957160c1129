/- The specification's hash. -/
import Derived.Test.YtackbjbmadkkhaaDoorHashM
namespace Go.Proofs.YtackbjbmadkkhaaDoor
open Go.RowKit
set_option linter.unusedSimpArgs false
set_option linter.unusedVariables false
/-- the constants stand in memory -/
def K0At (w : World) : Prop := ∃ t, w.heap[0]? = some (.cells (row KK) t (0, 0))
theorem K0At.lt {w : World} (h : K0At w) : 0 < w.heap.size := by obtain ⟨t, h⟩ := h; exact (Array.getElem?_eq_some_iff.1 h).1
theorem K0At.on {w w' : World} (h : K0At w) (hb : Below w.heap.size w w') : K0At w' := by
  have hlt := h.lt
  unfold K0At
  rw [hb.block _ hlt]
  exact h
/-- a slice of one's own: its block's content tells what it reads -/
theorem own_obj {w : World} {base : Nat} {v : Value} {l : List UInt8} (h : OwnE eB w base v l) (h0 : 0 < l.length) :
    ∃ b cap X, v = .slice (some ⟨b, 0, none⟩) l.length cap ∧ l.length ≤ cap ∧ cap ≤ maxLen ∧ base ≤ b ∧ w.heap[b]? = some X ∧ ∀ w' : World, w'.heap[b]? = some X → RdE eB w' (.slice (some ⟨b, 0, none⟩) l.length cap) l := by
  rcases h.2 with ⟨rfl, hn⟩ | ⟨g, cap, cur, rfl, hb, hg, h1, h2, h3, h4⟩
  · omega
  · refine ⟨g, cap, _, rfl, h1, h2, hb, hg, fun w' hw' => ?_⟩
    exact OwnE.rd (base := base) (⟨h.1, .inr ⟨g, cap, cur, rfl, hb, hw', h1, h2, h3, h4⟩⟩ : OwnE eB w' base _ l)
/-- a block of a text that is read -/
theorem rd_block {w : World} {b cap n : Nat} {l : List UInt8} (h : RdE eB w (.slice (some ⟨b, 0, none⟩) n cap) l) (k : Nat) (hk : k + 64 ≤ l.length) (c : Nat) (hc1 : 64 ≤ c) (hc2 : c ≤ maxLen) : RdE eB w (.slice (some ⟨b, k, none⟩) 64 c) ((l.drop k).take 64) := by
  obtain ⟨a', c', e, h1, h2, h3⟩ := h
  cases e
  obtain ⟨b2, off, e, hlt, hcell⟩ := h3 (by omega)
  cases e
  have hl : ((l.drop k).take 64).length = 64 := by rw [List.length_take, List.length_drop]; omega
  refine ⟨_, c, by rw [hl], by rw [hl]; exact hc1, hc2, fun _ => ⟨b, k, rfl, hlt, fun j u hu => ?_⟩⟩
  rw [flat_b] at hu hcell
  have hj : j < 64 := by have := (List.getElem?_eq_some_iff.1 hu).1; rw [bcs_len, hl] at this; exact this
  have := hcell (k + j) u (by rw [← hu]; unfold bcs; rw [List.getElem?_map, List.getElem?_map, List.getElem?_take, if_pos hj, List.getElem?_drop])
  rwa [Nat.zero_add] at this
/-- what lies in memory between the blocks -/
structure RW (w : World) (b0 : Nat) (X : Obj) (S : List UInt32) (wr : World) : Prop where
  k : K0At wr
  r : wr.heap[w.heap.size]? = some (.cells (brow z32) 56 (0, 0))
  s : wr.heap[w.heap.size + 1]? = some (.cells (row S) 60 (0, 0))
  p : wr.heap[b0]? = some X
  hb : w.heap.size + 1 < b0
  below : Below w.heap.size w wr
  ls : S.length = 8
theorem RW.on {w wr w' : World} {b0 : Nat} {X : Obj} {S : List UInt32} (h : RW w b0 X S wr) (hb : Below wr.heap.size wr w') : RW w b0 X S w' :=
  ⟨h.k.on hb, by rw [hb.block _ (Array.getElem?_eq_some_iff.1 h.r).1]; exact h.r, by rw [hb.block _ (Array.getElem?_eq_some_iff.1 h.s).1]; exact h.s, by rw [hb.block _ (Array.getElem?_eq_some_iff.1 h.p).1]; exact h.p, h.hb, h.below.trans (hb.mono h.below.size), h.ls⟩
/-- .. within a block's rounds: the schedule, the words -/
structure VW (w : World) (b0 : Nat) (X : Obj) (S : List UInt32) (gt gv : Nat) (ws V : List UInt32) (wr : World) : Prop extends RW w b0 X S wr where
  t : wr.heap[gt]? = some (.cells (row ws) 82 (0, 0))
  v : wr.heap[gv]? = some (.cells (row V) 60 (0, 0))
  ht : b0 < gt
  hv : gt < gv
  lt : ws.length = 64
  lv : V.length = 8
theorem VW.drew {w wr : World} {b0 : Nat} {X : Obj} {S : List UInt32} {gt gv : Nat} {ws V : List UInt32} (h : VW w b0 X S gt gv ws V wr) (n : Nat) : VW w b0 X S gt gv ws V (wr.drewN n) :=
  ⟨⟨h.k, h.r, h.s, h.p, h.hb, below_drewN n h.below, h.ls⟩, h.t, h.v, h.ht, h.hv, h.lt, h.lv⟩
theorem VW.setV {w wr w' : World} {b0 : Nat} {X : Obj} {S : List UInt32} {gt gv : Nat} {ws V V' : List UInt32} (h : VW w b0 X S gt gv ws V wr) (hl : V'.length = 8) (hg : w'.heap[gv]? = some (.cells (row V') 60 (0, 0))) (ho : ∀ k, k ≠ gv → w'.heap[k]? = wr.heap[k]?) (hb : ∀ B, B ≤ gv → Below B wr w') : VW w b0 X S gt gv ws V' w' := by
  have h1 := h.hb
  have h2 := h.ht
  have h3 := h.hv
  exact ⟨⟨by unfold K0At; rw [ho _ (by omega)]; exact h.k, by rw [ho _ (by omega)]; exact h.r, by rw [ho _ (by omega)]; exact h.s, by rw [ho _ (by omega)]; exact h.p, h.hb, h.below.trans (hb _ (by omega)), h.ls⟩, by rw [ho _ (by omega)]; exact h.t, hg, h.ht, h.hv, h.lt, hl⟩
theorem VW.setS {w wr : World} {b0 : Nat} {X : Obj} {S : List UInt32} {gt gv : Nat} {ws V : List UInt32} (h : VW w b0 X S gt gv ws V wr) (h0 : 0 < w.heap.size) (i : Nat) (x : UInt32) : VW w b0 X (S.set i x) gt gv ws V (wr.setCell ⟨w.heap.size + 1, i, none⟩ (.int .u32 (W32 x))) := by
  have h1 := h.hb
  have h2 := h.ht
  have h3 := h.hv
  rw [setCell_rowC _ _ _ _ _ _ _ h.s]
  have e : (row S).setIfInBounds i (.int .u32 (W32 x)) = row (S.set i x) := by
    unfold row
    apply Array.ext'
    rw [Array.toList_setIfInBounds]
    simp [List.map_set]
  rw [e]
  exact ⟨⟨by unfold K0At; rw [setRow_else _ _ _ _ (by omega)]; exact h.k, by rw [setRow_else _ _ _ _ (by omega)]; exact h.r, setRow_heap _ _ _ _ _ _ h.s, by rw [setRow_else _ _ _ _ (by omega)]; exact h.p, h.hb, h.below.trans (below_row (by omega)), by rw [List.length_set]; exact h.ls⟩, by rw [setRow_else _ _ _ _ (by omega)]; exact h.t, by rw [setRow_else _ _ _ _ (by omega)]; exact h.v, h.ht, h.hv, h.lt, h.lv⟩
theorem VW.vc {w wr : World} {b0 : Nat} {X : Obj} {S : List UInt32} {gt gv : Nat} {ws V : List UInt32} (h : VW w b0 X S gt gv ws V wr) (i : Nat) (hi : i < 8) : wr.cell? ⟨gv, i, none⟩ = some (.int .u32 (W32 (w16 V i))) := by
  have hl := h.lv
  rw [cell_of_row _ _ _ _ _ _ h.v]
  simp [row, w16, show i < V.length by omega]
theorem VW.sc {w wr : World} {b0 : Nat} {X : Obj} {S : List UInt32} {gt gv : Nat} {ws V : List UInt32} (h : VW w b0 X S gt gv ws V wr) (i : Nat) (hi : i < 8) : wr.cell? ⟨w.heap.size + 1, i, none⟩ = some (.int .u32 (W32 (w16 S i))) := by
  have hl := h.ls
  rw [cell_of_row _ _ _ _ _ _ h.s]
  simp [row, w16, show i < S.length by omega]
theorem VW.tc {w wr : World} {b0 : Nat} {X : Obj} {S : List UInt32} {gt gv : Nat} {ws V : List UInt32} (h : VW w b0 X S gt gv ws V wr) (i : Nat) (hi : i < 64) : wr.cell? ⟨gt, i, none⟩ = some (.int .u32 (W32 (wd ws i))) := by
  have hl := h.lt
  rw [cell_of_row _ _ _ _ _ _ h.t]
  simp [row, wd, show i < ws.length by omega]
theorem VW.kc {w wr : World} {b0 : Nat} {X : Obj} {S : List UInt32} {gt gv : Nat} {ws V : List UInt32} (h : VW w b0 X S gt gv ws V wr) (i : Nat) (hi : i < 64) : wr.cell? ⟨0, i, none⟩ = some (.int .u32 (W32 (wd KK i))) := by
  have hl := KK_len
  obtain ⟨tk, hk⟩ := h.k
  rw [cell_of_row _ _ _ _ _ _ hk]
  simp [row, wd, show i < KK.length by omega]
theorem row_iv : row (hs iv) = #[.int .u32 1779033703, .int .u32 3144134277, .int .u32 1013904242, .int .u32 2773480762, .int .u32 1359893119, .int .u32 2600822924, .int .u32 528734635, .int .u32 1541459225] := rfl
def z8 : List UInt32 := List.replicate 8 0
theorem zero_8' : (Tryd.prog.info? 60).map (·.zero) = some (some (.agg (row z8))) := by kernel_rfl
theorem zero_8 (w : World) : (zeroValue 60).run Tryd.prog w = .ok (.agg (row z8)) w := by
  have h := zero_8'
  generalize row z8 = L at h ⊢
  cases hq : Tryd.prog.info? 60 with
  | none => rw [hq] at h; cases h
  | some i =>
    rw [hq] at h
    simp at h
    simp [zeroValue, typeInfo, hq, h]
theorem rw_start {w w1 : World} {b0 : Nat} {X : Obj} (hk : K0At w) (hb : Below ((w.alloc (.cells (brow z32) 56)).alloc (.cells (row (hs iv)) 60)).heap.size ((w.alloc (.cells (brow z32) 56)).alloc (.cells (row (hs iv)) 60)) w1)
    (hX : w1.heap[b0]? = some X) (h0 : ((w.alloc (.cells (brow z32) 56)).alloc (.cells (row (hs iv)) 60)).heap.size ≤ b0) : RW w b0 X (hs iv) w1 := by
  have hs0 := h0
  simp only [World.size_alloc] at hs0
  have hA : Below w.heap.size w ((w.alloc (.cells (brow z32) 56)).alloc (.cells (row (hs iv)) 60)) := ((Below.refl _ _).alloc (Nat.le_refl _) _).alloc (by simp) _
  exact ⟨(hk.on hA).on hb, by rw [hb.block _ (by simp only [World.size_alloc]; omega)]; exact heap2_first w _ _ 0, by rw [hb.block _ (by simp only [World.size_alloc]; omega)]; exact heap2_second w _ _ 0, hX, by omega, hA.trans (hb.mono hA.size), rfl⟩
theorem vw_start {w w2 w3 w4 : World} {b0 : Nat} {X : Obj} {S ws : List UInt32} (h2 : RW w b0 X S w2) (h3 : RW w b0 X S w3) (ht : w3.heap[w2.heap.size]? = some (.cells (row ws) 82 (0, 0))) (lt : ws.length = 64)
    (hg : w4.heap[w3.heap.size]? = some (.cells (row S) 60 (0, 0))) (hb : Below w3.heap.size w3 w4) : VW w b0 X S w2.heap.size w3.heap.size ws S w4 :=
  ⟨h3.on hb, by rw [hb.block _ (Array.getElem?_eq_some_iff.1 ht).1]; exact ht, hg, (Array.getElem?_eq_some_iff.1 h2.p).1, (Array.getElem?_eq_some_iff.1 ht).1, lt, h3.ls⟩
abbrev q8 (a b c d e f g h : UInt32) : Array Value := #[.int .u32 (W32 a), .int .u32 (W32 b), .int .u32 (W32 c), .int .u32 (W32 d), .int .u32 (W32 e), .int .u32 (W32 f), .int .u32 (W32 g), .int .u32 (W32 h)]
theorem q8_row (a b c d e f g h : UInt32) : row (hs ⟨a, b, c, d, e, f, g, h⟩) = q8 a b c d e f g h := rfl
theorem built_8 (a b c d e f g h : UInt32) : Tryd.prog.built 60 [(0, .int .u32 (W32 a)), (1, .int .u32 (W32 b)), (2, .int .u32 (W32 c)), (3, .int .u32 (W32 d)), (4, .int .u32 (W32 e)), (5, .int .u32 (W32 f)), (6, .int .u32 (W32 g)), (7, .int .u32 (W32 h))] = some (q8 a b c d e f g h) := by kernel_rfl
theorem bld_8 {ops : Array Oper} {rest : List Oper} {o : Oper} {a : Act} {w : World} {Q : Exit → Act → World → Prop} (hg : o.guard = none) (x0 x1 x2 x3 x4 x5 x6 x7 : Operand) (ho : o.op = .build 60 #[(0, x0), (1, x1), (2, x2), (3, x3), (4, x4), (5, x5), (6, x6), (7, x7)])
    (v0 v1 v2 v3 v4 v5 v6 v7 : UInt32) (h0 : a.eval x0 = .int .u32 (W32 v0)) (h1 : a.eval x1 = .int .u32 (W32 v1)) (h2 : a.eval x2 = .int .u32 (W32 v2)) (h3 : a.eval x3 = .int .u32 (W32 v3)) (h4 : a.eval x4 = .int .u32 (W32 v4)) (h5 : a.eval x5 = .int .u32 (W32 v5)) (h6 : a.eval x6 = .int .u32 (W32 v6)) (h7 : a.eval x7 = .int .u32 (W32 v7))
    (h : wpList Tryd.prog ops Q rest (a.put o.dst (.agg (q8 v0 v1 v2 v3 v4 v5 v6 v7))) w) : wpList Tryd.prog ops Q (o :: rest) a w := by
  have e : (Tryd.prog.built 60 ((#[(0, x0), (1, x1), (2, x2), (3, x3), (4, x4), (5, x5), (6, x6), (7, x7)] : Array (Nat × Operand)).map fun (i, x) => (i, a.eval x)).toList) = some (q8 v0 v1 v2 v3 v4 v5 v6 v7) := by
    simp only [List.map_toArray, List.map_cons, List.map_nil, h0, h1, h2, h3, h4, h5, h6, h7]
    exact built_8 v0 v1 v2 v3 v4 v5 v6 v7
  refine wpList_build hg _ _ ho (by rw [e]; rfl) ?_
  rw [e]
  exact h
theorem info8 : (Tryd.prog.info? 60).map (·.size) = some 8 := by kernel_rfl
theorem one_q8 (a b c d e f g h : UInt32) : ((q8 a b c d e f g h).all fun u => u.oneCell') = true := by
  rw [← q8_row]
  exact row_one _
/-- the sum of two rows, i words of it made -/
def addV (s v : List UInt32) (i : Nat) : List UInt32 := (List.zipWith (· + ·) s v).take i ++ s.drop i
theorem addV_at (s v : HS) (i : Nat) (hi : i < 8) : w16 (addV (hs s) (hs v) i) i = w16 (hs s) i := by
  rcases (by omega : i = 0 ∨ i = 1 ∨ i = 2 ∨ i = 3 ∨ i = 4 ∨ i = 5 ∨ i = 6 ∨ i = 7) with rfl | rfl | rfl | rfl | rfl | rfl | rfl | rfl <;> rfl
theorem addV_set (s v : HS) (i : Nat) (hi : i < 8) : (addV (hs s) (hs v) i).set i (w16 (hs s) i + w16 (hs v) i) = addV (hs s) (hs v) (i + 1) := by
  rcases (by omega : i = 0 ∨ i = 1 ∨ i = 2 ∨ i = 3 ∨ i = 4 ∨ i = 5 ∨ i = 6 ∨ i = 7) with rfl | rfl | rfl | rfl | rfl | rfl | rfl | rfl <;> rfl
theorem addV_all (s v : HS) : addV (hs s) (hs v) 8 = hs (hadd s v) := rfl
theorem rnds_succ' (w : List UInt32) (s : HS) (t : Nat) : rnds w s (t + 1) = rnd (wd KK t) (wd w t) (rnds w s t) := rfl
theorem blks_succ' (m : List UInt8) (n : Nat) : hs (blks m (n + 1)) = addV (hs (blks m n)) (hs (rnds (sch ((m.drop (64 * n)).take 64) 64) (blks m n) 64)) 8 := rfl
theorem sha_def (m : List UInt8) : sha m = hbytes (blks (padd m) ((padd m).length / 64)) := rfl
/-- what lies in memory while the result is written -/
structure OW (w : World) (s : HS) (g i : Nat) (wr : World) : Prop where
  sr : wr.heap[w.heap.size + 1]? = some (.cells (row (hs s)) 60 (0, 0))
  r : wr.heap[w.heap.size]? = some (.cells (brow z32) 56 (0, 0))
  o : wr.heap[g]? = some (.cells (brow (outr s i)) 56 (0, 0))
  hg : w.heap.size + 1 < g
  below : Below w.heap.size w wr
theorem ow_start {w wr : World} {b0 : Nat} {X : Obj} {s : HS} (h : RW w b0 X (hs s) wr) : OW w s wr.heap.size 0 (wr.alloc (.cells (brow z32) 56)) :=
  ⟨by rw [heap_past _ _ _ (Array.getElem?_eq_some_iff.1 h.s).1]; exact h.s, by rw [heap_past _ _ _ (Array.getElem?_eq_some_iff.1 h.r).1]; exact h.r, heap_last _ _ _ rfl, (Array.getElem?_eq_some_iff.1 h.s).1, h.below.alloc h.below.size _⟩
theorem OW.next {w wr : World} {s : HS} {g i : Nat} (h : OW w s g i wr) (hi : i < 32) (c : UInt8) (hc : (hbytes s)[i]? = some c) : OW w s g (i + 1) (wr.setCell ⟨g, i, none⟩ (.int .u8 (B8 c))) := by
  have h1 := h.hg
  rw [setCell_rowC _ _ _ _ _ _ _ h.o, brow_set s i hi c hc]
  exact ⟨by rw [setRow_else _ _ _ _ (by omega)]; exact h.sr, by rw [setRow_else _ _ _ _ (by omega)]; exact h.r, setRow_heap _ _ _ _ _ _ h.o, h.hg, h.below.trans (below_row (by omega))⟩
theorem OW.sc {w wr : World} {s : HS} {g i : Nat} (h : OW w s g i wr) (q : Nat) (hq : q < 8) : wr.cell? ⟨w.heap.size + 1, q, none⟩ = some (.int .u32 (W32 (w16 (hs s) q))) := by
  rw [cell_of_row _ _ _ _ _ _ h.sr]
  have hl : (hs s).length = 8 := rfl
  simp [row, w16, show q < (hs s).length by omega]
theorem not_xor (x : UInt32) : bits .xor .u32 (W32 x) 4294967295 = W32 (~~~x) := by
  have h := u32_xor_u32 x 0xffffffff
  have e : x ^^^ 0xffffffff = ~~~x := UInt32.xor_neg_one
  rw [e] at h
  exact h
theorem padd_pos (m : List UInt8) : 0 < (padd m).length := by
  have := padd_len m
  unfold padd at *
  simp only [List.length_append, List.length_singleton] at *
  omega
theorem padd_le (m : List UInt8) : (padd m).length ≤ m.length + 80 := by
  have := zpad_lt m.length
  unfold padd be8
  simp only [List.length_append, List.length_replicate, List.length_map, List.length_range, List.length_singleton]
  omega
attribute [local irreducible] Calls brow row sha padd
set_option maxRecDepth 100000 in
set_option maxHeartbeats 4000000 in
theorem sum_r (v : Value) (m : List UInt8) (w : World) (hv : RdE eB w v m) (hk : K0At w) (hlen : m.length ≤ 400000) :
    Calls Tryd.prog 38 #[v] w fun e w' => e = .returned (.agg (brow (sha m))) ∧ Below w.heap.size w w' := by
  have hz := zero_32
  have hz64 := zero_64
  have HLEN := Lib.hid hlen
  have HV2 : Hid (∀ u : World, Below w.heap.size w u → RdE eB u v m) := Lib.hid (fun u hu => hv.on hu)
  have HK := Lib.hid hk
  have H0 := Lib.hid hk.lt
  clear hv hk hlen
  go_enter Tryd.func38, Tryd.ntmps38
  go_upto_region 4 with (first
    | (go_at_call 52; refine (padded_r v m _ (HV2.out _ (((Below.refl _ _).alloc (Nat.le_refl _) _).alloc (by simp) _)) (by have := HLEN.out; omega)).mono ?_; rintro e w1 ⟨v1, rfl, ho1, hb1⟩; obtain ⟨b0, cap, X, rfl, hc1, hc2, hb0, hX, hrd⟩ := own_obj ho1 (padd_pos m); rw [← row_iv] at hb1 hb0; have HR1 := Lib.hid (rw_start HK.out hb1 hX hb0); have HRD := Lib.hid hrd; have HC1 := Lib.hid hc1; have HC2 := Lib.hid hc2; clear ho1 hb1 hb0 hX hrd hc1 hc2))
  have hz8 := zero_8
  obtain ⟨q, hq⟩ : ∃ q, (padd m).length = 64 * q := ⟨(padd m).length / 64, by have := padd_len m; omega⟩
  have HQ := Lib.hid hq
  have hqb : q ≤ 100000 := by have := padd_le m; have := HLEN.out; omega
  have HQB := Lib.hid hqb
  have hc1 := HC1.out
  have hc2 := HC2.out
  unfold maxLen at hc2
  rw [hq] at hc1 ⊢
  rw [hq] at HRD
  clear hq hqb
  go_loopw [5] (fun o wr => ∃ n : Nat, n ≤ q ∧ o = .int .i64 (64 * (n : Int)) ∧ Hid (RW w b0 X (hs (blks (padd m) n)) wr)) (fun o _ => 64 * 100000 - (intOf o).toNat)
  case atStart => exact ⟨0, by omega, rfl, HR1⟩
  case round =>
    obtain ⟨n, hn, rfl, hrw⟩ := hrel
    have bq := HQB.out
    by_cases hlt : n < q
    · have hL : (hs (blks (padd m) n)).length = 8 := rfl
      generalize hS : blks (padd m) n = S0 at hrw hL
      have HS := Lib.hid hS
      have HLT := Lib.hid hlt
      have HPL : Hid (64 * n + 64 ≤ (padd m).length) := Lib.hid (by rw [HQ.out]; omega)
      have bn : (n : Int) ≤ 100000 := by omega
      have bn0 : (0 : Int) ≤ 64 * (n : Int) := by omega
      have bn1 : 64 * (n : Int) < 64 * (q : Int) := by omega
      have bn2 : 64 * (n : Int) + 64 ≤ (cap : Int) := by omega
      have bn3 : 64 * n + 64 ≤ cap := by omega
      clear hS hlt hn
      have HBL : Hid ((((padd m).drop (64 * n)).take 64).length = 64) := Lib.hid (by rw [List.length_take, List.length_drop]; have := HPL.out; omega)
      go_upto_region 8 with (first
        | (go_at_call 53; refine (words_r _ (((padd m).drop (64 * n)).take 64) _ (rd_block (HRD.out _ hrw.out.p) (64 * n) HPL.out _ (by omega) (by unfold maxLen; omega)) HBL.out).mono ?_; rintro e w2 ⟨rfl, hb2⟩; have H2 := Lib.hid (hrw.out.on hb2); clear hb2)
        | (refine st_T (T := 82) (row (sch (((padd m).drop (64 * n)).take 64) 64)) (size64 _ (sch_len _ _)) rfl (.tmp 6) (.tmp 28) rfl w2.heap.size (row z64) rfl rfl (row_one _) (by rw [row_size, row_size, sch_len]; exact z64_len) (heap_last _ _ _ rfl) ?_; intro w3 hg3 ho3 hb3; have H3 := Lib.hid (H2.out.on (((Below.refl _ _).alloc (Nat.le_refl _) _).trans (hb3 _ (Nat.le_refl _)))); have HT3 := Lib.hid hg3; clear hg3 ho3 hb3)
        | (refine wpList_load_row rfl 60 (.tmp 3) rfl (w.heap.size + 1) rfl _ _ (0, 0) _ H3.out.s Tryd.underlying60 rfl (size8 _ hL) ?_)
        | (refine st_T (T := 60) (row (hs S0)) (size8 _ hL) rfl (.tmp 7) (.tmp 29) rfl w3.heap.size (row z8) rfl rfl (row_one _) (by rw [row_size, row_size, hL]; rfl) (heap_last _ _ _ rfl) ?_; intro w4 hg4 ho4 hb4; have H4 := Lib.hid (vw_start H2.out H3.out HT3.out (sch_len _ _) hg4 (((Below.refl _ _).alloc (Nat.le_refl _) _).trans (hb4 _ (Nat.le_refl _)))); clear hg4 ho4 hb4))
      have H4' : Hid (∃ gt gv ws, w2.heap.size = gt ∧ w3.heap.size = gv ∧ sch (((padd m).drop (64 * n)).take 64) 64 = ws ∧ VW w b0 X (hs S0) gt gv ws (hs S0) w4) := Lib.hid ⟨_, _, _, rfl, rfl, rfl, H4.out⟩
      obtain ⟨gt, gv, ws, e1, e2, e3, h4⟩ := H4'.out
      have HWS := Lib.hid e3
      have H5 := Lib.hid h4
      rw [e1, e2, e3]
      clear e3 h4 H4 H4' HT3 HBL
      clear e1 e2 H3 H2 hrw
      go_wp2
      go_loopw [8] (fun o wr => ∃ t : Nat, t ≤ 64 ∧ o = .int .i64 t ∧ Hid (VW w b0 X (hs S0) gt gv ws (hs (rnds ws S0 t)) wr)) (fun o _ => 64 - (intOf o).toNat)
      case atStart => exact ⟨0, by omega, rfl, H5⟩
      case round =>
        obtain ⟨t, ht, rfl, hvw⟩ := hrel
        by_cases h64 : t < 64
        · have hd : decide ((t : Int) < 64) = true := by simp; omega
          generalize hst : rnds ws S0 t = st at hvw
          have HST := Lib.hid hst
          have HLT2 := Lib.hid h64
          have c0 : wr.cell? ⟨gv, 0, none⟩ = some (.int .u32 (W32 st.a)) := hvw.out.vc 0 (by decide)
          have c1 : wr.cell? ⟨gv, 1, none⟩ = some (.int .u32 (W32 st.b)) := hvw.out.vc 1 (by decide)
          have c2 : wr.cell? ⟨gv, 2, none⟩ = some (.int .u32 (W32 st.c)) := hvw.out.vc 2 (by decide)
          have c3 : wr.cell? ⟨gv, 3, none⟩ = some (.int .u32 (W32 st.d)) := hvw.out.vc 3 (by decide)
          have c4 : wr.cell? ⟨gv, 4, none⟩ = some (.int .u32 (W32 st.e)) := hvw.out.vc 4 (by decide)
          have c5 : wr.cell? ⟨gv, 5, none⟩ = some (.int .u32 (W32 st.f)) := hvw.out.vc 5 (by decide)
          have c6 : wr.cell? ⟨gv, 6, none⟩ = some (.int .u32 (W32 st.g)) := hvw.out.vc 6 (by decide)
          have c7 : wr.cell? ⟨gv, 7, none⟩ = some (.int .u32 (W32 st.h)) := hvw.out.vc 7 (by decide)
          have ct := hvw.out.tc t h64
          have ck := hvw.out.kc t h64
          have hnx : bits .xor .u32 (W32 st.e) 4294967295 = W32 (~~~st.e) := not_xor _
          have R6 : Hid (∀ (x : UInt32) (w : World), Calls Tryd.prog 54 #[.int .u32 (W32 x), .int .i64 6] w fun e w' => e = .returned (.int .u32 (W32 (rr x 6))) ∧ ∃ n, w' = w.drewN n) := Lib.hid (fun x w => rotr_r x 6 (by omega) (by omega) w)
          have R11 : Hid (∀ (x : UInt32) (w : World), Calls Tryd.prog 54 #[.int .u32 (W32 x), .int .i64 11] w fun e w' => e = .returned (.int .u32 (W32 (rr x 11))) ∧ ∃ n, w' = w.drewN n) := Lib.hid (fun x w => rotr_r x 11 (by omega) (by omega) w)
          have R25 : Hid (∀ (x : UInt32) (w : World), Calls Tryd.prog 54 #[.int .u32 (W32 x), .int .i64 25] w fun e w' => e = .returned (.int .u32 (W32 (rr x 25))) ∧ ∃ n, w' = w.drewN n) := Lib.hid (fun x w => rotr_r x 25 (by omega) (by omega) w)
          have R2 : Hid (∀ (x : UInt32) (w : World), Calls Tryd.prog 54 #[.int .u32 (W32 x), .int .i64 2] w fun e w' => e = .returned (.int .u32 (W32 (rr x 2))) ∧ ∃ n, w' = w.drewN n) := Lib.hid (fun x w => rotr_r x 2 (by omega) (by omega) w)
          have R13 : Hid (∀ (x : UInt32) (w : World), Calls Tryd.prog 54 #[.int .u32 (W32 x), .int .i64 13] w fun e w' => e = .returned (.int .u32 (W32 (rr x 13))) ∧ ∃ n, w' = w.drewN n) := Lib.hid (fun x w => rotr_r x 13 (by omega) (by omega) w)
          have R22 : Hid (∀ (x : UInt32) (w : World), Calls Tryd.prog 54 #[.int .u32 (W32 x), .int .i64 22] w fun e w' => e = .returned (.int .u32 (W32 (rr x 22))) ∧ ∃ n, w' = w.drewN n) := Lib.hid (fun x w => rotr_r x 22 (by omega) (by omega) w)
          clear hst ht bn2 bn3 bn1 hc1 hc2 bn bn0 bq
          go_upto_region 11 with fail
          go_cut [9] from 30 to 117 (fun x wc => x = .int .u32 (W32 (rndX (wd KK t) (wd ws t) st)) ∧ ∃ n, wc = wr.drewN n)
          case first =>
            first | refine allD (by kernel_rfl) (by kernel_rfl) ?_ | refine all0 (by kernel_rfl) (by kernel_rfl) ?_
            repeat (first
              | go_big_quiet_step ((go_at_call 54; exact Calls.quiet_of (R6.out _ _)))
              | go_big_quiet_step ((go_at_call 54; exact Calls.quiet_of (R11.out _ _)))
              | go_big_quiet_step ((go_at_call 54; exact Calls.quiet_of (R25.out _ _))))
            refine wpQuiet_nil ?_
            rintro _ ⟨nq, rfl⟩
            go_wp2
            go_meet
            exact ⟨rfl, _, rfl⟩
          case rest =>
            obtain ⟨rfl, n1, hw⟩ := hcut
            have H6 : Hid (VW w b0 X (hs S0) gt gv ws (hs st) wc) := Lib.hid (by rw [hw]; exact hvw.out.drew n1)
            clear hw hvw c0 c1 c2 c3 c4 c5 c6 c7 ct ck hnx R6 R11 R25
            obtain ⟨XX, hX⟩ : ∃ XX, XX = rndX (wd KK t) (wd ws t) st := ⟨_, rfl⟩
            have HX := Lib.hid hX
            rw [← hX]
            clear hX
            have c0 : wc.cell? ⟨gv, 0, none⟩ = some (.int .u32 (W32 st.a)) := H6.out.vc 0 (by decide)
            have c1 : wc.cell? ⟨gv, 1, none⟩ = some (.int .u32 (W32 st.b)) := H6.out.vc 1 (by decide)
            have c2 : wc.cell? ⟨gv, 2, none⟩ = some (.int .u32 (W32 st.c)) := H6.out.vc 2 (by decide)
            go_upto_region 12 with fail
            go_cut [10] from 30 to 117 (fun y wf => y = .int .u32 (W32 (rndY st)) ∧ ∃ n, wf = wc.drewN n)
            case first =>
              first | refine allD (by kernel_rfl) (by kernel_rfl) ?_ | refine all0 (by kernel_rfl) (by kernel_rfl) ?_
              repeat (first
                | go_big_quiet_step ((go_at_call 54; exact Calls.quiet_of (R2.out _ _)))
                | go_big_quiet_step ((go_at_call 54; exact Calls.quiet_of (R13.out _ _)))
                | go_big_quiet_step ((go_at_call 54; exact Calls.quiet_of (R22.out _ _))))
              refine wpQuiet_nil ?_
              rintro _ ⟨nq, rfl⟩
              go_wp2
              go_meet
              exact ⟨rfl, _, rfl⟩
            case rest =>
              obtain ⟨rfl, n2, hw⟩ := hcut
              have H7 := Lib.hid (H6.out.drew n2)
              rw [← hw] at H7
              clear hw c0 c1 c2 R2 R13 R22
              obtain ⟨YY, hY⟩ : ∃ YY, YY = rndY st := ⟨_, rfl⟩
              have HY := Lib.hid hY
              rw [← hY]
              clear hY
              have c0 : wc.cell? ⟨gv, 0, none⟩ = some (.int .u32 (W32 st.a)) := H7.out.vc 0 (by decide)
              have c1 : wc.cell? ⟨gv, 1, none⟩ = some (.int .u32 (W32 st.b)) := H7.out.vc 1 (by decide)
              have c2 : wc.cell? ⟨gv, 2, none⟩ = some (.int .u32 (W32 st.c)) := H7.out.vc 2 (by decide)
              have c3 : wc.cell? ⟨gv, 3, none⟩ = some (.int .u32 (W32 st.d)) := H7.out.vc 3 (by decide)
              have c4 : wc.cell? ⟨gv, 4, none⟩ = some (.int .u32 (W32 st.e)) := H7.out.vc 4 (by decide)
              have c5 : wc.cell? ⟨gv, 5, none⟩ = some (.int .u32 (W32 st.f)) := H7.out.vc 5 (by decide)
              have c6 : wc.cell? ⟨gv, 6, none⟩ = some (.int .u32 (W32 st.g)) := H7.out.vc 6 (by decide)
              clear hd
              have hr8 : (row (hs st)).size = 8 := row_size (hs st)
              go_wp2_with (first
                | (refine bld_8 rfl (.tmp 100) (.tmp 102) (.tmp 104) (.tmp 106) (.tmp 110) (.tmp 112) (.tmp 114) (.tmp 116) rfl (XX + YY) st.a st.b st.c (st.d + XX) st.e st.f st.g rfl rfl rfl rfl rfl rfl rfl rfl ?_)
                | (refine st_T (T := 60) (q8 (XX + YY) st.a st.b st.c (st.d + XX) st.e st.f st.g) info8 rfl (.tmp 7) (.tmp 117) rfl gv (row (hs st)) rfl rfl (one_q8 _ _ _ _ _ _ _ _) hr8 H7.out.v ?_; intro wd hgd hod hbd; have H8 := Lib.hid (H7.out.setV (V' := hs ⟨XX + YY, st.a, st.b, st.c, st.d + XX, st.e, st.f, st.g⟩) rfl (by rw [q8_row]; exact hgd) hod hbd); clear hgd hod hbd))
              go_roundw
              case rel => exact ⟨t + 1, by have := HLT2.out; omega, by go_num, Lib.hid (by rw [rnds_succ' ws S0 t, HST.out]; unfold rnd; rw [← HX.out, ← HY.out]; exact H8.out)⟩
              case measure => have := HLT2.out; simp [intOf]; omega
        · have he : t = 64 := by omega
          subst he
          obtain ⟨vz, hvz⟩ : ∃ vz, vz = rnds ws S0 64 := ⟨_, rfl⟩
          have HVZ := Lib.hid hvz
          rw [← hvz] at hvw
          clear hvz h64 ht hc1 hc2 bn2 bn3 bn1 bn bn0 bq
          go_wp2
          go_loopw [11] (fun o wr => ∃ i : Nat, i ≤ 8 ∧ o = .int .i64 i ∧ Hid (VW w b0 X (addV (hs S0) (hs vz) i) gt gv ws (hs vz) wr)) (fun o _ => 8 - (intOf o).toNat)
          case atStart => exact ⟨0, by omega, rfl, hvw⟩
          case round =>
            obtain ⟨i, hi, rfl, H⟩ := hrel
            by_cases h8 : i < 8
            · have hd : decide ((i : Int) < 8) = true := by simp; omega
              have s0 := H.out.sc i h8
              rw [addV_at S0 vz i h8] at s0
              have v0 := H.out.vc i h8
              have f0 := frozen_of_row _ _ i _ _ H.out.s
              clear hvw
              go_wp2
              first | refine tailD 9 (by kernel_rfl) (by kernel_rfl) ?_ | refine tail0 9 (by kernel_rfl) (by kernel_rfl) ?_
              simp only [List.take_succ_cons, List.take_zero, List.drop_succ_cons, List.drop_zero]
              repeat (go_big_quiet_step (fail))
              refine wpQuiet_nil ?_
              rintro _ ⟨nq, rfl⟩
              go_wp2
              go_roundw
              case rel => exact ⟨i + 1, h8, by go_num, Lib.hid (by rw [← addV_set S0 vz i h8]; exact (H.out.drew nq).setS H0.out i _)⟩
              case measure => simp [intOf]; omega
            · have he8 : i = 8 := by omega
              subst he8
              have hd : decide (((8 : Nat) : Int) < 8) = false := by decide
              have HF : Hid (RW w b0 X (hs (blks (padd m) (n + 1))) wr) := Lib.hid (by rw [blks_succ' (padd m) n, HS.out, HWS.out, ← HVZ.out]; exact H.out.toRW)
              have bnn : (n : Int) ≤ 100000 := by have := HLT.out; have := HQB.out; omega
              have bnn0 : (0 : Int) ≤ 64 * (n : Int) := by omega
              clear hvw h8 hi
              go_wp2
              go_roundw
              case rel => exact ⟨n + 1, HLT.out, by go_num, HF⟩
              case measure => have := HLT.out; have := HQB.out; simp [intOf]; omega
    · have he : n = q := by omega
      subst he
      have HS1 : Hid (sha m = hbytes (blks (padd m) n)) := Lib.hid (by rw [sha_def, HQ.out, Nat.mul_div_cancel_left _ (by decide)])
      generalize blks (padd m) n = s1 at hrw HS1
      clear hn bq hc1 hc2 hz64 hz8
      have hd : decide (64 * (n : Int) < 64 * (n : Int)) = false := by simp
      go_wp2
      go_loopw [13] (fun o wr' => ∃ i : Nat, i ≤ 32 ∧ o = .int .i64 i ∧ Hid (OW w s1 wr.heap.size i wr')) (fun o _ => 32 - (intOf o).toNat)
      case atStart => exact ⟨0, by omega, rfl, Lib.hid (ow_start hrw.out)⟩
      case round =>
        obtain ⟨i, hi, rfl, how⟩ := hrel
        clear hd
        by_cases h32 : i < 32
        · obtain ⟨q, r, hqr, hq8, hr4⟩ : ∃ q r, i = 4 * q + r ∧ q < 8 ∧ r < 4 := ⟨i / 4, i % 4, by omega, by omega, by omega⟩
          have hcx := how.out.sc q hq8
          have hfz := frozen_of_row _ _ i _ _ how.out.o
          have hq : (i : Int) / 4 = (q : Int) := by omega
          have hbx : (hbytes s1)[i]? = (w4 (w16 (hs s1) q))[r]? := by rw [hqr]; exact hb_at s1 q r hq8 hr4
          have hL : i < 32 := h32
          have hcell := cell_of_row _ _ i _ _ _ how.out.o
          rw [brow_at _ _ (by rw [outr_len _ _ hi]; exact h32)] at hcell
          have hr : (i : Int) % 4 = (r : Int) := by omega
          generalize w16 (hs s1) q = x at hcx hbx
          have HQR := Lib.hid hqr
          clear hqr
          rcases (by omega : r = 0 ∨ r = 1 ∨ r = 2 ∨ r = 3) with rfl | rfl | rfl | rfl
          · have HX : Hid ((hbytes s1)[i]? = some (shr x 24).toUInt8) := Lib.hid hbx
            clear hbx
            go_wp2
            go_roundw
            case rel => exact ⟨i + 1, h32, by go_num, Lib.hid (how.out.next h32 _ HX.out)⟩
            case measure => simp [intOf]; omega
          · have HX : Hid ((hbytes s1)[i]? = some (shr x 16).toUInt8) := Lib.hid hbx
            clear hbx
            go_wp2
            go_roundw
            case rel => exact ⟨i + 1, h32, by go_num, Lib.hid (how.out.next h32 _ HX.out)⟩
            case measure => simp [intOf]; omega
          · have HX : Hid ((hbytes s1)[i]? = some (shr x 8).toUInt8) := Lib.hid hbx
            clear hbx
            go_wp2
            go_roundw
            case rel => exact ⟨i + 1, h32, by go_num, Lib.hid (how.out.next h32 _ HX.out)⟩
            case measure => simp [intOf]; omega
          · have HX : Hid ((hbytes s1)[i]? = some x.toUInt8) := Lib.hid hbx
            clear hbx
            go_wp2
            go_roundw
            case rel => exact ⟨i + 1, h32, by go_num, Lib.hid (how.out.next h32 _ HX.out)⟩
            case measure => simp [intOf]; omega
        · have h32' : i = 32 := by omega
          subst h32'
          have HLX : (outr s1 32).length = 32 := outr_len _ _ (Nat.le_refl _)
          clear h32 hi
          go_wp2_with (first
            | (refine wpList_load_row rfl 56 (.tmp 12) rfl _ rfl _ _ (0, 0) _ how.out.o Tryd.underlying56 rfl (size32 _ HLX) ?_)
            | (refine st_T (T := 56) (brow (outr s1 32)) (size32 _ HLX) rfl (.tmp 2) (.tmp 147) rfl w.heap.size (brow z32) rfl rfl (brow_one _) (by rw [brow_size, brow_size, HLX]; rfl) how.out.r ?_; intro we hge hoe hbe))
          (try simp only [Exit.inBlock, Exit.then])
          refine bodyPost_ret (results_cell_row rfl _ _ w.heap.size _ (brow (outr s1 32)) (0, 0) _ rfl hge Tryd.underlying56 rfl (size32 _ HLX)) rfl ?_
          exact ⟨by rw [outr_all, HS1.out], how.out.below.trans (hbe _ (Nat.le_refl _))⟩
end Go.Proofs.YtackbjbmadkkhaaDoor
