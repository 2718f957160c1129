/- Parts of a proof, joined: contracts of functions of the program and plain lemmas (FrameK, FrameT, BalE, RefJ, FrameU, RefK, RefL, RefM). No condition. -/
import Derived.Test.YtbpjdfnnlmblaaaGreatDoorMA15
import Derived.Deep.Slices
import Derived.Deep.Fields
import Derived.ChangeSame
import Derived.LaidMore
import Derived.LaidLaws
import Derived.BigRegion
/- Tables, backups, keys and places that come in. -/
namespace Go.Proofs.YtbpjdfnnlmblaaaGreatDoor
open Go.ChangeShapes Go.WideShapes Go.ChangeAt Go.RowKit Go.Deep
set_option linter.unusedSimpArgs false
set_option linter.unusedVariables false
set_option maxRecDepth 10000
section fk
variable {H : Type} {enc : TypeId × Value → H} {w : World} {base : Nat} {sp : Nat → Bool} {held : Bool}
theorem fld {T t : TypeId} {fs : Array Field} {fuel : Nat} {cs : List Value} {x : DataW H × List MemPlace} (ht : Tryz.prog.underlying T = some (.struct fs)) (h : DataW.trod enc Tryz.prog w base sp held fuel T cs = some x) (i o c : Nat)
    (hf : (fs.toList.map fun f => (f.type, f.offset))[i]? = some (t, o)) (hc : Tryz.prog.cellsOf t = c) : ∃ n y, DataW.trod enc Tryz.prog w base sp held n t ((cs.drop o).take c) = some y := by
  obtain ⟨xs, n, _, _, _, hxs, hh⟩ := DataW.trod_struct ht h
  rw [List.getElem?_map] at hf
  cases hfi : fs.toList[i]? with
  | none => rw [hfi] at hf; cases hf
  | some f =>
    rw [hfi] at hf
    simp only [Option.map_some, Option.some.injEq, Prod.mk.injEq] at hf
    have hfa : fs[i]? = some f := by rw [← Array.getElem?_toList]; exact hfi
    have h1 := hh i f hfa
    rw [hf.1, hf.2, hc] at h1
    have hlt : i < xs.length := by rw [hxs]; exact (Array.getElem?_eq_some_iff.1 hfa).1
    exact ⟨n, xs[i], by rw [h1, List.getElem?_eq_getElem hlt]⟩
theorem fld_len {T : TypeId} {fs : Array Field} {fuel c : Nat} {cs : List Value} {x : DataW H × List MemPlace} (ht : Tryz.prog.underlying T = some (.struct fs)) (hc : Tryz.prog.cellsOf T = c) (h : DataW.trod enc Tryz.prog w base sp held fuel T cs = some x) : cs.length = c := by
  obtain ⟨xs, n, _, _, hl, _⟩ := DataW.trod_struct ht h
  rw [hl, hc]
theorem cut1 {cs : List Value} {o : Nat} {v : Value} (h : (cs.drop o).take 1 = [v]) : cs[o]? = some v := cell_of_cut h
theorem fld_int {T : TypeId} {fs : Array Field} {fuel : Nat} {cs : List Value} {x : DataW H × List MemPlace} (ht : Tryz.prog.underlying T = some (.struct fs)) (h : DataW.trod enc Tryz.prog w base sp held fuel T cs = some x) (i o : Nat)
    (hf : (fs.toList.map fun f => (f.type, f.offset))[i]? = some (3, o)) : ∃ z : Int, cs[o]? = some (.int .i64 z) ∧ (Lit.int .i64 z).wf = true := by
  obtain ⟨n, y, hy⟩ := fld ht h i o 1 hf (by kernel_rfl)
  obtain ⟨z, hz, _, hw⟩ := DataW.trod_int Tryz.underlying3 hy
  exact ⟨z, cut1 hz, hw⟩
theorem fld_str {T : TypeId} {fs : Array Field} {fuel : Nat} {cs : List Value} {x : DataW H × List MemPlace} (ht : Tryz.prog.underlying T = some (.struct fs)) (h : DataW.trod enc Tryz.prog w base sp held fuel T cs = some x) (i o : Nat)
    (hf : (fs.toList.map fun f => (f.type, f.offset))[i]? = some (9, o)) : ∃ l : List UInt8, cs[o]? = some (.string ⟨l.toArray⟩) ∧ l.length ≤ maxLen := by
  obtain ⟨n, y, hy⟩ := fld ht h i o 1 hf (by kernel_rfl)
  obtain ⟨s, hs, _, hl⟩ := DataW.trod_string Tryz.underlying9 hy
  obtain ⟨l, rfl⟩ := str_of s
  exact ⟨l, cut1 hs, hl⟩
theorem fld_bool {T : TypeId} {fs : Array Field} {fuel : Nat} {cs : List Value} {x : DataW H × List MemPlace} (ht : Tryz.prog.underlying T = some (.struct fs)) (h : DataW.trod enc Tryz.prog w base sp held fuel T cs = some x) (i o : Nat)
    (hf : (fs.toList.map fun f => (f.type, f.offset))[i]? = some (4, o)) : ∃ b : Bool, cs[o]? = some (.bool b) := by
  obtain ⟨n, y, hy⟩ := fld ht h i o 1 hf (by kernel_rfl)
  obtain ⟨b, hb, _⟩ := DataW.trod_bool Tryz.underlying4 hy
  exact ⟨b, cut1 hb⟩
theorem u8_of {a : Int} (h : (Lit.int .u8 a).wf = true) : ∃ c : UInt8, a = B8 c := by
  simp only [Lit.wf, Bool.and_eq_true, decide_eq_true_eq] at h
  have h1 : (0 : Int) ≤ a := h.1
  have h2 : a ≤ 255 := h.2
  refine ⟨UInt8.ofNat a.toNat, ?_⟩
  unfold B8
  rw [UInt8.toNat_ofNat_of_lt' (by show a.toNat < 256; omega)]
  omega
theorem wrap_of {a : Int} (h : (Lit.int .i64 a).wf = true) : IntKind.i64.wrap a = a := by
  have := i64_of h
  rw [IntKind.wrap_i64]
  omega
theorem choose_bytes {Q : Nat → UInt8 → Prop} (n : Nat) (h : ∀ i, i < n → ∃ c, Q i c) : ∃ d : List UInt8, d.length = n ∧ ∀ i, i < n → Q i (byteAt d i) := by
  induction n with
  | zero => exact ⟨[], rfl, fun i hi => absurd hi (by omega)⟩
  | succ n ih =>
    obtain ⟨d, hd, hq⟩ := ih (fun i hi => h i (by omega))
    obtain ⟨c, hc⟩ := h n (by omega)
    refine ⟨d ++ [c], by simp [hd], fun i hi => ?_⟩
    by_cases e : i < n
    · have : byteAt (d ++ [c]) i = byteAt d i := by unfold byteAt; rw [List.getD_eq_getElem?_getD, List.getD_eq_getElem?_getD, List.getElem?_append_left (by omega)]
      rw [this]; exact hq i e
    · obtain rfl : i = n := by omega
      have : byteAt (d ++ [c]) i = c := by unfold byteAt; rw [List.getD_eq_getElem?_getD, List.getElem?_append_right (by omega), hd]; simp
      rw [this]; exact hc
theorem dig_of {fuel : Nat} {cs : List Value} {x : DataW H × List MemPlace} (h : DataW.trod enc Tryz.prog w base sp held fuel 23 cs = some x) : ∃ d : List UInt8, cs = (drow d).toList := by
  obtain ⟨xs, m, _, _, hl, hxs, hh⟩ := DataW.trod_array Tryz.underlying23 h
  have hc : Tryz.prog.cellsOf 23 = 16 := by kernel_rfl
  have hu : Tryz.prog.cellsOf 5 = 1 := by kernel_rfl
  rw [hc] at hl
  rw [hu] at hh
  have key : ∀ i, i < 16 → ∃ c : UInt8, cs[i]? = some (.int .u8 (B8 c)) := by
    intro i hi
    have h1 := hh i hi
    rw [List.getElem?_eq_getElem (by omega : i < xs.length), Nat.mul_one] at h1
    obtain ⟨z, hz, _, hw⟩ := DataW.trod_int Tryz.underlying5 h1
    obtain ⟨c, rfl⟩ := u8_of hw
    exact ⟨c, cut1 hz⟩
  obtain ⟨d, hd, hq⟩ := choose_bytes 16 key
  refine ⟨d, List.ext_getElem? fun i => ?_⟩
  have e : (drow d).toList = (List.range 16).map (dcell d) := rfl
  rw [e]
  by_cases hi : i < 16
  · rw [hq i hi]; simp [hi, dcell]
  · rw [List.getElem?_eq_none (by omega), List.getElem?_eq_none (by simp; omega)]
theorem und_k : Tryz.prog.underlying 45 = some (.struct (Tryz.prog.fieldsOf 45)) := by kernel_rfl
theorem und_t : Tryz.prog.underlying 28 = some (.struct (Tryz.prog.fieldsOf 28)) := by kernel_rfl
theorem und_b : Tryz.prog.underlying 26 = some (.struct (Tryz.prog.fieldsOf 26)) := by kernel_rfl
theorem fs_k : ((Tryz.prog.fieldsOf 45).toList.map fun f => (f.type, f.offset)) = [(3, 0), (3, 1), (9, 2), (3, 3), (3, 4), (3, 5), (3, 6), (3, 7), (4, 8)] := by kernel_rfl
theorem fs_t : ((Tryz.prog.fieldsOf 28).toList.map fun f => (f.type, f.offset)) = [(3, 0), (24, 1)] := by kernel_rfl
theorem fs_b : ((Tryz.prog.fieldsOf 26).toList.map fun f => (f.type, f.offset)) = [(23, 0), (3, 16), (3, 17), (3, 18), (3, 19), (23, 20), (9, 36), (24, 37)] := by kernel_rfl
theorem list9 (l : List Value) (h : l.length = 9) : ∃ c0 c1 c2 c3 c4 c5 c6 c7 c8, l = [c0, c1, c2, c3, c4, c5, c6, c7, c8] := by
  match l, h with
  | [c0, c1, c2, c3, c4, c5, c6, c7, c8], _ => exact ⟨c0, c1, c2, c3, c4, c5, c6, c7, c8, rfl⟩
theorem list2 (l : List Value) (h : l.length = 2) : ∃ c0 c1, l = [c0, c1] := by
  match l, h with
  | [c0, c1], _ => exact ⟨c0, c1, rfl⟩
theorem list38 (l : List Value) (h : l.length = 38) : ∃ c0 c1 c2 c3 c4 c5 c6 c7 c8 c9 c10 c11 c12 c13 c14 c15 c16 c17 c18 c19 c20 c21 c22 c23 c24 c25 c26 c27 c28 c29 c30 c31 c32 c33 c34 c35 c36 c37, l = [c0, c1, c2, c3, c4, c5, c6, c7, c8, c9, c10, c11, c12, c13, c14, c15, c16, c17, c18, c19, c20, c21, c22, c23, c24, c25, c26, c27, c28, c29, c30, c31, c32, c33, c34, c35, c36, c37] := by
  match l, h with
  | c0 :: c1 :: c2 :: c3 :: c4 :: c5 :: c6 :: c7 :: c8 :: c9 :: c10 :: c11 :: c12 :: c13 :: c14 :: c15 :: c16 :: c17 :: c18 :: c19 :: c20 :: c21 :: c22 :: c23 :: c24 :: c25 :: c26 :: c27 :: c28 :: c29 :: c30 :: c31 :: c32 :: c33 :: c34 :: c35 :: c36 :: c37 :: [], _ => exact ⟨c0, c1, c2, c3, c4, c5, c6, c7, c8, c9, c10, c11, c12, c13, c14, c15, c16, c17, c18, c19, c20, c21, c22, c23, c24, c25, c26, c27, c28, c29, c30, c31, c32, c33, c34, c35, c36, c37, rfl⟩
theorem list34 (l : List Value) (h : l.length = 34) : ∃ c0 c1 c2 c3 c4 c5 c6 c7 c8 c9 c10 c11 c12 c13 c14 c15 c16 c17 c18 c19 c20 c21 c22 c23 c24 c25 c26 c27 c28 c29 c30 c31 c32 c33, l = [c0, c1, c2, c3, c4, c5, c6, c7, c8, c9, c10, c11, c12, c13, c14, c15, c16, c17, c18, c19, c20, c21, c22, c23, c24, c25, c26, c27, c28, c29, c30, c31, c32, c33] := by
  match l, h with
  | c0 :: c1 :: c2 :: c3 :: c4 :: c5 :: c6 :: c7 :: c8 :: c9 :: c10 :: c11 :: c12 :: c13 :: c14 :: c15 :: c16 :: c17 :: c18 :: c19 :: c20 :: c21 :: c22 :: c23 :: c24 :: c25 :: c26 :: c27 :: c28 :: c29 :: c30 :: c31 :: c32 :: c33 :: [], _ => exact ⟨c0, c1, c2, c3, c4, c5, c6, c7, c8, c9, c10, c11, c12, c13, c14, c15, c16, c17, c18, c19, c20, c21, c22, c23, c24, c25, c26, c27, c28, c29, c30, c31, c32, c33, rfl⟩
theorem key_of {fuel : Nat} {cs : List Value} {x : DataW H × List MemPlace} (h : DataW.trod enc Tryz.prog w base sp held fuel 45 cs = some x) : ∃ k : K, cs = (kc k).toList ∧ k.wf := by
  have hl := fld_len und_k (c := 9) (by kernel_rfl) h
  obtain ⟨z0, e0, w0⟩ := fld_int und_k h 0 0 (by rw [fs_k]; rfl)
  obtain ⟨z1, e1, w1⟩ := fld_int und_k h 1 1 (by rw [fs_k]; rfl)
  obtain ⟨z2, e2, w2⟩ := fld_str und_k h 2 2 (by rw [fs_k]; rfl)
  obtain ⟨z3, e3, w3⟩ := fld_int und_k h 3 3 (by rw [fs_k]; rfl)
  obtain ⟨z4, e4, w4⟩ := fld_int und_k h 4 4 (by rw [fs_k]; rfl)
  obtain ⟨z5, e5, w5⟩ := fld_int und_k h 5 5 (by rw [fs_k]; rfl)
  obtain ⟨z6, e6, w6⟩ := fld_int und_k h 6 6 (by rw [fs_k]; rfl)
  obtain ⟨z7, e7, w7⟩ := fld_int und_k h 7 7 (by rw [fs_k]; rfl)
  obtain ⟨z8, e8⟩ := fld_bool und_k h 8 8 (by rw [fs_k]; rfl)
  refine ⟨⟨z0, z1, z2, z3, z4, z5, z6, z7, z8⟩, ?_, wrap_of w0, wrap_of w3⟩
  obtain ⟨c0, c1, c2, c3, c4, c5, c6, c7, c8, rfl⟩ := list9 cs hl
  simp at e0 e1 e2 e3 e4 e5 e6 e7 e8
  subst e0 e1 e2 e3 e4 e5 e6 e7 e8
  rfl
theorem choose_k {Q : Nat → K → Prop} (n : Nat) (h : ∀ i, i < n → ∃ c, Q i c) : ∃ d : List K, d.length = n ∧ ∀ i, i < n → Q i (keyAt d i) := by
  induction n with
  | zero => exact ⟨[], rfl, fun i hi => absurd hi (by omega)⟩
  | succ n ih =>
    obtain ⟨d, hd, hq⟩ := ih (fun i hi => h i (by omega))
    obtain ⟨c, hc⟩ := h n (by omega)
    refine ⟨d ++ [c], by simp [hd], fun i hi => ?_⟩
    by_cases e : i < n
    · rw [keyAt_append_left _ _ _ (by omega)]; exact hq i e
    · obtain rfl : i = d.length := by omega
      rw [keyAt_last, hd]; exact hc
theorem keys_of {fuel : Nat} {v : Value} {x : DataW H × List MemPlace} (h : DataW.trod enc Tryz.prog w base sp held fuel 24 [v] = some x) : ∃ l : List K, RdK w v l ∧ ∀ i, i < l.length → (keyAt l i).wf := by
  rcases open_slice Tryz.underlying24 h with ⟨hcs, _⟩ | ⟨a, len, cap, m, n, D, Pl, hcs, _, hl, hm, hmm, _, hi⟩
  · simp only [List.cons.injEq, and_true] at hcs
    subst hcs
    exact ⟨[], RdK.nil w, fun i hi => absurd hi (by simp)⟩
  · simp only [List.cons.injEq, and_true] at hcs
    subst hcs
    have hle : len ≤ m := by rw [hmm]; split <;> omega
    have hc : Tryz.prog.cellsOf 45 = 9 := by kernel_rfl
    rw [hc] at hi
    obtain ⟨l, hlen, hq⟩ := choose_k (Q := fun i k => (∀ j, j < 9 → w.cell? (a.add (i * 9 + j)) = (kc k)[j]?) ∧ k.wf) len (fun i hil => by
      obtain ⟨cs', h1, h2⟩ := hi i (by omega)
      obtain ⟨k, rfl, hwf⟩ := key_of h2
      obtain ⟨_, _, h3⟩ := World.cells?_some h1
      refine ⟨k, fun j hj => ?_, hwf⟩
      have := h3 j hj
      rw [← Go.Deep.add_add, this, Array.getElem?_toList])
    refine ⟨l, ⟨some a, cap, by rw [hlen], by omega, hm, fun h0 => ?_⟩, fun i hil => (hq i (by omega)).2⟩
    obtain ⟨b, off, spot⟩ := a
    have h1 := (hq 0 (by omega)).1 0 (by omega)
    have hk0 : (kc (keyAt l 0))[0]? = some (.int .i64 (keyAt l 0).id) := rfl
    rw [hk0] at h1
    have hspot : spot = none := by simpa [Addr.add] using World.cell?_spot h1
    subst hspot
    have hadd : ∀ i, (⟨b, off, none⟩ : Addr).add i = ⟨b, off + i, none⟩ := by intro i; unfold Addr.add; split <;> simp_all
    refine ⟨b, off, rfl, ?_, fun j hj i hi9 => ?_⟩
    · have := World.block_lt_of_cell? _ _ h1
      simpa [Addr.add] using this
    · have := (hq j (by omega)).1 i hi9
      rw [hadd, ← Nat.add_assoc] at this
      exact this
theorem table_of {fuel : Nat} {cs : List Value} {x : DataW H × List MemPlace} (h : DataW.trod enc Tryz.prog w base sp held fuel 28 cs = some x) : ∃ (nx : Int) (v : Value) (l : List K), cs = [.int .i64 nx, v] ∧ (Lit.int .i64 nx).wf = true ∧ RdK w v l ∧ ∀ i, i < l.length → (keyAt l i).wf := by
  have hl := fld_len und_t (c := 2) (by kernel_rfl) h
  obtain ⟨z0, e0, w0⟩ := fld_int und_t h 0 0 (by rw [fs_t]; rfl)
  obtain ⟨n, y, hy⟩ := fld und_t h 1 1 1 (by rw [fs_t]; rfl) (by kernel_rfl)
  obtain ⟨c0, c1, rfl⟩ := list2 cs hl
  obtain ⟨l, hr, hw⟩ := keys_of (v := c1) hy
  simp at e0
  subst e0
  exact ⟨z0, c1, l, rfl, w0, hr, hw⟩
theorem backup_of {fuel : Nat} {cs : List Value} {x : DataW H × List MemPlace} (h : DataW.trod enc Tryz.prog w base sp held fuel 26 cs = some x) : ∃ (b : BK) (v : Value) (l : List K), cs = (bc b v).toList ∧ b.mo.length ≤ maxLen ∧ RdK w v l ∧ ∀ i, i < l.length → (keyAt l i).wf := by
  have hl := fld_len und_b (c := 38) (by kernel_rfl) h
  obtain ⟨n0, y0, h0⟩ := fld und_b h 0 0 16 (by rw [fs_b]; rfl) (by kernel_rfl)
  obtain ⟨d0, f0⟩ := dig_of h0
  obtain ⟨z1, e1, w1⟩ := fld_int und_b h 1 16 (by rw [fs_b]; rfl)
  obtain ⟨z2, e2, w2⟩ := fld_int und_b h 2 17 (by rw [fs_b]; rfl)
  obtain ⟨z3, e3, w3⟩ := fld_int und_b h 3 18 (by rw [fs_b]; rfl)
  obtain ⟨z4, e4, w4⟩ := fld_int und_b h 4 19 (by rw [fs_b]; rfl)
  obtain ⟨n5, y5, h5⟩ := fld und_b h 5 20 16 (by rw [fs_b]; rfl) (by kernel_rfl)
  obtain ⟨d5, f5⟩ := dig_of h5
  obtain ⟨z6, e6, w6⟩ := fld_str und_b h 6 36 (by rw [fs_b]; rfl)
  obtain ⟨n7, y7, h7⟩ := fld und_b h 7 37 1 (by rw [fs_b]; rfl) (by kernel_rfl)
  clear h h0 h5
  obtain ⟨c0, c1, c2, c3, c4, c5, c6, c7, c8, c9, c10, c11, c12, c13, c14, c15, c16, c17, c18, c19, c20, c21, c22, c23, c24, c25, c26, c27, c28, c29, c30, c31, c32, c33, c34, c35, c36, c37, rfl⟩ := list38 cs hl
  obtain ⟨l, hr, hw⟩ := keys_of (v := c37) h7
  refine ⟨⟨d0, z1, z2, z3, z4, d5, z6⟩, c37, l, ?_, w6, hr, hw⟩
  unfold drow at f0 f5
  simp at f0 f5 e1 e2 e3 e4 e6
  obtain ⟨rfl, rfl, rfl, rfl, rfl, rfl, rfl, rfl, rfl, rfl, rfl, rfl, rfl, rfl, rfl, rfl⟩ := f0
  obtain ⟨rfl, rfl, rfl, rfl, rfl, rfl, rfl, rfl, rfl, rfl, rfl, rfl, rfl, rfl, rfl, rfl⟩ := f5
  subst e1 e2 e3 e4 e6
  unfold bc
  rfl
theorem agg_of {r : Reach} {b0 : Nat} {T : TypeId} {fs : Array Field} {v : Value} (ht : Tryz.prog.underlying T = some (.struct fs)) (hval : Value.okWide Tryz.prog w r b0 T v) {d : DataW H} {ps : List MemPlace} (hd : DataW.Trod enc Tryz.prog w base sp held T v d ps) :
    ∃ cs : Array Value, v = .agg cs ∧ ∃ fuel, DataW.trod enc Tryz.prog w base sp held fuel T cs.toList = some (d, ps) := by
  obtain ⟨cs, rfl, _⟩ := okWide_struct ht hval
  obtain ⟨fuel, hf⟩ := hd
  exact ⟨cs, rfl, fuel, hf⟩
theorem toArr {cs : Array Value} {l : List Value} (h : cs.toList = l) : cs = l.toArray := by rw [← h]
theorem kopen_t {r : Reach} {b0 : Nat} {v : Value} {d : DataW H} {ps : List MemPlace} (hval : Value.okWide Tryz.prog w r b0 28 v) (hd : DataW.Trod enc Tryz.prog w base sp held 28 v d ps) :
    ∃ (nx : Int) (u : Value) (l : List K), v = .agg #[.int .i64 nx, u] ∧ (Lit.int .i64 nx).wf = true ∧ RdK w u l ∧ ∀ i, i < l.length → (keyAt l i).wf := by
  obtain ⟨cs, rfl, fuel, hf⟩ := agg_of und_t hval hd
  obtain ⟨nx, u, l, hcs, h1, h2, h3⟩ := table_of hf
  exact ⟨nx, u, l, by rw [toArr hcs], h1, h2, h3⟩
theorem open_bk {r : Reach} {b0 : Nat} {v : Value} {d : DataW H} {ps : List MemPlace} (hval : Value.okWide Tryz.prog w r b0 26 v) (hd : DataW.Trod enc Tryz.prog w base sp held 26 v d ps) :
    ∃ (b : BK) (u : Value) (l : List K), v = .agg (bc b u) ∧ b.mo.length ≤ maxLen ∧ RdK w u l ∧ ∀ i, i < l.length → (keyAt l i).wf := by
  obtain ⟨cs, rfl, fuel, hf⟩ := agg_of und_b hval hd
  obtain ⟨b, u, l, hcs, h1, h2, h3⟩ := backup_of hf
  exact ⟨b, u, l, by rw [toArr hcs], h1, h2, h3⟩
theorem open_k {r : Reach} {b0 : Nat} {v : Value} {d : DataW H} {ps : List MemPlace} (hval : Value.okWide Tryz.prog w r b0 45 v) (hd : DataW.Trod enc Tryz.prog w base sp held 45 v d ps) : ∃ k : K, v = kv k ∧ k.wf := by
  obtain ⟨cs, rfl, fuel, hf⟩ := agg_of und_k hval hd
  obtain ⟨k, hcs, h1⟩ := key_of hf
  exact ⟨k, by rw [toArr hcs]; rfl, h1⟩
end fk
end Go.Proofs.YtbpjdfnnlmblaaaGreatDoor
/- Tables and backups that come in, their numbers the machine's; the table of constants as it lies when a call begins. -/
namespace Go.Proofs.YtbpjdfnnlmblaaaGreatDoor
open Go.ChangeShapes Go.WideShapes Go.ChangeAt Go.RowKit Go.Deep
set_option linter.unusedSimpArgs false
set_option linter.unusedVariables false
set_option maxRecDepth 10000
theorem okN {a : Int} (h : (Lit.int .i64 a).wf = true) : okI a := by
  have := i64_of h
  unfold okI
  omega
theorem okN4 {a b c d : Int} (ha : (Lit.int .i64 a).wf = true) (hb : (Lit.int .i64 b).wf = true) (hc : (Lit.int .i64 c).wf = true) (hd : (Lit.int .i64 d).wf = true) : ∀ x ∈ [a, b, c, d], okI x := by
  intro x hx
  simp only [List.mem_cons, List.not_mem_nil, or_false] at hx
  rcases hx with rfl | rfl | rfl | rfl
  · exact okN ha
  · exact okN hb
  · exact okN hc
  · exact okN hd
theorem okN8 {a b c d e f g : Int} {v : List UInt8} {r : Bool} (ha : (Lit.int .i64 a).wf = true) (hb : (Lit.int .i64 b).wf = true) (hc : (Lit.int .i64 c).wf = true) (hd : (Lit.int .i64 d).wf = true) (he : (Lit.int .i64 e).wf = true) (hf : (Lit.int .i64 f).wf = true) (hg : (Lit.int .i64 g).wf = true) :
    ∀ x ∈ numsK ⟨a, b, v, c, d, e, f, g, r⟩, okI x := by
  intro x hx
  unfold numsK at hx
  simp only [List.mem_cons, List.not_mem_nil, or_false] at hx
  rcases hx with rfl | rfl | rfl | rfl | rfl | rfl | rfl | rfl
  · exact okN ha
  · exact okN hb
  · exact okN hc
  · exact okN hd
  · exact okN he
  · exact okN hf
  · exact okN hg
  · unfold rawI okI; split <;> omega
section
variable {H : Type} {enc : TypeId × Value → H} {w : World} {base : Nat} {sp : Nat → Bool} {held : Bool}
theorem digN_of {fuel : Nat} {cs : List Value} {x : DataW H × List MemPlace} (h : DataW.trod enc Tryz.prog w base sp held fuel 23 cs = some x) : ∃ d : List UInt8, cs = (drow d).toList ∧ d.length = 16 := by
  obtain ⟨xs, m, _, _, hl, hxs, hh⟩ := DataW.trod_array Tryz.underlying23 h
  have hc : Tryz.prog.cellsOf 23 = 16 := by kernel_rfl
  have hu : Tryz.prog.cellsOf 5 = 1 := by kernel_rfl
  rw [hc] at hl
  rw [hu] at hh
  have key : ∀ i, i < 16 → ∃ c : UInt8, cs[i]? = some (.int .u8 (B8 c)) := by
    intro i hi
    have h1 := hh i hi
    rw [List.getElem?_eq_getElem (by omega : i < xs.length), Nat.mul_one] at h1
    obtain ⟨z, hz, _, hw⟩ := DataW.trod_int Tryz.underlying5 h1
    obtain ⟨c, rfl⟩ := u8_of hw
    exact ⟨c, cut1 hz⟩
  obtain ⟨d, hd, hq⟩ := choose_bytes 16 key
  refine ⟨d, List.ext_getElem? fun i => ?_, hd⟩
  have e : (drow d).toList = (List.range 16).map (dcell d) := rfl
  rw [e]
  by_cases hi : i < 16
  · rw [hq i hi]; simp [hi, dcell]
  · rw [List.getElem?_eq_none (by omega), List.getElem?_eq_none (by simp; omega)]
theorem keyN_of {fuel : Nat} {cs : List Value} {x : DataW H × List MemPlace} (h : DataW.trod enc Tryz.prog w base sp held fuel 45 cs = some x) : ∃ k : K, cs = (kc k).toList ∧ ∀ x ∈ numsK k, okI x := by
  have hl := fld_len und_k (c := 9) (by kernel_rfl) h
  obtain ⟨z0, e0, w0⟩ := fld_int und_k h 0 0 (by rw [fs_k]; rfl)
  obtain ⟨z1, e1, w1⟩ := fld_int und_k h 1 1 (by rw [fs_k]; rfl)
  obtain ⟨z2, e2, w2⟩ := fld_str und_k h 2 2 (by rw [fs_k]; rfl)
  obtain ⟨z3, e3, w3⟩ := fld_int und_k h 3 3 (by rw [fs_k]; rfl)
  obtain ⟨z4, e4, w4⟩ := fld_int und_k h 4 4 (by rw [fs_k]; rfl)
  obtain ⟨z5, e5, w5⟩ := fld_int und_k h 5 5 (by rw [fs_k]; rfl)
  obtain ⟨z6, e6, w6⟩ := fld_int und_k h 6 6 (by rw [fs_k]; rfl)
  obtain ⟨z7, e7, w7⟩ := fld_int und_k h 7 7 (by rw [fs_k]; rfl)
  obtain ⟨z8, e8⟩ := fld_bool und_k h 8 8 (by rw [fs_k]; rfl)
  refine ⟨⟨z0, z1, z2, z3, z4, z5, z6, z7, z8⟩, ?_, okN8 w0 w1 w3 w4 w5 w6 w7⟩
  obtain ⟨c0, c1, c2, c3, c4, c5, c6, c7, c8, rfl⟩ := list9 cs hl
  simp at e0 e1 e2 e3 e4 e5 e6 e7 e8
  subst e0 e1 e2 e3 e4 e5 e6 e7 e8
  rfl
theorem keysN_of {fuel : Nat} {v : Value} {x : DataW H × List MemPlace} (h : DataW.trod enc Tryz.prog w base sp held fuel 24 [v] = some x) : ∃ l : List K, RdK w v l ∧ numK l := by
  rcases open_slice Tryz.underlying24 h with ⟨hcs, _⟩ | ⟨a, len, cap, m, n, D, Pl, hcs, _, hl, hm, hmm, _, hi⟩
  · simp only [List.cons.injEq, and_true] at hcs
    subst hcs
    exact ⟨[], RdK.nil w, fun i hi => absurd hi (by simp)⟩
  · simp only [List.cons.injEq, and_true] at hcs
    subst hcs
    have hle : len ≤ m := by rw [hmm]; split <;> omega
    have hc : Tryz.prog.cellsOf 45 = 9 := by kernel_rfl
    rw [hc] at hi
    obtain ⟨l, hlen, hq⟩ := choose_k (Q := fun i k => (∀ j, j < 9 → w.cell? (a.add (i * 9 + j)) = (kc k)[j]?) ∧ ∀ x ∈ numsK k, okI x) len (fun i hil => by
      obtain ⟨cs', h1, h2⟩ := hi i (by omega)
      obtain ⟨k, rfl, hwf⟩ := keyN_of h2
      obtain ⟨_, _, h3⟩ := World.cells?_some h1
      refine ⟨k, fun j hj => ?_, hwf⟩
      have := h3 j hj
      rw [← Go.Deep.add_add, this, Array.getElem?_toList])
    refine ⟨l, ⟨some a, cap, by rw [hlen], by omega, hm, fun h0 => ?_⟩, fun i hil => (hq i (by omega)).2⟩
    obtain ⟨b, off, spot⟩ := a
    have h1 := (hq 0 (by omega)).1 0 (by omega)
    have hk0 : (kc (keyAt l 0))[0]? = some (.int .i64 (keyAt l 0).id) := rfl
    rw [hk0] at h1
    have hspot : spot = none := by simpa [Addr.add] using World.cell?_spot h1
    subst hspot
    have hadd : ∀ i, (⟨b, off, none⟩ : Addr).add i = ⟨b, off + i, none⟩ := by intro i; unfold Addr.add; split <;> simp_all
    refine ⟨b, off, rfl, ?_, fun j hj i hi9 => ?_⟩
    · have := World.block_lt_of_cell? _ _ h1
      simpa [Addr.add] using this
    · have := (hq j (by omega)).1 i hi9
      rw [hadd, ← Nat.add_assoc] at this
      exact this
theorem tableN_of {fuel : Nat} {cs : List Value} {x : DataW H × List MemPlace} (h : DataW.trod enc Tryz.prog w base sp held fuel 28 cs = some x) : ∃ (nx : Int) (v : Value) (l : List K), cs = [.int .i64 nx, v] ∧ (Lit.int .i64 nx).wf = true ∧ RdK w v l ∧ numK l := by
  have hl := fld_len und_t (c := 2) (by kernel_rfl) h
  obtain ⟨z0, e0, w0⟩ := fld_int und_t h 0 0 (by rw [fs_t]; rfl)
  obtain ⟨n, y, hy⟩ := fld und_t h 1 1 1 (by rw [fs_t]; rfl) (by kernel_rfl)
  obtain ⟨c0, c1, rfl⟩ := list2 cs hl
  obtain ⟨l, hr, hw⟩ := keysN_of (v := c1) hy
  simp at e0
  subst e0
  exact ⟨z0, c1, l, rfl, w0, hr, hw⟩
theorem backupN_of {fuel : Nat} {cs : List Value} {x : DataW H × List MemPlace} (h : DataW.trod enc Tryz.prog w base sp held fuel 26 cs = some x) : ∃ (b : BK) (v : Value) (l : List K), cs = (bc b v).toList ∧ b.mach ∧ RdK w v l ∧ numK l := by
  have hl := fld_len und_b (c := 38) (by kernel_rfl) h
  obtain ⟨n0, y0, h0⟩ := fld und_b h 0 0 16 (by rw [fs_b]; rfl) (by kernel_rfl)
  obtain ⟨d0, f0, g0⟩ := digN_of h0
  obtain ⟨z1, e1, w1⟩ := fld_int und_b h 1 16 (by rw [fs_b]; rfl)
  obtain ⟨z2, e2, w2⟩ := fld_int und_b h 2 17 (by rw [fs_b]; rfl)
  obtain ⟨z3, e3, w3⟩ := fld_int und_b h 3 18 (by rw [fs_b]; rfl)
  obtain ⟨z4, e4, w4⟩ := fld_int und_b h 4 19 (by rw [fs_b]; rfl)
  obtain ⟨n5, y5, h5⟩ := fld und_b h 5 20 16 (by rw [fs_b]; rfl) (by kernel_rfl)
  obtain ⟨d5, f5, g5⟩ := digN_of h5
  obtain ⟨z6, e6, w6⟩ := fld_str und_b h 6 36 (by rw [fs_b]; rfl)
  obtain ⟨n7, y7, h7⟩ := fld und_b h 7 37 1 (by rw [fs_b]; rfl) (by kernel_rfl)
  clear h h0 h5
  obtain ⟨c0, c1, c2, c3, c4, c5, c6, c7, c8, c9, c10, c11, c12, c13, c14, c15, c16, c17, c18, c19, c20, c21, c22, c23, c24, c25, c26, c27, c28, c29, c30, c31, c32, c33, c34, c35, c36, c37, rfl⟩ := list38 cs hl
  obtain ⟨l, hr, hw⟩ := keysN_of (v := c37) h7
  refine ⟨⟨d0, z1, z2, z3, z4, d5, z6⟩, c37, l, ?_, ⟨g0, g5, okN4 w1 w2 w3 w4, w6⟩, hr, hw⟩
  unfold drow at f0 f5
  simp at f0 f5 e1 e2 e3 e4 e6
  obtain ⟨rfl, rfl, rfl, rfl, rfl, rfl, rfl, rfl, rfl, rfl, rfl, rfl, rfl, rfl, rfl, rfl⟩ := f0
  obtain ⟨rfl, rfl, rfl, rfl, rfl, rfl, rfl, rfl, rfl, rfl, rfl, rfl, rfl, rfl, rfl, rfl⟩ := f5
  subst e1 e2 e3 e4 e6
  unfold bc
  rfl
theorem topen_t {r : Reach} {b0 : Nat} {v : Value} {d : DataW H} {ps : List MemPlace} (hval : Value.okWide Tryz.prog w r b0 28 v) (hd : DataW.Trod enc Tryz.prog w base sp held 28 v d ps) :
    ∃ (nx : Int) (u : Value) (l : List K), v = .agg #[.int .i64 nx, u] ∧ (Lit.int .i64 nx).wf = true ∧ RdK w u l ∧ numK l := by
  obtain ⟨cs, rfl, fuel, hf⟩ := agg_of und_t hval hd
  obtain ⟨nx, u, l, hcs, h1, h2, h3⟩ := tableN_of hf
  exact ⟨nx, u, l, by rw [toArr hcs], h1, h2, h3⟩
theorem topen_bk {r : Reach} {b0 : Nat} {v : Value} {d : DataW H} {ps : List MemPlace} (hval : Value.okWide Tryz.prog w r b0 26 v) (hd : DataW.Trod enc Tryz.prog w base sp held 26 v d ps) :
    ∃ (b : BK) (u : Value) (l : List K), v = .agg (bc b u) ∧ b.mach ∧ RdK w u l ∧ numK l := by
  obtain ⟨cs, rfl, fuel, hf⟩ := agg_of und_b hval hd
  obtain ⟨b, u, l, hcs, h1, h2, h3⟩ := backupN_of hf
  exact ⟨b, u, l, by rw [toArr hcs], h1, h2, h3⟩
theorem tab_of {fuel : Nat} {cs : List Value} {x : DataW H × List MemPlace} (h : DataW.trod enc Tryz.prog w base sp held fuel 146 cs = some x) (hx : x.1 = .agg (KK.map fun k => .lit (.int .u32 (W32 k)))) : cs = (row KK).toList := by
  obtain ⟨xs, m, _, hxx, hl, hxs, hi⟩ := DataW.trod_array Tryz.underlying146 h
  have hc : Tryz.prog.cellsOf 146 = 64 := by kernel_rfl
  have hu : Tryz.prog.cellsOf 88 = 1 := by kernel_rfl
  rw [hc] at hl
  rw [hu] at hi
  have e1 : xs.map (·.1) = KK.map fun k => .lit (.int .u32 (W32 k)) := by
    rw [hxx] at hx
    simpa using hx
  have hkl : KK.length = 64 := KK_len
  apply List.ext_getElem?
  intro i
  have hr : (row KK).toList = KK.map fun k => Value.int .u32 (W32 k) := by simp [row]
  rw [hr]
  by_cases hlt : i < 64
  · have h1 := hi i hlt
    rw [List.getElem?_eq_getElem (by omega : i < xs.length)] at h1
    obtain ⟨z, hz, he, _⟩ := DataW.trod_int Tryz.underlying88 h1
    have e2 : (xs.map (·.1))[i]? = (KK.map fun k => (DataW.lit (.int .u32 (W32 k)) : DataW H))[i]? := by rw [e1]
    rw [List.getElem?_map, List.getElem?_eq_getElem (by omega : i < xs.length), List.getElem?_map, List.getElem?_eq_getElem (by omega : i < KK.length), Option.map_some, Option.map_some, he] at e2
    simp only [Option.some.injEq, DataW.lit.injEq, Lit.int.injEq, true_and] at e2
    rw [List.getElem?_map, List.getElem?_eq_getElem (by omega : i < KK.length), Option.map_some, ← e2]
    have h2 : ((cs.drop (i * 1)).take 1)[0]? = some (.int .u32 z) := by rw [hz]; rfl
    rw [List.getElem?_take, if_pos (by omega), List.getElem?_drop, Nat.mul_one, Nat.add_zero] at h2
    exact h2
  · rw [List.getElem?_eq_none (by omega), List.getElem?_eq_none (by rw [List.length_map]; omega)]
end
theorem laidH {H : Type} : (Rows.laid_custody_hash_constants : DataW H) = .agg (KK.map fun k => .lit (.int .u32 (W32 k))) := by kernel_rfl
abbrev laidL : List (String × DataW Unit) := [("custody/hash.constants", Rows.laid_custody_hash_constants)]
theorem gH : Tryz.prog.globalNamed "custody/hash.constants" = some 1 := by kernel_rfl
theorem tH : (Tryz.prog.globals[1]?).map (·.type) = some 146 := by kernel_rfl
theorem row_arr (cs : Array Value) (h : cs.toList = (row KK).toList) : cs = row KK := Array.ext' h
theorem tabs_at {W : World} (h : laidMetH Tryz.prog laidL W) : KAt W := by
  have h' : laidMet Tryz.prog laidL W := h
  obtain ⟨ps, ⟨g, t, cs, fuel, p, q, hg, ht, hvar, hd, _, hps⟩, _, hr⟩ := h'
  obtain rfl := Option.some.inj (gH.symm.trans hg)
  obtain rfl := Option.some.inj (tH.symm.trans ht)
  have e0 := row_arr cs (tab_of hd laidH)
  have hz0 : cs.size = 63 + 1 := by rw [e0, row_size, KK_len]
  have hm0 : MemPlace.cell 1 0 ∈ ps := by
    rw [hps, hz0]
    simp [MemPlace.row]
  obtain ⟨⟨c, t, hb⟩, _⟩ := hr 1 0 hm0
  simp only [World.var?, hg, Option.bind_some, hb, Option.some.injEq] at hvar
  exact ⟨t, by rw [← e0, ← hvar]; exact hb⟩
theorem door_met (os : Os) (args : Array Value) : laidMetH Tryz.prog laidL ((World.doorLaid Tryz.prog 154 os).forCall (fun _ _ => 0) ⟨#[], args, []⟩).memory :=
  laidMet_of_run' 8 (by kernel_rfl) (by kernel_rfl)
end Go.Proofs.YtbpjdfnnlmblaaaGreatDoor
/- What the laws of custodylaw36 lean on. -/
namespace Go.Proofs.YtbpjdfnnlmblaaaGreatDoor
open Go.RowKit Go.Shelf
set_option linter.unusedSimpArgs false
set_option linter.unusedVariables false
theorem dEq_refl (x : List UInt8) : dEq x x = true := by unfold dEq; simp
theorem sameB_refl (b : BK) (l : List K) : sameB b l b l = true := by unfold sameB headS; simp [dEq_refl]
theorem str_self (x : List UInt8) : ((⟨x.toArray⟩ : ByteArray).toList == (⟨x.toArray⟩ : ByteArray).toList) = true := by simp
theorem built_zq : Tryz.prog.built 26 [] = some (bc zB nilS) := by kernel_rfl
/-- a backup of nothing is built, in a region with guards -/
theorem bld_z {ops : Array Oper} {rest : List Oper} {o : Oper} {a : Act} {w : World} {Q : Exit → Act → World → Prop} (hgd : Region.wanted o (yielded ops a.tmps) = true) (ho : o.op = .build 26 #[])
    (h : wpList Tryz.prog ops Q rest (a.put o.dst (.agg (bc zB nilS))) w) : wpList Tryz.prog ops Q (o :: rest) a w :=
  wpList_step fun K hK => by
    rw [if_pos hgd]
    have hr := run_build (P := Tryz.prog) w 26 #[] _ built_zq
    unfold Oper.wp execOp
    simp only [ho, List.map_toArray, List.map_nil, hr, Sem.run_bind, Sem.run_pure, Result.andThen_ok]
    exact hK _ _ h
theorem opE_no (dk blob : List UInt8) (h : opE dk blob ≠ 0) : opB dk blob = zB ∧ opK dk blob = [] := by
  unfold opB opK
  rw [if_neg h, if_neg h]
  exact ⟨rfl, rfl⟩
/-- Open, of any two texts -/
theorem bopen_t (dk blob : List UInt8) (w : World) (hk : KAt w) (hl : blob.length ≤ 800000) :
    Calls Tryz.prog 22 #[.string ⟨dk.toArray⟩, .string ⟨blob.toArray⟩] w fun en w' => ∃ a c, en = .returned (.tuple #[.agg (bc (opB dk blob) (.slice a (opK dk blob).length c)), .int .i64 (opE dk blob)]) ∧ RdK w' (.slice a (opK dk blob).length c) (opK dk blob) ∧ Below w.heap.size w w' := by
  by_cases h32 : dk.length = 32
  · refine (bopen_c dk blob w hk h32 hl).mono fun e w' h => ?_
    obtain ⟨v, he, hr, hb⟩ := h
    obtain ⟨a, c, rfl, _, _, _⟩ := id hr
    exact ⟨a, c, he, hr, hb⟩
  · have hE : opE dk blob = 1 := by unfold opE; rw [if_neg h32]
    obtain ⟨h1, h2⟩ := opE_no dk blob (by rw [hE]; decide)
    rw [hE, h1, h2]
    refine (open_no32 dk blob w h32).mono fun e w' h => ?_
    exact ⟨none, 0, h.1, rdK_nil _, h.2⟩
/-- what was opened: its numbers are the machine's -/
theorem opB_mach (dk blob : List UInt8) (hl : blob.length ≤ 800000) (h : opE dk blob = 0) : (opB dk blob).mach ∧ numK (opK dk blob) := by
  obtain ⟨h1, h2, h3, h4, h5⟩ := rt_make dk blob h
  have hv : validB (opB dk blob) (opK dk blob) = true := by unfold makeOk at h1; simp only [Bool.and_eq_true] at h1; exact h1.2
  refine ⟨⟨h3, h4, h5, ?_⟩, ?_⟩
  · have := (validB_mo hv).2.1
    unfold maxLen
    omega
  · have hK : opK dk blob = ctK (blT dk blob) := by unfold opK; rw [if_pos h]
    rw [hK]
    unfold ctK
    exact numK_of (foldK_num _ _)
end Go.Proofs.YtbpjdfnnlmblaaaGreatDoor
/- The two equalities of backups agree. -/
namespace Go.Proofs.YtbpjdfnnlmblaaaGreatDoor
open Go.RowKit Go.Shelf
set_option linter.unusedSimpArgs false
set_option linter.unusedVariables false
theorem dEq_of (x y : List UInt8) (hx : x.length = 16) (hy : y.length = 16) (h : dEq x y = true) : x = y := by
  unfold dEq at h
  rw [List.all_eq_true] at h
  refine ext_b (by omega) (fun j hj => ?_)
  have := h j (List.mem_range.2 (by omega))
  simpa using this
theorem headS_of (a b : BK) (n m : Nat) (ha : a.mach) (hb : b.mach) (h : headS a b n m = true) : a = b ∧ n = m := by
  unfold headS at h
  simp only [Bool.and_eq_true, beq_iff_eq] at h
  obtain ⟨h1, h2, h3, h4, h5, h6, h7, h8⟩ := h
  have e1 := dEq_of _ _ ha.dom hb.dom h1
  have e6 := dEq_of _ _ ha.pol hb.pol h6
  refine ⟨?_, by omega⟩
  cases a; cases b
  simp_all
theorem sameP_eq (a b : BK) (l m : List K) (ha : a.mach) (hb : b.mach) (h1 : a.mo.length ≤ 800000) (h2 : b.mo.length ≤ 800000) : sameP a l b m = sameB a l b m := by
  unfold sameP
  by_cases h : headP a = headP b
  · have e1 := (hd_enc a ha h1).1
    have e2 := (hd_enc b hb h2).1
    rw [h, e2] at e1
    subst e1
    rw [beq_self_eq_true, Bool.true_and]
    by_cases hl : l = m
    · subst hl
      rw [sameB_refl]
      simp
    · unfold sameB
      rw [decide_eq_false hl, Bool.and_false]
  · have e1 : (headP a == headP b) = false := by simpa using h
    rw [e1, Bool.false_and]
    unfold sameB
    cases hq : headS a b l.length m.length with
    | false => rfl
    | true =>
      obtain ⟨e, _⟩ := headS_of a b _ _ ha hb hq
      exact absurd (by rw [e]) h
end Go.Proofs.YtbpjdfnnlmblaaaGreatDoor
/- The two tables of constants as they lie when a call begins. -/
namespace Go.Proofs.YtbpjdfnnlmblaaaGreatDoor
open Go.ChangeShapes Go.WideShapes Go.ChangeAt Go.RowKit Go.Deep
set_option linter.unusedSimpArgs false
set_option linter.unusedVariables false
set_option maxRecDepth 10000
theorem laid20 {H : Type} : (Rows.laid_custody_custodyref02_constants : DataW H) = .agg (KK.map fun k => .lit (.int .u32 (W32 k))) := by kernel_rfl
theorem laid21 {H : Type} : (Rows.laid_custody_hash_constants : DataW H) = .agg (KK.map fun k => .lit (.int .u32 (W32 k))) := by kernel_rfl
abbrev laidL2 : List (String × DataW Unit) := [("custody/custodyref02.constants", Rows.laid_custody_custodyref02_constants), ("custody/hash.constants", Rows.laid_custody_hash_constants)]
theorem g0 : Tryz.prog.globalNamed "custody/custodyref02.constants" = some 0 := by kernel_rfl
theorem g1 : Tryz.prog.globalNamed "custody/hash.constants" = some 1 := by kernel_rfl
theorem t0 : (Tryz.prog.globals[0]?).map (·.type) = some 146 := by kernel_rfl
theorem t1 : (Tryz.prog.globals[1]?).map (·.type) = some 146 := by kernel_rfl
theorem tabs2_at {W : World} (h : laidMetH Tryz.prog laidL2 W) : K0At W ∧ KAt W := by
  have h' : laidMet Tryz.prog laidL2 W := h
  obtain ⟨ps, ⟨g, t, cs, fuel, p, q, hg, ht, hvar, hd, ⟨g', t', cs', fuel', p', q', hg', ht', hvar', hd', _, hps'⟩, hps⟩, _, hr⟩ := h'
  obtain rfl := Option.some.inj (g0.symm.trans hg)
  obtain rfl := Option.some.inj (t0.symm.trans ht)
  obtain rfl := Option.some.inj (g1.symm.trans hg')
  obtain rfl := Option.some.inj (t1.symm.trans ht')
  have e0 := row_arr cs (tab_of hd laid20)
  have e1 := row_arr cs' (tab_of hd' laid21)
  have hz0 : cs.size = 63 + 1 := by rw [e0, row_size, KK_len]
  have hz1 : cs'.size = 63 + 1 := by rw [e1, row_size, KK_len]
  have hm0 : MemPlace.cell 0 0 ∈ ps := by
    rw [hps, hz0]
    simp [MemPlace.row]
  have hm1 : MemPlace.cell 1 0 ∈ ps := by
    rw [hps, hps', hz1]
    simp [MemPlace.row]
  obtain ⟨⟨c, t, hb⟩, _⟩ := hr 0 0 hm0
  obtain ⟨⟨c', t', hb'⟩, _⟩ := hr 1 0 hm1
  simp only [World.var?, hg, Option.bind_some, hb, Option.some.injEq] at hvar
  simp only [World.var?, hg', Option.bind_some, hb', Option.some.injEq] at hvar'
  refine ⟨⟨t, ?_⟩, ⟨t', ?_⟩⟩
  · rw [← e0, ← hvar]; exact hb
  · rw [← e1, ← hvar']; exact hb'
theorem door2_met (os : Os) (args : Array Value) : laidMetH Tryz.prog laidL2 ((World.doorLaid Tryz.prog 154 os).forCall (fun _ _ => 0) ⟨#[], args, []⟩).memory :=
  laidMet_of_run' 8 (by kernel_rfl) (by kernel_rfl)
end Go.Proofs.YtbpjdfnnlmblaaaGreatDoor
/- What the law BackupMatchesSpec leans on. -/
namespace Go.Proofs.YtbpjdfnnlmblaaaGreatDoor
open Go.RowKit Go.Shelf
set_option linter.unusedSimpArgs false
set_option linter.unusedVariables false
theorem fewB_parts {b : BK} {l : List K} (h : fewB b l = true) : l.length ≤ 40 ∧ b.mo.length ≤ 50 := by
  unfold fewB at h
  simp only [Bool.and_eq_true, decide_eq_true_eq] at h
  exact h.2
theorem built_zk (a : Option Addr) (n c : Nat) : Tryz.prog.built 26 [(7, .slice a n c)] = some (bc zB (.slice a n c)) := by kernel_rfl
theorem bld_zk {ops : Array Oper} {rest : List Oper} {o : Oper} {a : Act} {w : World} {Q : Exit → Act → World → Prop} (p : Option Addr) (n c : Nat) (hgd : Region.wanted o (yielded ops a.tmps) = true) (x : Operand) (ho : o.op = .build 26 #[(7, x)]) (hx : a.eval x = .slice p n c)
    (h : wpList Tryz.prog ops Q rest (a.put o.dst (.agg (bc zB (.slice p n c)))) w) : wpList Tryz.prog ops Q (o :: rest) a w :=
  wpList_step fun K hK => by
    rw [if_pos hgd]
    have hr := run_build (P := Tryz.prog) w 26 #[(7, .slice p n c)] _ (built_zk p n c)
    unfold Oper.wp execOp
    simp only [ho, List.map_toArray, List.map_cons, List.map_nil, hx, hr, Sem.run_bind, Sem.run_pure, Result.andThen_ok]
    exact hK _ _ h
/-- two backups and a table that came in, in their boxes -/
structure MS36 (w : World) (b1 : BK) (u1 : Value) (a1 : List K) (b2 : BK) (u2 : Value) (a2 : List K) (n3 : Int) (u3 : Value) (a3 : List K) (y : World) : Prop where
  r1 : y.heap[w.heap.size]? = some (.cells (bc b1 u1) 26 (0, 0))
  r2 : y.heap[w.heap.size + 1]? = some (.cells (bc b2 u2) 26 (0, 0))
  r3 : y.heap[w.heap.size + 1 + 1]? = some (.cells #[.int .i64 n3, u3] 28 (0, 0))
  k1 : RdK y u1 a1
  k2 : RdK y u2 a2
  k3 : RdK y u3 a3
  k : KAt y
  k0 : K0At y
  bel : Below w.heap.size w y
theorem MS36.start {w : World} {b1 : BK} {u1 : Value} {a1 : List K} {b2 : BK} {u2 : Value} {a2 : List K} {n3 : Int} {u3 : Value} {a3 : List K} (h1 : RdK w u1 a1) (h2 : RdK w u2 a2) (h3 : RdK w u3 a3) (k0 : K0At w) (k : KAt w) :
    ∀ y, Below (((w.alloc (.cells (bc b1 u1) 26)).alloc (.cells (bc b2 u2) 26)).alloc (.cells #[.int .i64 n3, u3] 28)).heap.size (((w.alloc (.cells (bc b1 u1) 26)).alloc (.cells (bc b2 u2) 26)).alloc (.cells #[.int .i64 n3, u3] 28)) y →
      MS36 w b1 u1 a1 b2 u2 a2 n3 u3 a3 y := by
  intro y hy
  have ha : Below w.heap.size w (((w.alloc (.cells (bc b1 u1) 26)).alloc (.cells (bc b2 u2) 26)).alloc (.cells #[.int .i64 n3, u3] 28)) :=
    (((Below.refl _ _).alloc (Nat.le_refl _) _).alloc (by simp) _).alloc (by simp; omega) _
  have hb := ha.trans (hy.mono ha.size)
  refine ⟨?_, ?_, ?_, h1.on hb, h2.on hb, h3.on hb, k.on hb, k0.on hb, hb⟩
  · rw [hy.block _ (by simp; omega), heap_past _ _ _ (by simp; omega), heap_past _ _ _ (by simp), heap_last _ _ _ rfl]
  · rw [hy.block _ (by simp), heap_past _ _ _ (by simp), heap_last _ _ _ (by simp)]
  · rw [hy.block _ (by simp), heap_last _ _ _ (by simp)]
end Go.Proofs.YtbpjdfnnlmblaaaGreatDoor
/- What Peek and Open answer, case by case, in plain words. -/
namespace Go.Proofs.YtbpjdfnnlmblaaaGreatDoor
open Go.RowKit Go.Shelf
set_option linter.unusedSimpArgs false
set_option linter.unusedVariables false
section st
variable {α : Type} {dec : List UInt8 → α × Nat × Int} {z : α} {rest : List UInt8} {e : Int}
theorem rdX_ne (he : e ≠ 0) : rdX dec rest e = e := by unfold rdX; rw [if_pos he]
theorem rdX_0 : rdX dec rest 0 = (dec rest).2.2 := by unfold rdX; simp
theorem rdV_0 (h : (dec rest).2.2 = 0) : rdV z dec rest 0 = (dec rest).1 := by unfold rdV; simp [h]
theorem rdR_0 (h : (dec rest).2.2 = 0) : rdR dec rest 0 = rest.drop (dec rest).2.1 := by unfold rdR; simp [h]
theorem whX_ne (he : e ≠ 0) : whX dec rest e = e := by unfold whX; rw [rdX_ne he, if_neg (fun h => he h.1)]
theorem whX_err (h : (dec rest).2.2 ≠ 0) : whX dec rest 0 = (dec rest).2.2 := by unfold whX; rw [rdX_0, if_neg (fun h' => h h'.1)]
theorem whX_all (h : (dec rest).2.2 = 0) (h2 : (dec rest).2.1 = rest.length) : whX dec rest 0 = 0 := by
  unfold whX
  rw [rdX_0, rdR_0 h, h, h2, List.drop_length]
  simp
theorem whX_left (h : (dec rest).2.2 = 0) (h2 : (dec rest).2.1 < rest.length) : whX dec rest 0 = 6 := by
  unfold whX
  have h3 : ¬ (rest.drop (dec rest).2.1).length = 0 := by rw [List.length_drop]; omega
  rw [rdX_0, rdR_0 h, h, decide_eq_false h3]
  simp
end st
theorem decD_no {b : List UInt8} (h : b.length < 16) : decD b = (z16, 0, 5) := if_pos h
theorem decD_yes {b : List UInt8} (h : ¬ b.length < 16) : decD b = (b.take 16, 16, 0) := if_neg h
theorem hdE_ne {hdr : List UInt8} {e : Int} (he : e ≠ 0) : hdE hdr e = e := by
  unfold hdE
  simp only [rdX_ne he, he, false_and, if_false]
theorem hdX_ne {hdr : List UInt8} {e : Int} (he : e ≠ 0) : hdX hdr e = e := by
  unfold hdX
  simp only [hdE_ne he, rdX_ne he, whX_ne he, he, false_and, if_false]
/-- what is read of a header, past its first digest -/
theorem hdE_parts (h : List UInt8) : (h.length < 16 ∧ hdE h 0 = 5) ∨ (¬ h.length < 16 ∧ (decIs (h.drop 16)).2.2 ≠ 0 ∧ hdE h 0 = (decIs (h.drop 16)).2.2) ∨
    (¬ h.length < 16 ∧ (decIs (h.drop 16)).2.2 = 0 ∧ ¬ (decIs (h.drop 16)).1.length = 4 ∧ hdE h 0 = 6) ∨ (¬ h.length < 16 ∧ (decIs (h.drop 16)).2.2 = 0 ∧ (decIs (h.drop 16)).1.length = 4 ∧ hdE h 0 = 0) := by
  by_cases h1 : h.length < 16
  · refine .inl ⟨h1, ?_⟩
    have e1 : rdX decD h 0 = 5 := by rw [rdX_0, decD_no h1]
    unfold hdE
    simp only [e1]
    rw [rdX_ne (by decide)]
    simp
  · have e1 : rdX decD h 0 = 0 := by rw [rdX_0, decD_yes h1]
    have e2 : rdR decD h 0 = h.drop 16 := by rw [rdR_0 (by rw [decD_yes h1]), decD_yes h1]
    by_cases h2 : (decIs (h.drop 16)).2.2 = 0
    · have e3 : rdV [] decIs (h.drop 16) 0 = (decIs (h.drop 16)).1 := rdV_0 h2
      have hE : hdE h 0 = if decide ((decIs (h.drop 16)).1.length = 4) = false then 6 else 0 := by
        unfold hdE
        simp only [e1, e2, e3, rdX_0, h2, true_and]
      by_cases h3 : (decIs (h.drop 16)).1.length = 4
      · exact .inr (.inr (.inr ⟨h1, h2, h3, by rw [hE, decide_eq_true h3]; rfl⟩))
      · exact .inr (.inr (.inl ⟨h1, h2, h3, by rw [hE, decide_eq_false h3]; rfl⟩))
    · refine .inr (.inl ⟨h1, h2, ?_⟩)
      unfold hdE
      simp only [e1, e2, rdX_0, h2, false_and, if_false]
/-- the backup of a header's parts -/
def bkOf (h rest : List UInt8) (l : List Int) (mo : List UInt8) : BK := ⟨h.take 16, l.getD 0 0, l.getD 1 0, l.getD 2 0, l.getD 3 0, rest.take 16, mo⟩
theorem hdX_parts (h rest : List UInt8) (hr : rest = (h.drop 16).drop (decIs (h.drop 16)).2.1) (h1 : ¬ h.length < 16) (h2 : (decIs (h.drop 16)).2.2 = 0) (h3 : hdE h 0 = 0) :
    (rest.length < 16 ∧ hdX h 0 = 5) ∨ (¬ rest.length < 16 ∧ (decS (rest.drop 16)).2.2 ≠ 0 ∧ hdX h 0 = (decS (rest.drop 16)).2.2) ∨
    (¬ rest.length < 16 ∧ (decS (rest.drop 16)).2.2 = 0 ∧ (¬ (decS (rest.drop 16)).2.1 = rest.length - 16) ∧ hdX h 0 = 6) ∨
    (¬ rest.length < 16 ∧ (decS (rest.drop 16)).2.2 = 0 ∧ (decS (rest.drop 16)).2.1 = rest.length - 16 ∧ validB (bkOf h rest (decIs (h.drop 16)).1 (decS (rest.drop 16)).1) [] = false ∧ hdX h 0 = 6) ∨
    (¬ rest.length < 16 ∧ (decS (rest.drop 16)).2.2 = 0 ∧ (decS (rest.drop 16)).2.1 = rest.length - 16 ∧ validB (bkOf h rest (decIs (h.drop 16)).1 (decS (rest.drop 16)).1) [] = true ∧ hdX h 0 = 0 ∧ hdB h 0 = bkOf h rest (decIs (h.drop 16)).1 (decS (rest.drop 16)).1) := by
  have e1 : rdX decD h 0 = 0 := by rw [rdX_0, decD_yes h1]
  have e2 : rdR decD h 0 = h.drop 16 := by rw [rdR_0 (by rw [decD_yes h1]), decD_yes h1]
  have e0 : rdV z16 decD h 0 = h.take 16 := by rw [rdV_0 (by rw [decD_yes h1]), decD_yes h1]
  have e3 : rdV [] decIs (h.drop 16) 0 = (decIs (h.drop 16)).1 := rdV_0 h2
  have e4 : rdR decIs (h.drop 16) 0 = rest := by rw [rdR_0 h2, hr]
  by_cases h4 : rest.length < 16
  · refine .inl ⟨h4, ?_⟩
    have e5 : rdX decD rest 0 = 5 := by rw [rdX_0, decD_no h4]
    unfold hdX
    simp only [e1, e2, e4, h3, e5]
    rw [whX_ne (by decide)]
    simp
  · have e5 : rdX decD rest 0 = 0 := by rw [rdX_0, decD_yes h4]
    have e6 : rdR decD rest 0 = rest.drop 16 := by rw [rdR_0 (by rw [decD_yes h4]), decD_yes h4]
    have e7 : rdV z16 decD rest 0 = rest.take 16 := by rw [rdV_0 (by rw [decD_yes h4]), decD_yes h4]
    have hX : hdX h 0 = if whX decS (rest.drop 16) 0 = 0 ∧ validB (hdB h 0) [] = false then 6 else whX decS (rest.drop 16) 0 := by
      unfold hdX
      simp only [e1, e2, e4, h3, e5, e6]
    by_cases h5 : (decS (rest.drop 16)).2.2 = 0
    · have e8 : rdV [] decS (rest.drop 16) 0 = (decS (rest.drop 16)).1 := rdV_0 h5
      have hB : hdB h 0 = bkOf h rest (decIs (h.drop 16)).1 (decS (rest.drop 16)).1 := by
        unfold hdB
        simp only [e0, e1, e2, e3, e4, h3, e5, e6, e7, e8, if_true]
        rfl
      have hu := (codecS.used _ h5).1
      rw [List.length_drop] at hu
      by_cases h6 : (decS (rest.drop 16)).2.1 = rest.length - 16
      · have e9 : whX decS (rest.drop 16) 0 = 0 := whX_all h5 (by rw [List.length_drop]; exact h6)
        rw [hB, e9] at hX
        cases hv : validB (bkOf h rest (decIs (h.drop 16)).1 (decS (rest.drop 16)).1) [] with
        | false => exact .inr (.inr (.inr (.inl ⟨h4, h5, h6, rfl, by rw [hX, hv]; simp⟩)))
        | true => exact .inr (.inr (.inr (.inr ⟨h4, h5, h6, rfl, by rw [hX, hv]; simp, hB⟩)))
      · have e9 : whX decS (rest.drop 16) 0 = 6 := whX_left h5 (by rw [List.length_drop]; omega)
        exact .inr (.inr (.inl ⟨h4, h5, h6, by rw [hX, e9]; simp⟩))
    · refine .inr (.inl ⟨h4, h5, ?_⟩)
      rw [hX, whX_err h5, if_neg (fun h' => h5 h'.1)]
theorem hdX_of (h : List UInt8) (hq : hdE h 0 ≠ 0) : hdX h 0 = hdE h 0 := by
  unfold hdX
  simp only [rdX_ne hq, whX_ne hq, hq, false_and, if_false]
theorem blE_no {blob : List UInt8} (h : (decS blob).2.2 ≠ 0) : blE blob = (decS blob).2.2 := by
  unfold blE
  rw [rdX_0, hdX_ne h]
theorem blE_yes {blob : List UInt8} (h : (decS blob).2.2 = 0) : blE blob = hdX (decS blob).1 0 ∧ blB blob = hdB (decS blob).1 0 ∧ blH blob = (decS blob).1 ∧ rdR decS blob 0 = blob.drop (decS blob).2.1 := by
  have e1 : blH blob = (decS blob).1 := rdV_0 h
  unfold blE blB
  rw [e1, rdX_0, h]
  exact ⟨rfl, rfl, rfl, rdR_0 h⟩
/-! a key -/
theorem one_parts (s : List UInt8) : ((decSs s).2.2 ≠ 0 ∧ keyE s 0 = (decSs s).2.2) ∨ ((decSs s).2.2 = 0 ∧ ¬ (decSs s).2.1 = s.length ∧ keyE s 0 = 6) ∨ ((decSs s).2.2 = 0 ∧ (decSs s).2.1 = s.length ∧ ¬ (decSs s).1.length = 2 ∧ keyE s 0 = 6) ∨
    ((decSs s).2.2 = 0 ∧ (decSs s).2.1 = s.length ∧ (decSs s).1.length = 2 ∧ keyE s 0 = kN ((decSs s).1.getD 0 []) ∧ (keyE s 0 = 0 → keyK s 0 = mkK (rdV [] decIs ((decSs s).1.getD 0 []) 0) ((decSs s).1.getD 1 []))) := by
  by_cases h1 : (decSs s).2.2 = 0
  · have hu := (codecSs.used _ h1).1
    have e1 : rdV [] decSs s 0 = (decSs s).1 := rdV_0 h1
    by_cases h2 : (decSs s).2.1 = s.length
    · have e2 : whX decSs s 0 = 0 := whX_all h1 h2
      by_cases h3 : (decSs s).1.length = 2
      · have e3 : kE1 s 0 = 0 := by unfold kE1; rw [e2, e1, decide_eq_true h3]; simp
        refine .inr (.inr (.inr ⟨h1, h2, h3, ?_, ?_⟩))
        · unfold keyE; rw [e3, e1, if_pos rfl]
        · intro hk
          unfold keyK
          rw [hk, if_pos rfl, e1]
      · have e3 : kE1 s 0 = 6 := by unfold kE1; rw [e2, e1, decide_eq_false h3]; simp
        exact .inr (.inr (.inl ⟨h1, h2, h3, by unfold keyE; rw [e3]; simp⟩))
    · have e2 : whX decSs s 0 = 6 := whX_left h1 (by omega)
      have e3 : kE1 s 0 = 6 := by unfold kE1; rw [e2]; simp
      exact .inr (.inl ⟨h1, h2, by unfold keyE; rw [e3]; simp⟩)
  · have e2 : whX decSs s 0 = (decSs s).2.2 := whX_err h1
    have e3 : kE1 s 0 = (decSs s).2.2 := by unfold kE1; rw [e2, if_neg (fun h => h1 h.1)]
    exact .inl ⟨h1, by unfold keyE; rw [e3, if_neg h1]⟩
theorem kN_parts (p : List UInt8) : ((decIs p).2.2 ≠ 0 ∧ kN p = (decIs p).2.2) ∨ ((decIs p).2.2 = 0 ∧ ¬ (decIs p).2.1 = p.length ∧ kN p = 6) ∨ ((decIs p).2.2 = 0 ∧ (decIs p).2.1 = p.length ∧ ¬ (decIs p).1.length = 8 ∧ kN p = 6) ∨
    ((decIs p).2.2 = 0 ∧ (decIs p).2.1 = p.length ∧ (decIs p).1.length = 8 ∧ ¬ ((decIs p).1.getD 7 0 = 0 ∨ (decIs p).1.getD 7 0 = 1) ∧ kN p = 6) ∨
    ((decIs p).2.2 = 0 ∧ (decIs p).2.1 = p.length ∧ (decIs p).1.length = 8 ∧ ((decIs p).1.getD 7 0 = 0 ∨ (decIs p).1.getD 7 0 = 1) ∧ kN p = 0 ∧ rdV [] decIs p 0 = (decIs p).1) := by
  by_cases h1 : (decIs p).2.2 = 0
  · have hu := (codecIs.used _ h1).1
    have e1 : rdV [] decIs p 0 = (decIs p).1 := rdV_0 h1
    by_cases h2 : (decIs p).2.1 = p.length
    · have e2 : whX decIs p 0 = 0 := whX_all h1 h2
      by_cases h3 : (decIs p).1.length = 8
      · have e3 : kE2 p = 0 := by unfold kE2; rw [e2, e1, decide_eq_true h3]; simp
        have hw : kN p = if win ((decIs p).1.getD 7 0) 0 1 = false then 6 else 0 := by unfold kN; rw [e3, e1]; simp
        cases hq : win ((decIs p).1.getD 7 0) 0 1 with
        | true =>
          have hq2 := (win_iff _ _ _).1 hq
          exact .inr (.inr (.inr (.inr ⟨h1, h2, h3, by omega, by rw [hw, hq]; simp, e1⟩)))
        | false =>
          have hq2 : ¬ (0 ≤ (decIs p).1.getD 7 0 ∧ (decIs p).1.getD 7 0 ≤ 1) := fun h => by rw [(win_iff _ _ _).2 h] at hq; cases hq
          exact .inr (.inr (.inr (.inl ⟨h1, h2, h3, by omega, by rw [hw, hq]; simp⟩)))
      · have e3 : kE2 p = 6 := by unfold kE2; rw [e2, e1, decide_eq_false h3]; simp
        exact .inr (.inr (.inl ⟨h1, h2, h3, by unfold kN; rw [e3]; simp⟩))
    · have e2 : whX decIs p 0 = 6 := whX_left h1 (by omega)
      have e3 : kE2 p = 6 := by unfold kE2; rw [e2]; simp
      exact .inr (.inl ⟨h1, h2, by unfold kN; rw [e3]; simp⟩)
  · have e2 : whX decIs p 0 = (decIs p).2.2 := whX_err h1
    have e3 : kE2 p = (decIs p).2.2 := by unfold kE2; rw [e2, if_neg (fun h => h1 h.1)]
    exact .inl ⟨h1, by unfold kN; rw [e3, if_neg (fun h => h1 h.1)]⟩
/-! the content -/
theorem foldK_stop (ss : List (List UInt8)) : ∀ e, e ≠ 0 → (foldK ss e).2 = e := by
  induction ss with
  | nil => intro e _; rfl
  | cons s ss ih =>
    intro e he
    rw [foldK_cons]
    show (foldK ss (keyE s e)).2 = e
    rw [keyE_ne s e he]
    exact ih e he
theorem foldK_app (a : List (List UInt8)) : ∀ (b : List (List UInt8)) (e : Int), (foldK (a ++ b) e).2 = (foldK b (foldK a e).2).2 := by
  induction a with
  | nil => intro b e; rfl
  | cons x a ih => intro b e; rw [List.cons_append, foldK_cons, foldK_cons]; exact ih b _
theorem foldK_first (ss : List (List UInt8)) (j : Nat) (hj : j < ss.length) (h0 : (foldK (ss.take j) 0).2 = 0) (h1 : keyE ss[j] 0 ≠ 0) : (foldK ss 0).2 = keyE ss[j] 0 := by
  have h2 : (foldK (ss.take (j + 1)) 0).2 = keyE ss[j] 0 := by rw [foldK_take ss j hj, h0]
  have h3 := foldK_app (ss.take (j + 1)) (ss.drop (j + 1)) 0
  rw [List.take_append_drop, h2, foldK_stop _ _ h1] at h3
  exact h3
theorem ct_err {t : List UInt8} (h : (decSs t).2.2 ≠ 0) : ctE t = (decSs t).2.2 := by
  unfold ctE
  rw [whX_err h, foldK_stop _ _ h]
theorem ct_left {t : List UInt8} (h : (decSs t).2.2 = 0) (h2 : ¬ (decSs t).2.1 = t.length) : ctE t = 6 := by
  have hu := (codecSs.used _ h).1
  unfold ctE
  rw [whX_left h (by omega), foldK_stop _ _ (by decide)]
theorem ct_all {t : List UInt8} (h : (decSs t).2.2 = 0) (h2 : (decSs t).2.1 = t.length) : ctE t = (foldK (decSs t).1 0).2 ∧ ctK t = (foldK (decSs t).1 0).1 := by
  have e1 : rdV [] decSs t 0 = (decSs t).1 := rdV_0 h
  unfold ctE ctK
  rw [whX_all h h2, e1]
  exact ⟨rfl, rfl⟩
end Go.Proofs.YtbpjdfnnlmblaaaGreatDoor
/- The specification's digest at a text's beginning, and its key out of an element (printed by wip/gen/refM.py). -/
namespace Go.Proofs.YtbpjdfnnlmblaaaGreatDoor
open Go.RowKit Go.Shelf
set_option linter.unusedSimpArgs false
set_option linter.unusedVariables false
/-- a digest of which the first j bytes are in -/
def dpart (s : List UInt8) (j : Nat) : Array Value := ((List.range 16).map (fun i => if i < j then dcell s i else .int .u8 0)).toArray
theorem dpart_zero (s : List UInt8) : dpart s 0 = drow z16 := by kernel_rfl
theorem dpart_full (s : List UInt8) : dpart s 16 = drow (s.take 16) := by
  have h : ∀ i ∈ List.range 16, (if i < 16 then dcell s i else .int .u8 0) = dcell (s.take 16) i := by
    intro i hi
    have hi' := List.mem_range.1 hi
    rw [if_pos hi', dcell_take s i hi']
  unfold dpart
  rw [List.map_congr_left h]
  rfl
theorem dpart_set (s : List UInt8) (j : Nat) (hj : j < 16) : (dpart s j).setIfInBounds j (.int .u8 (B8 (byteAt s j))) = dpart s (j + 1) := by
  rcases (by omega : j = 0 ∨ j = 1 ∨ j = 2 ∨ j = 3 ∨ j = 4 ∨ j = 5 ∨ j = 6 ∨ j = 7 ∨ j = 8 ∨ j = 9 ∨ j = 10 ∨ j = 11 ∨ j = 12 ∨ j = 13 ∨ j = 14 ∨ j = 15) with rfl | rfl | rfl | rfl | rfl | rfl | rfl | rfl | rfl | rfl | rfl | rfl | rfl | rfl | rfl | rfl <;> rfl
theorem dpart_at (s : List UInt8) (j : Nat) (hj : j < 16) : (dpart s j)[j]? = some (.int .u8 0) := by
  rcases (by omega : j = 0 ∨ j = 1 ∨ j = 2 ∨ j = 3 ∨ j = 4 ∨ j = 5 ∨ j = 6 ∨ j = 7 ∨ j = 8 ∨ j = 9 ∨ j = 10 ∨ j = 11 ∨ j = 12 ∨ j = 13 ∨ j = 14 ∨ j = 15) with rfl | rfl | rfl | rfl | rfl | rfl | rfl | rfl | rfl | rfl | rfl | rfl | rfl | rfl | rfl | rfl <;> rfl
theorem drow_all (d : List UInt8) : ((drow d).all fun u => u.oneCell') = true := drow_one d
attribute [local irreducible] Calls drow dpart
set_option maxRecDepth 100000 in
set_option maxHeartbeats 2000000 in
theorem digest_r (s : List UInt8) (hs : ¬ s.length < 16) (w : World) :
    Calls Tryz.prog 50 #[.string ⟨s.toArray⟩] w fun e w' => e = .returned (.agg (drow (s.take 16))) ∧ Below w.heap.size w w' := by
  have hz := zero_dig
  have HS : Hid (16 ≤ s.length) := Lib.hid (by omega)
  have HZ := Lib.hid (dpart_zero s)
  have HFU := Lib.hid (dpart_full s)
  clear hs
  go_enter Tryz.func50, Tryz.ntmps50
  go_wp2
  go_loopw [4] (fun o wr => ∃ j : Nat, j ≤ 16 ∧ o = .int .i64 j ∧ Hid (wr.heap[w.heap.size + 1]? = some (.cells (dpart s j) 23 (0, 0))) ∧ Hid (wr.heap[w.heap.size]? = some (.cells (drow z16) 23 (0, 0))) ∧ Hid (Below w.heap.size w wr)) (fun o _ => 16 - (intOf o).toNat)
  case atStart => exact ⟨0, Nat.zero_le _, rfl, Lib.hid (by rw [HZ.out]; exact heap_last _ _ _ (by simp)), Lib.hid (by rw [heap_past _ _ _ (by simp), heap_last _ _ _ rfl]), Lib.hid (((Below.refl _ _).alloc (Nat.le_refl _) _).alloc (by simp) _)⟩
  case round =>
    obtain ⟨j, hj, rfl, hg, hr, hb⟩ := hrel
    by_cases hlt : j < 16
    · have j1 : (j : Int) < 16 := by omega
      have j2 : (j : Int) < s.length := by have := HS.out; omega
      have j3 : j < s.length := by have := HS.out; omega
      have c9 : wr.cell? ⟨w.heap.size + 1, j, none⟩ = some (.int .u8 0) := by rw [cell_of_row _ _ _ _ _ _ hg.out]; exact dpart_at s j hlt
      have f9 := frozen_of_row _ _ j _ _ hg.out
      have HW4 : Hid (wr.setCell ⟨w.heap.size + 1, j, none⟩ (.int .u8 (B8 (byteAt s j))) = wr.setRow (w.heap.size + 1) (dpart s (j + 1))) := Lib.hid (by rw [setCell_rowC _ _ _ _ _ _ _ hg.out, dpart_set s j hlt])
      have HJ := Lib.hid hlt
      clear hlt
      go_wp2
      go_roundw
      case rel => exact ⟨j + 1, HJ.out, by go_num, Lib.hid (by rw [HW4.out]; exact setRow_heap _ _ _ _ _ _ hg.out), Lib.hid (by rw [HW4.out, setRow_else _ _ _ _ (by omega)]; exact hr.out), Lib.hid (by rw [HW4.out]; exact hb.out.trans (below_row (by omega)))⟩
      case measure => have := HJ.out; simp [intOf]; omega
    · have he : j = 16 := by omega
      have j1 : ¬ (j : Int) < 16 := by omega
      have HG : Hid (wr.heap[w.heap.size + 1]? = some (.cells (drow (s.take 16)) 23 (0, 0))) := Lib.hid (by rw [← HFU.out, ← he]; exact hg.out)
      clear he hlt hj hg
      go_wp2_with (first
        | (refine wpList_load_row rfl 23 (.tmp 3) rfl (w.heap.size + 1) rfl _ (drow (s.take 16)) (0, 0) _ HG.out Tryz.underlying23 rfl (by rw [drow_size]; exact info_d) ?_)
        | (refine st_T (T := 23) (drow (s.take 16)) (by rw [drow_size]; exact info_d) rfl (.tmp 2) (.tmp 14) rfl w.heap.size (drow z16) rfl rfl (drow_all _) (by rw [drow_size, drow_size]) hr.out ?_; intro we hge hoe hbe))
      refine bodyPost_ret (results_cell_row rfl _ _ w.heap.size _ (drow (s.take 16)) (0, 0) _ rfl hge Tryz.underlying23 rfl (by rw [drow_size]; exact info_d)) rfl ?_
      exact ⟨rfl, hb.out.trans (hbe _ (Nat.le_refl _))⟩
theorem built_k0 : Tryz.prog.built 45 [] = some (kc zK) := by kernel_rfl
/-- a key of nothing is built -/
theorem bldk_z {ops : Array Oper} {rest : List Oper} {o : Oper} {a : Act} {w : World} {Q : Exit → Act → World → Prop} (hgd : Region.wanted o (yielded ops a.tmps) = true) (ho : o.op = .build 45 #[])
    (h : wpList Tryz.prog ops Q rest (a.put o.dst (.agg (kc zK))) w) : wpList Tryz.prog ops Q (o :: rest) a w :=
  wpList_step fun K hK => by
    rw [if_pos hgd]
    have hr := run_build (P := Tryz.prog) w 45 #[] _ built_k0
    unfold Oper.wp execOp
    simp only [ho, List.map_toArray, List.map_nil, hr, Sem.run_bind, Sem.run_pure, Result.andThen_ok]
    exact hK _ _ h
theorem keyK_no {s : List UInt8} (h : keyE s 0 ≠ 0) : keyK s 0 = zK := by unfold keyK; rw [if_neg h]
theorem two_of {l : List (List UInt8)} (h : l.length = 2) : ∃ p0 p1, l = [p0, p1] := by
  match l, h with
  | [a, b], _ => exact ⟨a, b, rfl⟩
theorem eight_is {l : List Int} (h : l.length = 8) : ∃ m0 m1 m2 m3 m4 m5 m6 m7, l = [m0, m1, m2, m3, m4, m5, m6, m7] := by
  match l, h with
  | [m0, m1, m2, m3, m4, m5, m6, m7], _ => exact ⟨m0, m1, m2, m3, m4, m5, m6, m7, rfl⟩
theorem four_is {l : List Int} (h : l.length = 4) : ∃ m0 m1 m2 m3, l = [m0, m1, m2, m3] := by
  match l, h with
  | [m0, m1, m2, m3], _ => exact ⟨m0, m1, m2, m3, rfl⟩
theorem RdE.form {α : Type} {E : El α} {w : World} {v : Value} {l : List α} (h : RdE E w v l) : ∃ a c, v = .slice a l.length c := by
  obtain ⟨a, c, rfl, _⟩ := h
  exact ⟨a, c, rfl⟩
attribute [local irreducible] kc decSs decIs keyE keyK kN
set_option maxRecDepth 100000 in
set_option maxHeartbeats 8000000 in
theorem one_r (s : List UInt8) (w : World) (hl : s.length ≤ 900000) :
    Calls Tryz.prog 58 #[.string ⟨s.toArray⟩] w fun e w' => e = .returned (.tuple #[.agg (kc (keyK s 0)), .int .i64 (keyE s 0)]) ∧ Below w.heap.size w w' := by
  have hz := zero_key
  have HL := Lib.hid hl
  obtain ⟨W0, hW0⟩ : ∃ W0, W0 = w.alloc (.cells (kc zK) 45) := ⟨_, rfl⟩
  have HW := Lib.hid hW0
  have HRES : Hid (∀ u, Below W0.heap.size W0 u → u.heap[w.heap.size]? = some (.cells (kc zK) 45 (0, 0)) ∧ Below w.heap.size w u) := Lib.hid (by
    intro u h
    rw [hW0] at h
    have h2 := below1 _ _ h
    exact ⟨by rw [h.block _ (by simp)]; exact heap_last _ _ _ rfl, h2⟩)
  have hcv := conv_sb W0 s
  have HSB := Lib.hid (sb_below W0 s)
  have HSR := Lib.hid (sb_rd W0 s (by unfold maxLen; omega))
  generalize Lib.bytesWorld W0 5 ⟨s.toArray⟩ = ws at hcv HSB HSR
  have HP := Lib.hid (one_parts s)
  have HKN := Lib.hid (fun (h : keyE s 0 ≠ 0) => keyK_no h)
  have HG := Lib.hid (getStringsR_c _ s ws HSR.out hl)
  have HLEN : Hid (∀ x ∈ (decSs s).1, (decSs s).2.2 = 0 → x.length ≤ s.length) := Lib.hid (fun x hx h0 => rdVL_len s 0 x (by rw [rdV_0 h0]; exact hx))
  generalize decSs s = d at HP HG HLEN
  obtain ⟨l, n, er⟩ := d
  simp only at HP HLEN
  generalize keyE s 0 = ke at HP HKN ⊢
  generalize keyK s 0 = kk at HP HKN ⊢
  have hsl : (s.length : Int) ≤ 900000 := by omega
  clear hl hW0
  rcases HP.out with ⟨p1, p2⟩ | ⟨p1, p2, p3⟩ | ⟨p1, p2, p3, p4⟩ | ⟨p1, p2, p3, p4, p5⟩
  · have h3 : (er != 0) = true := by simpa using p1
    have HKZ : Hid (kk = zK) := Lib.hid (HKN.out (by rw [p2]; exact p1))
    subst p2
    clear p1 HP HKN
    go_enter Tryz.func58, Tryz.ntmps58
    go_upto_region 1 with fail
    rw [← HW.out]
    go_wp2_with (first
      | (go_at_call 57; refine HG.out.mono ?_; rintro e w1 ⟨v1, rfl, ho1, hb1⟩; obtain ⟨a1, c1, rfl⟩ := ho1.rd.form; have HO1 := Lib.hid ho1; have HB1 := Lib.hid (HSB.out.trans (hb1.mono HSB.out.size)); clear ho1 hb1)
      | (refine bldk_z rfl rfl ?_)
      | (refine st_key0 zK zK rfl (.tmp 2) (.tmp 19) rfl w.heap.size rfl rfl _ (HRES.out _ HB1.out).1 ?_))
    refine bodyPost_ret (results_row2 rfl _ _ w.heap.size _ rfl (run_keyrow _ _ zK _ (setRow_heap _ _ _ _ _ _ (HRES.out _ HB1.out).1))) rfl ?_
    exact ⟨by rw [HKZ.out]; rfl, (HRES.out _ HB1.out).2.trans (below_row (Nat.le_refl _))⟩
  · subst p1
    have h3 : ((n : Int) != (s.length : Int)) = true := by rw [bne_iff_ne]; omega
    have HKZ : Hid (kk = zK) := Lib.hid (HKN.out (by rw [p3]; decide))
    subst p3
    clear p2 HP HKN
    go_enter Tryz.func58, Tryz.ntmps58
    go_upto_region 1 with fail
    rw [← HW.out]
    go_wp2_with (first
      | (go_at_call 57; refine HG.out.mono ?_; rintro e w1 ⟨v1, rfl, ho1, hb1⟩; obtain ⟨a1, c1, rfl⟩ := ho1.rd.form; have HO1 := Lib.hid ho1; have HB1 := Lib.hid (HSB.out.trans (hb1.mono HSB.out.size)); clear ho1 hb1)
      | (refine bldk_z rfl rfl ?_)
      | (refine st_key0 zK zK rfl (.tmp 2) (.tmp 30) rfl w.heap.size rfl rfl _ (HRES.out _ HB1.out).1 ?_))
    refine bodyPost_ret (results_row2 rfl _ _ w.heap.size _ rfl (run_keyrow _ _ zK _ (setRow_heap _ _ _ _ _ _ (HRES.out _ HB1.out).1))) rfl ?_
    exact ⟨by rw [HKZ.out]; rfl, (HRES.out _ HB1.out).2.trans (below_row (Nat.le_refl _))⟩
  · subst p1
    have h3 : ((n : Int) != (s.length : Int)) = false := by rw [p2]; simp
    have h4 : ((l.length : Int) != 2) = true := by rw [bne_iff_ne]; omega
    have HKZ : Hid (kk = zK) := Lib.hid (HKN.out (by rw [p4]; decide))
    subst p4
    clear p2 p3 HP HKN
    go_enter Tryz.func58, Tryz.ntmps58
    go_upto_region 1 with fail
    rw [← HW.out]
    go_wp2_with (first
      | (go_at_call 57; refine HG.out.mono ?_; rintro e w1 ⟨v1, rfl, ho1, hb1⟩; obtain ⟨a1, c1, rfl⟩ := ho1.rd.form; have HO1 := Lib.hid ho1; have HB1 := Lib.hid (HSB.out.trans (hb1.mono HSB.out.size)); clear ho1 hb1)
      | (refine bldk_z rfl rfl ?_)
      | (refine st_key0 zK zK rfl (.tmp 2) (.tmp 30) rfl w.heap.size rfl rfl _ (HRES.out _ HB1.out).1 ?_))
    refine bodyPost_ret (results_row2 rfl _ _ w.heap.size _ rfl (run_keyrow _ _ zK _ (setRow_heap _ _ _ _ _ _ (HRES.out _ HB1.out).1))) rfl ?_
    exact ⟨by rw [HKZ.out]; rfl, (HRES.out _ HB1.out).2.trans (below_row (Nat.le_refl _))⟩
  · subst p1
    have h3 : ((n : Int) != (s.length : Int)) = false := by rw [p2]; simp
    obtain ⟨p0, q0, rfl⟩ := two_of p3
    have hp0 := HLEN.out p0 (by simp) rfl
    have HKP := Lib.hid (kN_parts p0)
    simp only [List.getD_cons_zero, List.getD_cons_succ] at p4 p5
    have HP5 := Lib.hid p5
    have HP4 := Lib.hid p4
    have HGI := Lib.hid (fun (v : Value) (y : World) (h : RdE eB y v p0) => getIntsR_c v p0 y h (by have := HL.out; omega))
    have HPL := Lib.hid hp0
    generalize kN p0 = kn at HKP HP4
    generalize hdI : rdV [] decIs p0 0 = rv at HKP HP5
    generalize decIs p0 = d at HKP HGI
    obtain ⟨li, n2, e2⟩ := d
    simp only at HKP
    have hp0i : (p0.length : Int) ≤ 900000 := by have := HL.out; omega
    clear hdI p2 p3 p4 p5 HP HLEN hp0
    rcases HKP.out with ⟨r1, r2⟩ | ⟨r1, r2, r3⟩ | ⟨r1, r2, r3, r4⟩ | ⟨r1, r2, r3, r4, r5⟩ | ⟨r1, r2, r3, r4, r5, r6⟩
    · have h5 : (e2 != 0) = true := by simpa using r1
      have HKZ : Hid (kk = zK) := Lib.hid (HKN.out (by rw [HP4.out, r2]; first | exact r1 | decide))
      have HKE : Hid (ke = _) := Lib.hid (HP4.out.trans r2)
      clear r1 r2 HKP HP5 HP4 HKN
      go_enter Tryz.func58, Tryz.ntmps58
      go_upto_region 1 with fail
      rw [← HW.out]
      go_wp2_with (first
        | (go_at_call 57; refine HG.out.mono ?_; rintro e w1 ⟨v1, rfl, ho1, hb1⟩; obtain ⟨a1, c1, rfl⟩ := ho1.rd.form; obtain ⟨b1, o1, rfl, hbl, hrow⟩ := RdS_cells ho1.rd (by simp); have HQ : Hid (∀ u, Below w1.heap.size w1 u → u.cell? ⟨b1, o1, none⟩ = some (.string ⟨p0.toArray⟩) ∧ u.cell? ⟨b1, o1 + 1, none⟩ = some (.string ⟨q0.toArray⟩)) := (Lib.hid (fun u hu => ⟨by rw [hu.cell (p := ⟨b1, o1, none⟩) hbl]; exact hrow 0 (by simp), by rw [hu.cell (p := ⟨b1, o1 + 1, none⟩) hbl]; exact hrow 1 (by simp)⟩)); have x0 := (HQ.out _ (Below.refl _ _)).1; have HB1 := Lib.hid (HSB.out.trans (hb1.mono HSB.out.size)); have hcv2 := conv_sb w1 p0; have HSB2 := Lib.hid (sb_below w1 p0); have HSR2 := Lib.hid (sb_rd w1 p0 (by unfold maxLen; have := HPL.out; have := HL.out; omega)); generalize Lib.bytesWorld w1 5 ⟨p0.toArray⟩ = w1s at hcv2 HSB2 HSR2; clear hrow ho1 hb1)
        | (go_at_call 49; refine (HGI.out _ _ HSR2.out).mono ?_; rintro e w2 ⟨v2, rfl, ho2, hb2⟩; obtain ⟨a2, c2, rfl⟩ := ho2.rd.form; have hB12 := HSB2.out.trans (hb2.mono HSB2.out.size); have HB2 := Lib.hid (HB1.out.trans (hB12.mono HB1.out.size)); obtain ⟨z0, z1⟩ := HQ.out _ hB12; have HO2 := Lib.hid ho2; clear ho2 hb2 x0 hB12)
        | (refine bldk_z rfl rfl ?_)
        | (refine st_key0 zK zK rfl (.tmp 2) (.tmp 42) rfl w.heap.size rfl rfl _ (HRES.out _ HB2.out).1 ?_))
      refine bodyPost_ret (results_row2 rfl _ _ w.heap.size _ rfl (run_keyrow _ _ zK _ (setRow_heap _ _ _ _ _ _ (HRES.out _ HB2.out).1))) rfl ?_
      exact ⟨by rw [HKZ.out, HKE.out]; rfl, (HRES.out _ HB2.out).2.trans (below_row (Nat.le_refl _))⟩
    · subst r1
      have h5 : ((n2 : Int) != (p0.length : Int)) = true := by rw [bne_iff_ne]; omega
      have HKZ : Hid (kk = zK) := Lib.hid (HKN.out (by rw [HP4.out, r3]; first | exact r1 | decide))
      have HKE : Hid (ke = _) := Lib.hid (HP4.out.trans r3)
      clear r2 r3 HKP HP5 HP4 HKN
      go_enter Tryz.func58, Tryz.ntmps58
      go_upto_region 1 with fail
      rw [← HW.out]
      go_wp2_with (first
        | (go_at_call 57; refine HG.out.mono ?_; rintro e w1 ⟨v1, rfl, ho1, hb1⟩; obtain ⟨a1, c1, rfl⟩ := ho1.rd.form; obtain ⟨b1, o1, rfl, hbl, hrow⟩ := RdS_cells ho1.rd (by simp); have HQ : Hid (∀ u, Below w1.heap.size w1 u → u.cell? ⟨b1, o1, none⟩ = some (.string ⟨p0.toArray⟩) ∧ u.cell? ⟨b1, o1 + 1, none⟩ = some (.string ⟨q0.toArray⟩)) := (Lib.hid (fun u hu => ⟨by rw [hu.cell (p := ⟨b1, o1, none⟩) hbl]; exact hrow 0 (by simp), by rw [hu.cell (p := ⟨b1, o1 + 1, none⟩) hbl]; exact hrow 1 (by simp)⟩)); have x0 := (HQ.out _ (Below.refl _ _)).1; have HB1 := Lib.hid (HSB.out.trans (hb1.mono HSB.out.size)); have hcv2 := conv_sb w1 p0; have HSB2 := Lib.hid (sb_below w1 p0); have HSR2 := Lib.hid (sb_rd w1 p0 (by unfold maxLen; have := HPL.out; have := HL.out; omega)); generalize Lib.bytesWorld w1 5 ⟨p0.toArray⟩ = w1s at hcv2 HSB2 HSR2; clear hrow ho1 hb1)
        | (go_at_call 49; refine (HGI.out _ _ HSR2.out).mono ?_; rintro e w2 ⟨v2, rfl, ho2, hb2⟩; obtain ⟨a2, c2, rfl⟩ := ho2.rd.form; have hB12 := HSB2.out.trans (hb2.mono HSB2.out.size); have HB2 := Lib.hid (HB1.out.trans (hB12.mono HB1.out.size)); obtain ⟨z0, z1⟩ := HQ.out _ hB12; have HO2 := Lib.hid ho2; clear ho2 hb2 x0 hB12)
        | (refine bldk_z rfl rfl ?_)
        | (refine st_key0 zK zK rfl (.tmp 2) (.tmp 55) rfl w.heap.size rfl rfl _ (HRES.out _ HB2.out).1 ?_))
      refine bodyPost_ret (results_row2 rfl _ _ w.heap.size _ rfl (run_keyrow _ _ zK _ (setRow_heap _ _ _ _ _ _ (HRES.out _ HB2.out).1))) rfl ?_
      exact ⟨by rw [HKZ.out, HKE.out]; rfl, (HRES.out _ HB2.out).2.trans (below_row (Nat.le_refl _))⟩
    · subst r1
      have h5 : ((n2 : Int) != (p0.length : Int)) = false := by rw [r2]; simp
      have h6 : ((li.length : Int) != 8) = true := by rw [bne_iff_ne]; omega
      have HKZ : Hid (kk = zK) := Lib.hid (HKN.out (by rw [HP4.out, r4]; first | exact r1 | decide))
      have HKE : Hid (ke = _) := Lib.hid (HP4.out.trans r4)
      clear r2 r3 r4 HKP HP5 HP4 HKN
      go_enter Tryz.func58, Tryz.ntmps58
      go_upto_region 1 with fail
      rw [← HW.out]
      go_wp2_with (first
        | (go_at_call 57; refine HG.out.mono ?_; rintro e w1 ⟨v1, rfl, ho1, hb1⟩; obtain ⟨a1, c1, rfl⟩ := ho1.rd.form; obtain ⟨b1, o1, rfl, hbl, hrow⟩ := RdS_cells ho1.rd (by simp); have HQ : Hid (∀ u, Below w1.heap.size w1 u → u.cell? ⟨b1, o1, none⟩ = some (.string ⟨p0.toArray⟩) ∧ u.cell? ⟨b1, o1 + 1, none⟩ = some (.string ⟨q0.toArray⟩)) := (Lib.hid (fun u hu => ⟨by rw [hu.cell (p := ⟨b1, o1, none⟩) hbl]; exact hrow 0 (by simp), by rw [hu.cell (p := ⟨b1, o1 + 1, none⟩) hbl]; exact hrow 1 (by simp)⟩)); have x0 := (HQ.out _ (Below.refl _ _)).1; have HB1 := Lib.hid (HSB.out.trans (hb1.mono HSB.out.size)); have hcv2 := conv_sb w1 p0; have HSB2 := Lib.hid (sb_below w1 p0); have HSR2 := Lib.hid (sb_rd w1 p0 (by unfold maxLen; have := HPL.out; have := HL.out; omega)); generalize Lib.bytesWorld w1 5 ⟨p0.toArray⟩ = w1s at hcv2 HSB2 HSR2; clear hrow ho1 hb1)
        | (go_at_call 49; refine (HGI.out _ _ HSR2.out).mono ?_; rintro e w2 ⟨v2, rfl, ho2, hb2⟩; obtain ⟨a2, c2, rfl⟩ := ho2.rd.form; have hB12 := HSB2.out.trans (hb2.mono HSB2.out.size); have HB2 := Lib.hid (HB1.out.trans (hB12.mono HB1.out.size)); obtain ⟨z0, z1⟩ := HQ.out _ hB12; have HO2 := Lib.hid ho2; clear ho2 hb2 x0 hB12)
        | (refine bldk_z rfl rfl ?_)
        | (refine st_key0 zK zK rfl (.tmp 2) (.tmp 55) rfl w.heap.size rfl rfl _ (HRES.out _ HB2.out).1 ?_))
      refine bodyPost_ret (results_row2 rfl _ _ w.heap.size _ rfl (run_keyrow _ _ zK _ (setRow_heap _ _ _ _ _ _ (HRES.out _ HB2.out).1))) rfl ?_
      exact ⟨by rw [HKZ.out, HKE.out]; rfl, (HRES.out _ HB2.out).2.trans (below_row (Nat.le_refl _))⟩
    · subst r1
      have h5 : ((n2 : Int) != (p0.length : Int)) = false := by rw [r2]; simp
      obtain ⟨m0, m1, m2, m3, m4, m5, m6, m7, rfl⟩ := eight_is r3
      simp only [List.getD_cons_zero, List.getD_cons_succ] at r4
      have h6 : (m7 != 0) = true := by rw [bne_iff_ne]; omega
      have h7 : (m7 != 1) = true := by rw [bne_iff_ne]; omega
      have HKZ : Hid (kk = zK) := Lib.hid (HKN.out (by rw [HP4.out, r5]; first | exact r1 | decide))
      have HKE : Hid (ke = _) := Lib.hid (HP4.out.trans r5)
      clear r2 r3 r4 r5 HKP HP5 HP4 HKN
      go_enter Tryz.func58, Tryz.ntmps58
      go_upto_region 1 with fail
      rw [← HW.out]
      go_wp2_with (first
        | (go_at_call 57; refine HG.out.mono ?_; rintro e w1 ⟨v1, rfl, ho1, hb1⟩; obtain ⟨a1, c1, rfl⟩ := ho1.rd.form; obtain ⟨b1, o1, rfl, hbl, hrow⟩ := RdS_cells ho1.rd (by simp); have HQ : Hid (∀ u, Below w1.heap.size w1 u → u.cell? ⟨b1, o1, none⟩ = some (.string ⟨p0.toArray⟩) ∧ u.cell? ⟨b1, o1 + 1, none⟩ = some (.string ⟨q0.toArray⟩)) := (Lib.hid (fun u hu => ⟨by rw [hu.cell (p := ⟨b1, o1, none⟩) hbl]; exact hrow 0 (by simp), by rw [hu.cell (p := ⟨b1, o1 + 1, none⟩) hbl]; exact hrow 1 (by simp)⟩)); have x0 := (HQ.out _ (Below.refl _ _)).1; have HB1 := Lib.hid (HSB.out.trans (hb1.mono HSB.out.size)); have hcv2 := conv_sb w1 p0; have HSB2 := Lib.hid (sb_below w1 p0); have HSR2 := Lib.hid (sb_rd w1 p0 (by unfold maxLen; have := HPL.out; have := HL.out; omega)); generalize Lib.bytesWorld w1 5 ⟨p0.toArray⟩ = w1s at hcv2 HSB2 HSR2; clear hrow ho1 hb1)
        | (go_at_call 49; refine (HGI.out _ _ HSR2.out).mono ?_; rintro e w2 ⟨v2, rfl, ho2, hb2⟩; obtain ⟨a2, c2, rfl⟩ := ho2.rd.form; have hB12 := HSB2.out.trans (hb2.mono HSB2.out.size); have HB2 := Lib.hid (HB1.out.trans (hB12.mono HB1.out.size)); obtain ⟨z0, z1⟩ := HQ.out _ hB12; have HO2 := Lib.hid ho2; clear ho2 hb2 x0 hB12; obtain ⟨b2, o2, rfl, hbl2, hrow2⟩ := RdI_cells HO2.out.rd (by simp); have y7 := hrow2 7 (by simp); have HROW2 := Lib.hid hrow2; simp only [List.getElem_cons_zero, List.getElem_cons_succ] at y7; clear hrow2)
        | (refine bldk_z rfl rfl ?_)
        | (refine st_key0 zK zK rfl (.tmp 2) (.tmp 66) rfl w.heap.size rfl rfl _ (HRES.out _ HB2.out).1 ?_))
      refine bodyPost_ret (results_row2 rfl _ _ w.heap.size _ rfl (run_keyrow _ _ zK _ (setRow_heap _ _ _ _ _ _ (HRES.out _ HB2.out).1))) rfl ?_
      exact ⟨by rw [HKZ.out, HKE.out]; rfl, (HRES.out _ HB2.out).2.trans (below_row (Nat.le_refl _))⟩
    · subst r1
      have h5 : ((n2 : Int) != (p0.length : Int)) = false := by rw [r2]; simp
      obtain ⟨m0, m1, m2, m3, m4, m5, m6, m7, rfl⟩ := eight_is r3
      simp only [List.getD_cons_zero, List.getD_cons_succ] at r4
      have HKE : Hid (ke = 0) := Lib.hid (HP4.out.trans r5)
      have HKK : Hid (kk = mkK [m0, m1, m2, m3, m4, m5, m6, m7] q0) := Lib.hid (by rw [HP5.out HKE.out, r6])
      have HMK : Hid (kc (mkK [m0, m1, m2, m3, m4, m5, m6, m7] q0) = #[.int .i64 m0, .int .i64 m1, .string ⟨q0.toArray⟩, .int .i64 m2, .int .i64 m3, .int .i64 m4, .int .i64 m5, .int .i64 m6, .bool (m7 == 1)]) := Lib.hid (by unfold kc; rfl)
      generalize mkK [m0, m1, m2, m3, m4, m5, m6, m7] q0 = km at HKK HMK
      have H67 : Hid ((m7 != 0) = false ∨ ((m7 != 0) = true ∧ (m7 != 1) = false)) := Lib.hid (by rcases r4 with h | h <;> rw [h] <;> simp)
      clear r2 r3 r4 r5 r6 HKP HP5 HP4 HKN
      rcases H67.out with h6 | ⟨h6, h7⟩
      all_goals (
        go_enter Tryz.func58, Tryz.ntmps58
        go_upto_region 1 with fail
        rw [← HW.out]
        go_upto_region 13 with (first
          | (go_at_call 57; refine HG.out.mono ?_; rintro e w1 ⟨v1, rfl, ho1, hb1⟩; obtain ⟨a1, c1, rfl⟩ := ho1.rd.form; obtain ⟨b1, o1, rfl, hbl, hrow⟩ := RdS_cells ho1.rd (by simp); have HQ : Hid (∀ u, Below w1.heap.size w1 u → u.cell? ⟨b1, o1, none⟩ = some (.string ⟨p0.toArray⟩) ∧ u.cell? ⟨b1, o1 + 1, none⟩ = some (.string ⟨q0.toArray⟩)) := (Lib.hid (fun u hu => ⟨by rw [hu.cell (p := ⟨b1, o1, none⟩) hbl]; exact hrow 0 (by simp), by rw [hu.cell (p := ⟨b1, o1 + 1, none⟩) hbl]; exact hrow 1 (by simp)⟩)); have x0 := (HQ.out _ (Below.refl _ _)).1; have HB1 := Lib.hid (HSB.out.trans (hb1.mono HSB.out.size)); have hcv2 := conv_sb w1 p0; have HSB2 := Lib.hid (sb_below w1 p0); have HSR2 := Lib.hid (sb_rd w1 p0 (by unfold maxLen; have := HPL.out; have := HL.out; omega)); generalize Lib.bytesWorld w1 5 ⟨p0.toArray⟩ = w1s at hcv2 HSB2 HSR2; clear hrow ho1 hb1)
          | (go_at_call 49; refine (HGI.out _ _ HSR2.out).mono ?_; rintro e w2 ⟨v2, rfl, ho2, hb2⟩; obtain ⟨a2, c2, rfl⟩ := ho2.rd.form; have hB12 := HSB2.out.trans (hb2.mono HSB2.out.size); have HB2 := Lib.hid (HB1.out.trans (hB12.mono HB1.out.size)); obtain ⟨z0, z1⟩ := HQ.out _ hB12; have HO2 := Lib.hid ho2; clear ho2 hb2 x0 hB12; obtain ⟨b2, o2, rfl, hbl2, hrow2⟩ := RdI_cells HO2.out.rd (by simp); have y7 := hrow2 7 (by simp); have HROW2 := Lib.hid hrow2; simp only [List.getElem_cons_zero, List.getElem_cons_succ] at y7; clear hrow2))
        have y0' := HROW2.out 0 (by simp)
        have y1' := HROW2.out 1 (by simp)
        have y2' := HROW2.out 2 (by simp)
        have y3' := HROW2.out 3 (by simp)
        have y4' := HROW2.out 4 (by simp)
        have y5' := HROW2.out 5 (by simp)
        have y6' := HROW2.out 6 (by simp)
        have y7' := HROW2.out 7 (by simp)
        simp only [List.getElem_cons_zero, List.getElem_cons_succ] at y0' y1' y2' y3' y4' y5' y6' y7'
        rw [Nat.add_zero] at y0'
        clear y7
        try dsimp only [Act.put]
        refine tail0 29 (by kernel_rfl) (by kernel_rfl) ?_
        simp only [List.take_succ_cons, List.take_zero, List.drop_succ_cons, List.drop_zero]
        repeat (first
          | (refine q_build rfl 45 #[(0, .tmp 69), (1, .tmp 72), (2, .tmp 75), (3, .tmp 78), (4, .tmp 81), (5, .tmp 84), (6, .tmp 87), (7, .tmp 90), (8, .tmp 94)] rfl (kc km) (by rw [HMK.out]; kernel_rfl) ?_; simp only [Act.put, List.setIfInBounds_toArray, List.set_cons_zero, List.set_cons_succ])
          | go_big_quiet_step (fail))
        refine wpQuiet_nil ?_
        rintro _ ⟨nq, rfl⟩
        have HR9 : Hid ((w2.drewN nq).heap[w.heap.size]? = some (.cells (kc zK) 45 (0, 0))) := Lib.hid (HRES.out _ HB2.out).1
        go_wp2_with (refine st_key0 km zK rfl (.tmp 2) (.tmp 95) rfl w.heap.size rfl rfl _ HR9.out ?_)
        refine bodyPost_ret (results_row2 rfl _ _ w.heap.size _ rfl (run_keyrow _ _ km _ (setRow_heap _ _ _ _ _ _ HR9.out))) rfl ?_
        exact ⟨by rw [HKK.out, HKE.out]; rfl, (below_drewN nq (HRES.out _ HB2.out).2).trans (below_row (Nat.le_refl _))⟩)
end Go.Proofs.YtbpjdfnnlmblaaaGreatDoor
