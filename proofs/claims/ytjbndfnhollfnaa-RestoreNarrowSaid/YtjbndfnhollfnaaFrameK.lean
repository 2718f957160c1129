/- Tables, backups, keys and places that come in. -/
import Derived.Test.YtjbndfnhollfnaaFrame
import Derived.Test.YtjbndfnhollfnaaPlanF
import Derived.Deep.Slices
import Derived.Deep.Fields
import Derived.ChangeSame
namespace Go.Proofs.Ytjbndfnhollfnaa
open Go.ChangeShapes Go.WideShapes Go.ChangeAt Go.RowKit Go.Deep
set_option linter.unusedSimpArgs false
set_option linter.unusedVariables false
section
variable {H : Type} {enc : TypeId × Value → H} {w : World} {base : Nat} {sp : Nat → Bool} {held : Bool}
theorem fld {T t : TypeId} {fs : Array Field} {fuel : Nat} {cs : List Value} {x : DataW H × List MemPlace} (ht : Try.prog.underlying T = some (.struct fs)) (h : DataW.trod enc Try.prog w base sp held fuel T cs = some x) (i o c : Nat)
    (hf : (fs.toList.map fun f => (f.type, f.offset))[i]? = some (t, o)) (hc : Try.prog.cellsOf t = c) : ∃ n y, DataW.trod enc Try.prog w base sp held n t ((cs.drop o).take c) = some y := by
  obtain ⟨xs, n, _, _, _, hxs, hh⟩ := DataW.trod_struct ht h
  rw [List.getElem?_map] at hf
  cases hfi : fs.toList[i]? with
  | none => rw [hfi] at hf; cases hf
  | some f =>
    rw [hfi] at hf
    simp only [Option.map_some, Option.some.injEq, Prod.mk.injEq] at hf
    have hfa : fs[i]? = some f := by rw [← Array.getElem?_toList]; exact hfi
    have h1 := hh i f hfa
    rw [hf.1, hf.2, hc] at h1
    have hlt : i < xs.length := by rw [hxs]; exact (Array.getElem?_eq_some_iff.1 hfa).1
    exact ⟨n, xs[i], by rw [h1, List.getElem?_eq_getElem hlt]⟩
theorem fld_len {T : TypeId} {fs : Array Field} {fuel c : Nat} {cs : List Value} {x : DataW H × List MemPlace} (ht : Try.prog.underlying T = some (.struct fs)) (hc : Try.prog.cellsOf T = c) (h : DataW.trod enc Try.prog w base sp held fuel T cs = some x) : cs.length = c := by
  obtain ⟨xs, n, _, _, hl, _⟩ := DataW.trod_struct ht h
  rw [hl, hc]
theorem cut1 {cs : List Value} {o : Nat} {v : Value} (h : (cs.drop o).take 1 = [v]) : cs[o]? = some v := cell_of_cut h
theorem fld_int {T : TypeId} {fs : Array Field} {fuel : Nat} {cs : List Value} {x : DataW H × List MemPlace} (ht : Try.prog.underlying T = some (.struct fs)) (h : DataW.trod enc Try.prog w base sp held fuel T cs = some x) (i o : Nat)
    (hf : (fs.toList.map fun f => (f.type, f.offset))[i]? = some (3, o)) : ∃ z : Int, cs[o]? = some (.int .i64 z) ∧ (Lit.int .i64 z).wf = true := by
  obtain ⟨n, y, hy⟩ := fld ht h i o 1 hf (by kernel_rfl)
  obtain ⟨z, hz, _, hw⟩ := DataW.trod_int Try.underlying3 hy
  exact ⟨z, cut1 hz, hw⟩
theorem fld_str {T : TypeId} {fs : Array Field} {fuel : Nat} {cs : List Value} {x : DataW H × List MemPlace} (ht : Try.prog.underlying T = some (.struct fs)) (h : DataW.trod enc Try.prog w base sp held fuel T cs = some x) (i o : Nat)
    (hf : (fs.toList.map fun f => (f.type, f.offset))[i]? = some (9, o)) : ∃ l : List UInt8, cs[o]? = some (.string ⟨l.toArray⟩) ∧ l.length ≤ maxLen := by
  obtain ⟨n, y, hy⟩ := fld ht h i o 1 hf (by kernel_rfl)
  obtain ⟨s, hs, _, hl⟩ := DataW.trod_string Try.underlying9 hy
  obtain ⟨l, rfl⟩ := str_of s
  exact ⟨l, cut1 hs, hl⟩
theorem fld_bool {T : TypeId} {fs : Array Field} {fuel : Nat} {cs : List Value} {x : DataW H × List MemPlace} (ht : Try.prog.underlying T = some (.struct fs)) (h : DataW.trod enc Try.prog w base sp held fuel T cs = some x) (i o : Nat)
    (hf : (fs.toList.map fun f => (f.type, f.offset))[i]? = some (4, o)) : ∃ b : Bool, cs[o]? = some (.bool b) := by
  obtain ⟨n, y, hy⟩ := fld ht h i o 1 hf (by kernel_rfl)
  obtain ⟨b, hb, _⟩ := DataW.trod_bool Try.underlying4 hy
  exact ⟨b, cut1 hb⟩
theorem u8_of {a : Int} (h : (Lit.int .u8 a).wf = true) : ∃ c : UInt8, a = B8 c := by
  simp only [Lit.wf, Bool.and_eq_true, decide_eq_true_eq] at h
  have h1 : (0 : Int) ≤ a := h.1
  have h2 : a ≤ 255 := h.2
  refine ⟨UInt8.ofNat a.toNat, ?_⟩
  unfold B8
  rw [UInt8.toNat_ofNat_of_lt' (by show a.toNat < 256; omega)]
  omega
theorem wrap_of {a : Int} (h : (Lit.int .i64 a).wf = true) : IntKind.i64.wrap a = a := by
  have := i64_of h
  rw [IntKind.wrap_i64]
  omega
theorem choose_bytes {Q : Nat → UInt8 → Prop} (n : Nat) (h : ∀ i, i < n → ∃ c, Q i c) : ∃ d : List UInt8, d.length = n ∧ ∀ i, i < n → Q i (byteAt d i) := by
  induction n with
  | zero => exact ⟨[], rfl, fun i hi => absurd hi (by omega)⟩
  | succ n ih =>
    obtain ⟨d, hd, hq⟩ := ih (fun i hi => h i (by omega))
    obtain ⟨c, hc⟩ := h n (by omega)
    refine ⟨d ++ [c], by simp [hd], fun i hi => ?_⟩
    by_cases e : i < n
    · have : byteAt (d ++ [c]) i = byteAt d i := by unfold byteAt; rw [List.getD_eq_getElem?_getD, List.getD_eq_getElem?_getD, List.getElem?_append_left (by omega)]
      rw [this]; exact hq i e
    · obtain rfl : i = n := by omega
      have : byteAt (d ++ [c]) i = c := by unfold byteAt; rw [List.getD_eq_getElem?_getD, List.getElem?_append_right (by omega), hd]; simp
      rw [this]; exact hc
theorem dig_of {fuel : Nat} {cs : List Value} {x : DataW H × List MemPlace} (h : DataW.trod enc Try.prog w base sp held fuel 26 cs = some x) : ∃ d : List UInt8, cs = (drow d).toList := by
  obtain ⟨xs, m, _, _, hl, hxs, hh⟩ := DataW.trod_array Try.underlying26 h
  have hc : Try.prog.cellsOf 26 = 16 := by kernel_rfl
  have hu : Try.prog.cellsOf 5 = 1 := by kernel_rfl
  rw [hc] at hl
  rw [hu] at hh
  have key : ∀ i, i < 16 → ∃ c : UInt8, cs[i]? = some (.int .u8 (B8 c)) := by
    intro i hi
    have h1 := hh i hi
    rw [List.getElem?_eq_getElem (by omega : i < xs.length), Nat.mul_one] at h1
    obtain ⟨z, hz, _, hw⟩ := DataW.trod_int Try.underlying5 h1
    obtain ⟨c, rfl⟩ := u8_of hw
    exact ⟨c, cut1 hz⟩
  obtain ⟨d, hd, hq⟩ := choose_bytes 16 key
  refine ⟨d, List.ext_getElem? fun i => ?_⟩
  have e : (drow d).toList = (List.range 16).map (dcell d) := rfl
  rw [e]
  by_cases hi : i < 16
  · rw [hq i hi]; simp [hi, dcell]
  · rw [List.getElem?_eq_none (by omega), List.getElem?_eq_none (by simp; omega)]
theorem und_k : Try.prog.underlying 30 = some (.struct (Try.prog.fieldsOf 30)) := by kernel_rfl
theorem und_t : Try.prog.underlying 24 = some (.struct (Try.prog.fieldsOf 24)) := by kernel_rfl
theorem und_b : Try.prog.underlying 28 = some (.struct (Try.prog.fieldsOf 28)) := by kernel_rfl
theorem und_p : Try.prog.underlying 32 = some (.struct (Try.prog.fieldsOf 32)) := by kernel_rfl
theorem fs_k : ((Try.prog.fieldsOf 30).toList.map fun f => (f.type, f.offset)) = [(3, 0), (3, 1), (9, 2), (3, 3), (3, 4), (3, 5), (3, 6), (3, 7), (4, 8)] := by kernel_rfl
theorem fs_t : ((Try.prog.fieldsOf 24).toList.map fun f => (f.type, f.offset)) = [(3, 0), (22, 1)] := by kernel_rfl
theorem fs_b : ((Try.prog.fieldsOf 28).toList.map fun f => (f.type, f.offset)) = [(26, 0), (3, 16), (3, 17), (3, 18), (3, 19), (26, 20), (9, 36), (22, 37)] := by kernel_rfl
theorem fs_p : ((Try.prog.fieldsOf 32).toList.map fun f => (f.type, f.offset)) = [(26, 0), (26, 16), (3, 32), (3, 33)] := by kernel_rfl
theorem list9 (l : List Value) (h : l.length = 9) : ∃ c0 c1 c2 c3 c4 c5 c6 c7 c8, l = [c0, c1, c2, c3, c4, c5, c6, c7, c8] := by
  match l, h with
  | [c0, c1, c2, c3, c4, c5, c6, c7, c8], _ => exact ⟨c0, c1, c2, c3, c4, c5, c6, c7, c8, rfl⟩
theorem list2 (l : List Value) (h : l.length = 2) : ∃ c0 c1, l = [c0, c1] := by
  match l, h with
  | [c0, c1], _ => exact ⟨c0, c1, rfl⟩
theorem list38 (l : List Value) (h : l.length = 38) : ∃ c0 c1 c2 c3 c4 c5 c6 c7 c8 c9 c10 c11 c12 c13 c14 c15 c16 c17 c18 c19 c20 c21 c22 c23 c24 c25 c26 c27 c28 c29 c30 c31 c32 c33 c34 c35 c36 c37, l = [c0, c1, c2, c3, c4, c5, c6, c7, c8, c9, c10, c11, c12, c13, c14, c15, c16, c17, c18, c19, c20, c21, c22, c23, c24, c25, c26, c27, c28, c29, c30, c31, c32, c33, c34, c35, c36, c37] := by
  match l, h with
  | c0 :: c1 :: c2 :: c3 :: c4 :: c5 :: c6 :: c7 :: c8 :: c9 :: c10 :: c11 :: c12 :: c13 :: c14 :: c15 :: c16 :: c17 :: c18 :: c19 :: c20 :: c21 :: c22 :: c23 :: c24 :: c25 :: c26 :: c27 :: c28 :: c29 :: c30 :: c31 :: c32 :: c33 :: c34 :: c35 :: c36 :: c37 :: [], _ => exact ⟨c0, c1, c2, c3, c4, c5, c6, c7, c8, c9, c10, c11, c12, c13, c14, c15, c16, c17, c18, c19, c20, c21, c22, c23, c24, c25, c26, c27, c28, c29, c30, c31, c32, c33, c34, c35, c36, c37, rfl⟩
theorem list34 (l : List Value) (h : l.length = 34) : ∃ c0 c1 c2 c3 c4 c5 c6 c7 c8 c9 c10 c11 c12 c13 c14 c15 c16 c17 c18 c19 c20 c21 c22 c23 c24 c25 c26 c27 c28 c29 c30 c31 c32 c33, l = [c0, c1, c2, c3, c4, c5, c6, c7, c8, c9, c10, c11, c12, c13, c14, c15, c16, c17, c18, c19, c20, c21, c22, c23, c24, c25, c26, c27, c28, c29, c30, c31, c32, c33] := by
  match l, h with
  | c0 :: c1 :: c2 :: c3 :: c4 :: c5 :: c6 :: c7 :: c8 :: c9 :: c10 :: c11 :: c12 :: c13 :: c14 :: c15 :: c16 :: c17 :: c18 :: c19 :: c20 :: c21 :: c22 :: c23 :: c24 :: c25 :: c26 :: c27 :: c28 :: c29 :: c30 :: c31 :: c32 :: c33 :: [], _ => exact ⟨c0, c1, c2, c3, c4, c5, c6, c7, c8, c9, c10, c11, c12, c13, c14, c15, c16, c17, c18, c19, c20, c21, c22, c23, c24, c25, c26, c27, c28, c29, c30, c31, c32, c33, rfl⟩
theorem key_of {fuel : Nat} {cs : List Value} {x : DataW H × List MemPlace} (h : DataW.trod enc Try.prog w base sp held fuel 30 cs = some x) : ∃ k : K, cs = (kc k).toList ∧ k.wf := by
  have hl := fld_len und_k (c := 9) (by kernel_rfl) h
  obtain ⟨z0, e0, w0⟩ := fld_int und_k h 0 0 (by rw [fs_k]; rfl)
  obtain ⟨z1, e1, w1⟩ := fld_int und_k h 1 1 (by rw [fs_k]; rfl)
  obtain ⟨z2, e2, w2⟩ := fld_str und_k h 2 2 (by rw [fs_k]; rfl)
  obtain ⟨z3, e3, w3⟩ := fld_int und_k h 3 3 (by rw [fs_k]; rfl)
  obtain ⟨z4, e4, w4⟩ := fld_int und_k h 4 4 (by rw [fs_k]; rfl)
  obtain ⟨z5, e5, w5⟩ := fld_int und_k h 5 5 (by rw [fs_k]; rfl)
  obtain ⟨z6, e6, w6⟩ := fld_int und_k h 6 6 (by rw [fs_k]; rfl)
  obtain ⟨z7, e7, w7⟩ := fld_int und_k h 7 7 (by rw [fs_k]; rfl)
  obtain ⟨z8, e8⟩ := fld_bool und_k h 8 8 (by rw [fs_k]; rfl)
  refine ⟨⟨z0, z1, z2, z3, z4, z5, z6, z7, z8⟩, ?_, wrap_of w0, wrap_of w3⟩
  obtain ⟨c0, c1, c2, c3, c4, c5, c6, c7, c8, rfl⟩ := list9 cs hl
  simp at e0 e1 e2 e3 e4 e5 e6 e7 e8
  subst e0 e1 e2 e3 e4 e5 e6 e7 e8
  rfl
theorem choose_k {Q : Nat → K → Prop} (n : Nat) (h : ∀ i, i < n → ∃ c, Q i c) : ∃ d : List K, d.length = n ∧ ∀ i, i < n → Q i (keyAt d i) := by
  induction n with
  | zero => exact ⟨[], rfl, fun i hi => absurd hi (by omega)⟩
  | succ n ih =>
    obtain ⟨d, hd, hq⟩ := ih (fun i hi => h i (by omega))
    obtain ⟨c, hc⟩ := h n (by omega)
    refine ⟨d ++ [c], by simp [hd], fun i hi => ?_⟩
    by_cases e : i < n
    · rw [keyAt_append_left _ _ _ (by omega)]; exact hq i e
    · obtain rfl : i = d.length := by omega
      rw [keyAt_last, hd]; exact hc
theorem keys_of {fuel : Nat} {v : Value} {x : DataW H × List MemPlace} (h : DataW.trod enc Try.prog w base sp held fuel 22 [v] = some x) : ∃ l : List K, RdK w v l ∧ ∀ i, i < l.length → (keyAt l i).wf := by
  rcases open_slice Try.underlying22 h with ⟨hcs, _⟩ | ⟨a, len, cap, m, n, D, Pl, hcs, _, hl, hm, hmm, _, hi⟩
  · simp only [List.cons.injEq, and_true] at hcs
    subst hcs
    exact ⟨[], RdK.nil w, fun i hi => absurd hi (by simp)⟩
  · simp only [List.cons.injEq, and_true] at hcs
    subst hcs
    have hle : len ≤ m := by rw [hmm]; split <;> omega
    have hc : Try.prog.cellsOf 30 = 9 := by kernel_rfl
    rw [hc] at hi
    obtain ⟨l, hlen, hq⟩ := choose_k (Q := fun i k => (∀ j, j < 9 → w.cell? (a.add (i * 9 + j)) = (kc k)[j]?) ∧ k.wf) len (fun i hil => by
      obtain ⟨cs', h1, h2⟩ := hi i (by omega)
      obtain ⟨k, rfl, hwf⟩ := key_of h2
      obtain ⟨_, _, h3⟩ := World.cells?_some h1
      refine ⟨k, fun j hj => ?_, hwf⟩
      have := h3 j hj
      rw [← Go.Deep.add_add, this, Array.getElem?_toList])
    refine ⟨l, ⟨some a, cap, by rw [hlen], by omega, hm, fun h0 => ?_⟩, fun i hil => (hq i (by omega)).2⟩
    obtain ⟨b, off, spot⟩ := a
    have h1 := (hq 0 (by omega)).1 0 (by omega)
    have hk0 : (kc (keyAt l 0))[0]? = some (.int .i64 (keyAt l 0).id) := rfl
    rw [hk0] at h1
    have hspot : spot = none := by simpa [Addr.add] using World.cell?_spot h1
    subst hspot
    have hadd : ∀ i, (⟨b, off, none⟩ : Addr).add i = ⟨b, off + i, none⟩ := by intro i; unfold Addr.add; split <;> simp_all
    refine ⟨b, off, rfl, ?_, fun j hj i hi9 => ?_⟩
    · have := World.block_lt_of_cell? _ _ h1
      simpa [Addr.add] using this
    · have := (hq j (by omega)).1 i hi9
      rw [hadd, ← Nat.add_assoc] at this
      exact this
theorem table_of {fuel : Nat} {cs : List Value} {x : DataW H × List MemPlace} (h : DataW.trod enc Try.prog w base sp held fuel 24 cs = some x) : ∃ (nx : Int) (v : Value) (l : List K), cs = [.int .i64 nx, v] ∧ (Lit.int .i64 nx).wf = true ∧ RdK w v l ∧ ∀ i, i < l.length → (keyAt l i).wf := by
  have hl := fld_len und_t (c := 2) (by kernel_rfl) h
  obtain ⟨z0, e0, w0⟩ := fld_int und_t h 0 0 (by rw [fs_t]; rfl)
  obtain ⟨n, y, hy⟩ := fld und_t h 1 1 1 (by rw [fs_t]; rfl) (by kernel_rfl)
  obtain ⟨c0, c1, rfl⟩ := list2 cs hl
  obtain ⟨l, hr, hw⟩ := keys_of (v := c1) hy
  simp at e0
  subst e0
  exact ⟨z0, c1, l, rfl, w0, hr, hw⟩
theorem backup_of {fuel : Nat} {cs : List Value} {x : DataW H × List MemPlace} (h : DataW.trod enc Try.prog w base sp held fuel 28 cs = some x) : ∃ (b : BK) (v : Value) (l : List K), cs = (bc b v).toList ∧ b.mo.length ≤ maxLen ∧ RdK w v l ∧ ∀ i, i < l.length → (keyAt l i).wf := by
  have hl := fld_len und_b (c := 38) (by kernel_rfl) h
  obtain ⟨n0, y0, h0⟩ := fld und_b h 0 0 16 (by rw [fs_b]; rfl) (by kernel_rfl)
  obtain ⟨d0, f0⟩ := dig_of h0
  obtain ⟨z1, e1, w1⟩ := fld_int und_b h 1 16 (by rw [fs_b]; rfl)
  obtain ⟨z2, e2, w2⟩ := fld_int und_b h 2 17 (by rw [fs_b]; rfl)
  obtain ⟨z3, e3, w3⟩ := fld_int und_b h 3 18 (by rw [fs_b]; rfl)
  obtain ⟨z4, e4, w4⟩ := fld_int und_b h 4 19 (by rw [fs_b]; rfl)
  obtain ⟨n5, y5, h5⟩ := fld und_b h 5 20 16 (by rw [fs_b]; rfl) (by kernel_rfl)
  obtain ⟨d5, f5⟩ := dig_of h5
  obtain ⟨z6, e6, w6⟩ := fld_str und_b h 6 36 (by rw [fs_b]; rfl)
  obtain ⟨n7, y7, h7⟩ := fld und_b h 7 37 1 (by rw [fs_b]; rfl) (by kernel_rfl)
  clear h h0 h5
  obtain ⟨c0, c1, c2, c3, c4, c5, c6, c7, c8, c9, c10, c11, c12, c13, c14, c15, c16, c17, c18, c19, c20, c21, c22, c23, c24, c25, c26, c27, c28, c29, c30, c31, c32, c33, c34, c35, c36, c37, rfl⟩ := list38 cs hl
  obtain ⟨l, hr, hw⟩ := keys_of (v := c37) h7
  refine ⟨⟨d0, z1, z2, z3, z4, d5, z6⟩, c37, l, ?_, w6, hr, hw⟩
  unfold drow at f0 f5
  simp at f0 f5 e1 e2 e3 e4 e6
  obtain ⟨rfl, rfl, rfl, rfl, rfl, rfl, rfl, rfl, rfl, rfl, rfl, rfl, rfl, rfl, rfl, rfl⟩ := f0
  obtain ⟨rfl, rfl, rfl, rfl, rfl, rfl, rfl, rfl, rfl, rfl, rfl, rfl, rfl, rfl, rfl, rfl⟩ := f5
  subst e1 e2 e3 e4 e6
  unfold bc
  rfl
theorem place_of {fuel : Nat} {cs : List Value} {x : DataW H × List MemPlace} (h : DataW.trod enc Try.prog w base sp held fuel 32 cs = some x) : ∃ (p : PK), cs = (pc p).toList := by
  have hl := fld_len und_p (c := 34) (by kernel_rfl) h
  obtain ⟨n0, y0, h0⟩ := fld und_p h 0 0 16 (by rw [fs_p]; rfl) (by kernel_rfl)
  obtain ⟨d0, f0⟩ := dig_of h0
  obtain ⟨n1, y1, h1⟩ := fld und_p h 1 16 16 (by rw [fs_p]; rfl) (by kernel_rfl)
  obtain ⟨d1, f1⟩ := dig_of h1
  obtain ⟨z2, e2, w2⟩ := fld_int und_p h 2 32 (by rw [fs_p]; rfl)
  obtain ⟨z3, e3, w3⟩ := fld_int und_p h 3 33 (by rw [fs_p]; rfl)
  clear h h0 h1
  obtain ⟨c0, c1, c2, c3, c4, c5, c6, c7, c8, c9, c10, c11, c12, c13, c14, c15, c16, c17, c18, c19, c20, c21, c22, c23, c24, c25, c26, c27, c28, c29, c30, c31, c32, c33, rfl⟩ := list34 cs hl
  refine ⟨⟨d0, d1, z2, z3⟩, ?_⟩
  unfold drow at f0 f1
  simp at f0 f1 e2 e3
  obtain ⟨rfl, rfl, rfl, rfl, rfl, rfl, rfl, rfl, rfl, rfl, rfl, rfl, rfl, rfl, rfl, rfl⟩ := f0
  obtain ⟨rfl, rfl, rfl, rfl, rfl, rfl, rfl, rfl, rfl, rfl, rfl, rfl, rfl, rfl, rfl, rfl⟩ := f1
  subst e2 e3
  unfold pc
  rfl
theorem agg_of {r : Reach} {b0 : Nat} {T : TypeId} {fs : Array Field} {v : Value} (ht : Try.prog.underlying T = some (.struct fs)) (hval : Value.okWide Try.prog w r b0 T v) {d : DataW H} {ps : List MemPlace} (hd : DataW.Trod enc Try.prog w base sp held T v d ps) :
    ∃ cs : Array Value, v = .agg cs ∧ ∃ fuel, DataW.trod enc Try.prog w base sp held fuel T cs.toList = some (d, ps) := by
  obtain ⟨cs, rfl, _⟩ := okWide_struct ht hval
  obtain ⟨fuel, hf⟩ := hd
  exact ⟨cs, rfl, fuel, hf⟩
theorem toArr {cs : Array Value} {l : List Value} (h : cs.toList = l) : cs = l.toArray := by rw [← h]
theorem open_t {r : Reach} {b0 : Nat} {v : Value} {d : DataW H} {ps : List MemPlace} (hval : Value.okWide Try.prog w r b0 24 v) (hd : DataW.Trod enc Try.prog w base sp held 24 v d ps) :
    ∃ (nx : Int) (u : Value) (l : List K), v = .agg #[.int .i64 nx, u] ∧ (Lit.int .i64 nx).wf = true ∧ RdK w u l ∧ ∀ i, i < l.length → (keyAt l i).wf := by
  obtain ⟨cs, rfl, fuel, hf⟩ := agg_of und_t hval hd
  obtain ⟨nx, u, l, hcs, h1, h2, h3⟩ := table_of hf
  exact ⟨nx, u, l, by rw [toArr hcs], h1, h2, h3⟩
theorem open_bk {r : Reach} {b0 : Nat} {v : Value} {d : DataW H} {ps : List MemPlace} (hval : Value.okWide Try.prog w r b0 28 v) (hd : DataW.Trod enc Try.prog w base sp held 28 v d ps) :
    ∃ (b : BK) (u : Value) (l : List K), v = .agg (bc b u) ∧ b.mo.length ≤ maxLen ∧ RdK w u l ∧ ∀ i, i < l.length → (keyAt l i).wf := by
  obtain ⟨cs, rfl, fuel, hf⟩ := agg_of und_b hval hd
  obtain ⟨b, u, l, hcs, h1, h2, h3⟩ := backup_of hf
  exact ⟨b, u, l, by rw [toArr hcs], h1, h2, h3⟩
theorem open_k {r : Reach} {b0 : Nat} {v : Value} {d : DataW H} {ps : List MemPlace} (hval : Value.okWide Try.prog w r b0 30 v) (hd : DataW.Trod enc Try.prog w base sp held 30 v d ps) : ∃ k : K, v = kv k ∧ k.wf := by
  obtain ⟨cs, rfl, fuel, hf⟩ := agg_of und_k hval hd
  obtain ⟨k, hcs, h1⟩ := key_of hf
  exact ⟨k, by rw [toArr hcs]; rfl, h1⟩
theorem open_p {r : Reach} {b0 : Nat} {v : Value} {d : DataW H} {ps : List MemPlace} (hval : Value.okWide Try.prog w r b0 32 v) (hd : DataW.Trod enc Try.prog w base sp held 32 v d ps) : ∃ p : PK, v = .agg (pc p) := by
  obtain ⟨cs, rfl, fuel, hf⟩ := agg_of und_p hval hd
  obtain ⟨p, hcs⟩ := place_of hf
  exact ⟨p, by rw [toArr hcs]⟩
end
end Go.Proofs.Ytjbndfnhollfnaa
