/- Parts of a proof, joined: contracts of functions of the program and plain lemmas (FrameT, BakE, BakF, BakG, RowN, BakH, BakI). No condition. -/
import Derived.Test.YtbpjdfnnlmblaaaDoorMA08
import Derived.LaidMore
import Derived.LaidLaws
import Derived.Laws.CopyRow
/- Tables and backups that come in, their numbers the machine's; the table of constants as it lies when a call begins. -/
namespace Go.Proofs.YtbpjdfnnlmblaaaDoor
open Go.ChangeShapes Go.WideShapes Go.ChangeAt Go.RowKit Go.Deep
set_option linter.unusedSimpArgs false
set_option linter.unusedVariables false
set_option maxRecDepth 10000
theorem okN {a : Int} (h : (Lit.int .i64 a).wf = true) : okI a := by
  have := i64_of h
  unfold okI
  omega
theorem okN4 {a b c d : Int} (ha : (Lit.int .i64 a).wf = true) (hb : (Lit.int .i64 b).wf = true) (hc : (Lit.int .i64 c).wf = true) (hd : (Lit.int .i64 d).wf = true) : ∀ x ∈ [a, b, c, d], okI x := by
  intro x hx
  simp only [List.mem_cons, List.not_mem_nil, or_false] at hx
  rcases hx with rfl | rfl | rfl | rfl
  · exact okN ha
  · exact okN hb
  · exact okN hc
  · exact okN hd
theorem okN8 {a b c d e f g : Int} {v : List UInt8} {r : Bool} (ha : (Lit.int .i64 a).wf = true) (hb : (Lit.int .i64 b).wf = true) (hc : (Lit.int .i64 c).wf = true) (hd : (Lit.int .i64 d).wf = true) (he : (Lit.int .i64 e).wf = true) (hf : (Lit.int .i64 f).wf = true) (hg : (Lit.int .i64 g).wf = true) :
    ∀ x ∈ numsK ⟨a, b, v, c, d, e, f, g, r⟩, okI x := by
  intro x hx
  unfold numsK at hx
  simp only [List.mem_cons, List.not_mem_nil, or_false] at hx
  rcases hx with rfl | rfl | rfl | rfl | rfl | rfl | rfl | rfl
  · exact okN ha
  · exact okN hb
  · exact okN hc
  · exact okN hd
  · exact okN he
  · exact okN hf
  · exact okN hg
  · unfold rawI okI; split <;> omega
section
variable {H : Type} {enc : TypeId × Value → H} {w : World} {base : Nat} {sp : Nat → Bool} {held : Bool}
theorem digN_of {fuel : Nat} {cs : List Value} {x : DataW H × List MemPlace} (h : DataW.trod enc Tryd.prog w base sp held fuel 23 cs = some x) : ∃ d : List UInt8, cs = (drow d).toList ∧ d.length = 16 := by
  obtain ⟨xs, m, _, _, hl, hxs, hh⟩ := DataW.trod_array Tryd.underlying23 h
  have hc : Tryd.prog.cellsOf 23 = 16 := by kernel_rfl
  have hu : Tryd.prog.cellsOf 5 = 1 := by kernel_rfl
  rw [hc] at hl
  rw [hu] at hh
  have key : ∀ i, i < 16 → ∃ c : UInt8, cs[i]? = some (.int .u8 (B8 c)) := by
    intro i hi
    have h1 := hh i hi
    rw [List.getElem?_eq_getElem (by omega : i < xs.length), Nat.mul_one] at h1
    obtain ⟨z, hz, _, hw⟩ := DataW.trod_int Tryd.underlying5 h1
    obtain ⟨c, rfl⟩ := u8_of hw
    exact ⟨c, cut1 hz⟩
  obtain ⟨d, hd, hq⟩ := choose_bytes 16 key
  refine ⟨d, List.ext_getElem? fun i => ?_, hd⟩
  have e : (drow d).toList = (List.range 16).map (dcell d) := rfl
  rw [e]
  by_cases hi : i < 16
  · rw [hq i hi]; simp [hi, dcell]
  · rw [List.getElem?_eq_none (by omega), List.getElem?_eq_none (by simp; omega)]
theorem keyN_of {fuel : Nat} {cs : List Value} {x : DataW H × List MemPlace} (h : DataW.trod enc Tryd.prog w base sp held fuel 48 cs = some x) : ∃ k : K, cs = (kc k).toList ∧ ∀ x ∈ numsK k, okI x := by
  have hl := fld_len und_k (c := 9) (by kernel_rfl) h
  obtain ⟨z0, e0, w0⟩ := fld_int und_k h 0 0 (by rw [fs_k]; rfl)
  obtain ⟨z1, e1, w1⟩ := fld_int und_k h 1 1 (by rw [fs_k]; rfl)
  obtain ⟨z2, e2, w2⟩ := fld_str und_k h 2 2 (by rw [fs_k]; rfl)
  obtain ⟨z3, e3, w3⟩ := fld_int und_k h 3 3 (by rw [fs_k]; rfl)
  obtain ⟨z4, e4, w4⟩ := fld_int und_k h 4 4 (by rw [fs_k]; rfl)
  obtain ⟨z5, e5, w5⟩ := fld_int und_k h 5 5 (by rw [fs_k]; rfl)
  obtain ⟨z6, e6, w6⟩ := fld_int und_k h 6 6 (by rw [fs_k]; rfl)
  obtain ⟨z7, e7, w7⟩ := fld_int und_k h 7 7 (by rw [fs_k]; rfl)
  obtain ⟨z8, e8⟩ := fld_bool und_k h 8 8 (by rw [fs_k]; rfl)
  refine ⟨⟨z0, z1, z2, z3, z4, z5, z6, z7, z8⟩, ?_, okN8 w0 w1 w3 w4 w5 w6 w7⟩
  obtain ⟨c0, c1, c2, c3, c4, c5, c6, c7, c8, rfl⟩ := list9 cs hl
  simp at e0 e1 e2 e3 e4 e5 e6 e7 e8
  subst e0 e1 e2 e3 e4 e5 e6 e7 e8
  rfl
theorem keysN_of {fuel : Nat} {v : Value} {x : DataW H × List MemPlace} (h : DataW.trod enc Tryd.prog w base sp held fuel 24 [v] = some x) : ∃ l : List K, RdK w v l ∧ numK l := by
  rcases open_slice Tryd.underlying24 h with ⟨hcs, _⟩ | ⟨a, len, cap, m, n, D, Pl, hcs, _, hl, hm, hmm, _, hi⟩
  · simp only [List.cons.injEq, and_true] at hcs
    subst hcs
    exact ⟨[], RdK.nil w, fun i hi => absurd hi (by simp)⟩
  · simp only [List.cons.injEq, and_true] at hcs
    subst hcs
    have hle : len ≤ m := by rw [hmm]; split <;> omega
    have hc : Tryd.prog.cellsOf 48 = 9 := by kernel_rfl
    rw [hc] at hi
    obtain ⟨l, hlen, hq⟩ := choose_k (Q := fun i k => (∀ j, j < 9 → w.cell? (a.add (i * 9 + j)) = (kc k)[j]?) ∧ ∀ x ∈ numsK k, okI x) len (fun i hil => by
      obtain ⟨cs', h1, h2⟩ := hi i (by omega)
      obtain ⟨k, rfl, hwf⟩ := keyN_of h2
      obtain ⟨_, _, h3⟩ := World.cells?_some h1
      refine ⟨k, fun j hj => ?_, hwf⟩
      have := h3 j hj
      rw [← Go.Deep.add_add, this, Array.getElem?_toList])
    refine ⟨l, ⟨some a, cap, by rw [hlen], by omega, hm, fun h0 => ?_⟩, fun i hil => (hq i (by omega)).2⟩
    obtain ⟨b, off, spot⟩ := a
    have h1 := (hq 0 (by omega)).1 0 (by omega)
    have hk0 : (kc (keyAt l 0))[0]? = some (.int .i64 (keyAt l 0).id) := rfl
    rw [hk0] at h1
    have hspot : spot = none := by simpa [Addr.add] using World.cell?_spot h1
    subst hspot
    have hadd : ∀ i, (⟨b, off, none⟩ : Addr).add i = ⟨b, off + i, none⟩ := by intro i; unfold Addr.add; split <;> simp_all
    refine ⟨b, off, rfl, ?_, fun j hj i hi9 => ?_⟩
    · have := World.block_lt_of_cell? _ _ h1
      simpa [Addr.add] using this
    · have := (hq j (by omega)).1 i hi9
      rw [hadd, ← Nat.add_assoc] at this
      exact this
theorem tableN_of {fuel : Nat} {cs : List Value} {x : DataW H × List MemPlace} (h : DataW.trod enc Tryd.prog w base sp held fuel 37 cs = some x) : ∃ (nx : Int) (v : Value) (l : List K), cs = [.int .i64 nx, v] ∧ (Lit.int .i64 nx).wf = true ∧ RdK w v l ∧ numK l := by
  have hl := fld_len und_t (c := 2) (by kernel_rfl) h
  obtain ⟨z0, e0, w0⟩ := fld_int und_t h 0 0 (by rw [fs_t]; rfl)
  obtain ⟨n, y, hy⟩ := fld und_t h 1 1 1 (by rw [fs_t]; rfl) (by kernel_rfl)
  obtain ⟨c0, c1, rfl⟩ := list2 cs hl
  obtain ⟨l, hr, hw⟩ := keysN_of (v := c1) hy
  simp at e0
  subst e0
  exact ⟨z0, c1, l, rfl, w0, hr, hw⟩
theorem backupN_of {fuel : Nat} {cs : List Value} {x : DataW H × List MemPlace} (h : DataW.trod enc Tryd.prog w base sp held fuel 26 cs = some x) : ∃ (b : BK) (v : Value) (l : List K), cs = (bc b v).toList ∧ b.mach ∧ RdK w v l ∧ numK l := by
  have hl := fld_len und_b (c := 38) (by kernel_rfl) h
  obtain ⟨n0, y0, h0⟩ := fld und_b h 0 0 16 (by rw [fs_b]; rfl) (by kernel_rfl)
  obtain ⟨d0, f0, g0⟩ := digN_of h0
  obtain ⟨z1, e1, w1⟩ := fld_int und_b h 1 16 (by rw [fs_b]; rfl)
  obtain ⟨z2, e2, w2⟩ := fld_int und_b h 2 17 (by rw [fs_b]; rfl)
  obtain ⟨z3, e3, w3⟩ := fld_int und_b h 3 18 (by rw [fs_b]; rfl)
  obtain ⟨z4, e4, w4⟩ := fld_int und_b h 4 19 (by rw [fs_b]; rfl)
  obtain ⟨n5, y5, h5⟩ := fld und_b h 5 20 16 (by rw [fs_b]; rfl) (by kernel_rfl)
  obtain ⟨d5, f5, g5⟩ := digN_of h5
  obtain ⟨z6, e6, w6⟩ := fld_str und_b h 6 36 (by rw [fs_b]; rfl)
  obtain ⟨n7, y7, h7⟩ := fld und_b h 7 37 1 (by rw [fs_b]; rfl) (by kernel_rfl)
  clear h h0 h5
  obtain ⟨c0, c1, c2, c3, c4, c5, c6, c7, c8, c9, c10, c11, c12, c13, c14, c15, c16, c17, c18, c19, c20, c21, c22, c23, c24, c25, c26, c27, c28, c29, c30, c31, c32, c33, c34, c35, c36, c37, rfl⟩ := list38 cs hl
  obtain ⟨l, hr, hw⟩ := keysN_of (v := c37) h7
  refine ⟨⟨d0, z1, z2, z3, z4, d5, z6⟩, c37, l, ?_, ⟨g0, g5, okN4 w1 w2 w3 w4, w6⟩, hr, hw⟩
  unfold drow at f0 f5
  simp at f0 f5 e1 e2 e3 e4 e6
  obtain ⟨rfl, rfl, rfl, rfl, rfl, rfl, rfl, rfl, rfl, rfl, rfl, rfl, rfl, rfl, rfl, rfl⟩ := f0
  obtain ⟨rfl, rfl, rfl, rfl, rfl, rfl, rfl, rfl, rfl, rfl, rfl, rfl, rfl, rfl, rfl, rfl⟩ := f5
  subst e1 e2 e3 e4 e6
  unfold bc
  rfl
theorem topen_t {r : Reach} {b0 : Nat} {v : Value} {d : DataW H} {ps : List MemPlace} (hval : Value.okWide Tryd.prog w r b0 37 v) (hd : DataW.Trod enc Tryd.prog w base sp held 37 v d ps) :
    ∃ (nx : Int) (u : Value) (l : List K), v = .agg #[.int .i64 nx, u] ∧ (Lit.int .i64 nx).wf = true ∧ RdK w u l ∧ numK l := by
  obtain ⟨cs, rfl, fuel, hf⟩ := agg_of und_t hval hd
  obtain ⟨nx, u, l, hcs, h1, h2, h3⟩ := tableN_of hf
  exact ⟨nx, u, l, by rw [toArr hcs], h1, h2, h3⟩
theorem topen_bk {r : Reach} {b0 : Nat} {v : Value} {d : DataW H} {ps : List MemPlace} (hval : Value.okWide Tryd.prog w r b0 26 v) (hd : DataW.Trod enc Tryd.prog w base sp held 26 v d ps) :
    ∃ (b : BK) (u : Value) (l : List K), v = .agg (bc b u) ∧ b.mach ∧ RdK w u l ∧ numK l := by
  obtain ⟨cs, rfl, fuel, hf⟩ := agg_of und_b hval hd
  obtain ⟨b, u, l, hcs, h1, h2, h3⟩ := backupN_of hf
  exact ⟨b, u, l, by rw [toArr hcs], h1, h2, h3⟩
theorem tab_of {fuel : Nat} {cs : List Value} {x : DataW H × List MemPlace} (h : DataW.trod enc Tryd.prog w base sp held fuel 166 cs = some x) (hx : x.1 = .agg (KK.map fun k => .lit (.int .u32 (W32 k)))) : cs = (row KK).toList := by
  obtain ⟨xs, m, _, hxx, hl, hxs, hi⟩ := DataW.trod_array Tryd.underlying166 h
  have hc : Tryd.prog.cellsOf 166 = 64 := by kernel_rfl
  have hu : Tryd.prog.cellsOf 99 = 1 := by kernel_rfl
  rw [hc] at hl
  rw [hu] at hi
  have e1 : xs.map (·.1) = KK.map fun k => .lit (.int .u32 (W32 k)) := by
    rw [hxx] at hx
    simpa using hx
  have hkl : KK.length = 64 := KK_len
  apply List.ext_getElem?
  intro i
  have hr : (row KK).toList = KK.map fun k => Value.int .u32 (W32 k) := by simp [row]
  rw [hr]
  by_cases hlt : i < 64
  · have h1 := hi i hlt
    rw [List.getElem?_eq_getElem (by omega : i < xs.length)] at h1
    obtain ⟨z, hz, he, _⟩ := DataW.trod_int Tryd.underlying99 h1
    have e2 : (xs.map (·.1))[i]? = (KK.map fun k => (DataW.lit (.int .u32 (W32 k)) : DataW H))[i]? := by rw [e1]
    rw [List.getElem?_map, List.getElem?_eq_getElem (by omega : i < xs.length), List.getElem?_map, List.getElem?_eq_getElem (by omega : i < KK.length), Option.map_some, Option.map_some, he] at e2
    simp only [Option.some.injEq, DataW.lit.injEq, Lit.int.injEq, true_and] at e2
    rw [List.getElem?_map, List.getElem?_eq_getElem (by omega : i < KK.length), Option.map_some, ← e2]
    have h2 : ((cs.drop (i * 1)).take 1)[0]? = some (.int .u32 z) := by rw [hz]; rfl
    rw [List.getElem?_take, if_pos (by omega), List.getElem?_drop, Nat.mul_one, Nat.add_zero] at h2
    exact h2
  · rw [List.getElem?_eq_none (by omega), List.getElem?_eq_none (by rw [List.length_map]; omega)]
end
theorem laidH {H : Type} : (Rows.laid_custody_hash_constants : DataW H) = .agg (KK.map fun k => .lit (.int .u32 (W32 k))) := by kernel_rfl
abbrev laidL : List (String × DataW Unit) := [("custody/hash.constants", Rows.laid_custody_hash_constants)]
theorem gH : Tryd.prog.globalNamed "custody/hash.constants" = some 0 := by kernel_rfl
theorem tH : (Tryd.prog.globals[0]?).map (·.type) = some 166 := by kernel_rfl
theorem row_arr (cs : Array Value) (h : cs.toList = (row KK).toList) : cs = row KK := Array.ext' h
theorem tabs_at {W : World} (h : laidMetH Tryd.prog laidL W) : KAt W := by
  have h' : laidMet Tryd.prog laidL W := h
  obtain ⟨ps, ⟨g, t, cs, fuel, p, q, hg, ht, hvar, hd, _, hps⟩, _, hr⟩ := h'
  obtain rfl := Option.some.inj (gH.symm.trans hg)
  obtain rfl := Option.some.inj (tH.symm.trans ht)
  have e0 := row_arr cs (tab_of hd laidH)
  have hz0 : cs.size = 63 + 1 := by rw [e0, row_size, KK_len]
  have hm0 : MemPlace.cell 0 0 ∈ ps := by
    rw [hps, hz0]
    simp [MemPlace.row]
  obtain ⟨⟨c, t, hb⟩, _⟩ := hr 0 0 hm0
  simp only [World.var?, hg, Option.bind_some, hb, Option.some.injEq] at hvar
  exact ⟨t, by rw [← e0, ← hvar]; exact hb⟩
theorem door_met (os : Os) (args : Array Value) : laidMetH Tryd.prog laidL ((World.doorLaid Tryd.prog 132 os).forCall (fun _ _ => 0) ⟨#[], args, []⟩).memory :=
  laidMet_of_run' 8 (by kernel_rfl) (by kernel_rfl)
end Go.Proofs.YtbpjdfnnlmblaaaDoor
/- The reader of a backup: check, read, whole, digest. -/
namespace Go.Proofs.YtbpjdfnnlmblaaaDoor
open Go.RowKit Go.Shelf
set_option linter.unusedSimpArgs false
set_option linter.unusedVariables false
/-- what follows the reader in its block: nothing, or the header of a reader of blobs -/
def tlc : Option (List UInt8) → List Value
  | none => []
  | some h => [.string ⟨h.toArray⟩]
/-- the cells of a reader -/
def rc (v : Value) (e : Int) (tl : Option (List UInt8)) : Array Value := (v :: .int .i64 e :: tlc tl).toArray
theorem rc_0 (v : Value) (e : Int) (tl : Option (List UInt8)) : (rc v e tl)[0]? = some v := rfl
theorem rc_1 (v : Value) (e : Int) (tl : Option (List UInt8)) : (rc v e tl)[1]? = some (.int .i64 e) := rfl
theorem rc_set0 (v v' : Value) (e : Int) (tl : Option (List UInt8)) : (rc v e tl).setIfInBounds 0 v' = rc v' e tl := by unfold rc; simp
theorem rc_set1 (v : Value) (e e' : Int) (tl : Option (List UInt8)) : (rc v e tl).setIfInBounds 1 (.int .i64 e') = rc v e' tl := by unfold rc; simp
/-- a reader in memory: what is left, the error -/
def RS (w : World) (g : Nat) (T : TypeId) (tl : Option (List UInt8)) (rest : List UInt8) (e : Int) : Prop :=
  ∃ v, w.heap[g]? = some (.cells (rc v e tl) T (0, 0)) ∧ RdE eB w v rest
theorem RS.lt {w : World} {g : Nat} {T : TypeId} {tl : Option (List UInt8)} {rest : List UInt8} {e : Int} (h : RS w g T tl rest e) : g < w.heap.size := by
  obtain ⟨v, h1, _⟩ := h
  exact (Array.getElem?_eq_some_iff.1 h1).1
theorem RS.on {w w' : World} {g : Nat} {T : TypeId} {tl : Option (List UInt8)} {rest : List UInt8} {e : Int} (h : RS w g T tl rest e) (hb : Below w.heap.size w w') : RS w' g T tl rest e := by
  obtain ⟨v, h1, h2⟩ := h
  exact ⟨v, by rw [hb.block _ (Array.getElem?_eq_some_iff.1 h1).1]; exact h1, h2.on hb⟩
/-- no byte lies in a reader's block -/
theorem rc_noB {a : Option Addr} {n c : Nat} {e : Int} {tl : Option (List UInt8)} (j : Nat) (x : UInt8) : (rc (.slice a n c) e tl)[j]? ≠ some (.int .u8 (B8 x)) := by
  intro h
  unfold rc at h
  rw [List.getElem?_toArray] at h
  have hm := List.mem_of_getElem? h
  cases tl <;> simp [tlc] at hm
theorem rc_noS {a : Option Addr} {n c : Nat} {e : Int} (j : Nat) (x : List UInt8) : (rc (.slice a n c) e none)[j]? ≠ some (.string ⟨x.toArray⟩) := by
  intro h
  unfold rc at h
  rw [List.getElem?_toArray] at h
  have hm := List.mem_of_getElem? h
  simp [tlc] at hm
/-- a list stays readable where a block without such cells is written -/
theorem RdE.grownK {α : Type} {E : El α} (hE : E.OK) {w w' : World} {v : Value} {l : List α} {g : Nat} {cs : Array Value} {T : TypeId} {fr : Nat × Nat} (h : RdE E w v l) (hg : w.grownBy w' (some g)) (hrow : w.heap[g]? = some (.cells cs T fr))
    (hno : ∀ x ∈ l, ∀ (j : Nat) (u : Value), (E.cf x)[0]? = some u → cs[j]? ≠ some u) : RdE E w' v l := by
  obtain ⟨a, cap, rfl, h1, h2, h3⟩ := h
  refine ⟨a, cap, rfl, h1, h2, fun h0 => ?_⟩
  obtain ⟨b, off, rfl, hlt, hc⟩ := h3 h0
  have hne : b ≠ g := by
    intro e
    subst e
    have h4 := El.flat_at hE l 0 0 h0 hE.pos
    have h5 : 0 < (E.cf l[0]).length := by rw [hE.len]; exact hE.pos
    rw [List.getElem?_eq_getElem h5] at h4
    have h6 := hc _ _ h4
    rw [cell_of_row _ _ _ _ _ _ hrow] at h6
    exact hno l[0] (List.getElem_mem h0) _ _ (List.getElem?_eq_getElem h5) h6
  exact ⟨b, off, rfl, Nat.lt_of_lt_of_le hlt hg.size, fun j u hu => by
    rw [World.cell?_of_block (a := ⟨b, off + j, none⟩) (hg.block b hlt (fun e => hne (Option.some.inj e)))]
    exact hc j u hu⟩
theorem grown_trans {w w1 w2 : World} {g : Nat} (h1 : w.grownBy w1 (some g)) (h2 : w1.grownBy w2 (some g)) : w.grownBy w2 (some g) :=
  ⟨h2.os.trans h1.os, h2.tape.trans h1.tape, h2.output.trans h1.output, Nat.le_trans h1.size h2.size, fun k hk hne => (h2.block k (Nat.lt_of_lt_of_le hk h1.size) hne).trans (h1.block k hk hne)⟩
theorem grownB {w w1 : World} (g : Nat) (h : Below w.heap.size w w1) : w.grownBy w1 (some g) := ⟨h.os, h.tape, h.output, h.size, fun k hk _ => h.block k hk⟩
theorem below_grown {w w1 : World} {g B : Nat} (h : w.grownBy w1 (some g)) (hB : B ≤ g) (hs : g < w.heap.size) : Below B w w1 := ⟨h.os, h.tape, h.output, h.size, fun k hk => h.block k (by omega) (fun e => by cases e; omega)⟩
theorem grown_setRow (w : World) (g : Nat) (cs : Array Value) : w.grownBy (w.setRow g cs) (some g) :=
  ⟨rfl, rfl, rfl, (below_row (B := g) (Nat.le_refl _)).size, fun k _ hne => setRow_else _ _ _ _ (fun e => hne (by rw [e]))⟩
theorem setRow_size (w : World) (g : Nat) (cs : Array Value) : (w.setRow g cs).heap.size = w.heap.size := by unfold World.setRow; simp
/-- the reader's row is written -/
theorem RS.write {w : World} {g : Nat} {T : TypeId} {tl : Option (List UInt8)} {v : Value} {e : Int} {rest rest' : List UInt8} (h1 : w.heap[g]? = some (.cells (rc v e tl) T (0, 0))) (h2 : RdE eB w v rest) (v' : Value) (e' : Int) (h3 : RdE eB w v' rest') :
    RS (w.setRow g (rc v' e' tl)) g T tl rest' e' := by
  refine ⟨v', setRow_heap _ _ _ _ _ _ h1, ?_⟩
  refine h3.grownK eB_ok (grown_setRow _ _ _) h1 ?_
  intro x _ j u hu
  obtain ⟨a, c, rfl, _⟩ := h2
  simp at hu
  subst hu
  exact rc_noB j x
attribute [local irreducible] Calls rc
set_option maxRecDepth 100000 in
set_option maxHeartbeats 2000000 in
theorem check_x (g : Nat) (T : TypeId) (tl : Option (List UInt8)) (v : Value) (e : Int) (ok : Bool) (e2 : Int) (w : World) (h1 : w.heap[g]? = some (.cells (rc v e tl) T (0, 0))) :
    Calls Tryd.prog 36 #[.pointer (some ⟨g, 0, none⟩), .bool ok, .int .i64 e2] w fun en w' => en = .returned (.bool (decide ((if e = 0 ∧ ok = false then e2 else e) = 0))) ∧ w' = if e = 0 ∧ ok = false then w.setRow g (rc v e2 tl) else w := by
  have c1 : w.cell? ⟨g, 1, none⟩ = some (.int .i64 e) := by rw [cell_of_row _ _ _ _ _ _ h1]; exact rc_1 v e tl
  have f1 := frozen_of_row _ _ 1 _ _ h1
  have H1 := Lib.hid h1
  by_cases he : e = 0
  · subst he
    cases ok with
    | true =>
      have hif : (if (0 : Int) = 0 ∧ true = false then e2 else 0) = 0 := by simp
      have hif2 : (if (0 : Int) = 0 ∧ true = false then w.setRow g (rc v e2 tl) else w) = w := by simp
      rw [hif, hif2]
      clear h1 hif hif2
      go_enter Tryd.func36, Tryd.ntmps36
      go_wp2
      go_ret
      exact ⟨rfl, rfl⟩
    | false =>
      have hif : (if (0 : Int) = 0 ∧ false = false then e2 else 0) = e2 := by simp
      have hif2 : (if (0 : Int) = 0 ∧ false = false then w.setRow g (rc v e2 tl) else w) = w.setRow g (rc v e2 tl) := by simp
      rw [hif, hif2]
      have HR : Hid (w.setCell ⟨g, 1, none⟩ (.int .i64 e2) = w.setRow g (rc v e2 tl)) := Lib.hid (by rw [setCell_rowC _ _ _ _ _ _ _ h1, rc_set1])
      have c2 : (w.setRow g (rc v e2 tl)).cell? ⟨g, 1, none⟩ = some (.int .i64 e2) := by rw [cell_of_row _ _ _ _ _ _ (setRow_heap _ _ _ _ _ _ h1)]; exact rc_1 v e2 tl
      rw [← HR.out] at c2
      clear h1 hif hif2
      by_cases h20 : e2 = 0
      · subst h20
        go_enter Tryd.func36, Tryd.ntmps36
        go_wp2
        go_ret
        rw [HR.out]
        exact ⟨rfl, rfl⟩
      · have i1 : (e2 == 0) = false := by simpa using h20
        have HD : Hid (decide (e2 = 0) = false) := Lib.hid (decide_eq_false h20)
        go_enter Tryd.func36, Tryd.ntmps36
        go_wp2
        go_ret
        rw [HR.out]
        exact ⟨by rw [HD.out]; rfl, rfl⟩
  · have hif : (if e = 0 ∧ ok = false then e2 else e) = e := by rw [if_neg (fun h => he h.1)]
    have hif2 : (if e = 0 ∧ ok = false then w.setRow g (rc v e2 tl) else w) = w := by rw [if_neg (fun h => he h.1)]
    rw [hif, hif2]
    have i1 : (e == 0) = false := by simpa using he
    have HD : Hid (decide (e = 0) = false) := Lib.hid (decide_eq_false he)
    clear h1 hif hif2
    go_enter Tryd.func36, Tryd.ntmps36
    go_wp2
    go_ret
    exact ⟨by rw [HD.out]; rfl, rfl⟩
theorem check_c (g : Nat) (T : TypeId) (tl : Option (List UInt8)) (rest : List UInt8) (e : Int) (ok : Bool) (e2 : Int) (w : World) (h : RS w g T tl rest e) :
    Calls Tryd.prog 36 #[.pointer (some ⟨g, 0, none⟩), .bool ok, .int .i64 e2] w fun en w' => en = .returned (.bool (decide ((if e = 0 ∧ ok = false then e2 else e) = 0))) ∧ RS w' g T tl rest (if e = 0 ∧ ok = false then e2 else e) ∧ w.grownBy w' (some g) ∧ w'.heap.size = w.heap.size := by
  obtain ⟨v, h1, h2⟩ := h
  refine (check_x g T tl v e ok e2 w h1).mono ?_
  rintro en w' ⟨rfl, rfl⟩
  by_cases hc : e = 0 ∧ ok = false
  · simp only [if_pos hc]
    exact ⟨trivial, RS.write h1 h2 _ _ h2, grown_setRow _ _ _, setRow_size _ _ _⟩
  · simp only [if_neg hc]
    exact ⟨trivial, ⟨v, h1, h2⟩, ⟨rfl, rfl, rfl, Nat.le_refl _, fun _ _ _ => rfl⟩, trivial⟩
end Go.Proofs.YtbpjdfnnlmblaaaDoor
/- A digest is read from bytes. -/
namespace Go.Proofs.YtbpjdfnnlmblaaaDoor
open Go.RowKit Go.Shelf
set_option linter.unusedSimpArgs false
set_option linter.unusedVariables false
def z16 : List UInt8 := List.replicate 16 0
/-- a digest at the beginning of bytes -/
def decD (b : List UInt8) : List UInt8 × Nat × Int := if b.length < 16 then (z16, 0, 5) else (b.take 16, 16, 0)
theorem results_row3 {fn : Func} {p t u : Tmp} {ty : TypeId} (h : fn.results = #[.cell p ty, .tmp t, .tmp u]) (tmps : Array Value) (w : World) (g : Nat) (x : Value)
    (hp : tmps.getD p undef = .pointer (some ⟨g, 0, none⟩)) (hld : (loadVar ty ⟨g, 0, none⟩).run Tryd.prog w = .ok x w) :
    (results fn tmps).run Tryd.prog w = .ok (.tuple #[x, tmps.getD t undef, tmps.getD u undef]) w := by
  have hp' : tmps[p]?.getD undef = .pointer (some ⟨g, 0, none⟩) := by simpa using hp
  simp [results, h, hp', asAddr, hld]
theorem results_row2 {fn : Func} {p t : Tmp} {ty : TypeId} (h : fn.results = #[.cell p ty, .tmp t]) (tmps : Array Value) (w : World) (g : Nat) (x : Value)
    (hp : tmps.getD p undef = .pointer (some ⟨g, 0, none⟩)) (hld : (loadVar ty ⟨g, 0, none⟩).run Tryd.prog w = .ok x w) :
    (results fn tmps).run Tryd.prog w = .ok (.tuple #[x, tmps.getD t undef]) w := by
  have hp' : tmps[p]?.getD undef = .pointer (some ⟨g, 0, none⟩) := by simpa using hp
  simp [results, h, hp', asAddr, hld]
theorem drow_size (d : List UInt8) : (drow d).size = 16 := rfl
theorem drow_one (d : List UInt8) : (drow d).all (·.oneCell') = true := by
  have h1 : ∀ d i, (dcell d i).oneCell' = true := fun _ _ => rfl
  unfold drow
  simp [h1]
theorem drow_at (d : List UInt8) (j : Nat) (u : Value) (h : (drow d).toList[j]? = some u) : j < 16 ∧ u = dcell d j := by
  have e : drow d = ((List.range 16).map (dcell d)).toArray := rfl
  rw [e] at h
  simp at h
  obtain ⟨k, hk, rfl⟩ := h
  rw [List.getElem?_eq_some_iff] at hk
  obtain ⟨h1, h2⟩ := hk
  simp at h1 h2
  exact ⟨h1, by rw [h2]⟩
theorem zero_dig' : (Tryd.prog.info? 23).map (·.zero) = some (some (.agg (drow z16))) := by kernel_rfl
theorem zero_dig (w : World) : (zeroValue 23).run Tryd.prog w = .ok (.agg (drow z16)) w := by
  have h := zero_dig'
  generalize drow z16 = L at h ⊢
  cases hq : Tryd.prog.info? 23 with
  | none => rw [hq] at h; cases h
  | some i =>
    rw [hq] at h
    simp at h
    simp [zeroValue, typeInfo, hq, h]
theorem run_dig (w : World) (g : Nat) (d : List UInt8) (T : TypeId) (hg : w.heap[g]? = some (.cells (drow d) T (0, 0))) : (loadVar 23 ⟨g, 0, none⟩).run Tryd.prog w = .ok (.agg (drow d)) w :=
  run_loadVar_row w g T 23 (drow d) (0, 0) _ hg Tryd.underlying23 rfl (by rw [drow_size]; exact info_d)
/-- a digest is stored whole -/
theorem st_dig {ops : Array Oper} {rest : List Oper} {o : Oper} {a : Act} {w : World} {Q : Exit → Act → World → Prop} (d : List UInt8) (hgd : o.guard = none) (x y : Operand) (ho : o.op = .store 23 x y)
    (g : Nat) (hx : a.eval x = .pointer (some ⟨g, 0, none⟩)) (hy : a.eval y = .agg (drow d)) (T : TypeId) (old : Array Value) (hg : w.heap[g]? = some (.cells old T (0, 0))) (hold : old.size = 16)
    (h : wpList Tryd.prog ops Q rest (a.put o.dst undef) (w.setRow g (drow d))) : wpList Tryd.prog ops Q (o :: rest) a w :=
  wpList_store_row hgd _ x y ho g (drow d) hx hy T old hg (by rw [drow_size]; exact info_d) (by rw [drow_size, hold]) (drow_one d) h
theorem rd_range {w : World} {bb off cap : Nat} {b : List UInt8} (hv : RdE eB w (.slice (some ⟨bb, off, none⟩) b.length cap) b) (hb : b.length = 16) : w.rangeAt bb off (drow b).toList := by
  obtain ⟨b2, off2, e, _, hc⟩ := RdB_cells hv (by omega)
  cases e
  intro j u hu
  obtain ⟨h1, rfl⟩ := drow_at b j u hu
  exact hc j (by omega)
theorem dcell_take (b : List UInt8) (i : Nat) (h : i < 16) : dcell (b.take 16) i = dcell b i := by
  unfold dcell byteAt
  rw [List.getD_eq_getElem?_getD, List.getD_eq_getElem?_getD, List.getElem?_take, if_pos h]
theorem arr_dig (p : Addr) (c : Nat) (w : World) : (Instr.arrayAt 23 (.slice (some p) 16 c)).run Tryd.prog w = .ok (.pointer (some p)) w := by
  kernel_rfl
attribute [local irreducible] Calls drow
set_option maxRecDepth 100000 in
set_option maxHeartbeats 2000000 in
theorem digest_c (v : Value) (b : List UInt8) (w : World) (hv : RdE eB w v b) :
    Calls Tryd.prog 66 #[v] w fun e w' => e = .returned (.tuple #[.agg (drow (decD b).1), .int .i64 (decD b).2.1, .int .i64 (decD b).2.2]) ∧ Below w.heap.size w w' := by
  have hz := zero_dig
  have har := arr_dig
  have HR0 : Hid ((w.alloc (.cells (drow z16) 23)).heap[w.heap.size]? = some (.cells (drow z16) 23 (0, 0))) := Lib.hid (heap_last _ _ _ rfl)
  have HB0 : Hid (Below w.heap.size w (w.alloc (.cells (drow z16) 23))) := Lib.hid ((Below.refl _ _).alloc (Nat.le_refl _) _)
  have HV := Lib.hid (hv.alloc (.cells (drow z16) 23))
  have hlen := len_b HV.out 3
  by_cases h : b.length < 16
  · have HD : Hid (decD b = (z16, 0, 5)) := Lib.hid (if_pos h)
    have i1 : (b.length : Int) < 16 := by omega
    obtain ⟨a, cap, rfl, _, _, _⟩ := hv
    clear h hlen
    go_enter Tryd.func66, Tryd.ntmps66
    go_wp2_with (first
      | (refine wpList_load_row rfl 23 (.tmp 2) rfl w.heap.size rfl _ (drow z16) (0, 0) _ HR0.out Tryd.underlying23 rfl (by rw [drow_size]; exact info_d) ?_)
      | (refine st_dig z16 rfl (.tmp 2) (.tmp 8) rfl w.heap.size rfl rfl _ _ HR0.out (drow_size _) ?_))
    refine bodyPost_ret (results_row3 rfl _ _ w.heap.size _ rfl (run_dig _ _ z16 _ (heap_last _ _ _ rfl))) rfl ?_
    exact ⟨by rw [HD.out]; rfl, (Below.refl _ _).alloc (Nat.le_refl _) _⟩
  · have HD : Hid (decD b = (b.take 16, 16, 0)) := Lib.hid (if_neg h)
    have i1 : ¬ (b.length : Int) < 16 := by omega
    have hl16 : (b.take 16).length = 16 := by rw [List.length_take]; omega
    obtain ⟨vs, hs, hrs⟩ := slice_h HV.out 16 (by omega)
    have hrs2 := hrs
    obtain ⟨a2, cap2, rfl, hc2, _, hx2⟩ := hrs
    obtain ⟨bb, off, rfl, hbl, _⟩ := hx2 (by omega)
    have HRG := Lib.hid (rd_range hrs2 hl16)
    rw [hl16] at hs hc2
    have hs' : (Instr.slice 62 v none (some (.int .i64 16)) none).run Tryd.prog (w.alloc (.cells (drow z16) 23)) = .ok (.slice (some ⟨bb, off, none⟩) 16 cap2) (w.alloc (.cells (drow z16) 23)) := hs
    obtain ⟨a, cap, hvf, _, _, _⟩ := hv
    have HDD : Hid (drow (b.take 16) = drow (decD b).1) := Lib.hid (by rw [HD.out])
    rw [hvf] at hs' hlen ⊢
    clear h hlen hs hrs2 hl16 hx2
    go_enter Tryd.func66, Tryd.ntmps66
    go_wp2_with (first
      | (refine ld_dig (b.take 16) bb off HRG.out rfl (.tmp 11) rfl rfl ?_)
      | (refine st_dig (b.take 16) rfl (.tmp 2) (.tmp 12) rfl w.heap.size rfl rfl _ _ HR0.out (drow_size _) ?_))
    refine bodyPost_ret (results_row3 rfl _ _ w.heap.size _ rfl (run_dig _ _ (b.take 16) _ (heap_last _ _ _ rfl))) rfl ?_
    exact ⟨by rw [HD.out]; rfl, (Below.refl _ _).alloc (Nat.le_refl _) _⟩
end Go.Proofs.YtbpjdfnnlmblaaaDoor
/- Values are read by a reader (printed by bakG.py). -/
namespace Go.Proofs.YtbpjdfnnlmblaaaDoor
open Go.RowKit Go.Shelf
set_option linter.unusedSimpArgs false
set_option linter.unusedVariables false
section
variable {α : Type}
def rdV (z : α) (dec : List UInt8 → α × Nat × Int) (rest : List UInt8) (e : Int) : α := if e ≠ 0 ∨ (dec rest).2.2 ≠ 0 then z else (dec rest).1
def rdR (dec : List UInt8 → α × Nat × Int) (rest : List UInt8) (e : Int) : List UInt8 := if e ≠ 0 ∨ (dec rest).2.2 ≠ 0 then rest else rest.drop (dec rest).2.1
def rdX (dec : List UInt8 → α × Nat × Int) (rest : List UInt8) (e : Int) : Int := if e ≠ 0 then e else (dec rest).2.2
theorem rd_parts (z : α) (dec : List UInt8 → α × Nat × Int) (rest : List UInt8) (e : Int) : (e ≠ 0 ∧ rdV z dec rest e = z ∧ rdR dec rest e = rest ∧ rdX dec rest e = e) ∨
    (e = 0 ∧ (dec rest).2.2 ≠ 0 ∧ rdV z dec rest e = z ∧ rdR dec rest e = rest ∧ rdX dec rest e = (dec rest).2.2) ∨
    (e = 0 ∧ (dec rest).2.2 = 0 ∧ rdV z dec rest e = (dec rest).1 ∧ rdR dec rest e = rest.drop (dec rest).2.1 ∧ rdX dec rest e = 0) := by
  unfold rdV rdR rdX
  by_cases h : e = 0
  · by_cases h2 : (dec rest).2.2 = 0
    · exact .inr (.inr ⟨h, h2, by simp [h, h2], by simp [h, h2], by simp [h, h2]⟩)
    · exact .inr (.inl ⟨h, h2, by simp [h, h2], by simp [h, h2], by simp [h]⟩)
  · exact .inl ⟨h, by simp [h], by simp [h], by simp [h]⟩
/-- .. all that is left -/
def whX (dec : List UInt8 → α × Nat × Int) (rest : List UInt8) (e : Int) : Int := if rdX dec rest e = 0 ∧ (decide ((rdR dec rest e).length = 0)) = false then 6 else rdX dec rest e
theorem rdR_len (dec : List UInt8 → α × Nat × Int) (rest : List UInt8) (e : Int) : (rdR dec rest e).length ≤ rest.length := by
  unfold rdR
  split
  · exact Nat.le_refl _
  · rw [List.length_drop]; omega
end
theorem RS.len {w : World} {g : Nat} {T : TypeId} {tl : Option (List UInt8)} {rest : List UInt8} {e : Int} (h : RS w g T tl rest e) : rest.length ≤ maxLen := by
  obtain ⟨v, _, h2⟩ := h
  exact h2.len
theorem RS.noB {w : World} {g : Nat} {T : TypeId} {tl : Option (List UInt8)} {rest : List UInt8} {e : Int} (h : RS w g T tl rest e) {w' : World} (hg : w.grownBy w' (some g)) {v : Value} {b : List UInt8} (hv : RdE eB w v b) : RdE eB w' v b := by
  obtain ⟨v2, h1, a, c, rfl, _⟩ := h
  refine hv.grownK eB_ok hg h1 ?_
  intro x _ j u hu
  simp at hu
  subst hu
  exact rc_noB j x
theorem grown_refl (w : World) (r : Option Nat) : w.grownBy w r := ⟨rfl, rfl, rfl, Nat.le_refl _, fun _ _ _ => rfl⟩
theorem slice_la {w : World} {v : Value} {b : List UInt8} (hv : RdE eB w v b) (i : Nat) (hi : i ≤ b.length) :
    ∃ v', (∀ wx, (Instr.slice 62 v (some (.int .i64 i)) none none).run Tryd.prog wx = .ok v' wx) ∧ (∀ u, RdE eB u v b → RdE eB u v' (b.drop i)) ∧ ∃ a n c, v' = .slice a n c := by
  obtain ⟨a, cap, rfl, h1, h2, h3⟩ := hv
  refine ⟨sliced a i b.length cap 1, ?_, ?_, _, _, _, rfl⟩
  · intro wx
    rw [run_slice_l wx _ a _ cap under_b .i64 _ (by omega) (by omega), size_b]
    simp [Result.andThen]
  · intro u hu
    have h := sliced_b hu i b.length hi (Nat.le_refl _)
    rwa [List.take_of_length_le (by rw [List.length_drop]; exact Nat.le_refl _)] at h
/-- a part of bytes, wherever they lie -/
def Part (v : Value) (rest : List UInt8) (v' : Value) (rest' : List UInt8) : Prop := ∀ u, RdE eB u v rest → RdE eB u v' rest'
/-- a reader's cells in memory -/
def RV (w : World) (g : Nat) (T : TypeId) (tl : Option (List UInt8)) (v : Value) (e : Int) : Prop := w.heap[g]? = some (.cells (rc v e tl) T (0, 0))
theorem RV.lt {w : World} {g : Nat} {T : TypeId} {tl : Option (List UInt8)} {v : Value} {e : Int} (h : RV w g T tl v e) : g < w.heap.size := (Array.getElem?_eq_some_iff.1 h).1
theorem RV.on {w w' : World} {g : Nat} {T : TypeId} {tl : Option (List UInt8)} {v : Value} {e : Int} (h : RV w g T tl v e) (hb : Below w.heap.size w w') : RV w' g T tl v e := by
  unfold RV
  rw [hb.block _ h.lt]
  exact h
/-- bytes stay where a reader's row is written -/
theorem RV.noB {w : World} {g : Nat} {T : TypeId} {tl : Option (List UInt8)} {v : Value} {rest : List UInt8} {e : Int} (h : RV w g T tl v e) (h2 : RdE eB w v rest) {w' : World} (hg : w.grownBy w' (some g)) {x : Value} {b : List UInt8} (hv : RdE eB w x b) : RdE eB w' x b :=
  RS.noB ⟨v, h, h2⟩ hg hv
theorem check_rv {w w' : World} {g : Nat} {T : TypeId} {tl : Option (List UInt8)} {v : Value} {e e2 : Int} {ok : Bool} (h : RV w g T tl v e) (hw : w' = if e = 0 ∧ ok = false then w.setRow g (rc v e2 tl) else w) : RV w' g T tl v (if e = 0 ∧ ok = false then e2 else e) := by
  rw [hw]
  split
  · exact setRow_heap _ _ _ _ _ _ h
  · exact h
theorem check_gr {w w' : World} {g : Nat} {tl : Option (List UInt8)} {v : Value} {e e2 : Int} {ok : Bool} (hw : w' = if e = 0 ∧ ok = false then w.setRow g (rc v e2 tl) else w) : w.grownBy w' (some g) := by
  rw [hw]
  split
  · exact grown_setRow _ _ _
  · exact grown_refl _ _
attribute [local irreducible] Calls rc drow

set_option maxRecDepth 100000 in
set_option maxHeartbeats 2000000 in
theorem readS_c (g : Nat) (T : TypeId) (tl : Option (List UInt8)) (v : Value) (rest : List UInt8) (e : Int) (w : World) (h1 : RV w g T tl v e) (h2 : RdE eB w v rest) (hl : rest.length ≤ 900000) :
    Calls Tryd.prog 63 #[.pointer (some ⟨g, 0, none⟩), .func (.func 64) #[] #[]] w fun en w' => ∃ x v', en = .returned x ∧ x = .string ⟨(rdV [] decS rest e).toArray⟩ ∧ RV w' g T tl v' (rdX decS rest e) ∧ Part v rest v' (rdR decS rest e) ∧ w.grownBy w' (some g) := by
  have H1 := Lib.hid h1
  have H2 := Lib.hid h2
  have HL := Lib.hid hl
  have HLT := Lib.hid h1.lt
  have c0 : w.cell? ⟨g, 0, none⟩ = some v := by rw [cell_of_row _ _ _ _ _ _ h1]; exact rc_0 v e tl
  have c1 : w.cell? ⟨g, 1, none⟩ = some (.int .i64 e) := by rw [cell_of_row _ _ _ _ _ _ h1]; exact rc_1 v e tl
  have HGET := Lib.hid (getBytes_c v rest w h2)
  obtain ⟨ad, cap, hvf, _, _, _⟩ := h2
  have HVF := Lib.hid hvf
  clear hvf
  rcases rd_parts [] decS rest e with ⟨p1, p2, p3, p4⟩ | ⟨p1, p2, p3, p4, p5⟩ | ⟨p1, p2, p3, p4, p5⟩
  · have HP2 := Lib.hid p2
    have HP3 := Lib.hid p3
    have HP4 := Lib.hid p4
    have i1 : (e != 0) = true := by simpa using p1
    clear p1 p2 p3 p4 h1 hl
    go_enter Tryd.func63, Tryd.ntmps63
    go_wp2
    go_ret
    exact ⟨_, v, rfl, by rw [HP2.out]; exact rfl, by rw [HP4.out]; exact H1.out, by rw [HP3.out]; exact fun _ h => h, grown_refl _ _⟩
  · subst p1
    have HP3 := Lib.hid p3
    have HP4 := Lib.hid p4
    have HP5 := Lib.hid p5
    generalize decS rest = d at HGET p2 HP5
    obtain ⟨xs, u, er⟩ := d
    simp only at p2 HGET HP5
    have i1 : (er == 0) = false := by simpa using p2
    have HP2 := Lib.hid p2
    clear p2 p3 p4 p5 h1 hl
    go_enter Tryd.func63, Tryd.ntmps63
    go_wp2_with (first
      | (go_at_call 64; refine HGET.out.mono ?_; rintro e1 w1 ⟨rfl, hw1⟩; have HB1 : Hid (Below w.heap.size w w1) := (Lib.hid (by rw [hw1]; exact Below.refl _ _)); clear hw1; simp only [strV])
      | (go_at_call 36; refine (check_x g T tl v 0 false er _ (H1.out.on HB1.out)).mono ?_; rw [if_pos ⟨rfl, rfl⟩, if_pos ⟨rfl, rfl⟩, decide_eq_false HP2.out]; rintro e2 w2 ⟨rfl, hw2⟩; have HR2 : Hid (RV w2 g T tl v er) := (Lib.hid (by rw [hw2]; exact setRow_heap _ _ _ _ _ _ (H1.out.on HB1.out))); have HG2 : Hid (w.grownBy w2 (some g)) := (Lib.hid (by rw [hw2]; exact grown_trans (grownB g HB1.out) (grown_setRow _ _ _))); clear hw2))
    go_ret
    exact ⟨_, v, rfl, by rw [HP3.out]; exact rfl, by rw [HP5.out]; exact HR2.out, by rw [HP4.out]; exact fun _ h => h, HG2.out⟩
  · subst p1
    have HP3 := Lib.hid p3
    have HP4 := Lib.hid p4
    have HP5 := Lib.hid p5
    have HUS := Lib.hid (codecS.used rest p2).1
    generalize decS rest = d at HGET p2 HP3 HP4 HUS
    obtain ⟨xs, u, er⟩ := d
    simp only at p2 HGET HP3 HP4 HUS
    subst p2
    clear p3 p4 p5 h1 hl
    go_enter Tryd.func63, Tryd.ntmps63
    go_upto_region 6 with (first
      | (go_at_call 64; refine HGET.out.mono ?_; rintro e1 w1 ⟨rfl, hw1⟩; have HB1 : Hid (Below w.heap.size w w1) := (Lib.hid (by rw [hw1]; exact Below.refl _ _)); clear hw1; simp only [strV])
      | (go_at_call 36; refine (check_x g T tl v 0 true 0 _ (H1.out.on HB1.out)).mono ?_; rw [if_neg (fun h => by cases h.2), if_neg (fun h => by cases h.2), decide_eq_true rfl]; rintro e2 w2 ⟨rfl, hw2⟩; rw [hw2]; clear hw2))
    have HK1 : Hid (RV w1 g T tl v 0) := Lib.hid (H1.out.on HB1.out)
    have d0 : w1.cell? ⟨g, 0, none⟩ = some v := by rw [cell_of_row _ _ _ _ _ _ HK1.out]; exact rc_0 v 0 tl
    have f0 := frozen_of_row _ _ 0 _ _ HK1.out
    rw [HVF.out] at d0
    obtain ⟨vs, hs, hp, a3, n3, c3, rfl⟩ := slice_la H2.out u HUS.out
    rw [HVF.out] at hs
    have HPT := Lib.hid hp
    have HW3 : Hid (w1.setCell ⟨g, 0, none⟩ (.slice a3 n3 c3) = w1.setRow g (rc (.slice a3 n3 c3) 0 tl)) := Lib.hid (by rw [setCell_rowC _ _ _ _ _ _ _ HK1.out, rc_set0])
    clear hp
    go_wp2
    go_ret
    rw [HW3.out]
    refine ⟨_, .slice a3 n3 c3, rfl, by rw [HP3.out]; exact rfl, by rw [HP5.out]; exact setRow_heap _ _ _ _ _ _ HK1.out, by rw [HP4.out]; exact HPT.out, grown_trans (grownB g HB1.out) (grown_setRow _ _ _)⟩

set_option maxRecDepth 100000 in
set_option maxHeartbeats 2000000 in
theorem wholeS_c (g : Nat) (T : TypeId) (tl : Option (List UInt8)) (v : Value) (rest : List UInt8) (e : Int) (w : World) (h1 : RV w g T tl v e) (h2 : RdE eB w v rest) (hl : rest.length ≤ 900000) :
    Calls Tryd.prog 69 #[.pointer (some ⟨g, 0, none⟩), .func (.func 64) #[] #[]] w fun en w' => ∃ x v', en = .returned x ∧ x = .string ⟨(rdV [] decS rest e).toArray⟩ ∧ RV w' g T tl v' (whX decS rest e) ∧ Part v rest v' (rdR decS rest e) ∧ w.grownBy w' (some g) := by
  have HLT := Lib.hid h1.lt
  have H1 := Lib.hid h1
  have H2 := Lib.hid h2
  have HCALL := Lib.hid (readS_c g T tl v rest e w h1 h2 hl)
  have HWX : Hid (whX decS rest e = if rdX decS rest e = 0 ∧ (decide ((rdR decS rest e).length = 0)) = false then 6 else rdX decS rest e) := Lib.hid rfl
  generalize rdR decS rest e = rr at HWX HCALL ⊢
  generalize rdX decS rest e = ex at HWX HCALL
  generalize rdV [] decS rest e = rv at HCALL ⊢
  clear h1 h2
  go_enter Tryd.func69, Tryd.ntmps69
  go_upto_region 2 with (go_at_call 63; refine HCALL.out.mono ?_; rintro e1 w1 ⟨_, v1, rfl, rfl, hr1, hp1, hg1⟩; have HR1 := Lib.hid hr1; have HPT1 := Lib.hid hp1; have HG1 := Lib.hid hg1; clear hr1 hg1 hp1)
  have d0 : w1.cell? ⟨g, 0, none⟩ = some v1 := by rw [cell_of_row _ _ _ _ _ _ HR1.out]; exact rc_0 v1 ex tl
  have HRD1 := Lib.hid (HPT1.out w1 (H1.out.noB H2.out HG1.out H2.out))
  obtain ⟨a2, c2, rfl, _, _, _⟩ := HRD1.out
  have HN : Hid ((((rr.length : Int) == 0) = decide (rr.length = 0))) := Lib.hid (by by_cases h0 : rr.length = 0 <;> simp [h0])
  go_wp2_with (go_at_call 36; rw [HN.out]; refine (check_x g T tl _ ex (decide (rr.length = 0)) 6 _ HR1.out).mono ?_; rw [← HWX.out]; rintro e2 w2 ⟨rfl, hw2⟩; have HR2 : Hid (RV w2 g T tl _ _) := (Lib.hid (check_rv HR1.out hw2)); have HG12 := Lib.hid (check_gr hw2); have HG2 := Lib.hid (grown_trans HG1.out HG12.out); clear hw2)
  go_ret
  exact ⟨_, _, rfl, rfl, by rw [HWX.out]; exact HR2.out, HPT1.out, HG2.out⟩

set_option maxRecDepth 100000 in
set_option maxHeartbeats 2000000 in
theorem readI_c (g : Nat) (T : TypeId) (tl : Option (List UInt8)) (v : Value) (rest : List UInt8) (e : Int) (w : World) (h1 : RV w g T tl v e) (h2 : RdE eB w v rest) (hl : rest.length ≤ 900000) :
    Calls Tryd.prog 67 #[.pointer (some ⟨g, 0, none⟩), .func (.func 68) #[] #[]] w fun en w' => ∃ x v', en = .returned x ∧ OwnE eI w' w.heap.size x (rdV [] decIs rest e) ∧ RV w' g T tl v' (rdX decIs rest e) ∧ Part v rest v' (rdR decIs rest e) ∧ w.grownBy w' (some g) := by
  have H1 := Lib.hid h1
  have H2 := Lib.hid h2
  have HL := Lib.hid hl
  have HLT := Lib.hid h1.lt
  have c0 : w.cell? ⟨g, 0, none⟩ = some v := by rw [cell_of_row _ _ _ _ _ _ h1]; exact rc_0 v e tl
  have c1 : w.cell? ⟨g, 1, none⟩ = some (.int .i64 e) := by rw [cell_of_row _ _ _ _ _ _ h1]; exact rc_1 v e tl
  have HGET := Lib.hid (getInts_c v rest w h2 hl)
  obtain ⟨ad, cap, hvf, _, _, _⟩ := h2
  have HVF := Lib.hid hvf
  clear hvf
  rcases rd_parts [] decIs rest e with ⟨p1, p2, p3, p4⟩ | ⟨p1, p2, p3, p4, p5⟩ | ⟨p1, p2, p3, p4, p5⟩
  · have HP2 := Lib.hid p2
    have HP3 := Lib.hid p3
    have HP4 := Lib.hid p4
    have i1 : (e != 0) = true := by simpa using p1
    clear p1 p2 p3 p4 h1 hl
    go_enter Tryd.func67, Tryd.ntmps67
    go_wp2
    go_ret
    exact ⟨_, v, rfl, by rw [HP2.out]; exact OwnE.nil _ _, by rw [HP4.out]; exact H1.out, by rw [HP3.out]; exact fun _ h => h, grown_refl _ _⟩
  · subst p1
    have HP3 := Lib.hid p3
    have HP4 := Lib.hid p4
    have HP5 := Lib.hid p5
    generalize decIs rest = d at HGET p2 HP5
    obtain ⟨xs, u, er⟩ := d
    simp only at p2 HGET HP5
    have i1 : (er == 0) = false := by simpa using p2
    have HP2 := Lib.hid p2
    clear p2 p3 p4 p5 h1 hl
    go_enter Tryd.func67, Tryd.ntmps67
    go_wp2_with (first
      | (go_at_call 68; refine HGET.out.mono ?_; rintro e1 w1 ⟨x1, rfl, ho1, hb1⟩; have HO1 := Lib.hid ho1; have HB1 := Lib.hid hb1; obtain ⟨xa, xc, rfl, _, _, _⟩ := ho1.rd; clear ho1 hb1)
      | (go_at_call 36; refine (check_x g T tl v 0 false er _ (H1.out.on HB1.out)).mono ?_; rw [if_pos ⟨rfl, rfl⟩, if_pos ⟨rfl, rfl⟩, decide_eq_false HP2.out]; rintro e2 w2 ⟨rfl, hw2⟩; have HR2 : Hid (RV w2 g T tl v er) := (Lib.hid (by rw [hw2]; exact setRow_heap _ _ _ _ _ _ (H1.out.on HB1.out))); have HG2 : Hid (w.grownBy w2 (some g)) := (Lib.hid (by rw [hw2]; exact grown_trans (grownB g HB1.out) (grown_setRow _ _ _))); clear hw2))
    go_ret
    exact ⟨_, v, rfl, by rw [HP3.out]; exact OwnE.nil _ _, by rw [HP5.out]; exact HR2.out, by rw [HP4.out]; exact fun _ h => h, HG2.out⟩
  · subst p1
    have HP3 := Lib.hid p3
    have HP4 := Lib.hid p4
    have HP5 := Lib.hid p5
    have HUS := Lib.hid (codecIs.used rest p2).1
    generalize decIs rest = d at HGET p2 HP3 HP4 HUS
    obtain ⟨xs, u, er⟩ := d
    simp only at p2 HGET HP3 HP4 HUS
    subst p2
    clear p3 p4 p5 h1 hl
    go_enter Tryd.func67, Tryd.ntmps67
    go_upto_region 6 with (first
      | (go_at_call 68; refine HGET.out.mono ?_; rintro e1 w1 ⟨x1, rfl, ho1, hb1⟩; have HO1 := Lib.hid ho1; have HB1 := Lib.hid hb1; obtain ⟨xa, xc, rfl, _, _, _⟩ := ho1.rd; clear ho1 hb1)
      | (go_at_call 36; refine (check_x g T tl v 0 true 0 _ (H1.out.on HB1.out)).mono ?_; rw [if_neg (fun h => by cases h.2), if_neg (fun h => by cases h.2), decide_eq_true rfl]; rintro e2 w2 ⟨rfl, hw2⟩; rw [hw2]; clear hw2))
    have HK1 : Hid (RV w1 g T tl v 0) := Lib.hid (H1.out.on HB1.out)
    have d0 : w1.cell? ⟨g, 0, none⟩ = some v := by rw [cell_of_row _ _ _ _ _ _ HK1.out]; exact rc_0 v 0 tl
    have f0 := frozen_of_row _ _ 0 _ _ HK1.out
    rw [HVF.out] at d0
    obtain ⟨vs, hs, hp, a3, n3, c3, rfl⟩ := slice_la H2.out u HUS.out
    rw [HVF.out] at hs
    have HPT := Lib.hid hp
    have HW3 : Hid (w1.setCell ⟨g, 0, none⟩ (.slice a3 n3 c3) = w1.setRow g (rc (.slice a3 n3 c3) 0 tl)) := Lib.hid (by rw [setCell_rowC _ _ _ _ _ _ _ HK1.out, rc_set0])
    clear hp
    go_wp2
    go_ret
    rw [HW3.out]
    refine ⟨_, .slice a3 n3 c3, rfl, by rw [HP3.out]; exact HO1.out.grown (grown_setRow _ _ _) (fun g2 hg2 => by cases hg2; exact HO1.out.neOld HLT.out), by rw [HP5.out]; exact setRow_heap _ _ _ _ _ _ HK1.out, by rw [HP4.out]; exact HPT.out, grown_trans (grownB g HB1.out) (grown_setRow _ _ _)⟩

set_option maxRecDepth 100000 in
set_option maxHeartbeats 2000000 in
theorem wholeI_c (g : Nat) (T : TypeId) (tl : Option (List UInt8)) (v : Value) (rest : List UInt8) (e : Int) (w : World) (h1 : RV w g T tl v e) (h2 : RdE eB w v rest) (hl : rest.length ≤ 900000) :
    Calls Tryd.prog 72 #[.pointer (some ⟨g, 0, none⟩), .func (.func 68) #[] #[]] w fun en w' => ∃ x v', en = .returned x ∧ OwnE eI w' w.heap.size x (rdV [] decIs rest e) ∧ RV w' g T tl v' (whX decIs rest e) ∧ Part v rest v' (rdR decIs rest e) ∧ w.grownBy w' (some g) := by
  have HLT := Lib.hid h1.lt
  have H1 := Lib.hid h1
  have H2 := Lib.hid h2
  have HCALL := Lib.hid (readI_c g T tl v rest e w h1 h2 hl)
  have HWX : Hid (whX decIs rest e = if rdX decIs rest e = 0 ∧ (decide ((rdR decIs rest e).length = 0)) = false then 6 else rdX decIs rest e) := Lib.hid rfl
  generalize rdR decIs rest e = rr at HWX HCALL ⊢
  generalize rdX decIs rest e = ex at HWX HCALL
  generalize rdV [] decIs rest e = rv at HCALL ⊢
  clear h1 h2
  go_enter Tryd.func72, Tryd.ntmps72
  go_upto_region 2 with (go_at_call 67; refine HCALL.out.mono ?_; rintro e1 w1 ⟨x1, v1, rfl, ho1, hr1, hp1, hg1⟩; have HO1 := Lib.hid ho1; have HR1 := Lib.hid hr1; have HPT1 := Lib.hid hp1; have HG1 := Lib.hid hg1; obtain ⟨xa, xc, rfl, _, _, _⟩ := ho1.rd; clear ho1 hr1 hg1 hp1)
  have d0 : w1.cell? ⟨g, 0, none⟩ = some v1 := by rw [cell_of_row _ _ _ _ _ _ HR1.out]; exact rc_0 v1 ex tl
  have HRD1 := Lib.hid (HPT1.out w1 (H1.out.noB H2.out HG1.out H2.out))
  obtain ⟨a2, c2, rfl, _, _, _⟩ := HRD1.out
  have HN : Hid ((((rr.length : Int) == 0) = decide (rr.length = 0))) := Lib.hid (by by_cases h0 : rr.length = 0 <;> simp [h0])
  go_wp2_with (go_at_call 36; rw [HN.out]; refine (check_x g T tl _ ex (decide (rr.length = 0)) 6 _ HR1.out).mono ?_; rw [← HWX.out]; rintro e2 w2 ⟨rfl, hw2⟩; have HR2 : Hid (RV w2 g T tl _ _) := (Lib.hid (check_rv HR1.out hw2)); have HG12 := Lib.hid (check_gr hw2); have HG2 := Lib.hid (grown_trans HG1.out HG12.out); clear hw2)
  go_ret
  exact ⟨_, _, rfl, HO1.out.grown HG12.out (fun g2 hg2 => by cases hg2; exact HO1.out.neOld HLT.out), by rw [HWX.out]; exact HR2.out, HPT1.out, HG2.out⟩

set_option maxRecDepth 100000 in
set_option maxHeartbeats 2000000 in
theorem readL_c (g : Nat) (T : TypeId) (tl : Option (List UInt8)) (v : Value) (rest : List UInt8) (e : Int) (w : World) (h1 : RV w g T tl v e) (h2 : RdE eB w v rest) (hl : rest.length ≤ 900000) :
    Calls Tryd.prog 70 #[.pointer (some ⟨g, 0, none⟩), .func (.func 34) #[] #[]] w fun en w' => ∃ x v', en = .returned x ∧ OwnE eS w' w.heap.size x (rdV [] decSs rest e) ∧ RV w' g T tl v' (rdX decSs rest e) ∧ Part v rest v' (rdR decSs rest e) ∧ w.grownBy w' (some g) := by
  have H1 := Lib.hid h1
  have H2 := Lib.hid h2
  have HL := Lib.hid hl
  have HLT := Lib.hid h1.lt
  have c0 : w.cell? ⟨g, 0, none⟩ = some v := by rw [cell_of_row _ _ _ _ _ _ h1]; exact rc_0 v e tl
  have c1 : w.cell? ⟨g, 1, none⟩ = some (.int .i64 e) := by rw [cell_of_row _ _ _ _ _ _ h1]; exact rc_1 v e tl
  have HGET := Lib.hid (getStrings_c v rest w h2 hl)
  obtain ⟨ad, cap, hvf, _, _, _⟩ := h2
  have HVF := Lib.hid hvf
  clear hvf
  rcases rd_parts [] decSs rest e with ⟨p1, p2, p3, p4⟩ | ⟨p1, p2, p3, p4, p5⟩ | ⟨p1, p2, p3, p4, p5⟩
  · have HP2 := Lib.hid p2
    have HP3 := Lib.hid p3
    have HP4 := Lib.hid p4
    have i1 : (e != 0) = true := by simpa using p1
    clear p1 p2 p3 p4 h1 hl
    go_enter Tryd.func70, Tryd.ntmps70
    go_wp2
    go_ret
    exact ⟨_, v, rfl, by rw [HP2.out]; exact OwnE.nil _ _, by rw [HP4.out]; exact H1.out, by rw [HP3.out]; exact fun _ h => h, grown_refl _ _⟩
  · subst p1
    have HP3 := Lib.hid p3
    have HP4 := Lib.hid p4
    have HP5 := Lib.hid p5
    generalize decSs rest = d at HGET p2 HP5
    obtain ⟨xs, u, er⟩ := d
    simp only at p2 HGET HP5
    have i1 : (er == 0) = false := by simpa using p2
    have HP2 := Lib.hid p2
    clear p2 p3 p4 p5 h1 hl
    go_enter Tryd.func70, Tryd.ntmps70
    go_wp2_with (first
      | (go_at_call 34; refine HGET.out.mono ?_; rintro e1 w1 ⟨x1, rfl, ho1, hb1⟩; have HO1 := Lib.hid ho1; have HB1 := Lib.hid hb1; obtain ⟨xa, xc, rfl, _, _, _⟩ := ho1.rd; clear ho1 hb1)
      | (go_at_call 36; refine (check_x g T tl v 0 false er _ (H1.out.on HB1.out)).mono ?_; rw [if_pos ⟨rfl, rfl⟩, if_pos ⟨rfl, rfl⟩, decide_eq_false HP2.out]; rintro e2 w2 ⟨rfl, hw2⟩; have HR2 : Hid (RV w2 g T tl v er) := (Lib.hid (by rw [hw2]; exact setRow_heap _ _ _ _ _ _ (H1.out.on HB1.out))); have HG2 : Hid (w.grownBy w2 (some g)) := (Lib.hid (by rw [hw2]; exact grown_trans (grownB g HB1.out) (grown_setRow _ _ _))); clear hw2))
    go_ret
    exact ⟨_, v, rfl, by rw [HP3.out]; exact OwnE.nil _ _, by rw [HP5.out]; exact HR2.out, by rw [HP4.out]; exact fun _ h => h, HG2.out⟩
  · subst p1
    have HP3 := Lib.hid p3
    have HP4 := Lib.hid p4
    have HP5 := Lib.hid p5
    have HUS := Lib.hid (codecSs.used rest p2).1
    generalize decSs rest = d at HGET p2 HP3 HP4 HUS
    obtain ⟨xs, u, er⟩ := d
    simp only at p2 HGET HP3 HP4 HUS
    subst p2
    clear p3 p4 p5 h1 hl
    go_enter Tryd.func70, Tryd.ntmps70
    go_upto_region 6 with (first
      | (go_at_call 34; refine HGET.out.mono ?_; rintro e1 w1 ⟨x1, rfl, ho1, hb1⟩; have HO1 := Lib.hid ho1; have HB1 := Lib.hid hb1; obtain ⟨xa, xc, rfl, _, _, _⟩ := ho1.rd; clear ho1 hb1)
      | (go_at_call 36; refine (check_x g T tl v 0 true 0 _ (H1.out.on HB1.out)).mono ?_; rw [if_neg (fun h => by cases h.2), if_neg (fun h => by cases h.2), decide_eq_true rfl]; rintro e2 w2 ⟨rfl, hw2⟩; rw [hw2]; clear hw2))
    have HK1 : Hid (RV w1 g T tl v 0) := Lib.hid (H1.out.on HB1.out)
    have d0 : w1.cell? ⟨g, 0, none⟩ = some v := by rw [cell_of_row _ _ _ _ _ _ HK1.out]; exact rc_0 v 0 tl
    have f0 := frozen_of_row _ _ 0 _ _ HK1.out
    rw [HVF.out] at d0
    obtain ⟨vs, hs, hp, a3, n3, c3, rfl⟩ := slice_la H2.out u HUS.out
    rw [HVF.out] at hs
    have HPT := Lib.hid hp
    have HW3 : Hid (w1.setCell ⟨g, 0, none⟩ (.slice a3 n3 c3) = w1.setRow g (rc (.slice a3 n3 c3) 0 tl)) := Lib.hid (by rw [setCell_rowC _ _ _ _ _ _ _ HK1.out, rc_set0])
    clear hp
    go_wp2
    go_ret
    rw [HW3.out]
    refine ⟨_, .slice a3 n3 c3, rfl, by rw [HP3.out]; exact HO1.out.grown (grown_setRow _ _ _) (fun g2 hg2 => by cases hg2; exact HO1.out.neOld HLT.out), by rw [HP5.out]; exact setRow_heap _ _ _ _ _ _ HK1.out, by rw [HP4.out]; exact HPT.out, grown_trans (grownB g HB1.out) (grown_setRow _ _ _)⟩

set_option maxRecDepth 100000 in
set_option maxHeartbeats 2000000 in
theorem wholeL_c (g : Nat) (T : TypeId) (tl : Option (List UInt8)) (v : Value) (rest : List UInt8) (e : Int) (w : World) (h1 : RV w g T tl v e) (h2 : RdE eB w v rest) (hl : rest.length ≤ 900000) :
    Calls Tryd.prog 33 #[.pointer (some ⟨g, 0, none⟩), .func (.func 34) #[] #[]] w fun en w' => ∃ x v', en = .returned x ∧ OwnE eS w' w.heap.size x (rdV [] decSs rest e) ∧ RV w' g T tl v' (whX decSs rest e) ∧ Part v rest v' (rdR decSs rest e) ∧ w.grownBy w' (some g) := by
  have HLT := Lib.hid h1.lt
  have H1 := Lib.hid h1
  have H2 := Lib.hid h2
  have HCALL := Lib.hid (readL_c g T tl v rest e w h1 h2 hl)
  have HWX : Hid (whX decSs rest e = if rdX decSs rest e = 0 ∧ (decide ((rdR decSs rest e).length = 0)) = false then 6 else rdX decSs rest e) := Lib.hid rfl
  generalize rdR decSs rest e = rr at HWX HCALL ⊢
  generalize rdX decSs rest e = ex at HWX HCALL
  generalize rdV [] decSs rest e = rv at HCALL ⊢
  clear h1 h2
  go_enter Tryd.func33, Tryd.ntmps33
  go_upto_region 2 with (go_at_call 70; refine HCALL.out.mono ?_; rintro e1 w1 ⟨x1, v1, rfl, ho1, hr1, hp1, hg1⟩; have HO1 := Lib.hid ho1; have HR1 := Lib.hid hr1; have HPT1 := Lib.hid hp1; have HG1 := Lib.hid hg1; obtain ⟨xa, xc, rfl, _, _, _⟩ := ho1.rd; clear ho1 hr1 hg1 hp1)
  have d0 : w1.cell? ⟨g, 0, none⟩ = some v1 := by rw [cell_of_row _ _ _ _ _ _ HR1.out]; exact rc_0 v1 ex tl
  have HRD1 := Lib.hid (HPT1.out w1 (H1.out.noB H2.out HG1.out H2.out))
  obtain ⟨a2, c2, rfl, _, _, _⟩ := HRD1.out
  have HN : Hid ((((rr.length : Int) == 0) = decide (rr.length = 0))) := Lib.hid (by by_cases h0 : rr.length = 0 <;> simp [h0])
  go_wp2_with (go_at_call 36; rw [HN.out]; refine (check_x g T tl _ ex (decide (rr.length = 0)) 6 _ HR1.out).mono ?_; rw [← HWX.out]; rintro e2 w2 ⟨rfl, hw2⟩; have HR2 : Hid (RV w2 g T tl _ _) := (Lib.hid (check_rv HR1.out hw2)); have HG12 := Lib.hid (check_gr hw2); have HG2 := Lib.hid (grown_trans HG1.out HG12.out); clear hw2)
  go_ret
  exact ⟨_, _, rfl, HO1.out.grown HG12.out (fun g2 hg2 => by cases hg2; exact HO1.out.neOld HLT.out), by rw [HWX.out]; exact HR2.out, HPT1.out, HG2.out⟩
end Go.Proofs.YtbpjdfnnlmblaaaDoor
/- A row that was made last is written whole. -/
namespace Go.Proofs.YtbpjdfnnlmblaaaDoor
open Go.RowKit
set_option linter.unusedSimpArgs false
set_option linter.unusedVariables false
theorem setRow_new (w : World) (cs0 cs : Array Value) (T : TypeId) : (w.alloc (.cells cs0 T)).setRow w.heap.size cs = w.alloc (.cells cs T) := by
  unfold World.setRow World.alloc
  simp only [World.mk.injEq, and_true]
  apply Array.ext_getElem?
  intro j
  rw [Array.getElem?_modify]
  by_cases h : w.heap.size = j
  · subst h
    simp
  · simp only [h, if_false]
    simp only [Array.getElem?_push]
    rw [if_neg (fun e => h e.symm), if_neg (fun e => h e.symm)]
/-- a store of a whole row into the block that was made last -/
theorem st_new {ops : Array Oper} {rest : List Oper} {o : Oper} {a : Act} {w0 : World} {Q : Exit → Act → World → Prop} {cs0 : Array Value} (cs : Array Value) (T : TypeId) (hgd : o.guard = none) (x y : Operand) (ho : o.op = .store T x y)
    (n : Nat) (hx : a.eval x = .pointer (some ⟨n, 0, none⟩)) (hn : w0.heap.size = n) (hy : a.eval y = .agg cs) (hi : (Tryd.prog.info? T).map (·.size) = some cs.size) (hold : cs0.size = cs.size) (h1 : cs.all (·.oneCell') = true)
    (h : wpList Tryd.prog ops Q rest (a.put o.dst undef) (w0.alloc (.cells cs T))) : wpList Tryd.prog ops Q (o :: rest) a (w0.alloc (.cells cs0 T)) := by
  subst hn
  refine wpList_store_row hgd T x y ho w0.heap.size cs hx hy T cs0 (heap_alloc_new _ _) hi hold h1 ?_
  rw [setRow_new]
  exact h
end Go.Proofs.YtbpjdfnnlmblaaaDoor
/- A digest is read by a reader. -/
namespace Go.Proofs.YtbpjdfnnlmblaaaDoor
open Go.RowKit Go.Shelf
set_option linter.unusedSimpArgs false
set_option linter.unusedVariables false
/-- a block that the call has made is written -/
theorem grown_new {w w1 : World} {r : Option Nat} {g2 : Nat} (cs : Array Value) (h : w.grownBy w1 r) (hg : w.heap.size ≤ g2) : w.grownBy (w1.setRow g2 cs) r :=
  ⟨h.os, h.tape, h.output, by rw [setRow_size]; exact h.size, fun k hk hne => by rw [setRow_else _ _ _ _ (by omega)]; exact h.block k hk hne⟩
theorem grown_alloc {w w1 : World} {r : Option Nat} (X : Obj) (h : w.grownBy w1 r) : w.grownBy (w1.alloc X) r :=
  ⟨h.os, h.tape, h.output, by rw [World.size_alloc]; have := h.size; omega, fun k hk hne => by rw [heap_past _ _ _ (Nat.lt_of_lt_of_le hk h.size)]; exact h.block k hk hne⟩
theorem grown_then {w w1 w2 : World} {r : Option Nat} (h : w.grownBy w1 r) (h2 : Below w1.heap.size w1 w2) : w.grownBy w2 r :=
  ⟨h2.os.trans h.os, h2.tape.trans h.tape, h2.output.trans h.output, Nat.le_trans h.size h2.size, fun k hk hne => (h2.block k (Nat.lt_of_lt_of_le hk h.size)).trans (h.block k hk hne)⟩
theorem results_row1 {fn : Func} {p : Tmp} {ty : TypeId} (h : fn.results = #[.cell p ty]) (tmps : Array Value) (w : World) (g : Nat) (x : Value)
    (hp : tmps.getD p undef = .pointer (some ⟨g, 0, none⟩)) (hld : (loadVar ty ⟨g, 0, none⟩).run Tryd.prog w = .ok x w) :
    (results fn tmps).run Tryd.prog w = .ok x w := by
  have hp' : tmps[p]?.getD undef = .pointer (some ⟨g, 0, none⟩) := by simpa using hp
  simp [results, h, hp', asAddr, hld]
theorem ld_dig0 {ops : Array Oper} {rest : List Oper} {o : Oper} {a : Act} {w : World} {Q : Exit → Act → World → Prop} (d : List UInt8) (g : Nat) (T : TypeId) (hg : w.heap[g]? = some (.cells (drow d) T (0, 0)))
    (hgd : o.guard = none) (x : Operand) (ho : o.op = .load 23 x) (hx : a.eval x = .pointer (some ⟨g, 0, none⟩))
    (h : wpList Tryd.prog ops Q rest (a.put o.dst (.agg (drow d))) w) : wpList Tryd.prog ops Q (o :: rest) a w :=
  wpList_load_row hgd _ x ho g hx _ (drow d) (0, 0) _ hg Tryd.underlying23 rfl (by rw [drow_size]; exact info_d) h
theorem decD_used (b : List UInt8) (h : (decD b).2.2 = 0) : (decD b).2.1 ≤ b.length := by
  unfold decD at h ⊢
  split
  · rename_i hl
    rw [if_pos hl] at h
    cases h
  · show 16 ≤ b.length
    omega
attribute [local irreducible] Calls rc drow decD
set_option maxRecDepth 100000 in
set_option maxHeartbeats 2000000 in
theorem readD_c (g : Nat) (T : TypeId) (tl : Option (List UInt8)) (v : Value) (rest : List UInt8) (e : Int) (w : World) (h1 : RV w g T tl v e) (h2 : RdE eB w v rest) :
    Calls Tryd.prog 65 #[.pointer (some ⟨g, 0, none⟩), .func (.func 66) #[] #[]] w fun en w' => ∃ v', en = .returned (.agg (drow (rdV z16 decD rest e))) ∧ RV w' g T tl v' (rdX decD rest e) ∧ Part v rest v' (rdR decD rest e) ∧ w.grownBy w' (some g) := by
  have HLT := Lib.hid h1.lt
  have hz := zero_dig
  obtain ⟨W0, hW0⟩ : ∃ W0, W0 = w.alloc (.cells (drow z16) 23) := ⟨_, rfl⟩
  have HW := Lib.hid hW0
  have HR0 : Hid (W0.heap[w.heap.size]? = some (.cells (drow z16) 23 (0, 0))) := Lib.hid (by rw [hW0]; exact heap_last _ _ _ rfl)
  have HB0 : Hid (Below w.heap.size w W0) := Lib.hid (by rw [hW0]; exact (Below.refl _ _).alloc (Nat.le_refl _) _)
  have H1 := Lib.hid h1
  have H2 := Lib.hid h2
  have HG0 : Hid (W0.heap[g]? = some (.cells (rc v e tl) T (0, 0))) := Lib.hid (by rw [HB0.out.block _ HLT.out]; exact h1)
  have c0 : W0.cell? ⟨g, 0, none⟩ = some v := by rw [cell_of_row _ _ _ _ _ _ HG0.out]; exact rc_0 v e tl
  have c1 : W0.cell? ⟨g, 1, none⟩ = some (.int .i64 e) := by rw [cell_of_row _ _ _ _ _ _ HG0.out]; exact rc_1 v e tl
  have HGET := Lib.hid (digest_c v rest W0 (h2.on HB0.out))
  obtain ⟨ad, cap, hvf, _, _, _⟩ := h2
  rcases rd_parts z16 decD rest e with ⟨p1, p2, p3, p4⟩ | ⟨p1, p2, p3, p4, p5⟩ | ⟨p1, p2, p3, p4, p5⟩
  · have HP2 := Lib.hid p2
    have HP3 := Lib.hid p3
    have HP4 := Lib.hid p4
    have i1 : (e != 0) = true := by simpa using p1
    clear p1 p2 p3 p4 h1 hW0 hvf
    go_enter Tryd.func65, Tryd.ntmps65
    go_upto_region 1 with fail
    rw [← HW.out]
    go_wp2_with (first
      | (refine ld_dig0 z16 w.heap.size _ HR0.out rfl (.tmp 4) rfl rfl ?_)
      | (refine st_dig z16 rfl (.tmp 4) (.tmp 13) rfl w.heap.size rfl rfl _ _ HR0.out (drow_size _) ?_))
    have HG := Lib.hid (grown_new (drow z16) (grownB g HB0.out) (Nat.le_refl w.heap.size))
    refine bodyPost_ret (results_row1 rfl _ _ w.heap.size _ rfl (run_dig _ _ z16 _ (setRow_heap _ _ _ _ _ _ HR0.out))) rfl ?_
    refine ⟨v, by rw [HP2.out], ?_, by rw [HP3.out]; exact fun _ h => h, HG.out⟩
    rw [HP4.out]
    unfold RV
    rw [setRow_else _ _ _ _ (by have := HLT.out; omega)]
    exact HG0.out
  · subst p1
    have HP3 := Lib.hid p3
    have HP4 := Lib.hid p4
    have HP5 := Lib.hid p5
    generalize decD rest = d at HGET p2 HP5
    obtain ⟨xs, u, er⟩ := d
    simp only at p2 HGET HP5
    have i1 : (er == 0) = false := by simpa using p2
    have HP2 := Lib.hid p2
    clear p2 p3 p4 p5 h1 hW0 hvf
    go_enter Tryd.func65, Tryd.ntmps65
    go_upto_region 1 with fail
    rw [← HW.out]
    go_upto_region 4 with (first
      | (go_at_call 66; refine HGET.out.mono ?_; rintro e1 w1 ⟨rfl, hb1⟩; have HB1 := Lib.hid hb1; clear hb1)
      | (refine st_new (drow xs) 23 rfl (.tmp 5) (.tmp 21) rfl _ rfl rfl rfl (by rw [drow_size]; exact info_d) ((drow_size _).trans (drow_size _).symm) (drow_one xs) ?_))
    have HGX : Hid ((w1.alloc (.cells (drow xs) 23)).heap[g]? = some (.cells (rc v 0 tl) T (0, 0))) := Lib.hid (by rw [heap_past _ _ _ (Nat.lt_of_lt_of_le (Nat.lt_of_lt_of_le HLT.out HB0.out.size) HB1.out.size), HB1.out.block _ (Nat.lt_of_lt_of_le HLT.out HB0.out.size)]; exact HG0.out)
    have HZ1 : Hid (((w1.alloc (.cells (drow xs) 23)).setRow g (rc v er tl)).heap[w.heap.size]? = some (.cells (drow z16) 23 (0, 0))) := Lib.hid (by
      have hsz : w.heap.size < W0.heap.size := (Array.getElem?_eq_some_iff.1 HR0.out).1
      rw [setRow_else _ _ _ _ (by have := HLT.out; omega), heap_past _ _ _ (Nat.lt_of_lt_of_le hsz HB1.out.size), HB1.out.block _ hsz]
      exact HR0.out)
    go_wp2_with (first
      | (go_at_call 36; refine (check_x g T tl v 0 false er _ HGX.out).mono ?_; rw [if_pos ⟨rfl, rfl⟩, if_pos ⟨rfl, rfl⟩, decide_eq_false HP2.out]; rintro e2 w2 ⟨rfl, hw2⟩; rw [hw2]; clear hw2)
      | (refine ld_dig0 z16 w.heap.size _ HZ1.out rfl (.tmp 4) rfl rfl ?_)
      | (refine st_dig z16 rfl (.tmp 4) (.tmp 30) rfl w.heap.size rfl rfl _ _ HZ1.out (drow_size _) ?_))
    have HG := Lib.hid (grown_new (drow z16) (grown_trans (grown_alloc (.cells (drow xs) 23) (grown_then (grownB g HB0.out) HB1.out)) (grown_setRow _ g (rc v er tl))) (Nat.le_refl w.heap.size))
    refine bodyPost_ret (results_row1 rfl _ _ w.heap.size _ rfl (run_dig _ _ z16 _ (setRow_heap _ _ _ _ _ _ HZ1.out))) rfl ?_
    refine ⟨v, by rw [HP3.out], ?_, by rw [HP4.out]; exact fun _ h => h, HG.out⟩
    rw [HP5.out]
    unfold RV
    rw [setRow_else _ _ _ _ (by have := HLT.out; omega)]
    exact setRow_heap _ _ _ _ _ _ HGX.out
  · subst p1
    have HP3 := Lib.hid p3
    have HP4 := Lib.hid p4
    have HP5 := Lib.hid p5
    obtain ⟨vs, hs, hrs, a3, nr, c3, rfl⟩ := slice_la H2.out (decD rest).2.1 (decD_used rest p2)
    generalize decD rest = d at HGET p2 HP3 HP4 hs hrs
    obtain ⟨xs, u, er⟩ := d
    simp only at p2 HGET HP3 HP4 hs hrs
    subst p2
    have HRS3 := Lib.hid hrs
    clear hrs
    rw [hvf] at hs
    clear p3 p4 p5 h1 hW0
    have HVF := Lib.hid hvf
    clear hvf
    go_enter Tryd.func65, Tryd.ntmps65
    go_upto_region 1 with fail
    rw [← HW.out]
    go_upto_region 4 with (first
      | (go_at_call 66; refine HGET.out.mono ?_; rintro e1 w1 ⟨rfl, hb1⟩; have HB1 := Lib.hid hb1; clear hb1)
      | (refine st_new (drow xs) 23 rfl (.tmp 5) (.tmp 21) rfl _ rfl rfl rfl (by rw [drow_size]; exact info_d) ((drow_size _).trans (drow_size _).symm) (drow_one xs) ?_))
    have HGX : Hid ((w1.alloc (.cells (drow xs) 23)).heap[g]? = some (.cells (rc v 0 tl) T (0, 0))) := Lib.hid (by rw [heap_past _ _ _ (Nat.lt_of_lt_of_le (Nat.lt_of_lt_of_le HLT.out HB0.out.size) HB1.out.size), HB1.out.block _ (Nat.lt_of_lt_of_le HLT.out HB0.out.size)]; exact HG0.out)
    have HX5 : Hid ((w1.alloc (.cells (drow xs) 23)).heap[w1.heap.size]? = some (.cells (drow xs) 23 (0, 0))) := Lib.hid (heap_last _ _ _ rfl)
    have hszW : w.heap.size < W0.heap.size := (Array.getElem?_eq_some_iff.1 HR0.out).1
    have HSZW := Lib.hid hszW
    have HZX : Hid ((w1.alloc (.cells (drow xs) 23)).heap[w.heap.size]? = some (.cells (drow z16) 23 (0, 0))) := Lib.hid (by
      rw [heap_past _ _ _ (Nat.lt_of_lt_of_le hszW HB1.out.size), HB1.out.block _ hszW]
      exact HR0.out)
    have HLT1 : Hid (g < w1.heap.size) := Lib.hid (Nat.lt_of_lt_of_le (Nat.lt_of_lt_of_le HLT.out HB0.out.size) HB1.out.size)
    have HWX := Lib.hid (grown_alloc (.cells (drow xs) 23) (grown_then (grownB g HB0.out) HB1.out))
    clear hszW
    go_upto_region 6 with (go_at_call 36; refine (check_x g T tl v 0 true 0 _ HGX.out).mono ?_; rw [if_neg (fun h => by cases h.2), if_neg (fun h => by cases h.2), decide_eq_true rfl]; rintro e2 w2 ⟨rfl, hw2⟩; rw [hw2]; clear hw2)
    generalize w1.alloc (.cells (drow xs) 23) = wx at HGX HX5 HZX HWX ⊢
    have d0 : wx.cell? ⟨g, 0, none⟩ = some v := by rw [cell_of_row _ _ _ _ _ _ HGX.out]; exact rc_0 v 0 tl
    rw [HVF.out] at d0
    have f0 := frozen_of_row _ _ 0 _ _ HGX.out
    have HW3 : Hid (wx.setCell ⟨g, 0, none⟩ (.slice a3 nr c3) = wx.setRow g (rc (.slice a3 nr c3) 0 tl)) := Lib.hid (by rw [setCell_rowC _ _ _ _ _ _ _ HGX.out, rc_set0])
    go_upto_region 7 with fail
    rw [HW3.out]
    have HX6 : Hid ((wx.setRow g (rc (.slice a3 nr c3) 0 tl)).heap[w1.heap.size]? = some (.cells (drow xs) 23 (0, 0))) := Lib.hid (by rw [setRow_else _ _ _ _ (by have := HLT1.out; omega)]; exact HX5.out)
    have HZ6 : Hid ((wx.setRow g (rc (.slice a3 nr c3) 0 tl)).heap[w.heap.size]? = some (.cells (drow z16) 23 (0, 0))) := Lib.hid (by rw [setRow_else _ _ _ _ (by have := HLT.out; omega)]; exact HZX.out)
    go_wp2_with (first
      | (refine ld_dig0 xs w1.heap.size _ HX6.out rfl (.tmp 5) rfl rfl ?_)
      | (refine st_dig xs rfl (.tmp 4) (.tmp 40) rfl w.heap.size rfl rfl _ _ HZ6.out (drow_size _) ?_))
    have HG := Lib.hid (grown_new (drow xs) (grown_trans HWX.out (grown_setRow _ g (rc (.slice a3 nr c3) 0 tl))) (Nat.le_refl w.heap.size))
    refine bodyPost_ret (results_row1 rfl _ _ w.heap.size _ rfl (run_dig _ _ xs _ (setRow_heap _ _ _ _ _ _ HZ6.out))) rfl ?_
    refine ⟨.slice a3 nr c3, by rw [HP3.out], ?_, by rw [HP4.out]; exact HRS3.out, HG.out⟩
    rw [HP5.out]
    unfold RV
    rw [setRow_else _ _ _ _ (by have := HLT.out; omega)]
    exact setRow_heap _ _ _ _ _ _ HGX.out
end Go.Proofs.YtbpjdfnnlmblaaaDoor
/- A backup's row: its parts are written; the reader's box. -/
namespace Go.Proofs.YtbpjdfnnlmblaaaDoor
open Go.RowKit Go.Shelf
set_option linter.unusedSimpArgs false
set_option linter.unusedVariables false
/-- the backup without anything -/
def zB : BK := ⟨z16, 0, 0, 0, 0, z16, []⟩
attribute [local semireducible] bc
theorem bcset_16 (b : BK) (u : Value) (x : Int) : (bc b u).setIfInBounds 16 (.int .i64 x) = bc { b with ep := x } u := rfl
theorem bcset_17 (b : BK) (u : Value) (x : Int) : (bc b u).setIfInBounds 17 (.int .i64 x) = bc { b with num := x } u := rfl
theorem bcset_18 (b : BK) (u : Value) (x : Int) : (bc b u).setIfInBounds 18 (.int .i64 x) = bc { b with fw := x } u := rfl
theorem bcset_19 (b : BK) (u : Value) (x : Int) : (bc b u).setIfInBounds 19 (.int .i64 x) = bc { b with tm := x } u := rfl
theorem bcset_36 (b : BK) (u : Value) (x : List UInt8) : (bc b u).setIfInBounds 36 (.string ⟨x.toArray⟩) = bc { b with mo := x } u := rfl
theorem bcset_37 (b : BK) (u x : Value) : (bc b u).setIfInBounds 37 x = bc b x := rfl
theorem bcset_dom (b : BK) (u : Value) (d : List UInt8) : ((bc b u).toList.take (0 + 0) ++ (drow d).toList ++ (bc b u).toList.drop (0 + 0 + (drow d).toList.length)).toArray = bc { b with dom := d } u := rfl
theorem bcset_pol (b : BK) (u : Value) (d : List UInt8) : ((bc b u).toList.take (20 + 0) ++ (drow d).toList ++ (bc b u).toList.drop (20 + 0 + (drow d).toList.length)).toArray = bc { b with pol := d } u := rfl
theorem zero_bk' : (Tryd.prog.info? 26).map (·.zero) = some (some (.agg (bc zB (.slice none 0 0)))) := by kernel_rfl
theorem bcone (b : BK) (a : Option Addr) (n c : Nat) : (bc b (.slice a n c)).all (·.oneCell') = true := by
  have h1 : ∀ d i, (dcell d i).oneCell' = true := fun _ _ => rfl
  have h2 : ∀ k, (Value.int .i64 k).oneCell' = true := fun _ => rfl
  have h3 : ∀ s, (Value.string s).oneCell' = true := fun _ => rfl
  have h4 : (Value.slice a n c).oneCell' = true := rfl
  unfold bc
  simp [h1, h2, h3, h4]
attribute [local irreducible] bc
theorem zero_bk (w : World) : (zeroValue 26).run Tryd.prog w = .ok (.agg (bc zB (.slice none 0 0))) w := by
  have h := zero_bk'
  generalize bc zB (.slice none 0 0) = L at h ⊢
  cases hq : Tryd.prog.info? 26 with
  | none => rw [hq] at h; cases h
  | some i =>
    rw [hq] at h
    simp at h
    simp [zeroValue, typeInfo, hq, h]
theorem run_stpart (w : World) (g o : Nat) (T : TypeId) (ty : TypeId) (cs cells : Array Value) (hg : w.heap[g]? = some (.cells cs T (0, 0))) (hi : (Tryd.prog.info? ty).map (·.size) = some cells.size) (h1 : cells.all (·.oneCell') = true) (hs : o + cells.size ≤ cs.size) :
    (storeVar ty ⟨g, o, none⟩ (.agg cells)).run Tryd.prog w = .ok () (w.setRow g (cs.toList.take (o + 0) ++ cells.toList ++ cs.toList.drop (o + 0 + cells.toList.length)).toArray) := by
  have := run_storeCells_at (P := Tryd.prog) g o T cells.toList 0 cs w hg (by simpa using hs) (fun v hv => (Array.all_eq_true_iff_forall_mem.1 h1) v (by simpa using hv))
  cases hq : Tryd.prog.info? ty with
  | none => simp [hq] at hi
  | some i =>
    have hs : cells.size = i.size := by simp [hq] at hi; omega
    simp only [Nat.add_zero] at this
    simp [storeVar, sizeOf, typeInfo, hq, Value.cells, hs, this]
theorem wpList_stpart {ops : Array Oper} {rest : List Oper} {o : Oper} {a : Act} {w w' : World} {Q : Exit → Act → World → Prop} (hgd : o.guard = none) (ty : TypeId) (x y : Operand) (ho : o.op = .store ty x y)
    (p : Addr) (v : Value) (hx : a.eval x = .pointer (some p)) (hy : a.eval y = v) (hr : (storeVar ty p v).run Tryd.prog w = .ok () w')
    (h : wpList Tryd.prog ops Q rest (a.put o.dst undef) w') : wpList Tryd.prog ops Q (o :: rest) a w :=
  wpList_plain hgd fun _ hK => by
    unfold Oper.wp execOp
    simp only [ho, hx, hy, Instr.storeAt, Instr.sureAddr, Sem.run_bind, Sem.run_pure, Result.andThen_ok, hr]
    exact hK _ _ h
theorem st_dom {ops : Array Oper} {rest : List Oper} {o : Oper} {a : Act} {w : World} {Q : Exit → Act → World → Prop} (b : BK) (u : Value) (d : List UInt8) (g : Nat) (hg : w.heap[g]? = some (.cells (bc b u) 26 (0, 0))) (hgd : o.guard = none) (x y : Operand) (ho : o.op = .store 23 x y)
    (hx : a.eval x = .pointer (some ⟨g, 0, none⟩)) (hy : a.eval y = .agg (drow d))
    (h : wpList Tryd.prog ops Q rest (a.put o.dst undef) (w.setRow g (bc { b with dom := d } u))) : wpList Tryd.prog ops Q (o :: rest) a w := by
  have hr := run_stpart w g 0 26 23 (bc b u) (drow d) hg (by rw [drow_size]; exact info_d) (drow_one d) (by rw [drow_size, bc_size]; decide)
  rw [bcset_dom] at hr
  exact wpList_stpart hgd _ x y ho _ _ hx hy hr h
theorem st_pol {ops : Array Oper} {rest : List Oper} {o : Oper} {a : Act} {w : World} {Q : Exit → Act → World → Prop} (b : BK) (u : Value) (d : List UInt8) (g : Nat) (hg : w.heap[g]? = some (.cells (bc b u) 26 (0, 0))) (hgd : o.guard = none) (x y : Operand) (ho : o.op = .store 23 x y)
    (hx : a.eval x = .pointer (some ⟨g, 20, none⟩)) (hy : a.eval y = .agg (drow d))
    (h : wpList Tryd.prog ops Q rest (a.put o.dst undef) (w.setRow g (bc { b with pol := d } u))) : wpList Tryd.prog ops Q (o :: rest) a w := by
  have hr := run_stpart w g 20 26 23 (bc b u) (drow d) hg (by rw [drow_size]; exact info_d) (drow_one d) (by rw [drow_size, bc_size]; decide)
  rw [bcset_pol] at hr
  exact wpList_stpart hgd _ x y ho _ _ hx hy hr h
theorem run_bkrow (w : World) (g : Nat) (b : BK) (u : Value) (T : TypeId) (hg : w.heap[g]? = some (.cells (bc b u) T (0, 0))) : (loadVar 26 ⟨g, 0, none⟩).run Tryd.prog w = .ok (.agg (bc b u)) w :=
  run_loadVar_row w g T 26 (bc b u) (0, 0) _ hg Tryd.underlying26 rfl (by rw [bc_size]; exact info_b)
theorem rc_set2 (v : Value) (e : Int) (h0 h1 : List UInt8) : (rc v e (some h0)).setIfInBounds 2 (.string ⟨h1.toArray⟩) = rc v e (some h1) := by unfold rc tlc; simp
theorem rc_2 (v : Value) (e : Int) (h : List UInt8) : (rc v e (some h))[2]? = some (.string ⟨h.toArray⟩) := rfl
end Go.Proofs.YtbpjdfnnlmblaaaDoor
