/- What the frames of the laws share: policies, rules and triples that come in; the table byRule as it lies when a call begins. -/
import Derived.Test.YtamdlkflcbefdaaDoorRows
import Derived.Test.YtamdlkflcbefdaaDoorPermK
import Derived.ProofKit
import Derived.OpenShut
import Derived.ShutString
import Derived.ChangeOld
import Derived.Below
import Derived.Deep.Slices
import Derived.Deep.Fields
import Derived.ChangeSame
import Derived.LaidMore
import Derived.LaidLaws
namespace Go.Proofs.YtamdlkflcbefdaaDoor
open Go.ChangeShapes Go.WideShapes Go.ChangeAt Go.RowKit Go.Deep
set_option linter.unusedSimpArgs false
set_option linter.unusedVariables false
theorem Tryd.own : ownKnob Tryd.prog.godebug = none := by kernel_rfl
theorem Tryd.laidOut : laidOutB Tryd.prog = true := by kernel_rfl
theorem str_of (a : ByteArray) : ∃ l : List UInt8, a = ⟨l.toArray⟩ := ⟨a.data.toList, by simp⟩
theorem i64_of {a : Int} (h : (Lit.int .i64 a).wf = true) : I64 a := by
  simp only [Lit.wf, Bool.and_eq_true, decide_eq_true_eq] at h
  exact h
section
variable {H : Type} {enc : TypeId × Value → H} {w : World} {base : Nat} {sp : Nat → Bool} {held : Bool}
theorem fld {T t : TypeId} {fs : Array Field} {fuel : Nat} {cs : List Value} {x : DataW H × List MemPlace} (ht : Tryd.prog.underlying T = some (.struct fs)) (h : DataW.trod enc Tryd.prog w base sp held fuel T cs = some x) (i o c : Nat)
    (hf : (fs.toList.map fun f => (f.type, f.offset))[i]? = some (t, o)) (hc : Tryd.prog.cellsOf t = c) : ∃ n y, DataW.trod enc Tryd.prog w base sp held n t ((cs.drop o).take c) = some y := by
  obtain ⟨xs, n, _, _, _, hxs, hh⟩ := DataW.trod_struct ht h
  rw [List.getElem?_map] at hf
  cases hfi : fs.toList[i]? with
  | none => rw [hfi] at hf; cases hf
  | some f =>
    rw [hfi] at hf
    simp only [Option.map_some, Option.some.injEq, Prod.mk.injEq] at hf
    have hfa : fs[i]? = some f := by rw [← Array.getElem?_toList]; exact hfi
    have h1 := hh i f hfa
    rw [hf.1, hf.2, hc] at h1
    have hlt : i < xs.length := by rw [hxs]; exact (Array.getElem?_eq_some_iff.1 hfa).1
    exact ⟨n, xs[i], by rw [h1, List.getElem?_eq_getElem hlt]⟩
theorem fld_len {T : TypeId} {fs : Array Field} {fuel c : Nat} {cs : List Value} {x : DataW H × List MemPlace} (ht : Tryd.prog.underlying T = some (.struct fs)) (hc : Tryd.prog.cellsOf T = c) (h : DataW.trod enc Tryd.prog w base sp held fuel T cs = some x) : cs.length = c := by
  obtain ⟨xs, n, _, _, hl, _⟩ := DataW.trod_struct ht h
  rw [hl, hc]
theorem cut1 {cs : List Value} {o : Nat} {v : Value} (h : (cs.drop o).take 1 = [v]) : cs[o]? = some v := cell_of_cut h
theorem fld_int {T : TypeId} {fs : Array Field} {fuel : Nat} {cs : List Value} {x : DataW H × List MemPlace} (ht : Tryd.prog.underlying T = some (.struct fs)) (h : DataW.trod enc Tryd.prog w base sp held fuel T cs = some x) (i o : Nat)
    (hf : (fs.toList.map fun f => (f.type, f.offset))[i]? = some (3, o)) : ∃ z : Int, cs[o]? = some (.int .i64 z) ∧ (Lit.int .i64 z).wf = true := by
  obtain ⟨n, y, hy⟩ := fld ht h i o 1 hf (by kernel_rfl)
  obtain ⟨z, hz, _, hw⟩ := DataW.trod_int Tryd.underlying3 hy
  exact ⟨z, cut1 hz, hw⟩
theorem fld_str {T : TypeId} {fs : Array Field} {fuel : Nat} {cs : List Value} {x : DataW H × List MemPlace} (ht : Tryd.prog.underlying T = some (.struct fs)) (h : DataW.trod enc Tryd.prog w base sp held fuel T cs = some x) (i o : Nat)
    (hf : (fs.toList.map fun f => (f.type, f.offset))[i]? = some (9, o)) : ∃ l : List UInt8, cs[o]? = some (.string ⟨l.toArray⟩) ∧ l.length ≤ maxLen := by
  obtain ⟨n, y, hy⟩ := fld ht h i o 1 hf (by kernel_rfl)
  obtain ⟨s, hs, _, hl⟩ := DataW.trod_string Tryd.underlying9 hy
  obtain ⟨l, rfl⟩ := str_of s
  exact ⟨l, cut1 hs, hl⟩
theorem choose_l {α : Type} [Inhabited α] {Q : Nat → α → Prop} (n : Nat) (h : ∀ i, i < n → ∃ c, Q i c) : ∃ d : List α, d.length = n ∧ ∀ i, i < n → Q i (nth d i) := by
  induction n with
  | zero => exact ⟨[], rfl, fun i hi => absurd hi (by omega)⟩
  | succ n ih =>
    obtain ⟨d, hd, hq⟩ := ih (fun i hi => h i (by omega))
    obtain ⟨c, hc⟩ := h n (by omega)
    refine ⟨d ++ [c], by simp [hd], fun i hi => ?_⟩
    by_cases e : i < n
    · rw [nth_append_left _ _ _ (by omega)]; exact hq i e
    · obtain rfl : i = d.length := by omega
      rw [nth_last, hd]; exact hc
/-- a slice that comes in -/
theorem sl_of {α : Type} [Inhabited α] {E : El α} (hE : E.OK) (hc : Tryd.prog.cellsOf E.T = E.c) (hel : ∀ {fuel : Nat} {cs : List Value} {x : DataW H × List MemPlace}, DataW.trod enc Tryd.prog w base sp held fuel E.T cs = some x → ∃ a : α, cs = E.cf a)
    {fuel : Nat} {v : Value} {x : DataW H × List MemPlace} (h : DataW.trod enc Tryd.prog w base sp held fuel E.S [v] = some x) : ∃ l : List α, RdE E w v l := by
  rcases open_slice hE.und h with ⟨hcs, _⟩ | ⟨a, len, cap, m, n, D, Pl, hcs, _, hl, hm, hmm, _, hi⟩
  · simp only [List.cons.injEq, and_true] at hcs
    subst hcs
    exact ⟨[], RdE.nil w⟩
  · simp only [List.cons.injEq, and_true] at hcs
    subst hcs
    have hle : len ≤ m := by rw [hmm]; split <;> omega
    rw [hc] at hi
    obtain ⟨l, hlen, hq⟩ := choose_l (Q := fun i (k : α) => ∀ j, j < E.c → w.cell? (a.add (i * E.c + j)) = (E.cf k)[j]?) len (fun i hil => by
      obtain ⟨cs', h1, h2⟩ := hi i (by omega)
      obtain ⟨k, hk⟩ := hel h2
      obtain ⟨_, _, h3⟩ := World.cells?_some h1
      refine ⟨k, fun j hj => ?_⟩
      have := h3 j hj
      rw [← Go.Deep.add_add, this, ← hk])
    refine ⟨l, some a, cap, by rw [hlen], by omega, hm, fun h0 => ?_⟩
    obtain ⟨b, off, spot⟩ := a
    have h1 := hq 0 (by omega) 0 hE.pos
    have hcell : ∃ u, (E.cf (nth l 0))[0]? = some u := ⟨_, List.getElem?_eq_getElem (by rw [hE.len]; exact hE.pos)⟩
    obtain ⟨u0, hu0⟩ := hcell
    rw [hu0] at h1
    have hspot : spot = none := by simpa [Addr.add] using World.cell?_spot h1
    subst hspot
    have hadd : ∀ i, (⟨b, off, none⟩ : Addr).add i = ⟨b, off + i, none⟩ := by intro i; unfold Addr.add; split <;> simp_all
    refine ⟨b, off, rfl, ?_, fun j u hu => ?_⟩
    · have := World.block_lt_of_cell? _ _ h1
      simpa [Addr.add] using this
    · have hj : j < l.length * E.c := by rw [← El.flat_len hE]; exact (List.getElem?_eq_some_iff.1 hu).1
      have hq1 : j / E.c < l.length := Nat.div_lt_of_lt_mul (by rw [Nat.mul_comm]; exact hj)
      have hr1 : j % E.c < E.c := Nat.mod_lt _ hE.pos
      have hjj : j / E.c * E.c + j % E.c = j := by rw [Nat.mul_comm]; exact Nat.div_add_mod _ _
      have h2 := hq (j / E.c) (by omega) (j % E.c) hr1
      rw [hadd, hjj, nth_eq l _ hq1, ← El.flat_at hE l _ _ hq1 hr1, hjj] at h2
      rw [h2, hu]
theorem und_t : Tryd.prog.underlying 59 = some (.struct (Tryd.prog.fieldsOf 59)) := by kernel_rfl
theorem und_r : Tryd.prog.underlying 55 = some (.struct (Tryd.prog.fieldsOf 55)) := by kernel_rfl
theorem und_q : Tryd.prog.underlying 33 = some (.struct (Tryd.prog.fieldsOf 33)) := by kernel_rfl
theorem und_p : Tryd.prog.underlying 26 = some (.struct (Tryd.prog.fieldsOf 26)) := by kernel_rfl
theorem fs_t : ((Tryd.prog.fieldsOf 59).toList.map fun f => (f.type, f.offset)) = [(9, 0), (3, 1), (3, 2)] := by kernel_rfl
theorem fs_r : ((Tryd.prog.fieldsOf 55).toList.map fun f => (f.type, f.offset)) = [(3, 0), (3, 1), (3, 2)] := by kernel_rfl
theorem fs_q : ((Tryd.prog.fieldsOf 33).toList.map fun f => (f.type, f.offset)) = [(3, 0), (3, 1), (3, 2), (3, 3), (3, 4)] := by kernel_rfl
theorem fs_p : ((Tryd.prog.fieldsOf 26).toList.map fun f => (f.type, f.offset)) = [(9, 0), (22, 1), (23, 2), (24, 3)] := by kernel_rfl
theorem list3 (l : List Value) (h : l.length = 3) : ∃ c0 c1 c2, l = [c0, c1, c2] := by
  match l, h with
  | [c0, c1, c2], _ => exact ⟨c0, c1, c2, rfl⟩
theorem list4 (l : List Value) (h : l.length = 4) : ∃ c0 c1 c2 c3, l = [c0, c1, c2, c3] := by
  match l, h with
  | [c0, c1, c2, c3], _ => exact ⟨c0, c1, c2, c3, rfl⟩
theorem list5 (l : List Value) (h : l.length = 5) : ∃ c0 c1 c2 c3 c4, l = [c0, c1, c2, c3, c4] := by
  match l, h with
  | [c0, c1, c2, c3, c4], _ => exact ⟨c0, c1, c2, c3, c4, rfl⟩
theorem type_of {fuel : Nat} {cs : List Value} {x : DataW H × List MemPlace} (h : DataW.trod enc Tryd.prog w base sp held fuel 59 cs = some x) : ∃ a : TyP, cs = eT.cf a := by
  have hl := fld_len und_t (c := 3) (by kernel_rfl) h
  obtain ⟨z0, e0, w0⟩ := fld_str und_t h 0 0 (by rw [fs_t]; rfl)
  obtain ⟨z1, e1, w1⟩ := fld_int und_t h 1 1 (by rw [fs_t]; rfl)
  obtain ⟨z2, e2, w2⟩ := fld_int und_t h 2 2 (by rw [fs_t]; rfl)
  refine ⟨⟨z0, z1, z2⟩, ?_⟩
  obtain ⟨c0, c1, c2, rfl⟩ := list3 cs hl
  simp at e0 e1 e2
  subst e0 e1 e2
  rfl
theorem rule_of {fuel : Nat} {cs : List Value} {x : DataW H × List MemPlace} (h : DataW.trod enc Tryd.prog w base sp held fuel 55 cs = some x) : ∃ a : RuP, cs = eR.cf a := by
  have hl := fld_len und_r (c := 3) (by kernel_rfl) h
  obtain ⟨z0, e0, w0⟩ := fld_int und_r h 0 0 (by rw [fs_r]; rfl)
  obtain ⟨z1, e1, w1⟩ := fld_int und_r h 1 1 (by rw [fs_r]; rfl)
  obtain ⟨z2, e2, w2⟩ := fld_int und_r h 2 2 (by rw [fs_r]; rfl)
  refine ⟨⟨z0, z1, z2⟩, ?_⟩
  obtain ⟨c0, c1, c2, rfl⟩ := list3 cs hl
  simp at e0 e1 e2
  subst e0 e1 e2
  rfl
theorem quorum_of {fuel : Nat} {cs : List Value} {x : DataW H × List MemPlace} (h : DataW.trod enc Tryd.prog w base sp held fuel 33 cs = some x) : ∃ a : QuP, cs = eQ.cf a := by
  have hl := fld_len und_q (c := 5) (by kernel_rfl) h
  obtain ⟨z0, e0, w0⟩ := fld_int und_q h 0 0 (by rw [fs_q]; rfl)
  obtain ⟨z1, e1, w1⟩ := fld_int und_q h 1 1 (by rw [fs_q]; rfl)
  obtain ⟨z2, e2, w2⟩ := fld_int und_q h 2 2 (by rw [fs_q]; rfl)
  obtain ⟨z3, e3, w3⟩ := fld_int und_q h 3 3 (by rw [fs_q]; rfl)
  obtain ⟨z4, e4, w4⟩ := fld_int und_q h 4 4 (by rw [fs_q]; rfl)
  refine ⟨⟨z0, z1, z2, z3, z4⟩, ?_⟩
  obtain ⟨c0, c1, c2, c3, c4, rfl⟩ := list5 cs hl
  simp at e0 e1 e2 e3 e4
  subst e0 e1 e2 e3 e4
  rfl
theorem policy_of {fuel : Nat} {cs : List Value} {x : DataW H × List MemPlace} (h : DataW.trod enc Tryd.prog w base sp held fuel 26 cs = some x) :
    ∃ (s : ByteArray) (vt vr vq : Value) (tl : List TyP) (rl : List RuP) (ql : List QuP), cs = [.string s, vt, vr, vq] ∧ RdE eT w vt tl ∧ RdE eR w vr rl ∧ RdE eQ w vq ql := by
  have hl := fld_len und_p (c := 4) (by kernel_rfl) h
  obtain ⟨z0, e0, w0⟩ := fld_str und_p h 0 0 (by rw [fs_p]; rfl)
  obtain ⟨n1, y1, h1⟩ := fld und_p h 1 1 1 (by rw [fs_p]; rfl) (by kernel_rfl)
  obtain ⟨n2, y2, h2⟩ := fld und_p h 2 2 1 (by rw [fs_p]; rfl) (by kernel_rfl)
  obtain ⟨n3, y3, h3⟩ := fld und_p h 3 3 1 (by rw [fs_p]; rfl) (by kernel_rfl)
  obtain ⟨c0, c1, c2, c3, rfl⟩ := list4 cs hl
  obtain ⟨tl, r1⟩ := sl_of eT_ok (by kernel_rfl) type_of (v := c1) h1
  obtain ⟨rl, r2⟩ := sl_of eR_ok (by kernel_rfl) rule_of (v := c2) h2
  obtain ⟨ql, r3⟩ := sl_of eQ_ok (by kernel_rfl) quorum_of (v := c3) h3
  simp at e0
  subst e0
  exact ⟨_, c1, c2, c3, tl, rl, ql, rfl, r1, r2, r3⟩
theorem three_of {fuel : Nat} {cs : List Value} {x : DataW H × List MemPlace} (h : DataW.trod enc Tryd.prog w base sp held fuel 27 cs = some x) :
    ∃ n0 n1 n2 : Int, cs = [.int .i64 n0, .int .i64 n1, .int .i64 n2] ∧ I64 n0 ∧ I64 n1 ∧ I64 n2 := by
  obtain ⟨xs, m, _, _, hl, hxs, hi⟩ := DataW.trod_array Tryd.underlying27 h
  have hc : Tryd.prog.cellsOf 27 = 3 := by kernel_rfl
  have hu : Tryd.prog.cellsOf 3 = 1 := by kernel_rfl
  rw [hc] at hl
  rw [hu] at hi
  have each : ∀ i, i < 3 → ∃ n : Int, cs[i]? = some (.int .i64 n) ∧ I64 n := by
    intro i h3
    have h1 := hi i h3
    rw [List.getElem?_eq_getElem (by omega : i < xs.length), Nat.mul_one] at h1
    obtain ⟨n, hn, _, hw⟩ := DataW.trod_int Tryd.underlying3 h1
    exact ⟨n, cut1 hn, i64_of hw⟩
  obtain ⟨n0, e0, w0⟩ := each 0 (by omega)
  obtain ⟨n1, e1, w1⟩ := each 1 (by omega)
  obtain ⟨n2, e2, w2⟩ := each 2 (by omega)
  obtain ⟨c0, c1, c2, rfl⟩ := list3 cs hl
  simp at e0 e1 e2
  subst e0 e1 e2
  exact ⟨n0, n1, n2, rfl, w0, w1, w2⟩
theorem agg_of {r : Reach} {b0 : Nat} {T : TypeId} {fs : Array Field} {v : Value} (ht : Tryd.prog.underlying T = some (.struct fs)) (hval : Value.okWide Tryd.prog w r b0 T v) {d : DataW H} {ps : List MemPlace} (hd : DataW.Trod enc Tryd.prog w base sp held T v d ps) :
    ∃ cs : Array Value, v = .agg cs ∧ ∃ fuel, DataW.trod enc Tryd.prog w base sp held fuel T cs.toList = some (d, ps) := by
  obtain ⟨cs, rfl, _⟩ := okWide_struct ht hval
  obtain ⟨fuel, hf⟩ := hd
  exact ⟨cs, rfl, fuel, hf⟩
theorem toArr {cs : Array Value} {l : List Value} (h : cs.toList = l) : cs = l.toArray := by rw [← h]
theorem open_pol {r : Reach} {b0 : Nat} {v : Value} {d : DataW H} {ps : List MemPlace} (hval : Value.okWide Tryd.prog w r b0 26 v) (hd : DataW.Trod enc Tryd.prog w base sp held 26 v d ps) :
    ∃ (s : ByteArray) (vt vr vq : Value) (tl : List TyP) (rl : List RuP) (ql : List QuP), v = .agg #[.string s, vt, vr, vq] ∧ RdE eT w vt tl ∧ RdE eR w vr rl ∧ RdE eQ w vq ql := by
  obtain ⟨cs, rfl, fuel, hf⟩ := agg_of und_p hval hd
  obtain ⟨s, vt, vr, vq, tl, rl, ql, hcs, h1, h2, h3⟩ := policy_of hf
  exact ⟨s, vt, vr, vq, tl, rl, ql, by rw [toArr hcs], h1, h2, h3⟩
theorem open_ru {r : Reach} {b0 : Nat} {v : Value} {d : DataW H} {ps : List MemPlace} (hval : Value.okWide Tryd.prog w r b0 55 v) (hd : DataW.Trod enc Tryd.prog w base sp held 55 v d ps) : ∃ a : RuP, v = .agg (rc a) := by
  obtain ⟨cs, rfl, fuel, hf⟩ := agg_of und_r hval hd
  obtain ⟨a, hcs⟩ := rule_of hf
  exact ⟨a, by rw [toArr hcs]⟩
theorem open_a3 {r : Reach} {b0 : Nat} {v : Value} {d : DataW H} {ps : List MemPlace} (hval : Value.okWide Tryd.prog w r b0 27 v) (hd : DataW.Trod enc Tryd.prog w base sp held 27 v d ps) :
    ∃ n0 n1 n2 : Int, v = .agg #[.int .i64 n0, .int .i64 n1, .int .i64 n2] ∧ I64 n0 ∧ I64 n1 ∧ I64 n2 := by
  simp only [Value.okWide, Tryd.underlying27] at hval
  obtain ⟨cs, rfl, _, _⟩ := hval
  obtain ⟨fuel, hf⟩ := hd
  obtain ⟨n0, n1, n2, hcs, h⟩ := three_of hf
  have hcs' : cs.toList = [.int .i64 n0, .int .i64 n1, .int .i64 n2] := hcs
  exact ⟨n0, n1, n2, by rw [toArr hcs'], h⟩
/-! the table -/
theorem und_e : Tryd.prog.underlying 69 = some (.struct (Tryd.prog.fieldsOf 69)) := by kernel_rfl
theorem fs_e : (Tryd.prog.fieldsOf 69).toList.map (fun f => (f.type, f.offset)) = [(3, 0), (3, 1), (3, 2)] := by kernel_rfl
theorem fld_lit {T : TypeId} {fs : Array Field} {fuel : Nat} {cs : List Value} {x : DataW H × List MemPlace} (ht : Tryd.prog.underlying T = some (.struct fs)) (h : DataW.trod enc Tryd.prog w base sp held fuel T cs = some x) (i o : Nat)
    (hf : (fs.toList.map fun f => (f.type, f.offset))[i]? = some (3, o)) (ds : List (DataW H)) (hx : x.1 = .agg ds) (n : Int) (hn : ds[i]? = some (.lit (.int .i64 n))) : cs[o]? = some (.int .i64 n) := by
  obtain ⟨xs, m, _, hxx, _, hxs, hh⟩ := DataW.trod_struct ht h
  rw [List.getElem?_map] at hf
  cases hfi : fs.toList[i]? with
  | none => rw [hfi] at hf; cases hf
  | some f =>
    rw [hfi] at hf
    simp only [Option.map_some, Option.some.injEq, Prod.mk.injEq] at hf
    have hfa : fs[i]? = some f := by rw [← Array.getElem?_toList]; exact hfi
    have h1 := hh i f hfa
    have hu : Tryd.prog.cellsOf 3 = 1 := by kernel_rfl
    rw [hf.1, hf.2, hu] at h1
    have hlt : i < xs.length := by rw [hxs]; exact (Array.getElem?_eq_some_iff.1 hfa).1
    rw [List.getElem?_eq_getElem hlt] at h1
    obtain ⟨z, hz, he, _⟩ := DataW.trod_int Tryd.underlying3 h1
    have e1 : ds = xs.map (·.1) := by rw [hxx] at hx; simpa using hx.symm
    rw [e1, List.getElem?_map, List.getElem?_eq_getElem hlt, Option.map_some, he] at hn
    simp at hn
    subst hn
    exact cut1 hz
theorem row_of {fuel : Nat} {cs : List Value} {x : DataW H × List MemPlace} (h : DataW.trod enc Tryd.prog w base sp held fuel 69 cs = some x) (k a b : Int) (hx : x.1 = .agg [.lit (.int .i64 k), .lit (.int .i64 a), .lit (.int .i64 b)]) : cs = [.int .i64 k, .int .i64 a, .int .i64 b] := by
  have hl := fld_len und_e (c := 3) (by kernel_rfl) h
  have e0 := fld_lit und_e h 0 0 (by rw [fs_e]; rfl) _ hx k rfl
  have e1 := fld_lit und_e h 1 1 (by rw [fs_e]; rfl) _ hx a rfl
  have e2 := fld_lit und_e h 2 2 (by rw [fs_e]; rfl) _ hx b rfl
  obtain ⟨c0, c1, c2, rfl⟩ := list3 cs hl
  simp at e0 e1 e2
  subst e0 e1 e2
  rfl
theorem tab_of {fuel : Nat} {cs : List Value} {x : DataW H × List MemPlace} (h : DataW.trod enc Tryd.prog w base sp held fuel 70 cs = some x) (hx : x.1 = Rows.laid_custody_perm_byRule) : cs = tabC.toList := by
  obtain ⟨xs, m, _, hxx, hl, hxs, hi⟩ := DataW.trod_array Tryd.underlying70 h
  have hc : Tryd.prog.cellsOf 70 = 15 := by kernel_rfl
  have hu : Tryd.prog.cellsOf 69 = 3 := by kernel_rfl
  rw [hc] at hl
  rw [hu] at hi
  have e1 : [.agg [.lit (.int .i64 1), .lit (.int .i64 128), .lit (.int .i64 512)], .agg [.lit (.int .i64 2), .lit (.int .i64 128), .lit (.int .i64 0)], .agg [.lit (.int .i64 3), .lit (.int .i64 128), .lit (.int .i64 512)], .agg [.lit (.int .i64 4), .lit (.int .i64 128), .lit (.int .i64 0)], .agg [.lit (.int .i64 5), .lit (.int .i64 256), .lit (.int .i64 0)]] = xs.map (·.1) := by
    rw [hxx] at hx
    unfold Rows.laid_custody_perm_byRule at hx
    simpa using hx.symm
  have each : ∀ i (hlt : i < 5) k a b, ([.agg [.lit (.int .i64 1), .lit (.int .i64 128), .lit (.int .i64 512)], .agg [.lit (.int .i64 2), .lit (.int .i64 128), .lit (.int .i64 0)], .agg [.lit (.int .i64 3), .lit (.int .i64 128), .lit (.int .i64 512)], .agg [.lit (.int .i64 4), .lit (.int .i64 128), .lit (.int .i64 0)], .agg [.lit (.int .i64 5), .lit (.int .i64 256), .lit (.int .i64 0)]] : List (DataW H))[i]? = some (.agg [.lit (.int .i64 k), .lit (.int .i64 a), .lit (.int .i64 b)]) → (cs.drop (i * 3)).take 3 = [.int .i64 k, .int .i64 a, .int .i64 b] := by
    intro i hlt k a b he
    have h1 := hi i hlt
    rw [List.getElem?_eq_getElem (by omega : i < xs.length)] at h1
    refine row_of h1 k a b ?_
    rw [e1, List.getElem?_map, List.getElem?_eq_getElem (by omega : i < xs.length)] at he
    simpa using he
  have r0 := each 0 (by omega) 1 128 512 rfl
  have r1 := each 1 (by omega) 2 128 0 rfl
  have r2 := each 2 (by omega) 3 128 512 rfl
  have r3 := each 3 (by omega) 4 128 0 rfl
  have r4 := each 4 (by omega) 5 256 0 rfl
  obtain ⟨c0, c1, c2, c3, c4, c5, c6, c7, c8, c9, c10, c11, c12, c13, c14, rfl⟩ : ∃ c0 c1 c2 c3 c4 c5 c6 c7 c8 c9 c10 c11 c12 c13 c14, cs = [c0, c1, c2, c3, c4, c5, c6, c7, c8, c9, c10, c11, c12, c13, c14] := by
    match cs, hl with
    | [c0, c1, c2, c3, c4, c5, c6, c7, c8, c9, c10, c11, c12, c13, c14], _ => exact ⟨c0, c1, c2, c3, c4, c5, c6, c7, c8, c9, c10, c11, c12, c13, c14, rfl⟩
  simp at r0 r1 r2 r3 r4
  obtain ⟨rfl, rfl, rfl⟩ := r0
  obtain ⟨rfl, rfl, rfl⟩ := r1
  obtain ⟨rfl, rfl, rfl⟩ := r2
  obtain ⟨rfl, rfl, rfl⟩ := r3
  obtain ⟨rfl, rfl, rfl⟩ := r4
  rfl
end
abbrev laidL : List (String × DataW Unit) := [("custody/perm.byRule", Rows.laid_custody_perm_byRule)]
theorem g_tab : Tryd.prog.globalNamed "custody/perm.byRule" = some 0 := by kernel_rfl
theorem g_type : (Tryd.prog.globals[0]?).map (·.type) = some 70 := by kernel_rfl
theorem tab_at {W : World} (h : laidMetH Tryd.prog laidL W) : ∃ t, W.heap[0]? = some (.cells tabC t (0, 0)) := by
  have h' : laidMet Tryd.prog laidL W := h
  obtain ⟨ps, ⟨g, t, cs, fuel, p, q, hg, ht, hvar, hd, hps, _⟩, _, hr⟩ := h'
  obtain rfl := Option.some.inj (g_tab.symm.trans hg)
  obtain rfl := Option.some.inj (g_type.symm.trans ht)
  have hcs : cs.toList = tabC.toList := tab_of hd rfl
  obtain rfl : cs = tabC := Array.ext' hcs
  have hmem : MemPlace.cell 0 0 ∈ ps := by
    rename_i hps
    rw [hps]
    simp [MemPlace.row, tabC]
  obtain ⟨⟨c, t, hb⟩, _⟩ := hr 0 0 hmem
  simp only [World.var?, hg, Option.bind_some, hb, Option.some.injEq] at hvar
  subst hvar
  exact ⟨t, hb⟩
theorem door_met (os : Os) (args : Array Value) : laidMetH Tryd.prog laidL ((World.doorLaid Tryd.prog 19 os).forCall (fun _ _ => 0) ⟨#[], args, []⟩).memory :=
  laidMet_of_run' 8 (by kernel_rfl) (by kernel_rfl)
end Go.Proofs.YtamdlkflcbefdaaDoor
