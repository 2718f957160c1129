/- What the frames of the laws share: the two tables of constants as they lie when a call begins. -/
import Derived.Test.YtackbjbmadkkhaaDoorRows
import Derived.Test.YtackbjbmadkkhaaDoorSealE
import Derived.ProofKit
import Derived.OpenShut
import Derived.ShutString
import Derived.ChangeOld
import Derived.Below
import Derived.ChangeSame
import Derived.LaidMore
import Derived.LaidLaws
namespace Go.Proofs.YtackbjbmadkkhaaDoor
open Go.ChangeShapes Go.WideShapes Go.ChangeAt Go.RowKit
set_option linter.unusedSimpArgs false
set_option linter.unusedVariables false
theorem Tryd.own : ownKnob Tryd.prog.godebug = none := by kernel_rfl
theorem Tryd.laidOut : laidOutB Tryd.prog = true := by kernel_rfl
theorem str_of (a : ByteArray) : ∃ l : List UInt8, a = ⟨l.toArray⟩ := ⟨a.data.toList, by simp⟩
section
variable {H : Type} {enc : TypeId × Value → H} {w : World} {base : Nat} {sp : Nat → Bool} {held : Bool}
theorem tab_of {fuel : Nat} {cs : List Value} {x : DataW H × List MemPlace} (h : DataW.trod enc Tryd.prog w base sp held fuel 82 cs = some x) (hx : x.1 = .agg (KK.map fun k => .lit (.int .u32 (W32 k)))) : cs = (row KK).toList := by
  obtain ⟨xs, m, _, hxx, hl, hxs, hi⟩ := DataW.trod_array Tryd.underlying82 h
  have hc : Tryd.prog.cellsOf 82 = 64 := by kernel_rfl
  have hu : Tryd.prog.cellsOf 39 = 1 := by kernel_rfl
  rw [hc] at hl
  rw [hu] at hi
  have e1 : xs.map (·.1) = KK.map fun k => .lit (.int .u32 (W32 k)) := by
    rw [hxx] at hx
    simpa using hx
  have hkl : KK.length = 64 := KK_len
  apply List.ext_getElem?
  intro i
  have hr : (row KK).toList = KK.map fun k => Value.int .u32 (W32 k) := by simp [row]
  rw [hr]
  by_cases hlt : i < 64
  · have h1 := hi i hlt
    rw [List.getElem?_eq_getElem (by omega : i < xs.length)] at h1
    obtain ⟨z, hz, he, _⟩ := DataW.trod_int Tryd.underlying39 h1
    have e2 : (xs.map (·.1))[i]? = (KK.map fun k => (DataW.lit (.int .u32 (W32 k)) : DataW H))[i]? := by rw [e1]
    rw [List.getElem?_map, List.getElem?_eq_getElem (by omega : i < xs.length), List.getElem?_map, List.getElem?_eq_getElem (by omega : i < KK.length), Option.map_some, Option.map_some, he] at e2
    simp only [Option.some.injEq, DataW.lit.injEq, Lit.int.injEq, true_and] at e2
    rw [List.getElem?_map, List.getElem?_eq_getElem (by omega : i < KK.length), Option.map_some, ← e2]
    have h2 : ((cs.drop (i * 1)).take 1)[0]? = some (.int .u32 z) := by rw [hz]; rfl
    rw [List.getElem?_take, if_pos (by omega), List.getElem?_drop, Nat.mul_one, Nat.add_zero] at h2
    exact h2
  · rw [List.getElem?_eq_none (by omega), List.getElem?_eq_none (by rw [List.length_map]; omega)]
end
theorem laid0 {H : Type} : (Rows.laid_custody_custodyref02_constants : DataW H) = .agg (KK.map fun k => .lit (.int .u32 (W32 k))) := by kernel_rfl
theorem laid1 {H : Type} : (Rows.laid_custody_hash_constants : DataW H) = .agg (KK.map fun k => .lit (.int .u32 (W32 k))) := by kernel_rfl
abbrev laidL : List (String × DataW Unit) := [("custody/custodyref02.constants", Rows.laid_custody_custodyref02_constants), ("custody/hash.constants", Rows.laid_custody_hash_constants)]
theorem g0 : Tryd.prog.globalNamed "custody/custodyref02.constants" = some 0 := by kernel_rfl
theorem g1 : Tryd.prog.globalNamed "custody/hash.constants" = some 1 := by kernel_rfl
theorem t0 : (Tryd.prog.globals[0]?).map (·.type) = some 82 := by kernel_rfl
theorem t1 : (Tryd.prog.globals[1]?).map (·.type) = some 82 := by kernel_rfl
theorem row_arr (cs : Array Value) (h : cs.toList = (row KK).toList) : cs = row KK := Array.ext' h
theorem tabs_at {W : World} (h : laidMetH Tryd.prog laidL W) : K0At W ∧ KAt W := by
  have h' : laidMet Tryd.prog laidL W := h
  obtain ⟨ps, ⟨g, t, cs, fuel, p, q, hg, ht, hvar, hd, ⟨g', t', cs', fuel', p', q', hg', ht', hvar', hd', _, hps'⟩, hps⟩, _, hr⟩ := h'
  obtain rfl := Option.some.inj (g0.symm.trans hg)
  obtain rfl := Option.some.inj (t0.symm.trans ht)
  obtain rfl := Option.some.inj (g1.symm.trans hg')
  obtain rfl := Option.some.inj (t1.symm.trans ht')
  have e0 := row_arr cs (tab_of hd laid0)
  have e1 := row_arr cs' (tab_of hd' laid1)
  have hz0 : cs.size = 63 + 1 := by rw [e0, row_size, KK_len]
  have hz1 : cs'.size = 63 + 1 := by rw [e1, row_size, KK_len]
  have hm0 : MemPlace.cell 0 0 ∈ ps := by
    rw [hps, hz0]
    simp [MemPlace.row]
  have hm1 : MemPlace.cell 1 0 ∈ ps := by
    rw [hps, hps', hz1]
    simp [MemPlace.row]
  obtain ⟨⟨c, t, hb⟩, _⟩ := hr 0 0 hm0
  obtain ⟨⟨c', t', hb'⟩, _⟩ := hr 1 0 hm1
  simp only [World.var?, hg, Option.bind_some, hb, Option.some.injEq] at hvar
  simp only [World.var?, hg', Option.bind_some, hb', Option.some.injEq] at hvar'
  refine ⟨⟨t, ?_⟩, ⟨t', ?_⟩⟩
  · rw [← e0, ← hvar]; exact hb
  · rw [← e1, ← hvar']; exact hb'
theorem door_met (os : Os) (args : Array Value) : laidMetH Tryd.prog laidL ((World.doorLaid Tryd.prog 91 os).forCall (fun _ _ => 0) ⟨#[], args, []⟩).memory :=
  laidMet_of_run' 8 (by kernel_rfl) (by kernel_rfl)
end Go.Proofs.YtackbjbmadkkhaaDoor
