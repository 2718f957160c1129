/- Numbers of one's own are sorted and compacted; distinct, Sources and Targets of the program. -/
import Derived.Test.YtamdlkflcbefdaaDoorPermC
import Derived.Test.YtamdlkflcbefdaaDoorShelf
namespace Go.Proofs.YtamdlkflcbefdaaDoor
open Go.RowKit Go.Shelf Go.Sort
set_option linter.unusedSimpArgs false
set_option linter.unusedVariables false
theorem flat_i (l : List Int) : eI.flat l = l.map (Value.int .i64) := by
  induction l with
  | nil => rfl
  | cons x l ih => rw [El.flat, ih]; rfl
theorem own_put {w : World} {base g cap m k : Nat} {cur : Array Value} {d : Array Int} {os : Array Obj} (hg : w.heap[g]? = some (.cells cur 3 (0, 0))) (hb : base ≤ g) (hcap : d.size ≤ cap) (hmax : cap ≤ maxLen) (hcur : cur.size = cap * 1) (hm : m ≤ d.size) :
    OwnE eI (grow (putRow (Value.int .i64) (Sort.ahead w k) g 0 d) os) base (.slice (some ⟨g, 0, none⟩) m cap) (d.toList.take m) ∧ Below base w (grow (putRow (Value.int .i64) (Sort.ahead w k) g 0 d) os) := by
  have hlt : g < w.heap.size := (Array.getElem?_eq_some_iff.1 hg).1
  have hlen : (d.toList.take m).length = m := by simp; omega
  have hh : ∀ i, i < w.heap.size → (grow (putRow (Value.int .i64) (Sort.ahead w k) g 0 d) os).heap[i]? = (w.heap.modify g (onCells (putCells (Value.int .i64) 0 d)))[i]? := by
    intro i hi
    show ((w.heap.modify g (onCells (putCells (Value.int .i64) 0 d))) ++ os)[i]? = _
    rw [Array.getElem?_append_left (by rw [Array.size_modify]; exact hi)]
  constructor
  · refine ⟨by rw [flat_i, List.length_map]; show _ = _ * 1; omega, .inr ⟨g, cap, putCells (Value.int .i64) 0 d cur, by rw [hlen], hb, ?_, by rw [hlen]; omega, hmax, by simp [putCells, hcur], ?_⟩⟩
    · rw [hh g hlt, Array.getElem?_modify, if_pos rfl, hg]; rfl
    · rw [hlen, flat_i]
      apply List.ext_getElem?
      intro i
      rw [List.getElem?_take, List.getElem?_map, List.getElem?_take]
      by_cases hi : i < m
      · rw [if_pos (by simpa using hi), if_pos hi, Array.getElem?_toList, putCells, Array.getElem?_mapIdx]
        have h1 : i < cur.size := by omega
        have h2 : i < d.size := by omega
        rw [Array.getElem?_eq_getElem h1, Option.map_some, if_pos ⟨by omega, by omega⟩, Array.getElem?_toList, Array.getElem?_eq_getElem h2, Option.map_some, Nat.sub_zero, getElem!_pos d i h2]
      · rw [if_neg (by simpa using hi), if_neg hi]; rfl
  · refine ⟨rfl, rfl, rfl, ?_, fun i hi => ?_⟩
    · show w.heap.size ≤ ((w.heap.modify g _) ++ os).size
      simp
    · rw [hh i (by omega), Array.getElem?_modify, if_neg (by omega)]
theorem own_holds {w : World} {base g cap : Nat} {cur : Array Value} {l : List Int} (hg : w.heap[g]? = some (.cells cur 3 (0, 0))) (ht : cur.toList.take (l.length * 1) = eI.flat l) : Holds (Value.int .i64) w g 0 l.toArray := by
  intro j hj
  have hj' : j < l.length := by simpa using hj
  refine ⟨?_, frozen_of_row _ _ _ _ _ hg⟩
  rw [cell_of_row _ _ _ _ _ _ hg, Nat.zero_add]
  have h := congrArg (fun z : List Value => z[j]?) ht
  simp only [flat_i, List.getElem?_map, List.getElem?_take, Nat.mul_one, if_pos hj', Array.getElem?_toList] at h
  rw [h, List.getElem?_eq_getElem hj', Option.map_some, getElem!_pos l.toArray j hj]
  simp
attribute [local irreducible] Calls
theorem sort_own {w : World} {base : Nat} {v : Value} {l : List Int} (h : OwnE eI w base v l) (hsz : l.length ≤ 1000000) :
    Calls Tryd.prog 43 #[v] w fun e w' => e = .returned (.tuple #[]) ∧ OwnE eI w' base v (l.mergeSort fun x y => decide (x ≤ y)) ∧ Below base w w' := by
  rcases h.2 with ⟨rfl, h0⟩ | ⟨g, cap, cur, rfl, hb, hg, h1, h2, h3, h4⟩
  · have hl : l = [] := List.length_eq_zero_iff.1 h0
    subst hl
    refine (Tryd.slices_Sort_int_none none 0 w).mono ?_
    rintro e w' ⟨rfl, rfl⟩
    exact ⟨rfl, by simpa using h, Below.refl _ _⟩
  · refine (Tryd.slices_Sort_int g 0 cap l w (own_holds (cap := cap) (base := base) hg h4) (Array.getElem?_eq_some_iff.1 hg).1 (by omega)).mono ?_
    rintro e w' ⟨rfl, n, os, rfl⟩
    have hs : (l.mergeSort fun x y => decide (x ≤ y)).toArray.size = l.length := by simp
    obtain ⟨h5, h6⟩ := own_put (k := n) (os := os) (m := l.length) hg hb (d := (l.mergeSort fun x y => decide (x ≤ y)).toArray) (by rw [hs]; exact h1) h2 h3 (by rw [hs]; exact Nat.le_refl _)
    refine ⟨rfl, ?_, h6⟩
    have e : ((l.mergeSort fun x y => decide (x ≤ y)).toArray.toList.take l.length) = l.mergeSort fun x y => decide (x ≤ y) := List.take_of_length_le (by simp)
    rw [e] at h5
    exact h5
theorem compact_own {w : World} {base : Nat} {v : Value} {l : List Int} (h : OwnE eI w base v l) (hsz : l.length ≤ 1000000) :
    Calls Tryd.prog 44 #[v] w fun e w' => ∃ v', e = .returned v' ∧ OwnE eI w' base v' (Lib.compact l) ∧ Below base w w' := by
  rcases h.2 with ⟨rfl, h0⟩ | ⟨g, cap, cur, rfl, hb, hg, h1, h2, h3, h4⟩
  · have hl : l = [] := List.length_eq_zero_iff.1 h0
    subst hl
    refine (Tryd.slices_Compact_int_empty none 0 w).mono ?_
    rintro e w' ⟨rfl, rfl⟩
    exact ⟨_, rfl, by simpa [Lib.compact, Lib.compactUpTo] using h, Below.refl _ _⟩
  · refine (Tryd.slices_Compact_int g 0 cap l w (own_holds (cap := cap) (base := base) hg h4) (by omega) h1).mono ?_
    rintro e w' ⟨rfl, q, rfl⟩
    have hle : (Lib.compact l).length ≤ l.length := by
      unfold Lib.compact Lib.compactUpTo
      rw [List.length_map]
      exact Nat.le_trans (List.length_filter_le _ _) (by simp)
    have hs : (Lib.compact l ++ List.replicate (l.length - (Lib.compact l).length) 0).toArray.size = l.length := by simp; omega
    obtain ⟨h5, h6⟩ := own_put (k := q) (os := #[]) (m := (Lib.compact l).length) hg hb (d := (Lib.compact l ++ List.replicate (l.length - (Lib.compact l).length) 0).toArray) (by rw [hs]; exact h1) h2 h3 (by rw [hs]; exact hle)
    rw [grow_empty] at h5 h6
    refine ⟨_, rfl, ?_, h6⟩
    simpa using h5
end Go.Proofs.YtamdlkflcbefdaaDoor
