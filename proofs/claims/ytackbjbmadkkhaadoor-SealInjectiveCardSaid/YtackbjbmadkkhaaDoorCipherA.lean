/- The cipher's functions, each by what it returns. -/
import Derived.Test.YtackbjbmadkkhaaDoorProg
import Derived.Test.YtackbjbmadkkhaaDoorBase
import Derived.Test.YtackbjbmadkkhaaDoorPureC3
import Derived.Test.YtackbjbmadkkhaaDoorRegion
namespace Go.Proofs.YtackbjbmadkkhaaDoor
open Go.RowKit
set_option linter.unusedSimpArgs false
set_option linter.unusedVariables false

/-- a row of words in memory -/
def row (s : List UInt32) : Array Value := (s.map fun x => Value.int .u32 (W32 x)).toArray
def w16 (s : List UInt32) (i : Nat) : UInt32 := s.getD i 0
@[go_sem] theorem row_size (s : List UInt32) : (row s).size = s.length := by simp [row]
@[go_sem] theorem row_get (s : List UInt32) (i : Nat) (h : i < s.length) : (row s)[i]? = some (.int .u32 (W32 (w16 s i))) := by
  simp [row, w16, List.getElem?_eq_getElem h]
@[go_sem] theorem row_get' (s : List UInt32) (i : Nat) (h : i < (row s).size) : (row s)[i] = .int .u32 (W32 (w16 s i)) := by
  have h' : i < s.length := by rwa [row_size] at h
  have := row_get s i h'
  rw [Array.getElem?_eq_getElem h] at this
  exact Option.some.inj this
@[go_sem] theorem row_set (s : List UInt32) (i : Nat) (x : UInt32) : (row s).setIfInBounds i (.int .u32 (W32 x)) = row (s.set i x) := by
  simp [row, List.map_set]
theorem w16_set (s : List UInt32) (i j : Nat) (x : UInt32) (h : i < s.length) : w16 (s.set i x) j = if i = j then x else w16 s j := by
  unfold w16; exact C3.getD_set s i j x h

theorem setRow_setRow (w : World) (g : Nat) (c d : Array Value) : (w.setRow g c).setRow g d = w.setRow g d := by
  unfold World.setRow
  simp only [World.mk.injEq, and_true]
  apply Array.ext_getElem?
  intro i
  simp only [Array.getElem?_modify]
  by_cases h : g = i
  · simp only [h, if_true]
    cases w.heap[i]? with
    | none => rfl
    | some o => cases o <;> rfl
  · simp [h]
theorem setCell_row (w : World) (g i : Nat) (cs : Array Value) (T : TypeId) (fr : Nat × Nat) (v : Value) (h : w.heap[g]? = some (.cells cs T fr)) : w.setCell ⟨g, i, none⟩ v = w.setRow g (cs.setIfInBounds i v) := by
  unfold World.setCell World.setRow
  simp only [World.mk.injEq, and_true]
  apply Array.ext_getElem?
  intro j
  simp only [Array.getElem?_modify]
  by_cases h' : g = j
  · subst h'
    simp [h]
  · simp [h']
theorem setCell_setRow (w : World) (g i : Nat) (old cs : Array Value) (T : TypeId) (v : Value) (h : w.heap[g]? = some (.cells old T (0, 0))) : (w.setRow g cs).setCell ⟨g, i, none⟩ v = w.setRow g (cs.setIfInBounds i v) := by
  rw [setCell_row _ _ _ _ _ _ _ (setRow_heap w g old cs T _ h), setRow_setRow]
theorem and31 (n : Nat) (h : n < 32) : bits BinOp.and IntKind.u64 (n : Int) 31 = n := by
  have : bits BinOp.and IntKind.u64 (n : Int) ((31 : Nat) : Int) = ((n &&& 31 : Nat) : Int) := u64_and_nat n 31 (by omega) (by omega)
  have e : n &&& 31 = n := by rw [Nat.and_two_pow_sub_one_eq_mod n 5]; omega
  rw [e] at this; exact this

set_option maxHeartbeats 400000 in
theorem rotl32 (x : UInt32) (k : Int) (hk1 : 0 ≤ k) (hk2 : k < 32) (w : World) :
    Calls Tryd.prog 68 #[.int .u32 (W32 x), .int .i64 k] w fun e w' => e = .returned (.int .u32 (W32 (C3.rotl x k.toNat))) ∧ w' = w := by
  obtain ⟨n, rfl⟩ := Int.eq_ofNat_of_zero_le hk1
  have hb : bits BinOp.and IntKind.u64 (n : Int) 31 = n := and31 n (by omega)
  have e1 := u32_shl' x n
  have e2 := u32_shr' x (32 - n)
  go_enter Tryd.func68, Tryd.ntmps68
  go_wp2
  go_ret
  exact ⟨ret_u32 rfl, rfl⟩
set_option maxHeartbeats 400000 in
theorem rotl_ref (x : UInt32) (k : Int) (hk1 : 0 ≤ k) (hk2 : k < 32) (w : World) :
    Calls Tryd.prog 69 #[.int .u32 (W32 x), .int .i64 k] w fun e w' => e = .returned (.int .u32 (W32 (C3.rotl x k.toNat))) ∧ ∃ n, w' = w.drewN n := by
  obtain ⟨n, rfl⟩ := Int.eq_ofNat_of_zero_le hk1
  have e1 := u32_shl' x n
  have e2 := u32_shr' x (32 - n)
  go_enter Tryd.func69, Tryd.ntmps69
  go_wp2
  go_quiet (fail)
  go_wp2
  go_ret
  exact ⟨ret_u32 rfl, _, rfl⟩

set_option maxHeartbeats 4000000 in
theorem quarter_c (w : World) (s : List UInt32) (T : TypeId) (b i j k l : Nat) (hrow : w.heap[b]? = some (.cells (row s) T (0, 0))) (hi : i < s.length) (hj : j < s.length) (hk : k < s.length) (hl : l < s.length)
    (h1 : ¬ i = j) (h2 : ¬ i = k) (h3 : ¬ i = l) (h4 : ¬ j = k) (h5 : ¬ j = l) (h6 : ¬ k = l) :
    Calls Tryd.prog 65 #[.pointer (some ⟨b, i, none⟩), .pointer (some ⟨b, j, none⟩), .pointer (some ⟨b, k, none⟩), .pointer (some ⟨b, l, none⟩)] w fun e w' => e = .returned (.tuple #[]) ∧ ∃ n, w' = (w.setRow b (row (C3.qset s i j k l))).drewN n := by
  have hc : ∀ cs i, (w.setRow b cs).cell? ⟨b, i, none⟩ = cs[i]? := fun cs i => cell_setRow_same w b i _ cs T _ hrow
  have hs : ∀ cs i v, (w.setRow b cs).setCell ⟨b, i, none⟩ v = w.setRow b (cs.setIfInBounds i v) := fun cs i v => setCell_setRow w b i _ cs T v hrow
  have hf : ∀ cs i, (w.setRow b cs).frozen? ⟨b, i, none⟩ = false := fun cs i => frozen_of_row _ _ i _ _ (setRow_heap w b _ cs T _ hrow)
  rw [show w = w.setRow b (row s) from (setRow_self w b _ _ _ hrow).symm]
  have hw := w16_set
  have g1 : ¬ j = i := fun e => h1 e.symm
  have g2 : ¬ k = i := fun e => h2 e.symm
  have g3 : ¬ l = i := fun e => h3 e.symm
  have g4 : ¬ k = j := fun e => h4 e.symm
  have g5 : ¬ l = j := fun e => h5 e.symm
  have g6 : ¬ l = k := fun e => h6 e.symm
  clear hrow
  go_enter Tryd.func65, Tryd.ntmps65
  go_wp2
  first | refine tailD 8 (by kernel_rfl) (by kernel_rfl) ?_ | refine tail0 8 (by kernel_rfl) (by kernel_rfl) ?_
  simp only [List.take_succ_cons, List.take_zero, List.drop_succ_cons, List.drop_zero]
  repeat (quiet_step ((go_at_call 68; exact Calls.quiet_of_same (rotl32 _ _ (by omega) (by omega) _))))
  refine wpQuiet_nil ?_
  rintro _ ⟨nq, rfl⟩
  go_wp2
  first | refine tailD 10 (by kernel_rfl) (by kernel_rfl) ?_ | refine tail0 10 (by kernel_rfl) (by kernel_rfl) ?_
  simp only [List.take_succ_cons, List.take_zero, List.drop_succ_cons, List.drop_zero]
  repeat (quiet_step ((go_at_call 68; exact Calls.quiet_of_same (rotl32 _ _ (by omega) (by omega) _))))
  refine wpQuiet_nil ?_
  rintro _ ⟨nq, rfl⟩
  go_wp2
  first | refine tailD 8 (by kernel_rfl) (by kernel_rfl) ?_ | refine tail0 8 (by kernel_rfl) (by kernel_rfl) ?_
  simp only [List.take_succ_cons, List.take_zero, List.drop_succ_cons, List.drop_zero]
  repeat (quiet_step ((go_at_call 68; exact Calls.quiet_of_same (rotl32 _ _ (by omega) (by omega) _))))
  refine wpQuiet_nil ?_
  rintro _ ⟨nq, rfl⟩
  go_wp2
  first | refine tailD 10 (by kernel_rfl) (by kernel_rfl) ?_ | refine tail0 10 (by kernel_rfl) (by kernel_rfl) ?_
  simp only [List.take_succ_cons, List.take_zero, List.drop_succ_cons, List.drop_zero]
  repeat (quiet_step ((go_at_call 68; exact Calls.quiet_of_same (rotl32 _ _ (by omega) (by omega) _))))
  refine wpQuiet_nil ?_
  rintro _ ⟨nq, rfl⟩
  go_wp2
  first | refine tailD 8 (by kernel_rfl) (by kernel_rfl) ?_ | refine tail0 8 (by kernel_rfl) (by kernel_rfl) ?_
  simp only [List.take_succ_cons, List.take_zero, List.drop_succ_cons, List.drop_zero]
  repeat (quiet_step ((go_at_call 68; exact Calls.quiet_of_same (rotl32 _ _ (by omega) (by omega) _))))
  refine wpQuiet_nil ?_
  rintro _ ⟨nq, rfl⟩
  go_wp2
  first | refine tailD 10 (by kernel_rfl) (by kernel_rfl) ?_ | refine tail0 10 (by kernel_rfl) (by kernel_rfl) ?_
  simp only [List.take_succ_cons, List.take_zero, List.drop_succ_cons, List.drop_zero]
  repeat (quiet_step ((go_at_call 68; exact Calls.quiet_of_same (rotl32 _ _ (by omega) (by omega) _))))
  refine wpQuiet_nil ?_
  rintro _ ⟨nq, rfl⟩
  go_wp2
  first | refine tailD 8 (by kernel_rfl) (by kernel_rfl) ?_ | refine tail0 8 (by kernel_rfl) (by kernel_rfl) ?_
  simp only [List.take_succ_cons, List.take_zero, List.drop_succ_cons, List.drop_zero]
  repeat (quiet_step ((go_at_call 68; exact Calls.quiet_of_same (rotl32 _ _ (by omega) (by omega) _))))
  refine wpQuiet_nil ?_
  rintro _ ⟨nq, rfl⟩
  go_wp2
  first | refine tailD 10 (by kernel_rfl) (by kernel_rfl) ?_ | refine tail0 10 (by kernel_rfl) (by kernel_rfl) ?_
  simp only [List.take_succ_cons, List.take_zero, List.drop_succ_cons, List.drop_zero]
  repeat (quiet_step ((go_at_call 68; exact Calls.quiet_of_same (rotl32 _ _ (by omega) (by omega) _))))
  refine wpQuiet_nil ?_
  rintro _ ⟨nq, rfl⟩
  go_wp2
  go_end0
  refine ⟨rfl, nq, ?_⟩
  rw [setRow_setRow, C3.set_chain _ _ _ _ _ h1 h2 h3 h4 h5 h6]
  rfl

end Go.Proofs.YtackbjbmadkkhaaDoor
