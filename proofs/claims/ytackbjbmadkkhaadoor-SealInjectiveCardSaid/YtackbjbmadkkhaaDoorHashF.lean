/- What a stream holds behind a piece of text, in plain words. -/
import Derived.Test.YtackbjbmadkkhaaDoorHashE
import Derived.Deep.MidRow
namespace Go.Proofs.YtackbjbmadkkhaaDoor
open Go.RowKit
set_option linter.unusedSimpArgs false
set_option linter.unusedVariables false
theorem blks_pre (m x : List UInt8) (n : Nat) (h : 64 * n ≤ m.length) : blks (m ++ x) n = blks m n := by
  induction n with
  | zero => rfl
  | succ n ih =>
    rw [blks, blks, ih (by omega)]
    congr 1
    rw [List.drop_append_of_le_length (by omega), List.take_append_of_le_length (by rw [List.length_drop]; omega)]
/-- the last block behind a piece x that is laid at a -/
def lay (bk : List UInt8) (a : Nat) (x : List UInt8) : List UInt8 := bk.take a ++ x ++ bk.drop (a + x.length)
theorem lay_len (bk : List UInt8) (a : Nat) (x : List UInt8) (hb : bk.length = 64) (h : a + x.length ≤ 64) : (lay bk a x).length = 64 := by
  simp [lay, hb]; omega
theorem lay_take (bk : List UInt8) (a : Nat) (x : List UInt8) (hb : bk.length = 64) (h : a + x.length ≤ 64) : (lay bk a x).take (a + x.length) = bk.take a ++ x := by
  unfold lay
  rw [List.take_append_of_le_length (by simp [hb]; omega), List.take_of_length_le (by simp [hb]; omega)]
theorem fillB_lay (x : List UInt8) (bk : List UInt8) (n : Nat) (hb : bk.length = 64) (h : n % 64 + x.length ≤ 64) : fillB bk n x = lay bk (n % 64) x := by
  induction x generalizing bk n with
  | nil => simp [fillB, lay]
  | cons c x ih =>
    rw [fillB]
    cases x with
    | nil =>
      simp only [fillB, lay, List.length_cons, List.length_nil]
      rw [List.set_eq_take_append_cons_drop, if_pos (by omega)]
      simp
    | cons d x =>
      simp only [List.length_cons] at h
      have e : (n + 1) % 64 = n % 64 + 1 := by omega
      rw [ih _ _ (by rw [List.length_set]; exact hb) (by simp only [List.length_cons]; omega), e]
      unfold lay
      have e1 : (bk.set (n % 64) c).take (n % 64 + 1) = bk.take (n % 64) ++ [c] := by
        rw [List.set_eq_take_append_cons_drop, if_pos (by omega), List.take_append, List.length_take, hb, Nat.min_eq_left (by omega), List.take_of_length_le (by rw [List.length_take]; omega), show n % 64 + 1 - n % 64 = 1 by omega]
        rfl
      have e2 : (bk.set (n % 64) c).drop (n % 64 + 1 + (d :: x).length) = bk.drop (n % 64 + (c :: d :: x).length) := by
        rw [List.drop_set_of_lt (by simp only [List.length_cons]; omega)]
        congr 1
        simp only [List.length_cons]
        omega
      rw [e1, e2]
      simp
theorem tailB_lay (N x : List UInt8) (h : N.length % 64 + x.length ≤ 64) : tailB (N ++ x) = lay (tailB N) (N.length % 64) x := by
  unfold tailB
  rw [fillB_append, Nat.zero_add, fillB_lay _ _ _ (fillB_len _ _ _) h]
theorem st_part (N x bk : List UInt8) (hb : bk.length = 64) (ht : bk.take (N.length % 64) = N.drop (64 * (N.length / 64))) (h : N.length % 64 + x.length < 64) :
    (N ++ x).length / 64 = N.length / 64 ∧ (N ++ x).length % 64 = N.length % 64 + x.length ∧ blks (N ++ x) (N.length / 64) = blks N (N.length / 64) ∧ (lay bk (N.length % 64) x).take (N.length % 64 + x.length) = (N ++ x).drop (64 * (N.length / 64)) := by
  refine ⟨by rw [List.length_append]; omega, by rw [List.length_append]; omega, blks_pre _ _ _ (by omega), ?_⟩
  rw [lay_take _ _ _ hb (by omega), ht, List.drop_append_of_le_length (by omega)]
theorem st_full (N x bk : List UInt8) (hb : bk.length = 64) (ht : bk.take (N.length % 64) = N.drop (64 * (N.length / 64))) (h : N.length % 64 + x.length = 64) :
    (N ++ x).length / 64 = N.length / 64 + 1 ∧ (N ++ x).length % 64 = 0 ∧ blks (N ++ x) (N.length / 64 + 1) = cmpr (blks N (N.length / 64)) (lay bk (N.length % 64) x) ∧ (N ++ x).drop (64 * (N.length / 64 + 1)) = [] := by
  refine ⟨by rw [List.length_append]; omega, by rw [List.length_append]; omega, ?_, List.drop_eq_nil_of_le (by rw [List.length_append]; omega)⟩
  rw [blks, blks_pre _ _ _ (by omega)]
  congr 1
  have h1 := lay_take bk (N.length % 64) x hb (by omega)
  rw [h, List.take_of_length_le (by rw [lay_len _ _ _ hb (by omega)]; omega), ht] at h1
  rw [h1, List.drop_append_of_le_length (by omega), List.take_of_length_le (by rw [List.length_append, List.length_drop]; omega)]
theorem stc_list (s : HS) (bk : List UInt8) (n : Nat) : (stc s bk n).toList = (hs s).map (fun x => Value.int .u32 (W32 x)) ++ (bcs bk ++ [Value.int .u64 n]) := by
  simp [stc, bcs]
theorem stc_copy (s : HS) (bk x : List UInt8) (n a : Nat) (hb : bk.length = 64) (h : a + x.length ≤ 64) :
    ((stc s bk n).toList.take (8 + a) ++ bcs x ++ (stc s bk n).toList.drop (8 + a + x.length)).toArray = stc s (lay bk a x) n := by
  apply Array.ext'
  rw [stc_list, stc_list]
  have h8 : ((hs s).map (fun x => Value.int .u32 (W32 x))).length = 8 := by rw [List.length_map, hs_len]
  generalize (hs s).map (fun x => Value.int .u32 (W32 x)) = H at h8
  have e1 : (H ++ (bcs bk ++ [Value.int .u64 n])).take (8 + a) = H ++ (bcs bk).take a := by
    rw [List.take_append, h8, List.take_of_length_le (by omega), Nat.add_sub_cancel_left, List.take_append_of_le_length (by rw [bcs_len]; omega)]
  have e2 : (H ++ (bcs bk ++ [Value.int .u64 n])).drop (8 + a + x.length) = (bcs bk).drop (a + x.length) ++ [Value.int .u64 n] := by
    rw [List.drop_append, h8, List.drop_eq_nil_of_le (by omega), List.nil_append, show 8 + a + x.length - 8 = a + x.length by omega, List.drop_append_of_le_length (by rw [bcs_len]; omega)]
  rw [e1, e2]
  simp [lay, bcs]
theorem stc_set (s : HS) (bk : List UInt8) (n m : Nat) (hb : bk.length = 64) : (stc s bk n).setIfInBounds 72 (.int .u64 m) = stc s bk m := by
  apply Array.ext'
  rw [Array.toList_setIfInBounds, stc_list, stc_list]
  have h8 : ((hs s).map (fun x => Value.int .u32 (W32 x))).length = 8 := by rw [List.length_map, hs_len]
  generalize (hs s).map (fun x => Value.int .u32 (W32 x)) = H at h8
  rw [List.set_append_right _ _ (by omega), h8, List.set_append_right _ _ (by rw [bcs_len]; omega), bcs_len, hb]
  rfl
theorem stc_head (s s' : HS) (bk : List UInt8) (n : Nat) : ((stc s bk n).toList.take 0 ++ (row (hs s')).toList ++ (stc s bk n).toList.drop 8).toArray = stc s' bk n := by
  apply Array.ext'
  rw [stc_list, stc_list]
  have h8 : ((hs s).map (fun x => Value.int .u32 (W32 x))).length = 8 := by rw [List.length_map, hs_len]
  have hr : (row (hs s')).toList = (hs s').map (fun x => Value.int .u32 (W32 x)) := by simp [row]
  rw [hr]
  generalize (hs s).map (fun x => Value.int .u32 (W32 x)) = H at h8
  rw [List.drop_append, h8, List.drop_eq_nil_of_le (by omega)]
  simp
/-- a new hash value is stored into a stream -/
theorem st_head {ops : Array Oper} {rest : List Oper} {o : Oper} {a : Act} {w : World} {Q : Exit → Act → World → Prop} (hgd : o.guard = none) (x y : Operand) (ho : o.op = .store 60 x y)
    (g : Nat) (s s' : HS) (bk : List UInt8) (n : Nat) (hx : a.eval x = .pointer (some ⟨g, 0, none⟩)) (hy : a.eval y = .agg (row (hs s'))) (hb : bk.length = 64) (hg : w.heap[g]? = some (.cells (stc s bk n) 63 (0, 0)))
    (h : ∀ w', w'.heap[g]? = some (.cells (stc s' bk n) 63 (0, 0)) → (∀ k, k ≠ g → w'.heap[k]? = w.heap[k]?) → (∀ B, B ≤ g → Below B w w') → wpList Tryd.prog ops Q rest (a.put o.dst undef) w') : wpList Tryd.prog ops Q (o :: rest) a w := by
  refine wpList_plain hgd fun K hK => ?_
  have hl : (row (hs s')).toList.length = 8 := by simp [row, hs_len]
  have hst := run_storeCells_at Tryd.prog g 0 63 (row (hs s')).toList 0 (stc s bk n) w hg (by rw [hl, stc_size _ _ _ hb]; omega) (fun v hv => by
    have := row_one (hs s')
    rw [Array.all_eq_true_iff_forall_mem] at this
    exact this v (by simpa using hv))
  rw [hl] at hst
  simp only [Nat.add_zero, Nat.zero_add] at hst
  rw [stc_head] at hst
  have hi := size8 (hs s') (hs_len s')
  cases hq : Tryd.prog.info? 60 with
  | none => rw [hq] at hi; cases hi
  | some i =>
    have hz : (row (hs s')).size = i.size := by rw [hq] at hi; simpa using hi.symm
    have hc : (Value.agg (row (hs s'))).cells = row (hs s') := rfl
    have h8 : (row (hs s')).size = 8 := by rw [row_size, hs_len]
    unfold Oper.wp
    simp [execOp, ho, hx, hy, Instr.storeAt, Instr.sureAddr, storeVar, typeInfo, hq, ← hz, hc, h8, hst, Result.andThen]
    exact hK _ _ (h _ (setRow_heap _ _ _ _ _ _ hg) (fun k hk => setRow_else _ _ _ _ hk) (fun B hB => below_row hB))
end Go.Proofs.YtackbjbmadkkhaaDoor
