/- A key is padded and combined with a byte. -/
import Derived.Test.YtackbjbmadkkhaaDoorHashI
namespace Go.Proofs.YtackbjbmadkkhaaDoor
open Go.RowKit
set_option linter.unusedSimpArgs false
set_option linter.unusedVariables false
theorem zero_b64' : (Tryd.prog.info? 58).map (·.zero) = some (some (.agg (brow zb))) := by kernel_rfl
theorem zero_b64 (w : World) : (zeroValue 58).run Tryd.prog w = .ok (.agg (brow zb)) w := by
  have h := zero_b64'
  generalize brow zb = L at h ⊢
  cases hq : Tryd.prog.info? 58 with
  | none => rw [hq] at h; cases h
  | some i =>
    rw [hq] at h
    simp at h
    simp [zeroValue, typeInfo, hq, h]
/-- the key's bytes, i of them combined -/
def pki (k : List UInt8) (c : UInt8) (i : Nat) : List UInt8 := (padK k c).take i ++ (lay zb 0 k).drop i
theorem padK_len (k : List UInt8) (c : UInt8) : (padK k c).length = 64 := by unfold padK; rw [List.length_map, List.length_range]
theorem lay0_len (k : List UInt8) (hk : k.length ≤ 64) : (lay zb 0 k).length = 64 := lay_len _ _ _ rfl (by omega)
theorem lay0_at (k : List UInt8) (i : Nat) (hk : k.length ≤ 64) (hi : i < 64) : (lay zb 0 k)[i]? = some (byteAt k i) := by
  unfold lay byteAt
  rw [List.take_zero, List.nil_append, Nat.zero_add]
  by_cases h : i < k.length
  · rw [List.getElem?_append_left h, List.getElem?_eq_getElem h, List.getD_eq_getElem?_getD, List.getElem?_eq_getElem h]
    rfl
  · rw [List.getElem?_append_right (by omega), List.getElem?_drop, List.getD_eq_getElem?_getD, List.getElem?_eq_none (Nat.le_of_not_lt h)]
    have : zb[k.length + (i - k.length)]? = some 0 := by
      unfold zb
      rw [List.getElem?_replicate, if_pos (by omega)]
    rw [this]
    rfl
theorem pki_len (k : List UInt8) (c : UInt8) (i : Nat) (hk : k.length ≤ 64) (hi : i ≤ 64) : (pki k c i).length = 64 := by
  unfold pki
  rw [List.length_append, List.length_take, List.length_drop, padK_len, lay0_len k hk]
  omega
theorem pki_at (k : List UInt8) (c : UInt8) (i : Nat) (hk : k.length ≤ 64) (hi : i < 64) : (pki k c i)[i]? = some (byteAt k i) := by
  unfold pki
  have hl : ((padK k c).take i).length = i := by rw [List.length_take, padK_len]; omega
  rw [List.getElem?_append_right (by omega), hl, Nat.sub_self, List.getElem?_drop, Nat.add_zero, lay0_at k i hk hi]
theorem pki_set (k : List UInt8) (c : UInt8) (i : Nat) (hk : k.length ≤ 64) (hi : i < 64) : (brow (pki k c i)).setIfInBounds i (.int .u8 (B8 (byteAt k i ^^^ c))) = brow (pki k c (i + 1)) := by
  unfold brow
  apply Array.ext'
  rw [Array.toList_setIfInBounds]
  show (bcs (pki k c i)).set i (.int .u8 (B8 _)) = bcs (pki k c (i + 1))
  unfold bcs
  rw [← List.map_set (f := fun x => Value.int .u8 (B8 x))]
  congr 1
  unfold pki
  have hl : ((padK k c).take i).length = i := by rw [List.length_take, padK_len]; omega
  have hd : i < (lay zb 0 k).length := by rw [lay0_len k hk]; exact hi
  have hp : (padK k c)[i]? = some (byteAt k i ^^^ c) := by
    unfold padK
    rw [List.getElem?_map, List.getElem?_range hi]
    rfl
  rw [List.set_append_right _ _ (by omega), hl, Nat.sub_self, List.drop_eq_getElem_cons hd, List.set_cons_zero, List.take_add_one, hp]
  simp
theorem pki_all (k : List UInt8) (c : UInt8) (hk : k.length ≤ 64) : pki k c 64 = padK k c := by
  unfold pki
  rw [List.take_of_length_le (Nat.le_of_eq (padK_len k c)), List.drop_eq_nil_of_le (Nat.le_of_eq (lay0_len k hk)), List.append_nil]
/-- a row of bytes in memory is a slice -/
theorem row_rd {w : World} {g : Nat} {l : List UInt8} {T : TypeId} (hg : w.heap[g]? = some (.cells (brow l) T (0, 0))) (hl : l.length ≤ 1000) : RdE eB w (.slice (some ⟨g, 0, none⟩) l.length l.length) l := by
  refine ⟨_, l.length, rfl, Nat.le_refl _, by unfold maxLen; omega, fun _ => ⟨g, 0, rfl, (Array.getElem?_eq_some_iff.1 hg).1, fun j u hu => ?_⟩⟩
  rw [flat_b] at hu
  rw [Nat.zero_add, cell_of_row _ _ _ _ _ _ hg, ← hu]
  simp [brow, bcs]
/-- the padded key in its block -/
structure PW (w : World) (k : List UInt8) (c : UInt8) (i : Nat) (wr : World) : Prop where
  b : wr.heap[w.heap.size]? = some (.cells (brow (pki k c i)) 58 (0, 0))
  below : Below w.heap.size w wr
theorem PW.next {w wr : World} {k : List UInt8} {c : UInt8} {i : Nat} (h : PW w k c i wr) (hk : k.length ≤ 64) (hi : i < 64) : PW w k c (i + 1) (wr.setCell ⟨w.heap.size, i, none⟩ (.int .u8 (B8 (byteAt k i ^^^ c)))) := by
  rw [setCell_rowC _ _ _ _ _ _ _ h.b, pki_set k c i hk hi]
  exact ⟨setRow_heap _ _ _ _ _ _ h.b, h.below.trans (below_row (Nat.le_refl _))⟩
theorem pki_zero (k : List UInt8) (c : UInt8) : pki k c 0 = lay zb 0 k := by simp [pki]
theorem brow_copy (k : List UInt8) (hk : k.length ≤ 64) : ((brow zb).toList.take 0 ++ bcs (k.take k.length) ++ (brow zb).toList.drop (0 + k.length)).toArray = brow (lay zb 0 k) := by
  unfold brow lay bcs
  simp [zb]
attribute [local irreducible] Calls brow
set_option maxRecDepth 100000 in
set_option maxHeartbeats 2000000 in
theorem padded_c (k : List UInt8) (c : UInt8) (g : Nat) (w : World) (hg : w.cell? ⟨g, 0, none⟩ = some (.string ⟨k.toArray⟩)) (hk : k.length ≤ 64) :
    Calls Tryd.prog 32 #[.int .u8 (B8 c), .pointer (some ⟨g, 0, none⟩)] w fun e w' => e = .returned (.string ⟨(padK k c).toArray⟩) ∧ Below w.heap.size w w' := by
  have hz := zero_b64
  have hlt : g < w.heap.size := by
    unfold World.cell? at hg
    cases hb : w.heap[g]? with
    | none => simp [hb] at hg
    | some o => exact (Array.getElem?_eq_some_iff.1 hb).1
  have hK := Lib.hid hk
  have HB : Hid (Below w.heap.size w (w.alloc (.cells (brow zb) 58))) := Lib.hid ((Below.refl _ _).alloc (Nat.le_refl _) _)
  have HG : Hid ((w.alloc (.cells (brow zb) 58)).heap[w.heap.size]? = some (.cells (brow zb) 58 (0, 0))) := Lib.hid (heap_last _ _ _ rfl)
  have hg2 : (w.alloc (.cells (brow zb) 58)).cell? ⟨g, 0, none⟩ = some (.string ⟨k.toArray⟩) := by rw [HB.out.cell (p := ⟨g, 0, none⟩) hlt]; exact hg
  have hmin : Nat.min k.length 64 = k.length := Nat.min_eq_left hk
  have HM := Lib.hid hmin
  clear hk hmin hg
  go_enter Tryd.func32, Tryd.ntmps32
  go_wp2
  generalize w.alloc (.cells (brow zb) 58) = wa at hg2 HB HG ⊢
  refine tail0 2 (by kernel_rfl) (by kernel_rfl) ?_
  simp only [List.take_succ_cons, List.take_zero, List.drop_succ_cons, List.drop_zero]
  repeat (go_big_quiet_step (fail))
  refine wpQuiet_nil ?_
  rintro _ ⟨n, rfl⟩
  go_wp2_with (refine cp_str rfl (.tmp 6) (.tmp 7) rfl k w.heap.size 0 64 64 k.length rfl rfl (brow zb) 58 HG.out HM.out (by rw [brow_size]; have := hK.out; simp [zb]; omega) ?_; intro wb hgb hob hbb; have H1 : Hid (PW w k c 0 wb) := Lib.hid ⟨by rw [pki_zero, ← brow_copy k hK.out]; exact hgb, HB.out.trans ((below_drewN n (Below.refl _ _)).trans (hbb _ (Nat.le_refl _)))⟩; clear hgb hob hbb)
  go_loopw [9] (fun o wr => ∃ i : Nat, i ≤ 64 ∧ o = .int .i64 i ∧ Hid (PW w k c i wr)) (fun o _ => 64 - (intOf o).toNat)
  case atStart => exact ⟨0, by omega, rfl, H1⟩
  case round =>
    obtain ⟨i, hi, rfl, hpw⟩ := hrel
    by_cases h64 : i < 64
    · have hfz := frozen_of_row _ _ i _ _ hpw.out.b
      have hcell : wr.cell? ⟨w.heap.size, i, none⟩ = some (.int .u8 (B8 (byteAt k i))) := by
        rw [cell_of_row _ _ _ _ _ _ hpw.out.b]
        have h := pki_at k c i hK.out h64
        rw [brow_at _ _ (by rw [pki_len k c i hK.out hi]; exact h64)]
        unfold byteAt at h ⊢
        rw [List.getD_eq_getElem?_getD, h]
        rfl
      go_wp2
      go_roundw
      case rel => exact ⟨i + 1, h64, by go_num, Lib.hid (hpw.out.next hK.out h64)⟩
      case measure => simp [intOf]; omega
    · have h64' : i = 64 := by omega
      subst h64'
      have hb : Hid (wr.heap[w.heap.size]? = some (.cells (brow (padK k c)) 58 (0, 0))) := Lib.hid (by rw [← pki_all k c hK.out]; exact hpw.out.b)
      have hcv : (convert 35 9 (.slice (some ⟨w.heap.size, 0, none⟩) 64 64)).run Tryd.prog wr = .ok (.string ⟨(padK k c).toArray⟩) wr := by
        have h := conv_e (row_rd hb.out (by rw [padK_len]; omega))
        rw [padK_len] at h
        exact h
      clear h64 hi
      go_wp2
      go_ret
      exact ⟨rfl, hpw.out.below⟩
end Go.Proofs.YtackbjbmadkkhaaDoor
