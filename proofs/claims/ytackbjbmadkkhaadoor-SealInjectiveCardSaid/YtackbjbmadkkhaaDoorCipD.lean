/- The rounds of the cipher. -/
import Derived.Test.YtackbjbmadkkhaaDoorCipB
namespace Go.Proofs.YtackbjbmadkkhaaDoor
open Go.RowKit
set_option linter.unusedSimpArgs false
set_option linter.unusedVariables false

set_option maxHeartbeats 4000000 in
theorem rounds_c (s : List UInt32) (hl : s.length = 16) (w : World) :
    Calls Tryd.prog 56 #[.agg (row s)] w fun e w' => e = .returned (.agg (row (C3.rounds s 10))) ∧ Below w.heap.size w w' := by
  go_enter Tryd.func56, Tryd.ntmps56
  go_wp2
  go_loopw [5] (fun i wr => ∃ m : Nat, m ≤ 10 ∧ i = .int .i64 m ∧ ∃ n, wr = ((w.alloc (.cells (row (C3.rounds s m)) 71)).alloc (.cells zero16 71)).drewN n) (fun i _ => 10 - (intOf i).toNat)
  case atStart => exact ⟨0, by omega, rfl, 0, rfl⟩
  case round =>
    obtain ⟨m, hm, rfl, n, rfl⟩ := hrel
    by_cases hlt : m < 10
    · have hd : decide ((m : Int) < 10) = true := by simp; omega
      go_wp2
      go_loopw [7] (fun i wr => ∃ k : Nat, k ≤ 4 ∧ i = .int .i64 k ∧ ∃ n, wr = ((w.alloc (.cells (row (C3.qk (C3.rounds s m) k)) 71)).alloc (.cells zero16 71)).drewN n) (fun i _ => 4 - (intOf i).toNat)
      case atStart => exact ⟨0, by omega, rfl, n, rfl⟩
      case round =>
        obtain ⟨k, hk, rfl, n, rfl⟩ := hrel
        have hlen : (C3.qk (C3.rounds s m) k).length = 16 := by rw [C3.length_qk, C3.length_rounds, hl]
        by_cases hlt2 : k < 4
        · have c4 : 4 + k < 16 := by omega
          have c8 : 8 + k < 16 := by omega
          have c12 : 12 + k < 16 := by omega
          have c0 : k < 16 := by omega
          go_wp2
          refine tailD 11 (by kernel_rfl) (by kernel_rfl) ?_
          simp only [List.take_succ_cons, List.take_zero, List.drop_succ_cons, List.drop_zero]
          repeat (go_big_quiet_step (fail))
          refine wpQuiet_nil ?_
          rintro _ ⟨nq, rfl⟩
          have HQ := Lib.hid (C3.qk_lo (C3.rounds s m) k hlt2)
          go_wp2_with (go_at_call 65; refine (quarter_c _ (C3.qk (C3.rounds s m) k) 71 _ _ _ _ _ (heap2_first _ _ _ _) (by omega) (by omega) (by omega) (by omega) (by omega) (by omega) (by omega) (by omega) (by omega) (by omega)).mono ?_; rintro e w' ⟨rfl, n2, rfl⟩)
          go_roundw
          case rel => exact ⟨k + 1, by omega, by go_num, nq + n2, by rw [HQ.out]⟩
          case measure => simp [intOf]; omega
        · have he : k = 4 := by omega
          have HE := Lib.hid he
          clear he
          have hd2 : decide ((k : Int) < 4) = false := by simp; omega
          go_wp2
          go_loopw [23] (fun i wr => ∃ k : Nat, k ≤ 4 ∧ i = .int .i64 k ∧ ∃ n, wr = ((w.alloc (.cells (row (C3.qk (C3.rounds s m) (4 + k))) 71)).alloc (.cells zero16 71)).drewN n) (fun i _ => 4 - (intOf i).toNat)
          case atStart => exact ⟨0, by omega, rfl, n, by rw [HE.out]⟩
          case round =>
            clear hk hlen hlt2
            obtain ⟨k, hk, rfl, n, rfl⟩ := hrel
            have hlen : (C3.qk (C3.rounds s m) (4 + k)).length = 16 := by rw [C3.length_qk, C3.length_rounds, hl]
            by_cases hlt2 : k < 4
            · have d1 : (k + 1) % 4 < 4 := Nat.mod_lt _ (by omega)
              have d2 : (k + 2) % 4 < 4 := Nat.mod_lt _ (by omega)
              have d3 : (k + 3) % 4 < 4 := Nat.mod_lt _ (by omega)
              go_wp2
              refine tailD 17 (by kernel_rfl) (by kernel_rfl) ?_
              simp only [List.take_succ_cons, List.take_zero, List.drop_succ_cons, List.drop_zero]
              repeat (go_big_quiet_step (fail))
              refine wpQuiet_nil ?_
              rintro _ ⟨nq, rfl⟩
              have HQ := Lib.hid (C3.qk_hi (C3.rounds s m) k hlt2)
              go_wp2_with (go_at_call 65; refine (quarter_c _ (C3.qk (C3.rounds s m) (4 + k)) 71 _ _ _ _ _ (heap2_first _ _ _ _) (by omega) (by omega) (by omega) (by omega) (by omega) (by omega) (by omega) (by omega) (by omega) (by omega)).mono ?_; rintro e w' ⟨rfl, n2, rfl⟩)
              go_roundw
              case rel => exact ⟨k + 1, by omega, by go_num, nq + n2, by rw [HQ.out]⟩
              case measure => simp [intOf]; omega
            · have he : k = 4 := by omega
              have HE := Lib.hid he
              clear he
              go_wp2
              go_roundw
              case rel => exact ⟨m + 1, by omega, by go_num, n, by rw [HE.out]; rfl⟩
              case measure => simp [intOf]; omega
    · have hlen : (C3.rounds s m).length = 16 := by rw [C3.length_rounds, hl]
      have he : m = 10 := by omega
      have HE := Lib.hid he
      clear he
      go_wp2_with (first
            | (refine ld_row rfl (.tmp 1) rfl _ rfl _ 71 (heap2_first _ _ _ _) hlen ?_)
            | (refine st_row rfl (.tmp 2) (.tmp 46) rfl _ _ rfl rfl 71 _ (heap2_second _ _ _ _) rfl hlen ?_))
      refine bodyPost_ret (v := .agg (row _)) (res_row rfl _ _ _ _ _ rfl (setRow_heap _ _ _ _ _ _ (heap2_second _ _ _ _)) hlen) rfl ⟨by rw [HE.out], ?_⟩
      exact below_setRow (below_drewN _ (((Below.refl _ _).alloc (Nat.le_refl _) _).alloc (by simp) _)) (by omega) _

/-- the words of the quarter rounds, as they lie in memory behind Order -/
def OrderAt (w : World) (lo g : Nat) : Prop := ∀ k, k < 8 → ∃ b, lo ≤ b ∧ b < w.heap.size ∧ w.cell? ⟨g, k, none⟩ = some (.slice (some ⟨b, 0, none⟩) 4 4) ∧
  ∀ j, j < 4 → w.cell? ⟨b, j, none⟩ = some (.int .i64 ((C3.order.getD k []).getD j 0 : Nat))
theorem OrderAt.keep {w w' : World} {lo g : Nat} (h : OrderAt w lo g) (hg : lo ≤ g) (hg2 : g < w.heap.size) (hs : w.heap.size ≤ w'.heap.size) (hb : ∀ b, lo ≤ b → b < w.heap.size → w'.heap[b]? = w.heap[b]?) : OrderAt w' lo g := by
  intro k hk
  obtain ⟨b, h1, h2, h3, h4⟩ := h k hk
  refine ⟨b, h1, by omega, ?_, fun j hj => ?_⟩
  · rw [← h3]; exact World.cell?_of_block (hb g hg hg2)
  · rw [← h4 j hj]; exact World.cell?_of_block (hb b h1 h2)
set_option maxHeartbeats 1000000 in
theorem order_c (w : World) : Calls Tryd.prog 66 #[] w fun e w' => ∃ g, e = .returned (.slice (some ⟨g, 0, none⟩) 8 8) ∧ w.heap.size ≤ g ∧ g < w'.heap.size ∧ OrderAt w' w.heap.size g ∧ Below w.heap.size w w' := by
  go_enter Tryd.func66, Tryd.ntmps66
  go_wp2
  go_ret
  refine ⟨_, rfl, by omega, by simp, ?_, ?_⟩
  · intro k hk
    have h8 : k = 0 ∨ k = 1 ∨ k = 2 ∨ k = 3 ∨ k = 4 ∨ k = 5 ∨ k = 6 ∨ k = 7 := by omega
    refine ⟨w.heap.size + k, by omega, by simp; omega, ?_, fun j hj => ?_⟩
    · rcases h8 with rfl | rfl | rfl | rfl | rfl | rfl | rfl | rfl <;> simp [go_sem]
    · have h4 : j = 0 ∨ j = 1 ∨ j = 2 ∨ j = 3 := by omega
      rcases h8 with rfl | rfl | rfl | rfl | rfl | rfl | rfl | rfl <;> rcases h4 with rfl | rfl | rfl | rfl <;> simp [go_sem, C3.order]
  · repeat (first | exact Below.refl _ _ | refine Below.alloc ?_ (by simp; try omega) _)

theorem order_ok : ∀ k, k < 8 → ((C3.order.getD k []).getD 0 0 < 16 ∧ (C3.order.getD k []).getD 1 0 < 16 ∧ (C3.order.getD k []).getD 2 0 < 16 ∧ (C3.order.getD k []).getD 3 0 < 16) ∧
    ((C3.order.getD k []).getD 0 0 ≠ (C3.order.getD k []).getD 1 0 ∧ (C3.order.getD k []).getD 0 0 ≠ (C3.order.getD k []).getD 2 0 ∧ (C3.order.getD k []).getD 0 0 ≠ (C3.order.getD k []).getD 3 0) ∧
    ((C3.order.getD k []).getD 1 0 ≠ (C3.order.getD k []).getD 2 0 ∧ (C3.order.getD k []).getD 1 0 ≠ (C3.order.getD k []).getD 3 0 ∧ (C3.order.getD k []).getD 2 0 ≠ (C3.order.getD k []).getD 3 0) := by decide
/-- where the specification's loops stand: the state in block B, the result's block behind it, the order at g -/
structure RInv (w : World) (g : Nat) (X : List UInt32) (wr : World) : Prop where
  row : wr.heap[w.heap.size]? = some (.cells (row X) 71 (0, 0))
  res : wr.heap[w.heap.size + 1]? = some (.cells zero16 71 (0, 0))
  ord : OrderAt wr (w.heap.size + 2) g
  g1 : w.heap.size + 2 ≤ g
  g2 : g < wr.heap.size
  below : Below w.heap.size w wr
theorem RInv.next {w : World} {g : Nat} {X Y : List UInt32} {wr w2 : World} (h : RInv w g X wr) (n : Nat) (hb : Below wr.heap.size (wr.drewN n) w2) : RInv w g Y (w2.setRow w.heap.size (Go.Proofs.YtackbjbmadkkhaaDoor.row Y)) := by
  have hB : w.heap.size < wr.heap.size := by have := h.g1; have := h.g2; omega
  have e1 : w2.heap[w.heap.size]? = some (.cells (Go.Proofs.YtackbjbmadkkhaaDoor.row X) 71 (0, 0)) := by rw [hb.block _ hB]; exact h.row
  have hs : wr.heap.size ≤ w2.heap.size := hb.size
  refine ⟨setRow_heap _ _ _ _ _ _ e1, ?_, ?_, h.g1, ?_, ?_⟩
  · rw [setRow_other _ _ _ _ (by omega), hb.block _ (by have := h.g1; have := h.g2; omega)]; exact h.res
  · refine h.ord.keep h.g1 h.g2 (by rw [size_setRow]; exact hs) (fun b h1 h2 => ?_)
    rw [setRow_other _ _ _ _ (by omega), hb.block _ h2]; rfl
  · have := h.g2; rw [size_setRow]; omega
  · exact below_setRow (h.below.trans ((below_drewN n (Below.refl _ _)).trans (hb.mono (by omega)))) (Nat.le_refl _) _
theorem RInv.drew {w : World} {g : Nat} {X : List UInt32} {wr : World} (h : RInv w g X wr) (n : Nat) : RInv w g X (wr.drewN n) := ⟨h.row, h.res, h.ord, h.g1, h.g2, below_drewN n h.below⟩

set_option maxHeartbeats 4000000 in
theorem rounds_ref (s : List UInt32) (hl : s.length = 16) (w : World) :
    Calls Tryd.prog 60 #[.agg (row s)] w fun e w' => e = .returned (.agg (row (C3.rounds s 10))) ∧ Below w.heap.size w w' := by
  go_enter Tryd.func60, Tryd.ntmps60
  go_wp2_with (go_at_call 66; refine (order_c _).mono ?_; rintro e w1 ⟨g, rfl, hg1, hg2, hord, hb1⟩)
  simp only [World.size_alloc] at hg1 hg2 hord hb1
  have I0 : RInv w g s w1 := by
    refine ⟨?_, ?_, hord, hg1, hg2, ?_⟩
    · rw [hb1.block _ (by omega), heap_past _ _ _ (by simp), heap_last _ _ _ rfl]
    · rw [hb1.block _ (by omega), heap_last _ _ _ (by simp)]; rfl
    · exact (((Below.refl _ _).alloc (Nat.le_refl _) _).alloc (by simp) _).trans (hb1.mono (by omega))
  clear hord hb1 hg1 hg2
  go_loopw [4] (fun i wr => ∃ m : Nat, m ≤ 10 ∧ i = .int .i64 m ∧ RInv w g (C3.rounds s m) wr) (fun i _ => 10 - (intOf i).toNat)
  case atStart => exact ⟨0, by omega, rfl, I0⟩
  case round =>
    obtain ⟨m, hm, rfl, I⟩ := hrel
    have hlen : (C3.rounds s m).length = 16 := by rw [C3.length_rounds, hl]
    by_cases hlt : m < 10
    · have hd : decide ((m : Int) < 10) = true := by simp; omega
      go_wp2
      go_loopw [5] (fun i wr => ∃ k : Nat, k ≤ 8 ∧ i = .int .i64 k ∧ RInv w g (C3.qk (C3.rounds s m) k) wr) (fun i _ => 8 - (intOf i).toNat)
      case atStart => exact ⟨0, by omega, rfl, I⟩
      case round =>
        clear I
        rename_i wq
        obtain ⟨k, hk, rfl, I⟩ := hrel
        have hlenk : (C3.qk (C3.rounds s m) k).length = 16 := by rw [C3.length_qk, hlen]
        by_cases hlt2 : k < 8
        · obtain ⟨b, hb1, hb2, hc, hcj⟩ := I.ord k hlt2
          have q0 := hcj 0 (by omega)
          have q1 := hcj 1 (by omega)
          have q2 := hcj 2 (by omega)
          have q3 := hcj 3 (by omega)
          obtain ⟨⟨b0, b1, b2, b3⟩, ⟨n01, n02, n03⟩, ⟨n12, n13, n23⟩⟩ := order_ok k hlt2
          have hq : C3.qk (C3.rounds s m) (k + 1) = C3.qset (C3.qk (C3.rounds s m) k) ((C3.order.getD k []).getD 0 0) ((C3.order.getD k []).getD 1 0) ((C3.order.getD k []).getD 2 0) ((C3.order.getD k []).getD 3 0) := rfl
          clear hcj
          generalize (C3.order.getD k []).getD 0 0 = o0 at *
          generalize (C3.order.getD k []).getD 1 0 = o1 at *
          generalize (C3.order.getD k []).getD 2 0 = o2 at *
          generalize (C3.order.getD k []).getD 3 0 = o3 at *
          have HQ := Lib.hid hq
          clear hq
          have hrow : ∀ i, wr.cell? ⟨w.heap.size, i, none⟩ = (row (C3.qk (C3.rounds s m) k))[i]? := fun i => cell_of_row _ _ i _ _ _ I.row
          have hB : w.heap.size < wr.heap.size := by have := I.g1; have := I.g2; omega
          go_wp2
          refine tail0 25 (by kernel_rfl) (by kernel_rfl) ?_
          simp only [List.take_succ_cons, List.take_zero, List.drop_succ_cons, List.drop_zero]
          repeat (first | go_big_quiet_step (fail) | quiet_step (fail))
          refine wpQuiet_nil ?_
          rintro _ ⟨nq, rfl⟩
          clear hrow
          go_wp2_with (first
            | (go_at_call 67; refine (quarter_ref _ _ hlenk o0 o1 o2 o3 b0 b1 b2 b3 n01 n02 n03 n12 n13 n23).mono ?_; rintro e w2 ⟨rfl, hb⟩)
            | (refine st_row rfl (.tmp 1) (.tmp 42) rfl _ _ rfl rfl 71 _ ((hb.block _ hB).trans I.row) (by rw [row_size, hlenk]) (by rw [C3.length_qset, hlenk]) ?_))
          go_roundw
          case rel => exact ⟨k + 1, by omega, by go_num, by rw [HQ.out]; exact I.next nq hb⟩
          case measure => simp [intOf]; omega
        · have he : k = 8 := by omega
          have HE := Lib.hid he
          clear he
          go_wp2
          go_roundw
          case rel => exact ⟨m + 1, by omega, by go_num, by have := I; rw [HE.out] at this; exact this⟩
          case measure => simp [intOf]; omega
    · have he : m = 10 := by omega
      have HE := Lib.hid he
      clear he
      go_wp2_with (first
            | (refine ld_row rfl (.tmp 1) rfl _ rfl _ 71 I.row hlen ?_)
            | (refine st_row rfl (.tmp 2) (.tmp 43) rfl _ _ rfl rfl 71 _ I.res rfl hlen ?_))
      refine bodyPost_ret (v := .agg (row _)) (res_row rfl _ _ _ _ _ rfl (setRow_heap _ _ _ _ _ _ I.res) hlen) rfl ⟨by rw [HE.out], ?_⟩
      exact below_setRow I.below (by omega) _
end Go.Proofs.YtackbjbmadkkhaaDoor
