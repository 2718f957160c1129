/- The specification's block and text. -/
import Derived.Test.YtackbjbmadkkhaaDoorCipG
namespace Go.Proofs.YtackbjbmadkkhaaDoor
open Go.RowKit
set_option linter.unusedSimpArgs false
set_option linter.unusedVariables false

attribute [local irreducible] C3.rounds C3.state C3.blockTo
theorem bytes_len (x : UInt32) : (C3.bytes x).length = 4 := rfl
theorem bytes_add (x y : UInt32) : C3.bytes (x + y) = [x.toUInt8 + y.toUInt8, (shr (x + y) 8).toUInt8, (shr (x + y) 16).toUInt8, (shr (x + y) 24).toUInt8] := by
  rw [← UInt32.toUInt8_add]; rfl
theorem OwnB.drew {w : World} {base : Nat} {v : Value} {l : List UInt8} (n : Nat) (h : OwnB w base v l) : OwnB (w.drewN n) base v l := h.below (below_drewN n (Below.refl _ _))
set_option maxRecDepth 100000 in
set_option maxHeartbeats 2000000 in
theorem blockref_c (key nonce : List UInt8) (ctr : UInt32) (hk : key.length = 32) (hn : nonce.length = 12) (w : World) :
    Calls Tryd.prog 45 #[.string ⟨key.toArray⟩, .int .u32 (W32 ctr), .string ⟨nonce.toArray⟩] w fun e w' => e = .returned (.tuple #[.string ⟨(C3.block key ctr nonce).toArray⟩, .int .i64 0]) ∧ Below w.heap.size w w' := by
  have hs := C3.length_state key ctr nonce
  have hr : (C3.rounds (C3.state key ctr nonce) 10).length = 16 := by rw [C3.length_rounds, hs]
  rw [block_def]
  go_enter Tryd.func45, Tryd.ntmps45
  go_wp2_with (first
    | (go_at_call 44; refine (state_ref key nonce ctr hk hn _).mono ?_; rintro e w1 ⟨rfl, hb1⟩)
    | (refine st_row rfl (.tmp 8) (.tmp 19) rfl _ _ rfl rfl 71 _ (heap_alloc_new _ _) rfl hs ?_)
    | (refine ld_row rfl (.tmp 8) rfl _ rfl _ 71 (heap_alloc_new _ _) hs ?_)
    | (go_at_call 60; refine (rounds_ref _ hs _).mono ?_; rintro e w3 ⟨rfl, hb3⟩)
    | (refine st_row rfl (.tmp 10) (.tmp 25) rfl _ _ rfl rfl 71 _ (heap_alloc_new _ _) rfl hr ?_))
  simp only [World.size_alloc] at hb3
  have hz3 : w1.heap.size + 1 ≤ w3.heap.size := by have := hb3.size; simpa using this
  have hS : w3.heap[w1.heap.size]? = some (.cells (row (C3.state key ctr nonce)) 71 (0, 0)) := by rw [hb3.block _ (by omega)]; exact heap_alloc_new _ _
  have hbw : Below w.heap.size w (w3.alloc (.cells (row (C3.rounds (C3.state key ctr nonce) 10)) 71)) :=
    ((hb1.alloc hb1.size _).trans (hb3.mono (by have := hb1.size; omega))).alloc (by have := hb1.size; omega) _
  have hsz1 : w.heap.size ≤ w3.heap.size + 1 := by have := hb1.size; omega
  have hlt13 : w1.heap.size < w3.heap.size := by omega
  clear hb3 hb1 hz3
  generalize hRq : C3.rounds (C3.state key ctr nonce) 10 = R at hr hbw ⊢
  generalize hSq : C3.state key ctr nonce = S at hs hS hbw hRq ⊢
  have HR := Lib.hid hRq
  have HS := Lib.hid hSq
  clear hRq hSq
  go_loopw [12, 11] (fun i v wr => ∃ k : Nat, k ≤ 16 ∧ i = .int .i64 k ∧ OwnB wr (w3.heap.size + 1) v (C3.blockTo S R k) ∧ Below (w3.heap.size + 1) (w3.alloc (.cells (row R) 71)) wr) (fun i _ _ => 16 - (intOf i).toNat)
  case atStart => exact ⟨0, by omega, rfl, by rw [blockTo_zero]; exact OwnB.nil _ _, Below.refl _ _⟩
  case round =>
    obtain ⟨k, hk16, rfl, ho, hb⟩ := hrel
    by_cases hlt : k < 16
    · have hz : w3.heap.size + 1 ≤ wr.heap.size := by have := hb.size; simpa using this
      have hcS : wr.cell? ⟨w1.heap.size, k, none⟩ = some (.int .u32 (W32 (w16 S k))) := by
        rw [hb.cell (p := ⟨w1.heap.size, k, none⟩) (by show w1.heap.size < _; omega), cell_of_row _ _ _ _ _ _ (by rw [heap_past _ _ _ hlt13]; exact hS), row_get _ _ (by rw [hs]; omega)]
      have hcR : wr.cell? ⟨w3.heap.size, k, none⟩ = some (.int .u32 (W32 (w16 R k))) := by
        rw [hb.cell (p := ⟨w3.heap.size, k, none⟩) (by show w3.heap.size < _; omega), cell_of_row _ _ _ _ _ _ (heap_alloc_new _ _), row_get _ _ (by rw [hr]; omega)]
      have hl4 := C3.length_blockTo S R k
      have hki : (k : Int) < 16 := by omega
      have HL := Lib.hid hl4
      have HK := Lib.hid hlt
      clear hl4
      go_wp2
      first | refine all0 (by kernel_rfl) (by kernel_rfl) ?_ | refine allD (by kernel_rfl) (by kernel_rfl) ?_
      repeat (go_big_quiet_step (fail))
      refine wpQuiet_nil ?_
      rintro _ ⟨nq, rfl⟩
      have ho2 := ho.drew nq
      go_wp2_with (at_builtin; refine app_b rfl (.tmp 37) (.tmp 49) rfl (w3.heap.size + 1) _ _ rfl (World.ownsRow.alloc ho2 _) ⟨wr.heap.size, 0, none⟩ 4 4 (C3.bytes (w16 S k + w16 R k)) rfl rfl ?h1 ?h2 ?h3 ?h4)
      case h1 =>
        intro j u hj
        rw [bytes_add] at hj
        exact cell_new _ _ _ _ _ hj
      case h2 => rw [HL.out]; have := HK.out; omega
      case h3 => simp; omega
      case h4 =>
        intro v' w' ho' hb'
        go_wp2
        go_roundw
        case rel => exact ⟨k + 1, HK.out, by go_num, by rw [blockTo_succ, UInt32.add_comm]; exact ho', (below_drewN nq hb).alloc hz _ |>.trans hb'⟩
        case measure => have := HK.out; simp [intOf]; omega
    · have he : k = 16 := by omega
      have HE := Lib.hid he
      clear he
      have hcv := conv_own ho
      go_wp2
      go_ret2
      exact ⟨by rw [HS.out, HR.out, HE.out]; rfl, hbw.trans (hb.mono hsz1)⟩

set_option maxHeartbeats 1000000 in
theorem blockref_no (key nonce : List UInt8) (ctr : UInt32) (h : C3.okArgs key nonce = false) (w : World) :
    Calls Tryd.prog 45 #[.string ⟨key.toArray⟩, .int .u32 (W32 ctr), .string ⟨nonce.toArray⟩] w fun e w' => e = .returned (.tuple #[.string ⟨#[]⟩, .int .i64 1]) ∧ Below w.heap.size w w' := by
  go_enter Tryd.func45, Tryd.ntmps45
  go_wp2_with (first
    | (go_at_call 44; refine (state_ref_no key nonce ctr h _).mono ?_; rintro e w1 ⟨rfl, hb1⟩)
    | (refine st_row rfl (.tmp 8) (.tmp 19) rfl _ _ rfl rfl 71 _ (heap_alloc_new _ _) rfl rfl ?_))
  go_ret2
  exact ⟨rfl, hb1.alloc hb1.size _⟩
end Go.Proofs.YtackbjbmadkkhaaDoor
