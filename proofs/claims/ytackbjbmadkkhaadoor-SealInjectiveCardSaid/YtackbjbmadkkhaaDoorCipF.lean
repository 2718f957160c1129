/- Xor. -/
import Derived.Test.YtackbjbmadkkhaaDoorCipE
import Derived.Lib.ConvBytes
namespace Go.Proofs.YtackbjbmadkkhaaDoor
open Go.RowKit
set_option linter.unusedSimpArgs false
set_option linter.unusedVariables false

/-- bytes that a conversion of a string laid in block g -/
def TextAt (w : World) (g : Nat) (l : List UInt8) : Prop := ∃ cur : Array Value, w.heap[g]? = some (.cells cur 5 (cur.size, cur.size + 1)) ∧ l.length ≤ cur.size ∧ cur.toList.take l.length = bv l
theorem TextAt.at {w : World} {g : Nat} {l : List UInt8} (h : TextAt w g l) (k : Nat) (hk : k < l.length) : w.cell? ⟨g, k, none⟩ = some (.int .u8 (B8 (byteAt l k))) := by
  obtain ⟨cur, h1, h2, h3⟩ := h
  rw [cell_of_row _ _ _ _ _ _ h1]
  have e : (cur.toList.take l.length)[k]? = (bv l)[k]? := by rw [h3]
  rw [List.getElem?_take, if_pos hk, Array.getElem?_toList] at e
  rw [e]
  simp [bv, byteAt, List.getD_eq_getElem?_getD, List.getElem?_eq_getElem hk]
theorem TextAt.free {w : World} {g : Nat} {l : List UInt8} (h : TextAt w g l) (k : Nat) (hk : k < l.length) : w.frozen? ⟨g, k, none⟩ = false := by
  obtain ⟨cur, h1, h2, h3⟩ := h
  simp [World.frozen?, h1]
  omega
theorem TextAt.set {w : World} {g : Nat} {l : List UInt8} (h : TextAt w g l) (k : Nat) (hk : k < l.length) (x : UInt8) : TextAt (w.setCell ⟨g, k, none⟩ (.int .u8 (B8 x))) g (l.set k x) := by
  obtain ⟨cur, h1, h2, h3⟩ := h
  refine ⟨cur.setIfInBounds k (.int .u8 (B8 x)), ?_, by simpa using h2, ?_⟩
  · rw [setCell_row _ _ _ _ _ _ _ h1, setRow_heap _ _ _ _ _ _ h1, Array.size_setIfInBounds]
  · rw [Array.toList_setIfInBounds, List.length_set, List.take_set, h3]
    simp [bv, List.map_set]
theorem TextAt.keep {w w' : World} {g : Nat} {l : List UInt8} (h : TextAt w g l) (hb : w'.heap[g]? = w.heap[g]?) : TextAt w' g l := by
  obtain ⟨cur, h1, h2, h3⟩ := h
  exact ⟨cur, by rw [hb]; exact h1, h2, h3⟩
theorem TextAt.conv {w : World} {g : Nat} {l : List UInt8} (h : TextAt w g l) (cap : Nat) : (convert 35 9 (.slice (some ⟨g, 0, none⟩) l.length cap)).run Tryd.prog w = .ok (.string ⟨l.toArray⟩) w := by
  rw [← strOf_u8 l]
  refine run_convert_bytes_arg w _ _ Tryd.underlying35 Tryd.underlying5 g 0 _ _ _ (by simp) (fun i hi => ?_) _ Tryd.underlying9
  rw [Nat.zero_add, h.at i hi]
  simp [byteAt, List.getD_eq_getElem?_getD, List.getElem?_eq_getElem hi]
theorem text_new (w : World) (l : List UInt8) : TextAt (Lib.bytesWorld w 5 ⟨l.toArray⟩) w.heap.size l := by
  refine ⟨_, Lib.bytesWorld_at_new w _ _, ?_, ?_⟩
  · simp [Lib.bytesCells]
  · simp only [Lib.bytesCells, Array.toList_append]
    rw [List.take_append_of_le_length (by simp), List.take_of_length_le (by simp)]
    simp [bv, B8]
theorem text_below (w : World) (l : List UInt8) : Below w.heap.size w (Lib.bytesWorld w 5 ⟨l.toArray⟩) :=
  ⟨rfl, rfl, rfl, by rw [Lib.bytesWorld_size]; omega, fun k hk => Lib.bytesWorld_at_old _ _ _ _ hk⟩
theorem conv_str (w : World) (l : List UInt8) : (convert 9 35 (.string ⟨l.toArray⟩)).run Tryd.prog w = .ok (.slice (some ⟨w.heap.size, 0, none⟩) l.length (grownCap w l.length 0 5)) (Lib.bytesWorld w 5 ⟨l.toArray⟩) :=
  Lib.run_convert_string_bytes w _ _ _ _ Tryd.underlying9 Tryd.underlying35 Tryd.underlying5

theorem ok_iff (key nonce : List UInt8) : C3.okArgs key nonce = true → key.length = 32 ∧ nonce.length = 12 := by
  intro h
  simp only [C3.okArgs, Bool.and_eq_true, beq_iff_eq] at h
  exact h

attribute [local irreducible] C3.block C3.mid C3.xorAt
set_option maxRecDepth 100000 in
set_option maxHeartbeats 1000000 in
theorem xor_c (key nonce text : List UInt8) (ctr : UInt32) (hk : key.length = 32) (hn : nonce.length = 12) (ht : text.length ≤ 2000000) (w : World) :
    Calls Tryd.prog 21 #[.string ⟨key.toArray⟩, .int .u32 (W32 ctr), .string ⟨nonce.toArray⟩, .string ⟨text.toArray⟩] w fun e w' => e = .returned (.tuple #[.string ⟨(C3.xorText key ctr nonce text).toArray⟩, .int .i64 0]) ∧ Below w.heap.size w w' := by
  have hs := C3.length_state key ctr nonce
  go_enter Tryd.func21, Tryd.ntmps21
  go_wp2_with (first
    | (go_at_call 41; refine (state_c key nonce ctr hk hn _).mono ?_; rintro e w1 ⟨rfl, hb1⟩; have hcs := conv_str (w1.alloc (.cells (row (C3.state key ctr nonce)) 71)) text)
    | (refine st_row rfl (.tmp 10) (.tmp 20) rfl _ _ rfl rfl 71 _ (heap_alloc_new _ _) rfl hs ?_))
  have hW2 : (w1.alloc (.cells (row (C3.state key ctr nonce)) 71)).heap.size = w1.heap.size + 1 := by simp
  have hT0 := text_new (w1.alloc (.cells (row (C3.state key ctr nonce)) 71)) text
  have hB0 := text_below (w1.alloc (.cells (row (C3.state key ctr nonce)) 71)) text
  have hbw : Below w.heap.size w (w1.alloc (.cells (row (C3.state key ctr nonce)) 71)) := hb1.alloc hb1.size _
  have hsz1 : w.heap.size ≤ w1.heap.size + 1 := by have := hb1.size; omega
  rw [hW2] at hT0 hB0
  clear hcs hW2 hs
  go_loopw [29, 13, 1] (fun i b c wr => ∃ (k : Nat) (bl : List UInt8), k ≤ text.length ∧ i = .int .i64 k ∧ b = .string ⟨bl.toArray⟩ ∧ (k % 64 ≠ 0 → bl = C3.block key (ctr + UInt32.ofNat (k / 64)) nonce) ∧ c = .int .u32 (W32 (ctr + UInt32.ofNat ((k + 63) / 64))) ∧ TextAt wr (w1.heap.size + 1) (C3.mid key ctr nonce text k) ∧ Below (w1.heap.size + 1) (w1.alloc (.cells (row (C3.state key ctr nonce)) 71)) wr) (fun i _ _ _ => text.length - (intOf i).toNat)
  case atStart => exact ⟨0, [], by omega, rfl, rfl, fun h => absurd rfl h, by rw [show ctr + UInt32.ofNat ((0 + 63) / 64) = ctr by simp], by rw [C3.mid_zero]; exact hT0, hB0⟩
  case round =>
    clear hT0 hB0
    obtain ⟨k, bl, hkl, rfl, rfl, hbl, rfl, hT, hb⟩ := hrel
    by_cases hlt : k < text.length
    · have hg : w1.heap.size + 1 < wr.heap.size := by
        obtain ⟨cur, h1, _⟩ := hT
        exact (Array.getElem?_eq_some_iff.1 h1).1
      have hml : k < (C3.mid key ctr nonce text k).length := by rw [C3.length_mid _ _ _ _ _ hkl]; exact hlt
      have hma := C3.mid_at key ctr nonce text k hlt
      have hps := C3.pre_set key ctr nonce text k hlt
      have hxd := C3.xorAt_def key ctr nonce text k
      by_cases hm : k % 64 = 0
      · have hmb : (((k : Int) % 64) == 0) = true := by rw [beq_iff_eq]; omega
        have e1 : (k + 63) / 64 = k / 64 := by omega
        have e2 : (k + 1 + 63) / 64 = k / 64 + 1 := by omega
        have e3 : (k + 1) % 64 ≠ 0 → (k + 1) / 64 = k / 64 := fun _ => by omega
        rw [e1]
        have hB := C3.length_block key (ctr + UInt32.ofNat (k / 64)) nonce
        have hcall := block_c key nonce (ctr + UInt32.ofNat (k / 64)) hk hn
        generalize hBq : C3.block key (ctr + UInt32.ofNat (k / 64)) nonce = blk at hB hcall hxd
        have HB := Lib.hid hBq
        have HX := Lib.hid hxd
        have HM := Lib.hid hma
        have HP := Lib.hid hps
        have HC := Lib.hid hcall
        have HBL := Lib.hid hbl
        have H2 := Lib.hid e2
        have H3 := Lib.hid e3
        have hib : ((k : Int) % 64) < 64 := by omega
        have hin : k % 64 < 64 := by omega
        clear hBq hxd hma hps hcall hbl e1 e2 e3
        go_wp2_with (go_at_call 42; refine (HC.out _).mono ?_; rintro e w4 ⟨rfl, hb4⟩; have hT4 := hT.keep (hb4.block _ hg); have hc := hT4.at k hml; have hf := hT4.free k hml; rw [show byteAt (C3.mid key ctr nonce text k) k = byteAt text k from HM.out] at hc)
        first | refine tail0 10 (by kernel_rfl) (by kernel_rfl) ?_ | refine tailD 10 (by kernel_rfl) (by kernel_rfl) ?_
        simp only [List.take_succ_cons, List.take_zero, List.drop_succ_cons, List.drop_zero]
        repeat (go_big_quiet_step (fail))
        refine wpQuiet_nil ?_
        rintro _ ⟨nq, rfl⟩
        go_wp2
        go_roundw
        case rel =>
          refine ⟨k + 1, blk, by omega, by go_num, rfl, fun h => ?_, ?_, ?_, ?_⟩
          · rw [H3.out h]; exact HB.out.symm
          · rw [H2.out, C3.ctr_succ]
          · rw [← HP.out, HX.out, hm]; exact (hT4.set k hml _).keep rfl
          · exact below_drewN _ ((hb.trans (hb4.mono (by omega))).setCell (Nat.le_refl _) _)
        case measure => simp [intOf]; omega
      · have hmb : (((k : Int) % 64) == 0) = false := by rw [beq_eq_false_iff_ne]; omega
        have e1 : (k + 63) / 64 = k / 64 + 1 := by omega
        have e2 : (k + 1 + 63) / 64 = k / 64 + 1 := by omega
        have e3 : (k + 1) % 64 ≠ 0 → (k + 1) / 64 = k / 64 := fun _ => by omega
        rw [e1]
        have hB := C3.length_block key (ctr + UInt32.ofNat (k / 64)) nonce
        rw [← hbl hm] at hB hxd
        have hbl2 := hbl hm
        have HB := Lib.hid hbl2
        have HX := Lib.hid hxd
        have HP := Lib.hid hps
        have H2 := Lib.hid e2
        have H3 := Lib.hid e3
        have hib : ((k : Int) % 64) < 64 := by omega
        have hin : k % 64 < 64 := by omega
        have hc := hT.at k hml
        have hf := hT.free k hml
        rw [show byteAt (C3.mid key ctr nonce text k) k = byteAt text k from hma] at hc
        clear hxd hma hps hbl e1 e2 e3 hbl2
        go_wp2
        first | refine tail0 10 (by kernel_rfl) (by kernel_rfl) ?_ | refine tailD 10 (by kernel_rfl) (by kernel_rfl) ?_
        simp only [List.take_succ_cons, List.take_zero, List.drop_succ_cons, List.drop_zero]
        repeat (go_big_quiet_step (fail))
        refine wpQuiet_nil ?_
        rintro _ ⟨nq, rfl⟩
        go_wp2
        go_roundw
        case rel =>
          refine ⟨k + 1, bl, by omega, by go_num, rfl, fun h => ?_, ?_, ?_, ?_⟩
          · rw [H3.out h]; exact HB.out
          · rw [H2.out]
          · rw [← HP.out, HX.out]; exact (hT.set k hml _).keep rfl
          · exact below_drewN _ (hb.setCell (Nat.le_refl _) _)
        case measure => simp [intOf]; omega
    · have he : k = text.length := by omega
      have hlm := C3.length_mid key ctr nonce text k hkl
      have hcv := hT.conv (grownCap (w1.alloc (.cells (row (C3.state key ctr nonce)) 71)) text.length 0 5)
      rw [hlm] at hcv
      have HE := Lib.hid he
      clear he hlm
      go_wp2
      go_ret2
      refine ⟨?_, hbw.trans (hb.mono hsz1)⟩
      rw [← C3.mid_all, ← HE.out]
      rfl

set_option maxHeartbeats 1000000 in
theorem xor_no (key nonce text : List UInt8) (ctr : UInt32) (h : C3.okArgs key nonce = false) (w : World) :
    Calls Tryd.prog 21 #[.string ⟨key.toArray⟩, .int .u32 (W32 ctr), .string ⟨nonce.toArray⟩, .string ⟨text.toArray⟩] w fun e w' => e = .returned (.tuple #[.string ⟨#[]⟩, .int .i64 1]) ∧ Below w.heap.size w w' := by
  go_enter Tryd.func21, Tryd.ntmps21
  go_wp2_with (first
    | (go_at_call 41; refine (state_no key nonce ctr h _).mono ?_; rintro e w1 ⟨rfl, hb1⟩)
    | (refine st_row rfl (.tmp 10) (.tmp 20) rfl _ _ rfl rfl 71 _ (heap_alloc_new _ _) rfl rfl ?_))
  go_ret2
  exact ⟨rfl, hb1.alloc hb1.size _⟩

theorem B8_ofNat (k : Nat) (h : k < 256) : B8 (UInt8.ofNat k) = k := by
  simp [B8]; omega
end Go.Proofs.YtackbjbmadkkhaaDoor
