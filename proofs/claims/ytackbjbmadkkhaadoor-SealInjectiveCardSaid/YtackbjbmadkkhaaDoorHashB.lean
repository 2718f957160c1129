/- The schedule of a block. -/
import Derived.Test.YtackbjbmadkkhaaDoorHashA
import Derived.Test.YtackbjbmadkkhaaDoorRow16
import Derived.Test.YtackbjbmadkkhaaDoorRowE
import Derived.Deep.RegionHeld3
namespace Go.Proofs.YtackbjbmadkkhaaDoor
open Go.RowKit
set_option linter.unusedSimpArgs false
set_option linter.unusedVariables false
abbrev eB : El UInt8 := ⟨5, 35, 1, fun x => [.int .u8 (B8 x)]⟩
theorem eB_ok : eB.OK := ⟨Tryd.underlying35, by kernel_rfl, fun _ => rfl, fun x u hu => by simp at hu; rw [hu]; rfl, by decide⟩
theorem byteAt_eq (l : List UInt8) (j : Nat) (h : j < l.length) : byteAt l j = l[j] := by simp [byteAt, h]
theorem eB_flat (l : List UInt8) (j : Nat) (h : j < l.length) : (eB.flat l)[j]? = some (.int .u8 (B8 (byteAt l j))) := by
  have := El.flat_at eB_ok l j 0 h (by decide)
  rw [Nat.mul_one, Nat.add_zero] at this
  rw [this, byteAt_eq l j h]
  rfl
theorem RdB_cells {w : World} {a : Option Addr} {n cap : Nat} {l : List UInt8} (h : RdE eB w (.slice a n cap) l) : 0 < l.length → ∃ b off, a = some ⟨b, off, none⟩ ∧ b < w.heap.size ∧ ∀ j, j < l.length → w.cell? ⟨b, off + j, none⟩ = some (.int .u8 (B8 (byteAt l j))) := by
  obtain ⟨a', c', e, _, _, h3⟩ := h
  cases e
  intro h0
  obtain ⟨b, off, rfl, hlt, hc⟩ := h3 h0
  exact ⟨b, off, rfl, hlt, fun j hj => hc j _ (eB_flat l j hj)⟩
def z64 : List UInt32 := List.replicate 64 0
/-- the array of the schedule behind t words -/
def ext (b : List UInt8) (t : Nat) : List UInt32 := sch b t ++ List.replicate (64 - t) 0
theorem ext_len (b : List UInt8) (t : Nat) (h : t ≤ 64) : (ext b t).length = 64 := by unfold ext; rw [List.length_append, sch_len, List.length_replicate]; omega
theorem ext_set (b : List UInt8) (t : Nat) (x : UInt32) (h : t < 64) : (ext b t).set t x = sch b t ++ (x :: List.replicate (63 - t) 0) := by
  unfold ext
  rw [List.set_append_right _ _ (by rw [sch_len]; exact Nat.le_refl _), sch_len, Nat.sub_self, show 64 - t = (63 - t) + 1 by omega, List.replicate_succ]
  rfl
theorem ext_next (b : List UInt8) (t : Nat) (h : t < 64) (x : UInt32) (hx : x = if t < 16 then wordAt b t else nextW (sch b t)) : (ext b t).set t x = ext b (t + 1) := by
  rw [ext_set b t x h, hx]
  unfold ext
  rw [sch, List.append_assoc, show 64 - (t + 1) = 63 - t by omega]
  rfl
theorem ext_at (b : List UInt8) (t i : Nat) (h : i < t) : w16 (ext b t) i = wd (sch b t) i := by
  unfold w16 wd ext
  rw [List.getD_eq_getElem?_getD, List.getD_eq_getElem?_getD, List.getElem?_append_left (by rw [sch_len]; exact h)]
theorem set_set (l : List UInt32) (i : Nat) (x y : UInt32) : (l.set i x).set i y = l.set i y := by simp
theorem w16_same (l : List UInt32) (i : Nat) (x : UInt32) (h : i < l.length) : w16 (l.set i x) i = x := by rw [w16_set l i i x h, if_pos rfl]
/-- the word that has been read so far -/
def part4 (b : List UInt8) (t : Nat) : Nat → UInt32
  | 0 => 0
  | m + 1 => shl (part4 b t m) 8 ||| (byteAt b (4 * t + m)).toUInt32
theorem shl_zero8 : shl 0 8 = 0 := by decide
theorem part4_all (b : List UInt8) (t : Nat) : part4 b t 4 = wordAt b t := by
  unfold wordAt be4
  simp only [part4, shl_zero8, Nat.add_zero, UInt32.zero_or]
theorem zero_64' : (Tryd.prog.info? 82).map (·.zero) = some (some (.agg (row z64))) := by kernel_rfl
theorem zero_64 (w : World) : (zeroValue 82).run Tryd.prog w = .ok (.agg (row z64)) w := by
  have h := zero_64'
  generalize row z64 = L at h ⊢
  cases hq : Tryd.prog.info? 82 with
  | none => rw [hq] at h; cases h
  | some i =>
    rw [hq] at h
    simp at h
    simp [zeroValue, typeInfo, hq, h]
theorem ext_zero (b : List UInt8) : z64 = ext b 0 := rfl
theorem ext_full (b : List UInt8) : ext b 64 = sch b 64 := by unfold ext; simp
theorem info64 : (Tryd.prog.info? 82).map (·.size) = some 64 := by kernel_rfl
theorem size64 (s : List UInt32) (h : s.length = 64) : (Tryd.prog.info? 82).map (·.size) = some (row s).size := by rw [row_size, h]; exact info64
theorem ld_64 {ops : Array Oper} {rest : List Oper} {o : Oper} {a : Act} {w : World} {Q : Exit → Act → World → Prop} (hgd : o.guard = none) (x : Operand) (ho : o.op = .load 82 x)
    (g : Nat) (hx : a.eval x = .pointer (some ⟨g, 0, none⟩)) (s : List UInt32) (T : TypeId) (hg : w.heap[g]? = some (.cells (row s) T (0, 0))) (hl : s.length = 64)
    (h : wpList Tryd.prog ops Q rest (a.put o.dst (.agg (row s))) w) : wpList Tryd.prog ops Q (o :: rest) a w :=
  wpList_load_row hgd _ x ho g hx T (row s) (0, 0) _ hg Tryd.underlying82 rfl (size64 s hl) h
theorem st_64 {ops : Array Oper} {rest : List Oper} {o : Oper} {a : Act} {w : World} {Q : Exit → Act → World → Prop} (hgd : o.guard = none) (x y : Operand) (ho : o.op = .store 82 x y)
    (g : Nat) (s : List UInt32) (hx : a.eval x = .pointer (some ⟨g, 0, none⟩)) (hy : a.eval y = .agg (row s)) (T : TypeId) (old : Array Value) (hg : w.heap[g]? = some (.cells old T (0, 0))) (hold : old.size = 64) (hl : s.length = 64)
    (h : wpList Tryd.prog ops Q rest (a.put o.dst undef) (w.setRow g (row s))) : wpList Tryd.prog ops Q (o :: rest) a w :=
  wpList_store_row hgd _ x y ho g (row s) hx hy T old hg (size64 s hl) (by rw [row_size, hl, hold]) (row_one s) h
theorem res_64 {fn : Func} {p : Tmp} (h : fn.results = #[.cell p 82]) (tmps : Array Value) (w : World) (g : Nat) (T : TypeId) (s : List UInt32)
    (hp : tmps.getD p undef = .pointer (some ⟨g, 0, none⟩)) (hg : w.heap[g]? = some (.cells (row s) T (0, 0))) (hl : s.length = 64) : (results fn tmps).run Tryd.prog w = .ok (.agg (row s)) w :=
  results_cell_row h tmps w g T (row s) (0, 0) _ hp hg Tryd.underlying82 rfl (size64 s hl)
theorem ext_set0 (b : List UInt8) (t : Nat) (h : t < 64) : (ext b t).set t (part4 b t 0) = ext b t := by
  rw [ext_set b t _ h]
  unfold ext
  rw [show 64 - t = (63 - t) + 1 by omega, List.replicate_succ]
  rfl
theorem z64_len : z64.length = 64 := by unfold z64; rw [List.length_replicate]
@[go_sem] theorem u32_shr3 (x : UInt32) : W32 x / 8 = W32 (shr x 3) := u32_shr' x 3
@[go_sem] theorem u32_shr10 (x : UInt32) : W32 x / 1024 = W32 (shr x 10) := u32_shr' x 10
theorem nextW_sch (b : List UInt8) (t : Nat) : nextW (sch b t) = wd (sch b t) (t - 16) + sg0 (wd (sch b t) (t - 15)) + wd (sch b t) (t - 7) + sg1 (wd (sch b t) (t - 2)) := by
  unfold nextW; rw [sch_len]
attribute [local irreducible] Calls
set_option maxRecDepth 100000 in
set_option maxHeartbeats 2000000 in
theorem schedule_c (v : Value) (b : List UInt8) (w : World) (hv : RdE eB w v b) (hb : b.length = 64) :
    Calls Tryd.prog 63 #[v] w fun e w' => e = .returned (.agg (row (sch b 64))) ∧ Below w.heap.size w w' := by
  have HV := Lib.hid hv
  obtain ⟨a, cap, rfl, hcap, hcm, _⟩ := hv
  obtain ⟨bb, off, rfl, hbl, hrow⟩ := RdB_cells HV.out (by omega)
  rw [hb] at HV hcap ⊢
  unfold maxLen at hcm
  have HROW := Lib.hid hrow
  clear hrow
  have hz := zero_64
  go_enter Tryd.func63, Tryd.ntmps63
  go_wp2
  rw [ext_zero b]
  go_loopw [11] (fun i wr => ∃ t : Nat, t ≤ 64 ∧ i = .int .i64 t ∧ ∃ n, wr = ((w.alloc (.cells (row z64) 82)).alloc (.cells (row (ext b t)) 82)).drewN n) (fun i _ => 64 - (intOf i).toNat)
  case atStart => exact ⟨0, by omega, rfl, 0, rfl⟩
  case round =>
    obtain ⟨t, ht, rfl, n, rfl⟩ := hrel
    clear hz
    have hel := ext_len b t ht
    by_cases hlt : t < 64
    · have hd : decide ((t : Int) < 64) = true := by simp; omega
      by_cases h16 : t < 16
      · have hd2 : decide ((t : Int) < 16) = true := by simp; omega
        have yc : ¬ cap = 4 * t := by omega
        have yd : ¬ (cap : Int) = 4 * (t : Int) := by omega
        have wm : IntKind.i64.wrap (4 * (t : Int)) = 4 * (t : Int) := by rw [IntKind.wrap_i64]; omega
        have wa : IntKind.i64.wrap (4 * (t : Int) + 4) = 4 * (t : Int) + 4 := by rw [IntKind.wrap_i64]; omega
        go_wp2
        go_loopw [24] (fun i wr => ∃ m : Nat, m ≤ 4 ∧ i = .int .i64 m ∧ ∃ n, wr = ((w.alloc (.cells (row z64) 82)).alloc (.cells (row ((ext b t).set t (part4 b t m))) 82)).drewN n) (fun i _ => 4 - (intOf i).toNat)
        case atStart => exact ⟨0, by omega, rfl, n, by rw [ext_set0 b t hlt]⟩
        case round =>
          obtain ⟨m, hm, rfl, n, rfl⟩ := hrel
          by_cases hm4 : m < 4
          · have hd3 : decide ((m : Int) < 4) = true := by simp; omega
            have hix : m < 4 * t + 4 - 4 * t := by omega
            have hcm4 := HROW.out (4 * t + m) (by omega)
            rw [show off + (4 * t + m) = off + 4 * t + m by omega] at hcm4
            have hs1 : ((ext b t).set t (part4 b t m)).length = 64 := by rw [List.length_set, hel]
            have hsame := w16_same (ext b t) t (part4 b t m) (by omega)
            go_wp2
            go_roundw
            case rel => exact ⟨m + 1, by omega, by go_num, n, rfl⟩
            case measure => simp [intOf]; omega
          · have he : m = 4 := by omega
            subst he
            have hd3 : decide (((4 : Nat) : Int) < 4) = false := by decide
            go_wp2
            go_roundw
            case rel => exact ⟨t + 1, by omega, by go_num, n, by rw [ext_next b t hlt (part4 b t 4) (by rw [if_pos h16, part4_all])]⟩
            case measure => simp [intOf]; omega
      · have hd2 : decide ((t : Int) < 16) = false := by simp; omega
        have q15 : (t : Int) - 15 = ((t - 15 : Nat) : Int) := by omega
        have q2 : (t : Int) - 2 = ((t - 2 : Nat) : Int) := by omega
        have q16 : (t : Int) - 16 = ((t - 16 : Nat) : Int) := by omega
        have q7 : (t : Int) - 7 = ((t - 7 : Nat) : Int) := by omega
        have i15 : t - 15 < 64 := by omega
        have i2 : t - 2 < 64 := by omega
        have i16 : t - 16 < 64 := by omega
        have i7 : t - 7 < 64 := by omega
        have r7 : ∀ (x : UInt32) (w : World), Calls Tryd.prog 68 #[.int .u32 (W32 x), .int .i64 (-7)] w fun e w' => e = .returned (.int .u32 (W32 (rr x 7))) ∧ w' = w := fun x w => rotr_c x 7 (by omega) (by omega) w
        have r18 : ∀ (x : UInt32) (w : World), Calls Tryd.prog 68 #[.int .u32 (W32 x), .int .i64 (-18)] w fun e w' => e = .returned (.int .u32 (W32 (rr x 18))) ∧ w' = w := fun x w => rotr_c x 18 (by omega) (by omega) w
        have r17 : ∀ (x : UInt32) (w : World), Calls Tryd.prog 68 #[.int .u32 (W32 x), .int .i64 (-17)] w fun e w' => e = .returned (.int .u32 (W32 (rr x 17))) ∧ w' = w := fun x w => rotr_c x 17 (by omega) (by omega) w
        have r19 : ∀ (x : UInt32) (w : World), Calls Tryd.prog 68 #[.int .u32 (W32 x), .int .i64 (-19)] w fun e w' => e = .returned (.int .u32 (W32 (rr x 19))) ∧ w' = w := fun x w => rotr_c x 19 (by omega) (by omega) w
        go_wp2
        go_quiet (fail)
        go_wp2_with (first
          | (go_at_call 68; refine (r7 _ _).mono ?_; rintro e _ ⟨rfl, rfl⟩)
          | (go_at_call 68; refine (r18 _ _).mono ?_; rintro e _ ⟨rfl, rfl⟩)
          | (go_at_call 68; refine (r17 _ _).mono ?_; rintro e _ ⟨rfl, rfl⟩)
          | (go_at_call 68; refine (r19 _ _).mono ?_; rintro e _ ⟨rfl, rfl⟩))
        refine tailD 15 (by kernel_rfl) (by kernel_rfl) ?_
        simp only [List.take_succ_cons, List.take_zero, List.drop_succ_cons, List.drop_zero]
        repeat (go_big_quiet_step (fail))
        refine wpQuiet_nil ?_
        rintro _ ⟨nq2, rfl⟩
        go_wp2
        go_roundw
        case rel =>
          refine ⟨t + 1, by omega, by go_num, nq2, ?_⟩
          rw [← ext_next b t hlt (nextW (sch b t)) (by rw [if_neg h16]), nextW_sch, ← ext_at b t (t - 16) (by omega), ← ext_at b t (t - 15) (by omega), ← ext_at b t (t - 7) (by omega), ← ext_at b t (t - 2) (by omega)]
          rfl
        case measure => simp [intOf]; omega
    · have he : t = 64 := by omega
      subst he
      go_wp2_with (first
        | (refine ld_64 rfl (.tmp 3) rfl _ rfl _ 82 (heap2_second _ _ _ _) hel ?_)
        | (refine st_64 rfl (.tmp 2) (.tmp 78) rfl _ _ rfl rfl 82 _ (heap2_first _ _ _ _) (by rw [row_size]; exact z64_len) hel ?_))
      refine bodyPost_ret (v := .agg (row _)) (res_64 rfl _ _ _ _ _ rfl (setRow_heap _ _ _ _ _ _ (heap2_first _ _ _ _)) hel) rfl ⟨by rw [ext_full], ?_⟩
      exact below_setRow (below_drewN _ (((Below.refl _ _).alloc (Nat.le_refl _) _).alloc (by simp) _)) (by omega) _
end Go.Proofs.YtackbjbmadkkhaaDoor
