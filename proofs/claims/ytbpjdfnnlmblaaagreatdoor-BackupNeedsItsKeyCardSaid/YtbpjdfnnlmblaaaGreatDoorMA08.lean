/- Parts of a proof, joined: contracts of functions of the program and plain lemmas (KeyL, CipB, CipC, CipD, CipE, CipF, Shelf, SealA). No condition. -/
import Derived.Test.YtbpjdfnnlmblaaaGreatDoorMA07
import Derived.Laws.CopyOwn
import Derived.Lib.ConvBytes
import Derived.Shelf.Strings.Builder1
import Derived.Shelf.Strings.Builder2
import Derived.Shelf.Strings.OnBuilder
import Derived.Shelf.Strings.BuilderF
import Derived.Test.YtbpjdfnnlmblaaaGreatDoorProg
/- The program's test of backups. -/
namespace Go.Proofs.YtbpjdfnnlmblaaaGreatDoor
open Go.RowKit Go.Shelf
set_option linter.unusedSimpArgs false
set_option linter.unusedVariables false
theorem bi3 (w : World) (a b c : Int) : RdI (w.alloc (.cells #[.int .i64 a, .int .i64 b, .int .i64 c] 3)) (.slice (some ⟨w.heap.size, 0, none⟩) 3 3) [a, b, c] := built_i w [a, b, c] (by simp)
theorem bi1 (w : World) (a : Int) : RdI (w.alloc (.cells #[.int .i64 a] 3)) (.slice (some ⟨w.heap.size, 0, none⟩) 1 1) [a] := built_i w [a] (by simp)
def r1 (b : BK) : Bool := [b.ep, b.num, b.fw].all (fun n => win n 0 2147483647)
def r2 (b : BK) : Bool := [b.tm].all (fun n => win n 0 1099511627776)
def r3 (b : BK) : Bool := [(b.mo.length : Int) - 1].all (fun n => win n 0 11)
theorem headC (b : BK) (l : List K) : (headB b l = true ∧ r1 b = true ∧ r2 b = true ∧ r3 b = true ∧ (l.length : Int) ≤ 4096) ∨ (headB b l = false ∧ r1 b = false) ∨ (headB b l = false ∧ r1 b = true ∧ r2 b = false) ∨
    (headB b l = false ∧ r1 b = true ∧ r2 b = true ∧ r3 b = false) ∨ (headB b l = false ∧ r1 b = true ∧ r2 b = true ∧ r3 b = true ∧ ¬ (l.length : Int) ≤ 4096) := by
  have h3 : r3 b = (decide (1 ≤ b.mo.length) && decide (b.mo.length ≤ 12)) := by
    unfold r3 win
    simp only [List.all_cons, List.all_nil, Bool.and_true]
    congr 1 <;> rw [decide_eq_decide] <;> omega
  have hh : headB b l = (r1 b && r2 b && r3 b && decide (l.length ≤ 4096)) := by
    rw [h3]
    unfold headB r1 r2
    simp only [List.all_cons, List.all_nil, Bool.and_true, Bool.and_assoc]
  rw [hh]
  cases r1 b
  · simp
  cases r2 b
  · simp
  cases r3 b
  · simp
  by_cases h : l.length ≤ 4096
  · have : (l.length : Int) ≤ 4096 := by omega
    simp [h, this]
  · have : ¬ (l.length : Int) ≤ 4096 := by omega
    simp [h, this]
attribute [local irreducible] Calls alikeK twinId twinIs validB okB validK lastId win headB r1 r2 r3
set_option maxRecDepth 100000 in
set_option maxHeartbeats 4000000 in
theorem validB_c (b : BK) (u : Value) (l : List K) (w : World) (hv : RdK w u l) (hwf : ∀ i, i < l.length → (keyAt l i).wf) (hmo : b.mo.length ≤ maxLen) :
    Calls Tryz.prog 13 #[.agg (bc b u)] w fun e w' => e = .returned (.bool (validB b l)) ∧ Below w.heap.size w w' := by
  have hlen := hv.len
  unfold maxLen at hlen hmo
  obtain ⟨W0, hW0⟩ : ∃ W0, W0 = w.alloc (.cells (bc b u) 26) := ⟨_, rfl⟩
  have hvw : RdK W0 u l := by rw [hW0]; exact hv.alloc _
  have hbx : ∀ w1, Below W0.heap.size W0 w1 → w1.cell? ⟨w.heap.size, 37, none⟩ = some u ∧ w1.cell? ⟨w.heap.size, 16, none⟩ = some (.int .i64 b.ep) ∧ w1.cell? ⟨w.heap.size, 17, none⟩ = some (.int .i64 b.num) ∧
      w1.cell? ⟨w.heap.size, 18, none⟩ = some (.int .i64 b.fw) ∧ w1.cell? ⟨w.heap.size, 19, none⟩ = some (.int .i64 b.tm) ∧ w1.cell? ⟨w.heap.size, 36, none⟩ = some (.string ⟨b.mo.toArray⟩) := by
    intro w1 h
    rw [hW0] at h
    exact ⟨(boxed1 _ _ _ h 37).trans (bc_37 b u), (boxed1 _ _ _ h 16).trans (bc_16 b u), (boxed1 _ _ _ h 17).trans (bc_17 b u), (boxed1 _ _ _ h 18).trans (bc_18 b u), (boxed1 _ _ _ h 19).trans (bc_19 b u), (boxed1 _ _ _ h 36).trans (bc_36 b u)⟩
  have hbe : ∀ w1, Below W0.heap.size W0 w1 → Below w.heap.size w w1 := by
    intro w1 h
    rw [hW0] at h
    exact below1 _ _ h
  have hsz : w.heap.size < W0.heap.size := by rw [hW0]; simp
  have HV := Lib.hid hvw
  have HBX := Lib.hid hbx
  have HBE := Lib.hid hbe
  have HW := Lib.hid hW0
  have HWF := Lib.hid hwf
  have hve : validB b l = (headB b l && (List.range l.length).all (okB l)) := by unfold validB; rfl
  rw [hve]
  have HT0 := Lib.hid (fun i hi h => allB_false l i hi h)
  have HT1 := Lib.hid (allB_true l)
  have HHC := Lib.hid (headC b l)
  have mw : IntKind.i64.wrap ((b.mo.length : Int) - 1) = (b.mo.length : Int) - 1 := by rw [IntKind.wrap_i64]; omega
  have HE1 : Hid ([b.ep, b.num, b.fw].all (fun n => win n 0 2147483647) = r1 b) := Lib.hid (by unfold r1; rfl)
  have HE2 : Hid ([b.tm].all (fun n => win n 0 1099511627776) = r2 b) := Lib.hid (by unfold r2; rfl)
  have HE3 : Hid ([(b.mo.length : Int) - 1].all (fun n => win n 0 11) = r3 b) := Lib.hid (by unfold r3; rfl)
  obtain ⟨a, cap, rfl, _, _, _⟩ := hv
  clear hW0 hvw hbx hbe hve hwf
  go_enter Tryz.func13, Tryz.ntmps13
  go_wp2
  go_loopw [3, 9] (fun la o wr => ∃ i : Nat, i ≤ l.length ∧ o = .int .i64 i ∧ la = .int .i64 (lastId l i) ∧ Hid (∀ j, j < i → okB l j = true) ∧ Below W0.heap.size W0 wr) (fun _ o _ => l.length - (intOf o).toNat)
  case atStart => exact ⟨0, Nat.zero_le _, rfl, by rw [lastId_zero], Lib.hid (fun j hj => absurd hj (by omega)), by rw [← HW.out]; exact Below.refl _ _⟩
  case round =>
    obtain ⟨i, hi, rfl, rfl, hno, hb⟩ := hrel
    obtain ⟨t1, t16, t17, t18, t19, t36⟩ := HBX.out wr hb
    have hbs := hb.size
    have z0 : w.heap.size < wr.heap.size := by omega
    have z0' : w.heap.size ≠ wr.heap.size := by omega
    by_cases hlt : i < l.length
    · obtain ⟨bb, off, rfl, hbl, hrow⟩ := ((HV.out.on hb).cells) (by omega)
      obtain ⟨d0, d1, d2, d3, d4, d5, d6, d7, d8⟩ := hrow i hlt
      have i1 : (i : Int) < l.length := by omega
      have HK := Lib.hid hlt
      have HNO := hno
      have HB := Lib.hid hb
      have hval := valid_c (keyAt l i) (HWF.out i hlt) (wr.alloc (.cells (kc (keyAt l i)) 45))
      have hbx2 : ∀ w1, Below (wr.alloc (.cells (kc (keyAt l i)) 45)).heap.size (wr.alloc (.cells (kc (keyAt l i)) 45)) w1 →
          w1.cell? ⟨wr.heap.size, 0, none⟩ = some (.int .i64 (keyAt l i).id) ∧ Below W0.heap.size W0 w1 := by
        intro w1 h
        exact ⟨boxed1 _ _ _ h 0, HB.out.trans ((below1 _ _ h).mono hbs)⟩
      unfold kv at hval
      unfold kc at hval hbx2
      have HLS := Lib.hid (lastId_succ l i)
      have HX2 := Lib.hid hbx2
      clear hrow hb hno hbx2
      rcases okB_four l i with ⟨ho, h1⟩ | ⟨ho, h1, h2⟩ | ⟨ho, h1, h2, h3⟩ | ⟨ho, h1, h2, h3⟩
      case inr.inr.inr =>
        rw [h1] at hval
        have HVAL := Lib.hid hval
        have HO := Lib.hid ho
        clear hval h1 ho
        go_wp2_with (go_at_call 35; refine HVAL.out.mono ?_; rintro e w1 ⟨rfl, hb'⟩; obtain ⟨e0, hbb⟩ := HX2.out _ hb'; clear hb')
        go_roundw
        case rel => exact ⟨i + 1, HK.out, by go_num, by rw [HLS.out], Lib.hid (fun j hj => by
          by_cases e : j = i
          · subst e; exact HO.out
          · exact HNO.out j (by omega)), hbb⟩
        case measure => have := HK.out; simp [intOf]; omega
      all_goals
        have HRES := Lib.hid (HT0.out i HK.out ho)
        rw [h1] at hval
        have HVAL := Lib.hid hval
        clear hval h1 ho
        go_wp2_with (go_at_call 35; refine HVAL.out.mono ?_; rintro e w1 ⟨rfl, hb'⟩; obtain ⟨e0, hbb⟩ := HX2.out _ hb'; clear hb')
        go_ret
        exact ⟨by rw [HRES.out, Bool.and_false]; rfl, HBE.out _ hbb⟩
    · have he : i = l.length := by omega
      have i1 : (l.length : Int) ≤ i := by omega
      have HRES := Lib.hid (HT1.out (fun j hj => hno.out j (by omega)))
      have HB := hb
      have tok2 : True := trivial
      clear hno he
      rcases HHC.out with ⟨hh, f1, f2, f3, f4⟩ | ⟨hh, f1⟩ | ⟨hh, f1, f2⟩ | ⟨hh, f1, f2, f3⟩ | ⟨hh, f1, f2, f3, f4⟩
      all_goals
        have HH := Lib.hid hh
        clear hh
        go_wp2_with (first
          | (go_at_call 36; refine (within_b _ _ _ _ (bi3 _ _ _ _)).mono ?_; rw [HE1.out]; rintro e w1 ⟨rfl, hb'⟩; replace HB := HB.trans ((below1 _ _ hb').mono HB.size); obtain ⟨t1, t16, t17, t18, t19, t36⟩ := HBX.out _ HB; clear hb')
          | (go_at_call 36; clear tok2; refine (within_b _ _ _ _ (bi1 _ _)).mono ?_; rw [HE2.out]; rintro e w2 ⟨rfl, hb'⟩; replace HB := HB.trans ((below1 _ _ hb').mono HB.size); obtain ⟨t1, t16, t17, t18, t19, t36⟩ := HBX.out _ HB; clear hb')
          | (go_at_call 36; refine (within_b _ _ _ _ (bi1 _ _)).mono ?_; rw [HE3.out]; rintro e w3 ⟨rfl, hb'⟩; replace HB := HB.trans ((below1 _ _ hb').mono HB.size); obtain ⟨t1, t16, t17, t18, t19, t36⟩ := HBX.out _ HB; clear hb'))
        go_ret
        exact ⟨by rw [HRES.out, Bool.and_true, HH.out]; first | rfl | exact ret_bool (decide_eq_false (by omega)) | exact ret_bool (decide_eq_true (by omega)), HBE.out _ HB⟩
end Go.Proofs.YtbpjdfnnlmblaaaGreatDoor
/- The specification's functions of the cipher. -/
namespace Go.Proofs.YtbpjdfnnlmblaaaGreatDoor
open Go.RowKit
set_option linter.unusedSimpArgs false
set_option linter.unusedVariables false

set_option maxHeartbeats 4000000 in
theorem quarter_ref (w : World) (s : List UInt32) (hl : s.length = 16) (i j k l : Nat) (hi : i < 16) (hj : j < 16) (hk : k < 16) (hl' : l < 16)
    (h1 : ¬ i = j) (h2 : ¬ i = k) (h3 : ¬ i = l) (h4 : ¬ j = k) (h5 : ¬ j = l) (h6 : ¬ k = l) :
    Calls Tryz.prog 128 #[.agg (row s), .int .i64 i, .int .i64 j, .int .i64 k, .int .i64 l] w fun e w' => e = .returned (.agg (row (C3.qset s i j k l))) ∧ Below w.heap.size w w' := by
  have hw := w16_set
  have g1 : ¬ j = i := fun e => h1 e.symm
  have g2 : ¬ k = i := fun e => h2 e.symm
  have g3 : ¬ l = i := fun e => h3 e.symm
  have g4 : ¬ k = j := fun e => h4 e.symm
  have g5 : ¬ l = j := fun e => h5 e.symm
  have g6 : ¬ l = k := fun e => h6 e.symm
  have bi : (i : Int) < 16 := by omega
  have bj : (j : Int) < 16 := by omega
  have bk : (k : Int) < 16 := by omega
  have bl : (l : Int) < 16 := by omega
  go_enter Tryz.func128, Tryz.ntmps128
  go_wp2
  first | refine tailD 9 (by kernel_rfl) (by kernel_rfl) ?_ | refine tail0 9 (by kernel_rfl) (by kernel_rfl) ?_
  simp only [List.take_succ_cons, List.take_zero, List.drop_succ_cons, List.drop_zero]
  repeat (quiet_step (fail))
  refine wpQuiet_nil ?_
  rintro _ ⟨nq, rfl⟩
  go_wp2
  first | refine tailD 10 (by kernel_rfl) (by kernel_rfl) ?_ | refine tail0 10 (by kernel_rfl) (by kernel_rfl) ?_
  simp only [List.take_succ_cons, List.take_zero, List.drop_succ_cons, List.drop_zero]
  repeat (quiet_step ((go_at_call 132; exact Calls.quiet_of (rotl_ref _ _ (by omega) (by omega) _))))
  refine wpQuiet_nil ?_
  rintro _ ⟨nq, rfl⟩
  go_wp2
  first | refine tailD 9 (by kernel_rfl) (by kernel_rfl) ?_ | refine tail0 9 (by kernel_rfl) (by kernel_rfl) ?_
  simp only [List.take_succ_cons, List.take_zero, List.drop_succ_cons, List.drop_zero]
  repeat (quiet_step (fail))
  refine wpQuiet_nil ?_
  rintro _ ⟨nq, rfl⟩
  go_wp2
  first | refine tailD 10 (by kernel_rfl) (by kernel_rfl) ?_ | refine tail0 10 (by kernel_rfl) (by kernel_rfl) ?_
  simp only [List.take_succ_cons, List.take_zero, List.drop_succ_cons, List.drop_zero]
  repeat (quiet_step ((go_at_call 132; exact Calls.quiet_of (rotl_ref _ _ (by omega) (by omega) _))))
  refine wpQuiet_nil ?_
  rintro _ ⟨nq, rfl⟩
  go_wp2
  first | refine tailD 9 (by kernel_rfl) (by kernel_rfl) ?_ | refine tail0 9 (by kernel_rfl) (by kernel_rfl) ?_
  simp only [List.take_succ_cons, List.take_zero, List.drop_succ_cons, List.drop_zero]
  repeat (quiet_step (fail))
  refine wpQuiet_nil ?_
  rintro _ ⟨nq, rfl⟩
  go_wp2
  first | refine tailD 10 (by kernel_rfl) (by kernel_rfl) ?_ | refine tail0 10 (by kernel_rfl) (by kernel_rfl) ?_
  simp only [List.take_succ_cons, List.take_zero, List.drop_succ_cons, List.drop_zero]
  repeat (quiet_step ((go_at_call 132; exact Calls.quiet_of (rotl_ref _ _ (by omega) (by omega) _))))
  refine wpQuiet_nil ?_
  rintro _ ⟨nq, rfl⟩
  go_wp2
  first | refine tailD 9 (by kernel_rfl) (by kernel_rfl) ?_ | refine tail0 9 (by kernel_rfl) (by kernel_rfl) ?_
  simp only [List.take_succ_cons, List.take_zero, List.drop_succ_cons, List.drop_zero]
  repeat (quiet_step (fail))
  refine wpQuiet_nil ?_
  rintro _ ⟨nq, rfl⟩
  go_wp2
  first | refine tailD 10 (by kernel_rfl) (by kernel_rfl) ?_ | refine tail0 10 (by kernel_rfl) (by kernel_rfl) ?_
  simp only [List.take_succ_cons, List.take_zero, List.drop_succ_cons, List.drop_zero]
  repeat (quiet_step ((go_at_call 132; exact Calls.quiet_of (rotl_ref _ _ (by omega) (by omega) _))))
  refine wpQuiet_nil ?_
  rintro _ ⟨nq, rfl⟩
  clear hw
  go_wp2_with (first
    | (refine ld_row rfl (.tmp 5) rfl _ rfl _ 110 (heap2_first _ _ _ _) (by simp [hl]) ?_)
    | (refine st_row rfl (.tmp 10) (.tmp 87) rfl _ _ rfl rfl 110 _ (heap2_second _ _ _ _) rfl (by simp [hl]) ?_))
  refine bodyPost_ret (v := .agg (row _)) (res_row rfl _ _ _ _ _ rfl (setRow_heap _ _ _ _ _ _ (heap2_second _ _ _ _)) (by simp [hl])) rfl ⟨?_, ?_⟩
  · rw [C3.set_chain _ _ _ _ _ h1 h2 h3 h4 h5 h6]; rfl
  · exact below_setRow (below_drewN _ (((Below.refl _ _).alloc (Nat.le_refl _) _).alloc (by simp) _)) (by omega) _

end Go.Proofs.YtbpjdfnnlmblaaaGreatDoor
/- The words of a text, and the initial state. -/
namespace Go.Proofs.YtbpjdfnnlmblaaaGreatDoor
open Go.RowKit
set_option linter.unusedSimpArgs false
set_option linter.unusedVariables false

theorem wordAt_cut (l : List UInt8) (a n : Nat) (h : 4 ≤ n) : C3.wordAt ((l.drop a).take n) 0 = C3.wordAt l a := by
  have e : ∀ i, i < 4 → C3.byteAt ((l.drop a).take n) i = C3.byteAt l (a + i) := fun i hi => byteAt_take_drop l a n i (by omega)
  unfold C3.wordAt
  rw [e _ (by omega), e _ (by omega), e _ (by omega), e _ (by omega)]
  rfl
theorem byteAt_drop (l : List UInt8) (n i : Nat) : byteAt (l.drop n) i = byteAt l (n + i) := by
  unfold byteAt; simp [List.getD_eq_getElem?_getD, List.getElem?_drop]

set_option maxHeartbeats 400000 in
theorem get_c (l : List UInt8) (hs : 4 ≤ l.length) (w : World) :
    Calls Tryz.prog 112 #[.string ⟨l.toArray⟩] w fun e w' => e = .returned (.int .u32 (W32 (C3.wordAt l 0))) ∧ ∃ n, w' = w.drewN n := by
  have h0 : 0 < l.length := by omega
  have i1 : (1 : Int) < l.length := by omega
  have i2 : (2 : Int) < l.length := by omega
  have i3 : (3 : Int) < l.length := by omega
  go_enter Tryz.func112, Tryz.ntmps112
  go_wp2
  go_quiet (fail)
  go_wp2
  go_ret
  exact ⟨ret_u32 rfl, _, rfl⟩
set_option maxHeartbeats 400000 in
theorem word_c (l : List UInt8) (hs : 4 ≤ l.length) (w : World) :
    Calls Tryz.prog 116 #[.string ⟨l.toArray⟩] w fun e w' => e = .returned (.int .u32 (W32 (C3.wordAt l 0))) ∧ ∃ n, w' = w.drewN n := by
  have h0 : 0 < l.length := by omega
  have i1 : (1 : Int) < l.length := by omega
  have i2 : (2 : Int) < l.length := by omega
  have i3 : (3 : Int) < l.length := by omega
  go_enter Tryz.func116, Tryz.ntmps116
  go_wp2
  go_quiet (fail)
  go_wp2
  go_ret
  exact ⟨ret_u32 (C3.word_sum _ _ _ _), _, rfl⟩

set_option maxHeartbeats 1000000 in
theorem state_c (key nonce : List UInt8) (ctr : UInt32) (hk : key.length = 32) (hn : nonce.length = 12) (w : World) :
    Calls Tryz.prog 93 #[.string ⟨key.toArray⟩, .int .u32 (W32 ctr), .string ⟨nonce.toArray⟩] w fun e w' => e = .returned (.tuple #[.agg (row (C3.state key ctr nonce)), .int .i64 0]) ∧ Below w.heap.size w w' := by
  go_enter Tryz.func93, Tryz.ntmps93
  go_wp2
  go_loopw [21] (fun i wr => ∃ k : Nat, k ≤ 8 ∧ i = .int .i64 k ∧ ∃ n, wr = (w.alloc (.cells (row (C3.stK key ctr k)) 110)).drewN n) (fun i _ => 8 - (intOf i).toNat)
  case atStart => exact ⟨0, by omega, rfl, 0, rfl⟩
  case round =>
    obtain ⟨k, hk8, rfl, n, rfl⟩ := hrel
    have hlen := C3.length_stK key ctr k
    by_cases hlt : k < 8
    · have hb4 : 4 + k < 16 := by omega
      have hl4 : 4 ≤ ((key.drop (4 * k)).take (32 - 4 * k)).length := by simp [hk]; omega
      have hwd : C3.wordAt ((key.drop (4 * k)).take (32 - 4 * k)) 0 = C3.wordAt key (4 * k) := wordAt_cut _ _ _ (by omega)
      have HW := Lib.hid hwd
      clear hwd
      go_wp2_with (go_at_call 112; refine (get_c _ hl4 _).mono ?_; rintro e w' ⟨rfl, nq, rfl⟩; rw [HW.out])
      go_roundw
      case rel => exact ⟨k + 1, by omega, by go_num, _, rfl⟩
      case measure => simp [intOf]; omega
    · have he : k = 8 := by omega
      have HE := Lib.hid he
      clear he
      go_wp2
      go_loopw [33] (fun i wr => ∃ k : Nat, k ≤ 3 ∧ i = .int .i64 k ∧ ∃ n, wr = (w.alloc (.cells (row (C3.stN key ctr nonce k)) 110)).drewN n) (fun i _ => 3 - (intOf i).toNat)
      case atStart => exact ⟨0, by omega, rfl, n, by rw [HE.out]; rfl⟩
      case round =>
        clear hk8 hlen hlt
        obtain ⟨k, hk8, rfl, n, rfl⟩ := hrel
        have hlen := C3.length_stN key ctr nonce k
        by_cases hlt : k < 3
        · have hb13 : 13 + k < 16 := by omega
          have hl4 : 4 ≤ ((nonce.drop (4 * k)).take (12 - 4 * k)).length := by simp [hn]; omega
          have hwd : C3.wordAt ((nonce.drop (4 * k)).take (12 - 4 * k)) 0 = C3.wordAt nonce (4 * k) := wordAt_cut _ _ _ (by omega)
          have HW := Lib.hid hwd
          clear hwd
          go_wp2_with (go_at_call 112; refine (get_c _ hl4 _).mono ?_; rintro e w' ⟨rfl, nq, rfl⟩; rw [HW.out])
          go_roundw
          case rel => exact ⟨k + 1, by omega, by go_num, _, rfl⟩
          case measure => simp [intOf]; omega
        · have he : k = 3 := by omega
          have HE := Lib.hid he
          clear he
          go_wp2_with (first
            | (refine ld_row rfl (.tmp 6) rfl _ rfl _ 110 (heap1 _ _ _) hlen ?_)
            | (refine st_row rfl (.tmp 6) (.tmp 45) rfl _ _ rfl rfl 110 _ (heap1 _ _ _) (by rw [row_size, hlen]) hlen ?_))
          refine bodyPost_ret (v := .tuple #[.agg (row _), _]) (res_row2 rfl _ _ _ _ _ rfl (heap1 _ _ _) hlen) rfl ⟨by rw [HE.out]; rfl, ?_⟩
          exact below_drewN _ ((Below.refl _ _).alloc (Nat.le_refl _) _)

set_option maxHeartbeats 1000000 in
theorem state_no (key nonce : List UInt8) (ctr : UInt32) (h : C3.okArgs key nonce = false) (w : World) :
    Calls Tryz.prog 93 #[.string ⟨key.toArray⟩, .int .u32 (W32 ctr), .string ⟨nonce.toArray⟩] w fun e w' => e = .returned (.tuple #[.agg (row (List.replicate 16 0)), .int .i64 1]) ∧ Below w.heap.size w w' := by
  have h0 : (row (List.replicate 16 0)) = #[.int .u32 0, .int .u32 0, .int .u32 0, .int .u32 0, .int .u32 0, .int .u32 0, .int .u32 0, .int .u32 0, .int .u32 0, .int .u32 0, .int .u32 0, .int .u32 0, .int .u32 0, .int .u32 0, .int .u32 0, .int .u32 0] := rfl
  rw [h0]
  clear h0
  unfold C3.okArgs at h
  by_cases hk : key.length = 32
  · have hn : ¬ nonce.length = 12 := by intro e; rw [hk, e] at h; cases h
    have h2 : (((nonce.length : Nat) : Int) != 12) = true := by rw [bne_iff_ne]; omega
    clear h
    go_enter Tryz.func93, Tryz.ntmps93
    go_wp2
    refine bodyPost_ret (v := .tuple #[.agg _, .int .i64 1]) ?_ rfl ⟨rfl, (Below.refl _ _).alloc (Nat.le_refl _) _⟩
    simp [results, Tryz.results93, go_sem]
  · have h2 : (((key.length : Nat) : Int) != 32) = true := by rw [bne_iff_ne]; omega
    clear h
    go_enter Tryz.func93, Tryz.ntmps93
    go_wp2
    refine bodyPost_ret (v := .tuple #[.agg _, .int .i64 1]) ?_ rfl ⟨rfl, (Below.refl _ _).alloc (Nat.le_refl _) _⟩
    simp [results, Tryz.results93, go_sem]
set_option maxHeartbeats 1000000 in
theorem state_ref (key nonce : List UInt8) (ctr : UInt32) (hk : key.length = 32) (hn : nonce.length = 12) (w : World) :
    Calls Tryz.prog 100 #[.string ⟨key.toArray⟩, .int .u32 (W32 ctr), .string ⟨nonce.toArray⟩] w fun e w' => e = .returned (.tuple #[.agg (row (C3.state key ctr nonce)), .int .i64 0]) ∧ Below w.heap.size w w' := by
  go_enter Tryz.func100, Tryz.ntmps100
  go_wp2
  go_loopw [9] (fun i wr => ∃ k : Nat, k ≤ 8 ∧ i = .int .i64 k ∧ ∃ n, wr = ((w.alloc (.cells zero16 110)).alloc (.cells (row (C3.stK key 0 k)) 110)).drewN n) (fun i _ => 8 - (intOf i).toNat)
  case atStart => exact ⟨0, by omega, rfl, 0, rfl⟩
  case round =>
    obtain ⟨k, hk8, rfl, n, rfl⟩ := hrel
    have hlen := C3.length_stK key 0 k
    by_cases hlt : k < 8
    · have hb4 : 4 + k < 16 := by omega
      have hl4 : 4 ≤ ((key.drop (4 * k)).take (32 - 4 * k)).length := by simp [hk]; omega
      have hwd : C3.wordAt ((key.drop (4 * k)).take (32 - 4 * k)) 0 = C3.wordAt key (4 * k) := wordAt_cut _ _ _ (by omega)
      have HW := Lib.hid hwd
      clear hwd
      go_wp2_with (go_at_call 116; refine (word_c _ hl4 _).mono ?_; rintro e w' ⟨rfl, nq, rfl⟩; rw [HW.out])
      go_roundw
      case rel => exact ⟨k + 1, by omega, by go_num, _, rfl⟩
      case measure => simp [intOf]; omega
    · have he : k = 8 := by omega
      have HE := Lib.hid he
      clear he
      go_wp2
      go_loopw [10] (fun i wr => ∃ k : Nat, k ≤ 3 ∧ i = .int .i64 k ∧ ∃ n, wr = ((w.alloc (.cells zero16 110)).alloc (.cells (row (C3.stN key ctr nonce k)) 110)).drewN n) (fun i _ => 3 - (intOf i).toNat)
      case atStart => exact ⟨0, by omega, rfl, n, by rw [HE.out, C3.stK_later]; rfl⟩
      case round =>
        clear hk8 hlen hlt
        obtain ⟨k, hk8, rfl, n, rfl⟩ := hrel
        have hlen := C3.length_stN key ctr nonce k
        by_cases hlt : k < 3
        · have hb13 : 13 + k < 16 := by omega
          have hl4 : 4 ≤ ((nonce.drop (4 * k)).take (12 - 4 * k)).length := by simp [hn]; omega
          have hwd : C3.wordAt ((nonce.drop (4 * k)).take (12 - 4 * k)) 0 = C3.wordAt nonce (4 * k) := wordAt_cut _ _ _ (by omega)
          have HW := Lib.hid hwd
          clear hwd
          go_wp2_with (go_at_call 116; refine (word_c _ hl4 _).mono ?_; rintro e w' ⟨rfl, nq, rfl⟩; rw [HW.out])
          go_roundw
          case rel => exact ⟨k + 1, by omega, by go_num, _, rfl⟩
          case measure => simp [intOf]; omega
        · have he : k = 3 := by omega
          have HE := Lib.hid he
          clear he
          go_wp2_with (first
            | (refine ld_row rfl (.tmp 8) rfl _ rfl _ 110 (heap2_second _ _ _ _) hlen ?_)
            | (refine st_row rfl (.tmp 6) (.tmp 50) rfl _ _ rfl rfl 110 _ (heap2_first _ _ _ _) rfl hlen ?_))
          refine bodyPost_ret (v := .tuple #[.agg (row _), _]) (res_row2 rfl _ _ _ _ _ rfl (heap2_first _ _ _ _) hlen) rfl ⟨by rw [HE.out]; rfl, ?_⟩
          exact below_drewN _ (((Below.refl _ _).alloc (Nat.le_refl _) _).alloc (by simp) _)

set_option maxHeartbeats 1000000 in
theorem state_ref_no (key nonce : List UInt8) (ctr : UInt32) (h : C3.okArgs key nonce = false) (w : World) :
    Calls Tryz.prog 100 #[.string ⟨key.toArray⟩, .int .u32 (W32 ctr), .string ⟨nonce.toArray⟩] w fun e w' => e = .returned (.tuple #[.agg (row (List.replicate 16 0)), .int .i64 1]) ∧ Below w.heap.size w w' := by
  have h0 : (row (List.replicate 16 0)) = #[.int .u32 0, .int .u32 0, .int .u32 0, .int .u32 0, .int .u32 0, .int .u32 0, .int .u32 0, .int .u32 0, .int .u32 0, .int .u32 0, .int .u32 0, .int .u32 0, .int .u32 0, .int .u32 0, .int .u32 0, .int .u32 0] := rfl
  rw [h0]
  clear h0
  unfold C3.okArgs at h
  by_cases hk : key.length = 32
  · have hn : ¬ nonce.length = 12 := by intro e; rw [hk, e] at h; cases h
    have h2 : (((nonce.length : Nat) : Int) != 12) = true := by rw [bne_iff_ne]; omega
    clear h
    go_enter Tryz.func100, Tryz.ntmps100
    go_wp2
    refine bodyPost_ret (v := .tuple #[.agg _, .int .i64 1]) ?_ rfl ⟨rfl, ((Below.refl _ _).alloc (Nat.le_refl _) _).alloc (by simp) _⟩
    simp [results, Tryz.results100, go_sem]
  · have h2 : (((key.length : Nat) : Int) != 32) = true := by rw [bne_iff_ne]; omega
    clear h
    go_enter Tryz.func100, Tryz.ntmps100
    go_wp2
    refine bodyPost_ret (v := .tuple #[.agg _, .int .i64 1]) ?_ rfl ⟨rfl, ((Below.refl _ _).alloc (Nat.le_refl _) _).alloc (by simp) _⟩
    simp [results, Tryz.results100, go_sem]
end Go.Proofs.YtbpjdfnnlmblaaaGreatDoor
/- The rounds of the cipher. -/
namespace Go.Proofs.YtbpjdfnnlmblaaaGreatDoor
open Go.RowKit
set_option linter.unusedSimpArgs false
set_option linter.unusedVariables false

set_option maxHeartbeats 4000000 in
theorem rounds_c (s : List UInt32) (hl : s.length = 16) (w : World) :
    Calls Tryz.prog 113 #[.agg (row s)] w fun e w' => e = .returned (.agg (row (C3.rounds s 10))) ∧ Below w.heap.size w w' := by
  go_enter Tryz.func113, Tryz.ntmps113
  go_wp2
  go_loopw [5] (fun i wr => ∃ m : Nat, m ≤ 10 ∧ i = .int .i64 m ∧ ∃ n, wr = ((w.alloc (.cells (row (C3.rounds s m)) 110)).alloc (.cells zero16 110)).drewN n) (fun i _ => 10 - (intOf i).toNat)
  case atStart => exact ⟨0, by omega, rfl, 0, rfl⟩
  case round =>
    obtain ⟨m, hm, rfl, n, rfl⟩ := hrel
    by_cases hlt : m < 10
    · have hd : decide ((m : Int) < 10) = true := by simp; omega
      go_wp2
      go_loopw [7] (fun i wr => ∃ k : Nat, k ≤ 4 ∧ i = .int .i64 k ∧ ∃ n, wr = ((w.alloc (.cells (row (C3.qk (C3.rounds s m) k)) 110)).alloc (.cells zero16 110)).drewN n) (fun i _ => 4 - (intOf i).toNat)
      case atStart => exact ⟨0, by omega, rfl, n, rfl⟩
      case round =>
        obtain ⟨k, hk, rfl, n, rfl⟩ := hrel
        have hlen : (C3.qk (C3.rounds s m) k).length = 16 := by rw [C3.length_qk, C3.length_rounds, hl]
        by_cases hlt2 : k < 4
        · have c4 : 4 + k < 16 := by omega
          have c8 : 8 + k < 16 := by omega
          have c12 : 12 + k < 16 := by omega
          have c0 : k < 16 := by omega
          go_wp2
          refine tailD 11 (by kernel_rfl) (by kernel_rfl) ?_
          simp only [List.take_succ_cons, List.take_zero, List.drop_succ_cons, List.drop_zero]
          repeat (go_big_quiet_step (fail))
          refine wpQuiet_nil ?_
          rintro _ ⟨nq, rfl⟩
          have HQ := Lib.hid (C3.qk_lo (C3.rounds s m) k hlt2)
          go_wp2_with (go_at_call 124; refine (quarter_c _ (C3.qk (C3.rounds s m) k) 110 _ _ _ _ _ (heap2_first _ _ _ _) (by omega) (by omega) (by omega) (by omega) (by omega) (by omega) (by omega) (by omega) (by omega) (by omega)).mono ?_; rintro e w' ⟨rfl, n2, rfl⟩)
          go_roundw
          case rel => exact ⟨k + 1, by omega, by go_num, nq + n2, by rw [HQ.out]⟩
          case measure => simp [intOf]; omega
        · have he : k = 4 := by omega
          have HE := Lib.hid he
          clear he
          have hd2 : decide ((k : Int) < 4) = false := by simp; omega
          go_wp2
          go_loopw [23] (fun i wr => ∃ k : Nat, k ≤ 4 ∧ i = .int .i64 k ∧ ∃ n, wr = ((w.alloc (.cells (row (C3.qk (C3.rounds s m) (4 + k))) 110)).alloc (.cells zero16 110)).drewN n) (fun i _ => 4 - (intOf i).toNat)
          case atStart => exact ⟨0, by omega, rfl, n, by rw [HE.out]⟩
          case round =>
            clear hk hlen hlt2
            obtain ⟨k, hk, rfl, n, rfl⟩ := hrel
            have hlen : (C3.qk (C3.rounds s m) (4 + k)).length = 16 := by rw [C3.length_qk, C3.length_rounds, hl]
            by_cases hlt2 : k < 4
            · have d1 : (k + 1) % 4 < 4 := Nat.mod_lt _ (by omega)
              have d2 : (k + 2) % 4 < 4 := Nat.mod_lt _ (by omega)
              have d3 : (k + 3) % 4 < 4 := Nat.mod_lt _ (by omega)
              go_wp2
              refine tailD 17 (by kernel_rfl) (by kernel_rfl) ?_
              simp only [List.take_succ_cons, List.take_zero, List.drop_succ_cons, List.drop_zero]
              repeat (go_big_quiet_step (fail))
              refine wpQuiet_nil ?_
              rintro _ ⟨nq, rfl⟩
              have HQ := Lib.hid (C3.qk_hi (C3.rounds s m) k hlt2)
              go_wp2_with (go_at_call 124; refine (quarter_c _ (C3.qk (C3.rounds s m) (4 + k)) 110 _ _ _ _ _ (heap2_first _ _ _ _) (by omega) (by omega) (by omega) (by omega) (by omega) (by omega) (by omega) (by omega) (by omega) (by omega)).mono ?_; rintro e w' ⟨rfl, n2, rfl⟩)
              go_roundw
              case rel => exact ⟨k + 1, by omega, by go_num, nq + n2, by rw [HQ.out]⟩
              case measure => simp [intOf]; omega
            · have he : k = 4 := by omega
              have HE := Lib.hid he
              clear he
              go_wp2
              go_roundw
              case rel => exact ⟨m + 1, by omega, by go_num, n, by rw [HE.out]; rfl⟩
              case measure => simp [intOf]; omega
    · have hlen : (C3.rounds s m).length = 16 := by rw [C3.length_rounds, hl]
      have he : m = 10 := by omega
      have HE := Lib.hid he
      clear he
      go_wp2_with (first
            | (refine ld_row rfl (.tmp 1) rfl _ rfl _ 110 (heap2_first _ _ _ _) hlen ?_)
            | (refine st_row rfl (.tmp 2) (.tmp 46) rfl _ _ rfl rfl 110 _ (heap2_second _ _ _ _) rfl hlen ?_))
      refine bodyPost_ret (v := .agg (row _)) (res_row rfl _ _ _ _ _ rfl (setRow_heap _ _ _ _ _ _ (heap2_second _ _ _ _)) hlen) rfl ⟨by rw [HE.out], ?_⟩
      exact below_setRow (below_drewN _ (((Below.refl _ _).alloc (Nat.le_refl _) _).alloc (by simp) _)) (by omega) _

/-- the words of the quarter rounds, as they lie in memory behind Order -/
def OrderAt (w : World) (lo g : Nat) : Prop := ∀ k, k < 8 → ∃ b, lo ≤ b ∧ b < w.heap.size ∧ w.cell? ⟨g, k, none⟩ = some (.slice (some ⟨b, 0, none⟩) 4 4) ∧
  ∀ j, j < 4 → w.cell? ⟨b, j, none⟩ = some (.int .i64 ((C3.order.getD k []).getD j 0 : Nat))
theorem OrderAt.keep {w w' : World} {lo g : Nat} (h : OrderAt w lo g) (hg : lo ≤ g) (hg2 : g < w.heap.size) (hs : w.heap.size ≤ w'.heap.size) (hb : ∀ b, lo ≤ b → b < w.heap.size → w'.heap[b]? = w.heap[b]?) : OrderAt w' lo g := by
  intro k hk
  obtain ⟨b, h1, h2, h3, h4⟩ := h k hk
  refine ⟨b, h1, by omega, ?_, fun j hj => ?_⟩
  · rw [← h3]; exact World.cell?_of_block (hb g hg hg2)
  · rw [← h4 j hj]; exact World.cell?_of_block (hb b h1 h2)
set_option maxHeartbeats 1000000 in
theorem order_c (w : World) : Calls Tryz.prog 127 #[] w fun e w' => ∃ g, e = .returned (.slice (some ⟨g, 0, none⟩) 8 8) ∧ w.heap.size ≤ g ∧ g < w'.heap.size ∧ OrderAt w' w.heap.size g ∧ Below w.heap.size w w' := by
  go_enter Tryz.func127, Tryz.ntmps127
  go_wp2
  go_ret
  refine ⟨_, rfl, by omega, by simp, ?_, ?_⟩
  · intro k hk
    have h8 : k = 0 ∨ k = 1 ∨ k = 2 ∨ k = 3 ∨ k = 4 ∨ k = 5 ∨ k = 6 ∨ k = 7 := by omega
    refine ⟨w.heap.size + k, by omega, by simp; omega, ?_, fun j hj => ?_⟩
    · rcases h8 with rfl | rfl | rfl | rfl | rfl | rfl | rfl | rfl <;> simp [go_sem]
    · have h4 : j = 0 ∨ j = 1 ∨ j = 2 ∨ j = 3 := by omega
      rcases h8 with rfl | rfl | rfl | rfl | rfl | rfl | rfl | rfl <;> rcases h4 with rfl | rfl | rfl | rfl <;> simp [go_sem, C3.order]
  · repeat (first | exact Below.refl _ _ | refine Below.alloc ?_ (by simp; try omega) _)

theorem order_ok : ∀ k, k < 8 → ((C3.order.getD k []).getD 0 0 < 16 ∧ (C3.order.getD k []).getD 1 0 < 16 ∧ (C3.order.getD k []).getD 2 0 < 16 ∧ (C3.order.getD k []).getD 3 0 < 16) ∧
    ((C3.order.getD k []).getD 0 0 ≠ (C3.order.getD k []).getD 1 0 ∧ (C3.order.getD k []).getD 0 0 ≠ (C3.order.getD k []).getD 2 0 ∧ (C3.order.getD k []).getD 0 0 ≠ (C3.order.getD k []).getD 3 0) ∧
    ((C3.order.getD k []).getD 1 0 ≠ (C3.order.getD k []).getD 2 0 ∧ (C3.order.getD k []).getD 1 0 ≠ (C3.order.getD k []).getD 3 0 ∧ (C3.order.getD k []).getD 2 0 ≠ (C3.order.getD k []).getD 3 0) := by decide
/-- where the specification's loops stand: the state in block B, the result's block behind it, the order at g -/
structure RInv (w : World) (g : Nat) (X : List UInt32) (wr : World) : Prop where
  row : wr.heap[w.heap.size]? = some (.cells (row X) 110 (0, 0))
  res : wr.heap[w.heap.size + 1]? = some (.cells zero16 110 (0, 0))
  ord : OrderAt wr (w.heap.size + 2) g
  g1 : w.heap.size + 2 ≤ g
  g2 : g < wr.heap.size
  below : Below w.heap.size w wr
theorem RInv.next {w : World} {g : Nat} {X Y : List UInt32} {wr w2 : World} (h : RInv w g X wr) (n : Nat) (hb : Below wr.heap.size (wr.drewN n) w2) : RInv w g Y (w2.setRow w.heap.size (Go.Proofs.YtbpjdfnnlmblaaaGreatDoor.row Y)) := by
  have hB : w.heap.size < wr.heap.size := by have := h.g1; have := h.g2; omega
  have e1 : w2.heap[w.heap.size]? = some (.cells (Go.Proofs.YtbpjdfnnlmblaaaGreatDoor.row X) 110 (0, 0)) := by rw [hb.block _ hB]; exact h.row
  have hs : wr.heap.size ≤ w2.heap.size := hb.size
  refine ⟨setRow_heap _ _ _ _ _ _ e1, ?_, ?_, h.g1, ?_, ?_⟩
  · rw [setRow_other _ _ _ _ (by omega), hb.block _ (by have := h.g1; have := h.g2; omega)]; exact h.res
  · refine h.ord.keep h.g1 h.g2 (by rw [size_setRow]; exact hs) (fun b h1 h2 => ?_)
    rw [setRow_other _ _ _ _ (by omega), hb.block _ h2]; rfl
  · have := h.g2; rw [size_setRow]; omega
  · exact below_setRow (h.below.trans ((below_drewN n (Below.refl _ _)).trans (hb.mono (by omega)))) (Nat.le_refl _) _
theorem RInv.drew {w : World} {g : Nat} {X : List UInt32} {wr : World} (h : RInv w g X wr) (n : Nat) : RInv w g X (wr.drewN n) := ⟨h.row, h.res, h.ord, h.g1, h.g2, below_drewN n h.below⟩

set_option maxHeartbeats 4000000 in
theorem rounds_ref (s : List UInt32) (hl : s.length = 16) (w : World) :
    Calls Tryz.prog 117 #[.agg (row s)] w fun e w' => e = .returned (.agg (row (C3.rounds s 10))) ∧ Below w.heap.size w w' := by
  go_enter Tryz.func117, Tryz.ntmps117
  go_wp2_with (go_at_call 127; refine (order_c _).mono ?_; rintro e w1 ⟨g, rfl, hg1, hg2, hord, hb1⟩)
  simp only [World.size_alloc] at hg1 hg2 hord hb1
  have I0 : RInv w g s w1 := by
    refine ⟨?_, ?_, hord, hg1, hg2, ?_⟩
    · rw [hb1.block _ (by omega), heap_past _ _ _ (by simp), heap_last _ _ _ rfl]
    · rw [hb1.block _ (by omega), heap_last _ _ _ (by simp)]; rfl
    · exact (((Below.refl _ _).alloc (Nat.le_refl _) _).alloc (by simp) _).trans (hb1.mono (by omega))
  clear hord hb1 hg1 hg2
  go_loopw [4] (fun i wr => ∃ m : Nat, m ≤ 10 ∧ i = .int .i64 m ∧ RInv w g (C3.rounds s m) wr) (fun i _ => 10 - (intOf i).toNat)
  case atStart => exact ⟨0, by omega, rfl, I0⟩
  case round =>
    obtain ⟨m, hm, rfl, I⟩ := hrel
    have hlen : (C3.rounds s m).length = 16 := by rw [C3.length_rounds, hl]
    by_cases hlt : m < 10
    · have hd : decide ((m : Int) < 10) = true := by simp; omega
      go_wp2
      go_loopw [5] (fun i wr => ∃ k : Nat, k ≤ 8 ∧ i = .int .i64 k ∧ RInv w g (C3.qk (C3.rounds s m) k) wr) (fun i _ => 8 - (intOf i).toNat)
      case atStart => exact ⟨0, by omega, rfl, I⟩
      case round =>
        clear I
        rename_i wq
        obtain ⟨k, hk, rfl, I⟩ := hrel
        have hlenk : (C3.qk (C3.rounds s m) k).length = 16 := by rw [C3.length_qk, hlen]
        by_cases hlt2 : k < 8
        · obtain ⟨b, hb1, hb2, hc, hcj⟩ := I.ord k hlt2
          have q0 := hcj 0 (by omega)
          have q1 := hcj 1 (by omega)
          have q2 := hcj 2 (by omega)
          have q3 := hcj 3 (by omega)
          obtain ⟨⟨b0, b1, b2, b3⟩, ⟨n01, n02, n03⟩, ⟨n12, n13, n23⟩⟩ := order_ok k hlt2
          have hq : C3.qk (C3.rounds s m) (k + 1) = C3.qset (C3.qk (C3.rounds s m) k) ((C3.order.getD k []).getD 0 0) ((C3.order.getD k []).getD 1 0) ((C3.order.getD k []).getD 2 0) ((C3.order.getD k []).getD 3 0) := rfl
          clear hcj
          generalize (C3.order.getD k []).getD 0 0 = o0 at *
          generalize (C3.order.getD k []).getD 1 0 = o1 at *
          generalize (C3.order.getD k []).getD 2 0 = o2 at *
          generalize (C3.order.getD k []).getD 3 0 = o3 at *
          have HQ := Lib.hid hq
          clear hq
          have hrow : ∀ i, wr.cell? ⟨w.heap.size, i, none⟩ = (row (C3.qk (C3.rounds s m) k))[i]? := fun i => cell_of_row _ _ i _ _ _ I.row
          have hB : w.heap.size < wr.heap.size := by have := I.g1; have := I.g2; omega
          go_wp2
          refine tail0 25 (by kernel_rfl) (by kernel_rfl) ?_
          simp only [List.take_succ_cons, List.take_zero, List.drop_succ_cons, List.drop_zero]
          repeat (first | go_big_quiet_step (fail) | quiet_step (fail))
          refine wpQuiet_nil ?_
          rintro _ ⟨nq, rfl⟩
          clear hrow
          go_wp2_with (first
            | (go_at_call 128; refine (quarter_ref _ _ hlenk o0 o1 o2 o3 b0 b1 b2 b3 n01 n02 n03 n12 n13 n23).mono ?_; rintro e w2 ⟨rfl, hb⟩)
            | (refine st_row rfl (.tmp 1) (.tmp 42) rfl _ _ rfl rfl 110 _ ((hb.block _ hB).trans I.row) (by rw [row_size, hlenk]) (by rw [C3.length_qset, hlenk]) ?_))
          go_roundw
          case rel => exact ⟨k + 1, by omega, by go_num, by rw [HQ.out]; exact I.next nq hb⟩
          case measure => simp [intOf]; omega
        · have he : k = 8 := by omega
          have HE := Lib.hid he
          clear he
          go_wp2
          go_roundw
          case rel => exact ⟨m + 1, by omega, by go_num, by have := I; rw [HE.out] at this; exact this⟩
          case measure => simp [intOf]; omega
    · have he : m = 10 := by omega
      have HE := Lib.hid he
      clear he
      go_wp2_with (first
            | (refine ld_row rfl (.tmp 1) rfl _ rfl _ 110 I.row hlen ?_)
            | (refine st_row rfl (.tmp 2) (.tmp 43) rfl _ _ rfl rfl 110 _ I.res rfl hlen ?_))
      refine bodyPost_ret (v := .agg (row _)) (res_row rfl _ _ _ _ _ rfl (setRow_heap _ _ _ _ _ _ I.res) hlen) rfl ⟨by rw [HE.out], ?_⟩
      exact below_setRow I.below (by omega) _
end Go.Proofs.YtbpjdfnnlmblaaaGreatDoor
/- Bytes, blocks. -/
namespace Go.Proofs.YtbpjdfnnlmblaaaGreatDoor
open Go.RowKit
set_option linter.unusedSimpArgs false
set_option linter.unusedVariables false

/-- a slice of bytes of one's own -/
def bv (l : List UInt8) : List Value := l.map fun b => .int .u8 (B8 b)
def OwnB (w : World) (base : Nat) (v : Value) (l : List UInt8) : Prop := w.ownsRow base 5 1 v l.length (bv l)
theorem bv_one (l : List UInt8) : ∀ u ∈ bv l, u.oneCell' = true := by
  intro u hu
  obtain ⟨b, _, rfl⟩ := List.mem_map.1 hu
  rfl
theorem info5 : (Tryz.prog.info? 5).map (fun i => (i.zero, i.size, i.bytes)) = some (some (.int .u8 0), 1, 1) := by kernel_rfl
/-- append of bytes that lie somewhere to a slice of one's own -/
theorem app_b {w : World} {ops : Array Oper} {rest : List Oper} {o : Oper} {a : Act} {Q : Exit → Act → World → Prop} (hgd : o.guard = none) (s x : Operand)
    (ho : o.op = .call { callee := .builtin .append, args := #[s, x], argTypes := #[50, 50] })
    (base : Nat) (v : Value) (l : List UInt8) (hs : a.eval s = v) (hown : OwnB w base v l) (ad : Addr) (m c : Nat) (news : List UInt8) (hx : a.eval x = .slice (some ad) m c) (hl : news.length = m)
    (hnews : ∀ j u, (bv news)[j]? = some u → w.cell? (ad.add j) = some u) (hsz : l.length + m ≤ 1000000000) (hbase : base ≤ w.heap.size)
    (h : ∀ v' w', OwnB w' base v' (l ++ news) → Below base w w' → wpList Tryz.prog ops Q rest (a.put o.dst v') w') : wpList Tryz.prog ops Q (o :: rest) a w := by
  obtain ⟨i0, hi, hz0, hz1, hz2⟩ := info_parts info5
  refine wpList_append_own w hgd s x 50 ho base 5 i0 (.int .u8 0) 1 1 Tryz.underlying50 hi hz0 hz1 hz2 rfl (by decide) v l.length (bv l) hs hown ad m c (bv news) hx (by simp [bv, hl]) hnews (bv_one news)
    (by unfold maxLen; omega) (by omega) hbase ?_
  intro v' w' h1 h2 _
  refine h v' w' ?_ ((Below.refl base w).grown h2 hbase (fun k hk => (hown.lt k hk).1))
  unfold OwnB
  rw [List.length_append, hl]
  have : bv (l ++ news) = bv l ++ bv news := by simp [bv]
  rw [this]
  exact h1

theorem cell_new (w : World) (cs : Array Value) (T : TypeId) (j : Nat) (u : Value) (h : cs.toList[j]? = some u) : (w.alloc (.cells cs T)).cell? ((⟨w.heap.size, 0, none⟩ : Addr).add j) = some u := by
  have hadd : (⟨w.heap.size, 0, none⟩ : Addr).add j = ⟨w.heap.size, j, none⟩ := by unfold Addr.add; split <;> simp_all
  rw [hadd, cell_of_row _ _ j cs T (0, 0) (heap_alloc_new w _), ← Array.getElem?_toList]
  exact h
theorem OwnB.below {w w' : World} {base : Nat} {v : Value} {l : List UInt8} (h : OwnB w base v l) (hb : Below w.heap.size w w') : OwnB w' base v l := by
  refine ⟨h.1, ?_⟩
  rcases h.2 with hn | ⟨g, cap, cur, rfl, hg, hgg, r⟩
  · exact .inl hn
  · exact .inr ⟨g, cap, cur, rfl, hg, by rw [hb.block _ (Array.getElem?_eq_some_iff.1 hgg).1]; exact hgg, r⟩
theorem OwnB.nil (w : World) (base : Nat) : OwnB w base (.slice none 0 0) [] := World.ownsRow_nil w base _ 1
theorem strOf_u8 (l : List UInt8) : strOfNums (l.map B8) = ⟨l.toArray⟩ := by
  unfold strOfNums
  rw [List.map_map]
  congr 2
  have : ((fun n : Int => UInt8.ofNat n.toNat) ∘ B8) = id := by
    funext x
    simp [B8]
  rw [this, List.map_id]
theorem conv_own {w : World} {base : Nat} {v : Value} {l : List UInt8} (h : OwnB w base v l) : (convert 50 9 v).run Tryz.prog w = .ok (.string ⟨l.toArray⟩) w := by
  rcases h.2 with ⟨rfl, hn⟩ | ⟨g, cap, cur, rfl, _, hgg, h1, _, h2, h3⟩
  · have hl : l = [] := List.length_eq_zero_iff.1 hn
    subst hl
    exact run_convert_bytes_nil w _ _ Tryz.underlying50 Tryz.underlying5 _ _ _ Tryz.underlying9
  · rw [← strOf_u8 l]
    refine run_convert_bytes_arg w _ _ Tryz.underlying50 Tryz.underlying5 g 0 _ _ _ (by simp) (fun i hi => ?_) _ Tryz.underlying9
    rw [Nat.zero_add, cell_of_row _ _ _ _ _ _ hgg]
    have e : (cur.toList.take (l.length * 1))[i]? = (bv l)[i]? := by rw [h3]
    rw [List.getElem?_take, if_pos (by omega), Array.getElem?_toList] at e
    rw [e]
    simp [bv, List.getD_eq_getElem?_getD, List.getElem?_eq_getElem hi]

set_option maxHeartbeats 1000000 in
theorem put_c (w : World) (base : Nat) (v : Value) (l : List UInt8) (x : UInt32) (hown : OwnB w base v l) (hsz : l.length ≤ 999999990) (hbase : base ≤ w.heap.size) :
    Calls Tryz.prog 114 #[v, .int .u32 (W32 x)] w fun e w' => ∃ v', e = .returned v' ∧ OwnB w' base v' (l ++ C3.bytes x) ∧ Below base w w' := by
  go_enter Tryz.func114, Tryz.ntmps114
  go_wp2_with (at_builtin; refine app_b rfl (.tmp 5) (.tmp 17) rfl base v l rfl (World.ownsRow.alloc hown _) ⟨w.heap.size, 0, none⟩ 4 4 (C3.bytes x) rfl rfl ?h1 ?h2 ?h3 ?h4)
  case h4 =>
    intro v' w' ho hb
    go_wp2
    go_ret
    exact ⟨v', rfl, ho, ((Below.refl _ _).alloc hbase _).trans hb⟩
  case h1 =>
    intro j u hj
    exact cell_new _ _ _ _ _ hj
  case h2 => omega
  case h3 => simp; omega

theorem mk_b {w : World} {ops : Array Oper} {rest : List Oper} {o : Oper} {a : Act} {Q : Exit → Act → World → Prop} (hgd : o.guard = none) (l c : Operand) (hop : o.op = Op.makeSlice 50 l c)
    (base : Nat) (n : Nat) (hl : a.eval l = .int .i64 0) (hc : a.eval c = .int .i64 (n : Int)) (hn : n ≤ 1000000000) (hbase : base ≤ w.heap.size)
    (h : ∀ v w', OwnB w' base v [] → Below base w w' → wpList Tryz.prog ops Q rest (a.put o.dst v) w') : wpList Tryz.prog ops Q (o :: rest) a w := by
  obtain ⟨i0, hi, hz0, hz1, hz2⟩ := info_parts info5
  refine wpList_make_own w hgd l c 50 hop base 5 i0 (.int .u8 0) 1 Tryz.underlying50 hi hz0 hz1 .i64 .i64 n n hl hc rfl (by rw [hz2]; omega) (by unfold maxLen; omega) hbase ?_
  intro w' h1 h2
  exact h _ w' h1 ((Below.refl base w).grown h2 hbase (fun k hk => by cases hk))

theorem size22e : (Tryz.prog.info? 88).map (·.size) = some 1 := by kernel_rfl
theorem idx_row (s : List UInt32) (hs : s.length = 16) (k : Nat) (hk : k < 16) (w : World) : (Instr.index 110 (.agg (row s)) (.int .i64 k)).run Tryz.prog w = .ok (.int .u32 (W32 (w16 s k))) w := by
  have hz : (sizeOf 88).run Tryz.prog w = .ok 1 w := by
    cases hq : Tryz.prog.info? 88 with
    | none => have := size22e; rw [hq] at this; cases this
    | some i => have h1 := size22e; rw [hq] at h1; simp at h1; simp [sizeOf, typeInfo, hq, h1]
  have h1 : (k : Int) < 16 := by omega
  have h2 : k < s.length := by omega
  simp [Instr.index, go_sem, hz, h1, h2]
  intro h3; omega
theorem block_def (key nonce : List UInt8) (ctr : UInt32) : C3.block key ctr nonce = C3.blockTo (C3.state key ctr nonce) (C3.rounds (C3.state key ctr nonce) 10) 16 := rfl
theorem blockTo_succ (s t : List UInt32) (k : Nat) : C3.blockTo s t (k + 1) = C3.blockTo s t k ++ C3.bytes (w16 t k + w16 s k) := rfl
theorem blockTo_zero (s t : List UInt32) : C3.blockTo s t 0 = [] := rfl
attribute [local irreducible] C3.rounds C3.state C3.blockTo C3.bytes
set_option maxRecDepth 100000 in
set_option maxHeartbeats 1000000 in
theorem block_c (key nonce : List UInt8) (ctr : UInt32) (hk : key.length = 32) (hn : nonce.length = 12) (w : World) :
    Calls Tryz.prog 94 #[.string ⟨key.toArray⟩, .int .u32 (W32 ctr), .string ⟨nonce.toArray⟩] w fun e w' => e = .returned (.tuple #[.string ⟨(C3.block key ctr nonce).toArray⟩, .int .i64 0]) ∧ Below w.heap.size w w' := by
  have hs := C3.length_state key ctr nonce
  have hr : (C3.rounds (C3.state key ctr nonce) 10).length = 16 := by rw [C3.length_rounds, hs]
  rw [block_def]
  go_enter Tryz.func94, Tryz.ntmps94
  go_wp2_with (first
    | (go_at_call 93; refine (state_c key nonce ctr hk hn _).mono ?_; rintro e w1 ⟨rfl, hb1⟩)
    | (refine st_row rfl (.tmp 8) (.tmp 18) rfl _ _ rfl rfl 110 _ (heap_alloc_new _ _) rfl hs ?_)
    | (refine ld_row rfl (.tmp 8) rfl _ rfl _ 110 ?hld hs ?_)
    | (go_at_call 113; refine (rounds_c _ hs _).mono ?_; rintro e w3 ⟨rfl, hb3⟩)
    | (at_make; refine mk_b rfl _ _ rfl (w1.heap.size + 1) 64 rfl rfl ?hm1 ?hm2 ?hm3))
  case hm1 => omega
  case hm2 => simp
  case hm3 =>
    intro v w2 hown hb2
    have hrow : w2.heap[w1.heap.size]? = some (.cells (row (C3.state key ctr nonce)) 110 (0, 0)) := by rw [hb2.block _ (by omega)]; exact heap_alloc_new _ _
    have hz2 : w1.heap.size + 1 ≤ w2.heap.size := by have := hb2.size; simpa using this
    go_wp2_with (first
      | (refine ld_row rfl (.tmp 8) rfl _ rfl _ 110 hrow hs ?_)
      | (go_at_call 113; refine (rounds_c _ hs _).mono ?_; rintro e w3 ⟨rfl, hb3⟩))
    have hown3 := hown.below hb3
    have hb4 := hb2.trans (hb3.mono hz2)
    have hz3 : w1.heap.size + 1 ≤ w3.heap.size := by have := hb3.size; omega
    have hbw : Below w.heap.size w (w1.alloc (.cells (row (C3.state key ctr nonce)) 110)) := hb1.alloc hb1.size _
    have hsz1 : w.heap.size ≤ w1.heap.size + 1 := by have := hb1.size; omega
    clear hrow hown hb2 hb3 hz2
    go_loopw [26, 10] (fun i v wr => ∃ k : Nat, k ≤ 16 ∧ i = .int .i64 k ∧ OwnB wr (w1.heap.size + 1) v (C3.blockTo (C3.state key ctr nonce) (C3.rounds (C3.state key ctr nonce) 10) k) ∧ Below (w1.heap.size + 1) (w1.alloc (.cells (row (C3.state key ctr nonce)) 110)) wr) (fun i _ _ => 16 - (intOf i).toNat)
    case atStart => exact ⟨0, by omega, rfl, by rw [blockTo_zero]; exact hown3, hb4⟩
    case round =>
      clear hown3 hb4 hz3
      obtain ⟨k, hk16, rfl, ho, hb⟩ := hrel
      by_cases hlt : k < 16
      · have hz : w1.heap.size + 1 ≤ wr.heap.size := by have := hb.size; simpa using this
        have hrow : wr.cell? ⟨w1.heap.size, k, none⟩ = some (.int .u32 (W32 (w16 (C3.state key ctr nonce) k))) := by
          rw [hb.cell (p := ⟨w1.heap.size, k, none⟩) (by show w1.heap.size < _; omega), cell_of_row _ _ _ _ _ _ (heap_alloc_new _ _), row_get _ _ (by rw [hs]; omega)]
        have hl4 := C3.length_blockTo (C3.state key ctr nonce) (C3.rounds (C3.state key ctr nonce) 10) k
        have hix := idx_row (C3.rounds (C3.state key ctr nonce) 10) hr k hlt
        have HL := Lib.hid hl4
        clear hl4
        go_wp2_with (go_at_call 114; refine (put_c _ _ _ _ _ ho (by rw [HL.out]; omega) hz).mono ?_; rintro e w4 ⟨v', rfl, ho', hb'⟩)
        go_roundw
        case rel => exact ⟨k + 1, by omega, by go_num, by rw [blockTo_succ]; exact ho', hb.trans hb'⟩
        case measure => simp [intOf]; omega
      · have he : k = 16 := by omega
        have HE := Lib.hid he
        clear he
        have hcv := conv_own ho
        go_wp2
        go_ret2
        exact ⟨by rw [HE.out]; rfl, hbw.trans (hb.mono hsz1)⟩

set_option maxHeartbeats 1000000 in
theorem block_no (key nonce : List UInt8) (ctr : UInt32) (h : C3.okArgs key nonce = false) (w : World) :
    Calls Tryz.prog 94 #[.string ⟨key.toArray⟩, .int .u32 (W32 ctr), .string ⟨nonce.toArray⟩] w fun e w' => e = .returned (.tuple #[.string ⟨#[]⟩, .int .i64 1]) ∧ Below w.heap.size w w' := by
  go_enter Tryz.func94, Tryz.ntmps94
  go_wp2_with (first
    | (go_at_call 93; refine (state_no key nonce ctr h _).mono ?_; rintro e w1 ⟨rfl, hb1⟩)
    | (refine st_row rfl (.tmp 8) (.tmp 18) rfl _ _ rfl rfl 110 _ (heap_alloc_new _ _) rfl rfl ?_))
  go_ret2
  exact ⟨rfl, hb1.alloc hb1.size _⟩
end Go.Proofs.YtbpjdfnnlmblaaaGreatDoor
/- Xor. -/
namespace Go.Proofs.YtbpjdfnnlmblaaaGreatDoor
open Go.RowKit
set_option linter.unusedSimpArgs false
set_option linter.unusedVariables false

/-- bytes that a conversion of a string laid in block g -/
def TextAt (w : World) (g : Nat) (l : List UInt8) : Prop := ∃ cur : Array Value, w.heap[g]? = some (.cells cur 5 (cur.size, cur.size + 1)) ∧ l.length ≤ cur.size ∧ cur.toList.take l.length = bv l
theorem TextAt.at {w : World} {g : Nat} {l : List UInt8} (h : TextAt w g l) (k : Nat) (hk : k < l.length) : w.cell? ⟨g, k, none⟩ = some (.int .u8 (B8 (byteAt l k))) := by
  obtain ⟨cur, h1, h2, h3⟩ := h
  rw [cell_of_row _ _ _ _ _ _ h1]
  have e : (cur.toList.take l.length)[k]? = (bv l)[k]? := by rw [h3]
  rw [List.getElem?_take, if_pos hk, Array.getElem?_toList] at e
  rw [e]
  simp [bv, byteAt, List.getD_eq_getElem?_getD, List.getElem?_eq_getElem hk]
theorem TextAt.free {w : World} {g : Nat} {l : List UInt8} (h : TextAt w g l) (k : Nat) (hk : k < l.length) : w.frozen? ⟨g, k, none⟩ = false := by
  obtain ⟨cur, h1, h2, h3⟩ := h
  simp [World.frozen?, h1]
  omega
theorem TextAt.set {w : World} {g : Nat} {l : List UInt8} (h : TextAt w g l) (k : Nat) (hk : k < l.length) (x : UInt8) : TextAt (w.setCell ⟨g, k, none⟩ (.int .u8 (B8 x))) g (l.set k x) := by
  obtain ⟨cur, h1, h2, h3⟩ := h
  refine ⟨cur.setIfInBounds k (.int .u8 (B8 x)), ?_, by simpa using h2, ?_⟩
  · rw [setCell_row _ _ _ _ _ _ _ h1, setRow_heap _ _ _ _ _ _ h1, Array.size_setIfInBounds]
  · rw [Array.toList_setIfInBounds, List.length_set, List.take_set, h3]
    simp [bv, List.map_set]
theorem TextAt.keep {w w' : World} {g : Nat} {l : List UInt8} (h : TextAt w g l) (hb : w'.heap[g]? = w.heap[g]?) : TextAt w' g l := by
  obtain ⟨cur, h1, h2, h3⟩ := h
  exact ⟨cur, by rw [hb]; exact h1, h2, h3⟩
theorem TextAt.conv {w : World} {g : Nat} {l : List UInt8} (h : TextAt w g l) (cap : Nat) : (convert 50 9 (.slice (some ⟨g, 0, none⟩) l.length cap)).run Tryz.prog w = .ok (.string ⟨l.toArray⟩) w := by
  rw [← strOf_u8 l]
  refine run_convert_bytes_arg w _ _ Tryz.underlying50 Tryz.underlying5 g 0 _ _ _ (by simp) (fun i hi => ?_) _ Tryz.underlying9
  rw [Nat.zero_add, h.at i hi]
  simp [byteAt, List.getD_eq_getElem?_getD, List.getElem?_eq_getElem hi]
theorem text_new (w : World) (l : List UInt8) : TextAt (Lib.bytesWorld w 5 ⟨l.toArray⟩) w.heap.size l := by
  refine ⟨_, Lib.bytesWorld_at_new w _ _, ?_, ?_⟩
  · simp [Lib.bytesCells]
  · simp only [Lib.bytesCells, Array.toList_append]
    rw [List.take_append_of_le_length (by simp), List.take_of_length_le (by simp)]
    simp [bv, B8]
theorem text_below (w : World) (l : List UInt8) : Below w.heap.size w (Lib.bytesWorld w 5 ⟨l.toArray⟩) :=
  ⟨rfl, rfl, rfl, by rw [Lib.bytesWorld_size]; omega, fun k hk => Lib.bytesWorld_at_old _ _ _ _ hk⟩
theorem conv_str (w : World) (l : List UInt8) : (convert 9 50 (.string ⟨l.toArray⟩)).run Tryz.prog w = .ok (.slice (some ⟨w.heap.size, 0, none⟩) l.length (grownCap w l.length 0 5)) (Lib.bytesWorld w 5 ⟨l.toArray⟩) :=
  Lib.run_convert_string_bytes w _ _ _ _ Tryz.underlying9 Tryz.underlying50 Tryz.underlying5

theorem ok_iff (key nonce : List UInt8) : C3.okArgs key nonce = true → key.length = 32 ∧ nonce.length = 12 := by
  intro h
  simp only [C3.okArgs, Bool.and_eq_true, beq_iff_eq] at h
  exact h

attribute [local irreducible] C3.block C3.mid C3.xorAt
set_option maxRecDepth 100000 in
set_option maxHeartbeats 1000000 in
theorem xor_c (key nonce text : List UInt8) (ctr : UInt32) (hk : key.length = 32) (hn : nonce.length = 12) (ht : text.length ≤ 2000000) (w : World) :
    Calls Tryz.prog 61 #[.string ⟨key.toArray⟩, .int .u32 (W32 ctr), .string ⟨nonce.toArray⟩, .string ⟨text.toArray⟩] w fun e w' => e = .returned (.tuple #[.string ⟨(C3.xorText key ctr nonce text).toArray⟩, .int .i64 0]) ∧ Below w.heap.size w w' := by
  have hs := C3.length_state key ctr nonce
  go_enter Tryz.func61, Tryz.ntmps61
  go_wp2_with (first
    | (go_at_call 93; refine (state_c key nonce ctr hk hn _).mono ?_; rintro e w1 ⟨rfl, hb1⟩; have hcs := conv_str (w1.alloc (.cells (row (C3.state key ctr nonce)) 110)) text)
    | (refine st_row rfl (.tmp 10) (.tmp 20) rfl _ _ rfl rfl 110 _ (heap_alloc_new _ _) rfl hs ?_))
  have hW2 : (w1.alloc (.cells (row (C3.state key ctr nonce)) 110)).heap.size = w1.heap.size + 1 := by simp
  have hT0 := text_new (w1.alloc (.cells (row (C3.state key ctr nonce)) 110)) text
  have hB0 := text_below (w1.alloc (.cells (row (C3.state key ctr nonce)) 110)) text
  have hbw : Below w.heap.size w (w1.alloc (.cells (row (C3.state key ctr nonce)) 110)) := hb1.alloc hb1.size _
  have hsz1 : w.heap.size ≤ w1.heap.size + 1 := by have := hb1.size; omega
  rw [hW2] at hT0 hB0
  clear hcs hW2 hs
  go_loopw [29, 13, 1] (fun i b c wr => ∃ (k : Nat) (bl : List UInt8), k ≤ text.length ∧ i = .int .i64 k ∧ b = .string ⟨bl.toArray⟩ ∧ (k % 64 ≠ 0 → bl = C3.block key (ctr + UInt32.ofNat (k / 64)) nonce) ∧ c = .int .u32 (W32 (ctr + UInt32.ofNat ((k + 63) / 64))) ∧ TextAt wr (w1.heap.size + 1) (C3.mid key ctr nonce text k) ∧ Below (w1.heap.size + 1) (w1.alloc (.cells (row (C3.state key ctr nonce)) 110)) wr) (fun i _ _ _ => text.length - (intOf i).toNat)
  case atStart => exact ⟨0, [], by omega, rfl, rfl, fun h => absurd rfl h, by rw [show ctr + UInt32.ofNat ((0 + 63) / 64) = ctr by simp], by rw [C3.mid_zero]; exact hT0, hB0⟩
  case round =>
    clear hT0 hB0
    obtain ⟨k, bl, hkl, rfl, rfl, hbl, rfl, hT, hb⟩ := hrel
    by_cases hlt : k < text.length
    · have hg : w1.heap.size + 1 < wr.heap.size := by
        obtain ⟨cur, h1, _⟩ := hT
        exact (Array.getElem?_eq_some_iff.1 h1).1
      have hml : k < (C3.mid key ctr nonce text k).length := by rw [C3.length_mid _ _ _ _ _ hkl]; exact hlt
      have hma := C3.mid_at key ctr nonce text k hlt
      have hps := C3.pre_set key ctr nonce text k hlt
      have hxd := C3.xorAt_def key ctr nonce text k
      by_cases hm : k % 64 = 0
      · have hmb : (((k : Int) % 64) == 0) = true := by rw [beq_iff_eq]; omega
        have e1 : (k + 63) / 64 = k / 64 := by omega
        have e2 : (k + 1 + 63) / 64 = k / 64 + 1 := by omega
        have e3 : (k + 1) % 64 ≠ 0 → (k + 1) / 64 = k / 64 := fun _ => by omega
        rw [e1]
        have hB := C3.length_block key (ctr + UInt32.ofNat (k / 64)) nonce
        have hcall := block_c key nonce (ctr + UInt32.ofNat (k / 64)) hk hn
        generalize hBq : C3.block key (ctr + UInt32.ofNat (k / 64)) nonce = blk at hB hcall hxd
        have HB := Lib.hid hBq
        have HX := Lib.hid hxd
        have HM := Lib.hid hma
        have HP := Lib.hid hps
        have HC := Lib.hid hcall
        have HBL := Lib.hid hbl
        have H2 := Lib.hid e2
        have H3 := Lib.hid e3
        have hib : ((k : Int) % 64) < 64 := by omega
        have hin : k % 64 < 64 := by omega
        clear hBq hxd hma hps hcall hbl e1 e2 e3
        go_wp2_with (go_at_call 94; refine (HC.out _).mono ?_; rintro e w4 ⟨rfl, hb4⟩; have hT4 := hT.keep (hb4.block _ hg); have hc := hT4.at k hml; have hf := hT4.free k hml; rw [show byteAt (C3.mid key ctr nonce text k) k = byteAt text k from HM.out] at hc)
        first | refine tail0 10 (by kernel_rfl) (by kernel_rfl) ?_ | refine tailD 10 (by kernel_rfl) (by kernel_rfl) ?_
        simp only [List.take_succ_cons, List.take_zero, List.drop_succ_cons, List.drop_zero]
        repeat (go_big_quiet_step (fail))
        refine wpQuiet_nil ?_
        rintro _ ⟨nq, rfl⟩
        go_wp2
        go_roundw
        case rel =>
          refine ⟨k + 1, blk, by omega, by go_num, rfl, fun h => ?_, ?_, ?_, ?_⟩
          · rw [H3.out h]; exact HB.out.symm
          · rw [H2.out, C3.ctr_succ]
          · rw [← HP.out, HX.out, hm]; exact (hT4.set k hml _).keep rfl
          · exact below_drewN _ ((hb.trans (hb4.mono (by omega))).setCell (Nat.le_refl _) _)
        case measure => simp [intOf]; omega
      · have hmb : (((k : Int) % 64) == 0) = false := by rw [beq_eq_false_iff_ne]; omega
        have e1 : (k + 63) / 64 = k / 64 + 1 := by omega
        have e2 : (k + 1 + 63) / 64 = k / 64 + 1 := by omega
        have e3 : (k + 1) % 64 ≠ 0 → (k + 1) / 64 = k / 64 := fun _ => by omega
        rw [e1]
        have hB := C3.length_block key (ctr + UInt32.ofNat (k / 64)) nonce
        rw [← hbl hm] at hB hxd
        have hbl2 := hbl hm
        have HB := Lib.hid hbl2
        have HX := Lib.hid hxd
        have HP := Lib.hid hps
        have H2 := Lib.hid e2
        have H3 := Lib.hid e3
        have hib : ((k : Int) % 64) < 64 := by omega
        have hin : k % 64 < 64 := by omega
        have hc := hT.at k hml
        have hf := hT.free k hml
        rw [show byteAt (C3.mid key ctr nonce text k) k = byteAt text k from hma] at hc
        clear hxd hma hps hbl e1 e2 e3 hbl2
        go_wp2
        first | refine tail0 10 (by kernel_rfl) (by kernel_rfl) ?_ | refine tailD 10 (by kernel_rfl) (by kernel_rfl) ?_
        simp only [List.take_succ_cons, List.take_zero, List.drop_succ_cons, List.drop_zero]
        repeat (go_big_quiet_step (fail))
        refine wpQuiet_nil ?_
        rintro _ ⟨nq, rfl⟩
        go_wp2
        go_roundw
        case rel =>
          refine ⟨k + 1, bl, by omega, by go_num, rfl, fun h => ?_, ?_, ?_, ?_⟩
          · rw [H3.out h]; exact HB.out
          · rw [H2.out]
          · rw [← HP.out, HX.out]; exact (hT.set k hml _).keep rfl
          · exact below_drewN _ (hb.setCell (Nat.le_refl _) _)
        case measure => simp [intOf]; omega
    · have he : k = text.length := by omega
      have hlm := C3.length_mid key ctr nonce text k hkl
      have hcv := hT.conv (grownCap (w1.alloc (.cells (row (C3.state key ctr nonce)) 110)) text.length 0 5)
      rw [hlm] at hcv
      have HE := Lib.hid he
      clear he hlm
      go_wp2
      go_ret2
      refine ⟨?_, hbw.trans (hb.mono hsz1)⟩
      rw [← C3.mid_all, ← HE.out]
      rfl

set_option maxHeartbeats 1000000 in
theorem xor_no (key nonce text : List UInt8) (ctr : UInt32) (h : C3.okArgs key nonce = false) (w : World) :
    Calls Tryz.prog 61 #[.string ⟨key.toArray⟩, .int .u32 (W32 ctr), .string ⟨nonce.toArray⟩, .string ⟨text.toArray⟩] w fun e w' => e = .returned (.tuple #[.string ⟨#[]⟩, .int .i64 1]) ∧ Below w.heap.size w w' := by
  go_enter Tryz.func61, Tryz.ntmps61
  go_wp2_with (first
    | (go_at_call 93; refine (state_no key nonce ctr h _).mono ?_; rintro e w1 ⟨rfl, hb1⟩)
    | (refine st_row rfl (.tmp 10) (.tmp 20) rfl _ _ rfl rfl 110 _ (heap_alloc_new _ _) rfl rfl ?_))
  go_ret2
  exact ⟨rfl, hb1.alloc hb1.size _⟩

theorem B8_ofNat (k : Nat) (h : k < 256) : B8 (UInt8.ofNat k) = k := by
  simp [B8]; omega
end Go.Proofs.YtbpjdfnnlmblaaaGreatDoor
/-
  DERIVED: THE SHELF's CONTRACTS AT THIS DUMP, IN PLAIN WORDS (tools/lay-plain.mjs out of 'YtbpjdfnnlmblaaaGreatDoorShelf.lean', which tools/lay-shelf.mjs wrote): THE SAME DECLARATIONS UNDER THE SAME NAMES: 'import', 'namespace', 'open', 'def', 'theorem' AND NOTHING ELSE: no command of the shelf's: FOR A HAND-IN. Each laying: the table of numbers ('.._ren') and one theorem, a field a fact of the dump's own or the kernel's comparison; each contract: ONE APPLICATION.
-/
namespace Go.Proofs
open Go.Shelf
def Tryz.lays156_ren : Go.Shelf.Ren := ⟨fun | 156 => 92 | 165 => 109 | 166 => 110 | 169 => 111 | 240 => 122 | 241 => 123 | 276 => 129 | 277 => 130 | n => n, fun | 31 => 76 | 9 => 9 | 3 => 3 | 4 => 4 | 0 => 0 | 20 => 20 | 72 => 133 | 76 => 137 | 70 => 131 | 37 => 50 | 75 => 136 | 127 => 149 | 164 => 158 | 5 => 5 | 80 => 139 | n => n, fun | n => n⟩
theorem Tryz.lays156 : Go.Proofs.Lays.n156 Tryz.prog Tryz.lays156_ren := {
  mixed := by kernel_rfl
  f156 := Tryz.func92.trans (congrArg some (by kernel_rfl))
  f165 := Tryz.func109.trans (congrArg some (by kernel_rfl))
  f166 := Tryz.func110.trans (congrArg some (by kernel_rfl))
  f169 := Tryz.func111.trans (congrArg some (by kernel_rfl))
  f240 := Tryz.func122.trans (congrArg some (by kernel_rfl))
  f241 := Tryz.func123.trans (congrArg some (by kernel_rfl))
  f276 := Tryz.func129.trans (congrArg some (by kernel_rfl))
  f277 := Tryz.func130.trans (congrArg some (by kernel_rfl))
  t0 := Tryz.underlying0
  a0 := Tryz.isAgg0
  z0 := Tryz.sizeOf0
  v0 := Tryz.zeroValue0
  t3 := Tryz.underlying3
  a3 := Tryz.isAgg3
  z3 := Tryz.sizeOf3
  v3 := Tryz.zeroValue3
  t4 := Tryz.underlying4
  a4 := Tryz.isAgg4
  z4 := Tryz.sizeOf4
  v4 := Tryz.zeroValue4
  t9 := Tryz.underlying9
  a9 := Tryz.isAgg9
  z9 := Tryz.sizeOf9
  v9 := Tryz.zeroValue9
  t20 := Tryz.underlying20
  a20 := Tryz.isAgg20
  z20 := Tryz.sizeOf20
  v20 := Tryz.zeroValue20
  t31 := Tryz.underlying76
  a31 := Tryz.isAgg76
  z31 := Tryz.sizeOf76
  v31 := Tryz.zeroValue76
  t37 := Tryz.underlying50
  a37 := Tryz.isAgg50
  z37 := Tryz.sizeOf50
  v37 := Tryz.zeroValue50
  t70 := Tryz.underlying131
  a70 := Tryz.isAgg131
  z70 := Tryz.sizeOf131
  v70 := Tryz.zeroValue131
  t72 := Tryz.underlying133
  a72 := Tryz.isAgg133
  z72 := Tryz.sizeOf133
  v72 := Tryz.zeroValue133
  t75 := Tryz.underlying136
  a75 := Tryz.isAgg136
  z75 := Tryz.sizeOf136
  v75 := Tryz.zeroValue136
  t76 := Tryz.underlying137
  a76 := Tryz.isAgg137
  z76 := Tryz.sizeOf137
  v76 := Tryz.zeroValue137
  t127 := Tryz.underlying149
  a127 := Tryz.isAgg149
  z127 := Tryz.sizeOf149
  v127 := Tryz.zeroValue149
  t164 := Tryz.underlying158
  a164 := Tryz.isAgg158
  z164 := Tryz.sizeOf158
  v164 := Tryz.zeroValue158 }
theorem Tryz.Builder_Extra_156 : Builder.Extra Tryz.prog Tryz.lays156_ren := {
  sizeBuilder := by kernel_rfl
  liesBuilder := by kernel_rfl
  t5 := Tryz.underlying5
  a5 := Tryz.isAgg5
  z5 := Tryz.sizeOf5
  v5 := Tryz.zeroValue5
  infoByte := by kernel_rfl
  cellsByte := by kernel_rfl
  sizeByte := by kernel_rfl
  neB5 := by decide }
open Go.RowKit in
/-- No element: the empty string; the world is as it was. (Whatever the slice's address and capacity: a nil slice too.) (LAID: no walk: one application.) -/
theorem Tryz.strings_Join_none (a : Option Addr) (c : Nat) (sep : ByteArray) (w : World) :
    Calls Tryz.prog 92 #[.slice a 0 c, .string sep] w fun e w' => e = .returned (.string ⟨#[]⟩) ∧ w' = w := Any.strings_Join_none Tryz.lays156 Tryz.Builder_Extra_156 a c sep w
open Go.RowKit in
/-- strings.Join: "Join concatenates the elements of its first argument to create a single string. The separator string sep is placed between elements in the resulting string.": HOWEVER MANY ELEMENTS. Below the heap's end the world is as it was. (LAID: no walk: one application.) -/
theorem Tryz.strings_Join (bk o c : Nat) (xs : List ByteArray) (sep : ByteArray) (w : World) (hcells : ∀ (j : Nat) x, xs[j]? = some x → w.cell? ⟨bk, o + j, none⟩ = some (.string x)) (hbk : bk < w.heap.size) (hN : xs.length ≤ 140737488355328) (hcap : xs.length ≤ c) (hlen : (Lib.join (xs.map (·.data.toList)) sep.data.toList).length ≤ 140737488355328) :
    Calls Tryz.prog 92 #[.slice (some ⟨bk, o, none⟩) xs.length c, .string sep] w fun e w' => e = .returned (.string ⟨(Lib.join (xs.map (·.data.toList)) sep.data.toList).toArray⟩) ∧ Below w.heap.size w w' := Any.strings_Join Tryz.lays156 Tryz.Builder_Extra_156 bk o c xs sep w hcells hbk hN hcap hlen
end Go.Proofs
/- Sealing: what it is in plain words; the program's codes and keys. -/
namespace Go.Proofs.YtbpjdfnnlmblaaaGreatDoor
open Go.RowKit
set_option linter.unusedSimpArgs false
set_option linter.unusedVariables false
def encK (key : List UInt8) : List UInt8 := mac key [101, 110, 99]
def macK (key : List UInt8) : List UInt8 := mac key [109, 97, 99]
def nonceP (m ad t : List UInt8) : List UInt8 := (mac m ([110, 111, 110, 99, 101] ++ (encS ad ++ t))).take 12
def tagP (m n ad c : List UInt8) : List UInt8 := (mac m ([116, 97, 103] ++ (n ++ (encS ad ++ c)))).take 16
theorem encK_len (k : List UInt8) : (encK k).length = 32 := mac_len _ _
theorem macK_len (k : List UInt8) : (macK k).length = 32 := mac_len _ _
theorem nonceP_len (m ad t : List UInt8) : (nonceP m ad t).length = 12 := by unfold nonceP; rw [List.length_take, mac_len]; rfl
theorem tagP_len (m n ad c : List UInt8) : (tagP m n ad c).length = 16 := by unfold tagP; rw [List.length_take, mac_len]; rfl
/-- encryption and decryption -/
def xorP (key n t : List UInt8) : List UInt8 := C3.xorText key 1 n t
/-- a sealed text -/
def sealP (key ad t : List UInt8) : List UInt8 :=
  nonceP (macK key) ad t ++ (xorP (encK key) (nonceP (macK key) ad t) t ++ tagP (macK key) (nonceP (macK key) ad t) ad (xorP (encK key) (nonceP (macK key) ad t) t))
/-- the three parts of a blob -/
def bN (blob : List UInt8) : List UInt8 := blob.take 12
def bC (blob : List UInt8) : List UInt8 := (blob.drop 12).take (blob.length - 16 - 12)
def bT (blob : List UInt8) : List UInt8 := blob.drop (blob.length - 16)
/-- what a blob of at least 28 bytes is opened as: the text, if there is one -/
def openP (key ad blob : List UInt8) : Option (List UInt8) :=
  if tagP (macK key) (bN blob) ad (bC blob) = bT blob ∧ nonceP (macK key) ad (xorP (encK key) (bN blob) (bC blob)) = bN blob then some (xorP (encK key) (bN blob) (bC blob)) else none
theorem encS_len (s : List UInt8) : (encS s).length ≤ s.length + 9 := by unfold encS; rw [List.length_append]; have := encI_le (s.length : Int); omega
/-- bytes of a string as a byte array -/
theorem join_flat (xs : List (List UInt8)) : Lib.join xs [] = xs.flatten := by
  cases xs with
  | nil => rfl
  | cons x r =>
    rw [Lib.join_cons, List.flatten_cons]
    congr 1
    unfold Lib.joinTail
    simp
attribute [local irreducible] Calls mac encS
set_option maxRecDepth 100000 in
set_option maxHeartbeats 2000000 in
theorem code_c (m : List UInt8) (n : Nat) (bk : Nat) (xs : List (List UInt8)) (w : World) (hk : KAt w) (hn : n ≤ 32) (hm : m.length ≤ 1000000)
    (hcells : ∀ (j : Nat) x, xs[j]? = some x → w.cell? ⟨bk, j, none⟩ = some (.string ⟨x.toArray⟩)) (hbk : bk < w.heap.size) (hx : xs.length ≤ 100) (hl : xs.flatten.length ≤ 10000000) :
    Calls Tryz.prog 60 #[.string ⟨m.toArray⟩, .int .i64 n, .slice (some ⟨bk, 0, none⟩) xs.length xs.length] w fun e w' => e = .returned (.string ⟨((mac m xs.flatten).take n).toArray⟩) ∧ Below w.heap.size w w' := by
  have hj : ((xs.map (fun x => ByteArray.mk x.toArray)).map (·.data.toList)) = xs := by
    rw [List.map_map]
    show xs.map (fun x => x) = xs
    simp
  have J := Tryz.strings_Join bk 0 xs.length (xs.map (fun x => ByteArray.mk x.toArray)) ⟨#[]⟩ w (by
    intro j x hx
    rw [List.getElem?_map] at hx
    cases hq : xs[j]? with
    | none => rw [hq] at hx; cases hx
    | some y =>
      rw [hq] at hx
      cases hx
      rw [Nat.zero_add]
      exact hcells j y hq) hbk (by rw [List.length_map]; omega) (by rw [List.length_map]; exact Nat.le_refl _) (by rw [hj, join_flat]; omega)
  rw [hj, List.length_map, join_flat] at J
  have HJ := Lib.hid J
  have HL := Lib.hid hl
  have HK := Lib.hid hk
  have HM := Lib.hid hm
  have hni : (n : Int) ≤ 32 := by omega
  have hml := mac_len m xs.flatten
  have HML := Lib.hid hml
  clear J hj hcells hl hm hk hml
  generalize hfl : xs.flatten = fl at HJ HL HML ⊢
  clear hfl
  go_enter Tryz.func60, Tryz.ntmps60
  go_wp2_with (first
    | (go_at_call 92; refine HJ.out.mono ?_; rintro e w1 ⟨rfl, hb1⟩; have HB1 := Lib.hid hb1; clear hb1)
    | (go_at_call 62; refine (mac_c m fl _ (HK.out.on HB1.out) (by have := HM.out; omega) (by have := HL.out; omega)).mono ?_; rintro e w2 ⟨rfl, hb2⟩; have HB2 := Lib.hid (HB1.out.trans (hb2.mono HB1.out.size)); clear hb2; generalize hmk : mac m fl = mk at HML ⊢; have hl32 : (ByteArray.mk mk.toArray).size = 32 := HML.out))
  go_ret
  exact ⟨by rw [hmk]; rfl, HB2.out⟩
set_option maxRecDepth 100000 in
set_option maxHeartbeats 2000000 in
theorem keys_c (key : List UInt8) (w : World) (hk : KAt w) (hl : key.length = 32) :
    Calls Tryz.prog 59 #[.string ⟨key.toArray⟩] w fun e w' => e = .returned (.tuple #[.string ⟨(encK key).toArray⟩, .string ⟨(macK key).toArray⟩, .int .i64 0]) ∧ Below w.heap.size w w' := by
  have HL := Lib.hid hl
  have HK := Lib.hid hk
  have i1 : ((key.length : Int) != 32) = false := by rw [hl]; rfl
  have he : mac key [101, 110, 99] = encK key := rfl
  have hm : mac key [109, 97, 99] = macK key := rfl
  have HE := Lib.hid he
  have HM := Lib.hid hm
  clear hk hl he hm
  go_enter Tryz.func59, Tryz.ntmps59
  go_wp2_with (first
    | (go_at_call 62; refine (mac_c key [101, 110, 99] _ HK.out (by rw [HL.out]; decide) (by decide)).mono ?_; rintro e w1 ⟨rfl, hb1⟩; have HB1 := Lib.hid hb1; clear hb1; rw [HE.out])
    | (go_at_call 62; refine (mac_c key [109, 97, 99] _ (HK.out.on HB1.out) (by rw [HL.out]; decide) (by decide)).mono ?_; rintro e w2 ⟨rfl, hb2⟩; have HB2 := Lib.hid (HB1.out.trans (hb2.mono HB1.out.size)); clear hb2; rw [HM.out]))
  go_ret3
  exact ⟨rfl, HB2.out⟩
set_option maxRecDepth 100000 in
set_option maxHeartbeats 2000000 in
theorem keys_no (key : List UInt8) (w : World) (hl : ¬ key.length = 32) :
    Calls Tryz.prog 59 #[.string ⟨key.toArray⟩] w fun e w' => e = .returned (.tuple #[.string ⟨#[]⟩, .string ⟨#[]⟩, .int .i64 1]) ∧ Below w.heap.size w w' := by
  have i1 : ((key.length : Int) != 32) = true := by simp; omega
  clear hl
  go_enter Tryz.func59, Tryz.ntmps59
  go_wp2
  go_ret3
  exact ⟨rfl, Below.refl _ _⟩
theorem xor1_c (key nonce text : List UInt8) (hk : key.length = 32) (hn : nonce.length = 12) (ht : text.length ≤ 2000000) (w : World) :
    Calls Tryz.prog 61 #[.string ⟨key.toArray⟩, .int .u32 1, .string ⟨nonce.toArray⟩, .string ⟨text.toArray⟩] w fun e w' => e = .returned (.tuple #[.string ⟨(xorP key nonce text).toArray⟩, .int .i64 0]) ∧ Below w.heap.size w w' := xor_c key nonce text 1 hk hn ht w
@[go_sem] theorem ba_app (a b : List UInt8) : (ByteArray.mk a.toArray ++ ByteArray.mk b.toArray) = ByteArray.mk (a ++ b).toArray := by
  apply ByteArray.ext
  rw [ByteArray.data_append]
  simp
/-- strings that were built into a slice -/
theorem built_cells (w : World) (xs : List (List UInt8)) (T : TypeId) : ∀ (j : Nat) x, xs[j]? = some x → (w.alloc (.cells (xs.map (fun x => Value.string ⟨x.toArray⟩)).toArray T)).cell? ⟨w.heap.size, j, none⟩ = some (.string ⟨x.toArray⟩) := by
  intro j x hx
  rw [cell_of_row _ _ _ _ _ _ (heap_last _ _ _ rfl)]
  simp [hx]
theorem code3_c (m : List UInt8) (a b c : List UInt8) (w : World) (T : TypeId) (hk : KAt w) (hm : m.length = 32) (ha : a.length ≤ 100) (hb : b.length ≤ 2100000) (hc : c.length ≤ 2100000) :
    Calls Tryz.prog 60 #[.string ⟨m.toArray⟩, .int .i64 12, .slice (some ⟨w.heap.size, 0, none⟩) 3 3] (w.alloc (.cells #[.string ⟨a.toArray⟩, .string ⟨b.toArray⟩, .string ⟨c.toArray⟩] T)) fun e w' => e = .returned (.string ⟨((mac m (a ++ (b ++ c))).take 12).toArray⟩) ∧ Below w.heap.size w w' := by
  have h := code_c m 12 w.heap.size [a, b, c] (w.alloc (.cells #[.string ⟨a.toArray⟩, .string ⟨b.toArray⟩, .string ⟨c.toArray⟩] T)) (hk.alloc _) (by decide) (by omega) (built_cells w [a, b, c] T) (by simp) (by simp) (by simp; omega)
  have e : [a, b, c].flatten = a ++ (b ++ c) := by simp
  rw [e] at h
  exact h.mono fun e w' hh => ⟨hh.1, ((Below.refl _ _).alloc (Nat.le_refl _) _).trans (hh.2.mono (by simp))⟩
theorem code4_c (m : List UInt8) (a b c d : List UInt8) (w : World) (T : TypeId) (hk : KAt w) (hm : m.length = 32) (ha : a.length ≤ 100) (hb : b.length ≤ 2100000) (hc : c.length ≤ 2100000) (hd : d.length ≤ 2100000) :
    Calls Tryz.prog 60 #[.string ⟨m.toArray⟩, .int .i64 16, .slice (some ⟨w.heap.size, 0, none⟩) 4 4] (w.alloc (.cells #[.string ⟨a.toArray⟩, .string ⟨b.toArray⟩, .string ⟨c.toArray⟩, .string ⟨d.toArray⟩] T)) fun e w' => e = .returned (.string ⟨((mac m (a ++ (b ++ (c ++ d)))).take 16).toArray⟩) ∧ Below w.heap.size w w' := by
  have h := code_c m 16 w.heap.size [a, b, c, d] (w.alloc (.cells #[.string ⟨a.toArray⟩, .string ⟨b.toArray⟩, .string ⟨c.toArray⟩, .string ⟨d.toArray⟩] T)) (hk.alloc _) (by decide) (by omega) (built_cells w [a, b, c, d] T) (by simp) (by simp) (by simp; omega)
  have e : [a, b, c, d].flatten = a ++ (b ++ (c ++ d)) := by simp
  rw [e] at h
  exact h.mono fun e w' hh => ⟨hh.1, ((Below.refl _ _).alloc (Nat.le_refl _) _).trans (hh.2.mono (by simp))⟩
theorem nonce_c (m ad t : List UInt8) (w : World) (hk : KAt w) (hm : m.length = 32) (ha : ad.length ≤ 2000000) (ht : t.length ≤ 2000000) :
    Calls Tryz.prog 60 #[.string ⟨m.toArray⟩, .int .i64 12, .slice (some ⟨w.heap.size, 0, none⟩) 3 3] (w.alloc (.cells #[.string ⟨#[110, 111, 110, 99, 101]⟩, .string ⟨(encS ad).toArray⟩, .string ⟨t.toArray⟩] 9)) fun e w' => e = .returned (.string ⟨(nonceP m ad t).toArray⟩) ∧ Below w.heap.size w w' :=
  code3_c m [110, 111, 110, 99, 101] (encS ad) t w _ hk hm (by decide) (by have := encS_len ad; omega) (by omega)
theorem tag_c (m n ad c : List UInt8) (w : World) (hk : KAt w) (hm : m.length = 32) (hn : n.length ≤ 2000000) (ha : ad.length ≤ 2000000) (hc : c.length ≤ 2000000) :
    Calls Tryz.prog 60 #[.string ⟨m.toArray⟩, .int .i64 16, .slice (some ⟨w.heap.size, 0, none⟩) 4 4] (w.alloc (.cells #[.string ⟨#[116, 97, 103]⟩, .string ⟨n.toArray⟩, .string ⟨(encS ad).toArray⟩, .string ⟨c.toArray⟩] 9)) fun e w' => e = .returned (.string ⟨(tagP m n ad c).toArray⟩) ∧ Below w.heap.size w w' :=
  code4_c m [116, 97, 103] n (encS ad) c w _ hk hm (by decide) (by omega) (by have := encS_len ad; omega) (by omega)
theorem xorP_len (key n t : List UInt8) : (xorP key n t).length = t.length := C3.length_xorText key 1 n t
set_option maxRecDepth 100000 in
set_option maxHeartbeats 2000000 in
theorem seal_c (key ad t : List UInt8) (w : World) (hk : KAt w) (hl : key.length = 32) (ha : ad.length ≤ 1048576) (ht : t.length ≤ 1048576) :
    Calls Tryz.prog 25 #[.string ⟨key.toArray⟩, .string ⟨ad.toArray⟩, .string ⟨t.toArray⟩] w fun e w' => e = .returned (.tuple #[.string ⟨(sealP key ad t).toArray⟩, .int .i64 0]) ∧ Below w.heap.size w w' := by
  have HL := Lib.hid hl
  have HK := Lib.hid hk
  have HA := Lib.hid ha
  have HT := Lib.hid ht
  have i1 : ¬ (1048576 : Int) < ad.length := by omega
  have i2 : ¬ (1048576 : Int) < t.length := by omega
  have hs : sealP key ad t = nonceP (macK key) ad t ++ (xorP (encK key) (nonceP (macK key) ad t) t ++ tagP (macK key) (nonceP (macK key) ad t) ad (xorP (encK key) (nonceP (macK key) ad t) t)) := rfl
  have HS := Lib.hid hs
  have HEL := Lib.hid (encK_len key)
  have HML := Lib.hid (macK_len key)
  have HEN := Lib.hid (encS_len ad)
  clear hl hk ha ht hs
  go_enter Tryz.func25, Tryz.ntmps25
  go_wp2_with (first
    | (go_at_call 59; refine (keys_c key _ HK.out HL.out).mono ?_; rintro e w1 ⟨rfl, hb1⟩; have HB1 := Lib.hid hb1; clear hb1; generalize hek : encK key = ek; generalize hmk : macK key = mk; have HEK := Lib.hid hek; have HMK := Lib.hid hmk; clear hek hmk)
    | (go_at_call 28; refine (bytes_c ad _ (by have := HA.out; omega)).mono ?_; rintro e w2 ⟨v2, rfl, ho2, hb2⟩; have HB2 := Lib.hid (HB1.out.trans (hb2.mono HB1.out.size)); have hcv := conv_e ho2.rd; clear ho2 hb2)
    | (go_at_call 60; refine (nonce_c mk ad t w2 (HK.out.on HB2.out) (by rw [← HMK.out]; exact HML.out) (by have := HA.out; omega) (by have := HT.out; omega)).mono ?_; rintro e w3 ⟨rfl, hb3⟩; have HB3 := Lib.hid (HB2.out.trans (hb3.mono HB2.out.size)); clear hb3; generalize hn : nonceP mk ad t = nc; have HN := Lib.hid hn; have HNL : Hid (nc.length = 12) := (Lib.hid (by rw [← hn]; exact nonceP_len _ _ _)); clear hn)
    | (go_at_call 61; refine (xor1_c ek nc t (by rw [← HEK.out]; exact HEL.out) HNL.out (by have := HT.out; omega) _).mono ?_; rintro e w4 ⟨rfl, hb4⟩; have HB4 := Lib.hid (HB3.out.trans (hb4.mono HB3.out.size)); clear hb4; generalize hx : xorP ek nc t = xc; have HX := Lib.hid hx; have HXL : Hid (xc.length = t.length) := (Lib.hid (by rw [← hx]; exact xorP_len _ _ _)); clear hx; have q1 : ¬ 9223372036854775807 < nc.length + xc.length := (by rw [HNL.out, HXL.out]; have := HT.out; omega))
    | (go_at_call 60; refine (tag_c mk nc ad xc w4 (HK.out.on HB4.out) (by rw [← HMK.out]; exact HML.out) (by rw [HNL.out]; decide) (by have := HA.out; omega) (by rw [HXL.out]; have := HT.out; omega)).mono ?_; rintro e w5 ⟨rfl, hb5⟩; have HB5 := Lib.hid (HB4.out.trans (hb5.mono HB4.out.size)); clear hb5; generalize htg : tagP mk nc ad xc = tg; have HTG := Lib.hid htg; have q2 : ¬ 9223372036854775807 < nc.length + xc.length + tg.length := (by rw [← htg, tagP_len, HNL.out, HXL.out]; have := HT.out; omega); clear htg))
  go_ret2
  exact ⟨by rw [HS.out, HEK.out, HMK.out, HN.out, HX.out, HTG.out]; rfl, HB5.out⟩
set_option maxRecDepth 100000 in
set_option maxHeartbeats 2000000 in
theorem seal_lim (key ad t : List UInt8) (w : World) (hk : KAt w) (hl : key.length = 32) (h : 1048576 < ad.length ∨ 1048576 < t.length) :
    Calls Tryz.prog 25 #[.string ⟨key.toArray⟩, .string ⟨ad.toArray⟩, .string ⟨t.toArray⟩] w fun e w' => e = .returned (.tuple #[.string ⟨#[]⟩, .int .i64 2]) ∧ Below w.heap.size w w' := by
  by_cases h1 : 1048576 < ad.length
  · have i1 : (1048576 : Int) < ad.length := by omega
    clear h h1
    go_enter Tryz.func25, Tryz.ntmps25
    go_wp2_with (go_at_call 59; refine (keys_c key _ hk hl).mono ?_; rintro e w1 ⟨rfl, hb1⟩)
    go_ret2
    exact ⟨rfl, hb1⟩
  · have i1 : ¬ (1048576 : Int) < ad.length := by omega
    have i2 : (1048576 : Int) < t.length := by omega
    clear h h1
    go_enter Tryz.func25, Tryz.ntmps25
    go_wp2_with (go_at_call 59; refine (keys_c key _ hk hl).mono ?_; rintro e w1 ⟨rfl, hb1⟩)
    go_ret2
    exact ⟨rfl, hb1⟩
set_option maxRecDepth 100000 in
set_option maxHeartbeats 2000000 in
theorem seal_no (key ad t : List UInt8) (w : World) (hl : ¬ key.length = 32) :
    Calls Tryz.prog 25 #[.string ⟨key.toArray⟩, .string ⟨ad.toArray⟩, .string ⟨t.toArray⟩] w fun e w' => e = .returned (.tuple #[.string ⟨#[]⟩, .int .i64 1]) ∧ Below w.heap.size w w' := by
  go_enter Tryz.func25, Tryz.ntmps25
  go_wp2_with (go_at_call 59; refine (keys_no key _ hl).mono ?_; rintro e w1 ⟨rfl, hb1⟩)
  go_ret2
  exact ⟨rfl, hb1⟩
/-- the answers, whatever the lengths are -/
def keysA (key : List UInt8) : List UInt8 := if key.length = 32 then encK key else []
def keysB (key : List UInt8) : List UInt8 := if key.length = 32 then macK key else []
def keysE (key : List UInt8) : Int := if key.length = 32 then 0 else 1
def sealX (key ad t : List UInt8) : List UInt8 := if key.length = 32 ∧ ¬ (1048576 < ad.length ∨ 1048576 < t.length) then sealP key ad t else []
def sealE (key ad t : List UInt8) : Int := if key.length = 32 then (if 1048576 < ad.length ∨ 1048576 < t.length then 2 else 0) else 1
theorem keys_t (key : List UInt8) (w : World) (hk : KAt w) :
    Calls Tryz.prog 59 #[.string ⟨key.toArray⟩] w fun e w' => e = .returned (.tuple #[.string ⟨(keysA key).toArray⟩, .string ⟨(keysB key).toArray⟩, .int .i64 (keysE key)]) ∧ Below w.heap.size w w' := by
  unfold keysA keysB keysE
  by_cases h : key.length = 32
  · rw [if_pos h, if_pos h, if_pos h]
    exact keys_c key w hk h
  · rw [if_neg h, if_neg h, if_neg h]
    exact keys_no key w h
theorem seal_t (key ad t : List UInt8) (w : World) (hk : KAt w) :
    Calls Tryz.prog 25 #[.string ⟨key.toArray⟩, .string ⟨ad.toArray⟩, .string ⟨t.toArray⟩] w fun e w' => e = .returned (.tuple #[.string ⟨(sealX key ad t).toArray⟩, .int .i64 (sealE key ad t)]) ∧ Below w.heap.size w w' := by
  unfold sealX sealE
  by_cases h : key.length = 32
  · by_cases h2 : 1048576 < ad.length ∨ 1048576 < t.length
    · rw [if_neg (fun e => e.2 h2), if_pos h, if_pos h2]
      exact seal_lim key ad t w hk h h2
    · rw [if_pos ⟨h, h2⟩, if_pos h, if_neg h2]
      exact seal_c key ad t w hk h (by omega) (by omega)
  · rw [if_neg (fun e => h e.1), if_neg h]
    exact seal_no key ad t w h
end Go.Proofs.YtbpjdfnnlmblaaaGreatDoor
