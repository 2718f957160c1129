/- The program's test of backups. -/
import Derived.Test.YtjbndfnhollfnaaKeyK
namespace Go.Proofs.Ytjbndfnhollfnaa
open Go.RowKit Go.Shelf
set_option linter.unusedSimpArgs false
set_option linter.unusedVariables false
theorem bi3 (w : World) (a b c : Int) : RdI (w.alloc (.cells #[.int .i64 a, .int .i64 b, .int .i64 c] 3)) (.slice (some ⟨w.heap.size, 0, none⟩) 3 3) [a, b, c] := built_i w [a, b, c] (by simp)
theorem bi1 (w : World) (a : Int) : RdI (w.alloc (.cells #[.int .i64 a] 3)) (.slice (some ⟨w.heap.size, 0, none⟩) 1 1) [a] := built_i w [a] (by simp)
def r1 (b : BK) : Bool := [b.ep, b.num, b.fw].all (fun n => win n 0 2147483647)
def r2 (b : BK) : Bool := [b.tm].all (fun n => win n 0 1099511627776)
def r3 (b : BK) : Bool := [(b.mo.length : Int) - 1].all (fun n => win n 0 11)
theorem headC (b : BK) (l : List K) : (headB b l = true ∧ r1 b = true ∧ r2 b = true ∧ r3 b = true ∧ (l.length : Int) ≤ 4096) ∨ (headB b l = false ∧ r1 b = false) ∨ (headB b l = false ∧ r1 b = true ∧ r2 b = false) ∨
    (headB b l = false ∧ r1 b = true ∧ r2 b = true ∧ r3 b = false) ∨ (headB b l = false ∧ r1 b = true ∧ r2 b = true ∧ r3 b = true ∧ ¬ (l.length : Int) ≤ 4096) := by
  have h3 : r3 b = (decide (1 ≤ b.mo.length) && decide (b.mo.length ≤ 12)) := by
    unfold r3 win
    simp only [List.all_cons, List.all_nil, Bool.and_true]
    congr 1 <;> rw [decide_eq_decide] <;> omega
  have hh : headB b l = (r1 b && r2 b && r3 b && decide (l.length ≤ 4096)) := by
    rw [h3]
    unfold headB r1 r2
    simp only [List.all_cons, List.all_nil, Bool.and_true, Bool.and_assoc]
  rw [hh]
  cases r1 b
  · simp
  cases r2 b
  · simp
  cases r3 b
  · simp
  by_cases h : l.length ≤ 4096
  · have : (l.length : Int) ≤ 4096 := by omega
    simp [h, this]
  · have : ¬ (l.length : Int) ≤ 4096 := by omega
    simp [h, this]
attribute [local irreducible] Calls alikeK twinId twinIs validB okB validK lastId win headB r1 r2 r3
set_option maxRecDepth 100000 in
set_option maxHeartbeats 4000000 in
theorem validB_c (b : BK) (u : Value) (l : List K) (w : World) (hv : RdK w u l) (hwf : ∀ i, i < l.length → (keyAt l i).wf) (hmo : b.mo.length ≤ maxLen) :
    Calls Try.prog 24 #[.agg (bc b u)] w fun e w' => e = .returned (.bool (validB b l)) ∧ Below w.heap.size w w' := by
  have hlen := hv.len
  unfold maxLen at hlen hmo
  obtain ⟨W0, hW0⟩ : ∃ W0, W0 = w.alloc (.cells (bc b u) 28) := ⟨_, rfl⟩
  have hvw : RdK W0 u l := by rw [hW0]; exact hv.alloc _
  have hbx : ∀ w1, Below W0.heap.size W0 w1 → w1.cell? ⟨w.heap.size, 37, none⟩ = some u ∧ w1.cell? ⟨w.heap.size, 16, none⟩ = some (.int .i64 b.ep) ∧ w1.cell? ⟨w.heap.size, 17, none⟩ = some (.int .i64 b.num) ∧
      w1.cell? ⟨w.heap.size, 18, none⟩ = some (.int .i64 b.fw) ∧ w1.cell? ⟨w.heap.size, 19, none⟩ = some (.int .i64 b.tm) ∧ w1.cell? ⟨w.heap.size, 36, none⟩ = some (.string ⟨b.mo.toArray⟩) := by
    intro w1 h
    rw [hW0] at h
    exact ⟨(boxed1 _ _ _ h 37).trans (bc_37 b u), (boxed1 _ _ _ h 16).trans (bc_16 b u), (boxed1 _ _ _ h 17).trans (bc_17 b u), (boxed1 _ _ _ h 18).trans (bc_18 b u), (boxed1 _ _ _ h 19).trans (bc_19 b u), (boxed1 _ _ _ h 36).trans (bc_36 b u)⟩
  have hbe : ∀ w1, Below W0.heap.size W0 w1 → Below w.heap.size w w1 := by
    intro w1 h
    rw [hW0] at h
    exact below1 _ _ h
  have hsz : w.heap.size < W0.heap.size := by rw [hW0]; simp
  have HV := Lib.hid hvw
  have HBX := Lib.hid hbx
  have HBE := Lib.hid hbe
  have HW := Lib.hid hW0
  have HWF := Lib.hid hwf
  have hve : validB b l = (headB b l && (List.range l.length).all (okB l)) := by unfold validB; rfl
  rw [hve]
  have HT0 := Lib.hid (fun i hi h => allB_false l i hi h)
  have HT1 := Lib.hid (allB_true l)
  have HHC := Lib.hid (headC b l)
  have mw : IntKind.i64.wrap ((b.mo.length : Int) - 1) = (b.mo.length : Int) - 1 := by rw [IntKind.wrap_i64]; omega
  have HE1 : Hid ([b.ep, b.num, b.fw].all (fun n => win n 0 2147483647) = r1 b) := Lib.hid (by unfold r1; rfl)
  have HE2 : Hid ([b.tm].all (fun n => win n 0 1099511627776) = r2 b) := Lib.hid (by unfold r2; rfl)
  have HE3 : Hid ([(b.mo.length : Int) - 1].all (fun n => win n 0 11) = r3 b) := Lib.hid (by unfold r3; rfl)
  obtain ⟨a, cap, rfl, _, _, _⟩ := hv
  clear hW0 hvw hbx hbe hve hwf
  go_enter Try.func24, Try.ntmps24
  go_wp2
  go_loopw [3, 9] (fun la o wr => ∃ i : Nat, i ≤ l.length ∧ o = .int .i64 i ∧ la = .int .i64 (lastId l i) ∧ Hid (∀ j, j < i → okB l j = true) ∧ Below W0.heap.size W0 wr) (fun _ o _ => l.length - (intOf o).toNat)
  case atStart => exact ⟨0, Nat.zero_le _, rfl, by rw [lastId_zero], Lib.hid (fun j hj => absurd hj (by omega)), by rw [← HW.out]; exact Below.refl _ _⟩
  case round =>
    obtain ⟨i, hi, rfl, rfl, hno, hb⟩ := hrel
    obtain ⟨t1, t16, t17, t18, t19, t36⟩ := HBX.out wr hb
    have hbs := hb.size
    have z0 : w.heap.size < wr.heap.size := by omega
    have z0' : w.heap.size ≠ wr.heap.size := by omega
    by_cases hlt : i < l.length
    · obtain ⟨bb, off, rfl, hbl, hrow⟩ := ((HV.out.on hb).cells) (by omega)
      obtain ⟨d0, d1, d2, d3, d4, d5, d6, d7, d8⟩ := hrow i hlt
      have i1 : (i : Int) < l.length := by omega
      have HK := Lib.hid hlt
      have HNO := hno
      have HB := Lib.hid hb
      have hval := valid_c (keyAt l i) (HWF.out i hlt) (wr.alloc (.cells (kc (keyAt l i)) 30))
      have hbx2 : ∀ w1, Below (wr.alloc (.cells (kc (keyAt l i)) 30)).heap.size (wr.alloc (.cells (kc (keyAt l i)) 30)) w1 →
          w1.cell? ⟨wr.heap.size, 0, none⟩ = some (.int .i64 (keyAt l i).id) ∧ Below W0.heap.size W0 w1 := by
        intro w1 h
        exact ⟨boxed1 _ _ _ h 0, HB.out.trans ((below1 _ _ h).mono hbs)⟩
      unfold kv at hval
      unfold kc at hval hbx2
      have HLS := Lib.hid (lastId_succ l i)
      have HX2 := Lib.hid hbx2
      clear hrow hb hno hbx2
      rcases okB_four l i with ⟨ho, h1⟩ | ⟨ho, h1, h2⟩ | ⟨ho, h1, h2, h3⟩ | ⟨ho, h1, h2, h3⟩
      case inr.inr.inr =>
        rw [h1] at hval
        have HVAL := Lib.hid hval
        have HO := Lib.hid ho
        clear hval h1 ho
        go_wp2_with (go_at_call 40; refine HVAL.out.mono ?_; rintro e w1 ⟨rfl, hb'⟩; obtain ⟨e0, hbb⟩ := HX2.out _ hb'; clear hb')
        go_roundw
        case rel => exact ⟨i + 1, HK.out, by go_num, by rw [HLS.out], Lib.hid (fun j hj => by
          by_cases e : j = i
          · subst e; exact HO.out
          · exact HNO.out j (by omega)), hbb⟩
        case measure => have := HK.out; simp [intOf]; omega
      all_goals
        have HRES := Lib.hid (HT0.out i HK.out ho)
        rw [h1] at hval
        have HVAL := Lib.hid hval
        clear hval h1 ho
        go_wp2_with (go_at_call 40; refine HVAL.out.mono ?_; rintro e w1 ⟨rfl, hb'⟩; obtain ⟨e0, hbb⟩ := HX2.out _ hb'; clear hb')
        go_ret
        exact ⟨by rw [HRES.out, Bool.and_false]; rfl, HBE.out _ hbb⟩
    · have he : i = l.length := by omega
      have i1 : (l.length : Int) ≤ i := by omega
      have HRES := Lib.hid (HT1.out (fun j hj => hno.out j (by omega)))
      have HB := hb
      have tok2 : True := trivial
      clear hno he
      rcases HHC.out with ⟨hh, f1, f2, f3, f4⟩ | ⟨hh, f1⟩ | ⟨hh, f1, f2⟩ | ⟨hh, f1, f2, f3⟩ | ⟨hh, f1, f2, f3, f4⟩
      all_goals
        have HH := Lib.hid hh
        clear hh
        go_wp2_with (first
          | (go_at_call 41; refine (within_b _ _ _ _ (bi3 _ _ _ _)).mono ?_; rw [HE1.out]; rintro e w1 ⟨rfl, hb'⟩; replace HB := HB.trans ((below1 _ _ hb').mono HB.size); obtain ⟨t1, t16, t17, t18, t19, t36⟩ := HBX.out _ HB; clear hb')
          | (go_at_call 41; clear tok2; refine (within_b _ _ _ _ (bi1 _ _)).mono ?_; rw [HE2.out]; rintro e w2 ⟨rfl, hb'⟩; replace HB := HB.trans ((below1 _ _ hb').mono HB.size); obtain ⟨t1, t16, t17, t18, t19, t36⟩ := HBX.out _ HB; clear hb')
          | (go_at_call 41; refine (within_b _ _ _ _ (bi1 _ _)).mono ?_; rw [HE3.out]; rintro e w3 ⟨rfl, hb'⟩; replace HB := HB.trans ((below1 _ _ hb').mono HB.size); obtain ⟨t1, t16, t17, t18, t19, t36⟩ := HBX.out _ HB; clear hb'))
        go_ret
        exact ⟨by rw [HRES.out, Bool.and_true, HH.out]; first | rfl | exact ret_bool (decide_eq_false (by omega)) | exact ret_bool (decide_eq_true (by omega)), HBE.out _ HB⟩
end Go.Proofs.Ytjbndfnhollfnaa
