/- The specification's insert. -/
import Derived.Test.YtamdlkflcbefdaaDoorPermC
namespace Go.Proofs.YtamdlkflcbefdaaDoor
open Go.RowKit Go.Shelf
set_option linter.unusedSimpArgs false
set_option linter.unusedVariables false
/-- the list that is built, and whether the number is in it, after k elements -/
def inSt (n : Int) (l : List Int) (k : Nat) : List Int × Bool := (l.take k).foldl (insStep n) ([], false)
theorem inSt_succ (n : Int) (l : List Int) (k : Nat) (h : k < l.length) : inSt n l (k + 1) = insStep n (inSt n l k) (nth l k) := by
  unfold inSt
  rw [nth_take l k h, List.foldl_append]
  rfl
theorem insFold_len (n : Int) (l : List Int) (s : List Int × Bool) : (l.foldl (insStep n) s).1.length ≤ s.1.length + 2 * l.length := by
  induction l generalizing s with
  | nil => simp
  | cons x l ih =>
    rw [List.foldl_cons]
    refine Nat.le_trans (ih _) ?_
    have : (insStep n s x).1.length ≤ s.1.length + 2 := by
      unfold insStep
      split <;> simp
    rw [List.length_cons]
    omega
theorem inSt_len (n : Int) (l : List Int) (k : Nat) : (inSt n l k).1.length ≤ 2 * l.length := by
  have := insFold_len n (l.take k) ([], false)
  unfold inSt
  have h : (l.take k).length ≤ l.length := by simp; omega
  simp only [List.length_nil] at this
  omega
theorem ins_end (n : Int) (l : List Int) (h : ∀ j, j < l.length → (nth l j == n) = false) : ins n l = insEnd n (inSt n l l.length) := by
  have hn : n ∉ l := fun hm => by
    obtain ⟨i, hi, e⟩ := List.mem_iff_getElem.1 hm
    have := h i hi
    rw [nth_eq l i hi, e] at this
    simp at this
  unfold ins inSt
  rw [if_neg hn, List.take_length]
theorem ins_there (n : Int) (l : List Int) (k : Nat) (hk : k < l.length) (h : (nth l k == n) = true) : ins n l = l := by
  have : n ∈ l := by
    have := beq_iff_eq.1 h
    rw [nth_eq l k hk] at this
    rw [← this]
    exact List.getElem_mem _
  unfold ins
  rw [if_pos this]
attribute [local irreducible] Calls
set_option maxHeartbeats 4000000 in
theorem insert_r (v : Value) (l : List Int) (n : Int) (w : World) (hv : RdE eI w v l) (hsz : l.length ≤ 1000) :
    Calls Tryd.prog 40 #[v, .int .i64 n] w fun e w' => ∃ v', e = .returned v' ∧ RdE eI w' v' (ins n l) ∧ Below w.heap.size w w' := by
  have hlen := hv.len
  unfold maxLen at hlen
  have HV := Lib.hid hv
  have HSZ := Lib.hid hsz
  obtain ⟨a, cap, rfl, _, _, _⟩ := hv
  clear hsz
  go_enter Tryd.func40, Tryd.ntmps40
  go_wp2
  go_loopw [7, 5, 6] (fun i u d wr => ∃ k : Nat, k ≤ l.length ∧ i = .int .i64 k ∧ d = .bool (inSt n l k).2 ∧ Hid (OwnE eI wr w.heap.size u (inSt n l k).1) ∧ Hid (∀ j, j < k → (nth l j == n) = false) ∧ Below w.heap.size w wr) (fun o _ _ _ => l.length - (intOf o).toNat)
  case atStart => exact ⟨0, Nat.zero_le _, rfl, rfl, Lib.hid (OwnE.nil _ _), Lib.hid (fun j hj => absurd hj (by omega)), Below.refl _ _⟩
  case round =>
    obtain ⟨k, hk, rfl, rfl, hown, hno, hb⟩ := hrel
    by_cases hlt : k < l.length
    · obtain ⟨b, off, rfl, hbl, hrow⟩ := HV.out.cellsI (by omega)
      have hd : ∀ W, Below w.heap.size w W → W.cell? ⟨b, off + k, none⟩ = some (.int .i64 (nth l k)) := fun W h => by rw [h.cell (p := ⟨b, off + k, none⟩) hbl]; exact hrow k hlt
      have d0 := hd wr hb
      have i1 : (k : Int) < l.length := by omega
      have HK := Lib.hid hlt
      have HB := Lib.hid hb
      have HX : Hid (∀ j, j < k + 1 → j ≠ k → (nth l j == n) = false) := Lib.hid (fun j hj hne => hno.out j (by omega))
      have HS := Lib.hid (inSt_succ n l k hlt)
      have HL := Lib.hid (by have h1 := inSt_len n l k; have h2 := HSZ.out; omega : (inSt n l k).1.length + 2 ≤ 1000000)
      have HT := Lib.hid (ins_there n l k hlt)
      clear hrow hb hno
      generalize hy : nth l k = y at d0 HS HT hd
      have HY := Lib.hid hy
      have HD := Lib.hid hd
      clear hy hd
      cases hq : y == n with
      | true =>
        have r := HT.out hq
        have HR := Lib.hid r
        clear r
        go_wp2
        go_ret
        exact ⟨_, rfl, by rw [HR.out]; exact HV.out.on HB.out, HB.out⟩
      | false =>
        have HQ := Lib.hid hq
        generalize hst : inSt n l k = st at hown HS HL
        obtain ⟨o, d⟩ := st
        have HST := Lib.hid hst
        clear hst
        have HBS := Lib.hid HB.out.size
        by_cases hn : n < y
        · cases d with
          | false =>
            have e : insStep n (o, false) y = (o ++ [n] ++ [y], true) := by simp [insStep, hn]
            rw [e] at HS
            clear e
            go_wp2_with (first
              | (at_builtin; refine app_e eI_ok rfl (.tmp 31) (.tmp 33) rfl w.heap.size u5 o rfl (hown.out.on ((Below.refl _ _).alloc (Nat.le_refl _) _)) (.slice (some ⟨wr.heap.size, 0, none⟩) 1 1) [n] rfl (one_e wr n eI_ok) (by have := HL.out; simp at this ⊢; omega) (by have := HBS.out; simp; omega) ?_; intro v5 w4 ho4 hg4 hloc; have HB4 := Lib.hid ((HB.out.alloc HBS.out _).trans ((hown.out.on ((Below.refl _ _).alloc (Nat.le_refl _) _)).below hg4 (by have := HBS.out; simp; omega))); have HO4 := Lib.hid ho4; have d4 := HD.out w4 HB4.out; clear ho4 hg4 hloc)
              | (at_builtin; refine app_e eI_ok rfl (.tmp 35) (.tmp 40) rfl w.heap.size v5 (o ++ [n]) rfl (HO4.out.on ((Below.refl _ _).alloc (Nat.le_refl _) _)) (.slice (some ⟨w4.heap.size, 0, none⟩) 1 1) [y] rfl (one_e w4 y eI_ok) (by have := HL.out; simp at this ⊢; omega) (by have := HB4.out.size; simp; omega) ?_; intro v6 w5 ho5 hg5 hloc; have HB5 := Lib.hid ((HB4.out.alloc HB4.out.size _).trans ((HO4.out.on ((Below.refl _ _).alloc (Nat.le_refl _) _)).below hg5 (by have := HB4.out.size; simp; omega))); have HO5 := Lib.hid ho5; clear ho5 hg5 hloc))
            go_roundw
            case rel => exact ⟨k + 1, HK.out, by go_num, by rw [HS.out], Lib.hid (by rw [HS.out]; exact HO5.out), Lib.hid (fun j hj => by
              by_cases e : j = k
              · subst e; rw [HY.out]; exact HQ.out
              · exact HX.out j hj e), HB5.out⟩
            case measure => have := HK.out; simp [intOf]; omega
          | true =>
            have e : insStep n (o, true) y = (o ++ [y], true) := by simp [insStep]
            rw [e] at HS
            clear e
            go_wp2_with (at_builtin; refine app_e eI_ok rfl (.tmp 35) (.tmp 40) rfl w.heap.size u5 o rfl (hown.out.on ((Below.refl _ _).alloc (Nat.le_refl _) _)) (.slice (some ⟨wr.heap.size, 0, none⟩) 1 1) [y] rfl (one_e wr y eI_ok) (by have := HL.out; simp at this ⊢; omega) (by have := HBS.out; simp; omega) ?_; intro v5 w4 ho4 hg4 hloc; have HB4 := Lib.hid ((HB.out.alloc HBS.out _).trans ((hown.out.on ((Below.refl _ _).alloc (Nat.le_refl _) _)).below hg4 (by have := HBS.out; simp; omega))); have HO4 := Lib.hid ho4; clear ho4 hg4 hloc)
            go_roundw
            case rel => exact ⟨k + 1, HK.out, by go_num, by rw [HS.out], Lib.hid (by rw [HS.out]; exact HO4.out), Lib.hid (fun j hj => by
              by_cases e : j = k
              · subst e; rw [HY.out]; exact HQ.out
              · exact HX.out j hj e), HB4.out⟩
            case measure => have := HK.out; simp [intOf]; omega
        · have e : insStep n (o, d) y = (o ++ [y], d) := by simp [insStep, hn]
          rw [e] at HS
          clear e
          go_wp2_with (at_builtin; refine app_e eI_ok rfl (.tmp 35) (.tmp 40) rfl w.heap.size u5 o rfl (hown.out.on ((Below.refl _ _).alloc (Nat.le_refl _) _)) (.slice (some ⟨wr.heap.size, 0, none⟩) 1 1) [y] rfl (one_e wr y eI_ok) (by have := HL.out; simp at this ⊢; omega) (by have := HBS.out; simp; omega) ?_; intro v5 w4 ho4 hg4 hloc; have HB4 := Lib.hid ((HB.out.alloc HBS.out _).trans ((hown.out.on ((Below.refl _ _).alloc (Nat.le_refl _) _)).below hg4 (by have := HBS.out; simp; omega))); have HO4 := Lib.hid ho4; clear ho4 hg4 hloc)
          go_roundw
          case rel => exact ⟨k + 1, HK.out, by go_num, by rw [HS.out], Lib.hid (by rw [HS.out]; exact HO4.out), Lib.hid (fun j hj => by
            by_cases e : j = k
            · subst e; rw [HY.out]; exact HQ.out
            · exact HX.out j hj e), HB4.out⟩
          case measure => have := HK.out; simp [intOf]; omega
    · have i1 : (l.length : Int) ≤ k := by omega
      obtain rfl : k = l.length := by omega
      have HE := Lib.hid (ins_end n l hno.out)
      have HB := Lib.hid hb
      have HBS := Lib.hid hb.size
      have HL := Lib.hid (by have h1 := inSt_len n l l.length; have h2 := HSZ.out; omega : (inSt n l l.length).1.length + 2 ≤ 1000000)
      clear hno hb
      generalize inSt n l l.length = st at hown HE HL
      obtain ⟨o, d⟩ := st
      cases d with
      | true =>
        have e : insEnd n (o, true) = o := rfl
        rw [e] at HE
        clear e
        go_wp2
        go_ret
        exact ⟨_, rfl, by rw [HE.out]; exact hown.out.rd, HB.out⟩
      | false =>
        have e : insEnd n (o, false) = o ++ [n] := rfl
        rw [e] at HE
        clear e
        go_wp2_with (at_builtin; refine app_e eI_ok rfl (.tmp 44) (.tmp 46) rfl w.heap.size u5 o rfl (hown.out.on ((Below.refl _ _).alloc (Nat.le_refl _) _)) (.slice (some ⟨wr.heap.size, 0, none⟩) 1 1) [n] rfl (one_e wr n eI_ok) (by have := HL.out; simp at this ⊢; omega) (by have := HBS.out; simp; omega) ?_; intro v5 w4 ho4 hg4 hloc; have HB4 := Lib.hid ((HB.out.alloc HBS.out _).trans ((hown.out.on ((Below.refl _ _).alloc (Nat.le_refl _) _)).below hg4 (by have := HBS.out; simp; omega))); have HO4 := Lib.hid ho4; clear ho4 hg4 hloc)
        go_ret
        exact ⟨_, rfl, by rw [HE.out]; exact HO4.out.rd, HB4.out⟩
end Go.Proofs.YtamdlkflcbefdaaDoor
