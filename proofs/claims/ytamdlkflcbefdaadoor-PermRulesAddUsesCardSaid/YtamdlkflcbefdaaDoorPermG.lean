/- distinct, Sources and Targets of the program. -/
import Derived.Test.YtamdlkflcbefdaaDoorPermF
namespace Go.Proofs.YtamdlkflcbefdaaDoor
open Go.RowKit Go.Shelf
set_option linter.unusedSimpArgs false
set_option linter.unusedVariables false
/-- a function value that answers f and p and leaves what is there -/
def ValR (g : Nat) (lb : Array Value) (f : RuP → Int) (p : RuP → Bool) (w : World) : Prop :=
  ∀ (W : World) (x : RuP), Below w.heap.size w W → Calls Tryd.prog g (#[.agg #[.int .i64 x.k, .int .i64 x.a, .int .i64 x.b]] ++ lb) W fun e w' => e = .returned (.tuple #[.int .i64 (f x), .bool (p x)]) ∧ Below W.heap.size W w'
/-- the values of those that are taken -/
def picked (f : RuP → Int) (p : RuP → Bool) (l : List RuP) : List Int := (l.filter p).map f
theorem picked_snoc (f : RuP → Int) (p : RuP → Bool) (l : List RuP) (k : Nat) (h : k < l.length) : picked f p (l.take (k + 1)) = picked f p (l.take k) ++ (if p (nth l k) then [f (nth l k)] else []) := by
  unfold picked
  rw [nth_take l k h, List.filter_append, List.map_append]
  congr 1
  cases h : p (nth l k) <;> simp [h]
theorem picked_len (f : RuP → Int) (p : RuP → Bool) (l : List RuP) : (picked f p l).length ≤ l.length := by
  unfold picked
  rw [List.length_map]
  exact List.length_filter_le _ _
abbrev rc (x : RuP) : Array Value := #[.int .i64 x.k, .int .i64 x.a, .int .i64 x.b]
theorem info_r : (Tryd.prog.info? 55).map (·.size) = some 3 := by kernel_rfl
theorem one_i (n : Int) : (Value.int .i64 n).oneCell' = true := rfl
theorem one_rc (x : RuP) : ((rc x).all fun u => u.oneCell') = true := by simp [rc, one_i]
attribute [local irreducible] Calls picked
set_option maxHeartbeats 4000000 in
theorem distinct_c (v : Value) (l : List RuP) (g : Nat) (lb : Array Value) (f : RuP → Int) (p : RuP → Bool) (w : World) (eg : ∀ args w, (callFunc g args).run Tryd.prog w = .ok (.enter g args) w) (hv : RdE eR w v l) (hp : ValR g lb f p w) (hsz : l.length ≤ 1000) :
    Calls Tryd.prog 38 #[v, .func (.func g) #[] lb] w fun e w' => ∃ v', e = .returned v' ∧ OwnE eI w' w.heap.size v' (srt (picked f p l)) ∧ Below w.heap.size w w' := by
  have hlen := hv.len
  unfold maxLen at hlen
  have HV := Lib.hid hv
  have HP := Lib.hid hp
  have HSZ := Lib.hid hsz
  obtain ⟨a, cap, rfl, _, _, _⟩ := hv
  clear hp hsz
  go_enter Tryd.func38, Tryd.ntmps38
  go_wp2
  go_loopw [12, 5] (fun o u wr => ∃ k : Nat, k ≤ l.length ∧ o = .int .i64 k ∧ Hid (OwnE eI wr w.heap.size u (picked f p (l.take k))) ∧ Below w.heap.size w wr) (fun o _ _ => l.length - (intOf o).toNat)
  case atStart => exact ⟨0, Nat.zero_le _, rfl, Lib.hid (by unfold picked; exact OwnE.nil _ _), Below.refl _ _⟩
  case round =>
    obtain ⟨k, hk, rfl, hown, hb⟩ := hrel
    by_cases hlt : k < l.length
    · obtain ⟨b, off, rfl, hbl, hrow⟩ := ((HV.out.on hb).cellsR) (by omega)
      obtain ⟨d0, d1, d2⟩ := hrow k hlt
      have i1 : (k : Int) < l.length := by omega
      have HK := Lib.hid hlt
      have HB := Lib.hid hb
      have HS := Lib.hid (picked_snoc f p l k hlt)
      have HL := Lib.hid (picked_len f p (l.take k))
      clear hrow hb
      generalize nth l k = y at d0 d1 d2 HS
      have hbw2 : ∀ w2, (∀ B, B ≤ wr.heap.size → Below B (wr.alloc (.cells (rc ⟨0, 0, 0⟩) 55)) w2) → Below wr.heap.size wr w2 := fun w2 h => ((Below.refl wr.heap.size wr).alloc (Nat.le_refl _) _).trans (h _ (Nat.le_refl _))
      have HB2 := Lib.hid hbw2
      clear hbw2
      have hlk : (picked f p (l.take k)).length + 1 ≤ 1000000 := by
        have h1 := HL.out
        have h2 := HSZ.out
        rw [List.length_take] at h1
        omega
      have HLK := Lib.hid hlk
      clear hlk
      cases hq : p y with
      | true =>
        rw [hq, if_pos rfl] at HS
        have HC : Hid (∀ W, Below w.heap.size w W → Calls Tryd.prog g (#[.agg #[.int .i64 y.k, .int .i64 y.a, .int .i64 y.b]] ++ lb) W fun e w' => e = .returned (.tuple #[.int .i64 (f y), .bool true]) ∧ Below W.heap.size W w') := Lib.hid (fun W h => by have := HP.out W y h; rw [hq] at this; exact this)
        clear hq
        go_wp2_with (first
          | (refine st_T (T := 55) (rc y) info_r rfl (.tmp 7) (.tmp 15) rfl wr.heap.size (rc ⟨0, 0, 0⟩) rfl rfl (one_rc _) rfl (heap_alloc_new wr _) ?_; intro w2 hg2 hb2; have c0 : w2.cell? ⟨wr.heap.size, 0, none⟩ = some (.int .i64 y.k) := cell_of_row _ _ _ _ _ _ hg2; have c1 : w2.cell? ⟨wr.heap.size, 1, none⟩ = some (.int .i64 y.a) := cell_of_row _ _ _ _ _ _ hg2; have c2 : w2.cell? ⟨wr.heap.size, 2, none⟩ = some (.int .i64 y.b) := cell_of_row _ _ _ _ _ _ hg2; have HBW2 := Lib.hid (HB2.out w2 hb2); clear hg2 hb2)
          | (go_at_fn g; refine (HC.out w2 (HB.out.trans (HBW2.out.mono HB.out.size))).mono ?_; rintro e w3 ⟨rfl, hb3⟩; have HB3 := Lib.hid (HBW2.out.trans (hb3.mono HBW2.out.size)); clear hb3)
          | (at_builtin; refine app_e eI_ok rfl (.tmp 23) (.tmp 25) rfl w.heap.size u5 (picked f p (l.take k)) rfl (hown.out.on (HB3.out.alloc HB3.out.size _)) (.slice (some ⟨w3.heap.size, 0, none⟩) 1 1) [f y] rfl (one_e w3 (f y) eI_ok) HLK.out (by have h1 := HB3.out.size; have h2 := HB.out.size; simp; omega) ?_; intro v5 w4 ho4 hg4 hloc; have HO4 := Lib.hid ho4; have HB4 := Lib.hid ((hown.out.on (HB3.out.alloc HB3.out.size _)).below hg4 (by have h1 := HB3.out.size; have h2 := HB.out.size; simp; omega)); clear ho4 hg4 hloc))
        go_roundw
        case rel => exact ⟨k + 1, HK.out, by go_num, Lib.hid (by rw [HS.out]; exact HO4.out), (HB.out.trans ((HB3.out.mono HB.out.size).alloc (by have h1 := HB3.out.size; have h2 := HB.out.size; omega) _)).trans HB4.out⟩
        case measure => have := HK.out; simp [intOf]; omega
      | false =>
        rw [hq, if_neg (by decide), List.append_nil] at HS
        have HC : Hid (∀ W, Below w.heap.size w W → Calls Tryd.prog g (#[.agg #[.int .i64 y.k, .int .i64 y.a, .int .i64 y.b]] ++ lb) W fun e w' => e = .returned (.tuple #[.int .i64 (f y), .bool false]) ∧ Below W.heap.size W w') := Lib.hid (fun W h => by have := HP.out W y h; rw [hq] at this; exact this)
        clear hq
        go_wp2_with (first
          | (refine st_T (T := 55) (rc y) info_r rfl (.tmp 7) (.tmp 15) rfl wr.heap.size (rc ⟨0, 0, 0⟩) rfl rfl (one_rc _) rfl (heap_alloc_new wr _) ?_; intro w2 hg2 hb2; have c0 : w2.cell? ⟨wr.heap.size, 0, none⟩ = some (.int .i64 y.k) := cell_of_row _ _ _ _ _ _ hg2; have c1 : w2.cell? ⟨wr.heap.size, 1, none⟩ = some (.int .i64 y.a) := cell_of_row _ _ _ _ _ _ hg2; have c2 : w2.cell? ⟨wr.heap.size, 2, none⟩ = some (.int .i64 y.b) := cell_of_row _ _ _ _ _ _ hg2; have HBW2 := Lib.hid (HB2.out w2 hb2); clear hg2 hb2)
          | (go_at_fn g; refine (HC.out w2 (HB.out.trans (HBW2.out.mono HB.out.size))).mono ?_; rintro e w3 ⟨rfl, hb3⟩; have HB3 := Lib.hid (HBW2.out.trans (hb3.mono HBW2.out.size)); clear hb3))
        go_roundw
        case rel => exact ⟨k + 1, HK.out, by go_num, Lib.hid (by rw [HS.out]; exact hown.out.on HB3.out), HB.out.trans (HB3.out.mono HB.out.size)⟩
        case measure => have := HK.out; simp [intOf]; omega
    · have i1 : (l.length : Int) ≤ k := by omega
      have ho : OwnE eI wr w.heap.size u5 (picked f p l) := by have h := hown.out; rw [List.take_of_length_le (by omega)] at h; exact h
      have hl : (picked f p l).length ≤ 1000000 := by have h1 := picked_len f p l; have h2 := HSZ.out; omega
      have HC := Lib.hid (sort_own ho hl)
      have HL := Lib.hid hl
      have HB := Lib.hid hb
      clear hown ho hl hb
      go_wp2_with (first
        | (go_at_call 43; refine HC.out.mono ?_; rintro e w2 ⟨rfl, ho2, hb2⟩; have HO2 := Lib.hid ho2; have HB2 := Lib.hid (HB.out.trans hb2); clear ho2 hb2)
        | (go_at_call 44; refine (compact_own HO2.out (by have := HL.out; simpa using this)).mono ?_; rintro e w3 ⟨v3, rfl, ho3, hb3⟩))
      go_ret
      exact ⟨_, rfl, ho3, HB2.out.trans hb3⟩
end Go.Proofs.YtamdlkflcbefdaaDoor
