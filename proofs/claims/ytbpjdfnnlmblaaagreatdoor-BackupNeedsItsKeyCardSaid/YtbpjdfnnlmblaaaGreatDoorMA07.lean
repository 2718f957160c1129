/- Parts of a proof, joined: contracts of functions of the program and plain lemmas (RefC, BakA, KeyA, KeyB, KeyC, KeyD, KeyE, KeyF, KeyG, KeyH, KeyI, KeyJ, KeyK). No condition. -/
import Derived.Test.YtbpjdfnnlmblaaaGreatDoorMA06
import Derived.Lib.AppendZeros
import Derived.Test.YtbpjdfnnlmblaaaGreatDoorChecked
import Derived.Shelf.GgClosure.Gives
import Derived.Below
/- The specification's counts, texts and lists (printed by wip/gen/refC.py). -/
namespace Go.Proofs.YtbpjdfnnlmblaaaGreatDoor
open Go.RowKit
set_option linter.unusedSimpArgs false
set_option linter.unusedVariables false
theorem slice_lhR {v : Value} {w0 : World} {b : List UInt8} (hv : RdE eB w0 v b) (i j : Nat) (hij : i ≤ j) (hj : j ≤ b.length) :
    ∃ v', (∀ wx : World, (Instr.slice 50 v (some (.int .i64 i)) (some (.int .i64 j)) none).run Tryz.prog wx = .ok v' wx) ∧ ∀ u : World, RdE eB u v b → RdE eB u v' ((b.drop i).take (j - i)) := by
  obtain ⟨a, cap, rfl, h1, h2, h3⟩ := hv
  refine ⟨sliced a i j cap 1, fun wx => ?_, fun u hu => sliced_b hu i j hij hj⟩
  rw [run_slice_lh wx _ a _ cap under_b .i64 .i64 _ _ (by omega) (by omega) (by omega), size_b]
  simp [Result.andThen]
theorem slice_lR {v : Value} {w0 : World} {b : List UInt8} (hv : RdE eB w0 v b) (i : Nat) (hi : i ≤ b.length) :
    ∃ v', (∀ wx : World, (Instr.slice 50 v (some (.int .i64 i)) none none).run Tryz.prog wx = .ok v' wx) ∧ ∀ u : World, RdE eB u v b → RdE eB u v' (b.drop i) := by
  obtain ⟨a, cap, rfl, h1, h2, h3⟩ := hv
  refine ⟨sliced a i b.length cap 1, fun wx => ?_, fun u hu => ?_⟩
  · rw [run_slice_l wx _ a _ cap under_b .i64 _ (by omega) (by omega), size_b]
    simp [Result.andThen]
  · have h := sliced_b hu i b.length hi (Nat.le_refl _)
    rwa [List.take_of_length_le (by rw [List.length_drop]; exact Nat.le_refl _)] at h
/-- the specification's count: nothing beside an error -/
def cntR (b : List UInt8) : Int × Nat × Int := if (cntP b 1).2.2 = 0 then cntP b 1 else (0, 0, (cntP b 1).2.2)
theorem cntR_ok {b : List UInt8} {n : Int} {u : Nat} (h : cntP b 1 = (n, u, 0)) : cntR b = (n, u, 0) := by unfold cntR; rw [h]; rfl
theorem cntR_no {b : List UInt8} {n : Int} {u : Nat} {e : Int} (h : cntP b 1 = (n, u, e)) (he : e ≠ 0) : cntR b = (0, 0, e) := by unfold cntR; rw [h, if_neg he]
theorem cntR_gen (b : List UInt8) (n : Int) (u : Nat) (e : Int) (h : cntP b 1 = (n, u, e)) : (e = 0 ∧ cntR b = (n, u, 0)) ∨ (e ≠ 0 ∧ cntR b = (0, 0, e)) := by
  by_cases he : e = 0
  · subst he; exact .inl ⟨rfl, cntR_ok h⟩
  · exact .inr ⟨he, cntR_no h he⟩
attribute [local irreducible] Calls encI encS decI decS cntP cntR
set_option maxRecDepth 100000 in
set_option maxHeartbeats 4000000 in
theorem countR_c (v : Value) (b : List UInt8) (w : World) (hv : RdE eB w v b) :
    Calls Tryz.prog 87 #[v, .int .i64 1] w fun e w' => e = .returned (numV (cntR b)) ∧ Below w.heap.size w w' := by
  have HG := Lib.hid (getIntR_c v b w hv)
  have hlen := hv.len
  unfold maxLen at hlen
  have HU := Lib.hid (decI_used b)
  have HP := Lib.hid (cntP_parts b 1)
  have HZ := Lib.hid (decI_err b)
  obtain ⟨a, cap, rfl, hcap, hcm, _⟩ := hv
  unfold maxLen at hcm
  generalize decI b = d at HG HU HP HZ
  obtain ⟨n, u, er⟩ := d
  simp only at HP HU HZ
  rcases HP.out with ⟨h1, h2⟩ | ⟨h1, h2, h3⟩ | ⟨h1, h2, h3, h4⟩ | ⟨h1, h2, h3, h4⟩
  · have HE := Lib.hid (HZ.out h1)
    obtain ⟨rfl, rfl⟩ := HE.out
    have HR := Lib.hid (cntR_no h2 h1)
    clear h2 HP HE HZ
    go_enter Tryz.func87, Tryz.ntmps87
    go_wp2_with (go_at_call 88; refine HG.out.mono ?_; rintro e w1 ⟨rfl, hb1⟩; have HB1 := Lib.hid hb1; clear hb1; simp only [numV])
    go_ret3
    exact ⟨by rw [HR.out]; rfl, HB1.out⟩
  · subst h1
    have HR := Lib.hid (cntR_no h3 (by decide))
    clear h3 HP HZ
    go_enter Tryz.func87, Tryz.ntmps87
    go_wp2_with (go_at_call 88; refine HG.out.mono ?_; rintro e w1 ⟨rfl, hb1⟩; have HB1 := Lib.hid hb1; clear hb1; simp only [numV])
    go_ret3
    exact ⟨by rw [HR.out]; rfl, HB1.out⟩
  · subst h1
    have HR := Lib.hid (cntR_no h4 (by decide))
    obtain ⟨hu, hok1, hok2⟩ := HU.out rfl
    have hu' : (u : Int) ≤ b.length := by omega
    have i3 : (b.length : Int) - u < n := by rw [Nat.div_one] at h3; omega
    have i3' : ¬ n ≤ (b.length : Int) - u := by omega
    have em : n * 1 = n := Int.mul_one n
    by_cases hn : (b.length : Int) < n
    · clear h3 h4 HP hu HZ
      go_enter Tryz.func87, Tryz.ntmps87
      go_wp2_with (go_at_call 88; refine HG.out.mono ?_; rintro e w1 ⟨rfl, hb1⟩; have HB1 := Lib.hid hb1; clear hb1; simp only [numV])
      go_ret3
      exact ⟨by rw [HR.out]; rfl, HB1.out⟩
    · clear h3 h4 HP hu HZ
      go_enter Tryz.func87, Tryz.ntmps87
      go_wp2_with (go_at_call 88; refine HG.out.mono ?_; rintro e w1 ⟨rfl, hb1⟩; have HB1 := Lib.hid hb1; clear hb1; simp only [numV])
      go_ret3
      exact ⟨by rw [HR.out]; rfl, HB1.out⟩
  · subst h1
    have HR := Lib.hid (cntR_ok h4)
    obtain ⟨hu, hok1, hok2⟩ := HU.out rfl
    have hu' : (u : Int) ≤ b.length := by omega
    have i3 : ¬ (b.length : Int) - u < n := by rw [Nat.div_one] at h3; omega
    have hn : ¬ (b.length : Int) < n := by omega
    have em : n * 1 = n := Int.mul_one n
    clear h3 h4 HP hu HZ
    go_enter Tryz.func87, Tryz.ntmps87
    go_wp2_with (go_at_call 88; refine HG.out.mono ?_; rintro e w1 ⟨rfl, hb1⟩; have HB1 := Lib.hid hb1; clear hb1; simp only [numV])
    go_ret3
    exact ⟨by rw [HR.out]; rfl, HB1.out⟩
set_option maxRecDepth 100000 in
set_option maxHeartbeats 4000000 in
theorem getBytesR_c (v : Value) (b : List UInt8) (w : World) (hv : RdE eB w v b) :
    Calls Tryz.prog 48 #[v] w fun e w' => e = .returned (strV (decS b)) ∧ Below w.heap.size w w' := by
  have HG := Lib.hid (countR_c v b w hv)
  have hlen := hv.len
  unfold maxLen at hlen
  have HU := Lib.hid (cntP_ok b)
  have HP := Lib.hid (decS_parts b)
  have HV := Lib.hid hv
  have HC := Lib.hid (cntR_gen b)
  generalize cntP b 1 = d at HC HU HP
  obtain ⟨n, u, er⟩ := d
  simp only at HP HU
  replace HC := Lib.hid (HC.out n u er rfl)
  clear hv
  rcases HP.out with ⟨h1, h2⟩ | ⟨h1, h2⟩
  · have HR := Lib.hid h2
    rcases HC.out with ⟨hc, _⟩ | ⟨_, hc⟩
    · exact absurd hc h1
    rw [hc] at HG
    clear h2 HP hc HC
    go_enter Tryz.func48, Tryz.ntmps48
    go_wp2_with (go_at_call 87; refine HG.out.mono ?_; rintro e w1 ⟨rfl, hb1⟩; have HB1 := Lib.hid hb1; clear hb1; simp only [numV])
    go_ret3
    exact ⟨by rw [HR.out]; rfl, HB1.out⟩
  · subst h1
    have HR := Lib.hid h2
    rcases HC.out with ⟨_, hc⟩ | ⟨hc, _⟩
    case inr => exact absurd rfl hc
    rw [hc] at HG
    clear hc HC
    obtain ⟨_, k2, k3, _⟩ := HU.out rfl
    obtain ⟨m, rfl⟩ : ∃ m : Nat, n = (m : Int) := ⟨n.toNat, by omega⟩
    rw [Int.toNat_natCast] at HR k3
    obtain ⟨vs, hsl, hrs⟩ := slice_lhR HV.out u (u + m) (by omega) k3
    rw [show u + m - u = m by omega] at hrs
    have HRS := Lib.hid hrs
    generalize (b.drop u).take m = t at HR HRS
    have ha : (u : Int) + (m : Int) ≤ b.length := by omega
    have hs := hsl
    rw [Int.natCast_add] at hs
    clear h2 HP k2 k3 hsl hrs
    go_enter Tryz.func48, Tryz.ntmps48
    go_wp2_with (go_at_call 87; refine HG.out.mono ?_; rintro e w1 ⟨rfl, hb1⟩; have HB1 := Lib.hid hb1; have hcv := conv_e (HRS.out w1 (HV.out.on hb1)); clear hb1; simp only [numV])
    go_ret3
    exact ⟨by rw [HR.out]; rfl, HB1.out⟩
set_option maxRecDepth 100000 in
set_option maxHeartbeats 4000000 in
theorem getIntsR_c (v : Value) (b : List UInt8) (w : World) (hv : RdE eB w v b) (hl : b.length ≤ 900000) :
    Calls Tryz.prog 49 #[v] w fun e w' => ∃ v', e = .returned (.tuple #[v', .int .i64 (decIs b).2.1, .int .i64 (decIs b).2.2]) ∧ OwnE eI w' w.heap.size v' (decIs b).1 ∧ Below w.heap.size w w' := by
  have HG := Lib.hid (countR_c v b w hv)
  have HL := Lib.hid hl
  have HU := Lib.hid (cntP_ok b)
  have HV := Lib.hid hv
  have HD : Hid (decIs b = decL decI b) := Lib.hid rfl
  unfold decL at HD
  have HC := Lib.hid (cntR_gen b)
  generalize cntP b 1 = d at HC HU HD
  obtain ⟨n, u, er⟩ := d
  simp only at HU HD
  replace HC := Lib.hid (HC.out n u er rfl)
  by_cases h1 : er = 0
  · subst h1
    rcases HC.out with ⟨_, hc⟩ | ⟨hc, _⟩
    case inr => exact absurd rfl hc
    rw [hc] at HG
    clear hc HC
    obtain ⟨_, k2, k3, k4⟩ := HU.out rfl
    obtain ⟨m, rfl⟩ : ∃ m : Nat, n = (m : Int) := ⟨n.toNat, by omega⟩
    rw [Int.toNat_natCast] at HD k3
    rw [if_neg (fun e => e rfl)] at HD
    have hmi : (m : Int) ≤ 900000 := by omega
    have K3 := Lib.hid k3
    have HMI := Lib.hid hmi
    have hbi : (b.length : Int) ≤ 900000 := by omega
    clear k2 k3 k4 hv
    go_enter Tryz.func49, Tryz.ntmps49
    go_wp2_with (go_at_call 87; refine HG.out.mono ?_; rintro e w1 ⟨rfl, hb1⟩; have HB1 := Lib.hid hb1; clear hb1; simp only [numV])
    go_loopw [9, 8, 6] (fun i out pv wr => ∃ (j pos : Nat) (acc : List Int), j ≤ m ∧ i = .int .i64 j ∧ pv = .int .i64 pos ∧ pos ≤ b.length ∧ acc.length = j ∧ Hid (decA decI b m u [] = decA decI b (m - j) pos acc) ∧ OwnE eI wr w.heap.size out acc ∧ Below w.heap.size w wr) (fun i _ _ _ => m - (intOf i).toNat)
    case atStart => exact ⟨0, u, [], Nat.zero_le _, rfl, rfl, by have := K3.out; omega, rfl, Lib.hid rfl, OwnE.nil _ _, HB1.out⟩
    case round =>
      obtain ⟨j, pos, acc, hj, rfl, rfl, hpos, hacc, hdec, hown, hb⟩ := hrel
      by_cases hlt : j < m
      · have j1 : (j : Int) < m := by omega
        obtain ⟨vs, hs, hrs⟩ := slice_lR (HV.out.on hb) pos hpos
        have HN := Lib.hid (getIntR_c vs _ wr (hrs wr (HV.out.on hb)))
        have HS : Hid (decA decI b (m - j) pos acc = if (decI (b.drop pos)).2.2 ≠ 0 then ([], 0, (decI (b.drop pos)).2.2) else decA decI b (m - (j + 1)) (pos + (decI (b.drop pos)).2.1) (acc ++ [(decI (b.drop pos)).1])) := Lib.hid (by
          obtain ⟨k, hk⟩ : ∃ k, m - j = k + 1 := ⟨m - j - 1, by omega⟩
          rw [hk, show m - (j + 1) = k by omega, decA])
        have hus : (decI (b.drop pos)).2.2 = 0 → pos + (decI (b.drop pos)).2.1 ≤ b.length := by
          intro h
          have := (decI_used _ h).1
          rw [List.length_drop] at this
          omega
        have HUS := Lib.hid hus
        generalize decI (b.drop pos) = dd at HN HS HUS
        obtain ⟨nn, uu, ee⟩ := dd
        simp only at HN HS HUS
        have HOWN := Lib.hid hown
        have HB := Lib.hid hb
        have HACC := Lib.hid hacc
        have HJ := Lib.hid hlt
        clear hown hb hacc hlt hpos hrs hus
        by_cases h2 : ee = 0
        · subst h2
          have hpu : (pos : Int) + uu ≤ b.length := by have := HUS.out rfl; omega
          have hpu0 : (0 : Int) ≤ (pos : Int) + uu := by omega
          clear hj
          go_wp2_with (first
            | (go_at_call 88; refine HN.out.mono ?_; rintro e w2 ⟨rfl, hb2⟩; have HB2 := Lib.hid hb2; clear hb2; simp only [numV])
            | (at_builtin; go_loud ((refine app_e eI_ok rfl (.tmp 38) (.tmp 40) rfl w.heap.size _ acc rfl ((HOWN.out.on HB2.out).on ((Below.refl _ _).alloc (Nat.le_refl _) _)) (.slice (some ⟨w2.heap.size, 0, none⟩) 1 1) [nn] rfl (one_e w2 nn eI_ok) (by rw [HACC.out]; have := HJ.out; have := HMI.out; simp; omega) (by have := HB.out.size; have := HB2.out.size; simp; omega) ?_; intro v3 w3 ho3 hg3 _; have HO3 := Lib.hid ho3; have HB3 : Hid (Below w.heap.size w w3) := (Lib.hid (((HB.out.trans (HB2.out.mono HB.out.size)).alloc (Nat.le_trans HB.out.size HB2.out.size) _).grown hg3 (by have := HB.out.size; have := HB2.out.size; simp; omega) (fun k hk2 => (HOWN.out.lt k hk2).1))); clear ho3 hg3))))
          go_roundw
          case rel => exact ⟨j + 1, pos + uu, acc ++ [nn], by have := HJ.out; omega, by go_num, by rw [Int.natCast_add], by omega, by rw [List.length_append, HACC.out]; rfl, Lib.hid (by rw [hdec.out, HS.out]; rfl), HO3.out, HB3.out⟩
          case measure => have := HJ.out; simp [intOf]; omega
        · have h3 : (ee != 0) = true := by simpa using h2
          have H2 := Lib.hid h2
          clear h2 hj
          go_wp2_with (go_at_call 88; refine HN.out.mono ?_; rintro e w2 ⟨rfl, hb2⟩; have HB2 := Lib.hid hb2; clear hb2; simp only [numV])
          go_ret3
          have HE : decIs b = ([], 0, ee) := by rw [HD.out, hdec.out, HS.out, if_pos H2.out]
          exact ⟨_, by rw [HE]; rfl, by rw [HE]; exact OwnE.nil _ _, HB.out.trans (HB2.out.mono HB.out.size)⟩
      · have he : m - j = 0 := by omega
        have j1 : ¬ (j : Int) < m := by omega
        have HE : Hid (decIs b = (acc, pos, 0)) := Lib.hid (by rw [HD.out, hdec.out, he]; rfl)
        have HOWN := Lib.hid hown
        have HB := Lib.hid hb
        clear he hlt hj hacc hown hb hpos
        go_wp2
        go_ret3
        exact ⟨_, by rw [HE.out]; rfl, by rw [HE.out]; exact HOWN.out, HB.out⟩
  · have h3 : (er != 0) = true := by simpa using h1
    rw [if_pos h1] at HD
    rcases HC.out with ⟨hc, _⟩ | ⟨_, hc⟩
    · exact absurd hc h1
    rw [hc] at HG
    clear h1 hv hc HC
    go_enter Tryz.func49, Tryz.ntmps49
    go_wp2_with (go_at_call 87; refine HG.out.mono ?_; rintro e w1 ⟨rfl, hb1⟩; have HB1 := Lib.hid hb1; clear hb1; simp only [numV])
    go_ret3
    exact ⟨_, by rw [HD.out]; rfl, by rw [HD.out]; exact OwnE.nil _ _, HB1.out⟩
set_option maxRecDepth 100000 in
set_option maxHeartbeats 4000000 in
theorem getStringsR_c (v : Value) (b : List UInt8) (w : World) (hv : RdE eB w v b) (hl : b.length ≤ 900000) :
    Calls Tryz.prog 57 #[v] w fun e w' => ∃ v', e = .returned (.tuple #[v', .int .i64 (decSs b).2.1, .int .i64 (decSs b).2.2]) ∧ OwnE eS w' w.heap.size v' (decSs b).1 ∧ Below w.heap.size w w' := by
  have HG := Lib.hid (countR_c v b w hv)
  have HL := Lib.hid hl
  have HU := Lib.hid (cntP_ok b)
  have HV := Lib.hid hv
  have HD : Hid (decSs b = decL decS b) := Lib.hid rfl
  unfold decL at HD
  have HC := Lib.hid (cntR_gen b)
  generalize cntP b 1 = d at HC HU HD
  obtain ⟨n, u, er⟩ := d
  simp only at HU HD
  replace HC := Lib.hid (HC.out n u er rfl)
  by_cases h1 : er = 0
  · subst h1
    rcases HC.out with ⟨_, hc⟩ | ⟨hc, _⟩
    case inr => exact absurd rfl hc
    rw [hc] at HG
    clear hc HC
    obtain ⟨_, k2, k3, k4⟩ := HU.out rfl
    obtain ⟨m, rfl⟩ : ∃ m : Nat, n = (m : Int) := ⟨n.toNat, by omega⟩
    rw [Int.toNat_natCast] at HD k3
    rw [if_neg (fun e => e rfl)] at HD
    have hmi : (m : Int) ≤ 900000 := by omega
    have K3 := Lib.hid k3
    have HMI := Lib.hid hmi
    have hbi : (b.length : Int) ≤ 900000 := by omega
    clear k2 k3 k4 hv
    go_enter Tryz.func57, Tryz.ntmps57
    go_wp2_with (go_at_call 87; refine HG.out.mono ?_; rintro e w1 ⟨rfl, hb1⟩; have HB1 := Lib.hid hb1; clear hb1; simp only [numV])
    go_loopw [9, 8, 6] (fun i out pv wr => ∃ (j pos : Nat) (acc : List (List UInt8)), j ≤ m ∧ i = .int .i64 j ∧ pv = .int .i64 pos ∧ pos ≤ b.length ∧ acc.length = j ∧ Hid (decA decS b m u [] = decA decS b (m - j) pos acc) ∧ OwnE eS wr w.heap.size out acc ∧ Below w.heap.size w wr) (fun i _ _ _ => m - (intOf i).toNat)
    case atStart => exact ⟨0, u, [], Nat.zero_le _, rfl, rfl, by have := K3.out; omega, rfl, Lib.hid rfl, OwnE.nil _ _, HB1.out⟩
    case round =>
      obtain ⟨j, pos, acc, hj, rfl, rfl, hpos, hacc, hdec, hown, hb⟩ := hrel
      by_cases hlt : j < m
      · have j1 : (j : Int) < m := by omega
        obtain ⟨vs, hs, hrs⟩ := slice_lR (HV.out.on hb) pos hpos
        have HN := Lib.hid (getBytesR_c vs _ wr (hrs wr (HV.out.on hb)))
        have HS : Hid (decA decS b (m - j) pos acc = if (decS (b.drop pos)).2.2 ≠ 0 then ([], 0, (decS (b.drop pos)).2.2) else decA decS b (m - (j + 1)) (pos + (decS (b.drop pos)).2.1) (acc ++ [(decS (b.drop pos)).1])) := Lib.hid (by
          obtain ⟨k, hk⟩ : ∃ k, m - j = k + 1 := ⟨m - j - 1, by omega⟩
          rw [hk, show m - (j + 1) = k by omega, decA])
        have hus : (decS (b.drop pos)).2.2 = 0 → pos + (decS (b.drop pos)).2.1 ≤ b.length := by
          intro h
          have := decS_used _ h
          rw [List.length_drop] at this
          omega
        have HUS := Lib.hid hus
        generalize decS (b.drop pos) = dd at HN HS HUS
        obtain ⟨nn, uu, ee⟩ := dd
        simp only at HN HS HUS
        have HOWN := Lib.hid hown
        have HB := Lib.hid hb
        have HACC := Lib.hid hacc
        have HJ := Lib.hid hlt
        clear hown hb hacc hlt hpos hrs hus
        by_cases h2 : ee = 0
        · subst h2
          have hpu : (pos : Int) + uu ≤ b.length := by have := HUS.out rfl; omega
          have hpu0 : (0 : Int) ≤ (pos : Int) + uu := by omega
          clear hj
          go_wp2_with (first
            | (go_at_call 48; refine HN.out.mono ?_; rintro e w2 ⟨rfl, hb2⟩; have HB2 := Lib.hid hb2; clear hb2; simp only [strV])
            | (at_builtin; go_loud ((refine app_e eS_ok rfl (.tmp 38) (.tmp 40) rfl w.heap.size _ acc rfl ((HOWN.out.on HB2.out).on ((Below.refl _ _).alloc (Nat.le_refl _) _)) (.slice (some ⟨w2.heap.size, 0, none⟩) 1 1) [nn] rfl (one_e w2 nn eS_ok) (by rw [HACC.out]; have := HJ.out; have := HMI.out; simp; omega) (by have := HB.out.size; have := HB2.out.size; simp; omega) ?_; intro v3 w3 ho3 hg3 _; have HO3 := Lib.hid ho3; have HB3 : Hid (Below w.heap.size w w3) := (Lib.hid (((HB.out.trans (HB2.out.mono HB.out.size)).alloc (Nat.le_trans HB.out.size HB2.out.size) _).grown hg3 (by have := HB.out.size; have := HB2.out.size; simp; omega) (fun k hk2 => (HOWN.out.lt k hk2).1))); clear ho3 hg3))))
          go_roundw
          case rel => exact ⟨j + 1, pos + uu, acc ++ [nn], by have := HJ.out; omega, by go_num, by rw [Int.natCast_add], by omega, by rw [List.length_append, HACC.out]; rfl, Lib.hid (by rw [hdec.out, HS.out]; rfl), HO3.out, HB3.out⟩
          case measure => have := HJ.out; simp [intOf]; omega
        · have h3 : (ee != 0) = true := by simpa using h2
          have H2 := Lib.hid h2
          clear h2 hj
          go_wp2_with (go_at_call 48; refine HN.out.mono ?_; rintro e w2 ⟨rfl, hb2⟩; have HB2 := Lib.hid hb2; clear hb2; simp only [strV])
          go_ret3
          have HE : decSs b = ([], 0, ee) := by rw [HD.out, hdec.out, HS.out, if_pos H2.out]
          exact ⟨_, by rw [HE]; rfl, by rw [HE]; exact OwnE.nil _ _, HB.out.trans (HB2.out.mono HB.out.size)⟩
      · have he : m - j = 0 := by omega
        have j1 : ¬ (j : Int) < m := by omega
        have HE : Hid (decSs b = (acc, pos, 0)) := Lib.hid (by rw [HD.out, hdec.out, he]; rfl)
        have HOWN := Lib.hid hown
        have HB := Lib.hid hb
        clear he hlt hj hacc hown hb hpos
        go_wp2
        go_ret3
        exact ⟨_, by rw [HE.out]; rfl, by rw [HE.out]; exact HOWN.out, HB.out⟩
  · have h3 : (er != 0) = true := by simpa using h1
    rw [if_pos h1] at HD
    rcases HC.out with ⟨hc, _⟩ | ⟨_, hc⟩
    · exact absurd hc h1
    rw [hc] at HG
    clear h1 hv hc HC
    go_enter Tryz.func57, Tryz.ntmps57
    go_wp2_with (go_at_call 87; refine HG.out.mono ?_; rintro e w1 ⟨rfl, hb1⟩; have HB1 := Lib.hid hb1; clear hb1; simp only [numV])
    go_ret3
    exact ⟨_, by rw [HD.out]; rfl, by rw [HD.out]; exact OwnE.nil _ _, HB1.out⟩
set_option maxRecDepth 100000 in
set_option maxHeartbeats 4000000 in
theorem intsR_c (v : Value) (l : List Int) (w : World) (hv : RdE eI w v l) (hok : ∀ x ∈ l, okI x) (hl : (encIs l).length ≤ 900000) (hn : l.length ≤ 900000) :
    Calls Tryz.prog 43 #[v] w fun e w' => ∃ v', e = .returned v' ∧ OwnE eB w' w.heap.size v' (encIs l) ∧ Below w.heap.size w w' := by
  have HV := Lib.hid hv
  have HL := Lib.hid hl
  have HOK := Lib.hid hok
  have hni : (l.length : Int) ≤ 900000 := by omega
  have HN := Lib.hid hn
  have hE : encIs l = encI l.length ++ catE encI l := rfl
  have HE := Lib.hid hE
  obtain ⟨a, cap, rfl, _, _, _⟩ := hv
  clear hl hok hE hn
  go_enter Tryz.func43, Tryz.ntmps43
  go_wp2_with (go_at_call 72; refine (int_r (l.length : Int) (by omega) (by have := HN.out; omega) _).mono ?_; rintro e w1 ⟨v1, rfl, ho1, hb1⟩; have HO1 := Lib.hid ho1; have HB1 := Lib.hid hb1; clear ho1 hb1)
  go_loopw [4, 3] (fun i o wr => ∃ j : Nat, j ≤ l.length ∧ i = .int .i64 j ∧ Hid (OwnE eB wr w.heap.size o (encI l.length ++ catE encI (l.take j))) ∧ Hid (Below w.heap.size w wr)) (fun i _ _ => l.length - (intOf i).toNat)
  case atStart => exact ⟨0, Nat.zero_le _, rfl, Lib.hid (by rw [List.take_zero, catE_nil, List.append_nil]; exact HO1.out), HB1⟩
  case round =>
    obtain ⟨j, hj, rfl, hown, hb⟩ := hrel
    by_cases hlt : j < l.length
    · have j1 : (j : Int) < l.length := by omega
      obtain ⟨bb, off, rfl, hbl, hrow⟩ := RdI_cells (HV.out.on hb.out) (by omega)
      have cj := hrow j hlt
      have hx := HOK.out l[j] (List.getElem_mem hlt)
      have HT := Lib.hid (catE_take encI l j hlt)
      have hle : (encI (l.length : Int) ++ (catE encI (l.take j) ++ encI l[j])).length ≤ 900000 := by
        rw [← HT.out]
        have h1 := HL.out
        rw [HE.out, List.length_append] at h1
        have := catE_take_le encI l (j + 1)
        rw [List.length_append]
        omega
      generalize l[j] = x at cj hx HT hle
      have HX := Lib.hid hx
      have HLE := Lib.hid hle
      have HJ := Lib.hid hlt
      clear hrow hx hlt hle
      go_wp2_with (first
        | (go_at_call 72; refine (int_r x HX.out.1 HX.out.2 _).mono ?_; rintro e w2 ⟨v2, rfl, ho2, hb2⟩; have HO2 := Lib.hid ho2; have HB2 := Lib.hid hb2; clear ho2 hb2)
        | (at_builtin; refine app_e eB_ok rfl (.tmp 14) (.tmp 19) rfl w.heap.size _ _ rfl (hown.out.on HB2.out) _ (encI x) rfl HO2.out.rd (by have := HLE.out; rw [List.length_append, List.length_append] at this; rw [List.length_append]; omega) (Nat.le_trans hb.out.size HB2.out.size) ?_; intro v3 w3 ho3 hg3 _; have HO3 := Lib.hid ho3; have HB3 : Hid (Below w.heap.size w w3) := (Lib.hid ((hb.out.trans (HB2.out.mono hb.out.size)).grown hg3 (Nat.le_trans hb.out.size HB2.out.size) (fun k hk2 => (hown.out.lt k hk2).1))); clear ho3 hg3))
      go_roundw
      case rel => exact ⟨j + 1, HJ.out, by go_num, Lib.hid (by rw [HT.out, ← List.append_assoc]; exact HO3.out), HB3⟩
      case measure => have := HJ.out; simp [intOf]; omega
    · have he : j = l.length := by omega
      have j1 : ¬ (j : Int) < l.length := by omega
      have HF : Hid (encI l.length ++ catE encI (l.take j) = encIs l) := Lib.hid (by rw [he, List.take_length]; rfl)
      clear he hlt hj
      go_wp2
      go_ret
      exact ⟨_, rfl, by rw [← HF.out]; exact hown.out, hb.out⟩
set_option maxRecDepth 100000 in
set_option maxHeartbeats 4000000 in
theorem stringsR_c (v : Value) (l : List (List UInt8)) (w : World) (hv : RdE eS w v l) (hl : (encSs l).length ≤ 900000) (hn : l.length ≤ 900000) :
    Calls Tryz.prog 71 #[v] w fun e w' => ∃ v', e = .returned v' ∧ OwnE eB w' w.heap.size v' (encSs l) ∧ Below w.heap.size w w' := by
  have HV := Lib.hid hv
  have HL := Lib.hid hl
  have hni : (l.length : Int) ≤ 900000 := by omega
  have HN := Lib.hid hn
  have hE : encSs l = encI l.length ++ catE encS l := rfl
  have HE := Lib.hid hE
  obtain ⟨a, cap, rfl, _, _, _⟩ := hv
  clear hl hE hn
  go_enter Tryz.func71, Tryz.ntmps71
  go_wp2_with (go_at_call 72; refine (int_r (l.length : Int) (by omega) (by have := HN.out; omega) _).mono ?_; rintro e w1 ⟨v1, rfl, ho1, hb1⟩; have HO1 := Lib.hid ho1; have HB1 := Lib.hid hb1; clear ho1 hb1)
  go_loopw [4, 3] (fun i o wr => ∃ j : Nat, j ≤ l.length ∧ i = .int .i64 j ∧ Hid (OwnE eB wr w.heap.size o (encI l.length ++ catE encS (l.take j))) ∧ Hid (Below w.heap.size w wr)) (fun i _ _ => l.length - (intOf i).toNat)
  case atStart => exact ⟨0, Nat.zero_le _, rfl, Lib.hid (by rw [List.take_zero, catE_nil, List.append_nil]; exact HO1.out), HB1⟩
  case round =>
    obtain ⟨j, hj, rfl, hown, hb⟩ := hrel
    by_cases hlt : j < l.length
    · have j1 : (j : Int) < l.length := by omega
      obtain ⟨bb, off, rfl, hbl, hrow⟩ := RdS_cells (HV.out.on hb.out) (by omega)
      have cj := hrow j hlt
      have HT := Lib.hid (catE_take encS l j hlt)
      have hle : (encI (l.length : Int) ++ (catE encS (l.take j) ++ encS l[j])).length ≤ 900000 := by
        rw [← HT.out]
        have h1 := HL.out
        rw [HE.out, List.length_append] at h1
        have := catE_take_le encS l (j + 1)
        rw [List.length_append]
        omega
      have hxl : l[j].length ≤ (encS l[j]).length := by unfold encS; rw [List.length_append]; omega
      generalize l[j] = x at cj HT hle hxl
      have HLE := Lib.hid hle
      have HXL := Lib.hid hxl
      have HJ := Lib.hid hlt
      clear hrow hlt hle hxl
      go_wp2_with (first
        | (go_at_call 32; refine (bytes_r x _ (by have h1 := HLE.out; have h2 := HXL.out; rw [List.length_append, List.length_append] at h1; omega)).mono ?_; rintro e w2 ⟨v2, rfl, ho2, hb2⟩; have HO2 := Lib.hid ho2; have HB2 := Lib.hid hb2; clear ho2 hb2)
        | (at_builtin; refine app_e eB_ok rfl (.tmp 14) (.tmp 19) rfl w.heap.size _ _ rfl (hown.out.on HB2.out) _ (encS x) rfl HO2.out.rd (by have := HLE.out; rw [List.length_append, List.length_append] at this; rw [List.length_append]; omega) (Nat.le_trans hb.out.size HB2.out.size) ?_; intro v3 w3 ho3 hg3 _; have HO3 := Lib.hid ho3; have HB3 : Hid (Below w.heap.size w w3) := (Lib.hid ((hb.out.trans (HB2.out.mono hb.out.size)).grown hg3 (Nat.le_trans hb.out.size HB2.out.size) (fun k hk2 => (hown.out.lt k hk2).1))); clear ho3 hg3))
      go_roundw
      case rel => exact ⟨j + 1, HJ.out, by go_num, Lib.hid (by rw [HT.out, ← List.append_assoc]; exact HO3.out), HB3⟩
      case measure => have := HJ.out; simp [intOf]; omega
    · have he : j = l.length := by omega
      have j1 : ¬ (j : Int) < l.length := by omega
      have HF : Hid (encI l.length ++ catE encS (l.take j) = encSs l) := Lib.hid (by rw [he, List.take_length]; rfl)
      clear he hlt hj
      go_wp2
      go_ret
      exact ⟨_, rfl, by rw [← HF.out]; exact hown.out, hb.out⟩
end Go.Proofs.YtbpjdfnnlmblaaaGreatDoor
/- Rows of bytes are joined: slices.Grow and slices.Concat. -/
namespace Go.Proofs.YtbpjdfnnlmblaaaGreatDoor
open Go.RowKit
set_option linter.unusedSimpArgs false
set_option linter.unusedVariables false
theorem info_u8 : (Tryz.prog.info? 5).map (fun i => (i.zero, i.size, i.bytes)) = some (some (.int .u8 0), 1, 1) := by kernel_rfl
theorem zeros_size (z : Array Value) (n : Nat) : (Builtin.zeroCells z n).size = n * z.size := by unfold Builtin.zeroCells; simp
attribute [local irreducible] Calls
set_option maxRecDepth 100000 in
set_option maxHeartbeats 2000000 in
theorem grow_c (n : Nat) (h0 : 0 < n) (hn : n ≤ 1000000) (w : World) :
    Calls Tryz.prog 77 #[.slice none 0 0, .int .i64 n] w fun e w' => ∃ v', e = .returned v' ∧ OwnE eB w' w.heap.size v' [] ∧ Below w.heap.size w w' := by
  have hi1 := info_u8
  cases hi : Tryz.prog.info? 5 with
  | none => rw [hi] at hi1; cases hi1
  | some i =>
    rw [hi] at hi1
    simp only [Option.map_some, Option.some.injEq, Prod.mk.injEq] at hi1
    obtain ⟨hz, hs, hb⟩ := hi1
    have hrun := fun ty (wx : World) => Lib.run_append_nil_zeros (P := Tryz.prog) wx 50 3 ty 5 i (.int .u8 0) .i64 .i64 Tryz.underlying50 Tryz.underlying3 hi hz n h0 (by omega) (by omega) (by rw [hb]; omega)
    have HRUN := Lib.hid hrun
    have i1 : ¬ (n : Int) < 0 := by omega
    have i2 : (0 : Int) < n := by omega
    have i3 : (n : Int) ≤ 1000000 := by omega
    have H0 := Lib.hid h0
    have HN := Lib.hid hn
    clear hrun hi hz hs hb h0 hn
    go_enter Tryz.func77, Tryz.ntmps77
    go_wp2_with (at_builtin; refine Lib.wpList_append_run _ rfl (.tmp 20) (.tmp 21) 50 3 rfl _ _ rfl rfl _ _ (HRUN.out _ _) ?_; have hge := grownCap_ge w n 0 5; have hle := grownCap_le_maxLen w n 0 5 (by have := HN.out; unfold maxLen; omega); generalize hgc : grownCap w n 0 5 = cap at hge hle; have HGE := Lib.hid hge; have HLE := Lib.hid hle; clear hge hle; have c0 : ¬ cap = 0 := (by have := HGE.out; have := H0.out; omega); have c1 : (0 : Int) ≤ cap := (by omega))
    go_ret
    refine ⟨_, rfl, ⟨by simp [El.flat], .inr ⟨w.heap.size, cap, _, rfl, Nat.le_refl _, heap_alloc_new _ _, Nat.zero_le _, HLE.out, ?_, by simp [El.flat]⟩⟩, ((Below.refl _ _).alloc (Nat.le_refl _) _).drew⟩
    rw [Array.size_append, zeros_size, zeros_size]
    have := HGE.out
    simp
    omega
theorem flat_take (xs : List (List UInt8)) (j : Nat) (h : j < xs.length) : (xs.take (j + 1)).flatten = (xs.take j).flatten ++ xs[j] := by
  rw [List.take_add_one, List.getElem?_eq_getElem h]
  show (xs.take j ++ [xs[j]]).flatten = _
  rw [List.flatten_append, List.flatten_cons, List.flatten_nil, List.append_nil]
theorem flat_take_le (xs : List (List UInt8)) (j : Nat) : (xs.take j).flatten.length ≤ xs.flatten.length := by
  conv => rhs; rw [← List.take_append_drop j xs, List.flatten_append, List.length_append]
  omega
set_option maxRecDepth 100000 in
set_option maxHeartbeats 4000000 in
theorem concat_c (bk cap : Nat) (xs : List (List UInt8)) (w : World) (hc : ∀ j (h : j < xs.length), ∃ v, w.cell? ⟨bk, j, none⟩ = some v ∧ RdE eB w v xs[j]) (hbk : bk < w.heap.size) (hn : xs.length ≤ 100) (hpos : 0 < xs.flatten.length) (hl : xs.flatten.length ≤ 900000) :
    Calls Tryz.prog 40 #[.slice (some ⟨bk, 0, none⟩) xs.length cap] w fun e w' => ∃ v', e = .returned v' ∧ OwnE eB w' w.heap.size v' xs.flatten ∧ Below w.heap.size w w' := by
  have HC := Lib.hid hc
  have HL := Lib.hid hl
  have HP := Lib.hid hpos
  have hni : (xs.length : Int) ≤ 100 := by omega
  clear hc hl hpos hn
  go_enter Tryz.func40, Tryz.ntmps40
  go_wp2
  go_loopw [11, 3] (fun i s wr => ∃ j : Nat, j ≤ xs.length ∧ i = .int .i64 j ∧ s = .int .i64 ((xs.take j).flatten.length : Nat) ∧ wr = w) (fun i _ _ => xs.length - (intOf i).toNat)
  case atStart => exact ⟨0, Nat.zero_le _, rfl, rfl, rfl⟩
  case round =>
    obtain ⟨j, hj, rfl, rfl, hwr⟩ := hrel
    rw [hwr]
    clear hwr
    by_cases hlt : j < xs.length
    · have j1 : (j : Int) < xs.length := by omega
      obtain ⟨v, cj, hv⟩ := HC.out j hlt
      have HT := Lib.hid (congrArg List.length (flat_take xs j hlt))
      have hle := flat_take_le xs (j + 1)
      rw [HT.out] at hle
      have h9 := HL.out
      generalize xs[j] = x at hv HT hle
      generalize (xs.take j).flatten = y at HT hle ⊢
      rw [List.length_append] at HT hle
      have hs : (y.length : Int) + x.length ≤ 900000 := by omega
      have hs0 : ¬ (y.length : Int) + x.length < 0 := by omega
      have HJ := Lib.hid hlt
      obtain ⟨a, c, rfl, _, _, _⟩ := hv
      clear hlt hle h9
      go_wp2
      go_roundw
      case rel => exact ⟨j + 1, HJ.out, by go_num, by rw [HT.out, Int.natCast_add], by first | exact rfl | exact trivial⟩
      case measure => have := HJ.out; simp [intOf]; omega
    · have he : j = xs.length := by omega
      have j1 : (xs.length : Int) ≤ j := by omega
      have HF : Hid ((xs.take j).flatten = xs.flatten) := Lib.hid (by rw [he, List.take_length])
      rw [HF.out]
      obtain ⟨N, hN⟩ : ∃ N, N = xs.flatten.length := ⟨_, rfl⟩
      rw [← hN]
      have HNN := Lib.hid hN
      clear he hlt hj hN
      go_wp2_with (go_at_call 77; refine (grow_c N (by rw [HNN.out]; exact HP.out) (by rw [HNN.out]; have := HL.out; omega) _).mono ?_; rintro e w1 ⟨v1, rfl, ho1, hb1⟩; have HO1 := Lib.hid ho1; have HB1 := Lib.hid hb1; clear ho1 hb1)
      go_loopw [27, 6] (fun i o wr => ∃ k : Nat, k ≤ xs.length ∧ i = .int .i64 k ∧ Hid (OwnE eB wr w.heap.size o (xs.take k).flatten) ∧ Hid (Below w.heap.size w wr)) (fun i _ _ => xs.length - (intOf i).toNat)
      case atStart => exact ⟨0, Nat.zero_le _, rfl, HO1, HB1⟩
      case round =>
        obtain ⟨k, hk, rfl, hown, hb⟩ := hrel
        by_cases hlt : k < xs.length
        · have k1 : (k : Int) < xs.length := by omega
          obtain ⟨v, cj, hv⟩ := HC.out k hlt
          have HV := Lib.hid (hv.on hb.out)
          have ck : wr.cell? ⟨bk, k, none⟩ = some v := by rw [hb.out.cell (p := ⟨bk, k, none⟩) hbk]; exact cj
          have HT := Lib.hid (flat_take xs k hlt)
          have hle := flat_take_le xs (k + 1)
          rw [HT.out, List.length_append] at hle
          have HLE := Lib.hid (Nat.le_trans hle HL.out)
          generalize xs[k] = x at hv HT HLE HV
          have HJ := Lib.hid hlt
          clear hlt hle cj hv
          go_wp2_with (at_builtin; refine app_e eB_ok rfl (.tmp 31) (.tmp 32) rfl w.heap.size _ _ rfl hown.out _ x rfl HV.out (by have := HLE.out; omega) hb.out.size ?_; intro v3 w3 ho3 hg3 _; have HO3 := Lib.hid ho3; have HB3 : Hid (Below w.heap.size w w3) := (Lib.hid (hb.out.grown hg3 hb.out.size (fun k hk2 => (hown.out.lt k hk2).1))); clear ho3 hg3)
          go_roundw
          case rel => exact ⟨k + 1, HJ.out, by go_num, Lib.hid (by rw [HT.out]; exact HO3.out), HB3⟩
          case measure => have := HJ.out; simp [intOf]; omega
        · have he2 : k = xs.length := by omega
          have k1 : (xs.length : Int) ≤ k := by omega
          have HF2 : Hid ((xs.take k).flatten = xs.flatten) := Lib.hid (by rw [he2, List.take_length])
          clear he2 hlt hk
          go_wp2
          go_ret
          exact ⟨_, rfl, by rw [← HF2.out]; exact hown.out, hb.out⟩
end Go.Proofs.YtbpjdfnnlmblaaaGreatDoor
/- Keys of tables as the walk's values; numbers within bounds. -/
namespace Go.Proofs.YtbpjdfnnlmblaaaGreatDoor
open Go.RowKit
set_option linter.unusedSimpArgs false
set_option linter.unusedVariables false
/-- a key -/
structure K where
  id : Int
  ty : Int
  val : List UInt8
  uses : Int
  start : Int
  fin : Int
  ver : Int
  par : Int
  raw : Bool
deriving DecidableEq
instance : Inhabited K := ⟨⟨0, 0, [], 0, 0, 0, 0, 0, false⟩⟩
/-- its cells -/
def kc (k : K) : Array Value := #[.int .i64 k.id, .int .i64 k.ty, .string ⟨k.val.toArray⟩, .int .i64 k.uses, .int .i64 k.start, .int .i64 k.fin, .int .i64 k.ver, .int .i64 k.par, .bool k.raw]
def kv (k : K) : Value := .agg (kc k)
def win (n lo hi : Int) : Bool := decide (lo ≤ n) && decide (n ≤ hi)
theorem win_ref (n lo hi : Int) (w : World) : Calls Tryz.prog 76 #[.int .i64 n, .int .i64 lo, .int .i64 hi] w fun e w' => e = .returned (.bool (win n lo hi)) ∧ w' = w := by
  unfold win
  by_cases h1 : lo ≤ n
  · by_cases h2 : n ≤ hi
    · go_enter Tryz.func76, Tryz.ntmps76
      go_wp2
      go_ret
      simp [h1, h2]
    · go_enter Tryz.func76, Tryz.ntmps76
      go_wp2
      go_ret
      simp [h1, h2]
  · go_enter Tryz.func76, Tryz.ntmps76
    go_wp2
    go_ret
    refine ⟨?_, rfl⟩
    rw [decide_eq_false (by omega : ¬ lo ≤ n)]
    rfl
theorem win_c (n lo hi : Int) (w : World) : Calls Tryz.prog 73 #[.int .i64 n, .int .i64 lo, .int .i64 hi] w fun e w' => e = .returned (.bool (win n lo hi)) ∧ w' = w := by
  unfold win
  by_cases h1 : lo ≤ n
  · by_cases h2 : n ≤ hi
    · go_enter Tryz.func73, Tryz.ntmps73
      go_wp2
      go_ret
      simp [h1, h2]
    · go_enter Tryz.func73, Tryz.ntmps73
      go_wp2
      go_ret
      simp [h1, h2]
  · go_enter Tryz.func73, Tryz.ntmps73
    go_wp2
    go_ret
    refine ⟨?_, rfl⟩
    rw [decide_eq_false (by omega : ¬ lo ≤ n)]
    rfl
/-- the uses are among those that there are -/
def usesOK (u : Int) : Bool := bits .and .i64 u 956 == u
def validK (k : K) : Bool := win k.ty 0 31 && ((k.val.length : Int) == 32) && usesOK k.uses && win k.start 0 1099511627776 && win k.fin k.start 1099511627776 && win k.ver 1 2147483647 && win k.par 0 2147483647
attribute [local irreducible] win Calls
set_option maxHeartbeats 1000000 in
theorem valid_ref (k : K) (w : World) : Calls Tryz.prog 38 #[kv k] w fun e w' => e = .returned (.bool (validK k)) ∧ Below w.heap.size w w' := by
  unfold kv kc
  have hb := (Below.refl w.heap.size w).alloc (Nat.le_refl _) (.cells #[.int .i64 k.id, .int .i64 k.ty, .string ⟨k.val.toArray⟩, .int .i64 k.uses, .int .i64 k.start, .int .i64 k.fin, .int .i64 k.ver, .int .i64 k.par, .bool k.raw] 45)
  have HB := Lib.hid hb
  clear hb
  go_enter Tryz.func38, Tryz.ntmps38
  go_wp2_with (go_at_call 76; refine (win_ref _ _ _ _).mono ?_; rintro e _ ⟨rfl, rfl⟩)
  all_goals
    go_ret
    refine ⟨?_, HB.out⟩
    simp_all [validK, usesOK]
theorem wrap_toNat_inj {X Y : BitVec 64} (h : IntKind.i64.wrap (X.toNat : Int) = IntKind.i64.wrap (Y.toNat : Int)) : X = Y := by
  rw [IntKind.wrap_i64, IntKind.wrap_i64] at h
  have h1 := X.isLt
  have h2 := Y.isLt
  apply BitVec.eq_of_toNat_eq
  omega
theorem mask_iff (A M : BitVec 64) : A &&& ~~~M = 0 ↔ A &&& M = A := by
  constructor
  · intro h
    apply BitVec.eq_of_getLsbD_eq
    intro i hi
    have := congrArg (fun X => X.getLsbD i) h
    simp only [BitVec.getLsbD_and, BitVec.getLsbD_not, BitVec.getLsbD_zero, hi, decide_true, Bool.true_and] at this ⊢
    generalize A.getLsbD i = x at this ⊢
    generalize M.getLsbD i = y at this ⊢
    clear h hi
    revert this
    cases x <;> cases y <;> simp
  · intro h
    apply BitVec.eq_of_getLsbD_eq
    intro i hi
    have := congrArg (fun X => X.getLsbD i) h
    simp only [BitVec.getLsbD_and, BitVec.getLsbD_not, BitVec.getLsbD_zero, hi, decide_true, Bool.true_and] at this ⊢
    generalize A.getLsbD i = x at this ⊢
    generalize M.getLsbD i = y at this ⊢
    clear h hi
    revert this
    cases x <;> cases y <;> simp
/-- the same test in the program's words -/
theorem uses_not (u : Int) (h : IntKind.i64.wrap u = u) : (bits .andNot .i64 u 956 == 0) = usesOK u := by
  have e1 : bits .andNot .i64 u 956 = IntKind.i64.wrap ((BitVec.ofInt 64 u &&& ~~~BitVec.ofInt 64 956).toNat : Int) := rfl
  have e2 : bits .and .i64 u 956 = IntKind.i64.wrap ((BitVec.ofInt 64 u &&& BitVec.ofInt 64 956).toNat : Int) := rfl
  have e3 : IntKind.i64.wrap ((BitVec.ofInt 64 u).toNat : Int) = u := by
    rw [IntKind.wrap_i64] at h ⊢
    rw [BitVec.toNat_ofInt]
    omega
  have key : (bits .andNot .i64 u 956 = 0) ↔ (bits .and .i64 u 956 = u) := by
    rw [e1, e2]
    constructor
    · intro h0
      have hz : BitVec.ofInt 64 u &&& ~~~BitVec.ofInt 64 956 = 0 := wrap_toNat_inj (by rw [h0]; rfl)
      rw [(mask_iff _ _).1 hz, e3]
    · intro h0
      have hz : BitVec.ofInt 64 u &&& BitVec.ofInt 64 956 = BitVec.ofInt 64 u := wrap_toNat_inj (by rw [h0, e3])
      rw [(mask_iff _ _).2 hz]; rfl
  unfold usesOK
  by_cases hk : bits .and .i64 u 956 = u
  · rw [beq_iff_eq.2 hk, beq_iff_eq.2 (key.2 hk)]
  · rw [beq_eq_false_iff_ne.2 hk, beq_eq_false_iff_ne.2 (fun e => hk (key.1 e))]
/-- the program's order of the tests -/
def validC (k : K) : Bool := win k.ty 0 31 && ((k.val.length : Int) == 32) && usesOK k.uses && win k.start 0 k.fin && win k.fin 0 1099511627776 && win k.ver 1 2147483647 && win k.par 0 2147483647
theorem win_iff (n lo hi : Int) : win n lo hi = true ↔ lo ≤ n ∧ n ≤ hi := by unfold win; simp
theorem valid_eq (k : K) : validC k = validK k := by
  unfold validC validK
  have : (win k.start 0 k.fin && win k.fin 0 1099511627776) = (win k.start 0 1099511627776 && win k.fin k.start 1099511627776) := by
    rw [Bool.eq_iff_iff]
    simp only [Bool.and_eq_true, win_iff]
    omega
  simp only [Bool.and_assoc]
  rw [← Bool.and_assoc (win k.start 0 k.fin), ← Bool.and_assoc (win k.start 0 1099511627776), this]
/-- the numbers fit the machine's -/
structure K.wf (k : K) : Prop where
  id : IntKind.i64.wrap k.id = k.id
  uses : IntKind.i64.wrap k.uses = k.uses
set_option maxHeartbeats 1000000 in
theorem valid_c (k : K) (hk : k.wf) (w : World) : Calls Tryz.prog 35 #[kv k] w fun e w' => e = .returned (.bool (validK k)) ∧ Below w.heap.size w w' := by
  rw [← valid_eq]
  unfold kv kc
  have hu := uses_not k.uses hk.uses
  have hb := (Below.refl w.heap.size w).alloc (Nat.le_refl _) (.cells #[.int .i64 k.id, .int .i64 k.ty, .string ⟨k.val.toArray⟩, .int .i64 k.uses, .int .i64 k.start, .int .i64 k.fin, .int .i64 k.ver, .int .i64 k.par, .bool k.raw] 45)
  have HB := Lib.hid hb
  have HU := Lib.hid hu
  clear hb hu
  go_enter Tryz.func35, Tryz.ntmps35
  go_wp2_with (go_at_call 73; refine (win_c _ _ _ _).mono ?_; rintro e _ ⟨rfl, rfl⟩)
  all_goals
    go_ret
    refine ⟨?_, HB.out⟩
    unfold validC
    rw [← HU.out]
    simp_all
end Go.Proofs.YtbpjdfnnlmblaaaGreatDoor
/- Keys that are alike. -/
namespace Go.Proofs.YtbpjdfnnlmblaaaGreatDoor
open Go.RowKit
set_option linter.unusedSimpArgs false
set_option linter.unusedVariables false
/-- equal but for Id and Parent -/
def alikeK (a b : K) : Bool := (a.ty == b.ty) && (a.val == b.val) && (a.uses == b.uses) && (a.start == b.start) && (a.fin == b.fin) && (a.ver == b.ver) && (a.raw == b.raw)
attribute [local irreducible] Calls
/-- block B holds the key k -/
def KeyAt (w : World) (B : Nat) (k : K) : Prop := w.heap[B]? = some (.cells (kc k) 45 (0, 0))
theorem KeyAt.lt {w : World} {B : Nat} {k : K} (h : KeyAt w B k) : B < w.heap.size := (Array.getElem?_eq_some_iff.1 h).1
theorem KeyAt.keep {w w' : World} {B : Nat} {k : K} (h : KeyAt w B k) {n : Nat} (hb : Below n w w') (hn : B < n) : KeyAt w' B k := by
  unfold KeyAt
  rw [hb.block _ hn]
  exact h
theorem KeyAt.on {w w' : World} {B : Nat} {k : K} (h : KeyAt w B k) (hb : Below w.heap.size w w') : KeyAt w' B k := h.keep hb h.lt
theorem KeyAt.cell {w : World} {B : Nat} {k : K} (h : KeyAt w B k) (j : Nat) : w.cell? ⟨B, j, none⟩ = (kc k)[j]? := cell_of_row _ _ _ _ _ _ h
theorem KeyAt.new (w : World) (k : K) : KeyAt (w.alloc (.cells (kc k) 45)) w.heap.size k := heap_alloc_new _ _
/-- a function value that answers p and leaves what was there -/
def PredB (g : Nat) (lb : Array Value) (p : K → Bool) (w : World) : Prop :=
  ∀ (W : World) (x : K), Below w.heap.size w W → Calls Tryz.prog g (#[kv x] ++ lb) W fun e w' => e = .returned (.bool (p x)) ∧ Below w.heap.size w w'
end Go.Proofs.YtbpjdfnnlmblaaaGreatDoor
/- Lists of keys in memory; the first key that a function value takes; Twin. -/
namespace Go.Proofs.YtbpjdfnnlmblaaaGreatDoor
open Go.RowKit Go.Shelf
set_option linter.unusedSimpArgs false
set_option linter.unusedVariables false
/-- the key at a place -/
def keyAt (l : List K) (j : Nat) : K := l[j]!
theorem keyAt_eq (l : List K) (j : Nat) (h : j < l.length) : keyAt l j = l[j] := by simp [keyAt, h]
/-- v is a slice with the keys l in world w -/
def RdK (w : World) (v : Value) (l : List K) : Prop :=
  ∃ a cap, v = .slice a l.length cap ∧ l.length ≤ cap ∧ cap ≤ maxLen ∧
    (0 < l.length → ∃ b off, a = some ⟨b, off, none⟩ ∧ b < w.heap.size ∧ ∀ j, j < l.length → ∀ i, i < 9 → w.cell? ⟨b, off + j * 9 + i, none⟩ = (kc (keyAt l j))[i]?)
theorem RdK.keep {w w' : World} {v : Value} {l : List K} {B : Nat} (h : RdK w v l) (hb : Below B w w') (hB : w.heap.size ≤ B) : RdK w' v l := by
  obtain ⟨a, cap, rfl, h1, h2, h3⟩ := h
  refine ⟨a, cap, rfl, h1, h2, fun h0 => ?_⟩
  obtain ⟨b, off, rfl, hlt, hc⟩ := h3 h0
  refine ⟨b, off, rfl, Nat.lt_of_lt_of_le hlt hb.size, fun j hj i hi => ?_⟩
  rw [hb.cell (p := ⟨b, off + j * 9 + i, none⟩) (Nat.lt_of_lt_of_le hlt hB)]
  exact hc j hj i hi
theorem RdK.on {w w' : World} {v : Value} {l : List K} (h : RdK w v l) (hb : Below w.heap.size w w') : RdK w' v l := h.keep hb (Nat.le_refl _)
theorem RdK.alloc {w : World} {v : Value} {l : List K} (h : RdK w v l) (X : Obj) : RdK (w.alloc X) v l := h.on ((Below.refl w.heap.size w).alloc (Nat.le_refl _) X)
theorem RdK.drew {w : World} {v : Value} {l : List K} (n : Nat) (h : RdK w v l) : RdK (w.drewN n) v l := h.on (below_drewN n (Below.refl w.heap.size w))
theorem RdK.nil (w : World) : RdK w (.slice none 0 0) [] := ⟨none, 0, rfl, Nat.le_refl _, by unfold maxLen; omega, fun h => absurd h (by simp)⟩
/-- the key k lies from cell o of block b on -/
def Nine (w : World) (b o : Nat) (k : K) : Prop :=
  w.cell? ⟨b, o, none⟩ = some (.int .i64 k.id) ∧ w.cell? ⟨b, o + 1, none⟩ = some (.int .i64 k.ty) ∧ w.cell? ⟨b, o + 2, none⟩ = some (.string ⟨k.val.toArray⟩) ∧
  w.cell? ⟨b, o + 3, none⟩ = some (.int .i64 k.uses) ∧ w.cell? ⟨b, o + 4, none⟩ = some (.int .i64 k.start) ∧ w.cell? ⟨b, o + 5, none⟩ = some (.int .i64 k.fin) ∧
  w.cell? ⟨b, o + 6, none⟩ = some (.int .i64 k.ver) ∧ w.cell? ⟨b, o + 7, none⟩ = some (.int .i64 k.par) ∧ w.cell? ⟨b, o + 8, none⟩ = some (.bool k.raw)
theorem RdK.cells {w : World} {a : Option Addr} {n cap : Nat} {l : List K} (h : RdK w (.slice a n cap) l) : 0 < l.length → ∃ b off, a = some ⟨b, off, none⟩ ∧ b < w.heap.size ∧
    ∀ j, j < l.length → Nine w b (off + j * 9) (keyAt l j) := by
  obtain ⟨a', c', e, _, _, h3⟩ := h
  cases e
  intro h0
  obtain ⟨b, off, rfl, hlt, hc⟩ := h3 h0
  refine ⟨b, off, rfl, hlt, fun j hj => ⟨hc j hj 0 (by omega), hc j hj 1 (by omega), hc j hj 2 (by omega), hc j hj 3 (by omega), hc j hj 4 (by omega), hc j hj 5 (by omega), hc j hj 6 (by omega), hc j hj 7 (by omega), hc j hj 8 (by omega)⟩⟩
theorem RdK.len {w : World} {v : Value} {l : List K} (h : RdK w v l) : l.length ≤ maxLen := by
  obtain ⟨a, cap, rfl, h1, h2, h3⟩ := h
  omega
/-- the place of the first that p takes, or -1 -/
def firstIx (p : K → Bool) (l : List K) : Int := match l.findIdx? p with | some i => (i : Int) | none => -1
theorem firstIx_hit (p : K → Bool) (l : List K) (k : Nat) (hk : k < l.length) (h : ∀ j, j < k → p (keyAt l j) = false) (hp : p (keyAt l k) = true) : firstIx p l = k := by
  have e : (keyAt l k) = l[k] := keyAt_eq l k hk
  have : l.findIdx? p = some k := by
    rw [List.findIdx?_eq_some_iff_getElem]
    refine ⟨hk, by rw [← e]; exact hp, fun j hj => ?_⟩
    have := h j hj
    rw [keyAt_eq l j (by omega)] at this
    simpa using this
  rw [firstIx, this]
theorem firstIx_miss (p : K → Bool) (l : List K) (h : ∀ j, j < l.length → p (keyAt l j) = false) : firstIx p l = -1 := by
  have : l.findIdx? p = none := by
    rw [List.findIdx?_eq_none_iff]
    intro x hx
    obtain ⟨i, hi, rfl⟩ := List.mem_iff_getElem.1 hx
    have := h i hi
    rw [keyAt_eq l i hi] at this
    exact this
  rw [firstIx, this]
attribute [local irreducible] Calls
set_option maxHeartbeats 2000000 in
theorem indexFunc_k (v : Value) (l : List K) (g : Nat) (lb : Array Value) (p : K → Bool) (w : World) (eg : ∀ args w, (callFunc g args).run Tryz.prog w = .ok (.enter g args) w) (hv : RdK w v l) (hp : PredB g lb p w) :
    Calls Tryz.prog 78 #[v, .func (.func g) #[] lb] w fun e w' => e = .returned (.int .i64 (firstIx p l)) ∧ Below w.heap.size w w' := by
  have hlen := hv.len
  unfold maxLen at hlen
  have HV := Lib.hid hv
  have HP := Lib.hid hp
  obtain ⟨a, cap, rfl, _, _, _⟩ := hv
  clear hp
  go_enter Tryz.func78, Tryz.ntmps78
  go_wp2
  go_loopw [8] (fun o wr => ∃ k : Nat, k ≤ l.length ∧ o = .int .i64 k ∧ Hid (∀ j, j < k → p (keyAt l j) = false) ∧ Below w.heap.size w wr) (fun o _ => l.length - (intOf o).toNat)
  case atStart => exact ⟨0, Nat.zero_le _, rfl, Lib.hid (fun j hj => absurd hj (by omega)), Below.refl _ _⟩
  case round =>
    obtain ⟨k, hk, rfl, hno, hb⟩ := hrel
    by_cases hlt : k < l.length
    · obtain ⟨b, off, rfl, hbl, hrow⟩ := ((HV.out.on hb).cells) (by omega)
      have hl2 := hrow k hlt
      have hcall := HP.out wr (keyAt l k) hb
      have i1 : (k : Int) < l.length := by omega
      have HK := Lib.hid hlt
      have HX : Hid (∀ j, j < k + 1 → j ≠ k → p (keyAt l j) = false) := Lib.hid (fun j hj hne => hno.out j (by omega))
      have HH := Lib.hid (fun h => firstIx_hit p l k hlt hno.out h)
      unfold kv kc at hcall
      clear hrow hno hb
      generalize hy : (keyAt l k) = y at hl2 hcall HH
      obtain ⟨d0, d1, d2, d3, d4, d5, d6, d7, d8⟩ := hl2
      have HY := Lib.hid hy
      clear hy
      cases hq : p y with
      | true =>
        rw [hq] at hcall
        have r := HH.out hq
        have HC := Lib.hid hcall
        clear hcall
        go_wp2_with (go_at_fn g; refine HC.out.mono ?_; rintro e w1 ⟨rfl, hb'⟩)
        go_ret
        exact ⟨by rw [r]; rfl, hb'⟩
      | false =>
        rw [hq] at hcall
        have HC := Lib.hid hcall
        have HQ := Lib.hid hq
        clear hcall hq
        go_wp2_with (go_at_fn g; refine HC.out.mono ?_; rintro e w1 ⟨rfl, hb'⟩)
        go_roundw
        case rel => exact ⟨k + 1, HK.out, by go_num, Lib.hid (fun j hj => by
          by_cases e : j = k
          · subst e; rw [HY.out]; exact HQ.out
          · exact HX.out j hj e), hb'⟩
        case measure => have := HK.out; simp [intOf]; omega
    · have he : k = l.length := by omega
      have i1 : (l.length : Int) ≤ k := by omega
      have hm := firstIx_miss p l (fun j hj => hno.out j (by omega))
      have HM := Lib.hid hm
      clear hm hno he
      go_wp2
      go_ret
      exact ⟨by rw [HM.out]; rfl, hb⟩
end Go.Proofs.YtbpjdfnnlmblaaaGreatDoor
/- Twin, both. -/
namespace Go.Proofs.YtbpjdfnnlmblaaaGreatDoor
open Go.RowKit Go.Shelf
set_option linter.unusedSimpArgs false
set_option linter.unusedVariables false
/-- the first key that is like k -/
def twinId (l : List K) (k : K) : Int := match l.findIdx? (fun x => alikeK x k) with | some i => (keyAt l i).id | none => 0
def twinIs (l : List K) (k : K) : Bool := match l.findIdx? (fun x => alikeK x k) with | some _ => true | none => false
theorem twin_parts (l : List K) (k : K) : (twinId l k = 0 ∧ twinIs l k = false ∧ firstIx (fun x => alikeK x k) l = -1 ∧ ∀ j, j < l.length → alikeK (keyAt l j) k = false) ∨
    (∃ i, i < l.length ∧ twinId l k = (keyAt l i).id ∧ twinIs l k = true ∧ firstIx (fun x => alikeK x k) l = i ∧ alikeK (keyAt l i) k = true ∧ ∀ j, j < i → alikeK (keyAt l j) k = false) := by
  unfold twinId twinIs firstIx
  cases h : l.findIdx? (fun x => alikeK x k) with
  | none =>
    refine .inl ⟨rfl, rfl, rfl, fun j hj => ?_⟩
    rw [List.findIdx?_eq_none_iff] at h
    have e : (keyAt l j) = l[j] := keyAt_eq l j hj
    rw [e]; exact h _ (List.getElem_mem _)
  | some i =>
    rw [List.findIdx?_eq_some_iff_getElem] at h
    obtain ⟨hi, hp, hn⟩ := h
    refine .inr ⟨i, hi, rfl, rfl, rfl, by rw [keyAt_eq l i hi]; exact hp, fun j hj => ?_⟩
    have e : (keyAt l j) = l[j]'(by omega) := keyAt_eq l j (by omega)
    rw [e]
    simpa using hn j hj
theorem kat2 (w : World) (A : Obj) (k : K) : KeyAt ((w.alloc A).alloc (.cells (kc k) 45)) (w.heap.size + 1) k := by
  have h := KeyAt.new (w.alloc A) k
  rwa [World.size_alloc] at h
theorem below2 (w : World) (A B : Obj) {w1 : World} (h : Below ((w.alloc A).alloc B).heap.size ((w.alloc A).alloc B) w1) : Below w.heap.size w w1 :=
  (((Below.refl _ _).alloc (Nat.le_refl _) A).alloc (by simp) B).trans (h.mono (by simp; omega))
theorem boxed2 (w : World) (cs : Array Value) (T : TypeId) (B : Obj) {w1 : World} (h : Below ((w.alloc (.cells cs T)).alloc B).heap.size ((w.alloc (.cells cs T)).alloc B) w1) (j : Nat) : w1.cell? ⟨w.heap.size, j, none⟩ = cs[j]? := by
  have h2 := ((Below.refl (w.alloc (.cells cs T)).heap.size (w.alloc (.cells cs T))).alloc (Nat.le_refl _) B).trans (h.mono (by simp))
  rw [h2.cell (p := ⟨w.heap.size, j, none⟩) (by simp)]
  exact cell_of_row _ _ _ _ _ _ (heap_alloc_new _ _)
attribute [local irreducible] Calls alikeK
end Go.Proofs.YtbpjdfnnlmblaaaGreatDoor
/- The specification's Twin. -/
namespace Go.Proofs.YtbpjdfnnlmblaaaGreatDoor
open Go.RowKit Go.Shelf
set_option linter.unusedSimpArgs false
set_option linter.unusedVariables false
theorem KeyAt.nine {w : World} {B : Nat} {k : K} (h : KeyAt w B k) : Nine w B 0 k := ⟨h.cell 0, h.cell 1, h.cell 2, h.cell 3, h.cell 4, h.cell 5, h.cell 6, h.cell 7, h.cell 8⟩
attribute [local irreducible] Calls alikeK
end Go.Proofs.YtbpjdfnnlmblaaaGreatDoor
/- Does some key meet a test; the program's Holds. -/
namespace Go.Proofs.YtbpjdfnnlmblaaaGreatDoor
open Go.RowKit Go.Shelf
set_option linter.unusedSimpArgs false
set_option linter.unusedVariables false
theorem firstIx_any (p : K → Bool) (l : List K) : decide (0 ≤ firstIx p l) = l.any p := by
  unfold firstIx
  cases h : l.findIdx? p with
  | none =>
    rw [List.findIdx?_eq_none_iff] at h
    have : l.any p = false := by
      rw [List.any_eq_false]
      intro x hx
      simpa using h x hx
    rw [this]; rfl
  | some i =>
    rw [List.findIdx?_eq_some_iff_getElem] at h
    obtain ⟨hi, hp, _⟩ := h
    have : l.any p = true := List.any_eq_true.2 ⟨_, List.getElem_mem hi, hp⟩
    rw [this]
    simp
theorem boxed1 (w : World) (cs : Array Value) (T : TypeId) {w1 : World} (h : Below (w.alloc (.cells cs T)).heap.size (w.alloc (.cells cs T)) w1) (j : Nat) : w1.cell? ⟨w.heap.size, j, none⟩ = cs[j]? := by
  rw [h.cell (p := ⟨w.heap.size, j, none⟩) (by simp)]
  exact cell_of_row _ _ _ _ _ _ (heap_alloc_new _ _)
theorem below1 (w : World) (A : Obj) {w1 : World} (h : Below (w.alloc A).heap.size (w.alloc A) w1) : Below w.heap.size w w1 :=
  ((Below.refl _ _).alloc (Nat.le_refl _) A).trans (h.mono (by simp))
attribute [local irreducible] Calls alikeK twinId twinIs
set_option maxHeartbeats 2000000 in
theorem containsFunc_k (v : Value) (l : List K) (g : Nat) (lb : Array Value) (p : K → Bool) (w : World) (eg : ∀ args w, (callFunc g args).run Tryz.prog w = .ok (.enter g args) w) (hv : RdK w v l) (hp : PredB g lb p w) :
    Calls Tryz.prog 44 #[v, .func (.func g) #[] lb] w fun e w' => e = .returned (.bool (l.any p)) ∧ Below w.heap.size w w' := by
  have hc := indexFunc_k v l g lb p w eg hv hp
  rw [← firstIx_any]
  have HC := Lib.hid hc
  clear hc hp
  go_enter Tryz.func44, Tryz.ntmps44
  go_wp2_with (go_at_call 78; refine HC.out.mono ?_; rintro e w1 ⟨rfl, hb⟩)
  go_ret
  exact ⟨rfl, hb⟩
/-- not over, and without a twin -/
def lacks (tl : List K) (now : Int) (x : K) : Bool := decide (now < x.fin) && !twinIs tl x
end Go.Proofs.YtbpjdfnnlmblaaaGreatDoor
/- Backups as the walk's values. -/
namespace Go.Proofs.YtbpjdfnnlmblaaaGreatDoor
open Go.RowKit Go.Shelf
set_option linter.unusedSimpArgs false
set_option linter.unusedVariables false
/-- a backup but for its keys -/
structure BK where
  dom : List UInt8
  ep : Int
  num : Int
  fw : Int
  tm : Int
  pol : List UInt8
  mo : List UInt8
def dcell (d : List UInt8) (i : Nat) : Value := .int .u8 (B8 (byteAt d i))
/-- its cells, v the slice of its keys -/
def bc (b : BK) (v : Value) : Array Value := #[dcell b.dom 0, dcell b.dom 1, dcell b.dom 2, dcell b.dom 3, dcell b.dom 4, dcell b.dom 5, dcell b.dom 6, dcell b.dom 7, dcell b.dom 8, dcell b.dom 9, dcell b.dom 10, dcell b.dom 11, dcell b.dom 12, dcell b.dom 13, dcell b.dom 14, dcell b.dom 15, .int .i64 b.ep, .int .i64 b.num, .int .i64 b.fw, .int .i64 b.tm, dcell b.pol 0, dcell b.pol 1, dcell b.pol 2, dcell b.pol 3, dcell b.pol 4, dcell b.pol 5, dcell b.pol 6, dcell b.pol 7, dcell b.pol 8, dcell b.pol 9, dcell b.pol 10, dcell b.pol 11, dcell b.pol 12, dcell b.pol 13, dcell b.pol 14, dcell b.pol 15, .string ⟨b.mo.toArray⟩, v]
@[go_sem] theorem bc_size (b : BK) (v : Value) : (bc b v).size = 38 := rfl
@[go_sem] theorem bc_0 (b : BK) (v : Value) : (bc b v)[0]? = some (dcell b.dom 0) := rfl
@[go_sem] theorem bc_1 (b : BK) (v : Value) : (bc b v)[1]? = some (dcell b.dom 1) := rfl
@[go_sem] theorem bc_2 (b : BK) (v : Value) : (bc b v)[2]? = some (dcell b.dom 2) := rfl
@[go_sem] theorem bc_3 (b : BK) (v : Value) : (bc b v)[3]? = some (dcell b.dom 3) := rfl
@[go_sem] theorem bc_4 (b : BK) (v : Value) : (bc b v)[4]? = some (dcell b.dom 4) := rfl
@[go_sem] theorem bc_5 (b : BK) (v : Value) : (bc b v)[5]? = some (dcell b.dom 5) := rfl
@[go_sem] theorem bc_6 (b : BK) (v : Value) : (bc b v)[6]? = some (dcell b.dom 6) := rfl
@[go_sem] theorem bc_7 (b : BK) (v : Value) : (bc b v)[7]? = some (dcell b.dom 7) := rfl
@[go_sem] theorem bc_8 (b : BK) (v : Value) : (bc b v)[8]? = some (dcell b.dom 8) := rfl
@[go_sem] theorem bc_9 (b : BK) (v : Value) : (bc b v)[9]? = some (dcell b.dom 9) := rfl
@[go_sem] theorem bc_10 (b : BK) (v : Value) : (bc b v)[10]? = some (dcell b.dom 10) := rfl
@[go_sem] theorem bc_11 (b : BK) (v : Value) : (bc b v)[11]? = some (dcell b.dom 11) := rfl
@[go_sem] theorem bc_12 (b : BK) (v : Value) : (bc b v)[12]? = some (dcell b.dom 12) := rfl
@[go_sem] theorem bc_13 (b : BK) (v : Value) : (bc b v)[13]? = some (dcell b.dom 13) := rfl
@[go_sem] theorem bc_14 (b : BK) (v : Value) : (bc b v)[14]? = some (dcell b.dom 14) := rfl
@[go_sem] theorem bc_15 (b : BK) (v : Value) : (bc b v)[15]? = some (dcell b.dom 15) := rfl
@[go_sem] theorem bc_16 (b : BK) (v : Value) : (bc b v)[16]? = some (.int .i64 b.ep) := rfl
@[go_sem] theorem bc_17 (b : BK) (v : Value) : (bc b v)[17]? = some (.int .i64 b.num) := rfl
@[go_sem] theorem bc_18 (b : BK) (v : Value) : (bc b v)[18]? = some (.int .i64 b.fw) := rfl
@[go_sem] theorem bc_19 (b : BK) (v : Value) : (bc b v)[19]? = some (.int .i64 b.tm) := rfl
@[go_sem] theorem bc_20 (b : BK) (v : Value) : (bc b v)[20]? = some (dcell b.pol 0) := rfl
@[go_sem] theorem bc_21 (b : BK) (v : Value) : (bc b v)[21]? = some (dcell b.pol 1) := rfl
@[go_sem] theorem bc_22 (b : BK) (v : Value) : (bc b v)[22]? = some (dcell b.pol 2) := rfl
@[go_sem] theorem bc_23 (b : BK) (v : Value) : (bc b v)[23]? = some (dcell b.pol 3) := rfl
@[go_sem] theorem bc_24 (b : BK) (v : Value) : (bc b v)[24]? = some (dcell b.pol 4) := rfl
@[go_sem] theorem bc_25 (b : BK) (v : Value) : (bc b v)[25]? = some (dcell b.pol 5) := rfl
@[go_sem] theorem bc_26 (b : BK) (v : Value) : (bc b v)[26]? = some (dcell b.pol 6) := rfl
@[go_sem] theorem bc_27 (b : BK) (v : Value) : (bc b v)[27]? = some (dcell b.pol 7) := rfl
@[go_sem] theorem bc_28 (b : BK) (v : Value) : (bc b v)[28]? = some (dcell b.pol 8) := rfl
@[go_sem] theorem bc_29 (b : BK) (v : Value) : (bc b v)[29]? = some (dcell b.pol 9) := rfl
@[go_sem] theorem bc_30 (b : BK) (v : Value) : (bc b v)[30]? = some (dcell b.pol 10) := rfl
@[go_sem] theorem bc_31 (b : BK) (v : Value) : (bc b v)[31]? = some (dcell b.pol 11) := rfl
@[go_sem] theorem bc_32 (b : BK) (v : Value) : (bc b v)[32]? = some (dcell b.pol 12) := rfl
@[go_sem] theorem bc_33 (b : BK) (v : Value) : (bc b v)[33]? = some (dcell b.pol 13) := rfl
@[go_sem] theorem bc_34 (b : BK) (v : Value) : (bc b v)[34]? = some (dcell b.pol 14) := rfl
@[go_sem] theorem bc_35 (b : BK) (v : Value) : (bc b v)[35]? = some (dcell b.pol 15) := rfl
@[go_sem] theorem bc_36 (b : BK) (v : Value) : (bc b v)[36]? = some (.string ⟨b.mo.toArray⟩) := rfl
@[go_sem] theorem bc_37 (b : BK) (v : Value) : (bc b v)[37]? = some v := rfl
attribute [irreducible] bc
theorem kheap3_0 (w : World) (A B C : Obj) : (((w.alloc A).alloc B).alloc C).heap[w.heap.size]? = some A := by
  have h := ((Below.refl (w.alloc A).heap.size (w.alloc A)).alloc (Nat.le_refl _) B).alloc (by simp) C
  rw [h.block _ (by simp)]
  exact heap_alloc_new _ _
theorem kheap3_2 (w : World) (A B C : Obj) : (((w.alloc A).alloc B).alloc C).heap[w.heap.size + 2]? = some C := by
  have h := heap_alloc_new ((w.alloc A).alloc B) C
  rw [World.size_alloc, World.size_alloc] at h
  exact h
theorem kbelow3 (w : World) (A B C : Obj) {w1 : World} (h : Below (((w.alloc A).alloc B).alloc C).heap.size (((w.alloc A).alloc B).alloc C) w1) : Below w.heap.size w w1 :=
  (((Below.refl _ _).alloc (Nat.le_refl _) A).alloc (by simp) B).trans ((below1 _ _ h).mono (by simp; omega))
attribute [local irreducible] Calls alikeK twinId twinIs
/-- every key of the backup that is not over has a twin -/
def holdsK (tl bl : List K) (now : Int) : Bool := !(bl.any (lacks tl now))
end Go.Proofs.YtbpjdfnnlmblaaaGreatDoor
/- The specification's Holds. -/
namespace Go.Proofs.YtbpjdfnnlmblaaaGreatDoor
open Go.RowKit Go.Shelf
set_option linter.unusedSimpArgs false
set_option linter.unusedVariables false
theorem holdsK_false (tl bl : List K) (now : Int) (i : Nat) (hi : i < bl.length) (h : lacks tl now (keyAt bl i) = true) : holdsK tl bl now = false := by
  have : bl.any (lacks tl now) = true := List.any_eq_true.2 ⟨bl[i], List.getElem_mem hi, by rw [← keyAt_eq bl i hi]; exact h⟩
  rw [holdsK, this]; rfl
theorem holdsK_true (tl bl : List K) (now : Int) (h : ∀ j, j < bl.length → lacks tl now (keyAt bl j) = false) : holdsK tl bl now = true := by
  have : bl.any (lacks tl now) = false := by
    rw [List.any_eq_false]
    intro x hx
    obtain ⟨i, hi, rfl⟩ := List.mem_iff_getElem.1 hx
    have := h i hi
    rw [keyAt_eq bl i hi] at this
    simpa using this
  rw [holdsK, this]; rfl
theorem boxed2' (w : World) (A : Obj) (cs : Array Value) (T : TypeId) {w1 : World} (h : Below ((w.alloc A).alloc (.cells cs T)).heap.size ((w.alloc A).alloc (.cells cs T)) w1) (j : Nat) : w1.cell? ⟨w.heap.size + 1, j, none⟩ = cs[j]? := by
  have := boxed1 (w.alloc A) cs T h j
  rwa [World.size_alloc] at this
attribute [local irreducible] Calls alikeK twinId twinIs
end Go.Proofs.YtbpjdfnnlmblaaaGreatDoor
/- Valid tables; small inputs. -/
namespace Go.Proofs.YtbpjdfnnlmblaaaGreatDoor
open Go.RowKit Go.Shelf
set_option linter.unusedSimpArgs false
set_option linter.unusedVariables false
/-- the Id ahead of place i -/
def lastId (l : List K) (i : Nat) : Int := if i = 0 then 0 else (keyAt l (i - 1)).id
theorem lastId_zero (l : List K) : lastId l 0 = 0 := rfl
theorem lastId_succ (l : List K) (i : Nat) : lastId l (i + 1) = (keyAt l i).id := rfl
def okAt (nx : Int) (l : List K) (i : Nat) : Bool := validK (keyAt l i) && decide (lastId l i < (keyAt l i).id) && decide ((keyAt l i).id < nx) && decide ((keyAt l i).par < nx)
def validTab (nx : Int) (l : List K) : Bool := decide (l.length ≤ 4096) && win nx 1 2147483647 && (List.range l.length).all (okAt nx l)
theorem okAt_five (nx : Int) (l : List K) (i : Nat) : (okAt nx l i = false ∧ validK (keyAt l i) = false) ∨ (okAt nx l i = false ∧ validK (keyAt l i) = true ∧ (keyAt l i).id ≤ lastId l i) ∨
    (okAt nx l i = false ∧ validK (keyAt l i) = true ∧ ¬ (keyAt l i).id ≤ lastId l i ∧ nx ≤ (keyAt l i).id) ∨
    (okAt nx l i = false ∧ validK (keyAt l i) = true ∧ ¬ (keyAt l i).id ≤ lastId l i ∧ ¬ nx ≤ (keyAt l i).id ∧ nx ≤ (keyAt l i).par) ∨
    (okAt nx l i = true ∧ validK (keyAt l i) = true ∧ ¬ (keyAt l i).id ≤ lastId l i ∧ ¬ nx ≤ (keyAt l i).id ∧ ¬ nx ≤ (keyAt l i).par) := by
  unfold okAt
  by_cases h0 : validK (keyAt l i) = true
  · by_cases h1 : (keyAt l i).id ≤ lastId l i
    · exact .inr (.inl ⟨by rw [decide_eq_false (by omega : ¬ lastId l i < (keyAt l i).id)]; simp, h0, h1⟩)
    · by_cases h2 : nx ≤ (keyAt l i).id
      · exact .inr (.inr (.inl ⟨by rw [decide_eq_false (by omega : ¬ (keyAt l i).id < nx)]; simp, h0, h1, h2⟩))
      · by_cases h3 : nx ≤ (keyAt l i).par
        · exact .inr (.inr (.inr (.inl ⟨by rw [decide_eq_false (by omega : ¬ (keyAt l i).par < nx)]; simp, h0, h1, h2, h3⟩)))
        · exact .inr (.inr (.inr (.inr ⟨by rw [h0, decide_eq_true (by omega : lastId l i < (keyAt l i).id), decide_eq_true (by omega : (keyAt l i).id < nx), decide_eq_true (by omega : (keyAt l i).par < nx)]; rfl, h0, h1, h2, h3⟩)))
  · have h0' : validK (keyAt l i) = false := by simpa using h0
    exact .inl ⟨by rw [h0']; rfl, h0'⟩
theorem validTab_false (nx : Int) (l : List K) (i : Nat) (hi : i < l.length) (h : okAt nx l i = false) : validTab nx l = false := by
  have : (List.range l.length).all (okAt nx l) = false := by
    rw [List.all_eq_false]
    exact ⟨i, List.mem_range.2 hi, by rw [h]; decide⟩
  rw [validTab, this]; simp
theorem validTab_true (nx : Int) (l : List K) (h1 : l.length ≤ 4096) (h2 : win nx 1 2147483647 = true) (h : ∀ j, j < l.length → okAt nx l j = true) : validTab nx l = true := by
  have : (List.range l.length).all (okAt nx l) = true := List.all_eq_true.2 (fun i hi => h i (List.mem_range.1 hi))
  rw [validTab, this, h2, decide_eq_true h1]; rfl
theorem validTab_no1 (nx : Int) (l : List K) (h1 : ¬ l.length ≤ 4096) : validTab nx l = false := by rw [validTab, decide_eq_false h1]; rfl
theorem validTab_no2 (nx : Int) (l : List K) (h2 : win nx 1 2147483647 = false) : validTab nx l = false := by rw [validTab, h2]; simp
attribute [local irreducible] Calls alikeK twinId twinIs validTab okAt validK lastId win
end Go.Proofs.YtbpjdfnnlmblaaaGreatDoor
/- Lists of numbers; the backup's bounds. -/
namespace Go.Proofs.YtbpjdfnnlmblaaaGreatDoor
open Go.RowKit Go.Shelf
set_option linter.unusedSimpArgs false
set_option linter.unusedVariables false
def intAt (l : List Int) (j : Nat) : Int := l.getD j 0
theorem intAt_eq (l : List Int) (j : Nat) (h : j < l.length) : intAt l j = l[j] := by simp [intAt, h]
/-- v is a slice with the numbers l in world w -/
def RdI (w : World) (v : Value) (l : List Int) : Prop :=
  ∃ a cap, v = .slice a l.length cap ∧ l.length ≤ cap ∧ cap ≤ maxLen ∧
    (0 < l.length → ∃ b off, a = some ⟨b, off, none⟩ ∧ b < w.heap.size ∧ ∀ i, i < l.length → w.cell? ⟨b, off + i, none⟩ = some (.int .i64 (intAt l i)))
theorem RdI.keep {w w' : World} {v : Value} {l : List Int} {B : Nat} (h : RdI w v l) (hb : Below B w w') (hB : w.heap.size ≤ B) : RdI w' v l := by
  obtain ⟨a, cap, rfl, h1, h2, h3⟩ := h
  refine ⟨a, cap, rfl, h1, h2, fun h0 => ?_⟩
  obtain ⟨b, off, rfl, hlt, hc⟩ := h3 h0
  refine ⟨b, off, rfl, Nat.lt_of_lt_of_le hlt hb.size, fun i hi => ?_⟩
  rw [hb.cell (p := ⟨b, off + i, none⟩) (Nat.lt_of_lt_of_le hlt hB)]
  exact hc i hi
theorem RdI.on {w w' : World} {v : Value} {l : List Int} (h : RdI w v l) (hb : Below w.heap.size w w') : RdI w' v l := h.keep hb (Nat.le_refl _)
theorem RdI.alloc {w : World} {v : Value} {l : List Int} (h : RdI w v l) (X : Obj) : RdI (w.alloc X) v l := h.on ((Below.refl w.heap.size w).alloc (Nat.le_refl _) X)
theorem RdI.nil (w : World) : RdI w (.slice none 0 0) [] := ⟨none, 0, rfl, Nat.le_refl _, by unfold maxLen; omega, fun h => absurd h (by simp)⟩
theorem RdI.cells {w : World} {a : Option Addr} {n cap : Nat} {l : List Int} (h : RdI w (.slice a n cap) l) : 0 < l.length → ∃ b off, a = some ⟨b, off, none⟩ ∧ b < w.heap.size ∧ ∀ j, j < l.length → w.cell? ⟨b, off + j, none⟩ = some (.int .i64 (intAt l j)) := by
  obtain ⟨a', c', e, _, _, h3⟩ := h
  cases e
  exact h3
theorem RdI.len {w : World} {v : Value} {l : List Int} (h : RdI w v l) : l.length ≤ maxLen := by
  obtain ⟨a, cap, rfl, h1, h2, h3⟩ := h
  omega
theorem built_i (w : World) (l : List Int) (h : l.length ≤ 1000) : RdI (w.alloc (.cells (l.map (Value.int .i64)).toArray 3)) (.slice (some ⟨w.heap.size, 0, none⟩) l.length l.length) l :=
  ⟨_, _, rfl, Nat.le_refl _, by unfold maxLen; omega, fun _ => ⟨w.heap.size, 0, rfl, by simp, fun i hi => by
    rw [Nat.zero_add, cell_of_row _ _ _ _ _ _ (heap_alloc_new _ _)]
    simp [intAt, hi]⟩⟩
def firstI (p : Int → Bool) (l : List Int) : Int := match l.findIdx? p with | some i => (i : Int) | none => -1
theorem firstI_hit (p : Int → Bool) (l : List Int) (k : Nat) (hk : k < l.length) (h : ∀ j, j < k → p (intAt l j) = false) (hp : p (intAt l k) = true) : firstI p l = k := by
  have : l.findIdx? p = some k := by
    rw [List.findIdx?_eq_some_iff_getElem]
    refine ⟨hk, by rw [← intAt_eq l k hk]; exact hp, fun j hj => ?_⟩
    have := h j hj
    rw [intAt_eq l j (by omega)] at this
    simpa using this
  rw [firstI, this]
theorem firstI_miss (p : Int → Bool) (l : List Int) (h : ∀ j, j < l.length → p (intAt l j) = false) : firstI p l = -1 := by
  have : l.findIdx? p = none := by
    rw [List.findIdx?_eq_none_iff]
    intro x hx
    obtain ⟨i, hi, rfl⟩ := List.mem_iff_getElem.1 hx
    have := h i hi
    rw [intAt_eq l i hi] at this
    exact this
  rw [firstI, this]
theorem firstI_any (p : Int → Bool) (l : List Int) : decide (0 ≤ firstI p l) = l.any p := by
  unfold firstI
  cases h : l.findIdx? p with
  | none =>
    rw [List.findIdx?_eq_none_iff] at h
    have : l.any p = false := by
      rw [List.any_eq_false]
      intro x hx
      simpa using h x hx
    rw [this]; rfl
  | some i =>
    rw [List.findIdx?_eq_some_iff_getElem] at h
    obtain ⟨hi, hp, _⟩ := h
    have : l.any p = true := List.any_eq_true.2 ⟨_, List.getElem_mem hi, hp⟩
    rw [this]
    simp
def PredI (g : Nat) (lb : Array Value) (p : Int → Bool) (w : World) : Prop :=
  ∀ (W : World) (x : Int), Below w.heap.size w W → Calls Tryz.prog g (#[.int .i64 x] ++ lb) W fun e w' => e = .returned (.bool (p x)) ∧ Below w.heap.size w w'
attribute [local irreducible] Calls
set_option maxHeartbeats 2000000 in
theorem indexFunc_i (v : Value) (l : List Int) (g : Nat) (lb : Array Value) (p : Int → Bool) (w : World) (eg : ∀ args w, (callFunc g args).run Tryz.prog w = .ok (.enter g args) w) (hv : RdI w v l) (hp : PredI g lb p w) :
    Calls Tryz.prog 105 #[v, .func (.func g) #[] lb] w fun e w' => e = .returned (.int .i64 (firstI p l)) ∧ Below w.heap.size w w' := by
  have hlen := hv.len
  unfold maxLen at hlen
  have HV := Lib.hid hv
  have HP := Lib.hid hp
  obtain ⟨a, cap, rfl, _, _, _⟩ := hv
  clear hp
  go_enter Tryz.func105, Tryz.ntmps105
  go_wp2
  go_loopw [8] (fun o wr => ∃ k : Nat, k ≤ l.length ∧ o = .int .i64 k ∧ Hid (∀ j, j < k → p (intAt l j) = false) ∧ Below w.heap.size w wr) (fun o _ => l.length - (intOf o).toNat)
  case atStart => exact ⟨0, Nat.zero_le _, rfl, Lib.hid (fun j hj => absurd hj (by omega)), Below.refl _ _⟩
  case round =>
    obtain ⟨k, hk, rfl, hno, hb⟩ := hrel
    by_cases hlt : k < l.length
    · obtain ⟨b, off, rfl, hbl, hrow⟩ := ((HV.out.on hb).cells) (by omega)
      have d0 := hrow k hlt
      have hcall := HP.out wr (intAt l k) hb
      have i1 : (k : Int) < l.length := by omega
      have HK := Lib.hid hlt
      have HX : Hid (∀ j, j < k + 1 → j ≠ k → p (intAt l j) = false) := Lib.hid (fun j hj hne => hno.out j (by omega))
      have HH := Lib.hid (fun h => firstI_hit p l k hlt hno.out h)
      clear hrow hno hb
      generalize hy : intAt l k = y at d0 hcall HH
      have HY := Lib.hid hy
      clear hy
      cases hq : p y with
      | true =>
        rw [hq] at hcall
        have r := HH.out hq
        have HC := Lib.hid hcall
        clear hcall
        go_wp2_with (go_at_fn g; refine HC.out.mono ?_; rintro e w1 ⟨rfl, hb'⟩)
        go_ret
        exact ⟨by rw [r]; rfl, hb'⟩
      | false =>
        rw [hq] at hcall
        have HC := Lib.hid hcall
        have HQ := Lib.hid hq
        clear hcall hq
        go_wp2_with (go_at_fn g; refine HC.out.mono ?_; rintro e w1 ⟨rfl, hb'⟩)
        go_roundw
        case rel => exact ⟨k + 1, HK.out, by go_num, Lib.hid (fun j hj => by
          by_cases e : j = k
          · subst e; rw [HY.out]; exact HQ.out
          · exact HX.out j hj e), hb'⟩
        case measure => have := HK.out; simp [intOf]; omega
    · have he : k = l.length := by omega
      have i1 : (l.length : Int) ≤ k := by omega
      have hm := firstI_miss p l (fun j hj => hno.out j (by omega))
      have HM := Lib.hid hm
      clear hm hno he
      go_wp2
      go_ret
      exact ⟨by rw [HM.out]; rfl, hb⟩
theorem containsFunc_i (v : Value) (l : List Int) (g : Nat) (lb : Array Value) (p : Int → Bool) (w : World) (eg : ∀ args w, (callFunc g args).run Tryz.prog w = .ok (.enter g args) w) (hv : RdI w v l) (hp : PredI g lb p w) :
    Calls Tryz.prog 74 #[v, .func (.func g) #[] lb] w fun e w' => e = .returned (.bool (l.any p)) ∧ Below w.heap.size w w' := by
  have hc := indexFunc_i v l g lb p w eg hv hp
  rw [← firstI_any]
  have HC := Lib.hid hc
  clear hc hp
  go_enter Tryz.func74, Tryz.ntmps74
  go_wp2_with (go_at_call 105; refine HC.out.mono ?_; rintro e w1 ⟨rfl, hb⟩)
  go_ret
  exact ⟨rfl, hb⟩
theorem eg50 : ∀ args w, (callFunc 75 args).run Tryz.prog w = .ok (.enter 75 args) w := enters_of Tryz.func75 (by kernel_rfl) rfl
theorem within_pred (most : Int) (C : Nat) (w : World) (hC : w.heap[C]? = some (.cells #[.int .i64 most] 3 (0, 0))) : PredI 75 #[.pointer (some ⟨C, 0, none⟩)] (fun n => !win n 0 most) w := fun W x hb => by
  have zC : C < w.heap.size := (Array.getElem?_eq_some_iff.1 hC).1
  have c0 : W.cell? ⟨C, 0, none⟩ = some (.int .i64 most) := by rw [hb.cell (p := ⟨C, 0, none⟩) zC]; exact cell_of_row _ _ _ _ _ _ hC
  show Calls Tryz.prog 75 #[.int .i64 x, .pointer (some ⟨C, 0, none⟩)] W _
  unfold win
  simp only []
  by_cases h1 : x < 0
  · rw [decide_eq_false (by omega : ¬ 0 ≤ x)]
    go_enter Tryz.func75, Tryz.ntmps75
    go_wp2
    go_ret
    exact ⟨rfl, hb⟩
  · have h1' : ¬ x < 0 := h1
    rw [decide_eq_true (by omega : 0 ≤ x)]
    by_cases h2 : most < x
    · rw [decide_eq_false (by omega : ¬ x ≤ most)]
      go_enter Tryz.func75, Tryz.ntmps75
      go_wp2
      go_ret
      exact ⟨rfl, hb⟩
    · rw [decide_eq_true (by omega : x ≤ most)]
      go_enter Tryz.func75, Tryz.ntmps75
      go_wp2
      go_ret
      exact ⟨rfl, hb⟩
theorem within_b (most : Int) (v : Value) (l : List Int) (w : World) (hv : RdI w v l) :
    Calls Tryz.prog 36 #[.int .i64 most, v] w fun e w' => e = .returned (.bool (l.all (fun n => win n 0 most))) ∧ Below w.heap.size w w' := by
  have hmf : ∀ (fn : Fn) (first cap : Array Value) (w : World), (Instr.makeFunc fn first cap).run Tryz.prog w = .ok (.func fn first cap) w := fun _ _ _ _ => rfl
  have hc := containsFunc_i v l 75 #[.pointer (some ⟨w.heap.size, 0, none⟩)] (fun n => !win n 0 most) (w.alloc (.cells #[.int .i64 most] 3)) eg50 (hv.alloc _) (within_pred most _ _ (heap_alloc_new _ _))
  have e : l.all (fun n => win n 0 most) = !(l.any (fun n => !win n 0 most)) := by
    rw [List.all_eq_not_any_not]
  rw [e]
  generalize l.any (fun n => !win n 0 most) = r at hc ⊢
  have HC := Lib.hid hc
  clear hc e
  go_enter Tryz.func36, Tryz.ntmps36
  go_wp2_with (go_at_call 74; refine HC.out.mono ?_; rintro e w1 ⟨rfl, hb⟩)
  go_ret
  exact ⟨rfl, below1 _ _ hb⟩
theorem win_33 (n hi : Int) (w : World) : Calls Tryz.prog 37 #[.int .i64 n, .int .i64 hi] w fun e w' => e = .returned (.bool (win n 0 hi)) ∧ w' = w := by
  unfold win
  by_cases h1 : 0 ≤ n
  · by_cases h2 : n ≤ hi
    · go_enter Tryz.func37, Tryz.ntmps37
      go_wp2
      go_ret
      simp [h1, h2]
    · go_enter Tryz.func37, Tryz.ntmps37
      go_wp2
      go_ret
      simp [h1, h2]
  · go_enter Tryz.func37, Tryz.ntmps37
    go_wp2
    go_ret
    refine ⟨?_, rfl⟩
    rw [decide_eq_false (by omega : ¬ 0 ≤ n)]
    rfl
end Go.Proofs.YtbpjdfnnlmblaaaGreatDoor
/- Valid backups, both. -/
namespace Go.Proofs.YtbpjdfnnlmblaaaGreatDoor
open Go.RowKit Go.Shelf
set_option linter.unusedSimpArgs false
set_option linter.unusedVariables false
def okB (l : List K) (i : Nat) : Bool := validK (keyAt l i) && decide (lastId l i < (keyAt l i).id) && decide ((keyAt l i).id ≤ 2147483647)
def headB (b : BK) (l : List K) : Bool := win b.ep 0 2147483647 && win b.num 0 2147483647 && win b.fw 0 2147483647 && win b.tm 0 1099511627776 && decide (1 ≤ b.mo.length) && decide (b.mo.length ≤ 12) && decide (l.length ≤ 4096)
def validB (b : BK) (l : List K) : Bool := headB b l && (List.range l.length).all (okB l)
theorem okB_four (l : List K) (i : Nat) : (okB l i = false ∧ validK (keyAt l i) = false) ∨ (okB l i = false ∧ validK (keyAt l i) = true ∧ (keyAt l i).id ≤ lastId l i) ∨
    (okB l i = false ∧ validK (keyAt l i) = true ∧ ¬ (keyAt l i).id ≤ lastId l i ∧ 2147483647 < (keyAt l i).id) ∨
    (okB l i = true ∧ validK (keyAt l i) = true ∧ ¬ (keyAt l i).id ≤ lastId l i ∧ ¬ 2147483647 < (keyAt l i).id) := by
  unfold okB
  by_cases h0 : validK (keyAt l i) = true
  · by_cases h1 : (keyAt l i).id ≤ lastId l i
    · exact .inr (.inl ⟨by rw [decide_eq_false (by omega : ¬ lastId l i < (keyAt l i).id)]; simp, h0, h1⟩)
    · by_cases h2 : 2147483647 < (keyAt l i).id
      · exact .inr (.inr (.inl ⟨by rw [decide_eq_false (by omega : ¬ (keyAt l i).id ≤ 2147483647)]; simp, h0, h1, h2⟩))
      · exact .inr (.inr (.inr ⟨by rw [h0, decide_eq_true (by omega : lastId l i < (keyAt l i).id), decide_eq_true (by omega : (keyAt l i).id ≤ 2147483647)]; rfl, h0, h1, h2⟩))
  · have h0' : validK (keyAt l i) = false := by simpa using h0
    exact .inl ⟨by rw [h0']; rfl, h0'⟩
theorem allB_false (l : List K) (i : Nat) (hi : i < l.length) (h : okB l i = false) : (List.range l.length).all (okB l) = false := by
  rw [List.all_eq_false]
  exact ⟨i, List.mem_range.2 hi, by rw [h]; decide⟩
theorem allB_true (l : List K) (h : ∀ j, j < l.length → okB l j = true) : (List.range l.length).all (okB l) = true :=
  List.all_eq_true.2 (fun i hi => h i (List.mem_range.1 hi))
theorem headB_parts (b : BK) (l : List K) :
    (headB b l = true ∧ win b.ep 0 2147483647 = true ∧ win b.num 0 2147483647 = true ∧ win b.fw 0 2147483647 = true ∧ win b.tm 0 1099511627776 = true ∧ ¬ (b.mo.length : Int) < 1 ∧ ¬ 12 < (b.mo.length : Int) ∧ ¬ 4096 < (l.length : Int)) ∨
    (headB b l = false ∧ win b.ep 0 2147483647 = false) ∨
    (headB b l = false ∧ win b.ep 0 2147483647 = true ∧ win b.num 0 2147483647 = false) ∨
    (headB b l = false ∧ win b.ep 0 2147483647 = true ∧ win b.num 0 2147483647 = true ∧ win b.fw 0 2147483647 = false) ∨
    (headB b l = false ∧ win b.ep 0 2147483647 = true ∧ win b.num 0 2147483647 = true ∧ win b.fw 0 2147483647 = true ∧ win b.tm 0 1099511627776 = false) ∨
    (headB b l = false ∧ win b.ep 0 2147483647 = true ∧ win b.num 0 2147483647 = true ∧ win b.fw 0 2147483647 = true ∧ win b.tm 0 1099511627776 = true ∧ (b.mo.length : Int) < 1) ∨
    (headB b l = false ∧ win b.ep 0 2147483647 = true ∧ win b.num 0 2147483647 = true ∧ win b.fw 0 2147483647 = true ∧ win b.tm 0 1099511627776 = true ∧ ¬ (b.mo.length : Int) < 1 ∧ 12 < (b.mo.length : Int)) ∨
    (headB b l = false ∧ win b.ep 0 2147483647 = true ∧ win b.num 0 2147483647 = true ∧ win b.fw 0 2147483647 = true ∧ win b.tm 0 1099511627776 = true ∧ ¬ (b.mo.length : Int) < 1 ∧ ¬ 12 < (b.mo.length : Int) ∧ 4096 < (l.length : Int)) := by
  unfold headB
  cases h1 : win b.ep 0 2147483647
  · simp
  cases h2 : win b.num 0 2147483647
  · simp
  cases h3 : win b.fw 0 2147483647
  · simp
  cases h4 : win b.tm 0 1099511627776
  · simp
  by_cases h5 : (b.mo.length : Int) < 1
  · have : ¬ 1 ≤ b.mo.length := by omega
    simp [h5, this]
  by_cases h6 : 12 < (b.mo.length : Int)
  · have : ¬ b.mo.length ≤ 12 := by omega
    simp [h5, h6, this]
  by_cases h7 : 4096 < (l.length : Int)
  · have : ¬ l.length ≤ 4096 := by omega
    simp [h5, h6, h7, this]
  have a5 : 1 ≤ b.mo.length := by omega
  have a6 : b.mo.length ≤ 12 := by omega
  have a7 : l.length ≤ 4096 := by omega
  simp [h5, h6, h7, a5, a6, a7]
attribute [local irreducible] Calls alikeK twinId twinIs validB okB validK lastId win headB
set_option maxRecDepth 100000 in
set_option maxHeartbeats 4000000 in
theorem validB_r (b : BK) (u : Value) (l : List K) (w : World) (hv : RdK w u l) :
    Calls Tryz.prog 14 #[.agg (bc b u)] w fun e w' => e = .returned (.bool (validB b l)) ∧ Below w.heap.size w w' := by
  have hlen := hv.len
  unfold maxLen at hlen
  obtain ⟨W0, hW0⟩ : ∃ W0, W0 = w.alloc (.cells (bc b u) 26) := ⟨_, rfl⟩
  have hvw : RdK W0 u l := by rw [hW0]; exact hv.alloc _
  have hbx : ∀ w1, Below W0.heap.size W0 w1 → w1.cell? ⟨w.heap.size, 37, none⟩ = some u := by
    intro w1 h
    rw [hW0] at h
    rw [boxed1 _ _ _ h 37]
    exact bc_37 b u
  have hbe : ∀ w1, Below W0.heap.size W0 w1 → Below w.heap.size w w1 := by
    intro w1 h
    rw [hW0] at h
    exact below1 _ _ h
  have hsz : w.heap.size < W0.heap.size := by rw [hW0]; simp
  have HV := Lib.hid hvw
  have HBX := Lib.hid hbx
  have HBE := Lib.hid hbe
  have HW := Lib.hid hW0
  have hve : validB b l = (headB b l && (List.range l.length).all (okB l)) := by unfold validB; rfl
  rw [hve]
  obtain ⟨a, cap, rfl, _, _, _⟩ := hv
  clear hW0 hvw hbx hbe hve
  rcases headB_parts b l with ⟨hh, f1, f2, f3, f4, f5, f6, f7⟩ | ⟨hh, f1⟩ | ⟨hh, f1, f2⟩ | ⟨hh, f1, f2, f3⟩ | ⟨hh, f1, f2, f3, f4⟩ | ⟨hh, f1, f2, f3, f4, f5⟩ | ⟨hh, f1, f2, f3, f4, f5, f6⟩ | ⟨hh, f1, f2, f3, f4, f5, f6, f7⟩
  case inl =>
    rw [hh, Bool.true_and]
    have HT0 := Lib.hid (fun i hi h => allB_false l i hi h)
    have HT1 := Lib.hid (allB_true l)
    clear hh
    go_enter Tryz.func14, Tryz.ntmps14
    go_wp2_with (go_at_call 37; refine (win_33 _ _ _).mono ?_; rintro e wf ⟨rfl, hwf⟩; rw [hwf]; clear hwf)
    go_loopw [3, 4] (fun la o wr => ∃ i : Nat, i ≤ l.length ∧ o = .int .i64 i ∧ la = .int .i64 (lastId l i) ∧ Hid (∀ j, j < i → okB l j = true) ∧ Below W0.heap.size W0 wr) (fun _ o _ => l.length - (intOf o).toNat)
    case atStart => exact ⟨0, Nat.zero_le _, rfl, by rw [lastId_zero], Lib.hid (fun j hj => absurd hj (by omega)), by rw [← HW.out]; exact Below.refl _ _⟩
    case round =>
      obtain ⟨i, hi, rfl, rfl, hno, hb⟩ := hrel
      have t1 := HBX.out wr hb
      have hbs := hb.size
      by_cases hlt : i < l.length
      · obtain ⟨bb, off, rfl, hbl, hrow⟩ := ((HV.out.on hb).cells) (by omega)
        obtain ⟨d0, d1, d2, d3, d4, d5, d6, d7, d8⟩ := hrow i hlt
        have i1 : (i : Int) < l.length := by omega
        have HK := Lib.hid hlt
        have HNO := hno
        have HB := Lib.hid hb
        have hval := valid_ref (keyAt l i) wr
        have hbx2 : ∀ w1, Below wr.heap.size wr w1 → w1.cell? ⟨bb, off + i * 9, none⟩ = some (.int .i64 (keyAt l i).id) ∧ w1.cell? ⟨w.heap.size, 37, none⟩ = some (.slice (some ⟨bb, off, none⟩) l.length cap) ∧ Below W0.heap.size W0 w1 := by
          intro w1 h
          have h2 := HB.out.trans (h.mono hbs)
          exact ⟨by rw [h.cell (p := ⟨bb, off + i * 9, none⟩) hbl]; exact d0, HBX.out _ h2, h2⟩
        unfold kv kc at hval
        have HLS := Lib.hid (lastId_succ l i)
        have HX2 := Lib.hid hbx2
        clear hrow hb hno hbx2
        rcases okB_four l i with ⟨ho, h1⟩ | ⟨ho, h1, h2⟩ | ⟨ho, h1, h2, h3⟩ | ⟨ho, h1, h2, h3⟩
        case inr.inr.inr =>
          rw [h1] at hval
          have HVAL := Lib.hid hval
          have HO := Lib.hid ho
          clear hval h1 ho
          go_wp2_with (go_at_call 38; refine HVAL.out.mono ?_; rintro e w1 ⟨rfl, hb'⟩; obtain ⟨e0, n0, hbb⟩ := HX2.out _ hb'; clear hb')
          go_roundw
          case rel => exact ⟨i + 1, HK.out, by go_num, by rw [HLS.out], Lib.hid (fun j hj => by
            by_cases e : j = i
            · subst e; exact HO.out
            · exact HNO.out j (by omega)), hbb⟩
          case measure => have := HK.out; simp [intOf]; omega
        all_goals
          have HRES := Lib.hid (HT0.out i HK.out ho)
          rw [h1] at hval
          have HVAL := Lib.hid hval
          clear hval h1 ho
          go_wp2_with (go_at_call 38; refine HVAL.out.mono ?_; rintro e w1 ⟨rfl, hb'⟩; obtain ⟨e0, n0, hbb⟩ := HX2.out _ hb'; clear hb')
          go_ret
          exact ⟨by rw [HRES.out]; rfl, HBE.out _ hbb⟩
      · have he : i = l.length := by omega
        have i1 : (l.length : Int) ≤ i := by omega
        have HRES := Lib.hid (HT1.out (fun j hj => hno.out j (by omega)))
        clear hno he
        go_wp2
        go_ret
        exact ⟨by rw [HRES.out]; rfl, HBE.out _ hb⟩
  all_goals
    rw [hh, Bool.false_and]
    clear hh
    go_enter Tryz.func14, Tryz.ntmps14
    go_wp2_with (go_at_call 37; refine (win_33 _ _ _).mono ?_; rintro e wf ⟨rfl, hwf⟩; rw [hwf]; clear hwf)
    go_ret
    exact ⟨rfl, HBE.out _ (by rw [← HW.out]; exact Below.refl _ _)⟩
end Go.Proofs.YtbpjdfnnlmblaaaGreatDoor
