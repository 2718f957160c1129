/- The program's weights. -/
import Derived.Test.YtbkkffdgkkcbfabFieldK
import Derived.Test.YtbkkffdgkkcbfabOwnRow
namespace Go.Proofs.Ytbkkffdgkkcbfab
open Go.RowKit F6
set_option linter.unusedSimpArgs false
set_option linter.unusedVariables false
/-- the first k weights, then zeros -/
def wpart (xs : List UInt8) (x : UInt8) (k : Nat) : List UInt8 := wts xs x k ++ List.replicate (xs.length - k) 0
theorem wpart_zero (xs : List UInt8) (x : UInt8) : wpart xs x 0 = List.replicate xs.length 0 := by simp [wpart, wts]
theorem wpart_all (xs : List UInt8) (x : UInt8) : wpart xs x xs.length = wts xs x xs.length := by simp [wpart]
theorem wpart_len (xs : List UInt8) (x : UInt8) (k : Nat) (h : k ≤ xs.length) : (wpart xs x k).length = xs.length := by simp [wpart, wts_len]; omega
theorem wpart_set (xs : List UInt8) (x : UInt8) (k : Nat) (h : k < xs.length) : (wpart xs x k).set k (wt xs x k) = wpart xs x (k + 1) := by
  have e : xs.length - k = (xs.length - (k + 1)) + 1 := by omega
  rw [wpart, e, List.replicate_succ, List.set_append]
  simp [wts_len, wpart, wts_succ]
theorem box_keep {w w1 : World} {v : Value} {T : TypeId} (hb : Below (w.alloc (.cells #[v] T)).heap.size (w.alloc (.cells #[v] T)) w1) : w1.cell? ⟨w.heap.size, 0, none⟩ = some v := by
  rw [hb.cell (p := ⟨w.heap.size, 0, none⟩) (by simp), cell_of_row _ _ _ _ _ _ (heap_alloc_new _ _)]
  rfl
attribute [local irreducible] mul ev pp wt wts wpart
theorem hcell_of {w : World} {b off n cap : Nat} {l : List UInt8} (h : RdB w (.slice (some ⟨b, off, none⟩) n cap) l) (i : Nat) (hi : i < l.length) : w.cell? ⟨b, off + i, none⟩ = some (.int .u8 (B8 (byteAt l i))) := by
  obtain ⟨a, c, e, _, _, hc⟩ := h
  obtain ⟨b2, off2, rfl, _, hc⟩ := hc (by omega)
  simp only [Value.slice.injEq, Option.some.injEq, Addr.mk.injEq, and_true] at e
  obtain ⟨⟨rfl, rfl⟩, _, _⟩ := e
  exact hc i hi
set_option maxRecDepth 100000 in
set_option maxHeartbeats 1000000 in
theorem weights_c (v : Value) (xs : List UInt8) (x : UInt8) (w : World) (hv : RdB w v xs) (hok : okX xs = true) :
    Calls Try.prog 17 #[v, .int .u8 (B8 x)] w fun e w' => ∃ u, e = .returned (.tuple #[u, .int .i64 0]) ∧ OwnB w' w.heap.size u (wts xs x xs.length) ∧ Below w.heap.size w w' := by
  obtain ⟨hnd, hl1, hl2⟩ := okX_nodup hok
  have HND := Lib.hid hnd
  have hmf : ∀ (fn : Fn) (first cap : Array Value) (w : World), (Instr.makeFunc fn first cap).run Try.prog w = .ok (.func fn first cap) w := fun _ _ _ _ => rfl
  have hv2 : RdB (w.alloc (.cells #[v] 30)) v xs := hv.keep ((Below.refl _ _).alloc (Nat.le_refl _) _) (Nat.le_refl _)
  have HV := Lib.hid hv2
  have hdist := fun w' hv => distinct_c v xs w' hv
  rw [hok] at hdist
  have HD := Lib.hid hdist
  clear hok hnd hdist hv2
  obtain ⟨a, cap, rfl, hl, hcap, hcells⟩ := hv
  unfold maxLen at hcap
  obtain ⟨b, off, rfl, hbl, hc⟩ := hcells (by omega)
  clear hcells
  go_enter Try.func17, Try.ntmps17
  go_wp2_with (first
    | (go_at_call 27; refine (HD.out _ HV.out).mono ?_; rintro e w1 ⟨rfl, hb1⟩; have hbox := box_keep hb1)
    | (at_make; refine mk_full rfl _ _ rfl xs.length rfl rfl ?hm1 ?hm2))
  case hm1 => omega
  case hm2 =>
    intro w2 hat hb2
    have hbox2 : w2.cell? ⟨w.heap.size, 0, none⟩ = some (.slice (some ⟨b, off, none⟩) xs.length cap) := by
      rw [hb2.cell (p := ⟨w.heap.size, 0, none⟩) (World.block_lt_of_cell? _ _ hbox)]; exact hbox
    go_wp2
    have hvr2 : ∀ w3, Below w1.heap.size w2 w3 → RdB w3 (.slice (some ⟨b, off, none⟩) xs.length cap) xs := by
      intro w3 hb3
      have h1 := (HV.out.keep hb1 (Nat.le_refl _)).keep hb2 (Nat.le_refl _)
      refine ⟨_, cap, rfl, hl, by unfold maxLen; omega, fun _ => ⟨b, off, rfl, ?_, ?_⟩⟩
      · have h4 := hb1.size
        have h5 := hb2.size
        have h6 := hb3.size
        simp only [World.size_alloc] at h4
        show b < w3.heap.size
        omega
      · intro i hi
        have hb1s := hb1.size
        simp only [World.size_alloc] at hb1s
        rw [hb3.cell (p := ⟨b, off + i, none⟩) (by show b < _; omega), hb2.cell (p := ⟨b, off + i, none⟩) (by show b < _; omega), hb1.cell (p := ⟨b, off + i, none⟩) (by show b < _; simp; omega)]
        rw [((Below.refl w.heap.size w).alloc (Nat.le_refl _) (.cells #[.slice (some ⟨b, off, none⟩) xs.length cap] 30)).cell (p := ⟨b, off + i, none⟩) hbl]
        exact hc i hi
    have hbw : Below w.heap.size w w2 := ((Below.refl _ _).alloc (Nat.le_refl _) _).trans ((hb1.mono (by simp)).trans (hb2.mono (by have := hb1.size; simp only [World.size_alloc] at this; omega)))
    have hs1 : w.heap.size < w1.heap.size := World.block_lt_of_cell? _ _ hbox
    have HH := Lib.hid hvr2
    clear hvr2
    go_loopw [19] (fun i wr => ∃ k : Nat, k ≤ xs.length ∧ i = .int .i64 k ∧ BAt wr w1.heap.size (wpart xs x k) ∧ Below w1.heap.size w2 wr) (fun i _ => xs.length - (intOf i).toNat)
    case atStart => exact ⟨0, Nat.zero_le _, rfl, by rw [wpart_zero]; exact hat, Below.refl _ _⟩
    case round =>
      clear hat
      obtain ⟨k, hk, rfl, hat, hb⟩ := hrel
      have hwl := wpart_len xs x k hk
      by_cases hlt : k < xs.length
      · have hvr := HH.out wr hb
        have hboxr : wr.cell? ⟨w.heap.size, 0, none⟩ = some (.slice (some ⟨b, off, none⟩) xs.length cap) := by
          rw [hb.cell (p := ⟨w.heap.size, 0, none⟩) hs1]; exact hbox2
        have cx := hcell_of hvr k hlt
        have hne := pp_ne xs k HND.out hlt
        have hpw := pp_wt xs k x
        have hst := wpart_set xs x k hlt
        have i1 : (k : Int) < xs.length := by omega
        have HK := Lib.hid hlt
        have HP := Lib.hid hpw
        have HS := Lib.hid hst
        have HVR := Lib.hid hvr
        have hz := hat.lt
        clear hpw hst hvr
        go_wp2_with (first
          | (go_at_call 28; refine (prod_c _ _ xs k _ _ hboxr HVR.out HK.out).mono ?_; rintro e _ ⟨rfl, rfl⟩)
          | (go_at_call 11; refine (div_c _ _ hne _).mono ?_; rintro e w4 ⟨rfl, hb4⟩; rw [HP.out]; have hat4 := hat.keep hb4 hz; have c4 := hat4.at k (by rw [hwl]; exact HK.out); have f4 := hat4.free k))
        go_roundw
        case rel => exact ⟨k + 1, HK.out, by go_num, by rw [← HS.out]; exact hat4.set k _, (hb.trans (hb4.mono (by omega))).setCell (Nat.le_refl _) _⟩
        case measure => have := HK.out; simp [intOf]; omega
      · have he : k = xs.length := by omega
        have HE := Lib.hid he
        have i1 : (xs.length : Int) ≤ k := by omega
        have ho := hat.own (base := w.heap.size) (by omega) (by rw [hwl]; unfold maxLen; omega)
        rw [hwl] at ho
        clear he
        go_wp2
        go_ret2
        refine ⟨_, rfl, ?_, hbw.trans (hb.mono (by omega))⟩
        have ho2 := ho
        rw [HE.out, wpart_all] at ho2
        rw [HE.out]
        exact ho2
end Go.Proofs.Ytbkkffdgkkcbfab
