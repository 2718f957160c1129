/- The authentication code of a text. -/
import Derived.Test.YtackbjbmadkkhaaDoorHashJ
import Derived.Test.YtackbjbmadkkhaaDoorRegRel
import Derived.Lib.ConvBytes
import Derived.Laws.AppendOwn
namespace Go.Proofs.YtackbjbmadkkhaaDoor
open Go.RowKit
set_option linter.unusedSimpArgs false
set_option linter.unusedVariables false
theorem conv_sb (w : World) (l : List UInt8) : (convert 9 35 (.string ⟨l.toArray⟩)).run Tryd.prog w = .ok (.slice (some ⟨w.heap.size, 0, none⟩) l.length (grownCap w l.length 0 5)) (Lib.bytesWorld w 5 ⟨l.toArray⟩) :=
  Lib.run_convert_string_bytes w _ _ _ _ Tryd.underlying9 Tryd.underlying35 Tryd.underlying5
theorem sb_below (w : World) (l : List UInt8) : Below w.heap.size w (Lib.bytesWorld w 5 ⟨l.toArray⟩) :=
  ⟨rfl, rfl, rfl, by rw [Lib.bytesWorld_size]; omega, fun k hk => Lib.bytesWorld_at_old _ _ _ _ hk⟩
theorem sb_rd (w : World) (l : List UInt8) (hl : l.length ≤ maxLen) : RdE eB (Lib.bytesWorld w 5 ⟨l.toArray⟩) (.slice (some ⟨w.heap.size, 0, none⟩) l.length (grownCap w l.length 0 5)) l := by
  refine ⟨_, _, rfl, grownCap_ge _ _ _ _, grownCap_le_maxLen _ _ _ _ hl, fun _ => ⟨w.heap.size, 0, rfl, by rw [Lib.bytesWorld_size]; omega, fun j u hu => ?_⟩⟩
  rw [flat_b] at hu
  have hj : j < l.length := by have := (List.getElem?_eq_some_iff.1 hu).1; rwa [bcs_len] at this
  rw [Nat.zero_add, Lib.bytesWorld_cell _ _ _ _ hj, ← hu]
  simp [bcs, B8, hj]
/-- the boxed key, cut to its hash if it is long -/
structure MW (w : World) (k : List UInt8) (wr : World) : Prop where
  c : wr.cell? ⟨w.heap.size, 0, none⟩ = some (.string ⟨(shortK k).toArray⟩)
  k : KAt wr
  below : Below w.heap.size w wr
theorem MW.later {w wr : World} {k : List UInt8} (h : MW w k wr) (hl : w.heap.size < wr.heap.size) (u : Later wr) : MW w k u.now :=
  ⟨by rw [u.below.cell (p := ⟨w.heap.size, 0, none⟩) hl]; exact h.c, h.k.later u, h.below.trans (u.below.mono h.below.size)⟩
theorem MW.lt {w wr : World} {k : List UInt8} (h : MW w k wr) : w.heap.size < wr.heap.size := by
  have hc := h.c
  unfold World.cell? at hc
  cases hb : wr.heap[w.heap.size]? with
  | none => simp [hb] at hc
  | some o => exact (Array.getElem?_eq_some_iff.1 hb).1
theorem MW.on {w wr w' : World} {k : List UInt8} (h : MW w k wr) (hb : Below wr.heap.size wr w') : MW w k w' := h.later h.lt ⟨w', hb⟩
theorem mw_set {w we : World} {k l : List UInt8} {x : Value} (hs : shortK k = l) (he : we.heap[w.heap.size]? = some (.cells #[x] 9 (0, 0))) (hk : KAt we) (hb : Below w.heap.size w we) : MW w k (we.setCell ⟨w.heap.size, 0, none⟩ (.string ⟨l.toArray⟩)) := by
  have h1 : (1 : Nat) ≠ w.heap.size := by
    intro e
    have h := hk
    unfold KAt at h
    obtain ⟨t, h⟩ := h
    rw [e, he] at h
    simp only [Option.some.injEq, Obj.cells.injEq] at h
    have hsz := congrArg Array.size h.1
    rw [row_size, KK_len] at hsz
    simp at hsz
  rw [setCell_rowC _ _ _ _ _ _ _ he]
  exact ⟨by rw [cell_of_row _ _ _ _ _ _ (setRow_heap _ _ _ _ _ _ he), hs]; rfl, by unfold KAt; rw [setRow_else _ _ _ _ h1]; exact hk, hb.trans (below_row (Nat.le_refl _))⟩
attribute [local irreducible] Calls brow stv sha
set_option maxRecDepth 100000 in
set_option maxHeartbeats 2000000 in
theorem mac_c (k t : List UInt8) (w : World) (hk : KAt w) (hl : k.length ≤ 1000000000) (ht : t.length ≤ 1000000000) :
    Calls Tryd.prog 17 #[.string ⟨k.toArray⟩, .string ⟨t.toArray⟩] w fun e w' => e = .returned (.string ⟨(mac k t).toArray⟩) ∧ Below w.heap.size w w' := by
  have hz := zero_32
  have hmf : ∀ (fn : Fn) (first cap : Array Value) (w : World), (Instr.makeFunc fn first cap).run Tryd.prog w = .ok (.func fn first cap) w := fun _ _ _ _ => rfl
  have HL := Lib.hid hl
  have HT := Lib.hid ht
  have HA : Hid ((w.alloc (.cells #[.string ⟨k.toArray⟩] 9)).heap[w.heap.size]? = some (.cells #[.string ⟨k.toArray⟩] 9 (0, 0))) := Lib.hid (heap_last _ _ _ rfl)
  have hca : (w.alloc (.cells #[.string ⟨k.toArray⟩] 9)).cell? ⟨w.heap.size, 0, none⟩ = some (.string ⟨k.toArray⟩) := cell_of_row _ _ _ _ _ _ HA.out
  have HKA : Hid (KAt (w.alloc (.cells #[.string ⟨k.toArray⟩] 9))) := Lib.hid (hk.alloc _)
  have HBA : Hid (Below w.heap.size w (w.alloc (.cells #[.string ⟨k.toArray⟩] 9))) := Lib.hid ((Below.refl _ _).alloc (Nat.le_refl _) _)
  clear hl ht hk
  go_enter Tryd.func17, Tryd.ntmps17
  go_upto_region 1 with fail
  generalize w.alloc (.cells #[.string ⟨k.toArray⟩] 9) = wa at HA hca HKA HBA ⊢
  go_upto_if 11 with fail
  go_cut [5, 11] from 12 to 16 (fun _ _ wc => Hid (MW w k wc))
  case first =>
    by_cases h64 : k.length ≤ 64
    · have i1 : ¬ (64 : Int) < k.length := by omega
      have hs : shortK k = k := by unfold shortK; rw [if_pos h64]
      go_wp2
      all_goals go_meet
      case rel => exact Lib.hid ⟨by rw [hs]; exact hca, HKA.out, HBA.out⟩
    · have i1 : (64 : Int) < k.length := by omega
      have HS : Hid (shortK k = sha k) := Lib.hid (by unfold shortK; rw [if_neg h64])
      have hcv := conv_sb wa k
      have HSB := Lib.hid (sb_below wa k)
      have HRD := Lib.hid (sb_rd wa k (by have := HL.out; unfold maxLen; omega))
      generalize Lib.bytesWorld wa 5 ⟨k.toArray⟩ = ws at hcv HSB HRD
      go_wp2_with (first
        | (go_at_call 31; refine (hsum_c _ k _ HRD.out (HKA.out.on HSB.out) (by have := HL.out; omega)).mono ?_; rintro e w1 ⟨rfl, hb1⟩; have HB1 := Lib.hid ((HSB.out).trans (hb1.mono HSB.out.size)); clear hb1)
        | (refine st_T (T := 56) (brow (sha k)) (size32 _ (sha_len k)) rfl (.tmp 5) (.tmp 14) rfl w1.heap.size (brow z32) rfl rfl (brow_one _) (by rw [brow_size, brow_size, sha_len]; rfl) (heap_last _ _ _ rfl) ?_; intro we hge hoe hbe; have HB2 : Hid (Below wa.heap.size wa we) := (Lib.hid (HB1.out.trans ((((Below.refl _ _).alloc (Nat.le_refl _) _).trans (hbe _ (Nat.le_refl _))).mono HB1.out.size))); have hcv2 := conv_e (row_rd hge (by rw [sha_len]; omega)); rw [sha_len] at hcv2; have HE : Hid (we.heap[w.heap.size]? = some (.cells #[.string ⟨k.toArray⟩] 9 (0, 0))) := (Lib.hid (by rw [HB2.out.block _ (Array.getElem?_eq_some_iff.1 HA.out).1]; exact HA.out)); have hce := cell_of_row _ _ 0 _ _ _ HE.out; have hfe := frozen_of_row _ _ 0 _ _ HE.out; clear hge hoe hbe))
      go_meet
      case rel => exact Lib.hid (mw_set HS.out HE.out (HKA.out.on HB2.out) (HBA.out.trans (HB2.out.mono HBA.out.size)))
  case rest =>
    have hcc := hcut.out.c
    have HPL : Hid ((shortK k).length ≤ 64) := Lib.hid (by unfold shortK; split; assumption; rw [sha_len]; omega)
    have HPI : Hid (padK (shortK k) 54 ++ t = padK (shortK k) 54 ++ t) := Lib.hid rfl
    clear hca
    go_upto_region 6 with (first
      | (go_at_call 33; refine (begin_s _).mono ?_; rintro e w1 ⟨rfl, hb1⟩; have H1 := Lib.hid (hcut.out.on hb1); clear hb1)
      | (go_at_call 32; refine (padded_c (shortK k) 54 w.heap.size _ H1.out.c HPL.out).mono ?_; rintro e w2 ⟨rfl, hb2⟩; have H2 := Lib.hid (H1.out.on hb2); clear hb2)
      | (go_at_call 34; refine (add_s [] (padK (shortK k) 54) _ H2.out.k (by rw [padK_len]; decide)).mono ?_; rintro e w3 ⟨rfl, hb3⟩; have H3 := Lib.hid (H2.out.on hb3); clear hb3; rw [List.nil_append])
      | (go_at_call 34; refine (add_s (padK (shortK k) 54) t _ H3.out.k (by rw [padK_len]; have := HT.out; omega)).mono ?_; rintro e w4 ⟨rfl, hb4⟩; have H4 := Lib.hid (H3.out.on hb4); clear hb4)
      | (go_at_call 35; refine (sum_s (padK (shortK k) 54 ++ t) _ H4.out.k (by rw [List.length_append, padK_len]; have := HT.out; omega)).mono ?_; rintro e w5 ⟨rfl, hb5⟩; have H5 := Lib.hid (H4.out.on hb5); clear hb5; generalize hinn : sha (padK (shortK k) 54 ++ t) = inn; have HIN := Lib.hid hinn; have HIL : Hid (inn.length = 32) := (Lib.hid (by rw [← hinn]; exact sha_len _)); clear hinn)
      | (refine st_T (T := 56) (brow inn) (size32 _ HIL.out) rfl (.tmp 7) (.tmp 24) rfl w5.heap.size (brow z32) rfl rfl (brow_one _) (by rw [brow_size, brow_size, HIL.out]; rfl) (heap_last _ _ _ rfl) ?_; intro w6 hg6 ho6 hb6; have H6 := Lib.hid (H5.out.on (((Below.refl _ _).alloc (Nat.le_refl _) _).trans (hb6 _ (Nat.le_refl _)))); have HG6 := Lib.hid hg6; clear hg6 ho6 hb6))
    have HPL2 : Hid ((padK (shortK k) 92).length = 64) := Lib.hid (padK_len _ _)
    try dsimp only [Act.put]
    refine region_rel 9 [[], [], [0, 1], [0, 2], [], [4], [3, 5], [6], []] (SP.of [.eq (stv []), .eq (.func (.func 32) #[] #[.pointer (some ⟨w.heap.size, 0, none⟩)]), .eq (.string ⟨(padK (shortK k) 92).toArray⟩), .eq (stv (padK (shortK k) 92)), .eq (.slice (some ⟨w5.heap.size, 0, none⟩) 32 32), .eq (.string ⟨inn.toArray⟩), .eq (stv (padK (shortK k) 92 ++ inn)), .eq (.agg (brow (sha (padK (shortK k) 92 ++ inn)))), .fresh w.heap.size (brow z32) 56]) (fun _ => undef) ?h1 ?h2 ?h3 ?h4 ?h5 ?h6
    case h1 => kernel_rfl
    case h2 => kernel_rfl
    case h3 => kernel_rfl
    case h4 =>
      simp only [List.take_succ_cons, List.take_zero]
      repeat (first | exact trivial | refine ⟨fun vals v => by kernel_rfl, ?_⟩)
    case h5 =>
      simp only [List.take_succ_cons, List.take_zero]
      refine ⟨?_, ?_, ?_, ?_, ?_, ?_, ?_, ?_, ?_, trivial⟩
      all_goals (intro wq hbq vals; simp only [given, SP.of, Nat.reduceAdd, Nat.zero_add, List.getD_cons_succ, List.getD_cons_zero]; intro Q hQ; simp only [putAll, upd, Act.put, List.setIfInBounds_toArray, List.set_cons_zero, List.set_cons_succ, Nat.reduceAdd, Nat.zero_add, Nat.reduceEqDiff, if_true, if_false, reduceIte]; have HM := Lib.hid (H6.out.on hbq); have HBQ := Lib.hid hbq; clear hbq)
      · go_wp2_with (go_at_call 33; refine (begin_s _).mono ?_; rintro e x1 ⟨rfl, hx1⟩)
        exact relEnd_fin hQ _ (by kernel_rfl) hx1 rfl
      · go_wp2
        exact relEnd_fin hQ _ (by kernel_rfl) (Below.refl _ _) rfl
      · go_wp2_with (go_at_call 32; refine (padded_c (shortK k) 92 w.heap.size _ HM.out.c HPL.out).mono ?_; rintro e x1 ⟨rfl, hx1⟩)
        exact relEnd_fin hQ _ (by kernel_rfl) hx1 rfl
      · go_wp2_with (go_at_call 34; refine (add_s [] (padK (shortK k) 92) _ HM.out.k (by rw [padK_len]; decide)).mono ?_; rintro e x1 ⟨rfl, hx1⟩)
        exact relEnd_fin hQ _ (by kernel_rfl) hx1 rfl
      · go_wp2
        exact relEnd_fin hQ _ (by kernel_rfl) (Below.refl _ _) rfl
      · have hcv := conv_e (row_rd (w := wq) (g := w5.heap.size) (l := inn) (T := 56) (by rw [HBQ.out.block _ (Array.getElem?_eq_some_iff.1 HG6.out).1]; exact HG6.out) (by rw [HIL.out]; omega))
        rw [HIL.out] at hcv
        go_wp2
        exact relEnd_fin hQ _ (by kernel_rfl) (Below.refl _ _) rfl
      · go_wp2_with (go_at_call 34; refine (add_s (padK (shortK k) 92) inn _ HM.out.k (by rw [padK_len, HIL.out]; decide)).mono ?_; rintro e x1 ⟨rfl, hx1⟩)
        exact relEnd_fin hQ _ (by kernel_rfl) hx1 rfl
      · go_wp2_with (go_at_call 35; refine (sum_s (padK (shortK k) 92 ++ inn) _ HM.out.k (by rw [List.length_append, padK_len, HIL.out]; decide)).mono ?_; rintro e x1 ⟨rfl, hx1⟩)
        exact relEnd_fin hQ _ (by kernel_rfl) hx1 rfl
      · go_wp2
        exact relEnd_fin hQ _ (by kernel_rfl) ((Below.refl _ _).alloc (Nat.le_refl _) _) ⟨wq.heap.size, rfl, HM.out.below.size, heap_last _ _ _ rfl⟩
    case h6 =>
      intro wq hbq vals
      show given _ _ _ [0, 1, 2, 3, 4, 5, 6, 7, 8] _
      simp only [given, SP.of, SP.fresh, List.getD_cons_succ, List.getD_cons_zero]
      rintro _ ⟨g, rfl, hg1, hg2⟩
      simp only [List.take_succ_cons, List.take_zero, List.drop_succ_cons, List.drop_zero]
      simp only [putAll, upd, Act.put, List.setIfInBounds_toArray, List.set_cons_zero, List.set_cons_succ, Nat.reduceAdd, Nat.zero_add, Nat.reduceEqDiff, if_true, if_false, reduceIte]
      have HM := Lib.hid (H6.out.on hbq)
      have HG1 := Lib.hid hg1
      have HG2 := Lib.hid hg2
      clear hbq hg1 hg2
      have HMC : Hid (sha (padK (shortK k) 92 ++ inn) = mac k t) := Lib.hid (by rw [← HIN.out]; rfl)
      rw [HMC.out]
      have HML : Hid ((mac k t).length = 32) := Lib.hid (mac_len k t)
      generalize mac k t = mk at HMC HML ⊢
      have HME : Hid (mac k t = mk) := Lib.hid (by rw [← HMC.out, ← HIN.out]; rfl)
      go_wp2_with (refine st_T (T := 56) (brow mk) (size32 _ HML.out) rfl (.tmp 8) (.tmp 32) rfl g (brow z32) rfl rfl (brow_one _) (by rw [brow_size, brow_size, HML.out]; rfl) HG2.out ?_; intro w9 hg9 ho9 hb9; have hcv := conv_e (row_rd hg9 (by rw [HML.out]; omega)); rw [HML.out] at hcv; have HB9 := Lib.hid (HM.out.below.trans (hb9 _ HG1.out)); clear hg9 ho9 hb9)
      go_ret
      exact ⟨by rw [HME.out]; rfl, HB9.out⟩
end Go.Proofs.YtackbjbmadkkhaaDoor
