/- The law BackupMatchesSpec holds for every input: it returns true and leaves its arguments as they were. No condition. -/
import Derived.Test.YtbpjdfnnlmblaaaGreatDoorMA17
import Derived.Test.YtbpjdfnnlmblaaaGreatDoorTie
import Derived.Test.YtbpjdfnnlmblaaaGreatDoorCards
import Derived.SevenTiedAt
namespace Go.Proofs.YtbpjdfnnlmblaaaGreatDoor
open Go.ChangeShapes Go.WideShapes Go.ChangeAt Go.RowKit
open Go.ChangeMaps (open_string shut_string)
set_option linter.unusedSimpArgs false
set_option linter.unusedVariables false
attribute [local irreducible] Calls putAll validB makeX makeE makeP opE opB opK sameB fewB compB selK startsB headP
set_option maxRecDepth 100000 in
set_option maxHeartbeats 8000000 in
theorem backupMatchesSpec_walk (a0 : ByteArray) (b1 : BK) (u1 : Value) (a1 : List K) (b2 : BK) (u2 : Value) (a2 : List K) (n3 : Int) (u3 : Value) (a3 : List K) (a4 : Int) (w : World) (w0 : a0.size ≤ maxLen) (x1 : b1.mach) (w1 : RdK w u1 a1) (f1 : numK a1) (x2 : b2.mach) (w2 : RdK w u2 a2) (f2 : numK a2) (x3 : (Lit.int .i64 n3).wf = true) (w3 : RdK w u3 a3) (f3 : numK a3) (w4 : (Lit.int .i64 a4).wf = true) (htab : K0At w ∧ KAt w) :
    Calls Tryz.prog 3 #[.string a0, .agg (bc b1 u1), .agg (bc b2 u2), .agg #[.int .i64 n3, u3], .int .i64 a4] w fun e w' => e = .returned (.bool true) ∧ Below w.heap.size w w' := by
  obtain ⟨dk, rfl⟩ := str_of a0
  obtain ⟨ta, tc, rfl, _, _, _⟩ := id w3
  obtain ⟨W0, hW0⟩ : ∃ W0, W0 = ((w.alloc (.cells (bc b1 u1) 26)).alloc (.cells (bc b2 u2) 26)).alloc (.cells #[.int .i64 n3, .slice ta a3.length tc] 28) := ⟨_, rfl⟩
  have HW := Lib.hid hW0
  have HBX : Hid (∀ y, Below W0.heap.size W0 y → MS36 w b1 u1 a1 b2 u2 a2 n3 (.slice ta a3.length tc) a3 y) := Lib.hid (by rw [hW0]; exact MS36.start w1 w2 w3 htab.1 htab.2)
  have HB : Hid (Below W0.heap.size W0 W0) := Lib.hid (Below.refl _ _)
  have HS := Lib.hid (fun (y : World) (a : KAt y) => sanity36_c y a)
  have HF1 := Lib.hid (fun (y : World) (h : RdK y u1 a1) => few36_c b1 u1 a1 y h)
  have HF2 := Lib.hid (fun (y : World) (h : RdK y u2 a2) => few36_c b2 u2 a2 y h)
  clear hW0 htab w0 w1 w2 w3
  have tok1 : True := trivial
  have tok2 : True := trivial
  cases hf : fewB b1 a1 with
  | false =>
    rw [hf] at HF1
    go_enter Tryz.func3, Tryz.ntmps3
    go_upto_region 1 with fail
    rw [← HW.out]
    go_wp2_with (first
      | (clear tok1; go_at_call 6; refine (HF1.out _ (HBX.out _ HB.out).k1).mono ?_; rintro e y1 ⟨rfl, hb⟩; replace HB := Lib.hid (HB.out.trans (hb.mono HB.out.size)); clear hb)
      | (refine ld_bk b1 _ rfl (.tmp 6) rfl _ rfl _ (HBX.out _ HB.out).r1 ?_)
      | (go_at_call 7; refine (HS.out _ (HBX.out _ HB.out).k).mono ?_; rintro e ys ⟨rfl, hb⟩; replace HB := Lib.hid (HB.out.trans (hb.mono HB.out.size)); clear hb))
    go_ret
    exact ⟨rfl, (HBX.out _ HB.out).bel⟩
  | true =>
    rw [hf] at HF1
    obtain ⟨l1, m1⟩ := fewB_parts hf
    clear hf
    cases hf2 : fewB b2 a2 with
    | false =>
      rw [hf2] at HF2
      go_enter Tryz.func3, Tryz.ntmps3
      go_upto_region 1 with fail
      rw [← HW.out]
      go_wp2_with (first
        | (clear tok1; go_at_call 6; refine (HF1.out _ (HBX.out _ HB.out).k1).mono ?_; rintro e y1 ⟨rfl, hb⟩; replace HB := Lib.hid (HB.out.trans (hb.mono HB.out.size)); clear hb)
        | (refine ld_bk b1 _ rfl (.tmp 6) rfl _ rfl _ (HBX.out _ HB.out).r1 ?_)
        | (clear tok2; go_at_call 6; refine (HF2.out _ (HBX.out _ HB.out).k2).mono ?_; rintro e y1 ⟨rfl, hb⟩; replace HB := Lib.hid (HB.out.trans (hb.mono HB.out.size)); clear hb)
        | (refine ld_bk b2 _ rfl (.tmp 7) rfl _ rfl _ (HBX.out _ HB.out).r2 ?_)
        | (go_at_call 7; refine (HS.out _ (HBX.out _ HB.out).k).mono ?_; rintro e ys ⟨rfl, hb⟩; replace HB := Lib.hid (HB.out.trans (hb.mono HB.out.size)); clear hb))
      go_ret
      exact ⟨rfl, (HBX.out _ HB.out).bel⟩
    | true =>
      rw [hf2] at HF2
      obtain ⟨l2, m2⟩ := fewB_parts hf2
      clear hf2
      rcases Nat.lt_or_ge 40 a3.length with hl | hl
      · have i1 : (40 : Int) < (a3.length : Int) := by omega
        clear hl
        go_enter Tryz.func3, Tryz.ntmps3
        go_upto_region 1 with fail
        rw [← HW.out]
        go_wp2_with (first
          | (clear tok1; go_at_call 6; refine (HF1.out _ (HBX.out _ HB.out).k1).mono ?_; rintro e y1 ⟨rfl, hb⟩; replace HB := Lib.hid (HB.out.trans (hb.mono HB.out.size)); clear hb)
          | (refine ld_bk b1 _ rfl (.tmp 6) rfl _ rfl _ (HBX.out _ HB.out).r1 ?_)
          | (clear tok2; go_at_call 6; refine (HF2.out _ (HBX.out _ HB.out).k2).mono ?_; rintro e y2 ⟨rfl, hb⟩; replace HB := Lib.hid (HB.out.trans (hb.mono HB.out.size)); clear hb; have t1 : y2.cell? ⟨w.heap.size + 1 + 1, 1, none⟩ = some (.slice ta a3.length tc) := cell_of_row _ _ _ _ _ _ (HBX.out _ HB.out).r3)
          | (refine ld_bk b2 _ rfl (.tmp 7) rfl _ rfl _ (HBX.out _ HB.out).r2 ?_)
          | (go_at_call 7; refine (HS.out _ (HBX.out _ HB.out).k).mono ?_; rintro e ys ⟨rfl, hb⟩; replace HB := Lib.hid (HB.out.trans (hb.mono HB.out.size)); clear hb))
        go_ret
        exact ⟨rfl, (HBX.out _ HB.out).bel⟩
      have i1 : ¬ (40 : Int) < (a3.length : Int) := by omega
      rcases Nat.lt_or_ge 100 dk.length with hd | hd
      · have i2 : (100 : Int) < (dk.length : Int) := by omega
        clear hl hd
        go_enter Tryz.func3, Tryz.ntmps3
        go_upto_region 1 with fail
        rw [← HW.out]
        go_wp2_with (first
          | (clear tok1; go_at_call 6; refine (HF1.out _ (HBX.out _ HB.out).k1).mono ?_; rintro e y1 ⟨rfl, hb⟩; replace HB := Lib.hid (HB.out.trans (hb.mono HB.out.size)); clear hb)
          | (refine ld_bk b1 _ rfl (.tmp 6) rfl _ rfl _ (HBX.out _ HB.out).r1 ?_)
          | (clear tok2; go_at_call 6; refine (HF2.out _ (HBX.out _ HB.out).k2).mono ?_; rintro e y2 ⟨rfl, hb⟩; replace HB := Lib.hid (HB.out.trans (hb.mono HB.out.size)); clear hb; have t1 : y2.cell? ⟨w.heap.size + 1 + 1, 1, none⟩ = some (.slice ta a3.length tc) := cell_of_row _ _ _ _ _ _ (HBX.out _ HB.out).r3)
          | (refine ld_bk b2 _ rfl (.tmp 7) rfl _ rfl _ (HBX.out _ HB.out).r2 ?_)
          | (go_at_call 7; refine (HS.out _ (HBX.out _ HB.out).k).mono ?_; rintro e ys ⟨rfl, hb⟩; replace HB := Lib.hid (HB.out.trans (hb.mono HB.out.size)); clear hb))
        go_ret
        exact ⟨rfl, (HBX.out _ HB.out).bel⟩
      have i2 : ¬ (100 : Int) < (dk.length : Int) := by omega
      have HMK := Lib.hid (fun (y : World) (a : KAt y) (h : RdK y u1 a1) => make_t dk b1 u1 a1 y a h x1 f1)
      have HMR := Lib.hid (fun (y : World) (a : K0At y) (h : RdK y u1 a1) => make_r dk b1 u1 a1 y a h x1 f1 (by omega))
      have HSC := Lib.hid (fun (y : World) (h : RdK y (.slice ta a3.length tc) a3) => select_c n3 a4 (.slice ta a3.length tc) a3 y h (by omega))
      have HSR := Lib.hid (fun (y : World) (h : RdK y (.slice ta a3.length tc) a3) => select_r n3 a4 (.slice ta a3.length tc) a3 y h (by omega))
      have HVC := Lib.hid (fun (y : World) (h : RdK y u1 a1) => validB_c b1 u1 a1 y h f1.wf x1.mo)
      have HVR := Lib.hid (fun (y : World) (h : RdK y u1 a1) => validB_r b1 u1 a1 y h)
      have HXC := Lib.hid (fun (y : World) (h : RdK y u1 a1) (h2 : RdK y u2 a2) => same_c b1 b2 u1 u2 a1 a2 y h h2 (x1.wf (by omega)) (x2.wf (by omega)))
      have HXR := Lib.hid (fun (y : World) (h : RdK y u1 a1) (h2 : RdK y u2 a2) => same_r b1 b2 u1 u2 a1 a2 y h h2)
      rw [sameP_eq b1 b2 a1 a2 x1 x2 (by omega) (by omega)] at HXC
      have HHC := Lib.hid (fun (y : World) => header_c b1 u1 y (x1.wf (by omega)))
      have HHR := Lib.hid (fun (y : World) => header_r b1 u1 y (x1.wf (by omega)) (by omega))
      have HCC := Lib.hid (fun (y : World) (h : RdK y (.slice ta a3.length tc) a3) (h2 : RdK y u1 a1) => complete_c n3 a4 (.slice ta a3.length tc) u1 a3 a1 b1 y h h2 (by omega))
      have HCR := Lib.hid (fun (y : World) (h : RdK y (.slice ta a3.length tc) a3) (h2 : RdK y u1 a1) => complete_r n3 a4 (.slice ta a3.length tc) u1 a3 a1 b1 y h h2 (by omega))
      have HSZ := Lib.hid (fun (v u : Value) (l : List K) (y : World) (h1 : RdK y v l) (h2 : RdK y u l) => by have h := same_r zB zB v u l l y h1 h2; rw [sameB_refl] at h; exact h)
      generalize makeX dk b1 a1 = mx at HMK HMR
      generalize makeE dk b1 a1 = me at HMK HMR
      generalize validB b1 a1 = vb at HVC HVR
      generalize sameB b1 a1 b2 a2 = sb at HXC HXR
      generalize headP b1 = hp at HHC HHR
      generalize compB a1 a3 a4 = cb at HCC HCR
      generalize selK a4 a3 = sl at HSC HSR
      clear hl hd l1 m1 l2 m2 x1 f1 x2 f2 f3 x3 w4
      go_enter Tryz.func3, Tryz.ntmps3
      go_upto_region 1 with fail
      rw [← HW.out]
      go_upto_region 8 with (first
        | (clear tok1; go_at_call 6; refine (HF1.out _ (HBX.out _ HB.out).k1).mono ?_; rintro e y1 ⟨rfl, hb⟩; replace HB := Lib.hid (HB.out.trans (hb.mono HB.out.size)); clear hb)
        | (refine ld_bk b1 _ rfl (.tmp 6) rfl _ rfl _ (HBX.out _ HB.out).r1 ?_)
        | (clear tok2; go_at_call 6; refine (HF2.out _ (HBX.out _ HB.out).k2).mono ?_; rintro e y2 ⟨rfl, hb⟩; replace HB := Lib.hid (HB.out.trans (hb.mono HB.out.size)); clear hb; have t0 : y2.cell? ⟨w.heap.size + 1 + 1, 0, none⟩ = some (.int .i64 n3) := cell_of_row _ _ _ _ _ _ (HBX.out _ HB.out).r3; have t1 : y2.cell? ⟨w.heap.size + 1 + 1, 1, none⟩ = some (.slice ta a3.length tc) := cell_of_row _ _ _ _ _ _ (HBX.out _ HB.out).r3)
        | (refine ld_bk b2 _ rfl (.tmp 7) rfl _ rfl _ (HBX.out _ HB.out).r2 ?_)
        | (go_at_call 8; refine (HMK.out _ (HBX.out _ HB.out).k (HBX.out _ HB.out).k1).mono ?_; rintro e y3 ⟨rfl, hb⟩; replace HB := Lib.hid (HB.out.trans (hb.mono HB.out.size)); clear hb; clear t0 t1)
        | (go_at_call 9; refine (HMR.out _ (HBX.out _ HB.out).k0 (HBX.out _ HB.out).k1).mono ?_; rintro e y4 ⟨rfl, hb⟩; replace HB := Lib.hid (HB.out.trans (hb.mono HB.out.size)); clear hb; have t0 : y4.cell? ⟨w.heap.size + 1 + 1, 0, none⟩ = some (.int .i64 n3) := cell_of_row _ _ _ _ _ _ (HBX.out _ HB.out).r3; have t1 : y4.cell? ⟨w.heap.size + 1 + 1, 1, none⟩ = some (.slice ta a3.length tc) := cell_of_row _ _ _ _ _ _ (HBX.out _ HB.out).r3)
        | (go_at_call 10; refine (HSC.out _ (HBX.out _ HB.out).k3).mono ?_; rintro e y5 ⟨v5, rfl, hr5, hb⟩; replace HB := Lib.hid (HB.out.trans (hb.mono HB.out.size)); clear hb; obtain ⟨s1, s2, rfl, _, _, _⟩ := id hr5; have HR5 := Lib.hid hr5; clear t0 t1 hr5; have t0 : y5.cell? ⟨w.heap.size + 1 + 1, 0, none⟩ = some (.int .i64 n3) := cell_of_row _ _ _ _ _ _ (HBX.out _ HB.out).r3; have t1 : y5.cell? ⟨w.heap.size + 1 + 1, 1, none⟩ = some (.slice ta a3.length tc) := cell_of_row _ _ _ _ _ _ (HBX.out _ HB.out).r3)
        | (go_at_call 11; refine (HSR.out _ (HBX.out _ HB.out).k3).mono ?_; rintro e y6 ⟨v6, rfl, hr6, hb⟩; replace HR5 := Lib.hid (HR5.out.on hb); replace HB := Lib.hid (HB.out.trans (hb.mono HB.out.size)); clear hb; obtain ⟨s3, s4, rfl, _, _, _⟩ := id hr6; have HR6 := Lib.hid hr6; clear t0 t1 hr6)
        | (refine bld_zk s1 sl.length s2 rfl (.tmp 56) rfl rfl ?_)
        | (refine bld_zk s3 sl.length s4 rfl (.tmp 58) rfl rfl ?_)
        | (go_at_call 12; refine (HSZ.out _ _ _ _ HR5.out HR6.out).mono ?_; rintro e y7 ⟨rfl, hb⟩; replace HB := Lib.hid (HB.out.trans (hb.mono HB.out.size)); clear hb; clear HR5 HR6))
      have hs1 := str_self mx
      have hs2 := str_self hp
      have e1 := beq_self_eq_true me
      have e2 := beq_self_eq_true vb
      have e3 := beq_self_eq_true sb
      have e4 := beq_self_eq_true cb
      have HQX : Hid (∀ u : Later y7, MS36 w b1 u1 a1 b2 u2 a2 n3 (.slice ta a3.length tc) a3 u.now) := Lib.hid (fun u => HBX.out _ (HB.out.trans (u.below.mono HB.out.size)))
      obtain ⟨t0, t1⟩ : y7.cell? ⟨w.heap.size + 1 + 1, 0, none⟩ = some (.int .i64 n3) ∧ y7.cell? ⟨w.heap.size + 1 + 1, 1, none⟩ = some (.slice ta a3.length tc) := ⟨cell_of_row _ _ _ _ _ _ (HBX.out _ HB.out).r3, cell_of_row _ _ _ _ _ _ (HBX.out _ HB.out).r3⟩
      have hlt3 : w.heap.size + 1 + 1 < y7.heap.size := (Array.getElem?_eq_some_iff.1 (HBX.out _ HB.out).r3).1
      refine allL (by kernel_rfl) (by kernel_rfl) ?_
      try simp only [List.append_eq, List.cons_append, List.nil_append]
      repeat (first
        | (refine qq_row rfl 26 (.tmp 6) rfl w.heap.size 0 rfl (bc b1 u1) (fun w' ⟨u, e⟩ => by rw [e]; exact run_bkrow _ _ _ _ _ (HQX.out u).r1) ?_; simp only [Act.put, List.setIfInBounds_toArray, List.set_cons_zero, List.set_cons_succ])
        | (refine qq_row rfl 26 (.tmp 7) rfl (w.heap.size + 1) 0 rfl (bc b2 u2) (fun w' ⟨u, e⟩ => by rw [e]; exact run_bkrow _ _ _ _ _ (HQX.out u).r2) ?_; simp only [Act.put, List.setIfInBounds_toArray, List.set_cons_zero, List.set_cons_succ])
        | go_big_quiet_step ((first
          | (go_at_call 7; exact Later.call _ (HS.out _ (HQX.out _).k))
          | (go_at_call 13; exact Later.call _ (HVC.out _ (HQX.out _).k1))
          | (go_at_call 14; exact Later.call _ (HVR.out _ (HQX.out _).k1))
          | (go_at_call 15; exact Later.call _ (HXC.out _ (HQX.out _).k1 (HQX.out _).k2))
          | (go_at_call 12; exact Later.call _ (HXR.out _ (HQX.out _).k1 (HQX.out _).k2))
          | (go_at_call 16; exact Later.call _ (HHC.out _))
          | (go_at_call 17; exact Later.call _ (HHR.out _))
          | (go_at_call 18; exact Later.call _ (HCC.out _ (HQX.out _).k3 (HQX.out _).k1))
          | (go_at_call 19; exact Later.call _ (HCR.out _ (HQX.out _).k3 (HQX.out _).k1)))))
      refine wpQuiet_nil ?_
      rintro _ ⟨u, rfl⟩
      go_wp2
      go_ret
      exact ⟨rfl, (HQX.out u).bel⟩
set_option maxRecDepth 100000 in
theorem backupMatchesSpec_lifted (os : Os) (started : os.Started) (H : Type) (enc : TypeId × Value → H) :
    ReturnsInHanded {} Tryz.checked os 3 .any (fun w args => (Rows.backupMatchesSpecSpec.pre enc Tryz.prog Tryz.f3 [] false w args ∧ laidMetH Tryz.prog laidL2 w) ∧ sizedMet enc Tryz.prog Tryz.f3 (OpenSpec.ofChange Rows.backupMatchesSpecSpec) false w args) (Rows.backupMatchesSpecSpec.post enc Tryz.prog Tryz.f3 false true false false) := by
  refine returnsInHanded_of_change_and (C := Tryz.checked) (X := fun w _ => laidMetH Tryz.prog laidL2 w) (fun _ _ _ hh h => h.of_heap hh) Tryz.own started (by kernel_rfl) Tryz.func3
    (ChangeSpec.witness_shaped (enc := enc) (C := Tryz.checked) (os := os) (X := fun w _ => laidMetH Tryz.prog laidL2 w) false (World.doorLaid Tryz.prog 154 os) #[.string ByteArray.empty, .agg #[.int .u8 0, .int .u8 0, .int .u8 0, .int .u8 0, .int .u8 0, .int .u8 0, .int .u8 0, .int .u8 0, .int .u8 0, .int .u8 0, .int .u8 0, .int .u8 0, .int .u8 0, .int .u8 0, .int .u8 0, .int .u8 0, .int .i64 0, .int .i64 0, .int .i64 0, .int .i64 0, .int .u8 0, .int .u8 0, .int .u8 0, .int .u8 0, .int .u8 0, .int .u8 0, .int .u8 0, .int .u8 0, .int .u8 0, .int .u8 0, .int .u8 0, .int .u8 0, .int .u8 0, .int .u8 0, .int .u8 0, .int .u8 0, .string ByteArray.empty, .slice none 0 0], .agg #[.int .u8 0, .int .u8 0, .int .u8 0, .int .u8 0, .int .u8 0, .int .u8 0, .int .u8 0, .int .u8 0, .int .u8 0, .int .u8 0, .int .u8 0, .int .u8 0, .int .u8 0, .int .u8 0, .int .u8 0, .int .u8 0, .int .i64 0, .int .i64 0, .int .i64 0, .int .i64 0, .int .u8 0, .int .u8 0, .int .u8 0, .int .u8 0, .int .u8 0, .int .u8 0, .int .u8 0, .int .u8 0, .int .u8 0, .int .u8 0, .int .u8 0, .int .u8 0, .int .u8 0, .int .u8 0, .int .u8 0, .int .u8 0, .string ByteArray.empty, .slice none 0 0], .agg #[.int .i64 0, .slice none 0 0], .int .i64 0] 8 rfl (World.shaped_of_RefB (by kernel_rfl) (by kernel_rfl)) (by kernel_rfl) (by kernel_rfl) (by kernel_rfl) (door2_met os _)) ?_
  intro W base args ds gs before hval0 hW _ hwt hL _
  have hval : ∀ (j : Nat) t v, Tryz.f3.params[j]? = some t → args[j]? = some v → Value.okWide Tryz.prog W .any base t v := hval0
  have hW' := hW
  obtain ⟨p, q, hA0, hV, rfl, hfz, hnd⟩ := hW
  have hA : DataW.TrodAll enc Tryz.prog W 0 (fun _ => true) true Tryz.f3.params.toList args.toList ds p := hA0
  rw [Tryz.params3] at hA hval
  obtain ⟨v0, vs0, d0, ds0, p0, q0, hargs, rfl, rfl, h0, r0⟩ := trodAll_cons hA
  obtain ⟨v1, vs1, d1, ds1, p1, q1, rfl, rfl, rfl, h1, r1⟩ := trodAll_cons r0
  obtain ⟨v2, vs2, d2, ds2, p2, q2, rfl, rfl, rfl, h2, r2⟩ := trodAll_cons r1
  obtain ⟨v3, vs3, d3, ds3, p3, q3, rfl, rfl, rfl, h3, r3⟩ := trodAll_cons r2
  obtain ⟨v4, vs4, d4, ds4, p4, q4, rfl, rfl, rfl, h4, r4⟩ := trodAll_cons r3
  obtain ⟨rfl, rfl, rfl⟩ := trodAll_nil r4
  obtain rfl : args = #[v0, v1, v2, v3, v4] := by cases args; simp_all
  obtain ⟨rfl, rfl⟩ := trodVars_none hV
  have k1 := h1
  have lt1 : ∀ x ∈ p1, x.block < W.heap.size := by obtain ⟨m, hm⟩ := k1; exact DataW.trod_lt m _ _ _ hm
  have k2 := h2
  have lt2 : ∀ x ∈ p2, x.block < W.heap.size := by obtain ⟨m, hm⟩ := k2; exact DataW.trod_lt m _ _ _ hm
  have k3 := h3
  have lt3 : ∀ x ∈ p3, x.block < W.heap.size := by obtain ⟨m, hm⟩ := k3; exact DataW.trod_lt m _ _ _ hm
  obtain ⟨a0, rfl, rfl, rfl, w0⟩ := open_string Tryz.underlying9 (hval 0 9 v0 rfl rfl) h0
  obtain ⟨b1, u1, a1, rfl, x1, w1, f1⟩ := topen_bk (hval 1 26 v1 rfl rfl) h1
  obtain ⟨b2, u2, a2, rfl, x2, w2, f2⟩ := topen_bk (hval 2 26 v2 rfl rfl) h2
  obtain ⟨n3, u3, a3, rfl, x3, w3, f3⟩ := topen_t (hval 3 28 v3 rfl rfl) h3
  obtain ⟨a4, rfl, rfl, rfl, w4⟩ := open_int Tryz.underlying3 (hval 4 3 v4 rfl rfl) h4
  have htab := tabs2_at hL
  clear hA0 hval0
  refine (backupMatchesSpec_walk a0 b1 u1 a1 b2 u2 a2 n3 u3 a3 a4 W w0 x1 w1 f1 x2 w2 f2 x3 w3 f3 w4 htab).mono fun e W' ⟨he, bel⟩ => ?_
  subst he
  exact ⟨_, rfl, _, _, _, [], _, [], hW', trodAll_mk1 (shut_bool Tryz.underlying4 _), (trodAll_cons_mk (shut_string Tryz.underlying9 w0) (trodAll_cons_mk (Below.trod Tryz.laidOut (by kernel_rfl) (of_decide_eq_true (by kernel_rfl)) k1 bel lt1) (trodAll_cons_mk (Below.trod Tryz.laidOut (by kernel_rfl) (of_decide_eq_true (by kernel_rfl)) k2 bel lt2) (trodAll_cons_mk (Below.trod Tryz.laidOut (by kernel_rfl) (of_decide_eq_true (by kernel_rfl)) k3 bel lt3) (trodAll_cons_mk (shut_int Tryz.underlying3 w4) trodAll_mk0))))), rfl, bel.frame _, fun h => by cases h⟩
theorem backupMatchesSpec_row : Rows.BackupMatchesSpecSaid :=
  OpenClaim.holds_of_wide 3 Tryz.f3 rfl rfl rfl rfl rfl rfl rfl ⟨rfl, rfl, rfl, rfl, rfl⟩ rfl rfl rfl rfl rfl (by kernel_rfl) Tryz.func3 (by kernel_rfl)
    (of_decide_eq_true (by kernel_rfl)) (by unfold Func.isWrapper; first | (rw [if_pos (by decide +kernel)]; kernel_rfl) | (rw [if_neg (by decide +kernel)]; exact ⟨rfl, rfl⟩))
    (fun os started H enc _ => backupMatchesSpec_lifted os started H enc)
theorem BackupMatchesSpec_proved : Rows.BackupMatchesSpecCardSaid :=
  Claim7.holds_tied_plain_at .later [] [.data, .data] true Rows.backupMatchesSpecCard.stood.harness false
    backupMatchesSpec_row (fun _ h => by cases h) (by kernel_rfl) (fun _ h => by cases h) backupMatchesSpec_row_tie rfl ⟨rfl, rfl⟩ (by kernel_rfl) rfl
    (fun f fn hf hfn => by
      obtain rfl : f = 3 := Option.some.inj ((show Tryz.prog.funcNamed "custody/custodylaw36.BackupMatchesSpec" = some 3 by kernel_rfl).symm.trans hf) |>.symm
      obtain rfl : fn = Tryz.f3 := (Option.some.inj (Tryz.func3.symm.trans hfn)).symm
      exact ⟨by kernel_rfl, fun j t ht => by
        rw [Tryz.params3] at ht
        rcases j with _ | _ | _ | _ | _ | j
        · simp at ht; subst ht; kernel_rfl
        · simp at ht; subst ht; kernel_rfl
        · simp at ht; subst ht; kernel_rfl
        · simp at ht; subst ht; kernel_rfl
        · simp at ht; subst ht; kernel_rfl
        · simp at ht⟩)
    (by kernel_rfl)

end Go.Proofs.YtbpjdfnnlmblaaaGreatDoor
