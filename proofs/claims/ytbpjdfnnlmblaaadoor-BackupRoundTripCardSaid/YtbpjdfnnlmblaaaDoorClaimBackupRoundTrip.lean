/- The law BackupRoundTrip holds for every input: it returns true and leaves its arguments as they were. No condition. -/
import Derived.Test.YtbpjdfnnlmblaaaDoorMA13
import Derived.Test.YtbpjdfnnlmblaaaDoorTie
import Derived.Test.YtbpjdfnnlmblaaaDoorCards
import Derived.SevenTiedAt
namespace Go.Proofs.YtbpjdfnnlmblaaaDoor
open Go.ChangeShapes Go.WideShapes Go.ChangeAt Go.RowKit
open Go.ChangeMaps (open_string shut_string)
set_option linter.unusedSimpArgs false
set_option linter.unusedVariables false
attribute [local irreducible] Calls putAll validB makeX makeE makeP opE opB opK sameB fewB compB selK startsB
set_option maxRecDepth 100000 in
set_option maxHeartbeats 4000000 in
theorem backupRoundTrip_walk (a0 : ByteArray) (b1 : BK) (u1 : Value) (a1 : List K) (a2 : ByteArray) (w : World) (w0 : a0.size ≤ maxLen) (x1 : b1.mach) (w1 : RdK w u1 a1) (f1 : numK a1) (w2 : a2.size ≤ maxLen) (htab : KAt w) :
    Calls Tryd.prog 3 #[.string a0, .agg (bc b1 u1), .string a2] w fun e w' => e = .returned (.bool true) ∧ Below w.heap.size w w' := by
  obtain ⟨dk, rfl⟩ := str_of a0
  obtain ⟨blob, rfl⟩ := str_of a2
  have HK := Lib.hid htab
  obtain ⟨W0, hW0⟩ : ∃ W0, W0 = w.alloc (.cells (bc b1 u1) 26) := ⟨_, rfl⟩
  have HW := Lib.hid hW0
  have hrd := w1
  have HBX : Hid (∀ w1, Below W0.heap.size W0 w1 → w1.heap[w.heap.size]? = some (.cells (bc b1 u1) 26 (0, 0)) ∧ RdK w1 u1 a1 ∧ KAt w1 ∧ Below w.heap.size w w1) := Lib.hid (by
    intro w1 h
    rw [hW0] at h
    have h2 := below1 _ _ h
    exact ⟨by rw [h.block _ (by simp)]; exact heap_alloc_new _ _, hrd.on h2, htab.on h2, h2⟩)
  have HB : Hid (Below W0.heap.size W0 W0) := Lib.hid (Below.refl _ _)
  have HS := Lib.hid (fun (y : World) (a : KAt y) => sanity36_c y a)
  have HFEW := Lib.hid (fun (y : World) (h : RdK y u1 a1) => few36_c b1 u1 a1 y h)
  clear hW0 htab hrd w0 w1 w2
  cases hf : fewB b1 a1 with
  | false =>
    rw [hf] at HFEW
    go_enter Tryd.func3, Tryd.ntmps3
    go_upto_region 1 with fail
    rw [← HW.out]
    go_wp2_with (first
      | (go_at_call 6; refine (HFEW.out _ (HBX.out _ HB.out).2.1).mono ?_; rintro e y1 ⟨rfl, hb⟩; replace HB := Lib.hid (HB.out.trans (hb.mono HB.out.size)); clear hb)
      | (refine ld_bk b1 _ rfl (.tmp 4) rfl _ rfl _ (HBX.out _ HB.out).1 ?_)
      | (go_at_call 7; refine (HS.out _ (HBX.out _ HB.out).2.2.1).mono ?_; rintro e ys ⟨rfl, hb⟩; replace HB := Lib.hid (HB.out.trans (hb.mono HB.out.size)); clear hb))
    go_ret
    exact ⟨rfl, (HBX.out _ HB.out).2.2.2⟩
  | true =>
    rw [hf] at HFEW
    clear hf
    rcases Nat.lt_or_ge 100 dk.length with hd | hd
    · have i1 : (100 : Int) < (dk.length : Int) := by omega
      clear hd
      go_enter Tryd.func3, Tryd.ntmps3
      go_upto_region 1 with fail
      rw [← HW.out]
      go_wp2_with (first
        | (go_at_call 6; refine (HFEW.out _ (HBX.out _ HB.out).2.1).mono ?_; rintro e y1 ⟨rfl, hb⟩; replace HB := Lib.hid (HB.out.trans (hb.mono HB.out.size)); clear hb)
        | (refine ld_bk b1 _ rfl (.tmp 4) rfl _ rfl _ (HBX.out _ HB.out).1 ?_)
        | (go_at_call 7; refine (HS.out _ (HBX.out _ HB.out).2.2.1).mono ?_; rintro e ys ⟨rfl, hb⟩; replace HB := Lib.hid (HB.out.trans (hb.mono HB.out.size)); clear hb))
      go_ret
      exact ⟨rfl, (HBX.out _ HB.out).2.2.2⟩
    have i1 : ¬ (100 : Int) < (dk.length : Int) := by omega
    rcases Nat.lt_or_ge 5000 blob.length with hl | hl
    · have i2 : (5000 : Int) < (blob.length : Int) := by omega
      clear hd hl
      go_enter Tryd.func3, Tryd.ntmps3
      go_upto_region 1 with fail
      rw [← HW.out]
      go_wp2_with (first
        | (go_at_call 6; refine (HFEW.out _ (HBX.out _ HB.out).2.1).mono ?_; rintro e y1 ⟨rfl, hb⟩; replace HB := Lib.hid (HB.out.trans (hb.mono HB.out.size)); clear hb)
        | (refine ld_bk b1 _ rfl (.tmp 4) rfl _ rfl _ (HBX.out _ HB.out).1 ?_)
        | (go_at_call 7; refine (HS.out _ (HBX.out _ HB.out).2.2.1).mono ?_; rintro e ys ⟨rfl, hb⟩; replace HB := Lib.hid (HB.out.trans (hb.mono HB.out.size)); clear hb))
      go_ret
      exact ⟨rfl, (HBX.out _ HB.out).2.2.2⟩
    have i2 : ¬ (5000 : Int) < (blob.length : Int) := by omega
    have HOP := Lib.hid (fun (y : World) (a : KAt y) => bopen_t dk blob y a (by omega))
    have HMK := Lib.hid (fun (y : World) (a : KAt y) (h : RdK y u1 a1) => make_t dk b1 u1 a1 y a h x1 f1)
    have HSR := Lib.hid (fun (v u : Value) (y : World) (h1 : RdK y v a1) (h2 : RdK y u a1) => same_r b1 b1 v u a1 a1 y h1 h2)
    rw [sameB_refl] at HSR
    have HX1 := Lib.hid x1
    have HF1 := Lib.hid f1
    have hstr := str_self blob
    rcases makeE_cases dk b1 a1 with ⟨ho, ex, ee⟩ | ⟨ho, ex, ee⟩
    · have hln := makeP_len dk b1 a1 HX1.out ho
      obtain ⟨r1, r2, r3⟩ := rt_open dk b1 a1 HX1.out HF1.out ho
      have HO1 := Lib.hid (fun (y : World) (a : KAt y) => bopen_t dk (makeP dk b1 a1) y a (by omega))
      rw [r1, r2, r3] at HO1
      rw [ex, ee] at HMK
      generalize makeP dk b1 a1 = s at HMK HO1
      clear ho ex ee hln r1 r2 r3
      by_cases hE : opE dk blob = 0
      · have hm := opB_mach dk blob (by omega) hE
        obtain ⟨m1, m2, _, _, _⟩ := rt_make dk blob hE
        have HM2 := Lib.hid (fun (u : Value) (y : World) (a : KAt y) (h : RdK y u (opK dk blob)) => make_t dk (opB dk blob) u (opK dk blob) y a h hm.1 hm.2)
        have e1 : makeX dk (opB dk blob) (opK dk blob) = blob := by unfold makeX; rw [if_pos m1]; exact m2
        have e2 : makeE dk (opB dk blob) (opK dk blob) = 0 := by unfold makeE; rw [if_pos m1]
        rw [e1, e2] at HM2
        rw [hE] at HOP
        generalize opB dk blob = ob at HOP HM2
        generalize opK dk blob = ok at HOP HM2
        clear hE hm m1 m2 e1 e2 hl hd x1 f1
        go_enter Tryd.func3, Tryd.ntmps3
        go_upto_region 1 with fail
        rw [← HW.out]
        go_upto_region 6 with (first
          | (go_at_call 6; refine (HFEW.out _ (HBX.out _ HB.out).2.1).mono ?_; rintro e y1 ⟨rfl, hb⟩; replace HB := Lib.hid (HB.out.trans (hb.mono HB.out.size)); clear hb)
          | (refine ld_bk b1 _ rfl (.tmp 4) rfl _ rfl _ (HBX.out _ HB.out).1 ?_)
          | (go_at_call 8; refine (HMK.out _ (HBX.out _ HB.out).2.2.1 (HBX.out _ HB.out).2.1).mono ?_; rintro e y2 ⟨rfl, hb⟩; replace HB := Lib.hid (HB.out.trans (hb.mono HB.out.size)); clear hb)
          | (go_at_call 9; refine (HO1.out _ (HBX.out _ HB.out).2.2.1).mono ?_; rintro e y3 ⟨ca, cc, rfl, hr, hb⟩; replace HB := Lib.hid (HB.out.trans (hb.mono HB.out.size)); clear hb; have HRC := Lib.hid hr; clear hr)
          | (refine st_new (bc b1 (.slice ca a1.length cc)) 26 rfl (.tmp 9) (.tmp 42) rfl _ rfl rfl rfl (by rw [bc_size]; exact info_b) (by rw [bc_size]; rfl) (bcone _ _ _ _) ?_))
        have XC : Hid ((y3.alloc (.cells (bc b1 (.slice ca a1.length cc)) 26)).heap[y3.heap.size]? = some (.cells (bc b1 (.slice ca a1.length cc)) 26 (0, 0))) := Lib.hid (heap_alloc_new _ _)
        replace HRC := Lib.hid (HRC.out.alloc (.cells (bc b1 (.slice ca a1.length cc)) 26))
        replace HB := Lib.hid (HB.out.alloc HB.out.size (.cells (bc b1 (.slice ca a1.length cc)) 26))
        go_upto_region 12 with (first
          | (refine ld_bk b1 _ rfl (.tmp 4) rfl _ rfl _ (HBX.out _ HB.out).1 ?_)
          | (refine ld_bk b1 _ rfl (.tmp 9) rfl _ rfl _ XC.out ?_)
          | (go_at_call 10; refine (HSR.out _ _ _ (HBX.out _ HB.out).2.1 HRC.out).mono ?_; rintro e y5 ⟨rfl, hb⟩; replace HB := Lib.hid (HB.out.trans (hb.mono HB.out.size)); clear hb)
          | (go_at_call 9; refine (HOP.out _ (HBX.out _ HB.out).2.2.1).mono ?_; rintro e y6 ⟨da, dc, rfl, hr, hb⟩; replace HB := Lib.hid (HB.out.trans (hb.mono HB.out.size)); clear hb; have HRD := Lib.hid hr; clear hr)
          | (refine st_new (bc ob (.slice da ok.length dc)) 26 rfl (.tmp 12) (.tmp 57) rfl _ rfl rfl rfl (by rw [bc_size]; exact info_b) (by rw [bc_size]; rfl) (bcone _ _ _ _) ?_))
        have XD : Hid ((y6.alloc (.cells (bc ob (.slice da ok.length dc)) 26)).heap[y6.heap.size]? = some (.cells (bc ob (.slice da ok.length dc)) 26 (0, 0))) := Lib.hid (heap_alloc_new _ _)
        replace HRD := Lib.hid (HRD.out.alloc (.cells (bc ob (.slice da ok.length dc)) 26))
        replace HB := Lib.hid (HB.out.alloc HB.out.size (.cells (bc ob (.slice da ok.length dc)) 26))
        go_wp2_with (first
          | (refine ld_bk ob _ rfl (.tmp 12) rfl _ rfl _ XD.out ?_)
          | (go_at_call 8; refine (HM2.out _ _ (HBX.out _ HB.out).2.2.1 HRD.out).mono ?_; rintro e y7 ⟨rfl, hb⟩; replace HB := Lib.hid (HB.out.trans (hb.mono HB.out.size)); clear hb)
          | (go_at_call 7; refine (HS.out _ (HBX.out _ HB.out).2.2.1).mono ?_; rintro e ys ⟨rfl, hb⟩; replace HB := Lib.hid (HB.out.trans (hb.mono HB.out.size)); clear hb))
        go_ret
        exact ⟨rfl, (HBX.out _ HB.out).2.2.2⟩
      · obtain ⟨e1, e2⟩ := opE_no dk blob hE
        rw [e1, e2] at HOP
        have g1 : (opE dk blob != 0) = true := by rw [bne_iff_ne]; exact hE
        have g2 : (opE dk blob == 0) = false := by rw [beq_eq_false_iff_ne]; exact hE
        generalize opE dk blob = oe at HOP g1 g2
        have HSZ := Lib.hid (fun (v u : Value) (y : World) (h1 : RdK y v []) (h2 : RdK y u []) => same_r zB zB v u [] [] y h1 h2)
        rw [sameB_refl] at HSZ
        clear hE e1 e2 hl hd x1 f1
        go_enter Tryd.func3, Tryd.ntmps3
        go_upto_region 1 with fail
        rw [← HW.out]
        go_upto_region 6 with (first
          | (go_at_call 6; refine (HFEW.out _ (HBX.out _ HB.out).2.1).mono ?_; rintro e y1 ⟨rfl, hb⟩; replace HB := Lib.hid (HB.out.trans (hb.mono HB.out.size)); clear hb)
          | (refine ld_bk b1 _ rfl (.tmp 4) rfl _ rfl _ (HBX.out _ HB.out).1 ?_)
          | (go_at_call 8; refine (HMK.out _ (HBX.out _ HB.out).2.2.1 (HBX.out _ HB.out).2.1).mono ?_; rintro e y2 ⟨rfl, hb⟩; replace HB := Lib.hid (HB.out.trans (hb.mono HB.out.size)); clear hb)
          | (go_at_call 9; refine (HO1.out _ (HBX.out _ HB.out).2.2.1).mono ?_; rintro e y3 ⟨ca, cc, rfl, hr, hb⟩; replace HB := Lib.hid (HB.out.trans (hb.mono HB.out.size)); clear hb; have HRC := Lib.hid hr; clear hr)
          | (refine st_new (bc b1 (.slice ca a1.length cc)) 26 rfl (.tmp 9) (.tmp 42) rfl _ rfl rfl rfl (by rw [bc_size]; exact info_b) (by rw [bc_size]; rfl) (bcone _ _ _ _) ?_))
        have XC : Hid ((y3.alloc (.cells (bc b1 (.slice ca a1.length cc)) 26)).heap[y3.heap.size]? = some (.cells (bc b1 (.slice ca a1.length cc)) 26 (0, 0))) := Lib.hid (heap_alloc_new _ _)
        replace HRC := Lib.hid (HRC.out.alloc (.cells (bc b1 (.slice ca a1.length cc)) 26))
        replace HB := Lib.hid (HB.out.alloc HB.out.size (.cells (bc b1 (.slice ca a1.length cc)) 26))
        go_upto_region 11 with (first
          | (refine ld_bk b1 _ rfl (.tmp 4) rfl _ rfl _ (HBX.out _ HB.out).1 ?_)
          | (refine ld_bk b1 _ rfl (.tmp 9) rfl _ rfl _ XC.out ?_)
          | (go_at_call 10; refine (HSR.out _ _ _ (HBX.out _ HB.out).2.1 HRC.out).mono ?_; rintro e y5 ⟨rfl, hb⟩; replace HB := Lib.hid (HB.out.trans (hb.mono HB.out.size)); clear hb)
          | (go_at_call 9; refine (HOP.out _ (HBX.out _ HB.out).2.2.1).mono ?_; rintro e y6 ⟨da, dc, rfl, hr, hb⟩; replace HB := Lib.hid (HB.out.trans (hb.mono HB.out.size)); clear hb; have HRD := Lib.hid hr; clear hr)
          | (refine st_new (bc zB (.slice da 0 dc)) 26 rfl (.tmp 12) (.tmp 57) rfl _ rfl rfl rfl (by rw [bc_size]; exact info_b) (by rw [bc_size]; rfl) (bcone _ _ _ _) ?_))
        have XD : Hid ((y6.alloc (.cells (bc zB (.slice da 0 dc)) 26)).heap[y6.heap.size]? = some (.cells (bc zB (.slice da 0 dc)) 26 (0, 0))) := Lib.hid (heap_alloc_new _ _)
        replace HRD := Lib.hid (HRD.out.alloc (.cells (bc zB (.slice da 0 dc)) 26))
        replace HB := Lib.hid (HB.out.alloc HB.out.size (.cells (bc zB (.slice da 0 dc)) 26))
        go_wp2_with (first
          | (go_at_call 7; refine (HS.out _ (HBX.out _ HB.out).2.2.1).mono ?_; rintro e ys ⟨rfl, hb⟩; replace HB := Lib.hid (HB.out.trans (hb.mono HB.out.size)); replace XD := Lib.hid (row_keep XD.out hb); replace HRD := Lib.hid (HRD.out.on hb); clear hb)
          | (refine ld_bk zB _ rfl (.tmp 12) rfl _ rfl _ XD.out ?_)
          | (refine bld_z rfl rfl ?_)
          | (go_at_call 10; refine (HSZ.out _ _ _ HRD.out (rdK_nil _)).mono ?_; rintro e y8 ⟨rfl, hb⟩; replace HB := Lib.hid (HB.out.trans (hb.mono HB.out.size)); clear hb))
        go_ret
        exact ⟨rfl, (HBX.out _ HB.out).2.2.2⟩
    · rw [ex, ee] at HMK
      clear ho ex ee
      by_cases hE : opE dk blob = 0
      · have hm := opB_mach dk blob (by omega) hE
        obtain ⟨m1, m2, _, _, _⟩ := rt_make dk blob hE
        have HM2 := Lib.hid (fun (u : Value) (y : World) (a : KAt y) (h : RdK y u (opK dk blob)) => make_t dk (opB dk blob) u (opK dk blob) y a h hm.1 hm.2)
        have e1 : makeX dk (opB dk blob) (opK dk blob) = blob := by unfold makeX; rw [if_pos m1]; exact m2
        have e2 : makeE dk (opB dk blob) (opK dk blob) = 0 := by unfold makeE; rw [if_pos m1]
        rw [e1, e2] at HM2
        rw [hE] at HOP
        generalize opB dk blob = ob at HOP HM2
        generalize opK dk blob = ok at HOP HM2
        clear hE hm m1 m2 e1 e2 hl hd x1 f1
        go_enter Tryd.func3, Tryd.ntmps3
        go_upto_region 1 with fail
        rw [← HW.out]
        go_upto_region 12 with (first
          | (go_at_call 6; refine (HFEW.out _ (HBX.out _ HB.out).2.1).mono ?_; rintro e y1 ⟨rfl, hb⟩; replace HB := Lib.hid (HB.out.trans (hb.mono HB.out.size)); clear hb)
          | (refine ld_bk b1 _ rfl (.tmp 4) rfl _ rfl _ (HBX.out _ HB.out).1 ?_)
          | (go_at_call 8; refine (HMK.out _ (HBX.out _ HB.out).2.2.1 (HBX.out _ HB.out).2.1).mono ?_; rintro e y2 ⟨rfl, hb⟩; replace HB := Lib.hid (HB.out.trans (hb.mono HB.out.size)); clear hb)
          | (go_at_call 9; refine (HOP.out _ (HBX.out _ HB.out).2.2.1).mono ?_; rintro e y6 ⟨da, dc, rfl, hr, hb⟩; replace HB := Lib.hid (HB.out.trans (hb.mono HB.out.size)); clear hb; have HRD := Lib.hid hr; clear hr)
          | (refine st_new (bc ob (.slice da ok.length dc)) 26 rfl (.tmp 12) (.tmp 57) rfl _ rfl rfl rfl (by rw [bc_size]; exact info_b) (by rw [bc_size]; rfl) (bcone _ _ _ _) ?_))
        have XD : Hid ((y6.alloc (.cells (bc ob (.slice da ok.length dc)) 26)).heap[y6.heap.size]? = some (.cells (bc ob (.slice da ok.length dc)) 26 (0, 0))) := Lib.hid (heap_alloc_new _ _)
        replace HRD := Lib.hid (HRD.out.alloc (.cells (bc ob (.slice da ok.length dc)) 26))
        replace HB := Lib.hid (HB.out.alloc HB.out.size (.cells (bc ob (.slice da ok.length dc)) 26))
        go_wp2_with (first
          | (refine ld_bk ob _ rfl (.tmp 12) rfl _ rfl _ XD.out ?_)
          | (go_at_call 8; refine (HM2.out _ _ (HBX.out _ HB.out).2.2.1 HRD.out).mono ?_; rintro e y7 ⟨rfl, hb⟩; replace HB := Lib.hid (HB.out.trans (hb.mono HB.out.size)); clear hb)
          | (go_at_call 7; refine (HS.out _ (HBX.out _ HB.out).2.2.1).mono ?_; rintro e ys ⟨rfl, hb⟩; replace HB := Lib.hid (HB.out.trans (hb.mono HB.out.size)); clear hb))
        go_ret
        exact ⟨rfl, (HBX.out _ HB.out).2.2.2⟩
      · obtain ⟨e1, e2⟩ := opE_no dk blob hE
        rw [e1, e2] at HOP
        have g1 : (opE dk blob != 0) = true := by rw [bne_iff_ne]; exact hE
        have g2 : (opE dk blob == 0) = false := by rw [beq_eq_false_iff_ne]; exact hE
        generalize opE dk blob = oe at HOP g1 g2
        have HSZ := Lib.hid (fun (v u : Value) (y : World) (h1 : RdK y v []) (h2 : RdK y u []) => same_r zB zB v u [] [] y h1 h2)
        rw [sameB_refl] at HSZ
        clear hE e1 e2 hl hd x1 f1
        go_enter Tryd.func3, Tryd.ntmps3
        go_upto_region 1 with fail
        rw [← HW.out]
        go_upto_region 11 with (first
          | (go_at_call 6; refine (HFEW.out _ (HBX.out _ HB.out).2.1).mono ?_; rintro e y1 ⟨rfl, hb⟩; replace HB := Lib.hid (HB.out.trans (hb.mono HB.out.size)); clear hb)
          | (refine ld_bk b1 _ rfl (.tmp 4) rfl _ rfl _ (HBX.out _ HB.out).1 ?_)
          | (go_at_call 8; refine (HMK.out _ (HBX.out _ HB.out).2.2.1 (HBX.out _ HB.out).2.1).mono ?_; rintro e y2 ⟨rfl, hb⟩; replace HB := Lib.hid (HB.out.trans (hb.mono HB.out.size)); clear hb)
          | (go_at_call 9; refine (HOP.out _ (HBX.out _ HB.out).2.2.1).mono ?_; rintro e y6 ⟨da, dc, rfl, hr, hb⟩; replace HB := Lib.hid (HB.out.trans (hb.mono HB.out.size)); clear hb; have HRD := Lib.hid hr; clear hr)
          | (refine st_new (bc zB (.slice da 0 dc)) 26 rfl (.tmp 12) (.tmp 57) rfl _ rfl rfl rfl (by rw [bc_size]; exact info_b) (by rw [bc_size]; rfl) (bcone _ _ _ _) ?_))
        have XD : Hid ((y6.alloc (.cells (bc zB (.slice da 0 dc)) 26)).heap[y6.heap.size]? = some (.cells (bc zB (.slice da 0 dc)) 26 (0, 0))) := Lib.hid (heap_alloc_new _ _)
        replace HRD := Lib.hid (HRD.out.alloc (.cells (bc zB (.slice da 0 dc)) 26))
        replace HB := Lib.hid (HB.out.alloc HB.out.size (.cells (bc zB (.slice da 0 dc)) 26))
        go_wp2_with (first
          | (go_at_call 7; refine (HS.out _ (HBX.out _ HB.out).2.2.1).mono ?_; rintro e ys ⟨rfl, hb⟩; replace HB := Lib.hid (HB.out.trans (hb.mono HB.out.size)); replace XD := Lib.hid (row_keep XD.out hb); replace HRD := Lib.hid (HRD.out.on hb); clear hb)
          | (refine ld_bk zB _ rfl (.tmp 12) rfl _ rfl _ XD.out ?_)
          | (refine bld_z rfl rfl ?_)
          | (go_at_call 10; refine (HSZ.out _ _ _ HRD.out (rdK_nil _)).mono ?_; rintro e y8 ⟨rfl, hb⟩; replace HB := Lib.hid (HB.out.trans (hb.mono HB.out.size)); clear hb))
        go_ret
        exact ⟨rfl, (HBX.out _ HB.out).2.2.2⟩
set_option maxRecDepth 100000 in
theorem backupRoundTrip_lifted (os : Os) (started : os.Started) (H : Type) (enc : TypeId × Value → H) :
    ReturnsInHanded {} Tryd.checked os 3 .any (fun w args => (Rows.backupRoundTripSpec.pre enc Tryd.prog Tryd.f3 [] false w args ∧ laidMetH Tryd.prog laidL w) ∧ sizedMet enc Tryd.prog Tryd.f3 (OpenSpec.ofChange Rows.backupRoundTripSpec) false w args) (Rows.backupRoundTripSpec.post enc Tryd.prog Tryd.f3 false true false false) := by
  refine returnsInHanded_of_change_and (C := Tryd.checked) (X := fun w _ => laidMetH Tryd.prog laidL w) (fun _ _ _ hh h => h.of_heap hh) Tryd.own started (by kernel_rfl) Tryd.func3
    (ChangeSpec.witness_shaped (enc := enc) (C := Tryd.checked) (os := os) (X := fun w _ => laidMetH Tryd.prog laidL w) false (World.doorLaid Tryd.prog 132 os) #[.string ByteArray.empty, .agg #[.int .u8 0, .int .u8 0, .int .u8 0, .int .u8 0, .int .u8 0, .int .u8 0, .int .u8 0, .int .u8 0, .int .u8 0, .int .u8 0, .int .u8 0, .int .u8 0, .int .u8 0, .int .u8 0, .int .u8 0, .int .u8 0, .int .i64 0, .int .i64 0, .int .i64 0, .int .i64 0, .int .u8 0, .int .u8 0, .int .u8 0, .int .u8 0, .int .u8 0, .int .u8 0, .int .u8 0, .int .u8 0, .int .u8 0, .int .u8 0, .int .u8 0, .int .u8 0, .int .u8 0, .int .u8 0, .int .u8 0, .int .u8 0, .string ByteArray.empty, .slice none 0 0], .string ByteArray.empty] 8 rfl (World.shaped_of_RefB (by kernel_rfl) (by kernel_rfl)) (by kernel_rfl) (by kernel_rfl) (by kernel_rfl) (door_met os _)) ?_
  intro W base args ds gs before hval0 hW _ hwt hL _
  have hval : ∀ (j : Nat) t v, Tryd.f3.params[j]? = some t → args[j]? = some v → Value.okWide Tryd.prog W .any base t v := hval0
  have hW' := hW
  obtain ⟨p, q, hA0, hV, rfl, hfz, hnd⟩ := hW
  have hA : DataW.TrodAll enc Tryd.prog W 0 (fun _ => true) true Tryd.f3.params.toList args.toList ds p := hA0
  rw [Tryd.params3] at hA hval
  obtain ⟨v0, vs0, d0, ds0, p0, q0, hargs, rfl, rfl, h0, r0⟩ := trodAll_cons hA
  obtain ⟨v1, vs1, d1, ds1, p1, q1, rfl, rfl, rfl, h1, r1⟩ := trodAll_cons r0
  obtain ⟨v2, vs2, d2, ds2, p2, q2, rfl, rfl, rfl, h2, r2⟩ := trodAll_cons r1
  obtain ⟨rfl, rfl, rfl⟩ := trodAll_nil r2
  obtain rfl : args = #[v0, v1, v2] := by cases args; simp_all
  obtain ⟨rfl, rfl⟩ := trodVars_none hV
  have k1 := h1
  have lt1 : ∀ x ∈ p1, x.block < W.heap.size := by obtain ⟨m, hm⟩ := k1; exact DataW.trod_lt m _ _ _ hm
  obtain ⟨a0, rfl, rfl, rfl, w0⟩ := open_string Tryd.underlying9 (hval 0 9 v0 rfl rfl) h0
  obtain ⟨b1, u1, a1, rfl, x1, w1, f1⟩ := topen_bk (hval 1 26 v1 rfl rfl) h1
  obtain ⟨a2, rfl, rfl, rfl, w2⟩ := open_string Tryd.underlying9 (hval 2 9 v2 rfl rfl) h2
  have htab := tabs_at hL
  clear hA0 hval0
  refine (backupRoundTrip_walk a0 b1 u1 a1 a2 W w0 x1 w1 f1 w2 htab).mono fun e W' ⟨he, bel⟩ => ?_
  subst he
  exact ⟨_, rfl, _, _, _, [], _, [], hW', trodAll_mk1 (shut_bool Tryd.underlying4 _), (trodAll_cons_mk (shut_string Tryd.underlying9 w0) (trodAll_cons_mk (Below.trod Tryd.laidOut (by kernel_rfl) (of_decide_eq_true (by kernel_rfl)) k1 bel lt1) (trodAll_cons_mk (shut_string Tryd.underlying9 w2) trodAll_mk0))), rfl, bel.frame _, fun h => by cases h⟩
theorem backupRoundTrip_row : Rows.BackupRoundTripSaid :=
  OpenClaim.holds_of_wide 3 Tryd.f3 rfl rfl rfl rfl rfl rfl rfl ⟨rfl, rfl, rfl, rfl, rfl⟩ rfl rfl rfl rfl rfl (by kernel_rfl) Tryd.func3 (by kernel_rfl)
    (of_decide_eq_true (by kernel_rfl)) (by unfold Func.isWrapper; first | (rw [if_pos (by decide +kernel)]; kernel_rfl) | (rw [if_neg (by decide +kernel)]; exact ⟨rfl, rfl⟩))
    (fun os started H enc _ => backupRoundTrip_lifted os started H enc)
theorem BackupRoundTrip_proved : Rows.BackupRoundTripCardSaid :=
  Claim7.holds_tied_plain_at .later [] [.data] true Rows.backupRoundTripCard.stood.harness false
    backupRoundTrip_row (fun _ h => by cases h) (by kernel_rfl) (fun _ h => by cases h) backupRoundTrip_row_tie rfl ⟨rfl, rfl⟩ (by kernel_rfl) rfl
    (fun f fn hf hfn => by
      obtain rfl : f = 3 := Option.some.inj ((show Tryd.prog.funcNamed "custody/custodylaw36.BackupRoundTrip" = some 3 by kernel_rfl).symm.trans hf) |>.symm
      obtain rfl : fn = Tryd.f3 := (Option.some.inj (Tryd.func3.symm.trans hfn)).symm
      exact ⟨by kernel_rfl, fun j t ht => by
        rw [Tryd.params3] at ht
        rcases j with _ | _ | _ | j
        · simp at ht; subst ht; kernel_rfl
        · simp at ht; subst ht; kernel_rfl
        · simp at ht; subst ht; kernel_rfl
        · simp at ht⟩)
    (by kernel_rfl)

end Go.Proofs.YtbpjdfnnlmblaaaDoor
