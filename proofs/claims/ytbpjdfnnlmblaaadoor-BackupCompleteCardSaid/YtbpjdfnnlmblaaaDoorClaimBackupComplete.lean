/- The law BackupComplete holds for every input: it returns true and leaves its arguments as they were. No condition. -/
import Derived.Test.YtbpjdfnnlmblaaaDoorMA13
import Derived.Test.YtbpjdfnnlmblaaaDoorTie
import Derived.Test.YtbpjdfnnlmblaaaDoorCards
import Derived.SevenTiedAt
namespace Go.Proofs.YtbpjdfnnlmblaaaDoor
open Go.ChangeShapes Go.WideShapes Go.ChangeAt Go.RowKit
open Go.ChangeMaps (open_string shut_string)
set_option linter.unusedSimpArgs false
set_option linter.unusedVariables false
attribute [local irreducible] Calls putAll validB makeX makeE makeP opE opB opK sameB fewB compB selK startsB
set_option maxRecDepth 100000 in
set_option maxHeartbeats 4000000 in
theorem backupComplete_walk (n0 : Int) (u0 : Value) (a0 : List K) (a1 : Int) (a2 : Int) (b3 : BK) (u3 : Value) (a3 : List K) (a4 : ByteArray) (w : World) (x0 : (Lit.int .i64 n0).wf = true) (w0 : RdK w u0 a0) (f0 : numK a0) (w1 : (Lit.int .i64 a1).wf = true) (w2 : (Lit.int .i64 a2).wf = true) (x3 : b3.mach) (w3 : RdK w u3 a3) (f3 : numK a3) (w4 : a4.size ≤ maxLen) (htab : KAt w) :
    Calls Tryd.prog 4 #[.agg #[.int .i64 n0, u0], .int .i64 a1, .int .i64 a2, .agg (bc b3 u3), .string a4] w fun e w' => e = .returned (.bool true) ∧ Below w.heap.size w w' := by
  obtain ⟨dk, rfl⟩ := str_of a4
  have HK := Lib.hid htab
  have hrd := w0
  obtain ⟨ta, tc, rfl, _, _, _⟩ := id w0
  have hu3 := w3
  obtain ⟨ba, bcp, rfl, _, _, _⟩ := id w3
  obtain ⟨W0, hW0⟩ : ∃ W0, W0 = (w.alloc (.cells #[.int .i64 n0, .slice ta a0.length tc] 37)).alloc (.cells (bc b3 (.slice ba a3.length bcp)) 26) := ⟨_, rfl⟩
  have HW := Lib.hid hW0
  have C : Hid (TB36 w W0 n0 (.slice ta a0.length tc) a0 b3 (.slice ba a3.length bcp)) := Lib.hid (by rw [hW0]; exact TB36.start hrd htab)
  have t0 := C.out.t0
  have t1 := C.out.t1
  have fz := frozen_of_row _ _ 37 _ _ C.out.b
  have c37 := C.out.c37
  have b36 := C.out.b36
  have HS := Lib.hid (fun (y : World) (a : KAt y) => sanity36_c y a)
  have HVT := Lib.hid (fun (y : World) (h : RdK y (.slice ta a0.length tc) a0) => validTable_r n0 (.slice ta a0.length tc) a0 y h)
  have HWB := Lib.hid (fun (W' : World) (hb : Below w.heap.size w W') => hrd.on hb)
  clear hW0 htab hrd w0 w3 hu3 w4
  rcases Nat.lt_or_ge 40 a0.length with hl | hl
  · have i1 : ¬ (a0.length : Int) ≤ 40 := by omega
    clear hl
    go_enter Tryd.func4, Tryd.ntmps4
    go_upto_region 1 with fail
    rw [← HW.out]
    go_wp2_with (first
      | (go_at_call 7; refine (HS.out _ C.out.k).mono ?_; rintro e ys ⟨rfl, hb⟩; replace C := Lib.hid (C.out.on hb); clear t0 t1 fz c37; have t0 := C.out.t0; have t1 := C.out.t1; have fz := frozen_of_row _ _ 37 _ _ C.out.b; have c37 := C.out.c37; clear hb))
    go_ret
    exact ⟨rfl, C.out.bel⟩
  have i1 : (a0.length : Int) ≤ 40 := by omega
  rcases Nat.lt_or_ge 50 b3.mo.length with hm | hm
  · have i2 : ¬ (b3.mo.length : Int) ≤ 50 := by omega
    clear hm
    go_enter Tryd.func4, Tryd.ntmps4
    go_upto_region 1 with fail
    rw [← HW.out]
    go_wp2_with (first
      | (go_at_call 7; refine (HS.out _ C.out.k).mono ?_; rintro e ys ⟨rfl, hb⟩; replace C := Lib.hid (C.out.on hb); clear t0 t1 fz c37; have t0 := C.out.t0; have t1 := C.out.t1; have fz := frozen_of_row _ _ 37 _ _ C.out.b; have c37 := C.out.c37; clear hb))
    go_ret
    exact ⟨rfl, C.out.bel⟩
  have i2 : (b3.mo.length : Int) ≤ 50 := by omega
  by_cases hlt : a2 < a1
  · have i3 := hlt
    clear hl hm hlt
    go_enter Tryd.func4, Tryd.ntmps4
    go_upto_region 1 with fail
    rw [← HW.out]
    go_wp2_with (first
      | (go_at_call 7; refine (HS.out _ C.out.k).mono ?_; rintro e ys ⟨rfl, hb⟩; replace C := Lib.hid (C.out.on hb); clear t0 t1 fz c37; have t0 := C.out.t0; have t1 := C.out.t1; have fz := frozen_of_row _ _ 37 _ _ C.out.b; have c37 := C.out.c37; clear hb))
    go_ret
    exact ⟨rfl, C.out.bel⟩
  have i3 : ¬ a2 < a1 := hlt
  cases hv : validTab n0 a0 with
  | false =>
    rw [hv] at HVT
    clear hv hl hm hlt
    go_enter Tryd.func4, Tryd.ntmps4
    go_upto_region 1 with fail
    rw [← HW.out]
    go_wp2_with (first
      | (go_at_call 7; refine (HS.out _ C.out.k).mono ?_; rintro e ys ⟨rfl, hb⟩; replace C := Lib.hid (C.out.on hb); clear t0 t1 fz c37; have t0 := C.out.t0; have t1 := C.out.t1; have fz := frozen_of_row _ _ 37 _ _ C.out.b; have c37 := C.out.c37; clear hb)
      | (go_at_call 11; refine (HVT.out _ C.out.r).mono ?_; rintro e yv ⟨rfl, hb⟩; replace C := Lib.hid (C.out.on hb); clear t0 t1 fz c37; have t0 := C.out.t0; have t1 := C.out.t1; have fz := frozen_of_row _ _ 37 _ _ C.out.b; have c37 := C.out.c37; clear hb))
    go_ret
    exact ⟨rfl, C.out.bel⟩
  | true =>
    rw [hv] at HVT
    clear hv
    have HSEL := Lib.hid (fun (y : World) (h : RdK y (.slice ta a0.length tc) a0) => select_c n0 a1 (.slice ta a0.length tc) a0 y h (by omega))
    have HCP := Lib.hid (fun (t : Int) (u : Value) (l : List K) (y : World) (h : RdK y (.slice ta a0.length tc) a0) (h2 : RdK y u l) => complete_c n0 t (.slice ta a0.length tc) u a0 l b3 y h h2 (by omega))
    have HMK := Lib.hid (fun (y : World) (a : KAt y) (h : RdK y (.slice ta a0.length tc) a0) => make_t dk b3 (.slice ta a0.length tc) a0 y a h x3 f0)
    have HST := Lib.hid (fun (y : World) (h : RdK y (.slice ta a0.length tc) a0) => starts_c n0 (.slice ta a0.length tc) a0 a1 y h)
    have HCA : Hid (∀ t, compB a0 a0 t = true) := Lib.hid (fun t => compB_all a0 t)
    have HCS := Lib.hid (compB_sel a0 a1)
    have HX3 := Lib.hid x3
    have HF0 := Lib.hid f0
    have ways : compB (selK a1 a0) a0 a2 = true ∨ (compB (selK a1 a0) a0 a2 = false ∧ ¬ 0 ≤ a1) ∨ (compB (selK a1 a0) a0 a2 = false ∧ 0 ≤ a1 ∧ startsB a0 a1 = false) := by
      cases hc : compB (selK a1 a0) a0 a2 with
      | true => exact .inl rfl
      | false =>
        by_cases h0 : 0 ≤ a1
        · refine .inr (.inr ⟨rfl, h0, ?_⟩)
          cases hs : startsB a0 a1 with
          | false => rfl
          | true => rw [compB_later a0 a1 a2 (by omega) hs] at hc; cases hc
        · exact .inr (.inl ⟨rfl, h0⟩)
    have HW1 : Hid (∀ r, compB (selK a1 a0) a0 a2 = r → ∀ (u : Value) (y : World), RdK y (.slice ta a0.length tc) a0 → RdK y u (selK a1 a0) → Calls Tryd.prog 13 #[.agg (bc b3 u), .agg #[.int .i64 n0, .slice ta a0.length tc], .int .i64 a2] y fun e w' => e = .returned (.bool r) ∧ Below y.heap.size y w') := Lib.hid (fun r hr u y h h2 => by rw [← hr]; exact HCP.out a2 u _ y h h2)
    have HW0 : Hid (∀ (u : Value) (y : World), RdK y (.slice ta a0.length tc) a0 → RdK y u (selK a1 a0) → Calls Tryd.prog 13 #[.agg (bc b3 u), .agg #[.int .i64 n0, .slice ta a0.length tc], .int .i64 a1] y fun e w' => e = .returned (.bool true) ∧ Below y.heap.size y w') := Lib.hid (fun u y h h2 => by have h3 := HCP.out a1 u _ y h h2; rw [HCS.out] at h3; exact h3)
    have HW3 : Hid (∀ (t : Int) (u : Value) (y : World), RdK y (.slice ta a0.length tc) a0 → RdK y u a0 → Calls Tryd.prog 13 #[.agg (bc b3 u), .agg #[.int .i64 n0, .slice ta a0.length tc], .int .i64 t] y fun e w' => e = .returned (.bool true) ∧ Below y.heap.size y w') := Lib.hid (fun t u y h h2 => by have h3 := HCP.out t u _ y h h2; rw [HCA.out] at h3; exact h3)
    clear hl hlt
    rcases makeE_cases dk b3 a0 with ⟨ho, ex, ee⟩ | ⟨ho, ex, ee⟩
    · have hln := makeP_len dk b3 a0 HX3.out ho
      obtain ⟨r1, r2, r3⟩ := rt_open dk b3 a0 HX3.out HF0.out ho
      have HO1 := Lib.hid (fun (y : World) (a : KAt y) => bopen_t dk (makeP dk b3 a0) y a (by omega))
      rw [r1, r2, r3] at HO1
      rw [ex, ee] at HMK
      generalize makeP dk b3 a0 = s at HMK HO1
      clear ho ex ee hln r1 r2 r3 x3 f0
      rcases ways with g1 | ⟨g1, g2⟩ | ⟨g1, g2, g3⟩
      · skip
        replace HW1 := Lib.hid (HW1.out true g1)
        clear g1
        go_enter Tryd.func4, Tryd.ntmps4
        go_upto_region 1 with fail
        rw [← HW.out]
        go_upto_region 8 with (first
          | (go_at_call 11; refine (HVT.out _ C.out.r).mono ?_; rintro e yv ⟨rfl, hb⟩; replace C := Lib.hid (C.out.on hb); clear t0 t1 fz c37; have t0 := C.out.t0; have t1 := C.out.t1; have fz := frozen_of_row _ _ 37 _ _ C.out.b; have c37 := C.out.c37; clear hb)
          | (go_at_call 12; refine (HSEL.out _ C.out.r).mono ?_; rintro e y1 ⟨v1, rfl, hr, hb⟩; replace C := Lib.hid (C.out.on hb); clear t0 t1 fz c37; have t0 := C.out.t0; have t1 := C.out.t1; have fz := frozen_of_row _ _ 37 _ _ C.out.b; have c37 := C.out.c37; obtain ⟨sa, sc, rfl, _, _, _⟩ := id hr; have RV := Lib.hid hr; clear hb hr))
        have C2 := Lib.hid (C.out.set HK.out (.slice sa (selK a1 a0).length sc))
        have RV2 := Lib.hid (RV.out.setBk (i := 37) (x := .slice sa (selK a1 a0).length sc) C.out.b)
        clear C RV t0 t1 fz c37 b36
        generalize y1.setCell ⟨w.heap.size + 1, 37, none⟩ (.slice sa (selK a1 a0).length sc) = y2 at *
        generalize selK a1 a0 = sel at *
        have C := C2
        have RV := RV2
        clear C2 RV2
        have t0 := C.out.t0; have t1 := C.out.t1; have fz := frozen_of_row _ _ 37 _ _ C.out.b; have c37 := C.out.c37
        have tok1 : True := trivial
        go_upto_region 11 with (first
          | (refine ld_bk b3 _ rfl (.tmp 8) rfl _ rfl _ C.out.b ?_)
          | (go_at_call 13; clear tok1; refine (HW0.out _ _ C.out.r RV.out).mono ?_; rintro e y3 ⟨rfl, hb⟩; replace RV := Lib.hid (RV.out.on hb); replace C := Lib.hid (C.out.on hb); clear t0 t1 fz c37; have t0 := C.out.t0; have t1 := C.out.t1; have fz := frozen_of_row _ _ 37 _ _ C.out.b; have c37 := C.out.c37; clear hb)
          | (go_at_call 13; refine (HW1.out _ _ C.out.r RV.out).mono ?_; rintro e y4 ⟨rfl, hb⟩; replace RV := Lib.hid (RV.out.on hb); replace C := Lib.hid (C.out.on hb); clear t0 t1 fz c37; have t0 := C.out.t0; have t1 := C.out.t1; have fz := frozen_of_row _ _ 37 _ _ C.out.b; have c37 := C.out.c37; clear hb)
          | (go_at_call 14; refine (HST.out _ C.out.r).mono ?_; rintro e y5 ⟨rfl, hb⟩; replace RV := Lib.hid (RV.out.on hb); replace C := Lib.hid (C.out.on hb); clear t0 t1 fz c37; have t0 := C.out.t0; have t1 := C.out.t1; have fz := frozen_of_row _ _ 37 _ _ C.out.b; have c37 := C.out.c37; clear hb))
        have C2 := Lib.hid (C.out.set HK.out (.slice ta a0.length tc))
        clear C RV t0 t1 fz c37
        generalize y4.setCell ⟨w.heap.size + 1, 37, none⟩ (.slice ta a0.length tc) = y6 at *
        have C := C2
        clear C2
        have t0 := C.out.t0; have t1 := C.out.t1; have fz := frozen_of_row _ _ 37 _ _ C.out.b; have c37 := C.out.c37
        have tok2 : True := trivial
        go_upto_region 17 with (first
          | (refine ld_bk b3 _ rfl (.tmp 8) rfl _ rfl _ C.out.b ?_)
          | (go_at_call 13; clear tok2; refine (HW3.out a1 _ _ C.out.r C.out.r).mono ?_; rintro e y7 ⟨rfl, hb⟩; replace C := Lib.hid (C.out.on hb); clear t0 t1 fz c37; have t0 := C.out.t0; have t1 := C.out.t1; have fz := frozen_of_row _ _ 37 _ _ C.out.b; have c37 := C.out.c37; clear hb)
          | (go_at_call 13; refine (HW3.out a2 _ _ C.out.r C.out.r).mono ?_; rintro e y8 ⟨rfl, hb⟩; replace C := Lib.hid (C.out.on hb); clear t0 t1 fz c37; have t0 := C.out.t0; have t1 := C.out.t1; have fz := frozen_of_row _ _ 37 _ _ C.out.b; have c37 := C.out.c37; clear hb)
          | (go_at_call 8; refine (HMK.out _ C.out.k C.out.r).mono ?_; rintro e y9 ⟨rfl, hb⟩; replace C := Lib.hid (C.out.on hb); clear t0 t1 fz c37; have t0 := C.out.t0; have t1 := C.out.t1; have fz := frozen_of_row _ _ 37 _ _ C.out.b; have c37 := C.out.c37; clear hb)
          | (go_at_call 9; refine (HO1.out _ C.out.k).mono ?_; rintro e y10 ⟨ca, cc, rfl, hr, hb⟩; replace C := Lib.hid (C.out.on hb); clear t0 t1 fz c37; have t0 := C.out.t0; have t1 := C.out.t1; have fz := frozen_of_row _ _ 37 _ _ C.out.b; have c37 := C.out.c37; have RC := Lib.hid hr; clear hb hr)
          | (refine st_new (bc b3 (.slice ca a0.length cc)) 26 rfl (.tmp 15) (.tmp 93) rfl _ rfl rfl rfl (by rw [bc_size]; exact info_b) (by rw [bc_size]; rfl) (bcone _ _ _ _) ?_))
        have XC : Hid ((y10.alloc (.cells (bc b3 (.slice ca a0.length cc)) 26)).heap[y10.heap.size]? = some (.cells (bc b3 (.slice ca a0.length cc)) 26 (0, 0))) := Lib.hid (heap_alloc_new _ _)
        replace RC := Lib.hid (RC.out.alloc (.cells (bc b3 (.slice ca a0.length cc)) 26))
        replace C := Lib.hid (C.out.on ((Below.refl _ _).alloc (Nat.le_refl _) (.cells (bc b3 (.slice ca a0.length cc)) 26)))
        clear t0 t1 fz c37
        have t0 := C.out.t0; have t1 := C.out.t1; have fz := frozen_of_row _ _ 37 _ _ C.out.b; have c37 := C.out.c37
        skip
        go_wp2_with (first
          | (go_at_call 7; refine (HS.out _ C.out.k).mono ?_; rintro e ys ⟨rfl, hb⟩; replace C := Lib.hid (C.out.on hb); clear t0 t1 fz c37; have t0 := C.out.t0; have t1 := C.out.t1; have fz := frozen_of_row _ _ 37 _ _ C.out.b; have c37 := C.out.c37; replace XC := Lib.hid (row_keep XC.out hb); replace RC := Lib.hid (RC.out.on hb); clear hb)
          | (refine ld_bk b3 _ rfl (.tmp 15) rfl _ rfl _ XC.out ?_)
          | (go_at_call 13; refine (HW3.out a2 _ _ C.out.r RC.out).mono ?_; rintro e y12 ⟨rfl, hb⟩; replace C := Lib.hid (C.out.on hb); clear t0 t1 fz c37; have t0 := C.out.t0; have t1 := C.out.t1; have fz := frozen_of_row _ _ 37 _ _ C.out.b; have c37 := C.out.c37; clear hb))
        go_ret
        exact ⟨rfl, C.out.bel⟩
      · skip
        replace HW1 := Lib.hid (HW1.out false g1)
        clear g1
        go_enter Tryd.func4, Tryd.ntmps4
        go_upto_region 1 with fail
        rw [← HW.out]
        go_upto_region 8 with (first
          | (go_at_call 11; refine (HVT.out _ C.out.r).mono ?_; rintro e yv ⟨rfl, hb⟩; replace C := Lib.hid (C.out.on hb); clear t0 t1 fz c37; have t0 := C.out.t0; have t1 := C.out.t1; have fz := frozen_of_row _ _ 37 _ _ C.out.b; have c37 := C.out.c37; clear hb)
          | (go_at_call 12; refine (HSEL.out _ C.out.r).mono ?_; rintro e y1 ⟨v1, rfl, hr, hb⟩; replace C := Lib.hid (C.out.on hb); clear t0 t1 fz c37; have t0 := C.out.t0; have t1 := C.out.t1; have fz := frozen_of_row _ _ 37 _ _ C.out.b; have c37 := C.out.c37; obtain ⟨sa, sc, rfl, _, _, _⟩ := id hr; have RV := Lib.hid hr; clear hb hr))
        have C2 := Lib.hid (C.out.set HK.out (.slice sa (selK a1 a0).length sc))
        have RV2 := Lib.hid (RV.out.setBk (i := 37) (x := .slice sa (selK a1 a0).length sc) C.out.b)
        clear C RV t0 t1 fz c37 b36
        generalize y1.setCell ⟨w.heap.size + 1, 37, none⟩ (.slice sa (selK a1 a0).length sc) = y2 at *
        generalize selK a1 a0 = sel at *
        have C := C2
        have RV := RV2
        clear C2 RV2
        have t0 := C.out.t0; have t1 := C.out.t1; have fz := frozen_of_row _ _ 37 _ _ C.out.b; have c37 := C.out.c37
        have tok1 : True := trivial
        go_upto_region 11 with (first
          | (refine ld_bk b3 _ rfl (.tmp 8) rfl _ rfl _ C.out.b ?_)
          | (go_at_call 13; clear tok1; refine (HW0.out _ _ C.out.r RV.out).mono ?_; rintro e y3 ⟨rfl, hb⟩; replace RV := Lib.hid (RV.out.on hb); replace C := Lib.hid (C.out.on hb); clear t0 t1 fz c37; have t0 := C.out.t0; have t1 := C.out.t1; have fz := frozen_of_row _ _ 37 _ _ C.out.b; have c37 := C.out.c37; clear hb)
          | (go_at_call 13; refine (HW1.out _ _ C.out.r RV.out).mono ?_; rintro e y4 ⟨rfl, hb⟩; replace RV := Lib.hid (RV.out.on hb); replace C := Lib.hid (C.out.on hb); clear t0 t1 fz c37; have t0 := C.out.t0; have t1 := C.out.t1; have fz := frozen_of_row _ _ 37 _ _ C.out.b; have c37 := C.out.c37; clear hb)
          | (go_at_call 14; refine (HST.out _ C.out.r).mono ?_; rintro e y5 ⟨rfl, hb⟩; replace RV := Lib.hid (RV.out.on hb); replace C := Lib.hid (C.out.on hb); clear t0 t1 fz c37; have t0 := C.out.t0; have t1 := C.out.t1; have fz := frozen_of_row _ _ 37 _ _ C.out.b; have c37 := C.out.c37; clear hb))
        have C2 := Lib.hid (C.out.set HK.out (.slice ta a0.length tc))
        clear C RV t0 t1 fz c37
        generalize y4.setCell ⟨w.heap.size + 1, 37, none⟩ (.slice ta a0.length tc) = y6 at *
        have C := C2
        clear C2
        have t0 := C.out.t0; have t1 := C.out.t1; have fz := frozen_of_row _ _ 37 _ _ C.out.b; have c37 := C.out.c37
        have tok2 : True := trivial
        go_upto_region 17 with (first
          | (refine ld_bk b3 _ rfl (.tmp 8) rfl _ rfl _ C.out.b ?_)
          | (go_at_call 13; clear tok2; refine (HW3.out a1 _ _ C.out.r C.out.r).mono ?_; rintro e y7 ⟨rfl, hb⟩; replace C := Lib.hid (C.out.on hb); clear t0 t1 fz c37; have t0 := C.out.t0; have t1 := C.out.t1; have fz := frozen_of_row _ _ 37 _ _ C.out.b; have c37 := C.out.c37; clear hb)
          | (go_at_call 13; refine (HW3.out a2 _ _ C.out.r C.out.r).mono ?_; rintro e y8 ⟨rfl, hb⟩; replace C := Lib.hid (C.out.on hb); clear t0 t1 fz c37; have t0 := C.out.t0; have t1 := C.out.t1; have fz := frozen_of_row _ _ 37 _ _ C.out.b; have c37 := C.out.c37; clear hb)
          | (go_at_call 8; refine (HMK.out _ C.out.k C.out.r).mono ?_; rintro e y9 ⟨rfl, hb⟩; replace C := Lib.hid (C.out.on hb); clear t0 t1 fz c37; have t0 := C.out.t0; have t1 := C.out.t1; have fz := frozen_of_row _ _ 37 _ _ C.out.b; have c37 := C.out.c37; clear hb)
          | (go_at_call 9; refine (HO1.out _ C.out.k).mono ?_; rintro e y10 ⟨ca, cc, rfl, hr, hb⟩; replace C := Lib.hid (C.out.on hb); clear t0 t1 fz c37; have t0 := C.out.t0; have t1 := C.out.t1; have fz := frozen_of_row _ _ 37 _ _ C.out.b; have c37 := C.out.c37; have RC := Lib.hid hr; clear hb hr)
          | (refine st_new (bc b3 (.slice ca a0.length cc)) 26 rfl (.tmp 15) (.tmp 93) rfl _ rfl rfl rfl (by rw [bc_size]; exact info_b) (by rw [bc_size]; rfl) (bcone _ _ _ _) ?_))
        have XC : Hid ((y10.alloc (.cells (bc b3 (.slice ca a0.length cc)) 26)).heap[y10.heap.size]? = some (.cells (bc b3 (.slice ca a0.length cc)) 26 (0, 0))) := Lib.hid (heap_alloc_new _ _)
        replace RC := Lib.hid (RC.out.alloc (.cells (bc b3 (.slice ca a0.length cc)) 26))
        replace C := Lib.hid (C.out.on ((Below.refl _ _).alloc (Nat.le_refl _) (.cells (bc b3 (.slice ca a0.length cc)) 26)))
        clear t0 t1 fz c37
        have t0 := C.out.t0; have t1 := C.out.t1; have fz := frozen_of_row _ _ 37 _ _ C.out.b; have c37 := C.out.c37
        skip
        go_wp2_with (first
          | (go_at_call 7; refine (HS.out _ C.out.k).mono ?_; rintro e ys ⟨rfl, hb⟩; replace C := Lib.hid (C.out.on hb); clear t0 t1 fz c37; have t0 := C.out.t0; have t1 := C.out.t1; have fz := frozen_of_row _ _ 37 _ _ C.out.b; have c37 := C.out.c37; replace XC := Lib.hid (row_keep XC.out hb); replace RC := Lib.hid (RC.out.on hb); clear hb)
          | (refine ld_bk b3 _ rfl (.tmp 15) rfl _ rfl _ XC.out ?_)
          | (go_at_call 13; refine (HW3.out a2 _ _ C.out.r RC.out).mono ?_; rintro e y12 ⟨rfl, hb⟩; replace C := Lib.hid (C.out.on hb); clear t0 t1 fz c37; have t0 := C.out.t0; have t1 := C.out.t1; have fz := frozen_of_row _ _ 37 _ _ C.out.b; have c37 := C.out.c37; clear hb))
        go_ret
        exact ⟨rfl, C.out.bel⟩
      · skip
        replace HW1 := Lib.hid (HW1.out false g1)
        clear g1
        rw [g3] at HST
        clear g3
        go_enter Tryd.func4, Tryd.ntmps4
        go_upto_region 1 with fail
        rw [← HW.out]
        go_upto_region 8 with (first
          | (go_at_call 11; refine (HVT.out _ C.out.r).mono ?_; rintro e yv ⟨rfl, hb⟩; replace C := Lib.hid (C.out.on hb); clear t0 t1 fz c37; have t0 := C.out.t0; have t1 := C.out.t1; have fz := frozen_of_row _ _ 37 _ _ C.out.b; have c37 := C.out.c37; clear hb)
          | (go_at_call 12; refine (HSEL.out _ C.out.r).mono ?_; rintro e y1 ⟨v1, rfl, hr, hb⟩; replace C := Lib.hid (C.out.on hb); clear t0 t1 fz c37; have t0 := C.out.t0; have t1 := C.out.t1; have fz := frozen_of_row _ _ 37 _ _ C.out.b; have c37 := C.out.c37; obtain ⟨sa, sc, rfl, _, _, _⟩ := id hr; have RV := Lib.hid hr; clear hb hr))
        have C2 := Lib.hid (C.out.set HK.out (.slice sa (selK a1 a0).length sc))
        have RV2 := Lib.hid (RV.out.setBk (i := 37) (x := .slice sa (selK a1 a0).length sc) C.out.b)
        clear C RV t0 t1 fz c37 b36
        generalize y1.setCell ⟨w.heap.size + 1, 37, none⟩ (.slice sa (selK a1 a0).length sc) = y2 at *
        generalize selK a1 a0 = sel at *
        have C := C2
        have RV := RV2
        clear C2 RV2
        have t0 := C.out.t0; have t1 := C.out.t1; have fz := frozen_of_row _ _ 37 _ _ C.out.b; have c37 := C.out.c37
        have tok1 : True := trivial
        go_upto_region 11 with (first
          | (refine ld_bk b3 _ rfl (.tmp 8) rfl _ rfl _ C.out.b ?_)
          | (go_at_call 13; clear tok1; refine (HW0.out _ _ C.out.r RV.out).mono ?_; rintro e y3 ⟨rfl, hb⟩; replace RV := Lib.hid (RV.out.on hb); replace C := Lib.hid (C.out.on hb); clear t0 t1 fz c37; have t0 := C.out.t0; have t1 := C.out.t1; have fz := frozen_of_row _ _ 37 _ _ C.out.b; have c37 := C.out.c37; clear hb)
          | (go_at_call 13; refine (HW1.out _ _ C.out.r RV.out).mono ?_; rintro e y4 ⟨rfl, hb⟩; replace RV := Lib.hid (RV.out.on hb); replace C := Lib.hid (C.out.on hb); clear t0 t1 fz c37; have t0 := C.out.t0; have t1 := C.out.t1; have fz := frozen_of_row _ _ 37 _ _ C.out.b; have c37 := C.out.c37; clear hb)
          | (go_at_call 14; refine (HST.out _ C.out.r).mono ?_; rintro e y5 ⟨rfl, hb⟩; replace RV := Lib.hid (RV.out.on hb); replace C := Lib.hid (C.out.on hb); clear t0 t1 fz c37; have t0 := C.out.t0; have t1 := C.out.t1; have fz := frozen_of_row _ _ 37 _ _ C.out.b; have c37 := C.out.c37; clear hb))
        have C2 := Lib.hid (C.out.set HK.out (.slice ta a0.length tc))
        clear C RV t0 t1 fz c37
        generalize y5.setCell ⟨w.heap.size + 1, 37, none⟩ (.slice ta a0.length tc) = y6 at *
        have C := C2
        clear C2
        have t0 := C.out.t0; have t1 := C.out.t1; have fz := frozen_of_row _ _ 37 _ _ C.out.b; have c37 := C.out.c37
        have tok2 : True := trivial
        go_upto_region 17 with (first
          | (refine ld_bk b3 _ rfl (.tmp 8) rfl _ rfl _ C.out.b ?_)
          | (go_at_call 13; clear tok2; refine (HW3.out a1 _ _ C.out.r C.out.r).mono ?_; rintro e y7 ⟨rfl, hb⟩; replace C := Lib.hid (C.out.on hb); clear t0 t1 fz c37; have t0 := C.out.t0; have t1 := C.out.t1; have fz := frozen_of_row _ _ 37 _ _ C.out.b; have c37 := C.out.c37; clear hb)
          | (go_at_call 13; refine (HW3.out a2 _ _ C.out.r C.out.r).mono ?_; rintro e y8 ⟨rfl, hb⟩; replace C := Lib.hid (C.out.on hb); clear t0 t1 fz c37; have t0 := C.out.t0; have t1 := C.out.t1; have fz := frozen_of_row _ _ 37 _ _ C.out.b; have c37 := C.out.c37; clear hb)
          | (go_at_call 8; refine (HMK.out _ C.out.k C.out.r).mono ?_; rintro e y9 ⟨rfl, hb⟩; replace C := Lib.hid (C.out.on hb); clear t0 t1 fz c37; have t0 := C.out.t0; have t1 := C.out.t1; have fz := frozen_of_row _ _ 37 _ _ C.out.b; have c37 := C.out.c37; clear hb)
          | (go_at_call 9; refine (HO1.out _ C.out.k).mono ?_; rintro e y10 ⟨ca, cc, rfl, hr, hb⟩; replace C := Lib.hid (C.out.on hb); clear t0 t1 fz c37; have t0 := C.out.t0; have t1 := C.out.t1; have fz := frozen_of_row _ _ 37 _ _ C.out.b; have c37 := C.out.c37; have RC := Lib.hid hr; clear hb hr)
          | (refine st_new (bc b3 (.slice ca a0.length cc)) 26 rfl (.tmp 15) (.tmp 93) rfl _ rfl rfl rfl (by rw [bc_size]; exact info_b) (by rw [bc_size]; rfl) (bcone _ _ _ _) ?_))
        have XC : Hid ((y10.alloc (.cells (bc b3 (.slice ca a0.length cc)) 26)).heap[y10.heap.size]? = some (.cells (bc b3 (.slice ca a0.length cc)) 26 (0, 0))) := Lib.hid (heap_alloc_new _ _)
        replace RC := Lib.hid (RC.out.alloc (.cells (bc b3 (.slice ca a0.length cc)) 26))
        replace C := Lib.hid (C.out.on ((Below.refl _ _).alloc (Nat.le_refl _) (.cells (bc b3 (.slice ca a0.length cc)) 26)))
        clear t0 t1 fz c37
        have t0 := C.out.t0; have t1 := C.out.t1; have fz := frozen_of_row _ _ 37 _ _ C.out.b; have c37 := C.out.c37
        skip
        go_wp2_with (first
          | (go_at_call 7; refine (HS.out _ C.out.k).mono ?_; rintro e ys ⟨rfl, hb⟩; replace C := Lib.hid (C.out.on hb); clear t0 t1 fz c37; have t0 := C.out.t0; have t1 := C.out.t1; have fz := frozen_of_row _ _ 37 _ _ C.out.b; have c37 := C.out.c37; replace XC := Lib.hid (row_keep XC.out hb); replace RC := Lib.hid (RC.out.on hb); clear hb)
          | (refine ld_bk b3 _ rfl (.tmp 15) rfl _ rfl _ XC.out ?_)
          | (go_at_call 13; refine (HW3.out a2 _ _ C.out.r RC.out).mono ?_; rintro e y12 ⟨rfl, hb⟩; replace C := Lib.hid (C.out.on hb); clear t0 t1 fz c37; have t0 := C.out.t0; have t1 := C.out.t1; have fz := frozen_of_row _ _ 37 _ _ C.out.b; have c37 := C.out.c37; clear hb))
        go_ret
        exact ⟨rfl, C.out.bel⟩
    · rw [ex, ee] at HMK
      clear ho ex ee x3 f0
      rcases ways with g1 | ⟨g1, g2⟩ | ⟨g1, g2, g3⟩
      · skip
        replace HW1 := Lib.hid (HW1.out true g1)
        clear g1
        go_enter Tryd.func4, Tryd.ntmps4
        go_upto_region 1 with fail
        rw [← HW.out]
        go_upto_region 8 with (first
          | (go_at_call 11; refine (HVT.out _ C.out.r).mono ?_; rintro e yv ⟨rfl, hb⟩; replace C := Lib.hid (C.out.on hb); clear t0 t1 fz c37; have t0 := C.out.t0; have t1 := C.out.t1; have fz := frozen_of_row _ _ 37 _ _ C.out.b; have c37 := C.out.c37; clear hb)
          | (go_at_call 12; refine (HSEL.out _ C.out.r).mono ?_; rintro e y1 ⟨v1, rfl, hr, hb⟩; replace C := Lib.hid (C.out.on hb); clear t0 t1 fz c37; have t0 := C.out.t0; have t1 := C.out.t1; have fz := frozen_of_row _ _ 37 _ _ C.out.b; have c37 := C.out.c37; obtain ⟨sa, sc, rfl, _, _, _⟩ := id hr; have RV := Lib.hid hr; clear hb hr))
        have C2 := Lib.hid (C.out.set HK.out (.slice sa (selK a1 a0).length sc))
        have RV2 := Lib.hid (RV.out.setBk (i := 37) (x := .slice sa (selK a1 a0).length sc) C.out.b)
        clear C RV t0 t1 fz c37 b36
        generalize y1.setCell ⟨w.heap.size + 1, 37, none⟩ (.slice sa (selK a1 a0).length sc) = y2 at *
        generalize selK a1 a0 = sel at *
        have C := C2
        have RV := RV2
        clear C2 RV2
        have t0 := C.out.t0; have t1 := C.out.t1; have fz := frozen_of_row _ _ 37 _ _ C.out.b; have c37 := C.out.c37
        have tok1 : True := trivial
        go_upto_region 11 with (first
          | (refine ld_bk b3 _ rfl (.tmp 8) rfl _ rfl _ C.out.b ?_)
          | (go_at_call 13; clear tok1; refine (HW0.out _ _ C.out.r RV.out).mono ?_; rintro e y3 ⟨rfl, hb⟩; replace RV := Lib.hid (RV.out.on hb); replace C := Lib.hid (C.out.on hb); clear t0 t1 fz c37; have t0 := C.out.t0; have t1 := C.out.t1; have fz := frozen_of_row _ _ 37 _ _ C.out.b; have c37 := C.out.c37; clear hb)
          | (go_at_call 13; refine (HW1.out _ _ C.out.r RV.out).mono ?_; rintro e y4 ⟨rfl, hb⟩; replace RV := Lib.hid (RV.out.on hb); replace C := Lib.hid (C.out.on hb); clear t0 t1 fz c37; have t0 := C.out.t0; have t1 := C.out.t1; have fz := frozen_of_row _ _ 37 _ _ C.out.b; have c37 := C.out.c37; clear hb)
          | (go_at_call 14; refine (HST.out _ C.out.r).mono ?_; rintro e y5 ⟨rfl, hb⟩; replace RV := Lib.hid (RV.out.on hb); replace C := Lib.hid (C.out.on hb); clear t0 t1 fz c37; have t0 := C.out.t0; have t1 := C.out.t1; have fz := frozen_of_row _ _ 37 _ _ C.out.b; have c37 := C.out.c37; clear hb))
        have C2 := Lib.hid (C.out.set HK.out (.slice ta a0.length tc))
        clear C RV t0 t1 fz c37
        generalize y4.setCell ⟨w.heap.size + 1, 37, none⟩ (.slice ta a0.length tc) = y6 at *
        have C := C2
        clear C2
        have t0 := C.out.t0; have t1 := C.out.t1; have fz := frozen_of_row _ _ 37 _ _ C.out.b; have c37 := C.out.c37
        have tok2 : True := trivial
        go_wp2_with (first
          | (refine ld_bk b3 _ rfl (.tmp 8) rfl _ rfl _ C.out.b ?_)
          | (go_at_call 13; clear tok2; refine (HW3.out a1 _ _ C.out.r C.out.r).mono ?_; rintro e y7 ⟨rfl, hb⟩; replace C := Lib.hid (C.out.on hb); clear t0 t1 fz c37; have t0 := C.out.t0; have t1 := C.out.t1; have fz := frozen_of_row _ _ 37 _ _ C.out.b; have c37 := C.out.c37; clear hb)
          | (go_at_call 13; refine (HW3.out a2 _ _ C.out.r C.out.r).mono ?_; rintro e y8 ⟨rfl, hb⟩; replace C := Lib.hid (C.out.on hb); clear t0 t1 fz c37; have t0 := C.out.t0; have t1 := C.out.t1; have fz := frozen_of_row _ _ 37 _ _ C.out.b; have c37 := C.out.c37; clear hb)
          | (go_at_call 8; refine (HMK.out _ C.out.k C.out.r).mono ?_; rintro e y9 ⟨rfl, hb⟩; replace C := Lib.hid (C.out.on hb); clear t0 t1 fz c37; have t0 := C.out.t0; have t1 := C.out.t1; have fz := frozen_of_row _ _ 37 _ _ C.out.b; have c37 := C.out.c37; clear hb)
          | (go_at_call 7; refine (HS.out _ C.out.k).mono ?_; rintro e ys ⟨rfl, hb⟩; replace C := Lib.hid (C.out.on hb); clear t0 t1 fz c37; have t0 := C.out.t0; have t1 := C.out.t1; have fz := frozen_of_row _ _ 37 _ _ C.out.b; have c37 := C.out.c37; clear hb))
        go_ret
        exact ⟨rfl, C.out.bel⟩
      · skip
        replace HW1 := Lib.hid (HW1.out false g1)
        clear g1
        go_enter Tryd.func4, Tryd.ntmps4
        go_upto_region 1 with fail
        rw [← HW.out]
        go_upto_region 8 with (first
          | (go_at_call 11; refine (HVT.out _ C.out.r).mono ?_; rintro e yv ⟨rfl, hb⟩; replace C := Lib.hid (C.out.on hb); clear t0 t1 fz c37; have t0 := C.out.t0; have t1 := C.out.t1; have fz := frozen_of_row _ _ 37 _ _ C.out.b; have c37 := C.out.c37; clear hb)
          | (go_at_call 12; refine (HSEL.out _ C.out.r).mono ?_; rintro e y1 ⟨v1, rfl, hr, hb⟩; replace C := Lib.hid (C.out.on hb); clear t0 t1 fz c37; have t0 := C.out.t0; have t1 := C.out.t1; have fz := frozen_of_row _ _ 37 _ _ C.out.b; have c37 := C.out.c37; obtain ⟨sa, sc, rfl, _, _, _⟩ := id hr; have RV := Lib.hid hr; clear hb hr))
        have C2 := Lib.hid (C.out.set HK.out (.slice sa (selK a1 a0).length sc))
        have RV2 := Lib.hid (RV.out.setBk (i := 37) (x := .slice sa (selK a1 a0).length sc) C.out.b)
        clear C RV t0 t1 fz c37 b36
        generalize y1.setCell ⟨w.heap.size + 1, 37, none⟩ (.slice sa (selK a1 a0).length sc) = y2 at *
        generalize selK a1 a0 = sel at *
        have C := C2
        have RV := RV2
        clear C2 RV2
        have t0 := C.out.t0; have t1 := C.out.t1; have fz := frozen_of_row _ _ 37 _ _ C.out.b; have c37 := C.out.c37
        have tok1 : True := trivial
        go_upto_region 11 with (first
          | (refine ld_bk b3 _ rfl (.tmp 8) rfl _ rfl _ C.out.b ?_)
          | (go_at_call 13; clear tok1; refine (HW0.out _ _ C.out.r RV.out).mono ?_; rintro e y3 ⟨rfl, hb⟩; replace RV := Lib.hid (RV.out.on hb); replace C := Lib.hid (C.out.on hb); clear t0 t1 fz c37; have t0 := C.out.t0; have t1 := C.out.t1; have fz := frozen_of_row _ _ 37 _ _ C.out.b; have c37 := C.out.c37; clear hb)
          | (go_at_call 13; refine (HW1.out _ _ C.out.r RV.out).mono ?_; rintro e y4 ⟨rfl, hb⟩; replace RV := Lib.hid (RV.out.on hb); replace C := Lib.hid (C.out.on hb); clear t0 t1 fz c37; have t0 := C.out.t0; have t1 := C.out.t1; have fz := frozen_of_row _ _ 37 _ _ C.out.b; have c37 := C.out.c37; clear hb)
          | (go_at_call 14; refine (HST.out _ C.out.r).mono ?_; rintro e y5 ⟨rfl, hb⟩; replace RV := Lib.hid (RV.out.on hb); replace C := Lib.hid (C.out.on hb); clear t0 t1 fz c37; have t0 := C.out.t0; have t1 := C.out.t1; have fz := frozen_of_row _ _ 37 _ _ C.out.b; have c37 := C.out.c37; clear hb))
        have C2 := Lib.hid (C.out.set HK.out (.slice ta a0.length tc))
        clear C RV t0 t1 fz c37
        generalize y4.setCell ⟨w.heap.size + 1, 37, none⟩ (.slice ta a0.length tc) = y6 at *
        have C := C2
        clear C2
        have t0 := C.out.t0; have t1 := C.out.t1; have fz := frozen_of_row _ _ 37 _ _ C.out.b; have c37 := C.out.c37
        have tok2 : True := trivial
        go_wp2_with (first
          | (refine ld_bk b3 _ rfl (.tmp 8) rfl _ rfl _ C.out.b ?_)
          | (go_at_call 13; clear tok2; refine (HW3.out a1 _ _ C.out.r C.out.r).mono ?_; rintro e y7 ⟨rfl, hb⟩; replace C := Lib.hid (C.out.on hb); clear t0 t1 fz c37; have t0 := C.out.t0; have t1 := C.out.t1; have fz := frozen_of_row _ _ 37 _ _ C.out.b; have c37 := C.out.c37; clear hb)
          | (go_at_call 13; refine (HW3.out a2 _ _ C.out.r C.out.r).mono ?_; rintro e y8 ⟨rfl, hb⟩; replace C := Lib.hid (C.out.on hb); clear t0 t1 fz c37; have t0 := C.out.t0; have t1 := C.out.t1; have fz := frozen_of_row _ _ 37 _ _ C.out.b; have c37 := C.out.c37; clear hb)
          | (go_at_call 8; refine (HMK.out _ C.out.k C.out.r).mono ?_; rintro e y9 ⟨rfl, hb⟩; replace C := Lib.hid (C.out.on hb); clear t0 t1 fz c37; have t0 := C.out.t0; have t1 := C.out.t1; have fz := frozen_of_row _ _ 37 _ _ C.out.b; have c37 := C.out.c37; clear hb)
          | (go_at_call 7; refine (HS.out _ C.out.k).mono ?_; rintro e ys ⟨rfl, hb⟩; replace C := Lib.hid (C.out.on hb); clear t0 t1 fz c37; have t0 := C.out.t0; have t1 := C.out.t1; have fz := frozen_of_row _ _ 37 _ _ C.out.b; have c37 := C.out.c37; clear hb))
        go_ret
        exact ⟨rfl, C.out.bel⟩
      · skip
        replace HW1 := Lib.hid (HW1.out false g1)
        clear g1
        rw [g3] at HST
        clear g3
        go_enter Tryd.func4, Tryd.ntmps4
        go_upto_region 1 with fail
        rw [← HW.out]
        go_upto_region 8 with (first
          | (go_at_call 11; refine (HVT.out _ C.out.r).mono ?_; rintro e yv ⟨rfl, hb⟩; replace C := Lib.hid (C.out.on hb); clear t0 t1 fz c37; have t0 := C.out.t0; have t1 := C.out.t1; have fz := frozen_of_row _ _ 37 _ _ C.out.b; have c37 := C.out.c37; clear hb)
          | (go_at_call 12; refine (HSEL.out _ C.out.r).mono ?_; rintro e y1 ⟨v1, rfl, hr, hb⟩; replace C := Lib.hid (C.out.on hb); clear t0 t1 fz c37; have t0 := C.out.t0; have t1 := C.out.t1; have fz := frozen_of_row _ _ 37 _ _ C.out.b; have c37 := C.out.c37; obtain ⟨sa, sc, rfl, _, _, _⟩ := id hr; have RV := Lib.hid hr; clear hb hr))
        have C2 := Lib.hid (C.out.set HK.out (.slice sa (selK a1 a0).length sc))
        have RV2 := Lib.hid (RV.out.setBk (i := 37) (x := .slice sa (selK a1 a0).length sc) C.out.b)
        clear C RV t0 t1 fz c37 b36
        generalize y1.setCell ⟨w.heap.size + 1, 37, none⟩ (.slice sa (selK a1 a0).length sc) = y2 at *
        generalize selK a1 a0 = sel at *
        have C := C2
        have RV := RV2
        clear C2 RV2
        have t0 := C.out.t0; have t1 := C.out.t1; have fz := frozen_of_row _ _ 37 _ _ C.out.b; have c37 := C.out.c37
        have tok1 : True := trivial
        go_upto_region 11 with (first
          | (refine ld_bk b3 _ rfl (.tmp 8) rfl _ rfl _ C.out.b ?_)
          | (go_at_call 13; clear tok1; refine (HW0.out _ _ C.out.r RV.out).mono ?_; rintro e y3 ⟨rfl, hb⟩; replace RV := Lib.hid (RV.out.on hb); replace C := Lib.hid (C.out.on hb); clear t0 t1 fz c37; have t0 := C.out.t0; have t1 := C.out.t1; have fz := frozen_of_row _ _ 37 _ _ C.out.b; have c37 := C.out.c37; clear hb)
          | (go_at_call 13; refine (HW1.out _ _ C.out.r RV.out).mono ?_; rintro e y4 ⟨rfl, hb⟩; replace RV := Lib.hid (RV.out.on hb); replace C := Lib.hid (C.out.on hb); clear t0 t1 fz c37; have t0 := C.out.t0; have t1 := C.out.t1; have fz := frozen_of_row _ _ 37 _ _ C.out.b; have c37 := C.out.c37; clear hb)
          | (go_at_call 14; refine (HST.out _ C.out.r).mono ?_; rintro e y5 ⟨rfl, hb⟩; replace RV := Lib.hid (RV.out.on hb); replace C := Lib.hid (C.out.on hb); clear t0 t1 fz c37; have t0 := C.out.t0; have t1 := C.out.t1; have fz := frozen_of_row _ _ 37 _ _ C.out.b; have c37 := C.out.c37; clear hb))
        have C2 := Lib.hid (C.out.set HK.out (.slice ta a0.length tc))
        clear C RV t0 t1 fz c37
        generalize y5.setCell ⟨w.heap.size + 1, 37, none⟩ (.slice ta a0.length tc) = y6 at *
        have C := C2
        clear C2
        have t0 := C.out.t0; have t1 := C.out.t1; have fz := frozen_of_row _ _ 37 _ _ C.out.b; have c37 := C.out.c37
        have tok2 : True := trivial
        go_wp2_with (first
          | (refine ld_bk b3 _ rfl (.tmp 8) rfl _ rfl _ C.out.b ?_)
          | (go_at_call 13; clear tok2; refine (HW3.out a1 _ _ C.out.r C.out.r).mono ?_; rintro e y7 ⟨rfl, hb⟩; replace C := Lib.hid (C.out.on hb); clear t0 t1 fz c37; have t0 := C.out.t0; have t1 := C.out.t1; have fz := frozen_of_row _ _ 37 _ _ C.out.b; have c37 := C.out.c37; clear hb)
          | (go_at_call 13; refine (HW3.out a2 _ _ C.out.r C.out.r).mono ?_; rintro e y8 ⟨rfl, hb⟩; replace C := Lib.hid (C.out.on hb); clear t0 t1 fz c37; have t0 := C.out.t0; have t1 := C.out.t1; have fz := frozen_of_row _ _ 37 _ _ C.out.b; have c37 := C.out.c37; clear hb)
          | (go_at_call 8; refine (HMK.out _ C.out.k C.out.r).mono ?_; rintro e y9 ⟨rfl, hb⟩; replace C := Lib.hid (C.out.on hb); clear t0 t1 fz c37; have t0 := C.out.t0; have t1 := C.out.t1; have fz := frozen_of_row _ _ 37 _ _ C.out.b; have c37 := C.out.c37; clear hb)
          | (go_at_call 7; refine (HS.out _ C.out.k).mono ?_; rintro e ys ⟨rfl, hb⟩; replace C := Lib.hid (C.out.on hb); clear t0 t1 fz c37; have t0 := C.out.t0; have t1 := C.out.t1; have fz := frozen_of_row _ _ 37 _ _ C.out.b; have c37 := C.out.c37; clear hb))
        go_ret
        exact ⟨rfl, C.out.bel⟩
set_option maxRecDepth 100000 in
theorem backupComplete_lifted (os : Os) (started : os.Started) (H : Type) (enc : TypeId × Value → H) :
    ReturnsInHanded {} Tryd.checked os 4 .any (fun w args => (Rows.backupCompleteSpec.pre enc Tryd.prog Tryd.f4 [] false w args ∧ laidMetH Tryd.prog laidL w) ∧ sizedMet enc Tryd.prog Tryd.f4 (OpenSpec.ofChange Rows.backupCompleteSpec) false w args) (Rows.backupCompleteSpec.post enc Tryd.prog Tryd.f4 false true false false) := by
  refine returnsInHanded_of_change_and (C := Tryd.checked) (X := fun w _ => laidMetH Tryd.prog laidL w) (fun _ _ _ hh h => h.of_heap hh) Tryd.own started (by kernel_rfl) Tryd.func4
    (ChangeSpec.witness_shaped (enc := enc) (C := Tryd.checked) (os := os) (X := fun w _ => laidMetH Tryd.prog laidL w) false (World.doorLaid Tryd.prog 132 os) #[.agg #[.int .i64 0, .slice none 0 0], .int .i64 0, .int .i64 0, .agg #[.int .u8 0, .int .u8 0, .int .u8 0, .int .u8 0, .int .u8 0, .int .u8 0, .int .u8 0, .int .u8 0, .int .u8 0, .int .u8 0, .int .u8 0, .int .u8 0, .int .u8 0, .int .u8 0, .int .u8 0, .int .u8 0, .int .i64 0, .int .i64 0, .int .i64 0, .int .i64 0, .int .u8 0, .int .u8 0, .int .u8 0, .int .u8 0, .int .u8 0, .int .u8 0, .int .u8 0, .int .u8 0, .int .u8 0, .int .u8 0, .int .u8 0, .int .u8 0, .int .u8 0, .int .u8 0, .int .u8 0, .int .u8 0, .string ByteArray.empty, .slice none 0 0], .string ByteArray.empty] 8 rfl (World.shaped_of_RefB (by kernel_rfl) (by kernel_rfl)) (by kernel_rfl) (by kernel_rfl) (by kernel_rfl) (door_met os _)) ?_
  intro W base args ds gs before hval0 hW _ hwt hL _
  have hval : ∀ (j : Nat) t v, Tryd.f4.params[j]? = some t → args[j]? = some v → Value.okWide Tryd.prog W .any base t v := hval0
  have hW' := hW
  obtain ⟨p, q, hA0, hV, rfl, hfz, hnd⟩ := hW
  have hA : DataW.TrodAll enc Tryd.prog W 0 (fun _ => true) true Tryd.f4.params.toList args.toList ds p := hA0
  rw [Tryd.params4] at hA hval
  obtain ⟨v0, vs0, d0, ds0, p0, q0, hargs, rfl, rfl, h0, r0⟩ := trodAll_cons hA
  obtain ⟨v1, vs1, d1, ds1, p1, q1, rfl, rfl, rfl, h1, r1⟩ := trodAll_cons r0
  obtain ⟨v2, vs2, d2, ds2, p2, q2, rfl, rfl, rfl, h2, r2⟩ := trodAll_cons r1
  obtain ⟨v3, vs3, d3, ds3, p3, q3, rfl, rfl, rfl, h3, r3⟩ := trodAll_cons r2
  obtain ⟨v4, vs4, d4, ds4, p4, q4, rfl, rfl, rfl, h4, r4⟩ := trodAll_cons r3
  obtain ⟨rfl, rfl, rfl⟩ := trodAll_nil r4
  obtain rfl : args = #[v0, v1, v2, v3, v4] := by cases args; simp_all
  obtain ⟨rfl, rfl⟩ := trodVars_none hV
  have k0 := h0
  have lt0 : ∀ x ∈ p0, x.block < W.heap.size := by obtain ⟨m, hm⟩ := k0; exact DataW.trod_lt m _ _ _ hm
  have k3 := h3
  have lt3 : ∀ x ∈ p3, x.block < W.heap.size := by obtain ⟨m, hm⟩ := k3; exact DataW.trod_lt m _ _ _ hm
  obtain ⟨n0, u0, a0, rfl, x0, w0, f0⟩ := topen_t (hval 0 37 v0 rfl rfl) h0
  obtain ⟨a1, rfl, rfl, rfl, w1⟩ := open_int Tryd.underlying3 (hval 1 3 v1 rfl rfl) h1
  obtain ⟨a2, rfl, rfl, rfl, w2⟩ := open_int Tryd.underlying3 (hval 2 3 v2 rfl rfl) h2
  obtain ⟨b3, u3, a3, rfl, x3, w3, f3⟩ := topen_bk (hval 3 26 v3 rfl rfl) h3
  obtain ⟨a4, rfl, rfl, rfl, w4⟩ := open_string Tryd.underlying9 (hval 4 9 v4 rfl rfl) h4
  have htab := tabs_at hL
  clear hA0 hval0
  refine (backupComplete_walk n0 u0 a0 a1 a2 b3 u3 a3 a4 W x0 w0 f0 w1 w2 x3 w3 f3 w4 htab).mono fun e W' ⟨he, bel⟩ => ?_
  subst he
  exact ⟨_, rfl, _, _, _, [], _, [], hW', trodAll_mk1 (shut_bool Tryd.underlying4 _), (trodAll_cons_mk (Below.trod Tryd.laidOut (by kernel_rfl) (of_decide_eq_true (by kernel_rfl)) k0 bel lt0) (trodAll_cons_mk (shut_int Tryd.underlying3 w1) (trodAll_cons_mk (shut_int Tryd.underlying3 w2) (trodAll_cons_mk (Below.trod Tryd.laidOut (by kernel_rfl) (of_decide_eq_true (by kernel_rfl)) k3 bel lt3) (trodAll_cons_mk (shut_string Tryd.underlying9 w4) trodAll_mk0))))), rfl, bel.frame _, fun h => by cases h⟩
theorem backupComplete_row : Rows.BackupCompleteSaid :=
  OpenClaim.holds_of_wide 4 Tryd.f4 rfl rfl rfl rfl rfl rfl rfl ⟨rfl, rfl, rfl, rfl, rfl⟩ rfl rfl rfl rfl rfl (by kernel_rfl) Tryd.func4 (by kernel_rfl)
    (of_decide_eq_true (by kernel_rfl)) (by unfold Func.isWrapper; first | (rw [if_pos (by decide +kernel)]; kernel_rfl) | (rw [if_neg (by decide +kernel)]; exact ⟨rfl, rfl⟩))
    (fun os started H enc _ => backupComplete_lifted os started H enc)
theorem BackupComplete_proved : Rows.BackupCompleteCardSaid :=
  Claim7.holds_tied_plain_at .later [] [.data] true Rows.backupCompleteCard.stood.harness false
    backupComplete_row (fun _ h => by cases h) (by kernel_rfl) (fun _ h => by cases h) backupComplete_row_tie rfl ⟨rfl, rfl⟩ (by kernel_rfl) rfl
    (fun f fn hf hfn => by
      obtain rfl : f = 4 := Option.some.inj ((show Tryd.prog.funcNamed "custody/custodylaw36.BackupComplete" = some 4 by kernel_rfl).symm.trans hf) |>.symm
      obtain rfl : fn = Tryd.f4 := (Option.some.inj (Tryd.func4.symm.trans hfn)).symm
      exact ⟨by kernel_rfl, fun j t ht => by
        rw [Tryd.params4] at ht
        rcases j with _ | _ | _ | _ | _ | j
        · simp at ht; subst ht; kernel_rfl
        · simp at ht; subst ht; kernel_rfl
        · simp at ht; subst ht; kernel_rfl
        · simp at ht; subst ht; kernel_rfl
        · simp at ht; subst ht; kernel_rfl
        · simp at ht⟩)
    (by kernel_rfl)

end Go.Proofs.YtbpjdfnnlmblaaaDoor
