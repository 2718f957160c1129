/- The examples, whole. -/
import Derived.Test.YtamdlkflcbefdaaDoorSanP
namespace Go.Proofs.YtamdlkflcbefdaaDoor
open Go.RowKit Go.Shelf
set_option linter.unusedSimpArgs false
set_option linter.unusedVariables false
attribute [local irreducible] Calls
set_option maxRecDepth 100000 in
set_option maxHeartbeats 16000000 in
theorem sanity_c (w : World) (htab : TabAt w) : Calls Tryd.prog 9 #[] w fun e w' => e = .returned (.bool true) ∧ Below w.heap.size w w' := by
  have HTAB := Lib.hid htab
  have X1 := Lib.hid ex_type
  have X2 := Lib.hid (ex_grant 0 128 0 _ _ _ gr1)
  have X3 := Lib.hid (ex_grant 0 128 101 _ _ _ gr2)
  have X4 := Lib.hid (ex_grant 2 0 0 _ _ _ gr3)
  have X5 := Lib.hid ex_quorum
  have X6 := Lib.hid ex_targets
  have X7 := Lib.hid ex_sources
  have X8 := Lib.hid ex_same
  have X9 := Lib.hid ex_uses
  have X10 := Lib.hid (ex_has 1 8 _ hs1)
  have X11 := Lib.hid (ex_has 2 0 _ hs2)
  have X12 := Lib.hid ex_may
  have X13 := Lib.hid (ex_sub 5 7 _ sb1)
  have X14 := Lib.hid (ex_sub 5 6 _ sb2)
  clear htab
  go_enter Tryd.func9, Tryd.ntmps9
  go_wp2_with (first
    | (go_at_call 31; refine (example_c _).mono ?_; rintro e w1 ⟨s, ar, ar2, ar3, rfl, he1, hb1⟩; have HE1 := Lib.hid he1; have HB1 := Lib.hid hb1; clear he1 hb1)
    | (refine st_T (T := 26) #[.string s, .slice (some ar) 2 2, .slice (some ar2) 3 3, .slice (some ar3) 1 1] info_p rfl (.tmp 1) (.tmp 17) rfl w1.heap.size #[.string ⟨#[]⟩, .slice none 0 0, .slice none 0 0, .slice none 0 0] rfl rfl (one_p _ _ _ _ _ _ _ _ _ _) rfl (heap_alloc_new w1 _) ?_; intro w2 hg2 hb2; have hb := ((Below.refl w1.heap.size w1).alloc (Nat.le_refl _) (.cells #[.string ⟨#[]⟩, .slice none 0 0, .slice none 0 0, .slice none 0 0] 26)).trans (hb2 w1.heap.size (Nat.le_refl _)); have H2 : Hid (SanP w2 w1.heap.size s (.slice (some ar) 2 2) (.slice (some ar2) 3 3) (.slice (some ar3) 1 1)) := Lib.hid ⟨HE1.out.on hb, (HTAB.out.on HB1.out).on hb, hg2⟩; have HB2 := Lib.hid (HB1.out.trans (hb.mono HB1.out.size)); obtain ⟨c0, c1, c2, c3⟩ := H2.out.cells; clear hg2 hb2 hb)
    | (go_at_call 11; refine (X1.out w2 _ _ _ _ H2.out.e).mono ?_; rintro e w3 ⟨rfl, hb3⟩; have H3 := Lib.hid (H2.out.on hb3); have HB3 := Lib.hid (HB2.out.trans (hb3.mono HB2.out.size)); clear hb3 c0 c1 c2 c3; obtain ⟨c0, c1, c2, c3⟩ := H3.out.cells)
    | (go_at_call 28; refine (X2.out w3 _ _ _ _ H3.out.e H3.out.tab).mono ?_; rintro e w4 ⟨rfl, hb4⟩; have H4 := Lib.hid (H3.out.on hb4); have HB4 := Lib.hid (HB3.out.trans (hb4.mono HB3.out.size)); clear hb4 c0 c1 c2 c3; obtain ⟨c0, c1, c2, c3⟩ := H4.out.cells)
    | (go_at_call 28; refine (X3.out w4 _ _ _ _ H4.out.e H4.out.tab).mono ?_; rintro e w5 ⟨rfl, hb5⟩; have H5 := Lib.hid (H4.out.on hb5); have HB5 := Lib.hid (HB4.out.trans (hb5.mono HB4.out.size)); clear hb5 c0 c1 c2 c3; obtain ⟨c0, c1, c2, c3⟩ := H5.out.cells)
    | (go_at_call 28; refine (X4.out w5 _ _ _ _ H5.out.e H5.out.tab).mono ?_; rintro e w6 ⟨rfl, hb6⟩; have H6 := Lib.hid (H5.out.on hb6); have HB6 := Lib.hid (HB5.out.trans (hb6.mono HB5.out.size)); clear hb6 c0 c1 c2 c3; obtain ⟨c0, c1, c2, c3⟩ := H6.out.cells)
    | (go_at_call 13; refine (X5.out w6 _ _ _ _ H6.out.e).mono ?_; rintro e w7 ⟨rfl, hb7⟩; have H7 := Lib.hid (H6.out.on hb7); have HB7 := Lib.hid (HB6.out.trans (hb7.mono HB6.out.size)); clear hb7 c0 c1 c2 c3)
    | (refine st_T (T := 33) (qc ⟨3, 2, 0, 0, 0⟩) info_q rfl (.tmp 13) (.tmp 44) rfl w7.heap.size (qc ⟨0, 0, 0, 0, 0⟩) rfl rfl (one_q _) rfl (heap_alloc_new w7 _) ?_; intro w8 hg8 hb8; have hb := ((Below.refl w7.heap.size w7).alloc (Nat.le_refl _) (.cells (qc ⟨0, 0, 0, 0, 0⟩) 33)).trans (hb8 w7.heap.size (Nat.le_refl _)); have H8 := Lib.hid (H7.out.on hb); have HB8 := Lib.hid (HB7.out.trans (hb.mono HB7.out.size)); have HG8 := Lib.hid hg8; obtain ⟨c0, c1, c2, c3⟩ := H8.out.cells; clear hg8 hb8 hb)
    | (go_at_call 22; refine (X6.out w8 _ _ _ _ H8.out.e).mono ?_; rintro e w9 ⟨v9, rfl, hr9, hb9⟩; have H9 := Lib.hid (H8.out.on hb9); have HB9 := Lib.hid (HB8.out.trans (hb9.mono HB8.out.size)); have HR9 := Lib.hid hr9; have HG9 : Hid (w9.heap[w7.heap.size]? = some (.cells (qc ⟨3, 2, 0, 0, 0⟩) 33 (0, 0))) := Lib.hid (by rw [hb9.block _ (Array.getElem?_eq_some_iff.1 HG8.out).1]; exact HG8.out); clear hb9 hr9 c0 c1 c2 c3; obtain ⟨c0, c1, c2, c3⟩ := H9.out.cells)
    | (go_at_call 20; refine (X7.out w9 _ _ _ _ H9.out.e).mono ?_; rintro e w10 ⟨v10, rfl, hr10, hb10⟩; have H10 := Lib.hid (H9.out.on hb10); have HB10 := Lib.hid (HB9.out.trans (hb10.mono HB9.out.size)); have HR9' := Lib.hid (HR9.out.on hb10); have HR10 := Lib.hid hr10; have hg10 : w10.heap[w7.heap.size]? = some (.cells (qc ⟨3, 2, 0, 0, 0⟩) 33 (0, 0)) := (by rw [hb10.block _ (Array.getElem?_eq_some_iff.1 HG9.out).1]; exact HG9.out); have cq : w10.cell? ⟨w7.heap.size, 1, none⟩ = some (.int .i64 2) := cell_of_row _ _ _ _ _ _ hg10; clear hb10 hr10 hg10 c0 c1 c2 c3)
    | (go_at_call 19; refine (X8.out (w10.alloc (.cells #[.int .i64 1] 3)) v9 _ 1 (HR9'.out.alloc _) (one_e w10 1 eI_ok)).mono ?_; rintro e w11 ⟨rfl, hb11⟩; have hb := below1 _ _ hb11; have H11 := Lib.hid (H10.out.on hb); have HB11 := Lib.hid (HB10.out.trans (hb.mono HB10.out.size)); have HR11 := Lib.hid (HR10.out.on hb); clear hb11 hb)
    | (go_at_call 19; refine (X8.out (w11.alloc (.cells #[.int .i64 0] 3)) v10 _ 0 (HR11.out.alloc _) (one_e w11 0 eI_ok)).mono ?_; rintro e w12 ⟨rfl, hb12⟩; have hb := below1 _ _ hb12; have H12 := Lib.hid (H11.out.on hb); have HB12 := Lib.hid (HB11.out.trans (hb.mono HB11.out.size)); clear hb12 hb; obtain ⟨c0, c1, c2, c3⟩ := H12.out.cells)
    | (go_at_call 26; refine (X9.out w12 _ _ _ _ H12.out.e H12.out.tab).mono ?_; rintro e w13 ⟨rfl, hb13⟩; have H13 := Lib.hid (H12.out.on hb13); have HB13 := Lib.hid (HB12.out.trans (hb13.mono HB12.out.size)); clear hb13 c0 c1 c2 c3; obtain ⟨c0, c1, c2, c3⟩ := H13.out.cells)
    | (go_at_call 15; refine (X10.out w13 _ _ _ _ H13.out.e).mono ?_; rintro e w14 ⟨rfl, hb14⟩; have H14 := Lib.hid (H13.out.on hb14); have HB14 := Lib.hid (HB13.out.trans (hb14.mono HB13.out.size)); clear hb14 c0 c1 c2 c3; obtain ⟨c0, c1, c2, c3⟩ := H14.out.cells)
    | (go_at_call 15; refine (X11.out w14 _ _ _ _ H14.out.e).mono ?_; rintro e w15 ⟨rfl, hb15⟩; have H15 := Lib.hid (H14.out.on hb15); have HB15 := Lib.hid (HB14.out.trans (hb15.mono HB14.out.size)); clear hb15 c0 c1 c2 c3; obtain ⟨c0, c1, c2, c3⟩ := H15.out.cells)
    | (go_at_call 24; refine (X12.out w15 _ _ _ _ H15.out.e).mono ?_; rintro e w16 ⟨rfl, hb16⟩; have HB16 := Lib.hid (HB15.out.trans (hb16.mono HB15.out.size)); clear hb16 c0 c1 c2 c3)
    | (go_at_call 17; first
        | (refine (X13.out _).mono ?_; rintro e wz ⟨rfl, hz⟩; rw [hz]; clear hz)
        | (refine (X14.out _).mono ?_; rintro e wz ⟨rfl, hz⟩; rw [hz]; clear hz)))
  go_ret
  exact ⟨rfl, HB16.out⟩
end Go.Proofs.YtamdlkflcbefdaaDoor
