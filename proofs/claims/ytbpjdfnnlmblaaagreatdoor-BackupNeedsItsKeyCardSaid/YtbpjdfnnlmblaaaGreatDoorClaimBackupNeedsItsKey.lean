/- The law BackupNeedsItsKey holds for every input: it returns true and leaves its arguments as they were. No condition. -/
import Derived.Test.YtbpjdfnnlmblaaaGreatDoorMA17
import Derived.Test.YtbpjdfnnlmblaaaGreatDoorTie
import Derived.Test.YtbpjdfnnlmblaaaGreatDoorCards
import Derived.SevenTiedAt
namespace Go.Proofs.YtbpjdfnnlmblaaaGreatDoor
open Go.ChangeShapes Go.WideShapes Go.ChangeAt Go.RowKit
open Go.ChangeMaps (open_string shut_string)
set_option linter.unusedSimpArgs false
set_option linter.unusedVariables false
attribute [local irreducible] Calls putAll validB makeX makeE makeP makeOk opE opB opK sameB fewB compB selK startsB headP pkB blE
set_option maxRecDepth 100000 in
set_option maxHeartbeats 8000000 in
theorem backupNeedsItsKey_walk (a0 : ByteArray) (a1 : ByteArray) (b2 : BK) (u2 : Value) (a2 : List K) (w : World) (w0 : a0.size ≤ maxLen) (w1 : a1.size ≤ maxLen) (x2 : b2.mach) (w2 : RdK w u2 a2) (f2 : numK a2) (htab : K0At w ∧ KAt w) :
    Calls Tryz.prog 5 #[.string a0, .string a1, .agg (bc b2 u2)] w fun e w' => e = .returned (.bool true) ∧ Below w.heap.size w w' := by
  obtain ⟨dk, rfl⟩ := str_of a0
  obtain ⟨ot, rfl⟩ := str_of a1
  obtain ⟨ua, uc, rfl, _, _, _⟩ := id w2
  obtain ⟨W0, hW0⟩ : ∃ W0, W0 = w.alloc (.cells (bc b2 (.slice ua a2.length uc)) 26) := ⟨_, rfl⟩
  have HW := Lib.hid hW0
  have R5 : Hid (W0.heap[w.heap.size]? = some (.cells (bc b2 (.slice ua a2.length uc)) 26 (0, 0))) := Lib.hid (by rw [hW0]; exact heap_alloc_new _ _)
  have HB : Hid (Below w.heap.size w W0) := Lib.hid (by rw [hW0]; exact (Below.refl _ _).alloc (Nat.le_refl _) _)
  have RU : Hid (RdK W0 (.slice ua a2.length uc) a2) := Lib.hid (by rw [hW0]; exact w2.alloc _)
  have HK := Lib.hid htab.2
  have HK0 := Lib.hid htab.1
  have hz := zero_bk
  have HS := Lib.hid (fun (y : World) (a : KAt y) => sanity36_c y a)
  have HF := Lib.hid (fun (y : World) (h : RdK y (.slice ua a2.length uc) a2) => few36_c b2 (.slice ua a2.length uc) a2 y h)
  clear hW0 htab w0 w1 w2
  have tok1 : True := trivial
  have tok2 : True := trivial
  have tok3 : True := trivial
  have tok4 : True := trivial
  have tok5 : True := trivial
  have tok6 : True := trivial
  have tok7 : True := trivial
  have tok8 : True := trivial
  cases hf : fewB b2 a2 with
  | false =>
    rw [hf] at HF
    go_enter Tryz.func5, Tryz.ntmps5
    go_upto_region 1 with fail
    rw [← HW.out]
    go_wp2_with (first
      | (clear tok1; go_at_call 6; refine (HF.out _ RU.out).mono ?_; rintro e yy ⟨rfl, hb⟩; replace HB := Lib.hid (HB.out.trans (hb.mono HB.out.size)); replace R5 := Lib.hid (row_keep R5.out hb); replace RU := Lib.hid (RU.out.on hb); clear hb)
      | (refine ld_bk b2 _ rfl (.tmp 5) rfl _ rfl _ R5.out ?_)
      | (go_at_call 7; refine (HS.out _ (HK.out.on HB.out)).mono ?_; rintro e yy ⟨rfl, hb⟩; replace HB := Lib.hid (HB.out.trans (hb.mono HB.out.size)); clear hb))
    go_ret
    exact ⟨rfl, HB.out⟩
  | true =>
    rw [hf] at HF
    obtain ⟨l1, m1⟩ := fewB_parts hf
    clear hf
    rcases Nat.lt_or_ge 100 dk.length with hd | hd
    · have i1 : (100 : Int) < (dk.length : Int) := by omega
      clear hd l1 m1
      go_enter Tryz.func5, Tryz.ntmps5
      go_upto_region 1 with fail
      rw [← HW.out]
      go_wp2_with (first
        | (clear tok1; go_at_call 6; refine (HF.out _ RU.out).mono ?_; rintro e yy ⟨rfl, hb⟩; replace HB := Lib.hid (HB.out.trans (hb.mono HB.out.size)); replace R5 := Lib.hid (row_keep R5.out hb); replace RU := Lib.hid (RU.out.on hb); clear hb)
        | (refine ld_bk b2 _ rfl (.tmp 5) rfl _ rfl _ R5.out ?_)
        | (go_at_call 7; refine (HS.out _ (HK.out.on HB.out)).mono ?_; rintro e yy ⟨rfl, hb⟩; replace HB := Lib.hid (HB.out.trans (hb.mono HB.out.size)); clear hb))
      go_ret
      exact ⟨rfl, HB.out⟩
    have i1 : ¬ (100 : Int) < (dk.length : Int) := by omega
    rcases Nat.lt_or_ge 100 ot.length with ho | ho
    · have i2 : (100 : Int) < (ot.length : Int) := by omega
      clear hd ho l1 m1
      go_enter Tryz.func5, Tryz.ntmps5
      go_upto_region 1 with fail
      rw [← HW.out]
      go_wp2_with (first
        | (clear tok1; go_at_call 6; refine (HF.out _ RU.out).mono ?_; rintro e yy ⟨rfl, hb⟩; replace HB := Lib.hid (HB.out.trans (hb.mono HB.out.size)); replace R5 := Lib.hid (row_keep R5.out hb); replace RU := Lib.hid (RU.out.on hb); clear hb)
        | (refine ld_bk b2 _ rfl (.tmp 5) rfl _ rfl _ R5.out ?_)
        | (go_at_call 7; refine (HS.out _ (HK.out.on HB.out)).mono ?_; rintro e yy ⟨rfl, hb⟩; replace HB := Lib.hid (HB.out.trans (hb.mono HB.out.size)); clear hb))
      go_ret
      exact ⟨rfl, HB.out⟩
    have i2 : ¬ (100 : Int) < (ot.length : Int) := by omega
    have HM := Lib.hid (fun (y : World) (a : KAt y) (h : RdK y (.slice ua a2.length uc) a2) => make_t dk b2 (.slice ua a2.length uc) a2 y a h x2 f2)
    by_cases hok : makeOk dk b2 a2 = true
    case neg =>
      have e0 : makeE dk b2 a2 = 1 := by unfold makeE; rw [if_neg hok]
      rw [e0] at HM
      generalize makeX dk b2 a2 = s at HM
      clear hok e0 hd ho l1 m1
      go_enter Tryz.func5, Tryz.ntmps5
      go_upto_region 1 with fail
      rw [← HW.out]
      go_wp2_with (first
        | (clear tok1; go_at_call 6; refine (HF.out _ RU.out).mono ?_; rintro e yy ⟨rfl, hb⟩; replace HB := Lib.hid (HB.out.trans (hb.mono HB.out.size)); replace R5 := Lib.hid (row_keep R5.out hb); replace RU := Lib.hid (RU.out.on hb); clear hb)
        | (refine ld_bk b2 _ rfl (.tmp 5) rfl _ rfl _ R5.out ?_)
        | (clear tok2; go_at_call 8; refine (HM.out _ (HK.out.on HB.out) RU.out).mono ?_; rintro e yy ⟨rfl, hb⟩; replace HB := Lib.hid (HB.out.trans (hb.mono HB.out.size)); replace R5 := Lib.hid (row_keep R5.out hb); replace RU := Lib.hid (RU.out.on hb); clear hb)
        | (go_at_call 7; refine (HS.out _ (HK.out.on HB.out)).mono ?_; rintro e yy ⟨rfl, hb⟩; replace HB := Lib.hid (HB.out.trans (hb.mono HB.out.size)); clear hb))
      go_ret
      exact ⟨rfl, HB.out⟩
    obtain ⟨r1, r2, r3⟩ := rt_open dk b2 a2 x2 f2 hok
    have hpe : blE (makeP dk b2 a2) = 0 ∧ pkB (makeP dk b2 a2) = b2 := op_pk r1 r2
    have hsl := makeP_len36 x2 hok l1
    have e0 : makeE dk b2 a2 = 0 := by unfold makeE; rw [if_pos hok]
    have e1 : makeX dk b2 a2 = makeP dk b2 a2 := by unfold makeX; rw [if_pos hok]
    rw [e0, e1] at HM
    generalize makeP dk b2 a2 = s at HM hpe hsl r1 r2 r3
    have HPC := Lib.hid (fun (y : World) => peekf_c s y (by omega))
    rw [hpe.1, hpe.2] at HPC
    have HOC := Lib.hid (fun (y : World) (a : KAt y) => bopen_t ot s y a (by omega))
    have HOR := Lib.hid (fun (y : World) (a : K0At y) => open36_r ot s y a (by omega))
    generalize opB ot s = ob at HOC HOR
    generalize opK ot s = ok at HOC HOR
    generalize opE ot s = oe at HOC HOR
    have HSP := Lib.hid (fun (y : World) => by have h := same_r b2 b2 (.slice none 0 0) (.slice none 0 0) [] [] y (rdK_nil y) (rdK_nil y); rw [sameB_refl] at h; exact h)
    have HSO := Lib.hid (fun (v u : Value) (y : World) (h1 : RdK y v ok) (h2 : RdK y u ok) => by have h := same_r ob ob v u ok ok y h1 h2; rw [sameB_refl] at h; exact h)
    have e2 := beq_self_eq_true oe
    clear hd ho l1 m1 hok r1 r2 r3 hpe hsl e0 e1 x2 f2
    go_enter Tryz.func5, Tryz.ntmps5
    go_upto_region 1 with fail
    rw [← HW.out]
    go_upto_region 7 with (first
      | (clear tok1; go_at_call 6; refine (HF.out _ RU.out).mono ?_; rintro e yy ⟨rfl, hb⟩; replace HB := Lib.hid (HB.out.trans (hb.mono HB.out.size)); replace R5 := Lib.hid (row_keep R5.out hb); replace RU := Lib.hid (RU.out.on hb); clear hb)
      | (refine ld_bk b2 _ rfl (.tmp 5) rfl _ rfl _ R5.out ?_)
      | (clear tok2; go_at_call 8; refine (HM.out _ (HK.out.on HB.out) RU.out).mono ?_; rintro e yy ⟨rfl, hb⟩; replace HB := Lib.hid (HB.out.trans (hb.mono HB.out.size)); replace R5 := Lib.hid (row_keep R5.out hb); replace RU := Lib.hid (RU.out.on hb); clear hb)
      | (clear tok3; go_at_call 20; refine (HPC.out _).mono ?_; rintro e yy ⟨rfl, hb⟩; replace HB := Lib.hid (HB.out.trans (hb.mono HB.out.size)); replace R5 := Lib.hid (row_keep R5.out hb); replace RU := Lib.hid (RU.out.on hb); clear hb)
      | (refine st_new (bc b2 (.slice none 0 0)) 26 rfl (.tmp 9) (.tmp 42) rfl _ rfl rfl rfl (by rw [bc_size]; exact info_b) (by rw [bc_size, bc_size]) (bcone _ _ _ _) ?_; have hlt5 := (Array.getElem?_eq_some_iff.1 R5.out).1; have hb := (Below.refl yy.heap.size yy).alloc (Nat.le_refl _) (.cells (bc b2 (.slice none 0 0)) 26); replace HB := Lib.hid (HB.out.trans (hb.mono HB.out.size)); replace R5 := Lib.hid (row_keep R5.out hb); replace RU := Lib.hid (RU.out.on hb); have R9 := Lib.hid (heap_alloc_new yy (.cells (bc b2 (.slice none 0 0)) 26)); have GR9 : Hid (w.heap.size < yy.heap.size) := Lib.hid hlt5; clear hb))
    go_upto_region 8 with (first
      | (clear tok4; go_at_call 22; refine (HOC.out _ (HK.out.on HB.out)).mono ?_; rintro e yy ⟨ca, cc, rfl, hr, hb⟩; replace HB := Lib.hid (HB.out.trans (hb.mono HB.out.size)); replace R5 := Lib.hid (row_keep R5.out hb); replace R9 := Lib.hid (row_keep R9.out hb); replace RU := Lib.hid (RU.out.on hb); have RC := Lib.hid hr; clear hr; clear hb)
      | (refine st_new (bc ob (.slice ca ok.length cc)) 26 rfl (.tmp 11) (.tmp 48) rfl _ rfl rfl rfl (by rw [bc_size]; exact info_b) (by rw [bc_size, bc_size]) (bcone _ _ _ _) ?_; have hlt5 := (Array.getElem?_eq_some_iff.1 R5.out).1; have hb := (Below.refl yy.heap.size yy).alloc (Nat.le_refl _) (.cells (bc ob (.slice ca ok.length cc)) 26); replace HB := Lib.hid (HB.out.trans (hb.mono HB.out.size)); replace R5 := Lib.hid (row_keep R5.out hb); replace R9 := Lib.hid (row_keep R9.out hb); replace RU := Lib.hid (RU.out.on hb); replace RC := Lib.hid (RC.out.on hb); have R11 := Lib.hid (heap_alloc_new yy (.cells (bc ob (.slice ca ok.length cc)) 26)); have GR11 : Hid (w.heap.size < yy.heap.size) := Lib.hid hlt5; clear hb))
    go_upto_region 9 with (first
      | (clear tok5; go_at_call 23; refine (HOR.out _ (HK0.out.on HB.out)).mono ?_; rintro e yy ⟨da, dc, rfl, hr, hb⟩; replace HB := Lib.hid (HB.out.trans (hb.mono HB.out.size)); replace R5 := Lib.hid (row_keep R5.out hb); replace R9 := Lib.hid (row_keep R9.out hb); replace R11 := Lib.hid (row_keep R11.out hb); replace RU := Lib.hid (RU.out.on hb); replace RC := Lib.hid (RC.out.on hb); have RD := Lib.hid hr; clear hr; clear hb)
      | (refine st_new (bc ob (.slice da ok.length dc)) 26 rfl (.tmp 13) (.tmp 54) rfl _ rfl rfl rfl (by rw [bc_size]; exact info_b) (by rw [bc_size, bc_size]) (bcone _ _ _ _) ?_; have hlt5 := (Array.getElem?_eq_some_iff.1 R5.out).1; have hb := (Below.refl yy.heap.size yy).alloc (Nat.le_refl _) (.cells (bc ob (.slice da ok.length dc)) 26); replace HB := Lib.hid (HB.out.trans (hb.mono HB.out.size)); replace R5 := Lib.hid (row_keep R5.out hb); replace R9 := Lib.hid (row_keep R9.out hb); replace R11 := Lib.hid (row_keep R11.out hb); replace RU := Lib.hid (RU.out.on hb); replace RC := Lib.hid (RC.out.on hb); replace RD := Lib.hid (RD.out.on hb); have R13 := Lib.hid (heap_alloc_new yy (.cells (bc ob (.slice da ok.length dc)) 26)); have GR13 : Hid (w.heap.size < yy.heap.size) := Lib.hid hlt5; clear hb; generalize yy.alloc (.cells (bc ob (.slice da ok.length dc)) 26) = Y at HB R5 R9 R11 R13 RU RC RD ⊢))
    have c37 := (cell_of_row _ _ 37 _ _ _ R5.out).trans (bc_37 b2 (.slice ua a2.length uc))
    have f37 := frozen_of_row _ _ 37 _ _ R5.out
    go_upto_region 10 with fail
    replace RC := Lib.hid (RC.out.setS c37 (.slice none 0 0))
    replace RD := Lib.hid (RD.out.setS c37 (.slice none 0 0))
    have HQ : Hid (Below w.heap.size w (Y.setCell ⟨w.heap.size, 37, none⟩ (.slice none 0 0))) := Lib.hid (by rw [setCell_rowC _ _ _ _ _ _ _ R5.out]; exact HB.out.trans (below_row (Nat.le_refl _)))
    have Q5 : Hid ((Y.setCell ⟨w.heap.size, 37, none⟩ (.slice none 0 0)).heap[w.heap.size]? = some (.cells (bc b2 (.slice none 0 0)) 26 (0, 0))) := Lib.hid (by rw [setCell_rowC _ _ _ _ _ _ _ R5.out, bcset_37]; exact setRow_heap _ _ _ _ _ _ R5.out)
    replace R9 := Lib.hid ((setCell_other (k := 37) (v := .slice none 0 0) (Nat.ne_of_lt GR9.out)).trans R9.out)
    replace R11 := Lib.hid ((setCell_other (k := 37) (v := .slice none 0 0) (Nat.ne_of_lt GR11.out)).trans R11.out)
    replace R13 := Lib.hid ((setCell_other (k := 37) (v := .slice none 0 0) (Nat.ne_of_lt GR13.out)).trans R13.out)
    clear R5 HB c37 f37 RU
    have R5 := Q5
    have HB := HQ
    clear Q5 HQ
    generalize Y.setCell ⟨w.heap.size, 37, none⟩ (.slice none 0 0) = Z at R5 HB R9 R11 R13 RC RD ⊢
    go_wp2_with (first
      | (refine ld_bk b2 _ rfl (.tmp 9) rfl _ rfl _ R9.out ?_)
      | (refine ld_bk b2 _ rfl (.tmp 5) rfl _ rfl _ R5.out ?_)
      | (clear tok6; go_at_call 12; refine (HSP.out _).mono ?_; rintro e yy ⟨rfl, hb⟩; replace HB := Lib.hid (HB.out.trans (hb.mono HB.out.size)); replace R5 := Lib.hid (row_keep R5.out hb); replace R9 := Lib.hid (row_keep R9.out hb); replace R11 := Lib.hid (row_keep R11.out hb); replace R13 := Lib.hid (row_keep R13.out hb); replace RC := Lib.hid (RC.out.on hb); replace RD := Lib.hid (RD.out.on hb); clear hb)
      | (clear tok7; go_at_call 7; refine (HS.out _ (HK.out.on HB.out)).mono ?_; rintro e yy ⟨rfl, hb⟩; replace HB := Lib.hid (HB.out.trans (hb.mono HB.out.size)); replace R5 := Lib.hid (row_keep R5.out hb); replace R9 := Lib.hid (row_keep R9.out hb); replace R11 := Lib.hid (row_keep R11.out hb); replace R13 := Lib.hid (row_keep R13.out hb); replace RC := Lib.hid (RC.out.on hb); replace RD := Lib.hid (RD.out.on hb); clear hb)
      | (refine ld_bk ob _ rfl (.tmp 11) rfl _ rfl _ R11.out ?_)
      | (refine ld_bk ob _ rfl (.tmp 13) rfl _ rfl _ R13.out ?_)
      | (clear tok8; go_at_call 12; refine (HSO.out _ _ _ RC.out RD.out).mono ?_; rintro e yy ⟨rfl, hb⟩; replace HB := Lib.hid (HB.out.trans (hb.mono HB.out.size)); replace R5 := Lib.hid (row_keep R5.out hb); replace R9 := Lib.hid (row_keep R9.out hb); replace R11 := Lib.hid (row_keep R11.out hb); replace R13 := Lib.hid (row_keep R13.out hb); replace RC := Lib.hid (RC.out.on hb); replace RD := Lib.hid (RD.out.on hb); clear hb))
    go_ret
    exact ⟨rfl, HB.out⟩
set_option maxRecDepth 100000 in
theorem backupNeedsItsKey_lifted (os : Os) (started : os.Started) (H : Type) (enc : TypeId × Value → H) :
    ReturnsInHanded {} Tryz.checked os 5 .any (fun w args => (Rows.backupNeedsItsKeySpec.pre enc Tryz.prog Tryz.f5 [] false w args ∧ laidMetH Tryz.prog laidL2 w) ∧ sizedMet enc Tryz.prog Tryz.f5 (OpenSpec.ofChange Rows.backupNeedsItsKeySpec) false w args) (Rows.backupNeedsItsKeySpec.post enc Tryz.prog Tryz.f5 false true false false) := by
  refine returnsInHanded_of_change_and (C := Tryz.checked) (X := fun w _ => laidMetH Tryz.prog laidL2 w) (fun _ _ _ hh h => h.of_heap hh) Tryz.own started (by kernel_rfl) Tryz.func5
    (ChangeSpec.witness_shaped (enc := enc) (C := Tryz.checked) (os := os) (X := fun w _ => laidMetH Tryz.prog laidL2 w) false (World.doorLaid Tryz.prog 154 os) #[.string ByteArray.empty, .string ByteArray.empty, .agg #[.int .u8 0, .int .u8 0, .int .u8 0, .int .u8 0, .int .u8 0, .int .u8 0, .int .u8 0, .int .u8 0, .int .u8 0, .int .u8 0, .int .u8 0, .int .u8 0, .int .u8 0, .int .u8 0, .int .u8 0, .int .u8 0, .int .i64 0, .int .i64 0, .int .i64 0, .int .i64 0, .int .u8 0, .int .u8 0, .int .u8 0, .int .u8 0, .int .u8 0, .int .u8 0, .int .u8 0, .int .u8 0, .int .u8 0, .int .u8 0, .int .u8 0, .int .u8 0, .int .u8 0, .int .u8 0, .int .u8 0, .int .u8 0, .string ByteArray.empty, .slice none 0 0]] 8 rfl (World.shaped_of_RefB (by kernel_rfl) (by kernel_rfl)) (by kernel_rfl) (by kernel_rfl) (by kernel_rfl) (door2_met os _)) ?_
  intro W base args ds gs before hval0 hW _ hwt hL _
  have hval : ∀ (j : Nat) t v, Tryz.f5.params[j]? = some t → args[j]? = some v → Value.okWide Tryz.prog W .any base t v := hval0
  have hW' := hW
  obtain ⟨p, q, hA0, hV, rfl, hfz, hnd⟩ := hW
  have hA : DataW.TrodAll enc Tryz.prog W 0 (fun _ => true) true Tryz.f5.params.toList args.toList ds p := hA0
  rw [Tryz.params5] at hA hval
  obtain ⟨v0, vs0, d0, ds0, p0, q0, hargs, rfl, rfl, h0, r0⟩ := trodAll_cons hA
  obtain ⟨v1, vs1, d1, ds1, p1, q1, rfl, rfl, rfl, h1, r1⟩ := trodAll_cons r0
  obtain ⟨v2, vs2, d2, ds2, p2, q2, rfl, rfl, rfl, h2, r2⟩ := trodAll_cons r1
  obtain ⟨rfl, rfl, rfl⟩ := trodAll_nil r2
  obtain rfl : args = #[v0, v1, v2] := by cases args; simp_all
  obtain ⟨rfl, rfl⟩ := trodVars_none hV
  have k2 := h2
  have lt2 : ∀ x ∈ p2, x.block < W.heap.size := by obtain ⟨m, hm⟩ := k2; exact DataW.trod_lt m _ _ _ hm
  obtain ⟨a0, rfl, rfl, rfl, w0⟩ := open_string Tryz.underlying9 (hval 0 9 v0 rfl rfl) h0
  obtain ⟨a1, rfl, rfl, rfl, w1⟩ := open_string Tryz.underlying9 (hval 1 9 v1 rfl rfl) h1
  obtain ⟨b2, u2, a2, rfl, x2, w2, f2⟩ := topen_bk (hval 2 26 v2 rfl rfl) h2
  have htab := tabs2_at hL
  clear hA0 hval0
  refine (backupNeedsItsKey_walk a0 a1 b2 u2 a2 W w0 w1 x2 w2 f2 htab).mono fun e W' ⟨he, bel⟩ => ?_
  subst he
  exact ⟨_, rfl, _, _, _, [], _, [], hW', trodAll_mk1 (shut_bool Tryz.underlying4 _), (trodAll_cons_mk (shut_string Tryz.underlying9 w0) (trodAll_cons_mk (shut_string Tryz.underlying9 w1) (trodAll_cons_mk (Below.trod Tryz.laidOut (by kernel_rfl) (of_decide_eq_true (by kernel_rfl)) k2 bel lt2) trodAll_mk0))), rfl, bel.frame _, fun h => by cases h⟩
theorem backupNeedsItsKey_row : Rows.BackupNeedsItsKeySaid :=
  OpenClaim.holds_of_wide 5 Tryz.f5 rfl rfl rfl rfl rfl rfl rfl ⟨rfl, rfl, rfl, rfl, rfl⟩ rfl rfl rfl rfl rfl (by kernel_rfl) Tryz.func5 (by kernel_rfl)
    (of_decide_eq_true (by kernel_rfl)) (by unfold Func.isWrapper; first | (rw [if_pos (by decide +kernel)]; kernel_rfl) | (rw [if_neg (by decide +kernel)]; exact ⟨rfl, rfl⟩))
    (fun os started H enc _ => backupNeedsItsKey_lifted os started H enc)
theorem BackupNeedsItsKey_proved : Rows.BackupNeedsItsKeyCardSaid :=
  Claim7.holds_tied_plain_at .later [] [.data, .data] true Rows.backupNeedsItsKeyCard.stood.harness false
    backupNeedsItsKey_row (fun _ h => by cases h) (by kernel_rfl) (fun _ h => by cases h) backupNeedsItsKey_row_tie rfl ⟨rfl, rfl⟩ (by kernel_rfl) rfl
    (fun f fn hf hfn => by
      obtain rfl : f = 5 := Option.some.inj ((show Tryz.prog.funcNamed "custody/custodylaw36.BackupNeedsItsKey" = some 5 by kernel_rfl).symm.trans hf) |>.symm
      obtain rfl : fn = Tryz.f5 := (Option.some.inj (Tryz.func5.symm.trans hfn)).symm
      exact ⟨by kernel_rfl, fun j t ht => by
        rw [Tryz.params5] at ht
        rcases j with _ | _ | _ | j
        · simp at ht; subst ht; kernel_rfl
        · simp at ht; subst ht; kernel_rfl
        · simp at ht; subst ht; kernel_rfl
        · simp at ht⟩)
    (by kernel_rfl)

end Go.Proofs.YtbpjdfnnlmblaaaGreatDoor
