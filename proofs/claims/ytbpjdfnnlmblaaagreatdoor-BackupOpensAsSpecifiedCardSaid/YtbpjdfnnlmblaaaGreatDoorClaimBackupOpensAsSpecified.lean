/- The law BackupOpensAsSpecified holds for every input: it returns true and leaves its arguments as they were. No condition. -/
import Derived.Test.YtbpjdfnnlmblaaaGreatDoorMA17
import Derived.Test.YtbpjdfnnlmblaaaGreatDoorTie
import Derived.Test.YtbpjdfnnlmblaaaGreatDoorCards
import Derived.SevenTiedAt
namespace Go.Proofs.YtbpjdfnnlmblaaaGreatDoor
open Go.ChangeShapes Go.WideShapes Go.ChangeAt Go.RowKit
open Go.ChangeMaps (open_string shut_string)
set_option linter.unusedSimpArgs false
set_option linter.unusedVariables false
attribute [local irreducible] Calls putAll validB makeX makeE makeP makeOk opE opB opK sameB fewB compB selK startsB headP pkB blE
set_option maxRecDepth 100000 in
set_option maxHeartbeats 8000000 in
theorem backupOpensAsSpecified_walk (a0 : ByteArray) (a1 : ByteArray) (w : World) (w0 : a0.size ≤ maxLen) (w1 : a1.size ≤ maxLen) (htab : K0At w ∧ KAt w) :
    Calls Tryz.prog 4 #[.string a0, .string a1] w fun e w' => e = .returned (.bool true) ∧ Below w.heap.size w w' := by
  obtain ⟨dk, rfl⟩ := str_of a0
  obtain ⟨blob, rfl⟩ := str_of a1
  have HK := Lib.hid htab.2
  have HK0 := Lib.hid htab.1
  have HB := Lib.hid (Below.refl w.heap.size w)
  have hz := zero_bk
  have HS := Lib.hid (fun (y : World) (a : KAt y) => sanity36_c y a)
  clear htab w0 w1
  rcases Nat.lt_or_ge 100 dk.length with hd | hd
  · have i1 : (100 : Int) < (dk.length : Int) := by omega
    clear hd
    go_enter Tryz.func4, Tryz.ntmps4
    go_wp2_with (first
      | (go_at_call 7; refine (HS.out _ (HK.out.on HB.out)).mono ?_; rintro e yy ⟨rfl, hb⟩; replace HB := Lib.hid (HB.out.trans (hb.mono HB.out.size)); clear hb))
    go_ret
    exact ⟨rfl, HB.out⟩
  have i1 : ¬ (100 : Int) < (dk.length : Int) := by omega
  rcases Nat.lt_or_ge 5000 blob.length with hl | hl
  · have i2 : (5000 : Int) < (blob.length : Int) := by omega
    clear hd hl
    go_enter Tryz.func4, Tryz.ntmps4
    go_wp2_with (first
      | (go_at_call 7; refine (HS.out _ (HK.out.on HB.out)).mono ?_; rintro e yy ⟨rfl, hb⟩; replace HB := Lib.hid (HB.out.trans (hb.mono HB.out.size)); clear hb))
    go_ret
    exact ⟨rfl, HB.out⟩
  have i2 : ¬ (5000 : Int) < (blob.length : Int) := by omega
  have HPC := Lib.hid (fun (y : World) => peekf_c blob y (by omega))
  have HPR := Lib.hid (fun (y : World) => peek_r blob y (by omega))
  have HOC := Lib.hid (fun (y : World) (a : KAt y) => bopen_t dk blob y a (by omega))
  have HOR := Lib.hid (fun (y : World) (a : K0At y) => open36_r dk blob y a (by omega))
  generalize pkB blob = pk at HPC HPR
  generalize blE blob = pe at HPC HPR
  generalize opB dk blob = ob at HOC HOR
  generalize opK dk blob = ok at HOC HOR
  generalize opE dk blob = oe at HOC HOR
  have HSP := Lib.hid (fun (y : World) => by have h := same_r pk pk (.slice none 0 0) (.slice none 0 0) [] [] y (rdK_nil y) (rdK_nil y); rw [sameB_refl] at h; exact h)
  have HSO := Lib.hid (fun (v u : Value) (y : World) (h1 : RdK y v ok) (h2 : RdK y u ok) => by have h := same_r ob ob v u ok ok y h1 h2; rw [sameB_refl] at h; exact h)
  have e1 := beq_self_eq_true pe
  have e2 := beq_self_eq_true oe
  clear hd hl
  have tok1 : True := trivial
  have tok2 : True := trivial
  have tok3 : True := trivial
  have tok4 : True := trivial
  have tok5 : True := trivial
  have tok6 : True := trivial
  go_enter Tryz.func4, Tryz.ntmps4
  go_upto_region 4 with (first
    | (clear tok1; go_at_call 20; refine (HPC.out _).mono ?_; rintro e yy ⟨rfl, hb⟩; replace HB := Lib.hid (HB.out.trans (hb.mono HB.out.size)); clear hb)
    | (refine st_new (bc pk (.slice none 0 0)) 26 rfl (.tmp 5) (.tmp 26) rfl _ rfl rfl rfl (by rw [bc_size]; exact info_b) (by rw [bc_size, bc_size]) (bcone _ _ _ _) ?_; have hb := (Below.refl yy.heap.size yy).alloc (Nat.le_refl _) (.cells (bc pk (.slice none 0 0)) 26); replace HB := Lib.hid (HB.out.trans (hb.mono HB.out.size)); have R5 := Lib.hid (heap_alloc_new yy (.cells (bc pk (.slice none 0 0)) 26)); clear hb))
  go_upto_region 5 with (first
    | (clear tok2; go_at_call 21; refine (HPR.out _).mono ?_; rintro e yy ⟨rfl, hb⟩; replace HB := Lib.hid (HB.out.trans (hb.mono HB.out.size)); replace R5 := Lib.hid (row_keep R5.out hb); clear hb)
    | (refine st_new (bc pk (.slice none 0 0)) 26 rfl (.tmp 7) (.tmp 31) rfl _ rfl rfl rfl (by rw [bc_size]; exact info_b) (by rw [bc_size, bc_size]) (bcone _ _ _ _) ?_; have hb := (Below.refl yy.heap.size yy).alloc (Nat.le_refl _) (.cells (bc pk (.slice none 0 0)) 26); replace HB := Lib.hid (HB.out.trans (hb.mono HB.out.size)); replace R5 := Lib.hid (row_keep R5.out hb); have R7 := Lib.hid (heap_alloc_new yy (.cells (bc pk (.slice none 0 0)) 26)); clear hb))
  go_upto_region 6 with (first
    | (clear tok3; go_at_call 22; refine (HOC.out _ (HK.out.on HB.out)).mono ?_; rintro e yy ⟨ca, cc, rfl, hr, hb⟩; replace HB := Lib.hid (HB.out.trans (hb.mono HB.out.size)); replace R5 := Lib.hid (row_keep R5.out hb); replace R7 := Lib.hid (row_keep R7.out hb); have RC := Lib.hid hr; clear hr; clear hb)
    | (refine st_new (bc ob (.slice ca ok.length cc)) 26 rfl (.tmp 9) (.tmp 37) rfl _ rfl rfl rfl (by rw [bc_size]; exact info_b) (by rw [bc_size, bc_size]) (bcone _ _ _ _) ?_; have hb := (Below.refl yy.heap.size yy).alloc (Nat.le_refl _) (.cells (bc ob (.slice ca ok.length cc)) 26); replace HB := Lib.hid (HB.out.trans (hb.mono HB.out.size)); replace R5 := Lib.hid (row_keep R5.out hb); replace R7 := Lib.hid (row_keep R7.out hb); replace RC := Lib.hid (RC.out.on hb); have R9 := Lib.hid (heap_alloc_new yy (.cells (bc ob (.slice ca ok.length cc)) 26)); clear hb))
  go_upto_region 7 with (first
    | (clear tok4; go_at_call 23; refine (HOR.out _ (HK0.out.on HB.out)).mono ?_; rintro e yy ⟨da, dc, rfl, hr, hb⟩; replace HB := Lib.hid (HB.out.trans (hb.mono HB.out.size)); replace R5 := Lib.hid (row_keep R5.out hb); replace R7 := Lib.hid (row_keep R7.out hb); replace R9 := Lib.hid (row_keep R9.out hb); replace RC := Lib.hid (RC.out.on hb); have RD := Lib.hid hr; clear hr; clear hb)
    | (refine st_new (bc ob (.slice da ok.length dc)) 26 rfl (.tmp 11) (.tmp 43) rfl _ rfl rfl rfl (by rw [bc_size]; exact info_b) (by rw [bc_size, bc_size]) (bcone _ _ _ _) ?_; have hb := (Below.refl yy.heap.size yy).alloc (Nat.le_refl _) (.cells (bc ob (.slice da ok.length dc)) 26); replace HB := Lib.hid (HB.out.trans (hb.mono HB.out.size)); replace R5 := Lib.hid (row_keep R5.out hb); replace R7 := Lib.hid (row_keep R7.out hb); replace R9 := Lib.hid (row_keep R9.out hb); replace RC := Lib.hid (RC.out.on hb); replace RD := Lib.hid (RD.out.on hb); have R11 := Lib.hid (heap_alloc_new yy (.cells (bc ob (.slice da ok.length dc)) 26)); clear hb))
  have tok7 : True := trivial
  have tok8 : True := trivial
  go_wp2_with (first
    | (refine ld_bk pk _ rfl (.tmp 5) rfl _ rfl _ R5.out ?_)
    | (refine ld_bk pk _ rfl (.tmp 7) rfl _ rfl _ R7.out ?_)
    | (clear tok5; go_at_call 12; refine (HSP.out _).mono ?_; rintro e yy ⟨rfl, hb⟩; replace HB := Lib.hid (HB.out.trans (hb.mono HB.out.size)); replace R5 := Lib.hid (row_keep R5.out hb); replace R7 := Lib.hid (row_keep R7.out hb); replace R9 := Lib.hid (row_keep R9.out hb); replace R11 := Lib.hid (row_keep R11.out hb); replace RC := Lib.hid (RC.out.on hb); replace RD := Lib.hid (RD.out.on hb); clear hb)
    | (clear tok6; go_at_call 7; refine (HS.out _ (HK.out.on HB.out)).mono ?_; rintro e yy ⟨rfl, hb⟩; replace HB := Lib.hid (HB.out.trans (hb.mono HB.out.size)); replace R5 := Lib.hid (row_keep R5.out hb); replace R7 := Lib.hid (row_keep R7.out hb); replace R9 := Lib.hid (row_keep R9.out hb); replace R11 := Lib.hid (row_keep R11.out hb); replace RC := Lib.hid (RC.out.on hb); replace RD := Lib.hid (RD.out.on hb); clear hb)
    | (refine ld_bk ob _ rfl (.tmp 9) rfl _ rfl _ R9.out ?_)
    | (refine ld_bk ob _ rfl (.tmp 11) rfl _ rfl _ R11.out ?_)
    | (clear tok7; go_at_call 12; refine (HSO.out _ _ _ RC.out RD.out).mono ?_; rintro e yy ⟨rfl, hb⟩; replace HB := Lib.hid (HB.out.trans (hb.mono HB.out.size)); replace R5 := Lib.hid (row_keep R5.out hb); replace R7 := Lib.hid (row_keep R7.out hb); replace R9 := Lib.hid (row_keep R9.out hb); replace R11 := Lib.hid (row_keep R11.out hb); replace RC := Lib.hid (RC.out.on hb); replace RD := Lib.hid (RD.out.on hb); clear hb))
  go_ret
  exact ⟨rfl, HB.out⟩
set_option maxRecDepth 100000 in
theorem backupOpensAsSpecified_lifted (os : Os) (started : os.Started) (H : Type) (enc : TypeId × Value → H) :
    ReturnsInHanded {} Tryz.checked os 4 .any (fun w args => (Rows.backupOpensAsSpecifiedSpec.pre enc Tryz.prog Tryz.f4 [] false w args ∧ laidMetH Tryz.prog laidL2 w) ∧ sizedMet enc Tryz.prog Tryz.f4 (OpenSpec.ofChange Rows.backupOpensAsSpecifiedSpec) false w args) (Rows.backupOpensAsSpecifiedSpec.post enc Tryz.prog Tryz.f4 false true false false) := by
  refine returnsInHanded_of_change_and (C := Tryz.checked) (X := fun w _ => laidMetH Tryz.prog laidL2 w) (fun _ _ _ hh h => h.of_heap hh) Tryz.own started (by kernel_rfl) Tryz.func4
    (ChangeSpec.witness_shaped (enc := enc) (C := Tryz.checked) (os := os) (X := fun w _ => laidMetH Tryz.prog laidL2 w) false (World.doorLaid Tryz.prog 154 os) #[.string ByteArray.empty, .string ByteArray.empty] 8 rfl (World.shaped_of_RefB (by kernel_rfl) (by kernel_rfl)) (by kernel_rfl) (by kernel_rfl) (by kernel_rfl) (door2_met os _)) ?_
  intro W base args ds gs before hval0 hW _ hwt hL _
  have hval : ∀ (j : Nat) t v, Tryz.f4.params[j]? = some t → args[j]? = some v → Value.okWide Tryz.prog W .any base t v := hval0
  have hW' := hW
  obtain ⟨p, q, hA0, hV, rfl, hfz, hnd⟩ := hW
  have hA : DataW.TrodAll enc Tryz.prog W 0 (fun _ => true) true Tryz.f4.params.toList args.toList ds p := hA0
  rw [Tryz.params4] at hA hval
  obtain ⟨v0, vs0, d0, ds0, p0, q0, hargs, rfl, rfl, h0, r0⟩ := trodAll_cons hA
  obtain ⟨v1, vs1, d1, ds1, p1, q1, rfl, rfl, rfl, h1, r1⟩ := trodAll_cons r0
  obtain ⟨rfl, rfl, rfl⟩ := trodAll_nil r1
  obtain rfl : args = #[v0, v1] := by cases args; simp_all
  obtain ⟨rfl, rfl⟩ := trodVars_none hV
  obtain ⟨a0, rfl, rfl, rfl, w0⟩ := open_string Tryz.underlying9 (hval 0 9 v0 rfl rfl) h0
  obtain ⟨a1, rfl, rfl, rfl, w1⟩ := open_string Tryz.underlying9 (hval 1 9 v1 rfl rfl) h1
  have htab := tabs2_at hL
  clear hA0 hval0
  refine (backupOpensAsSpecified_walk a0 a1 W w0 w1 htab).mono fun e W' ⟨he, bel⟩ => ?_
  subst he
  exact ⟨_, rfl, _, _, _, [], _, [], hW', trodAll_mk1 (shut_bool Tryz.underlying4 _), (trodAll_cons_mk (shut_string Tryz.underlying9 w0) (trodAll_cons_mk (shut_string Tryz.underlying9 w1) trodAll_mk0)), rfl, bel.frame _, fun h => by cases h⟩
theorem backupOpensAsSpecified_row : Rows.BackupOpensAsSpecifiedSaid :=
  OpenClaim.holds_of_wide 4 Tryz.f4 rfl rfl rfl rfl rfl rfl rfl ⟨rfl, rfl, rfl, rfl, rfl⟩ rfl rfl rfl rfl rfl (by kernel_rfl) Tryz.func4 (by kernel_rfl)
    (of_decide_eq_true (by kernel_rfl)) (by unfold Func.isWrapper; first | (rw [if_pos (by decide +kernel)]; kernel_rfl) | (rw [if_neg (by decide +kernel)]; exact ⟨rfl, rfl⟩))
    (fun os started H enc _ => backupOpensAsSpecified_lifted os started H enc)
theorem BackupOpensAsSpecified_proved : Rows.BackupOpensAsSpecifiedCardSaid :=
  Claim7.holds_tied_plain_at .later [] [.data, .data] true Rows.backupOpensAsSpecifiedCard.stood.harness false
    backupOpensAsSpecified_row (fun _ h => by cases h) (by kernel_rfl) (fun _ h => by cases h) backupOpensAsSpecified_row_tie rfl ⟨rfl, rfl⟩ (by kernel_rfl) rfl
    (fun f fn hf hfn => by
      obtain rfl : f = 4 := Option.some.inj ((show Tryz.prog.funcNamed "custody/custodylaw36.BackupOpensAsSpecified" = some 4 by kernel_rfl).symm.trans hf) |>.symm
      obtain rfl : fn = Tryz.f4 := (Option.some.inj (Tryz.func4.symm.trans hfn)).symm
      exact ⟨by kernel_rfl, fun j t ht => by
        rw [Tryz.params4] at ht
        rcases j with _ | _ | j
        · simp at ht; subst ht; kernel_rfl
        · simp at ht; subst ht; kernel_rfl
        · simp at ht⟩)
    (by kernel_rfl)

end Go.Proofs.YtbpjdfnnlmblaaaGreatDoor
