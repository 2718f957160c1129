/- The law CipherRounds holds for every input. -/
import Derived.Test.YtbkkffdgkkcbfaaFrame
import Derived.Test.YtbkkffdgkkcbfaaCipherK
import Derived.Test.YtbkkffdgkkcbfaaCipherS
namespace Go.Proofs.Ytbkkffdgkkcbfaa
open Go.ChangeShapes Go.WideShapes Go.ChangeAt Go.RowKit
open Go.ChangeMaps (open_string shut_string)
set_option linter.unusedSimpArgs false
set_option linter.unusedVariables false

theorem open_row16 {H : Type} {enc : TypeId × Value → H} {w : World} {r : Reach} {b0 base : Nat} {sp : Nat → Bool} {held : Bool} {v : Value} {d : DataW H} {ps : List MemPlace}
    (hval : Value.okWide Try.prog w r b0 23 v) (hd : DataW.Trod enc Try.prog w base sp held 23 v d ps) : ∃ s : List UInt32, s.length = 16 ∧ v = .agg (row s) := by
  simp only [Value.okWide, Try.underlying23] at hval
  obtain ⟨cs, rfl, hsz, _⟩ := hval
  have hc : Try.prog.cellsOf 23 = 16 := by kernel_rfl
  have hc1 : Try.prog.cellsOf 22 = 1 := by kernel_rfl
  rw [hc] at hsz
  obtain ⟨fuel, hf⟩ := hd
  obtain ⟨xs, m, _, _, _, hl, hi⟩ := DataW.trod_array Try.underlying23 hf
  rw [hc1] at hi
  have each : ∀ i, i < 16 → ∃ n : UInt32, cs.toList[i]? = some (.int .u32 (W32 n)) := by
    intro i h
    have h1 := hi i h
    rw [List.getElem?_eq_getElem (by omega)] at h1
    obtain ⟨n, h2, _, h3⟩ := DataW.trod_int Try.underlying22 h1
    obtain ⟨c, rfl⟩ := u32_of h3
    refine ⟨c, ?_⟩
    have h4 : ((cs.toList.drop (i * 1)).take 1)[0]? = some (Value.int .u32 (W32 c)) := by
      have : Value.cells (.agg cs) = cs := rfl
      rw [this] at h2
      rw [h2]; rfl
    rw [List.getElem?_take, if_pos (by omega), List.getElem?_drop] at h4
    simpa using h4
  refine ⟨(List.range 16).map (fun i => match cs.toList[i]? with | some (Value.int _ n) => UInt32.ofNat n.toNat | _ => 0), by simp, ?_⟩
  congr 1
  apply Array.ext'
  apply List.ext_getElem?
  intro i
  by_cases h : i < 16
  · obtain ⟨n, hn⟩ := each i h
    rw [hn]
    have hw : UInt32.ofNat (W32 n).toNat = n := by simp [W32]
    rw [Array.getElem?_toList] at hn
    simp [row, List.getElem?_range h, hn, hw]
  · rw [List.getElem?_eq_none (by simp; omega), List.getElem?_eq_none (by simp [row]; omega)]

set_option maxRecDepth 100000 in
set_option maxHeartbeats 2000000 in
theorem cipherRounds_walk (s : List UInt32) (hs : s.length = 16) (w : World) :
    Calls Try.prog 4 #[.agg (row s)] w fun e w' => e = .returned (.bool true) ∧ Below w.heap.size w w' := by
  have hr : (C3.rounds s 10).length = 16 := by rw [C3.length_rounds, hs]
  have hu := C3.undo_rounds s hs 10
  have hrc := rounds_c s hs
  have hrr := rounds_ref s hs
  have hun := undo_all (C3.rounds s 10) hr
  rw [hu] at hun
  generalize C3.rounds s 10 = R at hr hrc hrr hun
  clear hu
  have HX := Lib.hid hrc
  have HY := Lib.hid hrr
  have HZ := Lib.hid hun
  clear hrc hrr hun
  have he1 := fun w => eql_row R R hr hr w
  have he2 := fun w => eql_row s s hs hs w
  rw [show decide (R = R) = true by simp] at he1
  rw [show decide (s = s) = true by simp] at he2
  have HB := (Below.refl w.heap.size w).alloc (Nat.le_refl _) (.cells (row s) 23)
  have HA := At.new w s
  go_enter Try.func4, Try.ntmps4
  go_wp2_with (first
    | (go_at_call 14; refine (HX.out _).mono ?_; rintro e wa ⟨rfl, hb⟩; replace HB := HB.trans (hb.mono HB.size); replace HA := HA.keep hb; have HD := HA; clear hb)
    | (refine st_row rfl (.tmp 3) (.tmp 5) rfl _ _ rfl rfl 23 _ (heap_alloc_new _ _) rfl hr ?_; replace HB := HB.alloc HB.size (.cells (row R) 23); replace HA := HA.alloc (.cells (row R) 23); have HC := At.new wa R)
    | (refine ld_rowG rfl (.tmp 1) rfl _ rfl _ HA hs ?_))
  clear HX
  have hcS : ∀ i, i < 16 → wa.cell? ⟨w.heap.size, i, none⟩ = some (.int .u32 (W32 (w16 s i))) := by
    intro i hi
    rw [cell_of_row _ _ _ _ _ _ HD.cells, row_get _ _ (by rw [hs]; omega)]
  have hltA := HD.lt
  simp only [Act.put]
  rw [setRow_alloc_last _ _ _ _ _ rfl]
  refine allL (by kernel_rfl) (by kernel_rfl) ?_
  repeat (go_big_quiet_step ((first
    | (go_at_call 13; exact Later.call _ (sanity_c _))
    | (go_at_call 15; exact Later.call _ (HY.out _))
    | (go_at_call 16; exact Later.call _ (HZ.out _)))))
  refine wpQuiet_nil ?_
  rintro _ ⟨u, rfl⟩
  go_wp2
  go_ret
  exact ⟨rfl, HB.trans (u.below.mono HB.size)⟩
set_option maxRecDepth 100000 in
theorem cipherRounds_lifted (os : Os) (started : os.Started) (H : Type) (enc : TypeId × Value → H) :
    ReturnsInHanded {} Try.checked os 4 .any (Rows.cipherRoundsSpec.pre6 enc Try.prog Try.f4 Rows.cipherRoundsRow.domain false) (Rows.cipherRoundsSpec.post enc Try.prog Try.f4 false true false false) := by
  refine returnsInHanded_of_change (C := Try.checked) Try.own started (by kernel_rfl) Try.func4
    (ChangeSpec.witness6 (enc := enc) (C := Try.checked) false ⟨#[], #[.agg #[.int .u32 0, .int .u32 0, .int .u32 0, .int .u32 0, .int .u32 0, .int .u32 0, .int .u32 0, .int .u32 0, .int .u32 0, .int .u32 0, .int .u32 0, .int .u32 0, .int .u32 0, .int .u32 0, .int .u32 0, .int .u32 0]], []⟩ 8 (by kernel_rfl) (by kernel_rfl) (by kernel_rfl) (by kernel_rfl)) ?_
  intro W base args ds gs before hval0 hW hcnd _
  have hval : ∀ (j : Nat) t v, Try.f4.params[j]? = some t → args[j]? = some v → Value.okWide Try.prog W .any base t v := hval0
  have hW' := hW
  obtain ⟨p, q, hA0, hV, rfl, hfz, hnd⟩ := hW
  have hA : DataW.TrodAll enc Try.prog W 0 (fun _ => true) true Try.f4.params.toList args.toList ds p := hA0
  rw [Try.params4] at hA hval
  obtain ⟨v0, vs0, d0, ds0, p0, q0, hargs, rfl, rfl, h0, r0⟩ := trodAll_cons hA
  obtain ⟨rfl, rfl, rfl⟩ := trodAll_nil r0
  obtain rfl : args = #[v0] := by cases args; simp_all
  obtain ⟨rfl, rfl⟩ := trodVars_none hV
  have k0 := h0
  have lt0 : ∀ x ∈ p0, x.block < W.heap.size := by obtain ⟨m, hm⟩ := k0; exact DataW.trod_lt m _ _ _ hm
  obtain ⟨a0, w0, rfl⟩ := open_row16 (hval 0 23 v0 rfl rfl) h0
  clear hA0 hval0
  refine (cipherRounds_walk a0 w0 W).mono fun e W' ⟨he, bel⟩ => ?_
  subst he
  exact ⟨_, rfl, _, _, _, [], _, [], hW', trodAll_mk1 (shut_bool Try.underlying4 _), (trodAll_cons_mk (Below.trod Try.laidOut (by kernel_rfl) (of_decide_eq_true (by kernel_rfl)) k0 bel lt0) trodAll_mk0), rfl, bel.frame _, fun h => by cases h⟩
theorem CipherRounds_proved : Rows.CipherRoundsSaid :=
  OpenClaim.holds_of_wide 4 Try.f4 rfl rfl rfl rfl rfl rfl rfl ⟨rfl, rfl, rfl, rfl, rfl⟩ rfl rfl rfl rfl rfl (by kernel_rfl) Try.func4 (by kernel_rfl)
    (of_decide_eq_true (by kernel_rfl)) (by unfold Func.isWrapper; first | (rw [if_pos (by decide +kernel)]; kernel_rfl) | (rw [if_neg (by decide +kernel)]; exact ⟨rfl, rfl⟩))
    (fun os started H enc _ => cipherRounds_lifted os started H enc)

end Go.Proofs.Ytbkkffdgkkcbfaa
