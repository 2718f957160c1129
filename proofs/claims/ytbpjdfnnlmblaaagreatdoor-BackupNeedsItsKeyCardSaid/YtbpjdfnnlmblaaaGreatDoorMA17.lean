/- Parts of a proof, joined: contracts of functions of the program and plain lemmas (RefN, RefO, RefP). No condition. -/
import Derived.Test.YtbpjdfnnlmblaaaGreatDoorMA16
import Derived.Great.BuildSlice
/- The specification's Peek (printed by wip/gen/refN.py). -/
namespace Go.Proofs.YtbpjdfnnlmblaaaGreatDoor
open Go.RowKit Go.Shelf
set_option linter.unusedSimpArgs false
set_option linter.unusedVariables false
/-- the end of a text -/
theorem str_drop (h : List UInt8) (i : Nat) (hi : i ≤ h.length) (w : World) : (Instr.slice 9 (.string ⟨h.toArray⟩) (some (.int .i64 i)) none none).run Tryz.prog w = .ok (.string ⟨(h.drop i).toArray⟩) w := by
  rw [run_slice_string_l w _ _ Tryz.underlying9 .i64 _ (by omega) (by show (i : Int) ≤ ((h.toArray.size : Nat) : Int); simp; omega)]
  have e : (ByteArray.mk h.toArray).extract ((i : Int).toNat) (ByteArray.mk h.toArray).size = ⟨(h.drop i).toArray⟩ := by
    rw [extract_go, Int.toNat_natCast, List.take_of_length_le (by rw [List.length_drop]; exact Nat.le_refl _)]
  rw [e]
theorem take_drop_all (h : List UInt8) (i : Nat) : (h.drop i).take (h.length - i) = h.drop i := List.take_of_length_le (by rw [List.length_drop]; exact Nat.le_refl _)
/-- a backup without keys is built -/
theorem built_bk (b : BK) : Tryz.prog.built 26 [(0, .agg (drow b.dom)), (1, .int .i64 b.ep), (2, .int .i64 b.num), (3, .int .i64 b.fw), (4, .int .i64 b.tm), (5, .agg (drow b.pol)), (6, .string ⟨b.mo.toArray⟩)] = some (bc b nilS) := by kernel_rfl
theorem bld_bk {ops : Array Oper} {rest : List Oper} {o : Oper} {a : Act} {w : World} {Q : Exit → Act → World → Prop} (b : BK) (hgd : Region.wanted o (yielded ops a.tmps) = true) (x0 x1 x2 x3 x4 x5 x6 : Operand)
    (ho : o.op = .build 26 #[(0, x0), (1, x1), (2, x2), (3, x3), (4, x4), (5, x5), (6, x6)]) (h0 : a.eval x0 = .agg (drow b.dom)) (h1 : a.eval x1 = .int .i64 b.ep) (h2 : a.eval x2 = .int .i64 b.num) (h3 : a.eval x3 = .int .i64 b.fw) (h4 : a.eval x4 = .int .i64 b.tm) (h5 : a.eval x5 = .agg (drow b.pol)) (h6 : a.eval x6 = .string ⟨b.mo.toArray⟩)
    (h : wpList Tryz.prog ops Q rest (a.put o.dst (.agg (bc b nilS))) w) : wpList Tryz.prog ops Q (o :: rest) a w :=
  wpList_step fun K hK => by
    rw [if_pos hgd]
    have hb := built_bk b
    generalize drow b.dom = D at hb h0
    generalize drow b.pol = P at hb h5
    have hr := run_build (P := Tryz.prog) w 26 #[(0, .agg D), (1, .int .i64 b.ep), (2, .int .i64 b.num), (3, .int .i64 b.fw), (4, .int .i64 b.tm), (5, .agg P), (6, .string ⟨b.mo.toArray⟩)] _ hb
    unfold Oper.wp execOp
    simp only [ho, List.map_toArray, List.map_cons, List.map_nil, h0, h1, h2, h3, h4, h5, h6, hr, Sem.run_bind, Sem.run_pure, Result.andThen_ok]
    exact hK _ _ h
theorem bc_all (b : BK) : ((bc b nilS).all fun u => u.oneCell') = true := bcone b none 0 0
theorem info_bc (b : BK) : (Tryz.prog.info? 26).map (·.size) = some (bc b nilS).size := by rw [bc_size]; exact info_b
attribute [local irreducible] Calls drow decS decIs blE blB pkB hdX hdE hdB validB
set_option maxRecDepth 100000 in
set_option maxHeartbeats 8000000 in
theorem peek_r (blob : List UInt8) (w : World) (hl : blob.length ≤ 800000) :
    Calls Tryz.prog 21 #[.string ⟨blob.toArray⟩] w fun e w' => e = .returned (.tuple #[.agg (bc (pkB blob) nilS), .int .i64 (blE blob)]) ∧ Below w.heap.size w w' := by
  have hz := zero_bk
  have HL := Lib.hid hl
  obtain ⟨W0, hW0⟩ : ∃ W0, W0 = w.alloc (.cells (bc zB (.slice none 0 0)) 26) := ⟨_, rfl⟩
  have HW := Lib.hid hW0
  have HRES : Hid (∀ u, Below W0.heap.size W0 u → u.heap[w.heap.size]? = some (.cells (bc zB nilS) 26 (0, 0)) ∧ Below w.heap.size w u) := Lib.hid (by
    intro u h
    rw [hW0] at h
    have h2 := below1 _ _ h
    exact ⟨by rw [h.block _ (by simp)]; exact heap_last _ _ _ rfl, h2⟩)
  have hcv := conv_sb W0 blob
  have HSB := Lib.hid (sb_below W0 blob)
  have HSR := Lib.hid (sb_rd W0 blob (by unfold maxLen; omega))
  generalize Lib.bytesWorld W0 5 ⟨blob.toArray⟩ = ws at hcv HSB HSR
  have HG := Lib.hid (getBytesR_c _ blob ws HSR.out)
  have HPZ : Hid (blE blob ≠ 0 → pkB blob = zB) := Lib.hid (fun h => by unfold pkB; rw [if_neg h])
  have HPY : Hid (blE blob = 0 → pkB blob = blB blob) := Lib.hid (fun h => by unfold pkB; rw [if_pos h])
  have HNO := Lib.hid (fun (h : (decS blob).2.2 ≠ 0) => blE_no h)
  have HYES := Lib.hid (fun (h : (decS blob).2.2 = 0) => blE_yes h)
  have HHL : Hid ((decS blob).2.2 = 0 → (decS blob).1.length ≤ blob.length) := Lib.hid (fun h0 => by have := rdVS_len blob 0; rw [rdV_0 h0] at this; exact this)
  generalize decS blob = d at HG HNO HYES HHL
  obtain ⟨h, n, er⟩ := d
  simp only at HNO HYES HHL
  generalize pkB blob = pb at HPZ HPY ⊢
  clear hl hW0
  by_cases h1 : er = 0
  case neg =>
    have i1 : (er != 0) = true := by simpa using h1
    have HE := Lib.hid (HNO.out h1)
    have HZ := Lib.hid (HPZ.out (by rw [HE.out]; exact h1))
    clear h1 HNO HYES HHL HPY HPZ
    have tok1 : True := trivial
    go_enter Tryz.func21, Tryz.ntmps21
    go_upto_region 1 with fail
    rw [← HW.out]
    go_wp2_with (first
      | (clear tok1; go_at_call 48; refine HG.out.mono ?_; rintro e w1 ⟨rfl, hb1⟩; have HB1 := Lib.hid (HSB.out.trans (hb1.mono HSB.out.size)); simp only [strV]; clear hb1)
      | (refine bld_z rfl rfl ?_)
      | (refine st_T (T := 26) (bc zB nilS) (info_bc zB) rfl (.tmp 2) (.tmp 25) rfl w.heap.size (bc zB nilS) rfl rfl (bc_all zB) rfl (HRES.out _ HB1.out).1 ?_; intro we hge hoe hbe))
    refine bodyPost_ret (results_row2 rfl _ _ w.heap.size _ rfl (run_bkrow _ _ zB nilS _ hge)) rfl ?_
    exact ⟨by rw [HZ.out, HE.out]; rfl, (HRES.out _ HB1.out).2.trans (hbe _ (Nat.le_refl _))⟩
  subst h1
  obtain ⟨hE, hBB, _, _⟩ := HYES.out rfl
  have HH := Lib.hid (Nat.le_trans (HHL.out rfl) HL.out)
  have HEX := Lib.hid hE
  have HBB := Lib.hid hBB
  obtain ⟨t, ht⟩ : ∃ t, t = h.drop 16 := ⟨_, rfl⟩
  have HT := Lib.hid ht
  have HTL : Hid (t.length = h.length - 16) := Lib.hid (by rw [ht, List.length_drop])
  have HP1 := Lib.hid (hdE_parts h)
  have HP2 := Lib.hid (fun rest (hr : rest = (h.drop 16).drop (decIs (h.drop 16)).2.1) => hdX_parts h rest hr)
  have HQ1 : Hid (hdE h 0 ≠ 0 → hdX h 0 = hdE h 0) := Lib.hid (fun hq => hdX_of h hq)
  rw [← ht] at HP1 HP2
  clear ht
  have HGI := Lib.hid (fun (v : Value) (y : World) (hv : RdE eB y v t) => getIntsR_c v t y hv (by have := HH.out; have := HTL.out; omega))
  have HUI := Lib.hid (fun (hq : (decIs t).2.2 = 0) => (codecIs.used _ hq).1)
  generalize decIs t = d2 at HP1 HP2 HGI HUI
  obtain ⟨li, n2, e2⟩ := d2
  simp only at HP1 HP2 HUI
  clear hE hBB HNO HYES HHL
  have hhi : (h.length : Int) ≤ 800000 := by have := HH.out; omega
  rcases HP1.out with ⟨p1, p2⟩ | ⟨p1, p2, p3⟩ | ⟨p1, p2, p3, p4⟩ | ⟨p1, p2, p3, p4⟩
  · have i2 : (h.length : Int) < 16 := by omega
    have HE : Hid (blE blob = _) := Lib.hid (HEX.out.trans ((HQ1.out (by rw [p2]; first | decide | assumption)).trans p2))
    have HZ := Lib.hid (HPZ.out (by rw [HE.out]; first | decide | assumption))
    clear p1 p2 HP1 HP2 HPZ HPY HQ1 HUI
    have tok1 : True := trivial
    go_enter Tryz.func21, Tryz.ntmps21
    go_upto_region 1 with fail
    rw [← HW.out]
    go_wp2_with (first
      | (clear tok1; go_at_call 48; refine HG.out.mono ?_; rintro e w1 ⟨rfl, hb1⟩; have HB1 := Lib.hid (HSB.out.trans (hb1.mono HSB.out.size)); simp only [strV]; clear hb1)
      | (refine bld_z rfl rfl ?_)
      | (refine st_T (T := 26) (bc zB nilS) (info_bc zB) rfl (.tmp 2) (.tmp 30) rfl w.heap.size (bc zB nilS) rfl rfl (bc_all zB) rfl (HRES.out _ HB1.out).1 ?_; intro we hge hoe hbe))
    refine bodyPost_ret (results_row2 rfl _ _ w.heap.size _ rfl (run_bkrow _ _ zB nilS _ hge)) rfl ?_
    exact ⟨by rw [HZ.out, HE.out]; rfl, (HRES.out _ HB1.out).2.trans (hbe _ (Nat.le_refl _))⟩
  · have i5 : (e2 != 0) = true := by simpa using p2
    have i2 : ¬ (h.length : Int) < 16 := by omega
    have hs1 := str_drop h 16 (by omega)
    rw [← HT.out] at hs1
    have tk1 : (h.drop 16).take (h.length - 16) = t := by rw [take_drop_all, HT.out]
    have i3 : (16 : Int) ≤ h.length := by omega
    have i4 : 16 ≤ h.length := by omega
    have HE : Hid (blE blob = _) := Lib.hid (HEX.out.trans ((HQ1.out (by rw [p3]; first | decide | assumption)).trans p3))
    have HZ := Lib.hid (HPZ.out (by rw [HE.out]; first | decide | assumption))
    clear p1 p2 p3 HP1 HP2 HPZ HPY HQ1 HUI
    have tok1 : True := trivial
    go_enter Tryz.func21, Tryz.ntmps21
    go_upto_region 1 with fail
    rw [← HW.out]
    go_wp2_with (first
      | (clear tok1; go_at_call 48; refine HG.out.mono ?_; rintro e w1 ⟨rfl, hb1⟩; have HB1 := Lib.hid (HSB.out.trans (hb1.mono HSB.out.size)); simp only [strV]; have hcv2 := conv_sb w1 t; have HSB2 := Lib.hid (sb_below w1 t); have HSR2 := Lib.hid (sb_rd w1 t (by unfold maxLen; have := HH.out; have := HTL.out; omega)); generalize Lib.bytesWorld w1 5 ⟨t.toArray⟩ = w1s at hcv2 HSB2 HSR2; clear hb1)
      | (go_at_call 49; refine (HGI.out _ _ HSR2.out).mono ?_; rintro e w2 ⟨v2, rfl, ho2, hb2⟩; obtain ⟨a2, c2, rfl⟩ := ho2.rd.form; have HB2 := Lib.hid (HB1.out.trans ((HSB2.out.trans (hb2.mono HSB2.out.size)).mono HB1.out.size)); have HO2 := Lib.hid ho2; clear ho2 hb2)
      | (refine bld_z rfl rfl ?_)
      | (refine st_T (T := 26) (bc zB nilS) (info_bc zB) rfl (.tmp 2) (.tmp 41) rfl w.heap.size (bc zB nilS) rfl rfl (bc_all zB) rfl (HRES.out _ HB2.out).1 ?_; intro we hge hoe hbe))
    refine bodyPost_ret (results_row2 rfl _ _ w.heap.size _ rfl (run_bkrow _ _ zB nilS _ hge)) rfl ?_
    exact ⟨by rw [HZ.out, HE.out]; rfl, (HRES.out _ HB2.out).2.trans (hbe _ (Nat.le_refl _))⟩
  · subst p2
    have i2 : ¬ (h.length : Int) < 16 := by omega
    have hs1 := str_drop h 16 (by omega)
    rw [← HT.out] at hs1
    have tk1 : (h.drop 16).take (h.length - 16) = t := by rw [take_drop_all, HT.out]
    have i3 : (16 : Int) ≤ h.length := by omega
    have i4 : 16 ≤ h.length := by omega
    have i5 : ((li.length : Int) != 4) = true := by rw [bne_iff_ne]; omega
    have HE : Hid (blE blob = _) := Lib.hid (HEX.out.trans ((HQ1.out (by rw [p4]; first | decide | assumption)).trans p4))
    have HZ := Lib.hid (HPZ.out (by rw [HE.out]; first | decide | assumption))
    clear p1 p3 p4 HP1 HP2 HPZ HPY HQ1 HUI
    have tok1 : True := trivial
    go_enter Tryz.func21, Tryz.ntmps21
    go_upto_region 1 with fail
    rw [← HW.out]
    go_wp2_with (first
      | (clear tok1; go_at_call 48; refine HG.out.mono ?_; rintro e w1 ⟨rfl, hb1⟩; have HB1 := Lib.hid (HSB.out.trans (hb1.mono HSB.out.size)); simp only [strV]; have hcv2 := conv_sb w1 t; have HSB2 := Lib.hid (sb_below w1 t); have HSR2 := Lib.hid (sb_rd w1 t (by unfold maxLen; have := HH.out; have := HTL.out; omega)); generalize Lib.bytesWorld w1 5 ⟨t.toArray⟩ = w1s at hcv2 HSB2 HSR2; clear hb1)
      | (go_at_call 49; refine (HGI.out _ _ HSR2.out).mono ?_; rintro e w2 ⟨v2, rfl, ho2, hb2⟩; obtain ⟨a2, c2, rfl⟩ := ho2.rd.form; have HB2 := Lib.hid (HB1.out.trans ((HSB2.out.trans (hb2.mono HSB2.out.size)).mono HB1.out.size)); have HO2 := Lib.hid ho2; clear ho2 hb2)
      | (refine bld_z rfl rfl ?_)
      | (refine st_T (T := 26) (bc zB nilS) (info_bc zB) rfl (.tmp 2) (.tmp 46) rfl w.heap.size (bc zB nilS) rfl rfl (bc_all zB) rfl (HRES.out _ HB2.out).1 ?_; intro we hge hoe hbe))
    refine bodyPost_ret (results_row2 rfl _ _ w.heap.size _ rfl (run_bkrow _ _ zB nilS _ hge)) rfl ?_
    exact ⟨by rw [HZ.out, HE.out]; rfl, (HRES.out _ HB2.out).2.trans (hbe _ (Nat.le_refl _))⟩
  · subst p2
    have i2 : ¬ (h.length : Int) < 16 := by omega
    have hs1 := str_drop h 16 (by omega)
    rw [← HT.out] at hs1
    have tk1 : (h.drop 16).take (h.length - 16) = t := by rw [take_drop_all, HT.out]
    have i3 : (16 : Int) ≤ h.length := by omega
    have i4 : 16 ≤ h.length := by omega
    have i5 : ((li.length : Int) != 4) = false := by rw [p3]; rfl
    obtain ⟨m0, m1, m2, m3, rfl⟩ := four_is p3
    have hu := HUI.out rfl
    rw [HTL.out] at hu
    obtain ⟨rest, hrest⟩ : ∃ rest, rest = t.drop n2 := ⟨_, rfl⟩
    have HP3 := Lib.hid (HP2.out rest hrest p1 rfl p4)
    have hrd : rest = h.drop (16 + n2) := by rw [hrest, HT.out, List.drop_drop]
    have hs2 := str_drop h (16 + n2) (by omega)
    rw [← hrd] at hs2
    rw [Int.natCast_add] at hs2
    have tk2 : List.take (h.length - (16 + n2)) (List.drop (16 + n2) h) = rest := by rw [take_drop_all, hrd]
    have i6 : (16 : Int) + n2 ≤ h.length := by omega
    have i7 : 16 + n2 ≤ h.length := by omega
    have HRL : Hid (rest.length ≤ 800000) := Lib.hid (by rw [hrd, List.length_drop]; have := HH.out; omega)
    have hri : (rest.length : Int) ≤ 800000 := by have := HRL.out; omega
    obtain ⟨t2, ht2⟩ : ∃ t2, t2 = rest.drop 16 := ⟨_, rfl⟩
    have HT2 := Lib.hid ht2
    have HTL2 : Hid (t2.length = rest.length - 16) := Lib.hid (by rw [ht2, List.length_drop])
    rw [← ht2] at HP3
    clear ht2
    have HGB := Lib.hid (fun (v : Value) (y : World) (hv : RdE eB y v t2) => getBytesR_c v t2 y hv)
    have HB4 : Hid (bkOf h rest [m0, m1, m2, m3] = bkOf h rest [m0, m1, m2, m3]) := Lib.hid rfl
    generalize decS t2 = d3 at HP3 HGB
    obtain ⟨mo, n3, e3⟩ := d3
    simp only at HP3
    clear p1 p3 p4 HP1 HP2 HQ1 HUI hu hrest hrd
    rcases HP3.out with ⟨q1, q2⟩ | ⟨q1, q2, q3⟩ | q
    · have i8 : (rest.length : Int) < 16 := by omega
      have HE : Hid (blE blob = _) := Lib.hid (HEX.out.trans q2)
      have HZ := Lib.hid (HPZ.out (by rw [HE.out]; first | decide | assumption))
      clear q1 q2 HP3 HPZ HPY
      have tok1 : True := trivial
      go_enter Tryz.func21, Tryz.ntmps21
      go_upto_region 1 with fail
      rw [← HW.out]
      go_wp2_with (first
        | (clear tok1; go_at_call 48; refine HG.out.mono ?_; rintro e w1 ⟨rfl, hb1⟩; have HB1 := Lib.hid (HSB.out.trans (hb1.mono HSB.out.size)); simp only [strV]; have hcv2 := conv_sb w1 t; have HSB2 := Lib.hid (sb_below w1 t); have HSR2 := Lib.hid (sb_rd w1 t (by unfold maxLen; have := HH.out; have := HTL.out; omega)); generalize Lib.bytesWorld w1 5 ⟨t.toArray⟩ = w1s at hcv2 HSB2 HSR2; clear hb1)
        | (go_at_call 49; refine (HGI.out _ _ HSR2.out).mono ?_; rintro e w2 ⟨v2, rfl, ho2, hb2⟩; obtain ⟨a2, c2, rfl⟩ := ho2.rd.form; have HB2 := Lib.hid (HB1.out.trans ((HSB2.out.trans (hb2.mono HSB2.out.size)).mono HB1.out.size)); have HO2 := Lib.hid ho2; clear ho2 hb2)
        | (refine bld_z rfl rfl ?_)
        | (refine st_T (T := 26) (bc zB nilS) (info_bc zB) rfl (.tmp 2) (.tmp 54) rfl w.heap.size (bc zB nilS) rfl rfl (bc_all zB) rfl (HRES.out _ HB2.out).1 ?_; intro we hge hoe hbe))
      refine bodyPost_ret (results_row2 rfl _ _ w.heap.size _ rfl (run_bkrow _ _ zB nilS _ hge)) rfl ?_
      exact ⟨by rw [HZ.out, HE.out]; rfl, (HRES.out _ HB2.out).2.trans (hbe _ (Nat.le_refl _))⟩
    · have j1 : (e3 != 0) = true := by simpa using q2
      have i8 : ¬ (rest.length : Int) < 16 := by have := q1; omega
      have hs3 := str_drop rest 16 (by have := q1; omega)
      rw [← HT2.out] at hs3
      have tk3 : (rest.drop 16).take (rest.length - 16) = t2 := by rw [take_drop_all, HT2.out]
      have i9 : (16 : Int) ≤ rest.length := by have := q1; omega
      have i10 : 16 ≤ rest.length := by have := q1; omega
      have HE : Hid (blE blob = _) := Lib.hid (HEX.out.trans q3)
      have HZ := Lib.hid (HPZ.out (by rw [HE.out]; first | decide | assumption))
      clear q1 q2 q3 HP3 HPZ HPY
      have tok1 : True := trivial
      go_enter Tryz.func21, Tryz.ntmps21
      go_upto_region 1 with fail
      rw [← HW.out]
      go_wp2_with (first
        | (clear tok1; go_at_call 48; refine HG.out.mono ?_; rintro e w1 ⟨rfl, hb1⟩; have HB1 := Lib.hid (HSB.out.trans (hb1.mono HSB.out.size)); simp only [strV]; have hcv2 := conv_sb w1 t; have HSB2 := Lib.hid (sb_below w1 t); have HSR2 := Lib.hid (sb_rd w1 t (by unfold maxLen; have := HH.out; have := HTL.out; omega)); generalize Lib.bytesWorld w1 5 ⟨t.toArray⟩ = w1s at hcv2 HSB2 HSR2; clear hb1)
        | (go_at_call 49; refine (HGI.out _ _ HSR2.out).mono ?_; rintro e w2 ⟨v2, rfl, ho2, hb2⟩; obtain ⟨a2, c2, rfl⟩ := ho2.rd.form; have HB2 := Lib.hid (HB1.out.trans ((HSB2.out.trans (hb2.mono HSB2.out.size)).mono HB1.out.size)); have HO2 := Lib.hid ho2; clear ho2 hb2; have hcv3 := conv_sb w2 t2; have HSB3 := Lib.hid (sb_below w2 t2); have HSR3 := Lib.hid (sb_rd w2 t2 (by unfold maxLen; have := HRL.out; have := HTL2.out; omega)); generalize Lib.bytesWorld w2 5 ⟨t2.toArray⟩ = w2s at hcv3 HSB3 HSR3)
        | (go_at_call 48; refine (HGB.out _ _ HSR3.out).mono ?_; rintro e w3 ⟨rfl, hb3⟩; have hb23 := HSB3.out.trans (hb3.mono HSB3.out.size); have HB3 := Lib.hid (HB2.out.trans (hb23.mono HB2.out.size)); have HO3 := Lib.hid (HO2.out.on hb23); simp only [strV]; clear hb3 hb23)
        | (refine bld_z rfl rfl ?_)
        | (refine st_T (T := 26) (bc zB nilS) (info_bc zB) rfl (.tmp 2) (.tmp 65) rfl w.heap.size (bc zB nilS) rfl rfl (bc_all zB) rfl (HRES.out _ HB3.out).1 ?_; intro we hge hoe hbe))
      refine bodyPost_ret (results_row2 rfl _ _ w.heap.size _ rfl (run_bkrow _ _ zB nilS _ hge)) rfl ?_
      exact ⟨by rw [HZ.out, HE.out]; rfl, (HRES.out _ HB3.out).2.trans (hbe _ (Nat.le_refl _))⟩
    · have hq1 : ¬ rest.length < 16 := by rcases q with q | q | q <;> exact q.1
      have hq2 : e3 = 0 := by rcases q with q | q | q <;> exact q.2.1
      subst hq2
      have i8 : ¬ (rest.length : Int) < 16 := by have := hq1; omega
      have hs3 := str_drop rest 16 (by have := hq1; omega)
      rw [← HT2.out] at hs3
      have tk3 : (rest.drop 16).take (rest.length - 16) = t2 := by rw [take_drop_all, HT2.out]
      have i9 : (16 : Int) ≤ rest.length := by have := hq1; omega
      have i10 : 16 ≤ rest.length := by have := hq1; omega
      obtain ⟨bk, hbk⟩ : ∃ bk, bk = bkOf h rest [m0, m1, m2, m3] mo := ⟨_, rfl⟩
      rw [← hbk] at q
      have HBK := Lib.hid hbk
      have HHL2 := Lib.hid i2
      have HRL2 := Lib.hid hq1
      have HQ := Lib.hid q
      have HVR := Lib.hid (fun (y : World) => validB_r bk nilS [] y (rdK_nil y))
      clear q hbk hq1 HP3
      have tok1 : True := trivial
      go_enter Tryz.func21, Tryz.ntmps21
      go_upto_region 1 with fail
      rw [← HW.out]
      go_upto_region 17 with (first
        | (clear tok1; go_at_call 48; refine HG.out.mono ?_; rintro e w1 ⟨rfl, hb1⟩; have HB1 := Lib.hid (HSB.out.trans (hb1.mono HSB.out.size)); simp only [strV]; have hcv2 := conv_sb w1 t; have HSB2 := Lib.hid (sb_below w1 t); have HSR2 := Lib.hid (sb_rd w1 t (by unfold maxLen; have := HH.out; have := HTL.out; omega)); generalize Lib.bytesWorld w1 5 ⟨t.toArray⟩ = w1s at hcv2 HSB2 HSR2; clear hb1)
        | (go_at_call 49; refine (HGI.out _ _ HSR2.out).mono ?_; rintro e w2 ⟨v2, rfl, ho2, hb2⟩; obtain ⟨a2, c2, rfl⟩ := ho2.rd.form; have HB2 := Lib.hid (HB1.out.trans ((HSB2.out.trans (hb2.mono HSB2.out.size)).mono HB1.out.size)); have HO2 := Lib.hid ho2; clear ho2 hb2; have hcv3 := conv_sb w2 t2; have HSB3 := Lib.hid (sb_below w2 t2); have HSR3 := Lib.hid (sb_rd w2 t2 (by unfold maxLen; have := HRL.out; have := HTL2.out; omega)); generalize Lib.bytesWorld w2 5 ⟨t2.toArray⟩ = w2s at hcv3 HSB3 HSR3)
        | (go_at_call 48; refine (HGB.out _ _ HSR3.out).mono ?_; rintro e w3 ⟨rfl, hb3⟩; have hb23 := HSB3.out.trans (hb3.mono HSB3.out.size); have HB3 := Lib.hid (HB2.out.trans (hb23.mono HB2.out.size)); have HO3 := Lib.hid (HO2.out.on hb23); simp only [strV]; clear hb3 hb23))
      rw [tk2]
      obtain ⟨b2, o2, hae, hbl2, hrow2⟩ := RdI_cells HO3.out.rd (by simp)
      subst hae
      have HROW2 := Lib.hid hrow2
      clear hrow2
      try dsimp only [Act.put]
      refine region_rel 19 [[], [0], [], [2], [3], [], [5], [6], [], [8], [9], [], [11], [12], [], [14], [], [1, 4, 7, 10, 13, 15, 16], []] (SP.of [.eq (.string ⟨h.toArray⟩), .eq (.agg (drow bk.dom)), .eq (.slice (some ⟨b2, o2, none⟩) [m0, m1, m2, m3].length c2), .eq (.pointer (some ⟨b2, o2, none⟩)), .eq (.int .i64 m0), .eq (.slice (some ⟨b2, o2, none⟩) [m0, m1, m2, m3].length c2), .eq (.pointer (some ⟨b2, o2 + 1, none⟩)), .eq (.int .i64 m1), .eq (.slice (some ⟨b2, o2, none⟩) [m0, m1, m2, m3].length c2), .eq (.pointer (some ⟨b2, o2 + 2, none⟩)), .eq (.int .i64 m2), .eq (.slice (some ⟨b2, o2, none⟩) [m0, m1, m2, m3].length c2), .eq (.pointer (some ⟨b2, o2 + 3, none⟩)), .eq (.int .i64 m3), .eq (.string ⟨rest.toArray⟩), .eq (.agg (drow bk.pol)), .eq (.string ⟨mo.toArray⟩), .eq (.agg (bc bk nilS)), .fresh w3.heap.size (bc zB nilS) 26]) (fun _ => undef) ?h1 ?h2 ?h3 ?h4 ?h5 ?h6
      case h1 => kernel_rfl
      case h2 => kernel_rfl
      case h3 => kernel_rfl
      case h4 =>
        simp only [List.take_succ_cons, List.take_zero]
        repeat (first | exact trivial | refine ⟨fun vals v => by kernel_rfl, ?_⟩)
      case h5 =>
        simp only [List.take_succ_cons, List.take_zero]
        refine ⟨?_, ?_, ?_, ?_, ?_, ?_, ?_, ?_, ?_, ?_, ?_, ?_, ?_, ?_, ?_, ?_, ?_, ?_, ?_, trivial⟩
        all_goals (intro wq hbq vals; simp only [Nat.reduceAdd, Nat.zero_add, List.getD_cons_succ, List.getD_cons_zero]; have HBQ := Lib.hid hbq; clear hbq; repeat (first | refine given_nil ?_ | refine given_eq rfl ?_); intro Q hQ; simp only [putAll, upd, Act.put, List.setIfInBounds_toArray, List.set_cons_zero, List.set_cons_succ, Nat.reduceAdd, Nat.zero_add, Nat.reduceEqDiff, if_true, if_false, reduceIte])
        case refine_2 =>
          have hd : h.take 16 = bk.dom := by rw [HBK.out]; rfl
          go_wp2_with (go_at_call 50; refine (digest_r h (by have := HHL2.out; omega) wq).mono ?_; rintro e x1 ⟨rfl, hx1⟩; rw [hd])
          exact relEnd_fin hQ _ (by kernel_rfl) hx1 rfl
        case refine_16 =>
          have hd : rest.take 16 = bk.pol := by rw [HBK.out]; rfl
          go_wp2_with (go_at_call 50; refine (digest_r rest HRL2.out wq).mono ?_; rintro e x1 ⟨rfl, hx1⟩; rw [hd])
          exact relEnd_fin hQ _ (by kernel_rfl) hx1 rfl
        case refine_5 =>
          have c : wq.cell? ⟨b2, o2, none⟩ = some (.int .i64 m0) := by rw [HBQ.out.cell (p := ⟨b2, o2, none⟩) hbl2]; exact HROW2.out 0 (by simp)
          go_wp2
          exact relEnd_fin hQ _ (by kernel_rfl) (Below.refl _ _) rfl
        case refine_8 =>
          have c : wq.cell? ⟨b2, o2 + 1, none⟩ = some (.int .i64 m1) := by rw [HBQ.out.cell (p := ⟨b2, o2 + 1, none⟩) hbl2]; exact HROW2.out 1 (by simp)
          go_wp2
          exact relEnd_fin hQ _ (by kernel_rfl) (Below.refl _ _) rfl
        case refine_11 =>
          have c : wq.cell? ⟨b2, o2 + 2, none⟩ = some (.int .i64 m2) := by rw [HBQ.out.cell (p := ⟨b2, o2 + 2, none⟩) hbl2]; exact HROW2.out 2 (by simp)
          go_wp2
          exact relEnd_fin hQ _ (by kernel_rfl) (Below.refl _ _) rfl
        case refine_14 =>
          have c : wq.cell? ⟨b2, o2 + 3, none⟩ = some (.int .i64 m3) := by rw [HBQ.out.cell (p := ⟨b2, o2 + 3, none⟩) hbl2]; exact HROW2.out 3 (by simp)
          go_wp2
          exact relEnd_fin hQ _ (by kernel_rfl) (Below.refl _ _) rfl
        case refine_18 =>
          have e0 : Hid (m0 = bk.ep) := Lib.hid (by rw [HBK.out]; rfl)
          have e1 : Hid (m1 = bk.num) := Lib.hid (by rw [HBK.out]; rfl)
          have e2 : Hid (m2 = bk.fw) := Lib.hid (by rw [HBK.out]; rfl)
          have e3 : Hid (m3 = bk.tm) := Lib.hid (by rw [HBK.out]; rfl)
          have e4 : Hid (mo = bk.mo) := Lib.hid (by rw [HBK.out]; rfl)
          go_wp2_with (refine bld_bk bk rfl (.tmp 68) (.tmp 71) (.tmp 74) (.tmp 77) (.tmp 80) (.tmp 82) (.tmp 83) rfl rfl (by rw [← e0.out]; rfl) (by rw [← e1.out]; rfl) (by rw [← e2.out]; rfl) (by rw [← e3.out]; rfl) rfl (by rw [← e4.out]; rfl) ?_)
          exact relEnd_fin hQ _ (by kernel_rfl) (Below.refl _ _) rfl
        case refine_19 =>
          have hz2 := zero_bk
          go_wp2
          exact relEnd_fin hQ _ (by kernel_rfl) ((Below.refl _ _).alloc (Nat.le_refl _) _) ⟨wq.heap.size, rfl, HBQ.out.size, heap_last _ _ _ rfl⟩
        all_goals go_wp2
        all_goals exact relEnd_fin hQ _ (by kernel_rfl) (Below.refl _ _) rfl
      case h6 =>
        intro wq hbq vals
        rw [show List.range 19 = [0, 1, 2, 3, 4, 5, 6, 7, 8, 9, 10, 11, 12, 13, 14, 15, 16, 17, 18] from by decide]
        repeat (first | refine given_eq rfl ?_)
        refine given_pred rfl ?_
        rintro _ ⟨g, rfl, hg1, hg2⟩
        refine given_nil ?_
        simp only [List.take_succ_cons, List.take_zero, List.drop_succ_cons, List.drop_zero]
        simp only [putAll, upd, Act.put, List.setIfInBounds_toArray, List.set_cons_zero, List.set_cons_succ, Nat.reduceAdd, Nat.zero_add, Nat.reduceEqDiff, if_true, if_false, reduceIte]
        have HBQ := Lib.hid (HB3.out.trans (hbq.mono HB3.out.size))
        have HG2 := Lib.hid hg2
        have HGW : Hid (w.heap.size < g) := Lib.hid (Nat.lt_of_lt_of_le (Array.getElem?_eq_some_iff.1 (HRES.out _ HB3.out).1).1 hg1)
        have HW0G : Hid (W0.heap.size ≤ g) := Lib.hid (Nat.le_trans HB3.out.size hg1)
        clear hbq hg1 hg2 HROW2 HO2 HO3 hbl2
        have tok2 : True := trivial
        have tok3 : True := trivial
        have HVX := HVR
        rcases HQ.out with ⟨_, _, q3, q4⟩ | ⟨_, _, q3, q4, q5⟩ | ⟨_, _, q3, q4, q5, q6⟩
        · have j2 : ((n3 : Int) != (rest.length : Int) - 16) = true := by rw [bne_iff_ne]; omega
          have HE : Hid (blE blob = _) := Lib.hid (HEX.out.trans q4)
          have HZ := Lib.hid (HPZ.out (by rw [HE.out]; first | decide | assumption))
          generalize validB bk [] = vb at HVX
          clear q3 q4 HQ HPZ HPY HVR
          go_wp2_with (first
            | (clear tok2; refine st_T (T := 26) (bc bk nilS) (info_bc bk) rfl (.tmp 14) (.tmp 84) rfl g (bc zB nilS) rfl rfl (bc_all bk) (by rw [bc_size, bc_size]) HG2.out ?_; intro w5 hg5 ho5 hb5; have HG5 := Lib.hid hg5; have HB5 := Lib.hid (HBQ.out.trans (hb5 _ HW0G.out)); clear hg5 ho5 hb5)
            | (clear tok3; refine ld_bk bk nilS rfl (.tmp 14) rfl g rfl _ HG5.out ?_)
            | (go_at_call 14; refine (HVX.out _).mono ?_; rintro e w6 ⟨rfl, hb6⟩; have HG6 : Hid (w6.heap[g]? = some (.cells (bc bk nilS) 26 (0, 0))) := (Lib.hid (by rw [hb6.block _ (Array.getElem?_eq_some_iff.1 HG5.out).1]; exact HG5.out)); have HB6 := Lib.hid (HB5.out.trans (hb6.mono HB5.out.size)); clear hb6)
            | (refine bld_z rfl rfl ?_)
            | (refine st_T (T := 26) (bc zB nilS) (info_bc zB) rfl (.tmp 2) (.tmp 96) rfl w.heap.size (bc zB nilS) rfl rfl (bc_all zB) rfl (HRES.out _ HB6.out).1 ?_; intro we hge hoe hbe))
          refine bodyPost_ret (results_row2 rfl _ _ w.heap.size _ rfl (run_bkrow _ _ zB nilS _ hge)) rfl ?_
          exact ⟨by rw [HZ.out, HE.out]; rfl, (HRES.out _ HB6.out).2.trans (hbe _ (Nat.le_refl _))⟩
        · have j2 : ((n3 : Int) != (rest.length : Int) - 16) = false := by rw [bne_eq_false_iff_eq]; omega
          have HE : Hid (blE blob = _) := Lib.hid (HEX.out.trans q5)
          have HZ := Lib.hid (HPZ.out (by rw [HE.out]; first | decide | assumption))
          rw [q4] at HVX
          clear q3 q4 q5 HQ HPZ HPY HVR
          go_wp2_with (first
            | (clear tok2; refine st_T (T := 26) (bc bk nilS) (info_bc bk) rfl (.tmp 14) (.tmp 84) rfl g (bc zB nilS) rfl rfl (bc_all bk) (by rw [bc_size, bc_size]) HG2.out ?_; intro w5 hg5 ho5 hb5; have HG5 := Lib.hid hg5; have HB5 := Lib.hid (HBQ.out.trans (hb5 _ HW0G.out)); clear hg5 ho5 hb5)
            | (clear tok3; refine ld_bk bk nilS rfl (.tmp 14) rfl g rfl _ HG5.out ?_)
            | (go_at_call 14; refine (HVX.out _).mono ?_; rintro e w6 ⟨rfl, hb6⟩; have HG6 : Hid (w6.heap[g]? = some (.cells (bc bk nilS) 26 (0, 0))) := (Lib.hid (by rw [hb6.block _ (Array.getElem?_eq_some_iff.1 HG5.out).1]; exact HG5.out)); have HB6 := Lib.hid (HB5.out.trans (hb6.mono HB5.out.size)); clear hb6)
            | (refine bld_z rfl rfl ?_)
            | (refine st_T (T := 26) (bc zB nilS) (info_bc zB) rfl (.tmp 2) (.tmp 96) rfl w.heap.size (bc zB nilS) rfl rfl (bc_all zB) rfl (HRES.out _ HB6.out).1 ?_; intro we hge hoe hbe))
          refine bodyPost_ret (results_row2 rfl _ _ w.heap.size _ rfl (run_bkrow _ _ zB nilS _ hge)) rfl ?_
          exact ⟨by rw [HZ.out, HE.out]; rfl, (HRES.out _ HB6.out).2.trans (hbe _ (Nat.le_refl _))⟩
        · have j2 : ((n3 : Int) != (rest.length : Int) - 16) = false := by rw [bne_eq_false_iff_eq]; omega
          have HE : Hid (blE blob = 0) := Lib.hid (HEX.out.trans q5)
          have HZ : Hid (pb = bk) := Lib.hid (by rw [HPY.out HE.out, HBB.out, q6])
          rw [q4] at HVX
          clear q3 q4 q5 q6 HQ HPZ HPY HVR
          go_wp2_with (first
            | (clear tok2; refine st_T (T := 26) (bc bk nilS) (info_bc bk) rfl (.tmp 14) (.tmp 84) rfl g (bc zB nilS) rfl rfl (bc_all bk) (by rw [bc_size, bc_size]) HG2.out ?_; intro w5 hg5 ho5 hb5; have HG5 := Lib.hid hg5; have HB5 := Lib.hid (HBQ.out.trans (hb5 _ HW0G.out)); clear hg5 ho5 hb5)
            | (clear tok3; refine ld_bk bk nilS rfl (.tmp 14) rfl g rfl _ HG5.out ?_)
            | (go_at_call 14; refine (HVX.out _).mono ?_; rintro e w6 ⟨rfl, hb6⟩; have HG6 : Hid (w6.heap[g]? = some (.cells (bc bk nilS) 26 (0, 0))) := (Lib.hid (by rw [hb6.block _ (Array.getElem?_eq_some_iff.1 HG5.out).1]; exact HG5.out)); have HB6 := Lib.hid (HB5.out.trans (hb6.mono HB5.out.size)); clear hb6)
            | (refine ld_bk bk nilS rfl (.tmp 14) rfl g rfl _ HG6.out ?_)
            | (refine st_T (T := 26) (bc bk nilS) (info_bc bk) rfl (.tmp 2) (.tmp 97) rfl w.heap.size (bc zB nilS) rfl rfl (bc_all bk) (by rw [bc_size, bc_size]) (HRES.out _ HB6.out).1 ?_; intro we hge hoe hbe))
          refine bodyPost_ret (results_row2 rfl _ _ w.heap.size _ rfl (run_bkrow _ _ bk nilS _ hge)) rfl ?_
          exact ⟨by rw [HZ.out, HE.out]; rfl, (HRES.out _ HB6.out).2.trans (hbe _ (Nat.le_refl _))⟩
end Go.Proofs.YtbpjdfnnlmblaaaGreatDoor
/- The specification's Open (printed by wip/gen/refO.py). -/
namespace Go.Proofs.YtbpjdfnnlmblaaaGreatDoor
open Go.RowKit Go.Shelf
set_option linter.unusedSimpArgs false
set_option linter.unusedVariables false
theorem blT_eq (dk blob : List UInt8) : blT dk blob = openX (deriveP dk bkL) (blH blob) (rdR decS blob 0) := rfl
theorem blO_eq (dk blob : List UInt8) : blO dk blob = openE (deriveP dk bkL) (blH blob) (rdR decS blob 0) := rfl
theorem op_a {dk blob : List UInt8} (h32 : dk.length = 32) (h : blE blob ≠ 0) : opE dk blob = blE blob := by unfold opE; rw [if_pos h32, if_neg h]
theorem op_b {dk blob : List UInt8} (h32 : dk.length = 32) (h : blE blob = 0) (h2 : blO dk blob ≠ 0) : opE dk blob = blO dk blob := by unfold opE; rw [if_pos h32, if_pos h, if_neg h2]
theorem op_c {dk blob : List UInt8} (h32 : dk.length = 32) (h : blE blob = 0) (h2 : blO dk blob = 0) (h3 : ctE (blT dk blob) ≠ 0) : opE dk blob = ctE (blT dk blob) := by unfold opE; rw [if_pos h32, if_pos h, if_pos h2, if_neg (fun hq => h3 hq.1)]
theorem op_d {dk blob : List UInt8} (h32 : dk.length = 32) (h : blE blob = 0) (h2 : blO dk blob = 0) (h3 : ctE (blT dk blob) = 0) (h4 : validB (blB blob) (ctK (blT dk blob)) = false) : opE dk blob = 6 := by unfold opE; rw [if_pos h32, if_pos h, if_pos h2, if_pos ⟨h3, h4⟩]
theorem op_e {dk blob : List UInt8} (h32 : dk.length = 32) (h : blE blob = 0) (h2 : blO dk blob = 0) (h3 : ctE (blT dk blob) = 0) (h4 : validB (blB blob) (ctK (blT dk blob)) = true) : opE dk blob = 0 ∧ opB dk blob = blB blob ∧ opK dk blob = ctK (blT dk blob) := by
  have e : opE dk blob = 0 := by unfold opE; rw [if_pos h32, if_pos h, if_pos h2, if_neg (fun hq => by rw [h4] at hq; cases hq.2), h3]
  refine ⟨e, ?_, ?_⟩
  · unfold opB; rw [if_pos e]
  · unfold opK; rw [if_pos e]
theorem RdK.formK {w : World} {v : Value} {l : List K} (h : RdK w v l) : ∃ a c, v = .slice a l.length c := by
  obtain ⟨a, c, rfl, _⟩ := h
  exact ⟨a, c, rfl⟩
theorem info_k9 : (Tryz.prog.info? 45).map (·.size) = some 9 := by kernel_rfl
theorem fill_k1 (km : K) : Instr.fill (fun i => some (i * 9, 9)) ((Array.range (1 * 9)).map ((Value.agg (kc zK)).cells[· % (Value.agg (kc zK)).cells.size]!)) [(0, Value.agg (kc km))] = some (kc km) := by kernel_rfl
/-- a list of one key is built -/
theorem bs_key {ops : Array Oper} {rest : List Oper} {o : Oper} {a : Act} {w : World} {Q : Exit → Act → World → Prop} (km : K) (hg : o.guard = none) (x : Operand) (ho : o.op = .buildSlice 24 1 #[(0, x)]) (hx : a.eval x = .agg (kc km))
    (h : wpList Tryz.prog ops Q rest (a.put o.dst (.slice (some ⟨w.heap.size, 0, none⟩) 1 1)) (w.alloc (.cells (kc km) 45))) : wpList Tryz.prog ops Q (o :: rest) a w := by
  have hz := zero_key'
  have hs := info_k9
  cases hi : Tryz.prog.info? 45 with
  | none => rw [hi] at hs; cases hs
  | some i =>
    rw [hi] at hs hz
    simp only [Option.map_some, Option.some.injEq] at hs hz
    refine wpList_buildSlice hg _ 45 1 _ ho (kc km) i (.agg (kc zK)) Tryz.underlying24 hi hz (by rw [hs]; decide) (by rw [hs]; decide) ?_ h
    have hp : ((#[(0, x)] : Array (Nat × Operand)).map fun (i, x) => (i, a.eval x)).toList = [(0, Value.agg (kc km))] := by simp [hx]
    rw [hp, hs]
    exact fill_k1 km
/-- while keys are read: the backup in its block, the keys in a row of one's own -/
structure OR36 (WL : World) (g6 : Nat) (b : BK) (vk : Value) (ks : List K) (x : World) : Prop where
  row : x.heap[g6]? = some (.cells (bc b vk) 26 (0, 0))
  own : OwnK x WL.heap.size vk ks
  grown : WL.grownBy x (some g6)
  lt : g6 < WL.heap.size
theorem OR36.on {WL : World} {g6 : Nat} {b : BK} {vk : Value} {ks : List K} {x y : World} (h : OR36 WL g6 b vk ks x) (hb : Below x.heap.size x y) : OR36 WL g6 b vk ks y :=
  ⟨by rw [hb.block _ (Array.getElem?_eq_some_iff.1 h.row).1]; exact h.row, h.own.keep hb (Nat.le_refl _), grown_then h.grown hb, h.lt⟩
theorem OR36.app {WL : World} {g6 : Nat} {b : BK} {vk vk' : Value} {ks ks' : List K} {x y : World} (h : OR36 WL g6 b vk ks x) (hb : Below WL.heap.size x y) (ho : OwnK y WL.heap.size vk' ks') : OR36 WL g6 b vk' ks' (y.setRow g6 (bc b vk')) := by
  have hrow : y.heap[g6]? = some (.cells (bc b vk) 26 (0, 0)) := by rw [hb.block _ h.lt]; exact h.row
  have hg : WL.grownBy y (some g6) := ⟨hb.os.trans h.grown.os, hb.tape.trans h.grown.tape, hb.output.trans h.grown.output, Nat.le_trans h.grown.size hb.size, fun k hk hne => (hb.block k hk).trans (h.grown.block k hk hne)⟩
  refine ⟨setRow_heap _ _ _ _ _ _ hrow, ?_, grown_trans hg (grown_setRow _ _ _), h.lt⟩
  exact ho.grown (grown_setRow _ _ _) (fun g2 hg2 => by cases hg2; exact ho.neOld h.lt)
theorem OR36.bel {w WL : World} {g6 : Nat} {b : BK} {vk : Value} {ks : List K} {x : World} (h : OR36 WL g6 b vk ks x) (hw : Below w.heap.size w WL) (hg : w.heap.size ≤ g6) : Below w.heap.size w x :=
  hw.trans (below_grown h.grown hg h.lt)
theorem OR36.keep {WL : World} {g6 : Nat} {b : BK} {vk : Value} {ks : List K} {x : World} (h : OR36 WL g6 b vk ks x) {g : Nat} {o : Obj} (hg : WL.heap[g]? = some o) (hne : g ≠ g6) : x.heap[g]? = some o := by
  rw [h.grown.block g (Array.getElem?_eq_some_iff.1 hg).1 (fun e => hne (Option.some.inj e))]
  exact hg
attribute [local irreducible] Calls drow decS decSs blE blB pkB opE opB opK ctE ctK blT blO validB mac encS deriveP openX openE kc
set_option maxRecDepth 100000 in
set_option maxHeartbeats 8000000 in
theorem open36_r (dk blob : List UInt8) (w : World) (hk : K0At w) (hl : blob.length ≤ 100000) :
    Calls Tryz.prog 23 #[.string ⟨dk.toArray⟩, .string ⟨blob.toArray⟩] w fun e w' => ∃ a c, e = .returned (.tuple #[.agg (bc (opB dk blob) (.slice a (opK dk blob).length c)), .int .i64 (opE dk blob)]) ∧ RdK w' (.slice a (opK dk blob).length c) (opK dk blob) ∧ Below w.heap.size w w' := by
  have hz := zero_bk
  have hzk := zero_key
  have HL := Lib.hid hl
  obtain ⟨W0, hW0⟩ : ∃ W0, W0 = w.alloc (.cells (bc zB (.slice none 0 0)) 26) := ⟨_, rfl⟩
  have HW := Lib.hid hW0
  have HRES : Hid (∀ u, Below W0.heap.size W0 u → u.heap[w.heap.size]? = some (.cells (bc zB nilS) 26 (0, 0)) ∧ Below w.heap.size w u ∧ K0At u) := Lib.hid (by
    intro u h
    rw [hW0] at h
    have h2 := below1 _ _ h
    exact ⟨by rw [h.block _ (by simp)]; exact heap_last _ _ _ rfl, h2, hk.on h2⟩)
  have HSZ : Hid (w.heap.size < W0.heap.size) := Lib.hid (by rw [hW0]; simp)
  have HNO := Lib.hid (fun (h : opE dk blob ≠ 0) => opE_no dk blob h)
  have HB00 := Lib.hid (Below.refl W0.heap.size W0)
  clear hW0 hk
  by_cases h32 : dk.length = 32
  case neg =>
    have HE : Hid (opE dk blob = 1) := Lib.hid (by unfold opE; rw [if_neg h32])
    have i1 : ((dk.length : Int) != 32) = true := by rw [bne_iff_ne]; omega
    clear h32 hl
    go_enter Tryz.func23, Tryz.ntmps23
    go_upto_region 1 with fail
    rw [← HW.out]
    go_wp2_with (first
      | (refine bld_z rfl rfl ?_)
      | (refine st_T (T := 26) (bc zB nilS) (info_bc zB) rfl (.tmp 4) (.tmp 23) rfl w.heap.size (bc zB nilS) rfl rfl (bc_all zB) rfl (HRES.out _ HB00.out).1 ?_; intro we hge hoe hbe))
    refine bodyPost_ret (results_row2 rfl _ _ w.heap.size _ rfl (run_bkrow _ _ zB nilS _ hge)) rfl ?_
    obtain ⟨z1, z2⟩ := HNO.out (by rw [HE.out]; first | decide | assumption)
    exact ⟨none, 0, by rw [z1, z2, HE.out]; rfl, by rw [z2]; exact rdK_nil _, (HRES.out _ HB00.out).2.1.trans (hbe _ (Nat.le_refl _))⟩
  have i1 : ((dk.length : Int) != 32) = false := by rw [h32]; rfl
  have HPK := Lib.hid (fun (y : World) => peek_r blob y (by omega))
  by_cases hbl : blE blob = 0
  case neg =>
    have HE := Lib.hid (op_a h32 hbl)
    have i2 : (blE blob != 0) = true := by rw [bne_iff_ne]; exact hbl
    have HBL := Lib.hid hbl
    generalize pkB blob = pk at HPK
    clear h32 hl hbl
    go_enter Tryz.func23, Tryz.ntmps23
    go_upto_region 1 with fail
    rw [← HW.out]
    go_upto_region 4 with (first
      | (go_at_call 21; refine (HPK.out _).mono ?_; rintro e w1 ⟨rfl, hb1⟩; have HB1 := Lib.hid hb1; clear hb1)
      | (refine st_new (bc pk nilS) 26 rfl (.tmp 6) (.tmp 27) rfl _ rfl rfl rfl (by rw [bc_size]; exact info_b) (by rw [bc_size, bc_size]) (bc_all _) ?_))
    have HX6 : Hid ((w1.alloc (.cells (bc pk nilS) 26)).heap[w1.heap.size]? = some (.cells (bc pk nilS) 26 (0, 0))) := Lib.hid (heap_alloc_new _ _)
    have HB2 : Hid (Below W0.heap.size W0 (w1.alloc (.cells (bc pk nilS) 26))) := Lib.hid (HB1.out.alloc HB1.out.size _)
    have HL6 : Hid (W0.heap.size ≤ w1.heap.size) := Lib.hid HB1.out.size
    generalize hw2 : w1.alloc (.cells (bc pk nilS) 26) = W2 at HX6 HB2 ⊢
    generalize hg6 : w1.heap.size = g6 at HX6 HL6 ⊢
    clear hw2 hg6
    go_wp2_with (first
      | (refine bld_z rfl rfl ?_)
      | (refine st_T (T := 26) (bc zB nilS) (info_bc zB) rfl (.tmp 4) (.tmp 31) rfl w.heap.size (bc zB nilS) rfl rfl (bc_all zB) rfl (HRES.out _ HB2.out).1 ?_; intro we hge hoe hbe))
    refine bodyPost_ret (results_row2 rfl _ _ w.heap.size _ rfl (run_bkrow _ _ zB nilS _ hge)) rfl ?_
    obtain ⟨z1, z2⟩ := HNO.out (by rw [HE.out]; exact HBL.out)
    exact ⟨none, 0, by rw [z1, z2, HE.out]; rfl, by rw [z2]; exact rdK_nil _, (HRES.out _ HB2.out).2.1.trans (hbe _ (Nat.le_refl _))⟩
  have hd0 : (decS blob).2.2 = 0 := by
    refine Decidable.of_not_not (fun hq => ?_)
    have := blE_no hq
    rw [hbl] at this
    exact hq this.symm
  obtain ⟨_, _, hH, hR⟩ := blE_yes hd0
  have hu := (codecS.used blob hd0).1
  have hhl : (decS blob).1.length ≤ blob.length := by have := rdVS_len blob 0; rw [rdV_0 hd0] at this; exact this
  have HGB := Lib.hid (fun (v : Value) (y : World) (hv : RdE eB y v blob) => getBytesR_c v blob y hv)
  have hT := blT_eq dk blob
  have hO := blO_eq dk blob
  rw [hH, hR] at hT hO
  have hdd : decS blob = ((decS blob).1, (decS blob).2.1, (0 : Int)) := by rw [← hd0]
  rw [hdd] at HGB
  clear hdd hH hR
  generalize (decS blob).1 = h at HGB hT hO hhl
  generalize (decS blob).2.1 = n at HGB hT hO hu
  obtain ⟨rr, hrr⟩ : ∃ rr, rr = blob.drop n := ⟨_, rfl⟩
  rw [← hrr] at hT hO
  have HRR := Lib.hid hrr
  have HHL := Lib.hid hhl
  have HU := Lib.hid hu
  have HRL : Hid (rr.length ≤ blob.length) := Lib.hid (by rw [hrr, List.length_drop]; omega)
  have HTL : Hid ((openX (deriveP dk bkL) h rr).length ≤ rr.length) := Lib.hid (openX_len _ _ _)
  have HDL := Lib.hid (deriveP_len dk bkL)
  have HDR := Lib.hid (fun (y : World) (a : K0At y) => derive_r dk bkL y a (by omega) (by decide))
  have HOP := Lib.hid (fun (y : World) (a : K0At y) => open_rt (deriveP dk bkL) h rr y a (fun _ => .inl ⟨by omega, by have := HRL.out; omega⟩))
  generalize deriveP dk bkL = dp at HDR HOP HTL hT hO HDL
  rw [← hT] at HTL HOP
  rw [← hO] at HOP
  have HOB := Lib.hid (fun (h2 : blO dk blob ≠ 0) => op_b h32 hbl h2)
  have HOC := Lib.hid (fun (h2 : blO dk blob = 0) (h3 : ctE (blT dk blob) ≠ 0) => op_c h32 hbl h2 h3)
  have HOD := Lib.hid (fun (h2 : blO dk blob = 0) (h3 : ctE (blT dk blob) = 0) (h4 : validB (blB blob) (ctK (blT dk blob)) = false) => op_d h32 hbl h2 h3 h4)
  have HOE := Lib.hid (fun (h2 : blO dk blob = 0) (h3 : ctE (blT dk blob) = 0) (h4 : validB (blB blob) (ctK (blT dk blob)) = true) => op_e h32 hbl h2 h3 h4)
  have hpk : pkB blob = blB blob := by unfold pkB; rw [if_pos hbl]
  rw [hbl, hpk] at HPK
  generalize blB blob = pk at HPK HOD HOE
  generalize blT dk blob = T at HOP HTL HOC HOD HOE
  generalize blO dk blob = f at HOP HOB HOC HOD HOE
  have HBK : Hid (bkL = [98, 97, 99, 107, 117, 112]) := Lib.hid rfl
  have hbi : (blob.length : Int) ≤ 100000 := by omega
  clear hl h32 hbl hd0 hpk hT hO hrr hhl hu
  go_enter Tryz.func23, Tryz.ntmps23
  go_upto_region 1 with fail
  rw [← HW.out]
  go_upto_region 4 with (first
    | (go_at_call 21; refine (HPK.out _).mono ?_; rintro e w1 ⟨rfl, hb1⟩; have HB1 := Lib.hid hb1; clear hb1)
    | (refine st_new (bc pk nilS) 26 rfl (.tmp 6) (.tmp 27) rfl _ rfl rfl rfl (by rw [bc_size]; exact info_b) (by rw [bc_size, bc_size]) (bc_all _) ?_))
  have HX6 : Hid ((w1.alloc (.cells (bc pk nilS) 26)).heap[w1.heap.size]? = some (.cells (bc pk nilS) 26 (0, 0))) := Lib.hid (heap_alloc_new _ _)
  have HB2 : Hid (Below W0.heap.size W0 (w1.alloc (.cells (bc pk nilS) 26))) := Lib.hid (HB1.out.alloc HB1.out.size _)
  have HL6 : Hid (W0.heap.size ≤ w1.heap.size) := Lib.hid HB1.out.size
  generalize hw2 : w1.alloc (.cells (bc pk nilS) 26) = W2 at HX6 HB2 ⊢
  generalize hg6 : w1.heap.size = g6 at HX6 HL6 ⊢
  clear hw2 hg6
  have HX : Hid (∀ u, Below W2.heap.size W2 u → u.heap[g6]? = some (.cells (bc pk nilS) 26 (0, 0)) ∧ Below W0.heap.size W0 u) := Lib.hid (fun u hu => ⟨by rw [hu.block _ (Array.getElem?_eq_some_iff.1 HX6.out).1]; exact HX6.out, HB2.out.trans (hu.mono HB2.out.size)⟩)
  have HG6 := Lib.hid (Array.getElem?_eq_some_iff.1 HX6.out).1
  have hcv := conv_sb W2 blob
  have HSB := Lib.hid (sb_below W2 blob)
  have HSR := Lib.hid (sb_rd W2 blob (by unfold maxLen; have := HL.out; omega))
  generalize Lib.bytesWorld W2 5 ⟨blob.toArray⟩ = ws at hcv HSB HSR
  go_upto_region 7 with (first
    | (go_at_call 48; refine (HGB.out _ _ HSR.out).mono ?_; rintro e w3 ⟨rfl, hb3⟩; have HB3 := Lib.hid (HSB.out.trans (hb3.mono HSB.out.size)); simp only [strV]; clear hb3))
  try dsimp only [Act.put]
  refine region_rel 11 [[], [0], [], [], [], [3, 4], [1, 2, 5], [6], [7], [7], [8]] (SP.of [.eq (.string ⟨dk.toArray⟩), .eq (.string ⟨dp.toArray⟩), .eq (.string ⟨h.toArray⟩), .eq (.string ⟨blob.toArray⟩), .eq (.int .i64 n), .eq (.string ⟨rr.toArray⟩), .eq (.tuple #[.string ⟨T.toArray⟩, .int .i64 f]), .eq (.tuple #[.string ⟨T.toArray⟩, .int .i64 f]), .eq (.string ⟨T.toArray⟩), .eq (.int .i64 f), .eq (.string ⟨T.toArray⟩)]) (fun _ => undef) ?h1 ?h2 ?h3 ?h4 ?h5 ?h6
  case h1 => kernel_rfl
  case h2 => kernel_rfl
  case h3 => kernel_rfl
  case h4 =>
    simp only [List.take_succ_cons, List.take_zero]
    repeat (first | exact trivial | refine ⟨fun vals v => by kernel_rfl, ?_⟩)
  case h5 =>
    simp only [List.take_succ_cons, List.take_zero]
    refine ⟨?_, ?_, ?_, ?_, ?_, ?_, ?_, ?_, ?_, ?_, ?_, trivial⟩
    all_goals (intro wq hbq vals; simp only [Nat.reduceAdd, Nat.zero_add, List.getD_cons_succ, List.getD_cons_zero]; have HQ := Lib.hid (HX.out _ (HB3.out.trans (hbq.mono HB3.out.size))); clear hbq; repeat (first | refine given_nil ?_ | refine given_eq rfl ?_); intro Q hQ; simp only [putAll, upd, Act.put, List.setIfInBounds_toArray, List.set_cons_zero, List.set_cons_succ, Nat.reduceAdd, Nat.zero_add, Nat.reduceEqDiff, if_true, if_false, reduceIte])
    case refine_2 =>
      go_wp2_with (go_at_call 30; refine (HDR.out _ (HRES.out _ HQ.out.2).2.2).mono ?_; rintro e x1 ⟨rfl, hx1⟩)
      exact relEnd_fin hQ _ (by kernel_rfl) hx1 rfl
    case refine_6 =>
      have hs := str_drop blob n HU.out
      rw [← HRR.out] at hs
      have tk : (blob.drop n).take (blob.length - n) = rr := by rw [take_drop_all, HRR.out]
      have i5 : (n : Int) ≤ blob.length := by have := HU.out; omega
      have i6 := HU.out
      go_wp2
      exact relEnd_fin hQ _ (by kernel_rfl) (Below.refl _ _) rfl
    case refine_7 =>
      go_wp2_with (go_at_call 56; refine (HOP.out _ (HRES.out _ HQ.out.2).2.2).mono ?_; rintro e x1 ⟨rfl, hx1⟩)
      exact relEnd_fin hQ _ (by kernel_rfl) hx1 rfl
    all_goals go_wp2
    all_goals exact relEnd_fin hQ _ (by kernel_rfl) (Below.refl _ _) rfl
  case h6 =>
    intro wq hbq vals
    rw [show List.range 11 = [0, 1, 2, 3, 4, 5, 6, 7, 8, 9, 10] from by decide]
    repeat (first | refine given_nil ?_ | refine given_eq rfl ?_)
    simp only [List.take_succ_cons, List.take_zero, List.drop_succ_cons, List.drop_zero]
    simp only [putAll, upd, Act.put, List.setIfInBounds_toArray, List.set_cons_zero, List.set_cons_succ, Nat.reduceAdd, Nat.zero_add, Nat.reduceEqDiff, if_true, if_false, reduceIte]
    have HBQ := Lib.hid (HB3.out.trans (hbq.mono HB3.out.size))
    clear hbq
    by_cases hf : f = 0
    case neg =>
      have j1 : (f != 0) = true := by rw [bne_iff_ne]; exact hf
      have HE := Lib.hid (HOB.out hf)
      clear HOB HOC HOD HOE
      have HF := Lib.hid hf
      clear hf
      go_wp2_with (first
        | (refine bld_z rfl rfl ?_)
        | (refine st_T (T := 26) (bc zB nilS) (info_bc zB) rfl (.tmp 4) (.tmp 52) rfl w.heap.size (bc zB nilS) rfl rfl (bc_all zB) rfl (HRES.out _ (HX.out _ HBQ.out).2).1 ?_; intro we hge hoe hbe))
      refine bodyPost_ret (results_row2 rfl _ _ w.heap.size _ rfl (run_bkrow _ _ zB nilS _ hge)) rfl ?_
      obtain ⟨z1, z2⟩ := HNO.out (by rw [HE.out]; exact HF.out)
      exact ⟨none, 0, by rw [z1, z2, HE.out]; rfl, by rw [z2]; exact rdK_nil _, (HRES.out _ (HX.out _ HBQ.out).2).2.1.trans (hbe _ (Nat.le_refl _))⟩
    subst hf
    have hcv3 := conv_sb wq T
    have HSB3 := Lib.hid (sb_below wq T)
    have HSR3 := Lib.hid (sb_rd wq T (by unfold maxLen; have := HTL.out; have := HRL.out; have := HL.out; omega))
    generalize Lib.bytesWorld wq 5 ⟨T.toArray⟩ = wqs at hcv3 HSB3 HSR3
    have HTL2 : Hid (T.length ≤ 100000) := Lib.hid (by have := HTL.out; have := HRL.out; have := HL.out; omega)
    have hti : (T.length : Int) ≤ 100000 := by have := HTL2.out; omega
    have HGS := Lib.hid (getStringsR_c _ T wqs HSR3.out (by have := HTL2.out; omega))
    have HCE := Lib.hid (fun (h : (decSs T).2.2 ≠ 0) => ct_err h)
    have HCL := Lib.hid (fun (h : (decSs T).2.2 = 0) (h2 : ¬ (decSs T).2.1 = T.length) => ct_left h h2)
    have HCA := Lib.hid (fun (h : (decSs T).2.2 = 0) (h2 : (decSs T).2.1 = T.length) => ct_all h h2)
    have HSL : Hid ((decSs T).2.2 = 0 → (decSs T).1.length ≤ T.length ∧ ∀ x ∈ (decSs T).1, x.length ≤ T.length) := Lib.hid (fun h0 => ⟨by have := rdVL_num T 0; rw [rdV_0 h0] at this; exact this, fun x hx => rdVL_len T 0 x (by rw [rdV_0 h0]; exact hx)⟩)
    generalize decSs T = d at HGS HCE HCL HCA HSL
    obtain ⟨ss, m, er⟩ := d
    simp only at HCE HCL HCA HSL
    have tok1 : True := trivial
    by_cases he : er = 0
    case neg =>
      have j2 : (er != 0) = true := by rw [bne_iff_ne]; exact he
      have HE : Hid (opE dk blob = er) := Lib.hid (by have hc := HCE.out he; rw [HOC.out rfl (by rw [hc]; exact he), hc])
      have HF := Lib.hid he
      clear he HOB HOC HOD HOE HCE HCL HCA HSL
      go_wp2_with (first
        | (clear tok1; go_at_call 57; refine HGS.out.mono ?_; rintro e w5 ⟨v5, rfl, ho5, hb5⟩; obtain ⟨a5, c5, rfl⟩ := ho5.rd.form; have HO5 := Lib.hid ho5; have HB5 := Lib.hid (HBQ.out.trans ((HSB3.out.trans (hb5.mono HSB3.out.size)).mono HBQ.out.size)); clear ho5 hb5)
        | (refine bld_z rfl rfl ?_)
        | (refine st_T (T := 26) (bc zB nilS) (info_bc zB) rfl (.tmp 4) (.tmp 63) rfl w.heap.size (bc zB nilS) rfl rfl (bc_all zB) rfl (HRES.out _ (HX.out _ HB5.out).2).1 ?_; intro we hge hoe hbe))
      refine bodyPost_ret (results_row2 rfl _ _ w.heap.size _ rfl (run_bkrow _ _ zB nilS _ hge)) rfl ?_
      obtain ⟨z1, z2⟩ := HNO.out (by rw [HE.out]; exact HF.out)
      exact ⟨none, 0, by rw [z1, z2, HE.out]; rfl, by rw [z2]; exact rdK_nil _, (HRES.out _ (HX.out _ HB5.out).2).2.1.trans (hbe _ (Nat.le_refl _))⟩
    subst he
    by_cases hm : m = T.length
    case neg =>
      have j2 : ((m : Int) != (T.length : Int)) = true := by rw [bne_iff_ne]; omega
      have HE : Hid (opE dk blob = 6) := Lib.hid (by have hc := HCL.out rfl hm; rw [HOC.out rfl (by rw [hc]; decide), hc])
      clear hm HOB HOC HOD HOE HCE HCL HCA HSL
      go_wp2_with (first
        | (clear tok1; go_at_call 57; refine HGS.out.mono ?_; rintro e w5 ⟨v5, rfl, ho5, hb5⟩; obtain ⟨a5, c5, rfl⟩ := ho5.rd.form; have HO5 := Lib.hid ho5; have HB5 := Lib.hid (HBQ.out.trans ((HSB3.out.trans (hb5.mono HSB3.out.size)).mono HBQ.out.size)); clear ho5 hb5)
        | (refine bld_z rfl rfl ?_)
        | (refine st_T (T := 26) (bc zB nilS) (info_bc zB) rfl (.tmp 4) (.tmp 69) rfl w.heap.size (bc zB nilS) rfl rfl (bc_all zB) rfl (HRES.out _ (HX.out _ HB5.out).2).1 ?_; intro we hge hoe hbe))
      refine bodyPost_ret (results_row2 rfl _ _ w.heap.size _ rfl (run_bkrow _ _ zB nilS _ hge)) rfl ?_
      obtain ⟨z1, z2⟩ := HNO.out (by rw [HE.out]; first | decide | assumption)
      exact ⟨none, 0, by rw [z1, z2, HE.out]; rfl, by rw [z2]; exact rdK_nil _, (HRES.out _ (HX.out _ HB5.out).2).2.1.trans (hbe _ (Nat.le_refl _))⟩
    have j2 : ((m : Int) != (T.length : Int)) = false := by rw [hm]; simp
    obtain ⟨hc1, hc2⟩ := HCA.out rfl hm
    rw [hc1] at HOC
    rw [hc1, hc2] at HOD HOE
    have HS1 := Lib.hid (HSL.out rfl)
    have hssi : (ss.length : Int) ≤ 100000 := by have := HS1.out.1; have := HTL2.out; omega
    clear hm hc1 hc2 HCE HCL HCA HSL HOB
    go_wp2_with (first
      | (clear tok1; go_at_call 57; refine HGS.out.mono ?_; rintro e w5 ⟨v5, rfl, ho5, hb5⟩; obtain ⟨a5, c5, rfl⟩ := ho5.rd.form; have HO5 := Lib.hid ho5; have HB5 := Lib.hid (HBQ.out.trans ((HSB3.out.trans (hb5.mono HSB3.out.size)).mono HBQ.out.size)); clear ho5 hb5))
    have HX5 := Lib.hid (HX.out _ HB5.out)
    have HR5 : Hid (RdE eS w5 (.slice a5 ss.length c5) ss) := Lib.hid HO5.out.rd
    have HNE : Hid ((Value.slice a5 ss.length c5).ownBlock ≠ some g6) := Lib.hid (HO5.out.neOld (Nat.lt_of_lt_of_le HG6.out (Nat.le_trans HBQ.out.size HSB3.out.size)))
    have HL56 : Hid (g6 < w5.heap.size) := Lib.hid (Array.getElem?_eq_some_iff.1 HX5.out.1).1
    have HGW : Hid (w.heap.size ≤ g6) := Lib.hid (Nat.le_of_lt (Nat.lt_of_lt_of_le HSZ.out HL6.out))
    have HNW : Hid (w.heap.size ≠ g6) := Lib.hid (by have := Nat.lt_of_lt_of_le HSZ.out HL6.out; omega)
    go_loopw [16] (fun o wr => ∃ (j : Nat) (vk : Value), j ≤ ss.length ∧ o = .int .i64 j ∧ Hid ((foldK (ss.take j) 0).2 = 0) ∧ Hid (OR36 w5 g6 pk vk (foldK (ss.take j) 0).1 wr)) (fun o _ => ss.length - (intOf o).toNat)
    case atStart => exact ⟨0, nilS, Nat.zero_le _, rfl, Lib.hid rfl, Lib.hid ⟨HX5.out.1, OwnK.nil _ _, grown_refl _ _, HL56.out⟩⟩
    case round =>
      obtain ⟨j, vk, hj, rfl, hz0, hor⟩ := hrel
      have HRD := Lib.hid (HR5.out.other hor.out.grown HNE.out)
      by_cases hlt : j < ss.length
      case pos =>
        have k1 : (j : Int) < ss.length := by omega
        obtain ⟨bb, off, hae, hbl, hrow⟩ := RdS_cells HRD.out (by omega)
        subst hae
        have cj := hrow j hlt
        have hsl := HS1.out.2 ss[j] (List.getElem_mem hlt)
        have HFT := Lib.hid (foldK_take ss j hlt 0)
        have HFF := Lib.hid (fun h1 => foldK_first ss j hlt hz0.out h1)
        rw [hz0.out] at HFT
        have HON := Lib.hid (one_r ss[j] wr (by have := HTL2.out; omega))
        have HKL : Hid ((foldK (ss.take j) 0).1.length ≤ 100000) := Lib.hid (by rw [foldK_len, List.length_take]; have := HS1.out.1; have := HTL2.out; omega)
        generalize ss[j] = s at cj HFT HFF HON hsl
        generalize (foldK (ss.take j) 0).1 = ks at HFT HKL hor
        have HJ := Lib.hid hlt
        clear hrow hlt hz0 hsl
        by_cases hke : keyE s 0 = 0
        case neg =>
          have k2 : (keyE s 0 != 0) = true := by rw [bne_iff_ne]; exact hke
          have HE : Hid (opE dk blob = keyE s 0) := Lib.hid (by have h1 := HFF.out hke; rw [HOC.out (by first | exact rfl | exact trivial) (by rw [h1]; exact hke), h1])
          have HF := Lib.hid hke
          clear hke HOC HOD HOE HFT HFF
          have HRW : Hid (∀ u, Below wr.heap.size wr u → u.heap[w.heap.size]? = some (.cells (bc zB nilS) 26 (0, 0)) ∧ Below w.heap.size w u) := Lib.hid (fun u hu => by have h1 := hor.out.on hu; exact ⟨h1.keep (HRES.out _ HX5.out.2).1 HNW.out, h1.bel (HRES.out _ HX5.out.2).2.1 HGW.out⟩)
          go_wp2_with (first
            | (go_at_call 58; refine HON.out.mono ?_; rintro e w6 ⟨rfl, hb6⟩; have HB6 := Lib.hid hb6; clear hb6)
            | (refine st_new (kc (keyK s 0)) 45 rfl (.tmp 17) (.tmp 82) rfl _ rfl rfl rfl (by kernel_rfl) (by kernel_rfl) (kc_one _) ?_; have HB7 := Lib.hid (HRW.out _ (HB6.out.alloc HB6.out.size (.cells (kc (keyK s 0)) 45))))
            | (refine bld_z rfl rfl ?_)
            | (refine st_T (T := 26) (bc zB nilS) (info_bc zB) rfl (.tmp 4) (.tmp 86) rfl w.heap.size (bc zB nilS) rfl rfl (bc_all zB) rfl HB7.out.1 ?_; intro we hge hoe hbe))
          refine bodyPost_ret (results_row2 rfl _ _ w.heap.size _ rfl (run_bkrow _ _ zB nilS _ hge)) rfl ?_
          obtain ⟨z1, z2⟩ := HNO.out (by rw [HE.out]; exact HF.out)
          exact ⟨none, 0, by rw [z1, z2, HE.out]; rfl, by rw [z2]; exact rdK_nil _, HB7.out.2.trans (hbe _ (Nat.le_refl _))⟩
        rw [hke] at HON HFT
        clear hke HFF
        obtain ⟨ka, kcap, hvk⟩ : ∃ ka kcap, vk = .slice ka ks.length kcap := hor.out.own.rd.formK
        subst hvk
        generalize keyK s 0 = km at HON HFT
        go_upto_region 21 with (first
          | (go_at_call 58; refine HON.out.mono ?_; rintro e w6 ⟨rfl, hb6⟩; have HB6 := Lib.hid hb6; clear hb6)
          | (refine st_new (kc km) 45 rfl (.tmp 17) (.tmp 82) rfl _ rfl rfl rfl (by kernel_rfl) (by kernel_rfl) (kc_one _) ?_))
        have HA7 := Lib.hid (HB6.out.alloc HB6.out.size (.cells (kc km) 45))
        have HK7 : Hid ((w6.alloc (.cells (kc km) 45)).heap[w6.heap.size]? = some (.cells (kc km) 45 (0, 0))) := Lib.hid (heap_alloc_new _ _)
        generalize hw7 : w6.alloc (.cells (kc km) 45) = w7 at HA7 HK7 ⊢
        generalize hg7 : w6.heap.size = g7 at HK7 ⊢
        clear hw7 hg7
        have HO7 := Lib.hid (hor.out.on HA7.out)
        have c37 : w7.cell? ⟨g6, 37, none⟩ = some (.slice ka ks.length kcap) := by rw [cell_of_row _ _ _ _ _ _ HO7.out.row]; exact bc_37 _ _
        have hsz7 : w5.heap.size ≤ w7.heap.size := HO7.out.grown.size
        go_wp2_with (first
          | (refine ld_key0 km g7 _ HK7.out rfl (.tmp 17) rfl rfl ?_)
          | (refine bs_key km rfl (.tmp 90) rfl rfl ?_)
          | (at_builtin; refine app_k rfl (.tmp 89) (.tmp 91) rfl w5.heap.size _ ks rfl (HO7.out.own.keep ((Below.refl _ _).alloc (Nat.le_refl _) _) (Nat.le_refl _)) _ [km] rfl (one_k w7 km) (by have := HKL.out; simp only [List.length_cons, List.length_nil]; omega) (by rw [World.size_alloc]; omega) ?_; intro v8 w8 ho8 hb8; have HB78 : Hid (Below w5.heap.size w7 w8) := (Lib.hid ((((Below.refl w7.heap.size w7).alloc (Nat.le_refl _) (.cells (kc km) 45)).mono hsz7).trans hb8)); obtain ⟨na, nc, hnv⟩ : ∃ na nc, v8 = .slice na (ks.length + 1) nc := (by obtain ⟨a, c, e⟩ := ho8.rd.formK; exact ⟨a, c, by rw [e, List.length_append]; rfl⟩); subst hnv; have HO8 := Lib.hid ho8; clear ho8; have HR8 : Hid (w8.heap[g6]? = some (.cells (bc pk (.slice ka ks.length kcap)) 26 (0, 0))) := (Lib.hid (by rw [HB78.out.block _ HL56.out]; exact HO7.out.row)); have c37b : w8.cell? ⟨g6, 37, none⟩ = some (.slice ka ks.length kcap) := (by rw [cell_of_row _ _ _ _ _ _ HR8.out]; exact bc_37 _ _); have f37 := frozen_of_row _ _ 37 _ _ HR8.out; clear hb8 c37))
        go_roundw
        case rel => exact ⟨j + 1, .slice na (ks.length + 1) nc, HJ.out, by go_num, Lib.hid (by rw [HFT.out]), Lib.hid (by rw [HFT.out, setCell_rowC _ _ _ _ _ _ _ HR8.out, bcset_37]; exact HO7.out.app HB78.out HO8.out)⟩
        case measure => have := HJ.out; simp [intOf]; omega
      have he : j = ss.length := by omega
      have k1 : ¬ (j : Int) < ss.length := by omega
      subst he
      rw [List.take_length] at hz0 hor
      rw [hz0.out] at HOD HOE
      generalize (foldK ss 0).1 = ks at HOD HOE hor
      clear hlt hj HOC
      obtain ⟨ka, kcap, hvk⟩ : ∃ ka kcap, vk = .slice ka ks.length kcap := hor.out.own.rd.formK
      subst hvk
      have HVR := Lib.hid (validB_r pk (.slice ka ks.length kcap) ks wr hor.out.own.rd)
      have HRW : Hid (∀ u, Below wr.heap.size wr u → u.heap[w.heap.size]? = some (.cells (bc zB nilS) 26 (0, 0)) ∧ Below w.heap.size w u ∧ u.heap[g6]? = some (.cells (bc pk (.slice ka ks.length kcap)) 26 (0, 0)) ∧ OwnK u w5.heap.size (.slice ka ks.length kcap) ks) := Lib.hid (fun u hu => by have h1 := hor.out.on hu; exact ⟨h1.keep (HRES.out _ HX5.out.2).1 HNW.out, h1.bel (HRES.out _ HX5.out.2).2.1 HGW.out, h1.row, h1.own⟩)
      have tok2 : True := trivial
      cases hvv : validB pk ks with
      | false =>
        have HE := Lib.hid (HOD.out (by first | exact rfl | exact trivial) (by first | exact rfl | exact trivial) hvv)
        rw [hvv] at HVR
        clear hvv HOD HOE
        go_wp2_with (first
          | (clear tok2; refine ld_bk pk _ rfl (.tmp 6) rfl g6 rfl _ hor.out.row ?_)
          | (go_at_call 14; refine HVR.out.mono ?_; rintro e w6 ⟨rfl, hb6⟩; have HB6 := Lib.hid (HRW.out _ hb6); clear hb6)
          | (refine bld_z rfl rfl ?_)
          | (refine st_T (T := 26) (bc zB nilS) (info_bc zB) rfl (.tmp 4) (.tmp 98) rfl w.heap.size (bc zB nilS) rfl rfl (bc_all zB) rfl HB6.out.1 ?_; intro we hge hoe hbe))
        refine bodyPost_ret (results_row2 rfl _ _ w.heap.size _ rfl (run_bkrow _ _ zB nilS _ hge)) rfl ?_
        obtain ⟨z1, z2⟩ := HNO.out (by rw [HE.out]; first | decide | assumption)
        exact ⟨none, 0, by rw [z1, z2, HE.out]; rfl, by rw [z2]; exact rdK_nil _, HB6.out.2.1.trans (hbe _ (Nat.le_refl _))⟩
      | true =>
        obtain ⟨e1, e2, e3⟩ := HOE.out (by first | exact rfl | exact trivial) (by first | exact rfl | exact trivial) hvv
        have HE := Lib.hid e1
        have HE2 := Lib.hid e2
        have HE3 := Lib.hid e3
        rw [hvv] at HVR
        clear hvv HOD HOE e1 e2 e3
        go_wp2_with (first
          | (clear tok2; refine ld_bk pk _ rfl (.tmp 6) rfl g6 rfl _ hor.out.row ?_)
          | (go_at_call 14; refine HVR.out.mono ?_; rintro e w6 ⟨rfl, hb6⟩; have HB6 := Lib.hid (HRW.out _ hb6); clear hb6)
          | (refine ld_bk pk _ rfl (.tmp 6) rfl g6 rfl _ HB6.out.2.2.1 ?_)
          | (refine st_T (T := 26) (bc pk (.slice ka ks.length kcap)) (by rw [bc_size]; exact info_b) rfl (.tmp 4) (.tmp 99) rfl w.heap.size (bc zB nilS) rfl rfl (bcone _ _ _ _) (by rw [bc_size, bc_size]) HB6.out.1 ?_; intro we hge hoe hbe))
        refine bodyPost_ret (results_row2 rfl _ _ w.heap.size _ rfl (run_bkrow _ _ pk _ _ hge)) rfl ?_
        have hgr : w6.grownBy we (some w.heap.size) := ⟨(hbe 0 (Nat.zero_le _)).os, (hbe 0 (Nat.zero_le _)).tape, (hbe 0 (Nat.zero_le _)).output, (hbe 0 (Nat.zero_le _)).size, fun k _ hne => hoe k (fun e => hne (by rw [e]))⟩
        exact ⟨ka, kcap, by rw [HE.out, HE2.out, HE3.out]; rfl, by rw [HE3.out]; exact (HB6.out.2.2.2.grown hgr (fun g hg => by cases hg; exact HB6.out.2.2.2.neOld (by have := HL56.out; have := HGW.out; omega))).rd, HB6.out.2.1.trans (hbe _ (Nat.le_refl _))⟩
end Go.Proofs.YtbpjdfnnlmblaaaGreatDoor
/- What the laws BackupOpensAsSpecified and BackupNeedsItsKey lean on. -/
namespace Go.Proofs.YtbpjdfnnlmblaaaGreatDoor
open Go.RowKit Go.Shelf
set_option linter.unusedSimpArgs false
set_option linter.unusedVariables false
theorem op_pk {dk blob : List UInt8} {b : BK} (h : opE dk blob = 0) (h2 : opB dk blob = b) : blE blob = 0 ∧ pkB blob = b := by
  have h1 : blE blob = 0 := by
    unfold opE at h
    split at h
    · split at h
      · assumption
      · rename_i hq; exact absurd h hq
    · cases h
  refine ⟨h1, ?_⟩
  unfold opB at h2
  rw [if_pos h] at h2
  unfold pkB
  rw [if_pos h1, h2]
theorem makeP_len36 {dk : List UInt8} {b : BK} {l : List K} (hb : b.mach) (h : makeOk dk b l = true) (hl : l.length ≤ 40) : (makeP dk b l).length ≤ 20000 := by
  have h2 : dk.length = 32 ∧ validB b l = true := by unfold makeOk at h; simpa using h
  obtain ⟨h32, hval⟩ := h2
  obtain ⟨m1, m2, m3⟩ := validB_mo hval
  have h3 := contP_len hval
  unfold makeP
  have h4 := encS_len (headP b)
  have h5 := sealP_len (deriveP dk bkL) (headP b) (contP l)
  have h6 := headP_len b (hb.wf (by omega))
  rw [List.length_append]
  omega
theorem kc_noslice (k : K) (i : Nat) (a : Option Addr) (n c : Nat) : (kc k)[i]? ≠ some (.slice a n c) := by
  intro h
  have hm := Array.mem_of_getElem? h
  unfold kc at hm
  simp at hm
/-- keys stay where a cell that holds a slice is written -/
theorem RdK.setS {w : World} {v : Value} {l : List K} {g o : Nat} {a : Option Addr} {n c : Nat} (h : RdK w v l) (hc : w.cell? ⟨g, o, none⟩ = some (.slice a n c)) (x : Value) : RdK (w.setCell ⟨g, o, none⟩ x) v l := by
  obtain ⟨p, cap, rfl, h1, h2, h3⟩ := h
  refine ⟨p, cap, rfl, h1, h2, fun h0 => ?_⟩
  obtain ⟨b, off, rfl, hlt, hr⟩ := h3 h0
  refine ⟨b, off, rfl, by unfold World.setCell; simpa using hlt, fun j hj i hi => ?_⟩
  rw [World.cell?_setCell_other]
  · exact hr j hj i hi
  · intro e
    have h4 := hr j hj i hi
    rw [← e, hc] at h4
    exact kc_noslice _ _ _ _ _ h4.symm
end Go.Proofs.YtbpjdfnnlmblaaaGreatDoor
