/- The program's coefficients. -/
import Derived.Test.YtbkkffdgkkcbfabFieldO
import Derived.Deep.CutRange
namespace Go.Proofs.Ytbkkffdgkkcbfab
open Go.RowKit F6
set_option linter.unusedSimpArgs false
set_option linter.unusedVariables false
attribute [local irreducible] mul ev pp wt wts isum interp tim tim1 mkp mkt lag newton acc dn coef nd
theorem two_a (n : Nat) (hn : n ≤ 300) (w0 : World) : BAt ((w0.alloc (.cells (brow (List.replicate n 0)) 5)).alloc (.cells (brow (List.replicate (n + 1) 0)) 5)).drew w0.heap.size (List.replicate n 0) ∧
    OwnAt ((w0.alloc (.cells (brow (List.replicate n 0)) 5)).alloc (.cells (brow (List.replicate (n + 1) 0)) 5)).drew (w0.heap.size + 1) (n + 1) [0] := by
  have h := made_at 1 (n + 1) (by omega) (by omega) (w0.alloc (.cells (brow (List.replicate n 0)) 5))
  rw [World.size_alloc] at h
  exact ⟨((made_b n w0).alloc _).drew 1, h.drew 1⟩
theorem two_b (n : Nat) (hn : n ≤ 300) (w0 : World) : BAt ((w0.alloc (.cells (brow (List.replicate (n + 1) 0)) 5)).alloc (.cells (brow (List.replicate n 0)) 5)).drew (w0.heap.size + 1) (List.replicate n 0) ∧
    OwnAt ((w0.alloc (.cells (brow (List.replicate (n + 1) 0)) 5)).alloc (.cells (brow (List.replicate n 0)) 5)).drew w0.heap.size (n + 1) [0] := by
  have h := made_b n (w0.alloc (.cells (brow (List.replicate (n + 1) 0)) 5))
  rw [World.size_alloc] at h
  exact ⟨h.drew 1, ((made_at 1 (n + 1) (by omega) (by omega) w0).keep (B := (w0.alloc (.cells (brow (List.replicate (n + 1) 0)) 5)).heap.size) ((Below.refl _ _).alloc (Nat.le_refl _) _) (by simp)).drew 1⟩
theorem two_below (w w0 : World) (A B : Obj) (h : Below w.heap.size w w0) : Below w.heap.size w ((w0.alloc A).alloc B).drew :=
  ((h.alloc h.size _).alloc (by have := h.size; simp; omega) _).drew
set_option maxRecDepth 100000 in
theorem coef_c0 (v u : Value) (xs ys : List UInt8) (w : World) (hv : RdB w v xs) (hu : RdB w u ys) (hok : okX xs = false) :
    Calls Try.prog 21 #[v, u] w fun e w' => e = .returned (.tuple #[.slice none 0 0, .int .i64 1]) ∧ Below w.heap.size w w' := by
  have HOK := Lib.hid hok
  have HV := Lib.hid hv
  obtain ⟨a, cap, rfl, _, _, _⟩ := hv
  obtain ⟨a2, cap2, rfl, _, _, _⟩ := hu
  clear hok
  go_enter Try.func21, Try.ntmps21
  go_wp2_with (go_at_call 27; refine (distinct_c _ xs _ HV.out).mono ?_; rw [HOK.out]; rintro e w1 ⟨rfl, hb⟩)
  go_ret2
  exact ⟨rfl, hb⟩
set_option maxRecDepth 100000 in
theorem coef_c1 (v u : Value) (xs ys : List UInt8) (w : World) (hv : RdB w v xs) (hu : RdB w u ys) (hok : okX xs = true) (hl : xs.length ≠ ys.length) :
    Calls Try.prog 21 #[v, u] w fun e w' => e = .returned (.tuple #[.slice none 0 0, .int .i64 1]) ∧ Below w.heap.size w w' := by
  have hne : ((xs.length : Int) == ys.length) = false := by rw [beq_eq_false_iff_ne]; omega
  have HOK := Lib.hid hok
  have HV := Lib.hid hv
  obtain ⟨a, cap, rfl, _, _, _⟩ := hv
  obtain ⟨a2, cap2, rfl, _, _, _⟩ := hu
  clear hok hl
  go_enter Try.func21, Try.ntmps21
  go_wp2_with (go_at_call 27; refine (distinct_c _ xs _ HV.out).mono ?_; rw [HOK.out]; rintro e w1 ⟨rfl, hb⟩)
  go_ret2
  exact ⟨rfl, hb⟩
set_option maxRecDepth 100000 in
set_option maxHeartbeats 4000000 in
theorem coef_c (v u : Value) (xs ys : List UInt8) (w : World) (hv : RdB w v xs) (hu : RdB w u ys) (hok : okX xs = true) (hl : xs.length = ys.length) :
    Calls Try.prog 21 #[v, u] w fun e w' => ∃ u, e = .returned (.tuple #[u, .int .i64 0]) ∧ OwnB w' w.heap.size u (coef xs ys) ∧ Below w.heap.size w w' := by
  obtain ⟨hnd, hl1, hl2⟩ := okX_nodup hok
  have HND := Lib.hid hnd
  have HOK := Lib.hid hok
  have HV := Lib.hid hv
  obtain ⟨a, cap, rfl, _, _, hcells⟩ := hv
  obtain ⟨a2, cap2, rfl, _, _, hcells2⟩ := hu
  obtain ⟨b, off, rfl, hb1, hc1⟩ := hcells (by omega)
  obtain ⟨b2, off2, rfl, hb2, hc2⟩ := hcells2 (by omega)
  have hne : ((xs.length : Int) == ys.length) = true := by rw [beq_iff_eq]; omega
  have hne2 : ((xs.length : Int) != ys.length) = false := by rw [bne, hne]; rfl
  have hmk := run_mk xs.length xs.length (Nat.le_refl _) (by omega)
  have hmk2 : ∀ w : World, (Instr.makeSlice 30 (.int .i64 1) (.int .i64 ((xs.length : Int) + 1))).run Try.prog w = .ok (.slice (some ⟨w.heap.size, 0, none⟩) 1 (xs.length + 1)) (w.alloc (.cells (brow (List.replicate (xs.length + 1) 0)) 5)) := run_mk 1 (xs.length + 1) (by omega) (by omega)
  have i0 : IntKind.i64.wrap ((xs.length : Int) + 1) = (xs.length : Int) + 1 := by rw [IntKind.wrap_i64]; omega
  have HL := Lib.hid hl
  clear hcells hcells2 hl hnd hok
  go_enter Try.func21, Try.ntmps21
  go_upto_region 3 with (go_at_call 27; refine (distinct_c _ xs _ HV.out).mono ?_; rw [HOK.out]; rintro e w0 ⟨rfl, hb0⟩)
  go_cut [6, 7] from 25 to 31 (fun o p wx => ∃ g1 g2 : Nat, o = .slice (some ⟨g1, 0, none⟩) xs.length xs.length ∧ p = .slice (some ⟨g2, 0, none⟩) 1 (xs.length + 1) ∧ BAt wx g1 (List.replicate xs.length 0) ∧ OwnAt wx g2 (xs.length + 1) [0] ∧ g1 ≠ g2 ∧ w.heap.size ≤ g1 ∧ w.heap.size ≤ g2 ∧ Below w.heap.size w wx)
  case first =>
    go_region
    all_goals (go_wp2; go_meet)
    case rel =>
      have h := two_a xs.length (by omega) w0
      exact ⟨_, _, rfl, rfl, h.1, h.2, by omega, hb0.size, by have := hb0.size; omega, two_below _ _ _ _ hb0⟩
    case rel =>
      have h := two_b xs.length (by omega) w0
      exact ⟨_, _, rfl, rfl, h.1, h.2, by omega, by have := hb0.size; omega, hb0.size, two_below _ _ _ _ hb0⟩
  case rest =>
    obtain ⟨g1, g2, rfl, rfl, hat, hown, hg, hg1, hg2, hbc⟩ := hcut
    have c0 := hown.at 0 (by simp)
    have f0 := hown.free 0
    have HAT := Lib.hid hat
    have HOWN := Lib.hid hown
    have HG := Lib.hid hg
    have HBC := Lib.hid hbc
    clear hat hown hg hbc hmk hmk2
    go_wp2
    go_loopw [7, 36] (fun p o wr => ∃ i g2 cap : Nat, i ≤ xs.length ∧ o = .int .i64 i ∧ p = .slice (some ⟨g2, 0, none⟩) (i + 1 : Nat) cap ∧ BAt wr g1 (newton xs ys i) ∧ OwnAt wr g2 cap (mkt xs i) ∧ g1 ≠ g2 ∧ w.heap.size ≤ g2 ∧ Below w.heap.size w wr) (fun _ o _ => xs.length - (intOf o).toNat)
    case atStart => exact ⟨0, g2, xs.length + 1, Nat.zero_le _, rfl, rfl, by rw [newton_zero]; exact HAT.out.other (fun e => HG.out e.symm), by rw [mkt_zero]; exact HOWN.out.set 0 1, HG.out, hg2, HBC.out.setCell hg2 _⟩
    case round =>
      obtain ⟨i, g2, cap, hi, rfl, rfl, hat, hown, hg, hg2, hb⟩ := hrel
      by_cases hlt : i < xs.length
      · have hb2w := hb.size
        have c1 : wr.cell? ⟨b, off + i, none⟩ = some (.int .u8 (B8 (byteAt xs i))) := by rw [hb.cell (p := ⟨b, off + i, none⟩) hb1]; exact hc1 i hlt
        have c2 : wr.cell? ⟨b2, off2 + i, none⟩ = some (.int .u8 (B8 (byteAt ys i))) := by rw [hb.cell (p := ⟨b2, off2 + i, none⟩) hb2]; exact hc2 i (by have := HL.out; omega)
        have b2lt : b2 < wr.heap.size := by omega
        have ii : (i : Int) < xs.length := by omega
        have i2 : (i : Int) < ys.length := by have := HL.out; omega
        have i3 : i < ys.length := by have := HL.out; omega
        have hml := mkt_len xs i (by omega)
        have hnl := length_newton xs ys i (by omega)
        have ho1 : ∀ q : Later wr, RdB q.now (.slice (some ⟨g1, 0, none⟩) xs.length xs.length) (newton xs ys i) := by
          intro q
          have := (hat.rd (by rw [hnl]; unfold maxLen; omega)).keep q.below (Nat.le_refl _)
          rwa [hnl] at this
        have ho2 : ∀ q : Later wr, RdB q.now (.slice (some ⟨g2, 0, none⟩) (i + 1 : Nat) cap) (mkt xs i) := by
          intro q
          have := hown.rd.keep q.below (Nat.le_refl _)
          rwa [hml] at this
        have hne' := nd_ne xs HND.out i hlt
        have hnd' : div (byteAt ys i ^^^ ev (newton xs ys i) (byteAt xs i)) (ev (mkt xs i) (byteAt xs i)) = nd xs ys i := by unfold nd; rfl
        have he1 : ∀ (q : Later wr) v, v = Value.slice (some ⟨g1, 0, none⟩) xs.length xs.length → Calls Try.prog 23 #[v, .int .u8 (B8 (byteAt xs i))] q.now fun e w'' => e = .returned (.int .u8 (B8 (ev (newton xs ys i) (byteAt xs i)))) ∧ ∃ u' : Later wr, w'' = u'.now := by
          rintro q v rfl
          exact Later.call _ ((eval_c _ _ _ _ (ho1 q)).mono (fun e w' h => ⟨h.1, by obtain ⟨n, rfl⟩ := h.2; exact below_drewN n (Below.refl _ _)⟩))
        have he2 : ∀ (q : Later wr) v, v = Value.slice (some ⟨g2, 0, none⟩) (i + 1 : Nat) cap → Calls Try.prog 23 #[v, .int .u8 (B8 (byteAt xs i))] q.now fun e w'' => e = .returned (.int .u8 (B8 (ev (mkt xs i) (byteAt xs i)))) ∧ ∃ u' : Later wr, w'' = u'.now := by
          rintro q v rfl
          exact Later.call _ ((eval_c _ _ _ _ (ho2 q)).mono (fun e w' h => ⟨h.1, by obtain ⟨n, rfl⟩ := h.2; exact below_drewN n (Below.refl _ _)⟩))
        have HO1 := Lib.hid he1
        have HO2 := Lib.hid he2
        have HND' := Lib.hid hnd'
        have HNE := Lib.hid hne'
        have HI := Lib.hid hlt
        have HAT := Lib.hid hat
        have HOWN := Lib.hid hown
        have HB := Lib.hid hb
        have HG := Lib.hid hg
        have HML := Lib.hid hml
        have HNL := Lib.hid hnl
        clear ho1 ho2 he1 he2 hnd' hne' hat hown hb hg hml hnl
        go_wp2
        refine allL (by kernel_rfl) (by kernel_rfl) ?_
        repeat (go_big_quiet_step (first
          | (go_at_call 23; refine HO1.out _ _ ?_; rfl)
          | (go_at_call 23; refine HO2.out _ _ ?_; rfl)
          | (go_at_call 11; exact Later.call _ (div_c _ _ HNE.out _))))
        refine wpQuiet_nil ?_
        rintro _ ⟨q, rfl⟩
        rw [HND'.out]
        have hat2 := HAT.out.keep q.below HAT.out.lt
        have hown2 := HOWN.out.keep q.below HOWN.out.lt
        have hb2' := HB.out.trans (q.below.mono HB.out.size)
        have hns := newton_succ xs ys i HI.out
        rw [HML.out] at hns
        have hms := mkt_succ xs i HI.out
        generalize q.now = wq at hat2 hown2 hb2' ⊢
        generalize mkt xs i = P at hown2 hns hms HML ⊢
        generalize nd xs ys i = d at hns ⊢
        generalize byteAt xs i = x at hms ⊢
        have HNS := Lib.hid hns
        have HMS := Lib.hid hms
        have HAT2 := Lib.hid hat2
        have HOWN2 := Lib.hid hown2
        have HB2 := Lib.hid hb2'
        clear HAT HOWN HB HO1 HO2 HND' HNE c1 c2 hns hms hat2 hown2 hb2' q
        go_wp2
        go_loopw [58] (fun j ws => ∃ k : Nat, k ≤ i + 1 ∧ j = .int .i64 k ∧ BAt ws g1 (acc (newton xs ys i) P d k) ∧ OwnAt ws g2 cap P ∧ Below w.heap.size w ws) (fun j _ => i + 1 - (intOf j).toNat)
        case atStart => exact ⟨0, Nat.zero_le _, rfl, by rw [acc_zero]; exact HAT2.out, HOWN2.out, HB2.out⟩
        case round =>
          obtain ⟨k, hk, rfl, hat4, hp4, hb4⟩ := hrel
          by_cases hlt : k < i + 1
          · have hnl := HNL.out
            have c3 := hat4.at k (by rw [acc_len, HNL.out]; have := HI.out; omega)
            have f3 := hat4.free k
            have c4 := hp4.at k (by rw [HML.out]; exact hlt)
            have i5 : (k : Int) < (i : Int) + 1 := by omega
            have i6 : (k : Int) < xs.length := by have := HI.out; omega
            have i7 : k < xs.length := by have := HI.out; omega
            have hst := acc_step (newton xs ys i) P d k
            have HST := Lib.hid hst
            have HK := Lib.hid hlt
            have HAT4 := Lib.hid hat4
            have HP4 := Lib.hid hp4
            have HB4 := Lib.hid hb4
            clear hat4 hp4 hb4 hst hnl
            go_wp2
            first | refine tailD 9 (by kernel_rfl) (by kernel_rfl) ?_ | refine tail0 9 (by kernel_rfl) (by kernel_rfl) ?_
            simp only [List.take_succ_cons, List.take_zero, List.drop_succ_cons, List.drop_zero]
            repeat (quiet_step ((go_at_call 14; exact Calls.quiet_of_same (mul_c _ _ _))))
            refine wpQuiet_nil ?_
            rintro _ ⟨nq2, rfl⟩
            go_wp2
            go_roundw
            case rel => exact ⟨k + 1, HK.out, by go_num, by rw [← HST.out]; exact (HAT4.out.set k _).drew _, (HP4.out.other HG.out).drew _, below_drewN _ (HB4.out.setCell hg1 _)⟩
            case measure => have := HK.out; simp [intOf]; omega
          · have he : k = i + 1 := by omega
            have i5 : (i : Int) + 1 ≤ (k : Int) := by omega
            have HAT4 : Hid (BAt wr g1 (newton xs ys (i + 1))) := Lib.hid (by rw [he, HNS.out] at hat4; exact hat4)
            have HP4 := Lib.hid hp4
            have HB4 := Lib.hid hb4
            clear hat4 hp4 hb4 he
            go_wp2_with (at_builtin; refine app_at rfl (.tmp 73) (.tmp 74) rfl g2 cap (i + 1) P rfl (HP4.out.keep (B := wr.heap.size) ((Below.refl _ _).alloc (Nat.le_refl _) _) HP4.out.lt) HML.out ⟨wr.heap.size, 0, none⟩ 1 1 [0] rfl rfl ?h1 ?h2 ?h3)
            case h1 =>
              intro j u hj
              exact cell_new _ _ _ _ _ hj
            case h2 => rw [HML.out]; have := HI.out; omega
            case h3 =>
              intro g' cap' w' ho' hg' hgr
              have hat5 : BAt w' g1 (newton xs ys (i + 1)) := (HAT4.out.alloc _).grown hgr (by have := HG.out; simpa using this)
              have hg5 : g1 ≠ g' := by
                rcases hg' with rfl | rfl
                · exact HG.out
                · have := HAT4.out.lt; simp; omega
              have hz5 : w.heap.size ≤ g' := by
                rcases hg' with rfl | rfl
                · exact hg2
                · have := HB4.out.size; simp; omega
              have hb5 : Below w.heap.size w w' := (HB4.out.alloc HB4.out.size _).grown hgr (by have := HB4.out.size; simp; omega) (fun k hk => by simp at hk; omega)
              have hq : (P ++ [0]).length = i + 2 := by rw [List.length_append, HML.out]; rfl
              have hda := dn_all P x
              rw [HMS.out] at hda
              have hds := fun k => dn_step (P ++ [0]) x k
              have hdt := dn_top (P ++ [0]) x (i + 1) (by omega)
              rw [hq] at hds
              have hdl := fun k => dn_len (P ++ [0]) x k
              rw [hq] at hdl
              generalize P ++ [0] = Q at ho' hda hds hdt hdl
              have HDA := Lib.hid hda
              have HDS := Lib.hid hds
              have HDT := Lib.hid hdt
              have HDL := Lib.hid hdl
              have HAT5 := Lib.hid hat5
              have HO5 := Lib.hid ho'
              have HB5 := Lib.hid hb5
              have HG5 := Lib.hid hg5
              have hil : i < 300 := by have := HI.out; omega
              clear hat5 hb5 ho' hg5 hq hda hds hdt hdl hg' hgr HAT4 HP4 HB4
              have w1 : IntKind.i64.wrap ((i : Int) + 1 + 1 - 1) = (i : Int) + 1 := by rw [IntKind.wrap_i64]; omega
              have w2 : IntKind.i64.wrap ((i : Int) + 1) = (i : Int) + 1 := by rw [IntKind.wrap_i64]; omega
              have w3 : (i : Int) + 1 + 1 - 1 = (i : Int) + 1 := by omega
              go_wp2
              go_loopw [14] (fun j ws => ∃ k : Nat, k ≤ i + 1 ∧ j = .int .i64 k ∧ OwnAt ws g' cap' (dn Q x k) ∧ BAt ws g1 (newton xs ys (i + 1)) ∧ Below w.heap.size w ws) (fun j _ => (intOf j).toNat)
              case atStart => exact ⟨i + 1, Nat.le_refl _, by go_num, by rw [HDT.out]; exact HO5.out, HAT5.out, HB5.out⟩
              case round =>
                obtain ⟨k, hk, rfl, hp4, hat4, hb4⟩ := hrel
                rcases k with _ | k
                · have c3 := hp4.at 0 (by rw [HDL.out]; omega)
                  have f3 := hp4.free 0
                  have HAT6 := Lib.hid hat4
                  have HP6 := Lib.hid hp4
                  have HB6 := Lib.hid hb4
                  have i8 : (0 : Int) < (i : Int) + 1 + 1 := by omega
                  clear hat4 hp4 hb4 w1 w2 w3
                  go_wp2_with (go_at_call 14; refine (mul_c _ _ _).mono ?_; rintro e _ ⟨rfl, rfl⟩)
                  go_roundw
                  case rel => exact ⟨i + 1, g', cap', HI.out, by go_num, by go_num, HAT6.out.other (fun e => HG5.out e.symm), by rw [← HDA.out]; exact HP6.out.set 0 _, HG5.out, hz5, HB6.out.setCell hz5 _⟩
                  case measure => have := HI.out; simp [intOf]; omega
                · have e1 : ((k + 1 : Nat) : Int) = (k : Int) + 1 := by omega
                  have c3 := hp4.at k (by rw [HDL.out]; omega)
                  have c4 := hp4.at (k + 1) (by rw [HDL.out]; omega)
                  have f3 := hp4.free k
                  have f4 := hp4.free (k + 1)
                  have w4 : IntKind.i64.wrap ((k : Int) + 1 - 1) = (k : Int) := by rw [IntKind.wrap_i64]; omega
                  have w5 : (k : Int) + 1 - 1 = k := by omega
                  have w6 : IntKind.i64.wrap (k : Int) = (k : Int) := by rw [IntKind.wrap_i64]; omega
                  have i8 : (0 : Int) < (k : Int) + 1 := by omega
                  have i9 : (0 : Int) ≤ (k : Int) + 1 := by omega
                  have j1 : (k : Int) < (i : Int) + 1 + 1 := by omega
                  have j2 : (k : Int) + 1 < (i : Int) + 1 + 1 := by omega
                  have j3 : k < i + 1 + 1 := by omega
                  have j4 : k + 1 < i + 1 + 1 := by omega
                  have HK := Lib.hid hk
                  have HAT6 := Lib.hid hat4
                  have HP6 := Lib.hid hp4
                  have HB6 := Lib.hid hb4
                  have j5 : (k : Int) < (i : Int) + 1 := by omega
                  clear hat4 hp4 hb4 w1 w2 w3
                  rw [e1]
                  clear e1
                  go_wp2
                  first | refine tailD 15 (by kernel_rfl) (by kernel_rfl) ?_ | refine tail0 15 (by kernel_rfl) (by kernel_rfl) ?_
                  simp only [List.take_succ_cons, List.take_zero, List.drop_succ_cons, List.drop_zero]
                  repeat (quiet_step ((go_at_call 14; exact Calls.quiet_of_same (mul_c _ _ _))))
                  refine wpQuiet_nil ?_
                  rintro _ ⟨nq2, rfl⟩
                  go_wp2
                  go_roundw
                  case rel => exact ⟨k, by omega, by go_num, by rw [← HDS.out k (by omega)]; exact (HP6.out.set (k + 1) _).drew _, (HAT6.out.other (fun e => HG5.out e.symm)).drew _, below_drewN _ (HB6.out.setCell hz5 _)⟩
                  case measure => simp [intOf]
      · have he : i = xs.length := by omega
        have HE := Lib.hid he
        have i1 : (xs.length : Int) ≤ i := by omega
        clear he
        go_wp2
        go_ret2
        have ho := hat.own (base := w.heap.size) hg1 (by rw [length_newton xs ys i hi]; unfold maxLen; omega)
        rw [length_newton xs ys i hi, HE.out, newton_coef xs ys HND.out] at ho
        exact ⟨_, rfl, ho, hb⟩
end Go.Proofs.Ytbkkffdgkkcbfab
