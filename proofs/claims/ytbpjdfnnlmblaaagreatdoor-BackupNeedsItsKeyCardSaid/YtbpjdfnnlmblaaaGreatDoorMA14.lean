/- Parts of a proof, joined: contracts of functions of the program and plain lemmas (RefF, RefG, RefH, CipG, CipH, CipI, SealC, RefI). No condition. -/
import Derived.Test.YtbpjdfnnlmblaaaGreatDoorMA13
import Derived.Deep.RegionLaw
import Derived.Deep.AppendLies
/- The specification's Complete. -/
namespace Go.Proofs.YtbpjdfnnlmblaaaGreatDoor
open Go.RowKit Go.Shelf
set_option linter.unusedSimpArgs false
set_option linter.unusedVariables false
theorem mem_take_next (x : K) (l : List K) (k : Nat) (h : k < l.length) : decide (x ∈ l.take (k + 1)) = (decide (x ∈ l.take k) || decide (keyAt l k = x)) := by
  rw [take_keyAt l k h]
  by_cases h1 : x ∈ l.take k
  · simp [h1]
  · by_cases h2 : keyAt l k = x
    · simp [h2]
    · have h3 : ¬ x = keyAt l k := fun e => h2 e.symm
      simp [h1, h2, h3]
theorem compB_of (bl L : List K) : (∀ i, i < L.length → keyAt L i ∈ bl) → (!(L.any (fun x => !decide (x ∈ bl)))) = true := by
  intro h
  rw [Bool.not_eq_true', List.any_eq_false]
  intro x hx
  obtain ⟨i, hi, rfl⟩ := List.mem_iff_getElem.1 hx
  have := h i hi
  rw [keyAt_eq L i hi] at this
  simp [this]
theorem compB_not (bl L : List K) (i : Nat) (hi : i < L.length) (h : ¬ keyAt L i ∈ bl) : (!(L.any (fun x => !decide (x ∈ bl)))) = false := by
  rw [Bool.not_eq_false', List.any_eq_true]
  exact ⟨L[i], List.getElem_mem hi, by rw [keyAt_eq L i hi] at h; simp [h]⟩
attribute [local irreducible] Calls kEq selK
set_option maxRecDepth 100000 in
set_option maxHeartbeats 4000000 in
theorem complete_r (nx now : Int) (v u : Value) (tl bl : List K) (b : BK) (w : World) (hv : RdK w v tl) (hu : RdK w u bl) (hl : tl.length ≤ 5000) :
    Calls Tryz.prog 19 #[.agg (bc b u), .agg #[.int .i64 nx, v], .int .i64 now] w fun e w' => e = .returned (.bool (compB bl tl now)) ∧ Below w.heap.size w w' := by
  obtain ⟨W0, hW0⟩ : ∃ W0, W0 = (w.alloc (.cells (bc b u) 26)).alloc (.cells #[.int .i64 nx, v] 28) := ⟨_, rfl⟩
  have HSEL : Hid (Calls Tryz.prog 11 #[.agg #[.int .i64 nx, v], .int .i64 now] W0 fun e w' => ∃ v', e = .returned v' ∧ RdK w' v' (selK now tl) ∧ Below W0.heap.size W0 w') :=
    Lib.hid (select_r nx now v tl W0 (by rw [hW0]; exact (hv.alloc _).alloc _) hl)
  have HBE : Hid (∀ w1, Below W0.heap.size W0 w1 → w1.heap[w.heap.size]? = some (.cells (bc b u) 26 (0, 0)) ∧ RdK w1 u bl ∧ Below w.heap.size w w1) := Lib.hid (by
    intro w1 h
    rw [hW0] at h
    have h2 := below2 _ _ _ h
    refine ⟨?_, hu.on h2, h2⟩
    rw [h.block _ (by simp; omega)]
    exact two_0 _ _ _)
  have hd : compB bl tl now = !((selK now tl).any (fun x => !decide (x ∈ bl))) := rfl
  generalize hL : selK now tl = L at HSEL hd
  have HD := Lib.hid hd
  have HW := Lib.hid hW0
  have hvv := hv
  obtain ⟨a, cap, rfl, _, _, _⟩ := hvv
  have t0 : W0.cell? ⟨w.heap.size + 1, 0, none⟩ = some (.int .i64 nx) := by rw [hW0]; exact cell_of_row _ _ _ _ _ _ (two_1 _ _ _)
  have t1 : W0.cell? ⟨w.heap.size + 1, 1, none⟩ = some (.slice a tl.length cap) := by rw [hW0]; exact cell_of_row _ _ _ _ _ _ (two_1 _ _ _)
  have hul := hu.len
  unfold maxLen at hul
  have hvu := hu
  obtain ⟨ua, uc, huf, _, _, _⟩ := hvu
  have HUF := Lib.hid huf
  clear hd hW0 hv hu hL huf
  go_enter Tryz.func19, Tryz.ntmps19
  go_upto_region 1 with fail
  rw [← HW.out]
  go_wp2_with (first
    | (go_at_call 11; refine HSEL.out.mono ?_; rintro e w1 ⟨v', rfl, hk, hb⟩; obtain ⟨g1, g2, g3⟩ := HBE.out _ hb; have HG1 := Lib.hid g1; have HG2 := Lib.hid g2; have HG3 := Lib.hid g3; have HKL := Lib.hid hk; obtain ⟨va, vc, rfl, _, _, _⟩ := hk; clear g1 g2 g3 hb))
  have c37 : w1.cell? ⟨w.heap.size, 37, none⟩ = some (.slice ua bl.length uc) := by rw [cell_of_row _ _ _ _ _ _ HG1.out, ← HUF.out]; exact bc_37 _ _
  clear t0 t1
  go_loopw [8] (fun o wr => ∃ i n : Nat, i ≤ L.length ∧ o = .int .i64 i ∧ Hid (∀ j, j < i → keyAt L j ∈ bl) ∧ wr = w1.drewN n) (fun o _ => L.length - (intOf o).toNat)
  case atStart => exact ⟨0, 0, Nat.zero_le _, rfl, Lib.hid (fun j hj => absurd hj (by omega)), rfl⟩
  case round =>
    obtain ⟨i, n, hi, rfl, hno, hwr⟩ := hrel
    rw [hwr]
    clear hwr
    by_cases hlt : i < L.length
    · have i1 : (i : Int) < L.length := by omega
      obtain ⟨b2, off2, rfl, hb2, hrow2⟩ := (HKL.out.cells) (by omega)
      have hkk := HKL.out.len
      unfold maxLen at hkk
      obtain ⟨x0, x1, x2, x3, x4, x5, x6, x7, x8⟩ := hrow2 i hlt
      have HNO := hno
      have HI := Lib.hid hlt
      obtain ⟨x, hx⟩ : ∃ x, x = keyAt L i := ⟨_, rfl⟩
      rw [← hx] at x0 x1 x2 x3 x4 x5 x6 x7 x8
      have HX := Lib.hid hx
      clear hno hlt hrow2 hx
      go_wp2
      go_loopw [10, 9] (fun o f wr => ∃ (k m : Nat) (q : Bool), k ≤ bl.length ∧ o = .int .i64 k ∧ f = .bool q ∧ Hid (q = decide (x ∈ bl.take k)) ∧ wr = w1.drewN m) (fun o _ _ => bl.length - (intOf o).toNat)
      case atStart => exact ⟨0, n, false, Nat.zero_le _, rfl, rfl, Lib.hid (by simp), rfl⟩
      case round =>
        obtain ⟨k, m, q, hk, rfl, rfl, hq, hwx⟩ := hrel
        rw [hwx]
        clear hwx
        by_cases hlk : k < bl.length
        · have k1 : (k : Int) < bl.length := by omega
          have hgu := HG2.out
          rw [HUF.out] at hgu
          obtain ⟨bb, off, rfl, hb1, hrow⟩ := hgu.cells (by omega)
          have hneq := fun w' => eql_k (keyAt bl k) x w'
          rw [kEq_eq] at hneq
          unfold kc at hneq
          obtain ⟨d0, d1, d2, d3, d4, d5, d6, d7, d8⟩ := hrow k hlk
          have HMT := Lib.hid (mem_take_next x bl k hlk)
          have HQ := hq
          have HK := Lib.hid hlk
          generalize decide (keyAt bl k = x) = r at hneq HMT
          clear hrow hq hlk hgu
          cases q with
          | true =>
            go_wp2
            first | refine allD (by kernel_rfl) (by kernel_rfl) ?_ | refine all0 (by kernel_rfl) (by kernel_rfl) ?_
            repeat (go_big_quiet_step (fail))
            refine wpQuiet_nil ?_
            rintro _ ⟨nq, rfl⟩
            go_wp2
            go_roundw
            case rel => exact ⟨k + 1, _, true, HK.out, by go_num, rfl, Lib.hid (by rw [HMT.out, ← HQ.out]; rfl), rfl⟩
            case measure => have := HK.out; simp [intOf]; omega
          | false =>
            go_wp2
            first | refine allD (by kernel_rfl) (by kernel_rfl) ?_ | refine all0 (by kernel_rfl) (by kernel_rfl) ?_
            repeat (go_big_quiet_step (fail))
            refine wpQuiet_nil ?_
            rintro _ ⟨nq, rfl⟩
            go_wp2
            go_roundw
            case rel => exact ⟨k + 1, _, r, HK.out, by go_num, rfl, Lib.hid (by rw [HMT.out, ← HQ.out]; rfl), rfl⟩
            case measure => have := HK.out; simp [intOf]; omega
        · have k1 : ¬ (k : Int) < bl.length := by omega
          have HQ : Hid (q = decide (keyAt L i ∈ bl)) := Lib.hid (by rw [hq.out, ← HX.out, List.take_of_length_le (by omega)])
          clear hq hlk hk
          cases q with
          | true =>
            go_wp2
            go_roundw
            case rel => exact ⟨i + 1, m, HI.out, by go_num, Lib.hid (fun j hj => by
              by_cases e : j = i
              · subst e; exact of_decide_eq_true HQ.out.symm
              · exact HNO.out j (by omega)), rfl⟩
            case measure => have := HI.out; simp [intOf]; omega
          | false =>
            go_wp2
            go_ret
            exact ⟨by rw [HD.out, compB_not bl L i HI.out (of_decide_eq_false HQ.out.symm)]; rfl, below_drewN _ HG3.out⟩
    · have i1 : ¬ (i : Int) < L.length := by omega
      have HR : Hid (compB bl tl now = true) := Lib.hid (by rw [HD.out]; exact compB_of bl L (fun j hj => hno.out j (by omega)))
      clear hno hlt hi
      go_wp2
      go_ret
      exact ⟨by rw [HR.out]; rfl, below_drewN _ HG3.out⟩
end Go.Proofs.YtbpjdfnnlmblaaaGreatDoor
/- The specification's header. -/
namespace Go.Proofs.YtbpjdfnnlmblaaaGreatDoor
open Go.RowKit Go.Shelf
set_option linter.unusedSimpArgs false
set_option linter.unusedVariables false
attribute [local irreducible] Calls encI encS encIs headP drow
set_option maxRecDepth 100000 in
set_option maxHeartbeats 8000000 in
theorem header_r (b : BK) (u : Value) (w : World) (hb : b.wf) (hmo : b.mo.length ≤ 100000) :
    Calls Tryz.prog 17 #[.agg (bc b u)] w fun e w' => e = .returned (.string ⟨(headP b).toArray⟩) ∧ Below w.heap.size w w' := by
  have HWF := Lib.hid hb
  have HMO := Lib.hid hmo
  obtain ⟨W0, hW0⟩ : ∃ W0, W0 = w.alloc (.cells (bc b u) 26) := ⟨_, rfl⟩
  have HROW : Hid (∀ w1, Below W0.heap.size W0 w1 → w1.heap[w.heap.size]? = some (.cells (bc b u) 26 (0, 0))) := Lib.hid (by
    intro w1 h
    rw [hW0] at h
    rw [h.block _ (by simp)]
    exact heap_last _ _ _ rfl)
  have HBE : Hid (∀ w1, Below W0.heap.size W0 w1 → Below w.heap.size w w1) := Lib.hid (by
    intro w1 h
    rw [hW0] at h
    exact below1 _ _ h)
  have HSZ : Hid (w.heap.size < W0.heap.size) := Lib.hid (by rw [hW0]; simp)
  have HW := Lib.hid hW0
  have hd1 := hb.dom
  have hd2 := hb.pol
  have hns := encIs4 b.ep b.num b.fw b.tm
  have hel := encS_len b.mo
  have HP : Hid (headP b = b.dom ++ (encIs [b.ep, b.num, b.fw, b.tm] ++ (b.pol ++ encS b.mo))) := Lib.hid (by unfold headP; rfl)
  have HNU := Lib.hid hb.nums
  obtain ⟨ns, hnse⟩ : ∃ ns, ns = encIs [b.ep, b.num, b.fw, b.tm] := ⟨_, rfl⟩
  rw [← hnse] at hns HP
  have HNS := Lib.hid hnse
  obtain ⟨es, hes⟩ : ∃ es, es = encS b.mo := ⟨_, rfl⟩
  rw [← hes] at hel HP
  have HES := Lib.hid hes
  have q1 : ¬ 9223372036854775807 < b.dom.length + ns.length := by omega
  have q2 : ¬ 9223372036854775807 < b.dom.length + ns.length + b.pol.length := by omega
  have q3 : ¬ 9223372036854775807 < b.dom.length + ns.length + b.pol.length + es.length := by omega
  have HD1 := Lib.hid hd1
  have HD2 := Lib.hid hd2
  clear hb hW0 hmo hd1 hd2 hnse hes hns hel
  go_enter Tryz.func17, Tryz.ntmps17
  go_upto_region 1 with fail
  rw [← HW.out]
  try dsimp only [Act.put]
  refine region_rel 24 [[], [0], [1], [], [3], [], [5], [], [7], [], [9], [4, 6, 8, 10], [11], [12], [2, 13], [], [15], [16], [14, 17], [], [19], [20], [21], [18, 22]]
    (SP.of [.eq (.pointer (some ⟨w.heap.size, 0, none⟩)), .eq (.agg (drow b.dom)), .eq (.string ⟨b.dom.toArray⟩), .eq (.pointer (some ⟨w.heap.size, 16, none⟩)), .eq (.int .i64 b.ep), .eq (.pointer (some ⟨w.heap.size, 17, none⟩)), .eq (.int .i64 b.num),
      .eq (.pointer (some ⟨w.heap.size, 18, none⟩)), .eq (.int .i64 b.fw), .eq (.pointer (some ⟨w.heap.size, 19, none⟩)), .eq (.int .i64 b.tm), .freshS W0.heap.size 4 #[.int .i64 b.ep, .int .i64 b.num, .int .i64 b.fw, .int .i64 b.tm] 3, .ownR W0.heap.size ns, .eq (.string ⟨ns.toArray⟩), .eq (.string ⟨(b.dom ++ ns).toArray⟩),
      .eq (.pointer (some ⟨w.heap.size, 20, none⟩)), .eq (.agg (drow b.pol)), .eq (.string ⟨b.pol.toArray⟩), .eq (.string ⟨(b.dom ++ (ns ++ b.pol)).toArray⟩), .eq (.pointer (some ⟨w.heap.size, 36, none⟩)), .eq (.string ⟨b.mo.toArray⟩), .ownR W0.heap.size es, .eq (.string ⟨es.toArray⟩), .eq (.string ⟨(b.dom ++ (ns ++ (b.pol ++ es))).toArray⟩)]) (fun _ => undef) ?h1 ?h2 ?h3 ?h4 ?h5 ?h6
  case h1 => kernel_rfl
  case h2 => kernel_rfl
  case h3 => kernel_rfl
  case h4 =>
    simp only [List.take_succ_cons, List.take_zero]
    repeat (first | exact trivial | refine ⟨fun vals v => by kernel_rfl, ?_⟩)
  case h5 =>
    simp only [List.take_succ_cons, List.take_zero]
    refine ⟨?_, ?_, ?_, ?_, ?_, ?_, ?_, ?_, ?_, ?_, ?_, ?_, ?_, ?_, ?_, ?_, ?_, ?_, ?_, ?_, ?_, ?_, ?_, ?_, trivial⟩
    all_goals (intro wq hbq vals; simp only [Nat.reduceAdd, Nat.zero_add, List.getD_cons_succ, List.getD_cons_zero]; have HBQ := Lib.hid hbq; have HR := Lib.hid (HROW.out wq hbq); clear hbq; repeat (first | refine given_nil ?_ | refine given_eq rfl ?_))
    case refine_13 =>
      refine given_pred rfl ?_
      rintro _ ⟨g, rfl, hg1, hg2⟩
      refine given_nil ?_
      intro Q hQ
      simp only [putAll, upd, Act.put, List.setIfInBounds_toArray, List.set_cons_zero, List.set_cons_succ, Nat.reduceAdd, Nat.zero_add, Nat.reduceEqDiff, if_true, if_false, reduceIte]
      have HG2 := Lib.hid hg2
      clear hg1 hg2
      go_wp2_with (go_at_call 43; refine (intsR_c _ [b.ep, b.num, b.fw, b.tm] wq (row_e HG2.out [b.ep, b.num, b.fw, b.tm] rfl (by simp)) HNU.out (by have := encIs4 b.ep b.num b.fw b.tm; omega) (by simp)).mono ?_; rintro e x1 ⟨v1, rfl, ho1, hx1⟩; rw [← HNS.out] at ho1; have HO1 := Lib.hid ho1; have HX1 := Lib.hid hx1; clear ho1 hx1)
      exact relEnd_fin hQ _ (by kernel_rfl) HX1.out (HO1.out.mono HBQ.out.size)
    case refine_14 =>
      refine given_pred rfl ?_
      intro v1 ho1
      refine given_nil ?_
      intro Q hQ
      simp only [putAll, upd, Act.put, List.setIfInBounds_toArray, List.set_cons_zero, List.set_cons_succ, Nat.reduceAdd, Nat.zero_add, Nat.reduceEqDiff, if_true, if_false, reduceIte]
      have hcv := conv_e (show OwnE eB wq W0.heap.size v1 ns from ho1).rd
      clear ho1
      go_wp2
      exact relEnd_fin hQ _ (by kernel_rfl) (Below.refl _ _) rfl
    case refine_23 =>
      refine given_pred rfl ?_
      intro v1 ho1
      refine given_nil ?_
      intro Q hQ
      simp only [putAll, upd, Act.put, List.setIfInBounds_toArray, List.set_cons_zero, List.set_cons_succ, Nat.reduceAdd, Nat.zero_add, Nat.reduceEqDiff, if_true, if_false, reduceIte]
      have hcv := conv_e (show OwnE eB wq W0.heap.size v1 es from ho1).rd
      clear ho1
      go_wp2
      exact relEnd_fin hQ _ (by kernel_rfl) (Below.refl _ _) rfl
    all_goals (intro Q hQ; simp only [putAll, upd, Act.put, List.setIfInBounds_toArray, List.set_cons_zero, List.set_cons_succ, Nat.reduceAdd, Nat.zero_add, Nat.reduceEqDiff, if_true, if_false, reduceIte])
    case refine_2 =>
      go_wp2_with (refine ld_digN b.dom w.heap.size 0 (.tmp 3) ?_ (bc_rdom HR.out) ?_ ?_ ?_; exact rfl; exact rfl; exact rfl)
      exact relEnd_fin hQ _ (by kernel_rfl) (Below.refl _ _) rfl
    case refine_17 =>
      go_wp2_with (refine ld_digN b.pol w.heap.size 20 (.tmp 18) ?_ (bc_rpol HR.out) ?_ ?_ ?_; exact rfl; exact rfl; exact rfl)
      exact relEnd_fin hQ _ (by kernel_rfl) (Below.refl _ _) rfl
    case refine_3 =>
      go_wp2_with (go_at_call 42; refine (text_r b.dom HD1.out wq).mono ?_; rintro e x1 ⟨rfl, hx1⟩)
      exact relEnd_fin hQ _ (by kernel_rfl) hx1 rfl
    case refine_18 =>
      go_wp2_with (go_at_call 42; refine (text_r b.pol HD2.out wq).mono ?_; rintro e x1 ⟨rfl, hx1⟩)
      exact relEnd_fin hQ _ (by kernel_rfl) hx1 rfl
    case refine_12 =>
      go_wp2
      exact relEnd_fin hQ _ (by kernel_rfl) ((Below.refl _ _).alloc (Nat.le_refl _) _) ⟨wq.heap.size, rfl, HBQ.out.size, heap_last _ _ _ rfl⟩
    case refine_22 =>
      go_wp2_with (go_at_call 32; refine (bytes_r b.mo wq (by have := HMO.out; omega)).mono ?_; rintro e x1 ⟨v1, rfl, ho1, hx1⟩; rw [← HES.out] at ho1; have HO1 := Lib.hid ho1; have HX1 := Lib.hid hx1; clear ho1 hx1)
      exact relEnd_fin hQ _ (by kernel_rfl) HX1.out (HO1.out.mono HBQ.out.size)
    case refine_5 =>
      have c : wq.cell? ⟨w.heap.size, 16, none⟩ = some (.int .i64 b.ep) := (cell_of_row _ _ _ _ _ _ HR.out).trans (bc_16 b u)
      go_wp2
      exact relEnd_fin hQ _ (by kernel_rfl) (Below.refl _ _) rfl
    case refine_7 =>
      have c : wq.cell? ⟨w.heap.size, 17, none⟩ = some (.int .i64 b.num) := (cell_of_row _ _ _ _ _ _ HR.out).trans (bc_17 b u)
      go_wp2
      exact relEnd_fin hQ _ (by kernel_rfl) (Below.refl _ _) rfl
    case refine_9 =>
      have c : wq.cell? ⟨w.heap.size, 18, none⟩ = some (.int .i64 b.fw) := (cell_of_row _ _ _ _ _ _ HR.out).trans (bc_18 b u)
      go_wp2
      exact relEnd_fin hQ _ (by kernel_rfl) (Below.refl _ _) rfl
    case refine_11 =>
      have c : wq.cell? ⟨w.heap.size, 19, none⟩ = some (.int .i64 b.tm) := (cell_of_row _ _ _ _ _ _ HR.out).trans (bc_19 b u)
      go_wp2
      exact relEnd_fin hQ _ (by kernel_rfl) (Below.refl _ _) rfl
    case refine_21 =>
      have c : wq.cell? ⟨w.heap.size, 36, none⟩ = some (.string ⟨b.mo.toArray⟩) := (cell_of_row _ _ _ _ _ _ HR.out).trans (bc_36 b u)
      go_wp2
      exact relEnd_fin hQ _ (by kernel_rfl) (Below.refl _ _) rfl
    all_goals go_wp2
    all_goals exact relEnd_fin hQ _ (by kernel_rfl) (Below.refl _ _) rfl
  case h6 =>
    intro wq hbq vals
    rw [show List.range 24 = [0, 1, 2, 3, 4, 5, 6, 7, 8, 9, 10, 11, 12, 13, 14, 15, 16, 17, 18, 19, 20, 21, 22, 23] from by decide]
    repeat (first | refine given_nil ?_ | refine given_eq rfl ?_ | (refine given_pred rfl ?_; intro _ _))
    simp only [List.take_succ_cons, List.take_zero, List.drop_succ_cons, List.drop_zero]
    simp only [putAll, upd, Act.put, List.setIfInBounds_toArray, List.set_cons_zero, List.set_cons_succ, Nat.reduceAdd, Nat.zero_add, Nat.reduceEqDiff, if_true, if_false, reduceIte]
    have HBQ := Lib.hid hbq
    clear hbq
    go_wp2
    go_ret
    exact ⟨by rw [HP.out]; rfl, HBE.out _ HBQ.out⟩
end Go.Proofs.YtbpjdfnnlmblaaaGreatDoor
/- The specification's content. -/
namespace Go.Proofs.YtbpjdfnnlmblaaaGreatDoor
open Go.RowKit Go.Shelf
set_option linter.unusedSimpArgs false
set_option linter.unusedVariables false
theorem map_take_next (l : List K) (j : Nat) (h : j < l.length) : (l.take j).map encKey ++ [encKey (keyAt l j)] = (l.take (j + 1)).map encKey := by
  rw [take_keyAt l j h, List.map_append]
  rfl
attribute [local irreducible] Calls encI encS encIs encSs encKey contP
set_option maxRecDepth 100000 in
set_option maxHeartbeats 8000000 in
theorem content_r (b : BK) (v : Value) (l : List K) (w : World) (hv : RdK w v l) (hok : ∀ i, i < l.length → (keyAt l i).ok) (hn : l.length ≤ 5000) (hl : (contP l).length ≤ 900000) :
    Calls Tryz.prog 31 #[.agg (bc b v)] w fun e w' => e = .returned (.string ⟨(contP l).toArray⟩) ∧ Below w.heap.size w w' := by
  obtain ⟨W0, hW0⟩ : ∃ W0, W0 = w.alloc (.cells (bc b v) 26) := ⟨_, rfl⟩
  have HV : Hid (RdK W0 v l) := Lib.hid (by rw [hW0]; exact hv.alloc _)
  have HBX : Hid (∀ w1, Below W0.heap.size W0 w1 → w1.cell? ⟨w.heap.size, 37, none⟩ = some v) := Lib.hid (by
    intro w1 h
    rw [hW0] at h
    exact (boxed1 _ _ _ h 37).trans (bc_37 b v))
  have HBE : Hid (∀ w1, Below W0.heap.size W0 w1 → Below w.heap.size w w1) := Lib.hid (by
    intro w1 h
    rw [hW0] at h
    exact below1 _ _ h)
  have HW := Lib.hid hW0
  have HOK := Lib.hid hok
  have HL := Lib.hid hl
  have hni : (l.length : Int) ≤ 5000 := by omega
  have HN := Lib.hid hn
  obtain ⟨a, cap, rfl, _, _, _⟩ := hv
  clear hok hl hn hW0
  go_enter Tryz.func31, Tryz.ntmps31
  go_upto_region 1 with fail
  rw [← HW.out]
  go_wp2
  go_loopw [4, 3] (fun i o wr => ∃ j : Nat, j ≤ l.length ∧ i = .int .i64 j ∧ Hid (OwnE eS wr W0.heap.size o ((l.take j).map encKey)) ∧ Hid (Below W0.heap.size W0 wr)) (fun i _ _ => l.length - (intOf i).toNat)
  case atStart => exact ⟨0, Nat.zero_le _, rfl, Lib.hid (OwnE.nil _ _), Lib.hid (Below.refl _ _)⟩
  case round =>
    obtain ⟨j, hj, rfl, hown, hb⟩ := hrel
    have t1 := HBX.out wr hb.out
    by_cases hlt : j < l.length
    · obtain ⟨bb, off, rfl, hbl, hrow⟩ := ((HV.out.on hb.out).cells) (by omega)
      obtain ⟨d0, d1, d2, d3, d4, d5, d6, d7, d8⟩ := hrow j hlt
      have j1 : (j : Int) < l.length := by omega
      have HJ := Lib.hid hlt
      have HKO := Lib.hid (HOK.out j hlt)
      have HNX := Lib.hid (map_take_next l j hlt)
      have HML : Hid (((l.take j).map encKey).length ≤ 5000) := Lib.hid (by rw [List.length_map, List.length_take]; have := HN.out; omega)
      generalize keyAt l j = k at d0 d1 d2 d3 d4 d5 d6 d7 d8 HKO HNX
      clear hrow hlt hj
      go_upto_if 20 with fail
      go_cut [6, 18, 20] from 21 to 21 (fun r _ _ wc => r = .int .i64 (rawI k.raw) ∧ wc = wr.alloc (.cells (kc k) 45))
      case first =>
        cases hr : k.raw with
        | true =>
          have HR := Lib.hid hr
          clear hr
          go_wp2
          all_goals go_meet
          case rel => exact ⟨by rw [HR.out]; rfl, by unfold kc; rw [HR.out]⟩
        | false =>
          have HR := Lib.hid hr
          clear hr
          go_wp2
          all_goals go_meet
          case rel => exact ⟨by rw [HR.out]; rfl, by unfold kc; rw [HR.out]⟩
      case rest =>
        obtain ⟨rfl, hwc⟩ := hcut
        have HB1 : Hid (Below W0.heap.size W0 wc) := Lib.hid (by rw [hwc]; exact hb.out.alloc (hb.out.size) _)
        have HK1 : Hid (wc.heap[wr.heap.size]? = some (.cells (kc k) 45 (0, 0))) := Lib.hid (by rw [hwc]; exact heap_last _ _ _ rfl)
        have HO1 : Hid (OwnE eS wc W0.heap.size u3 ((l.take j).map encKey)) := Lib.hid (by rw [hwc]; exact hown.out.on ((Below.refl _ _).alloc (Nat.le_refl _) _))
        have HRZ : Hid (wr.heap.size < wc.heap.size) := Lib.hid (by rw [hwc]; simp)
        clear hwc d0 d1 d2 d3 d4 d5 d6 d7 d8 hown t1
        have hns := encIs8 k
        have hek := encKey_len k
        have HEK : Hid (encSs [encIs (numsK k), k.val] = encKey k) := Lib.hid (by unfold encKey; rfl)
        obtain ⟨ns, hnse⟩ : ∃ ns, ns = encIs (numsK k) := ⟨_, rfl⟩
        rw [← hnse] at hns HEK
        have HNS := Lib.hid hnse
        obtain ⟨es, hes⟩ : ∃ es, es = encKey k := ⟨_, rfl⟩
        rw [← hes] at hek HEK HNX
        have HEL := Lib.hid hek
        clear hnse hes hek hns
        go_upto_region 9 with fail
        try dsimp only [Act.put]
        refine region_rel 25 [[], [], [1], [], [3], [], [5], [], [7], [], [9], [], [11], [], [13], [], [2, 4, 6, 8, 10, 12, 14, 15], [16], [17], [], [19], [18, 20], [21], [22], [23]]
          (SP.of [.eq u3, .eq (.pointer (some ⟨wr.heap.size, 0, none⟩)), .eq (.int .i64 k.id), .eq (.pointer (some ⟨wr.heap.size, 1, none⟩)), .eq (.int .i64 k.ty), .eq (.pointer (some ⟨wr.heap.size, 3, none⟩)), .eq (.int .i64 k.uses), .eq (.pointer (some ⟨wr.heap.size, 4, none⟩)), .eq (.int .i64 k.start),
            .eq (.pointer (some ⟨wr.heap.size, 5, none⟩)), .eq (.int .i64 k.fin), .eq (.pointer (some ⟨wr.heap.size, 6, none⟩)), .eq (.int .i64 k.ver), .eq (.pointer (some ⟨wr.heap.size, 7, none⟩)), .eq (.int .i64 k.par), .eq (.int .i64 (rawI k.raw)),
            .freshS wc.heap.size 8 #[.int .i64 k.id, .int .i64 k.ty, .int .i64 k.uses, .int .i64 k.start, .int .i64 k.fin, .int .i64 k.ver, .int .i64 k.par, .int .i64 (rawI k.raw)] 3, .ownR wc.heap.size ns, .eq (.string ⟨ns.toArray⟩),
            .eq (.pointer (some ⟨wr.heap.size, 2, none⟩)), .eq (.string ⟨k.val.toArray⟩), .freshS wc.heap.size 2 #[.string ⟨ns.toArray⟩, .string ⟨k.val.toArray⟩] 9, .ownR wc.heap.size es, .eq (.string ⟨es.toArray⟩), .freshS wc.heap.size 1 #[.string ⟨es.toArray⟩] 9]) (fun i => ([u21, u22, u23, u24, u25, u26, u27, u28, u29, u30, u31, u32, u33, u34, u35, u36, u37, u38, u39, u40, u41, u42, u43, u44, u45] : List Value).getD i undef) ?h1 ?h2 ?h3 ?h4 ?h5 ?h6
        case h1 => kernel_rfl
        case h2 => kernel_rfl
        case h3 => kernel_rfl
        case h4 =>
          simp only [List.take_succ_cons, List.take_zero]
          repeat (first | exact trivial | refine ⟨fun vals v => by kernel_rfl, ?_⟩)
        case h5 =>
          simp only [List.take_succ_cons, List.take_zero]
          refine ⟨?_, ?_, ?_, ?_, ?_, ?_, ?_, ?_, ?_, ?_, ?_, ?_, ?_, ?_, ?_, ?_, ?_, ?_, ?_, ?_, ?_, ?_, ?_, ?_, ?_, trivial⟩
          all_goals (intro wq hbq vals; simp only [Nat.reduceAdd, Nat.zero_add, List.getD_cons_succ, List.getD_cons_zero]; have HBQ := Lib.hid hbq; have HR : Hid (wq.heap[wr.heap.size]? = some (.cells (kc k) 45 (0, 0))) := Lib.hid (by rw [hbq.block _ HRZ.out]; exact HK1.out); clear hbq; repeat (first | refine given_nil ?_ | refine given_eq rfl ?_))
          case refine_18 =>
            refine given_pred rfl ?_
            rintro _ ⟨g, rfl, hg1, hg2⟩
            refine given_nil ?_
            intro Q hQ
            simp only [putAll, upd, Act.put, List.setIfInBounds_toArray, List.set_cons_zero, List.set_cons_succ, Nat.reduceAdd, Nat.zero_add, Nat.reduceEqDiff, if_true, if_false, reduceIte]
            have HG2 := Lib.hid hg2
            clear hg1 hg2
            go_wp2_with (go_at_call 43; refine (intsR_c _ (numsK k) wq (row_e HG2.out (numsK k) rfl (by unfold numsK; simp)) HKO.out.nums (by have := encIs8 k; omega) (by unfold numsK; simp)).mono ?_; rintro e x1 ⟨v1, rfl, ho1, hx1⟩; rw [← HNS.out] at ho1; have HO1' := Lib.hid ho1; have HX1 := Lib.hid hx1; clear ho1 hx1)
            exact relEnd_fin hQ _ (by kernel_rfl) HX1.out (HO1'.out.mono HBQ.out.size)
          case refine_19 =>
            refine given_pred rfl ?_
            intro v1 ho1
            refine given_nil ?_
            intro Q hQ
            simp only [putAll, upd, Act.put, List.setIfInBounds_toArray, List.set_cons_zero, List.set_cons_succ, Nat.reduceAdd, Nat.zero_add, Nat.reduceEqDiff, if_true, if_false, reduceIte]
            have hcv := conv_e (show OwnE eB wq wc.heap.size v1 ns from ho1).rd
            clear ho1
            go_wp2
            exact relEnd_fin hQ _ (by kernel_rfl) (Below.refl _ _) rfl
          case refine_23 =>
            refine given_pred rfl ?_
            rintro _ ⟨g, rfl, hg1, hg2⟩
            refine given_nil ?_
            intro Q hQ
            simp only [putAll, upd, Act.put, List.setIfInBounds_toArray, List.set_cons_zero, List.set_cons_succ, Nat.reduceAdd, Nat.zero_add, Nat.reduceEqDiff, if_true, if_false, reduceIte]
            have HG2 := Lib.hid hg2
            clear hg1 hg2
            go_wp2_with (go_at_call 71; refine (stringsR_c _ [ns, k.val] wq (row_e HG2.out [ns, k.val] rfl (by simp)) (by rw [HEK.out]; have := HEL.out; have := HKO.out.val; omega) (by simp)).mono ?_; rintro e x1 ⟨v1, rfl, ho1, hx1⟩; rw [HEK.out] at ho1; have HO1' := Lib.hid ho1; have HX1 := Lib.hid hx1; clear ho1 hx1)
            exact relEnd_fin hQ _ (by kernel_rfl) HX1.out (HO1'.out.mono HBQ.out.size)
          case refine_24 =>
            refine given_pred rfl ?_
            intro v1 ho1
            refine given_nil ?_
            intro Q hQ
            simp only [putAll, upd, Act.put, List.setIfInBounds_toArray, List.set_cons_zero, List.set_cons_succ, Nat.reduceAdd, Nat.zero_add, Nat.reduceEqDiff, if_true, if_false, reduceIte]
            have hcv := conv_e (show OwnE eB wq wc.heap.size v1 es from ho1).rd
            clear ho1
            go_wp2
            exact relEnd_fin hQ _ (by kernel_rfl) (Below.refl _ _) rfl
          all_goals (intro Q hQ; simp only [putAll, upd, Act.put, List.setIfInBounds_toArray, List.set_cons_zero, List.set_cons_succ, Nat.reduceAdd, Nat.zero_add, Nat.reduceEqDiff, if_true, if_false, reduceIte])
          case refine_17 =>
            go_wp2
            exact relEnd_fin hQ _ (by kernel_rfl) ((Below.refl _ _).alloc (Nat.le_refl _) _) ⟨wq.heap.size, rfl, HBQ.out.size, heap_last _ _ _ rfl⟩
          case refine_22 =>
            go_wp2
            exact relEnd_fin hQ _ (by kernel_rfl) ((Below.refl _ _).alloc (Nat.le_refl _) _) ⟨wq.heap.size, rfl, HBQ.out.size, heap_last _ _ _ rfl⟩
          case refine_25 =>
            go_wp2
            exact relEnd_fin hQ _ (by kernel_rfl) ((Below.refl _ _).alloc (Nat.le_refl _) _) ⟨wq.heap.size, rfl, HBQ.out.size, heap_last _ _ _ rfl⟩
          case refine_3 =>
            have c : wq.cell? ⟨wr.heap.size, 0, none⟩ = some (.int .i64 k.id) := (cell_of_row _ _ _ _ _ _ HR.out).trans rfl
            go_wp2
            exact relEnd_fin hQ _ (by kernel_rfl) (Below.refl _ _) rfl
          case refine_5 =>
            have c : wq.cell? ⟨wr.heap.size, 1, none⟩ = some (.int .i64 k.ty) := (cell_of_row _ _ _ _ _ _ HR.out).trans rfl
            go_wp2
            exact relEnd_fin hQ _ (by kernel_rfl) (Below.refl _ _) rfl
          case refine_7 =>
            have c : wq.cell? ⟨wr.heap.size, 3, none⟩ = some (.int .i64 k.uses) := (cell_of_row _ _ _ _ _ _ HR.out).trans rfl
            go_wp2
            exact relEnd_fin hQ _ (by kernel_rfl) (Below.refl _ _) rfl
          case refine_9 =>
            have c : wq.cell? ⟨wr.heap.size, 4, none⟩ = some (.int .i64 k.start) := (cell_of_row _ _ _ _ _ _ HR.out).trans rfl
            go_wp2
            exact relEnd_fin hQ _ (by kernel_rfl) (Below.refl _ _) rfl
          case refine_11 =>
            have c : wq.cell? ⟨wr.heap.size, 5, none⟩ = some (.int .i64 k.fin) := (cell_of_row _ _ _ _ _ _ HR.out).trans rfl
            go_wp2
            exact relEnd_fin hQ _ (by kernel_rfl) (Below.refl _ _) rfl
          case refine_13 =>
            have c : wq.cell? ⟨wr.heap.size, 6, none⟩ = some (.int .i64 k.ver) := (cell_of_row _ _ _ _ _ _ HR.out).trans rfl
            go_wp2
            exact relEnd_fin hQ _ (by kernel_rfl) (Below.refl _ _) rfl
          case refine_15 =>
            have c : wq.cell? ⟨wr.heap.size, 7, none⟩ = some (.int .i64 k.par) := (cell_of_row _ _ _ _ _ _ HR.out).trans rfl
            go_wp2
            exact relEnd_fin hQ _ (by kernel_rfl) (Below.refl _ _) rfl
          case refine_21 =>
            have c : wq.cell? ⟨wr.heap.size, 2, none⟩ = some (.string ⟨k.val.toArray⟩) := (cell_of_row _ _ _ _ _ _ HR.out).trans rfl
            go_wp2
            exact relEnd_fin hQ _ (by kernel_rfl) (Below.refl _ _) rfl
          all_goals go_wp2
          all_goals exact relEnd_fin hQ _ (by kernel_rfl) (Below.refl _ _) rfl
        case h6 =>
          intro wq hbq vals
          rw [show List.range 25 = [0, 1, 2, 3, 4, 5, 6, 7, 8, 9, 10, 11, 12, 13, 14, 15, 16, 17, 18, 19, 20, 21, 22, 23, 24] from by decide]
          iterate 24 (first | refine given_eq rfl ?_ | (refine given_pred rfl ?_; intro _ _))
          refine given_pred rfl ?_
          rintro _ ⟨g, rfl, hg1, hg2⟩
          refine given_nil ?_
          simp only [List.take_succ_cons, List.take_zero, List.drop_succ_cons, List.drop_zero]
          simp only [putAll, upd, Act.put, List.setIfInBounds_toArray, List.set_cons_zero, List.set_cons_succ, Nat.reduceAdd, Nat.zero_add, Nat.reduceEqDiff, if_true, if_false, reduceIte]
          have HBQ := Lib.hid hbq
          have HG2 := Lib.hid hg2
          have HBW : Hid (Below W0.heap.size W0 wq) := Lib.hid (HB1.out.trans (hbq.mono HB1.out.size))
          clear hbq hg1 hg2
          go_wp2_with (at_builtin; go_loud ((refine app_e eS_ok rfl (.tmp 21) (.tmp 45) rfl W0.heap.size _ _ rfl (HO1.out.on HBQ.out) (.slice (some ⟨g, 0, none⟩) 1 1) [es] rfl (row_e HG2.out [es] rfl (by simp)) (by have := HML.out; simp only [List.length_cons, List.length_nil]; omega) HBW.out.size ?_; intro v3 w3 ho3 hg3 _; have HO3 := Lib.hid ho3; have HB3 : Hid (Below W0.heap.size W0 w3) := (Lib.hid (HBW.out.grown hg3 HBW.out.size (fun k hk2 => (HO1.out.lt k hk2).1))); clear ho3 hg3)))
          go_roundw
          case rel => exact ⟨j + 1, HJ.out, by go_num, Lib.hid (by rw [← HNX.out]; exact HO3.out), HB3⟩
          case measure => have := HJ.out; simp [intOf]; omega
    · have he : j = l.length := by omega
      have j1 : ¬ (j : Int) < l.length := by omega
      have HRD : Hid (OwnE eS wr W0.heap.size u3 (l.map encKey)) := Lib.hid (by have h := hown.out; rw [he, List.take_length] at h; exact h)
      have HC : Hid (encSs (l.map encKey) = contP l) := Lib.hid (by unfold contP; rfl)
      clear he hlt hj hown
      go_wp2_with (go_at_call 71; refine (stringsR_c _ (l.map encKey) _ HRD.out.rd (by rw [HC.out]; exact HL.out) (by rw [List.length_map]; have := HN.out; omega)).mono ?_; rintro e w3 ⟨v3, rfl, ho3, hb3⟩; have HB3 := Lib.hid (hb.out.trans (hb3.mono hb.out.size)); have hcv3 := conv_e ho3.rd; rw [HC.out] at hcv3; clear ho3 hb3)
      go_ret
      exact ⟨rfl, HBE.out _ HB3.out⟩
end Go.Proofs.YtbpjdfnnlmblaaaGreatDoor
/- Equality of rows; the examples. -/
namespace Go.Proofs.YtbpjdfnnlmblaaaGreatDoor
open Go.RowKit
set_option linter.unusedSimpArgs false
set_option linter.unusedVariables false

theorem part_row (s : List UInt32) (k : Nat) (hk : k < s.length) (w : World) : (part 88 (row s) k).run Tryz.prog w = .ok (.int .u32 (W32 (w16 s k))) w := by
  have := row_get s k hk
  simp [part, go_sem, hk]
theorem eq_cell (d : Nat) (a b : UInt32) (w : World) : (Op.equalIn (d + 1) 88 (.int .u32 (W32 a)) (.int .u32 (W32 b))).run Tryz.prog w = .ok (decide (a = b)) w := by
  rw [run_equalIn_int w d _ _ _ _ _ Tryz.underlying88]
  by_cases h : a = b
  · subst h; simp
  · have : W32 a ≠ W32 b := fun e => h (u32_inj e)
    simp [h, this]
open Classical in
theorem rows_loop (d : Nat) (s t : List UInt32) (hs : s.length = 16) (ht : t.length = 16) (w : World) : ∀ (n k : Nat), k + n ≤ 16 →
    ((forIn (List.range' k n) ((none : Option Bool), ()) (fun i r => do
      let a ← part 88 (row s) (i * 1)
      let b ← part 88 (row t) (i * 1)
      let c ← Op.equalIn (d + 1) 88 a b
      if (!c) = true then pure (ForInStep.done (some false, ())) else pure (ForInStep.yield (none, ()))) : Sem (Option Bool × Unit)).run Tryz.prog w) =
    .ok ((if ∀ i, k ≤ i → i < k + n → w16 s i = w16 t i then none else some false), ()) w := by
  intro n
  induction n with
  | zero => intro k hk; rw [if_pos (fun i h1 h2 => absurd h2 (by omega))]; rfl
  | succ n ih =>
    intro k hk
    have p1 := part_row s k (by omega) w
    have p2 := part_row t k (by omega) w
    rw [List.range'_succ, List.forIn_cons]
    simp only [Sem.run_bind, p1, p2, Result.andThen_ok, eq_cell, Nat.mul_one]
    by_cases h : w16 s k = w16 t k
    · simp only [h, decide_true, Bool.not_true, Bool.false_eq_true, if_false, Sem.run_pure, Result.andThen_ok]
      have := ih (k + 1) (by omega)
      simp only [Nat.mul_one] at this
      rw [this]
      by_cases h2 : ∀ i, k + 1 ≤ i → i < k + 1 + n → w16 s i = w16 t i
      · rw [if_pos h2, if_pos]
        intro i h3 h4
        rcases Nat.eq_or_lt_of_le h3 with h5 | h5
        · subst h5; exact h
        · exact h2 i h5 (by omega)
      · rw [if_neg h2, if_neg]
        exact fun h3 => h2 (fun i h4 h5 => h3 i (by omega) (by omega))
    · simp only [h, decide_false, Bool.not_false, if_true, Sem.run_pure, Result.andThen_ok]
      rw [if_neg]
      exact fun h3 => h (h3 k (Nat.le_refl _) (by omega))
theorem rows_eq (s t : List UInt32) (hs : s.length = 16) (ht : t.length = 16) : (∀ i, 0 ≤ i → i < 0 + 16 → w16 s i = w16 t i) ↔ s = t := by
  constructor
  · intro h
    apply List.ext_getElem (by rw [hs, ht])
    intro i h1 h2
    have := h i (by omega) (by omega)
    simpa [w16, List.getD_eq_getElem?_getD, List.getElem?_eq_getElem h1, List.getElem?_eq_getElem h2] using this
  · rintro rfl i _ _; rfl
theorem eq_row (d : Nat) (s t : List UInt32) (hs : s.length = 16) (ht : t.length = 16) (w : World) : (Op.equalIn (d + 2) 110 (.agg (row s)) (.agg (row t))).run Tryz.prog w = .ok (decide (s = t)) w := by
  have hz : (sizeOf 88).run Tryz.prog w = .ok 1 w := by
    cases hq : Tryz.prog.info? 88 with
    | none => have := size22e; rw [hq] at this; cases this
    | some i => have h1 := size22e; rw [hq] at h1; simp at h1; simp [sizeOf, typeInfo, hq, h1]
  unfold Op.equalIn
  simp only [Sem.run_bind, run_underlying Tryz.underlying110, Result.andThen_ok, hz, Std.Legacy.Range.forIn_eq_forIn_range', Std.Legacy.Range.size]
  have := rows_loop d s t hs ht w 16 0 (by omega)
  simp only [Nat.sub_zero, Nat.add_sub_cancel, Nat.div_one] at this ⊢
  rw [this]
  simp only [Result.andThen_ok]
  by_cases h : s = t
  · rw [if_pos ((rows_eq s t hs ht).2 h)]; simp [h]
  · rw [if_neg (fun h2 => h ((rows_eq s t hs ht).1 h2))]; simp [h]
theorem guard_row : Tryz.prog.eqGuardType Tryz.prog.depth 110 = false := by kernel_rfl
theorem eql_row (s t : List UInt32) (hs : s.length = 16) (ht : t.length = 16) (w : World) : (binOp .eql 110 (.agg (row s)) (.agg (row t))).run Tryz.prog w = .ok (.bool (decide (s = t))) w := by
  rw [run_eql_struct]
  rw [show (10000 : Nat) = 9998 + 2 from rfl, eq_row 9998 s t hs ht]
  rfl
theorem neq_row (s t : List UInt32) (hs : s.length = 16) (ht : t.length = 16) (w : World) : (binOp .neq 110 (.agg (row s)) (.agg (row t))).run Tryz.prog w = .ok (.bool (!decide (s = t))) w := by
  rw [run_neq_struct]
  rw [show (10000 : Nat) = 9998 + 2 from rfl, eq_row 9998 s t hs ht]
  rfl
end Go.Proofs.YtbpjdfnnlmblaaaGreatDoor
/- The specification's block and text. -/
namespace Go.Proofs.YtbpjdfnnlmblaaaGreatDoor
open Go.RowKit
set_option linter.unusedSimpArgs false
set_option linter.unusedVariables false

attribute [local irreducible] C3.rounds C3.state C3.blockTo
theorem bytes_len (x : UInt32) : (C3.bytes x).length = 4 := rfl
theorem bytes_add (x y : UInt32) : C3.bytes (x + y) = [x.toUInt8 + y.toUInt8, (shr (x + y) 8).toUInt8, (shr (x + y) 16).toUInt8, (shr (x + y) 24).toUInt8] := by
  rw [← UInt32.toUInt8_add]; rfl
theorem OwnB.drew {w : World} {base : Nat} {v : Value} {l : List UInt8} (n : Nat) (h : OwnB w base v l) : OwnB (w.drewN n) base v l := h.below (below_drewN n (Below.refl _ _))
set_option maxRecDepth 100000 in
set_option maxHeartbeats 2000000 in
theorem blockref_c (key nonce : List UInt8) (ctr : UInt32) (hk : key.length = 32) (hn : nonce.length = 12) (w : World) :
    Calls Tryz.prog 101 #[.string ⟨key.toArray⟩, .int .u32 (W32 ctr), .string ⟨nonce.toArray⟩] w fun e w' => e = .returned (.tuple #[.string ⟨(C3.block key ctr nonce).toArray⟩, .int .i64 0]) ∧ Below w.heap.size w w' := by
  have hs := C3.length_state key ctr nonce
  have hr : (C3.rounds (C3.state key ctr nonce) 10).length = 16 := by rw [C3.length_rounds, hs]
  rw [block_def]
  go_enter Tryz.func101, Tryz.ntmps101
  go_wp2_with (first
    | (go_at_call 100; refine (state_ref key nonce ctr hk hn _).mono ?_; rintro e w1 ⟨rfl, hb1⟩)
    | (refine st_row rfl (.tmp 8) (.tmp 19) rfl _ _ rfl rfl 110 _ (heap_alloc_new _ _) rfl hs ?_)
    | (refine ld_row rfl (.tmp 8) rfl _ rfl _ 110 (heap_alloc_new _ _) hs ?_)
    | (go_at_call 117; refine (rounds_ref _ hs _).mono ?_; rintro e w3 ⟨rfl, hb3⟩)
    | (refine st_row rfl (.tmp 10) (.tmp 25) rfl _ _ rfl rfl 110 _ (heap_alloc_new _ _) rfl hr ?_))
  simp only [World.size_alloc] at hb3
  have hz3 : w1.heap.size + 1 ≤ w3.heap.size := by have := hb3.size; simpa using this
  have hS : w3.heap[w1.heap.size]? = some (.cells (row (C3.state key ctr nonce)) 110 (0, 0)) := by rw [hb3.block _ (by omega)]; exact heap_alloc_new _ _
  have hbw : Below w.heap.size w (w3.alloc (.cells (row (C3.rounds (C3.state key ctr nonce) 10)) 110)) :=
    ((hb1.alloc hb1.size _).trans (hb3.mono (by have := hb1.size; omega))).alloc (by have := hb1.size; omega) _
  have hsz1 : w.heap.size ≤ w3.heap.size + 1 := by have := hb1.size; omega
  have hlt13 : w1.heap.size < w3.heap.size := by omega
  clear hb3 hb1 hz3
  generalize hRq : C3.rounds (C3.state key ctr nonce) 10 = R at hr hbw ⊢
  generalize hSq : C3.state key ctr nonce = S at hs hS hbw hRq ⊢
  have HR := Lib.hid hRq
  have HS := Lib.hid hSq
  clear hRq hSq
  go_loopw [12, 11] (fun i v wr => ∃ k : Nat, k ≤ 16 ∧ i = .int .i64 k ∧ OwnB wr (w3.heap.size + 1) v (C3.blockTo S R k) ∧ Below (w3.heap.size + 1) (w3.alloc (.cells (row R) 110)) wr) (fun i _ _ => 16 - (intOf i).toNat)
  case atStart => exact ⟨0, by omega, rfl, by rw [blockTo_zero]; exact OwnB.nil _ _, Below.refl _ _⟩
  case round =>
    obtain ⟨k, hk16, rfl, ho, hb⟩ := hrel
    by_cases hlt : k < 16
    · have hz : w3.heap.size + 1 ≤ wr.heap.size := by have := hb.size; simpa using this
      have hcS : wr.cell? ⟨w1.heap.size, k, none⟩ = some (.int .u32 (W32 (w16 S k))) := by
        rw [hb.cell (p := ⟨w1.heap.size, k, none⟩) (by show w1.heap.size < _; omega), cell_of_row _ _ _ _ _ _ (by rw [heap_past _ _ _ hlt13]; exact hS), row_get _ _ (by rw [hs]; omega)]
      have hcR : wr.cell? ⟨w3.heap.size, k, none⟩ = some (.int .u32 (W32 (w16 R k))) := by
        rw [hb.cell (p := ⟨w3.heap.size, k, none⟩) (by show w3.heap.size < _; omega), cell_of_row _ _ _ _ _ _ (heap_alloc_new _ _), row_get _ _ (by rw [hr]; omega)]
      have hl4 := C3.length_blockTo S R k
      have hki : (k : Int) < 16 := by omega
      have HL := Lib.hid hl4
      have HK := Lib.hid hlt
      clear hl4
      go_wp2
      first | refine all0 (by kernel_rfl) (by kernel_rfl) ?_ | refine allD (by kernel_rfl) (by kernel_rfl) ?_
      repeat (go_big_quiet_step (fail))
      refine wpQuiet_nil ?_
      rintro _ ⟨nq, rfl⟩
      have ho2 := ho.drew nq
      go_wp2_with (at_builtin; refine app_b rfl (.tmp 37) (.tmp 49) rfl (w3.heap.size + 1) _ _ rfl (World.ownsRow.alloc ho2 _) ⟨wr.heap.size, 0, none⟩ 4 4 (C3.bytes (w16 S k + w16 R k)) rfl rfl ?h1 ?h2 ?h3 ?h4)
      case h1 =>
        intro j u hj
        rw [bytes_add] at hj
        exact cell_new _ _ _ _ _ hj
      case h2 => rw [HL.out]; have := HK.out; omega
      case h3 => simp; omega
      case h4 =>
        intro v' w' ho' hb'
        go_wp2
        go_roundw
        case rel => exact ⟨k + 1, HK.out, by go_num, by rw [blockTo_succ, UInt32.add_comm]; exact ho', (below_drewN nq hb).alloc hz _ |>.trans hb'⟩
        case measure => have := HK.out; simp [intOf]; omega
    · have he : k = 16 := by omega
      have HE := Lib.hid he
      clear he
      have hcv := conv_own ho
      go_wp2
      go_ret2
      exact ⟨by rw [HS.out, HR.out, HE.out]; rfl, hbw.trans (hb.mono hsz1)⟩

set_option maxHeartbeats 1000000 in
theorem blockref_no (key nonce : List UInt8) (ctr : UInt32) (h : C3.okArgs key nonce = false) (w : World) :
    Calls Tryz.prog 101 #[.string ⟨key.toArray⟩, .int .u32 (W32 ctr), .string ⟨nonce.toArray⟩] w fun e w' => e = .returned (.tuple #[.string ⟨#[]⟩, .int .i64 1]) ∧ Below w.heap.size w w' := by
  go_enter Tryz.func101, Tryz.ntmps101
  go_wp2_with (first
    | (go_at_call 100; refine (state_ref_no key nonce ctr h _).mono ?_; rintro e w1 ⟨rfl, hb1⟩)
    | (refine st_row rfl (.tmp 8) (.tmp 19) rfl _ _ rfl rfl 110 _ (heap_alloc_new _ _) rfl rfl ?_))
  go_ret2
  exact ⟨rfl, hb1.alloc hb1.size _⟩
end Go.Proofs.YtbpjdfnnlmblaaaGreatDoor
/- The specification's text. -/
namespace Go.Proofs.YtbpjdfnnlmblaaaGreatDoor
open Go.RowKit
set_option linter.unusedSimpArgs false
set_option linter.unusedVariables false

attribute [local irreducible] C3.rounds C3.state C3.block
/-- append to one's own bytes, as a step of a region that draws -/
theorem step_app_b {ops : Array Oper} {o : Oper} {a : Act} {w : World} {K : Act → World → Prop} {Q : Exit → Act → World → Prop} {E : Prop} (hgd : o.guard = none) (s x : Operand)
    (ho : o.op = .call { callee := .builtin .append, args := #[s, x], argTypes := #[50, 50] })
    (base : Nat) (v : Value) (l : List UInt8) (hs : a.eval s = v) (hown : OwnB w base v l) (ad : Addr) (m c : Nat) (news : List UInt8) (hx : a.eval x = .slice (some ad) m c) (hl : news.length = m) (hm : 0 < m)
    (hnews : ∀ j u, (bv news)[j]? = some u → w.cell? (ad.add j) = some u) (hsz : l.length + m ≤ 1000000000) (hbase : base ≤ w.heap.size)
    (h : ∀ v' w', OwnB w' base v' (l ++ news) → Below base w w' → K (a.put o.dst v') w') :
    if Region.wanted o (yielded ops a.tmps) = true then Oper.wp Tryz.prog o a w K Q else E := by
  obtain ⟨i0, hi, hz0, hz1, hz2⟩ := info_parts info5
  refine step_append_lies w hgd s x 50 ho base 5 i0 (.int .u8 0) 1 1 Tryz.underlying50 hi hz0 hz1 hz2 rfl (by decide) v l.length (bv l) hs hown ad m c (bv news) hx (by simp [bv, hl]) hnews (bv_one news) hm
    (by unfold maxLen; omega) (by omega) hbase w.heap.size rfl ?_
  intro g cap w' h1 h2 _ _
  refine h _ w' ?_ ((Below.refl base w).grown h2 hbase (fun k hk => (hown.lt k hk).1))
  unfold OwnB
  rw [List.length_append, hl]
  have : bv (l ++ news) = bv l ++ bv news := by simp [bv]
  rw [this]
  exact h1
theorem own_step {w : World} {base : Nat} {v : Value} {l : List UInt8} (h : OwnB w base v l) (X : Obj) : OwnB (w.alloc X).drew base v l :=
  OwnB.drew 1 (World.ownsRow.alloc h X)
theorem base_step {w : World} {B : Nat} (h : B ≤ w.heap.size) (X : Obj) : B ≤ (w.alloc X).drew.heap.size := by
  show B ≤ (w.alloc X).heap.size
  simp; omega
theorem news_step (w : World) (T : TypeId) {z x : UInt8} (h : z = x) : ∀ j u, (bv [z])[j]? = some u → ((w.alloc (.cells #[.int .u8 (B8 x)] T)).drew).cell? ((⟨w.heap.size, 0, none⟩ : Addr).add j) = some u := by
  intro j u hj
  subst h
  exact cell_new _ _ _ _ _ hj
theorem pre_room (key : List UInt8) (ctr : UInt32) (nonce text : List UInt8) (k : Nat) (h : k ≤ 100064) : (C3.pre key ctr nonce text k).length + 1 ≤ 1000000000 := by
  rw [C3.length_pre]; omega
def sLenI : Value → Nat
  | .string s => s.size
  | _ => 0
theorem drop_cutI (l : List UInt8) (n : Nat) : (l.drop n).take (l.length - n) = l.drop n := List.take_of_length_le (by rw [List.length_drop]; exact Nat.le_refl _)
theorem xor_here (key : List UInt8) (ctr : UInt32) (nonce text : List UInt8) (k j : Nat) (hm : k % 64 = 0) (hj : j < 64) :
    C3.xorAt key ctr nonce text (k + j) = byteAt (text.drop k) j ^^^ byteAt (C3.block key (ctr + UInt32.ofNat (k / 64)) nonce) j := by
  rw [C3.xorAt_def]
  have e1 : (k + j) / 64 = k / 64 := by omega
  have e2 : (k + j) % 64 = j := by omega
  rw [e1, e2]
  have : C3.byteAt (text.drop k) j = C3.byteAt text (k + j) := by unfold C3.byteAt; simp [List.getD_eq_getElem?_getD, List.getElem?_drop]
  show _ = C3.byteAt (text.drop k) j ^^^ _
  rw [this]
  rfl
set_option maxRecDepth 100000 in
set_option maxHeartbeats 2000000 in
theorem xorref_c (key nonce text : List UInt8) (ctr : UInt32) (hk : key.length = 32) (hn : nonce.length = 12) (htl : text.length ≤ 100000) (w : World) :
    Calls Tryz.prog 67 #[.string ⟨key.toArray⟩, .int .u32 (W32 ctr), .string ⟨nonce.toArray⟩, .string ⟨text.toArray⟩] w fun e w' => e = .returned (.tuple #[.string ⟨(C3.xorText key ctr nonce text).toArray⟩, .int .i64 0]) ∧ Below w.heap.size w w' := by
  have hs := C3.length_state key ctr nonce
  go_enter Tryz.func67, Tryz.ntmps67
  go_wp2_with (first
    | (go_at_call 100; refine (state_ref key nonce ctr hk hn _).mono ?_; rintro e w1 ⟨rfl, hb1⟩)
    | (refine st_row rfl (.tmp 10) (.tmp 22) rfl _ _ rfl rfl 110 _ (heap_alloc_new _ _) rfl hs ?_))
  have hbw : Below w.heap.size w (w1.alloc (.cells (row (C3.state key ctr nonce)) 110)) := hb1.alloc hb1.size _
  have hsz1 : w.heap.size ≤ w1.heap.size + 1 := by have := hb1.size; omega
  clear hb1
  generalize hSq : C3.state key ctr nonce = S at hs hbw ⊢
  clear hSq
  go_loopw [3, 1, 12] (fun t c v wr => ∃ (k : Nat) (r : List UInt8), k ≤ text.length ∧ (k % 64 = 0 ∨ k = text.length) ∧ r = text.drop k ∧ t = .string ⟨r.toArray⟩ ∧ c = .int .u32 (W32 (ctr + UInt32.ofNat ((k + 63) / 64))) ∧ OwnB wr (w1.heap.size + 1) v (C3.pre key ctr nonce text k) ∧ Below (w1.heap.size + 1) (w1.alloc (.cells (row S) 110)) wr) (fun t _ _ _ => sLenI t)
  case atStart => exact ⟨0, text, by omega, .inl rfl, rfl, rfl, by rw [show ctr + UInt32.ofNat ((0 + 63) / 64) = ctr by simp], OwnB.nil _ _, Below.refl _ _⟩
  case round =>
    obtain ⟨k, r, hkl, hkm, hr, rfl, rfl, ho, hb⟩ := hrel
    have hrl : r.length = text.length - k := by rw [hr, List.length_drop]
    by_cases hlt : k < text.length
    · have hm : k % 64 = 0 := by omega
      have hz : w1.heap.size + 1 ≤ wr.heap.size := by have := hb.size; simpa using this
      have e1 : (k + 63) / 64 = k / 64 := by omega
      have hr0 : (0 : Int) < r.length := by omega
      have hxh := fun j hj => xor_here key ctr nonce text k j hm hj
      rw [← hr] at hxh
      rw [e1]
      have hB := C3.length_block key (ctr + UInt32.ofNat (k / 64)) nonce
      have hcall := blockref_c key nonce (ctr + UInt32.ofNat (k / 64)) hk hn
      generalize hBq : C3.block key (ctr + UInt32.ofNat (k / 64)) nonce = blk at hB hcall hxh
      have HC := Lib.hid hcall
      have HX := Lib.hid hxh
      have HR := Lib.hid hr
      have HM := Lib.hid hm
      have HL := Lib.hid hlt
      have HRL := Lib.hid hrl
      clear hBq hcall hxh hr hm hlt e1 hkm hrl
      by_cases h64 : 64 ≤ r.length
      · have hd : min (64 : Int) (r.length : Int) = 64 := by omega
        have h64r : 64 ≤ r.length := by omega
        have h64i : (64 : Int) ≤ r.length := by omega
        have hM64 : 64 ≤ 64 := by omega
        have hM0 : 1 ≤ 64 := by omega
        have HM64 := Lib.hid hM64
        have HMR := Lib.hid h64r
        have HM0 := Lib.hid hM0
        clear h64r hM64 hM0
        go_wp2_with (go_at_call 101; refine (HC.out _).mono ?_; rintro e w4 ⟨rfl, hb4⟩)
        have hz4 : w1.heap.size + 1 ≤ w4.heap.size := by have := hb4.size; omega
        have ho4 := ho.below hb4
        have hb5 := hb.trans (hb4.mono hz)
        clear ho hb hb4 hz hz4
        go_loopw [16, 12] (fun j v w5 => ∃ q : Nat, q ≤ 64 ∧ j = .int .i64 q ∧ OwnB w5 (w1.heap.size + 1) v (C3.pre key ctr nonce text (k + q)) ∧ Below (w1.heap.size + 1) (w1.alloc (.cells (row S) 110)) w5) (fun j _ _ => 64 - (intOf j).toNat)
        case atStart => exact ⟨0, by omega, rfl, ho4, hb5⟩
        case round =>
          clear ho4 hb5
          obtain ⟨q, hqM, rfl, ho, hb⟩ := hrel
          have hz : w1.heap.size + 1 ≤ wr.heap.size := by have := hb.size; simpa using this
          by_cases hlt : q < 64
          · have hlti : (q : Int) < (64 : Int) := by omega
            have h1 : (q : Int) < r.length := by have := HMR.out; omega
            have h2 : (q : Int) < blk.length := by have := HM64.out; omega
            have h3 : (q : Int) < 64 := by have := HM64.out; omega
            have h3' : q < 64 := by have := HM64.out; omega
            have h1' : q < r.length := by have := HMR.out; omega
            have h2' : q < blk.length := by have := HM64.out; omega
            have hl4 := C3.length_pre key ctr nonce text (k + q)
            have hx := HX.out q (by omega)
            have HL4 := Lib.hid hl4
            have HQ := Lib.hid hlt
            have HXX := Lib.hid hx
            clear hl4 hx
            go_wp2
            have hqq : k + q ≤ 100064 := by have := HL.out; have := HM64.out; omega
            go_region_law ((refine step_app_b rfl (.tmp 45) (.tmp 53) rfl (w1.heap.size + 1) _ _ rfl (own_step ho _) ⟨wr.heap.size, 0, none⟩ 1 1 [C3.xorAt key ctr nonce text (k + q)] rfl rfl (by decide) (news_step _ _ HXX.out) (pre_room _ _ _ _ _ hqq) (base_step hz _) ?_; intro v' w' ho' hb'))
            all_goals
              go_wp2
              go_roundw
              case rel => exact ⟨q + 1, HQ.out, by go_num, by rw [← Nat.add_assoc, C3.pre_succ]; exact ho', ((below_drewN 1 (hb.alloc hz _)).trans hb')⟩
              case measure => have := HQ.out; simp [intOf]; omega
          · have he : q = 64 := by omega
            have HE := Lib.hid he
            have hlti : (64 : Int) ≤ (q : Int) := by omega
            have hMR := HMR.out
            clear he
            go_wp2
            go_roundw
            case rel =>
              have hl := HRL.out
              have hM0 := HM0.out
              have hM64 := HM64.out
              have hm := HM.out
              have hL := HL.out
              have hq := HE.out
              have e2 : (k + 64 + 63) / 64 = k / 64 + 1 := by omega
              have e3 : (k + 64) % 64 = 0 ∨ k + 64 = text.length := by omega
              refine ⟨k + 64, _, by omega, e3, ?_, rfl, ?_, ?_, hb⟩
              · rw [drop_cutI, HR.out, List.drop_drop]
              · rw [e2, C3.ctr_succ]
              · rw [← hq]; exact ho
            case measure => have hM0 := HM0.out; show ((r.drop 64).take (r.length - 64)).length < r.length; rw [drop_cutI, List.length_drop]; have := HMR.out; omega
      · have hd : min (64 : Int) (r.length : Int) = r.length := by omega
        have h64r : r.length ≤ r.length := by omega
        have h64i : ((r.length : Nat) : Int) ≤ r.length := by omega
        have hM64 : r.length ≤ 64 := by omega
        have hM0 : 1 ≤ r.length := by omega
        have HM64 := Lib.hid hM64
        have HMR := Lib.hid h64r
        have HM0 := Lib.hid hM0
        clear h64r hM64 hM0
        go_wp2_with (go_at_call 101; refine (HC.out _).mono ?_; rintro e w4 ⟨rfl, hb4⟩)
        have hz4 : w1.heap.size + 1 ≤ w4.heap.size := by have := hb4.size; omega
        have ho4 := ho.below hb4
        have hb5 := hb.trans (hb4.mono hz)
        clear ho hb hb4 hz hz4
        go_loopw [16, 12] (fun j v w5 => ∃ q : Nat, q ≤ r.length ∧ j = .int .i64 q ∧ OwnB w5 (w1.heap.size + 1) v (C3.pre key ctr nonce text (k + q)) ∧ Below (w1.heap.size + 1) (w1.alloc (.cells (row S) 110)) w5) (fun j _ _ => r.length - (intOf j).toNat)
        case atStart => exact ⟨0, by omega, rfl, ho4, hb5⟩
        case round =>
          clear ho4 hb5
          obtain ⟨q, hqM, rfl, ho, hb⟩ := hrel
          have hz : w1.heap.size + 1 ≤ wr.heap.size := by have := hb.size; simpa using this
          by_cases hlt : q < r.length
          · have hlti : (q : Int) < ((r.length : Nat) : Int) := by omega
            have h1 : (q : Int) < r.length := by have := HMR.out; omega
            have h2 : (q : Int) < blk.length := by have := HM64.out; omega
            have h3 : (q : Int) < 64 := by have := HM64.out; omega
            have h3' : q < 64 := by have := HM64.out; omega
            have h1' : q < r.length := by have := HMR.out; omega
            have h2' : q < blk.length := by have := HM64.out; omega
            have hl4 := C3.length_pre key ctr nonce text (k + q)
            have hx := HX.out q (by omega)
            have HL4 := Lib.hid hl4
            have HQ := Lib.hid hlt
            have HXX := Lib.hid hx
            clear hl4 hx
            go_wp2
            have hqq : k + q ≤ 100064 := by have := HL.out; have := HM64.out; omega
            go_region_law ((refine step_app_b rfl (.tmp 45) (.tmp 53) rfl (w1.heap.size + 1) _ _ rfl (own_step ho _) ⟨wr.heap.size, 0, none⟩ 1 1 [C3.xorAt key ctr nonce text (k + q)] rfl rfl (by decide) (news_step _ _ HXX.out) (pre_room _ _ _ _ _ hqq) (base_step hz _) ?_; intro v' w' ho' hb'))
            all_goals
              go_wp2
              go_roundw
              case rel => exact ⟨q + 1, HQ.out, by go_num, by rw [← Nat.add_assoc, C3.pre_succ]; exact ho', ((below_drewN 1 (hb.alloc hz _)).trans hb')⟩
              case measure => have := HQ.out; simp [intOf]; omega
          · have he : q = r.length := by omega
            have HE := Lib.hid he
            have hlti : ((r.length : Nat) : Int) ≤ (q : Int) := by omega
            have hMR := HMR.out
            clear he
            go_wp2
            go_roundw
            case rel =>
              have hl := HRL.out
              have hM0 := HM0.out
              have hM64 := HM64.out
              have hm := HM.out
              have hL := HL.out
              have hq := HE.out
              have e2 : (k + r.length + 63) / 64 = k / 64 + 1 := by omega
              have e3 : (k + r.length) % 64 = 0 ∨ k + r.length = text.length := by omega
              refine ⟨k + r.length, _, by omega, e3, ?_, rfl, ?_, ?_, hb⟩
              · exact (List.drop_eq_nil_of_le (by omega)).symm
              · rw [e2, C3.ctr_succ]
              · rw [← hq]; exact ho
            case measure => have hM0 := HM0.out; show 0 < r.length; omega
    · have he : k = text.length := by omega
      have HE := Lib.hid he
      have hr0 : (r.length : Int) = 0 := by omega
      clear he
      have hcv := conv_own ho
      go_wp2
      go_ret2
      exact ⟨by rw [HE.out]; rfl, hbw.trans (hb.mono hsz1)⟩

set_option maxHeartbeats 1000000 in
theorem xorref_no (key nonce text : List UInt8) (ctr : UInt32) (h : C3.okArgs key nonce = false) (w : World) :
    Calls Tryz.prog 67 #[.string ⟨key.toArray⟩, .int .u32 (W32 ctr), .string ⟨nonce.toArray⟩, .string ⟨text.toArray⟩] w fun e w' => e = .returned (.tuple #[.string ⟨#[]⟩, .int .i64 1]) ∧ Below w.heap.size w w' := by
  go_enter Tryz.func67, Tryz.ntmps67
  go_wp2_with (first
    | (go_at_call 100; refine (state_ref_no key nonce ctr h _).mono ?_; rintro e w1 ⟨rfl, hb1⟩)
    | (refine st_row rfl (.tmp 10) (.tmp 22) rfl _ _ rfl rfl 110 _ (heap_alloc_new _ _) rfl rfl ?_))
  go_ret2
  exact ⟨rfl, hb1.alloc hb1.size _⟩
end Go.Proofs.YtbpjdfnnlmblaaaGreatDoor
/- The specification's sealing. -/
namespace Go.Proofs.YtbpjdfnnlmblaaaGreatDoor
open Go.RowKit
set_option linter.unusedSimpArgs false
set_option linter.unusedVariables false
attribute [local irreducible] Calls mac encS
theorem xor1_r (key nonce text : List UInt8) (hk : key.length = 32) (hn : nonce.length = 12) (ht : text.length ≤ 100000) (w : World) :
    Calls Tryz.prog 67 #[.string ⟨key.toArray⟩, .int .u32 1, .string ⟨nonce.toArray⟩, .string ⟨text.toArray⟩] w fun e w' => e = .returned (.tuple #[.string ⟨(xorP key nonce text).toArray⟩, .int .i64 0]) ∧ Below w.heap.size w w' := by
  unfold xorP
  exact xorref_c key nonce text 1 hk hn ht w
attribute [local irreducible] encK macK
set_option maxRecDepth 100000 in
set_option maxHeartbeats 2000000 in
theorem nonce_r (m ad t : List UInt8) (w : World) (hk : K0At w) (hm : m.length = 32) (ha : ad.length ≤ 100000) (ht : t.length ≤ 100000) :
    Calls Tryz.prog 66 #[.string ⟨m.toArray⟩, .string ⟨ad.toArray⟩, .string ⟨t.toArray⟩] w fun e w' => e = .returned (.string ⟨(nonceP m ad t).toArray⟩) ∧ Below w.heap.size w w' := by
  have HK := Lib.hid hk
  have HM := Lib.hid hm
  have HA := Lib.hid ha
  have HT := Lib.hid ht
  have HEN := Lib.hid (encS_len ad)
  have q1 : ¬ 9223372036854775807 < 5 + (encS ad).length := by have := HEN.out; omega
  have q2 : ¬ 9223372036854775807 < 5 + (encS ad).length + t.length := by have := HEN.out; omega
  have HN : Hid (nonceP m ad t = (mac m ([110, 111, 110, 99, 101] ++ (encS ad ++ t))).take 12) := Lib.hid rfl
  have hml := mac_len m ([110, 111, 110, 99, 101] ++ (encS ad ++ t))
  have HML := Lib.hid hml
  clear hk hm ha ht hml
  go_enter Tryz.func66, Tryz.ntmps66
  go_wp2_with (first
    | (go_at_call 32; refine (bytes_r ad _ (by have := HA.out; omega)).mono ?_; rintro e w2 ⟨v2, rfl, ho2, hb2⟩; have HB2 := Lib.hid hb2; have hcv := conv_e ho2.rd; clear ho2 hb2)
    | (go_at_call 69; refine (mac_r m ([110, 111, 110, 99, 101] ++ (encS ad ++ t)) _ (HK.out.on HB2.out) (by rw [HM.out]; decide) (by have := HEN.out; have := HA.out; have := HT.out; simp; omega)).mono ?_; rintro e w3 ⟨rfl, hb3⟩; have HB3 := Lib.hid (HB2.out.trans (hb3.mono HB2.out.size)); clear hb3; generalize hmk : mac m ([110, 111, 110, 99, 101] ++ (encS ad ++ t)) = mk at HML HN ⊢; have hl32 : (ByteArray.mk mk.toArray).size = 32 := HML.out; clear hmk))
  go_ret
  exact ⟨by rw [HN.out]; rfl, HB3.out⟩
set_option maxRecDepth 100000 in
set_option maxHeartbeats 2000000 in
theorem tag_r (m n ad t : List UInt8) (w : World) (hk : K0At w) (hm : m.length = 32) (hn : n.length = 12) (ha : ad.length ≤ 100000) (ht : t.length ≤ 100000) :
    Calls Tryz.prog 68 #[.string ⟨m.toArray⟩, .string ⟨n.toArray⟩, .string ⟨ad.toArray⟩, .string ⟨t.toArray⟩] w fun e w' => e = .returned (.string ⟨(tagP m n ad t).toArray⟩) ∧ Below w.heap.size w w' := by
  have HK := Lib.hid hk
  have HM := Lib.hid hm
  have HA := Lib.hid ha
  have HT := Lib.hid ht
  have HN0 := Lib.hid hn
  have HEN := Lib.hid (encS_len ad)
  have q0 : ¬ 9223372036854775807 < 3 + n.length := by omega
  have q1 : ¬ 9223372036854775807 < 3 + n.length + (encS ad).length := by have := HEN.out; omega
  have q2 : ¬ 9223372036854775807 < 3 + n.length + (encS ad).length + t.length := by have := HEN.out; omega
  have q3 : ¬ 9223372036854775807 < 3 + (n.length + (encS ad).length) + t.length := by have := HEN.out; omega
  have q4 : ¬ 9223372036854775807 < 3 + (n.length + (encS ad).length) := by have := HEN.out; omega
  have HN : Hid (tagP m n ad t = (mac m ([116, 97, 103] ++ (n ++ (encS ad ++ t)))).take 16) := Lib.hid rfl
  have hml := mac_len m ([116, 97, 103] ++ (n ++ (encS ad ++ t)))
  have HML := Lib.hid hml
  clear hk hm ha ht hml hn
  go_enter Tryz.func68, Tryz.ntmps68
  go_wp2_with (first
    | (go_at_call 32; refine (bytes_r ad _ (by have := HA.out; omega)).mono ?_; rintro e w2 ⟨v2, rfl, ho2, hb2⟩; have HB2 := Lib.hid hb2; have hcv := conv_e ho2.rd; clear ho2 hb2)
    | (go_at_call 69; refine (mac_r m ([116, 97, 103] ++ (n ++ (encS ad ++ t))) _ (HK.out.on HB2.out) (by rw [HM.out]; decide) (by have := HEN.out; have := HA.out; have := HT.out; have := HN0.out; simp; omega)).mono ?_; rintro e w3 ⟨rfl, hb3⟩; have HB3 := Lib.hid (HB2.out.trans (hb3.mono HB2.out.size)); clear hb3; generalize hmk : mac m ([116, 97, 103] ++ (n ++ (encS ad ++ t))) = mk at HML HN ⊢; have hl32 : (ByteArray.mk mk.toArray).size = 32 := HML.out; clear hmk))
  go_ret
  exact ⟨by rw [HN.out]; rfl, HB3.out⟩
attribute [local irreducible] xorP nonceP tagP
set_option maxRecDepth 100000 in
set_option maxHeartbeats 2000000 in
theorem keys_r (key : List UInt8) (w : World) (hk : K0At w) (hl : key.length = 32) :
    Calls Tryz.prog 65 #[.string ⟨key.toArray⟩] w fun e w' => e = .returned (.tuple #[.string ⟨(encK key).toArray⟩, .string ⟨(macK key).toArray⟩, .int .i64 0]) ∧ Below w.heap.size w w' := by
  have HL := Lib.hid hl
  have HK := Lib.hid hk
  have i1 : ((key.length : Int) != 32) = false := by rw [hl]; rfl
  have HE : Hid (mac key [101, 110, 99] = encK key) := Lib.hid (by unfold encK; rfl)
  have HM : Hid (mac key [109, 97, 99] = macK key) := Lib.hid (by unfold macK; rfl)
  clear hk hl
  go_enter Tryz.func65, Tryz.ntmps65
  go_wp2_with (first
    | (go_at_call 69; refine (mac_r key [101, 110, 99] _ HK.out (by rw [HL.out]; decide) (by decide)).mono ?_; rintro e w1 ⟨rfl, hb1⟩; have HB1 := Lib.hid hb1; clear hb1; rw [HE.out])
    | (go_at_call 69; refine (mac_r key [109, 97, 99] _ (HK.out.on HB1.out) (by rw [HL.out]; decide) (by decide)).mono ?_; rintro e w2 ⟨rfl, hb2⟩; have HB2 := Lib.hid (HB1.out.trans (hb2.mono HB1.out.size)); clear hb2; rw [HM.out]))
  go_ret3
  exact ⟨rfl, HB2.out⟩
set_option maxRecDepth 100000 in
set_option maxHeartbeats 2000000 in
theorem keysr_no (key : List UInt8) (w : World) (hl : ¬ key.length = 32) :
    Calls Tryz.prog 65 #[.string ⟨key.toArray⟩] w fun e w' => e = .returned (.tuple #[.string ⟨#[]⟩, .string ⟨#[]⟩, .int .i64 1]) ∧ Below w.heap.size w w' := by
  have i1 : ((key.length : Int) != 32) = true := by simp; omega
  clear hl
  go_enter Tryz.func65, Tryz.ntmps65
  go_wp2
  go_ret3
  exact ⟨rfl, Below.refl _ _⟩
set_option maxRecDepth 100000 in
set_option maxHeartbeats 2000000 in
theorem seal_r (key ad t : List UInt8) (w : World) (hk : K0At w) (hl : key.length = 32) (ha : ad.length ≤ 100000) (ht : t.length ≤ 100000) :
    Calls Tryz.prog 29 #[.string ⟨key.toArray⟩, .string ⟨ad.toArray⟩, .string ⟨t.toArray⟩] w fun e w' => e = .returned (.tuple #[.string ⟨(sealP key ad t).toArray⟩, .int .i64 0]) ∧ Below w.heap.size w w' := by
  have HL := Lib.hid hl
  have HK := Lib.hid hk
  have HA := Lib.hid ha
  have HT := Lib.hid ht
  have i1 : ¬ (1048576 : Int) < ad.length := by omega
  have i2 : ¬ (1048576 : Int) < t.length := by omega
  have hs : sealP key ad t = nonceP (macK key) ad t ++ (xorP (encK key) (nonceP (macK key) ad t) t ++ tagP (macK key) (nonceP (macK key) ad t) ad (xorP (encK key) (nonceP (macK key) ad t) t)) := rfl
  have HS := Lib.hid hs
  have HEL := Lib.hid (encK_len key)
  have HML := Lib.hid (macK_len key)
  clear hl hk ha ht hs
  go_enter Tryz.func29, Tryz.ntmps29
  go_wp2_with (first
    | (go_at_call 65; refine (keys_r key _ HK.out HL.out).mono ?_; rintro e w2 ⟨rfl, hb1⟩; have HB2 := Lib.hid hb1; clear hb1; generalize hek : encK key = ek; generalize hmk : macK key = mk; have HEK := Lib.hid hek; have HMK := Lib.hid hmk; clear hek hmk)
    | (go_at_call 66; refine (nonce_r mk ad t w2 (HK.out.on HB2.out) (by rw [← HMK.out]; exact HML.out) HA.out HT.out).mono ?_; rintro e w3 ⟨rfl, hb3⟩; have HB3 := Lib.hid (HB2.out.trans (hb3.mono HB2.out.size)); clear hb3; generalize hn : nonceP mk ad t = nc; have HN := Lib.hid hn; have HNL : Hid (nc.length = 12) := (Lib.hid (by rw [← hn]; exact nonceP_len _ _ _)); clear hn)
    | (go_at_call 67; refine (xor1_r ek nc t (by rw [← HEK.out]; exact HEL.out) HNL.out HT.out _).mono ?_; rintro e w4 ⟨rfl, hb4⟩; have HB4 := Lib.hid (HB3.out.trans (hb4.mono HB3.out.size)); clear hb4; generalize hx : xorP ek nc t = xc; have HX := Lib.hid hx; have HXL : Hid (xc.length = t.length) := (Lib.hid (by rw [← hx]; exact xorP_len _ _ _)); clear hx; have q1 : ¬ 9223372036854775807 < nc.length + xc.length := (by rw [HNL.out, HXL.out]; have := HT.out; omega))
    | (go_at_call 68; refine (tag_r mk nc ad xc w4 (HK.out.on HB4.out) (by rw [← HMK.out]; exact HML.out) HNL.out HA.out (by rw [HXL.out]; exact HT.out)).mono ?_; rintro e w5 ⟨rfl, hb5⟩; have HB5 := Lib.hid (HB4.out.trans (hb5.mono HB4.out.size)); clear hb5; generalize htg : tagP mk nc ad xc = tg; have HTG := Lib.hid htg; have q2 : ¬ 9223372036854775807 < nc.length + xc.length + tg.length := (by rw [← htg, tagP_len, HNL.out, HXL.out]; have := HT.out; omega); clear htg))
  go_ret2
  exact ⟨by rw [HS.out, HEK.out, HMK.out, HN.out, HX.out, HTG.out]; rfl, HB5.out⟩
set_option maxRecDepth 100000 in
set_option maxHeartbeats 2000000 in
theorem sealr_no (key ad t : List UInt8) (w : World) (hl : ¬ key.length = 32) :
    Calls Tryz.prog 29 #[.string ⟨key.toArray⟩, .string ⟨ad.toArray⟩, .string ⟨t.toArray⟩] w fun e w' => e = .returned (.tuple #[.string ⟨#[]⟩, .int .i64 1]) ∧ Below w.heap.size w w' := by
  go_enter Tryz.func29, Tryz.ntmps29
  go_wp2_with (go_at_call 65; refine (keysr_no key _ hl).mono ?_; rintro e w1 ⟨rfl, hb1⟩)
  go_ret2
  exact ⟨rfl, hb1⟩
set_option maxRecDepth 100000 in
set_option maxHeartbeats 2000000 in
theorem openr_no (key ad t : List UInt8) (w : World) (hl : ¬ key.length = 32) :
    Calls Tryz.prog 56 #[.string ⟨key.toArray⟩, .string ⟨ad.toArray⟩, .string ⟨t.toArray⟩] w fun e w' => e = .returned (.tuple #[.string ⟨#[]⟩, .int .i64 1]) ∧ Below w.heap.size w w' := by
  go_enter Tryz.func56, Tryz.ntmps56
  go_wp2_with (go_at_call 65; refine (keysr_no key _ hl).mono ?_; rintro e w1 ⟨rfl, hb1⟩)
  go_ret2
  exact ⟨rfl, hb1⟩
set_option maxRecDepth 100000 in
set_option maxHeartbeats 2000000 in
theorem openr_short (key ad t : List UInt8) (w : World) (hk : K0At w) (hl : key.length = 32) (ha : ad.length ≤ 100000) (ht : t.length < 28) :
    Calls Tryz.prog 56 #[.string ⟨key.toArray⟩, .string ⟨ad.toArray⟩, .string ⟨t.toArray⟩] w fun e w' => e = .returned (.tuple #[.string ⟨#[]⟩, .int .i64 5]) ∧ Below w.heap.size w w' := by
  have i1 : ¬ (1048576 : Int) < ad.length := by omega
  have i2 : ¬ (1048604 : Int) < t.length := by omega
  have i3 : (t.length : Int) < 28 := by omega
  clear ha ht
  go_enter Tryz.func56, Tryz.ntmps56
  go_wp2_with (go_at_call 65; refine (keys_r key _ hk hl).mono ?_; rintro e w1 ⟨rfl, hb1⟩)
  go_ret2
  exact ⟨rfl, hb1⟩
set_option maxRecDepth 100000 in
set_option maxHeartbeats 2000000 in
theorem open_r (key ad t : List UInt8) (w : World) (hk : K0At w) (hl : key.length = 32) (ha : ad.length ≤ 100000) (ht : 28 ≤ t.length) (ht2 : t.length ≤ 100000) :
    Calls Tryz.prog 56 #[.string ⟨key.toArray⟩, .string ⟨ad.toArray⟩, .string ⟨t.toArray⟩] w fun e w' => e = .returned (openV (openP key ad t)) ∧ Below w.heap.size w w' := by
  have HL := Lib.hid hl
  have HK := Lib.hid hk
  have HA := Lib.hid ha
  have HT := Lib.hid ht2
  have HT1 := Lib.hid ht
  have i1 : ¬ (1048576 : Int) < ad.length := by omega
  have i2 : ¬ (1048604 : Int) < t.length := by omega
  have i3 : ¬ (t.length : Int) < 28 := by omega
  have hti : (28 : Int) ≤ t.length := by omega
  have hti2 : (t.length : Int) ≤ 100000 := by omega
  have HEL := Lib.hid (encK_len key)
  have HML := Lib.hid (macK_len key)
  clear hl hk ha
  go_enter Tryz.func56, Tryz.ntmps56
  go_upto_region 10 with (first
    | (go_at_call 65; refine (keys_r key _ HK.out HL.out).mono ?_; rintro e w3 ⟨rfl, hb1⟩; have HB3 := Lib.hid hb1; clear hb1; generalize hek : encK key = ek; generalize hmk : macK key = mk; have HEK := Lib.hid hek; have HMK := Lib.hid hmk; clear hek hmk))
  obtain ⟨nn, hnn⟩ : ∃ nn, bN t = nn := ⟨_, rfl⟩
  obtain ⟨cc, hcc⟩ : ∃ cc, bC t = cc := ⟨_, rfl⟩
  obtain ⟨tt, htt⟩ : ∃ tt, bT t = tt := ⟨_, rfl⟩
  have HNN := Lib.hid hnn
  have HCC := Lib.hid hcc
  have HTT := Lib.hid htt
  have HNL : Hid (nn.length = 12) := Lib.hid (by rw [← hnn]; unfold bN; rw [List.length_take]; omega)
  have HCL : Hid (cc.length ≤ 100000) := Lib.hid (by rw [← hcc]; unfold bC; rw [List.length_take, List.length_drop]; omega)
  have hft : (t.drop (t.length - 16)).take (t.length - (t.length - 16)) = tt := by
    rw [← htt]
    unfold bT
    exact List.take_of_length_le (by rw [List.length_drop]; exact Nat.le_refl _)
  unfold bN at hnn
  unfold bC at hcc
  rw [hnn, hcc]
  clear hnn hcc htt
  have HMKL : Hid (mk.length = 32) := Lib.hid (by rw [← HMK.out]; exact HML.out)
  have HEKL : Hid (ek.length = 32) := Lib.hid (by rw [← HEK.out]; exact HEL.out)
  have HFT := Lib.hid hft
  clear hft
  have HK3 := Lib.hid (HK.out.on HB3.out)
  refine allL (by kernel_rfl) (by kernel_rfl) ?_
  repeat (first
    | go_big_quiet_step ((go_at_call 68; exact Later.call _ (tag_r mk nn ad cc _ (HK3.out.on (Later.below _)) HMKL.out HNL.out HA.out HCL.out))))
  refine wpQuiet_nil ?_
  rintro _ ⟨u, rfl⟩
  have HB4 := Lib.hid (HB3.out.trans (u.below.mono HB3.out.size))
  generalize u.now = w4 at HB4 ⊢
  rw [HFT.out]
  generalize htg : tagP mk nn ad cc = tg
  have HTG := Lib.hid htg
  clear htg
  have HO : Hid (openP key ad t = if tg = tt ∧ nonceP mk ad (xorP ek nn cc) = nn then some (xorP ek nn cc) else none) := Lib.hid (by unfold openP; rw [HNN.out, HCC.out, HTT.out, HMK.out, HEK.out, HTG.out])
  by_cases hteq : tg = tt
  · have e1 : (!(tt == tg)) = false := by rw [hteq]; simp
    rw [e1]
    have HTE := Lib.hid hteq
    clear hteq e1
    go_upto_region 13 with (go_at_call 67; refine (xor1_r ek nn cc HEKL.out HNL.out HCL.out _).mono ?_; rintro e w5 ⟨rfl, hb5⟩; have HB5 := Lib.hid (HB4.out.trans (hb5.mono HB4.out.size)); clear hb5; generalize hx : xorP ek nn cc = xc at HO ⊢; have HXL : Hid (xc.length = cc.length) := (Lib.hid (by rw [← hx]; exact xorP_len _ _ _)); clear hx)
    generalize hnc : nonceP mk ad xc = n2 at HO
    have HNC := Lib.hid hnc
    clear hnc
    by_cases hneq : n2 = nn
    · have e2 : (n2 == nn) = true := by simpa using hneq
      have HNE := Lib.hid hneq
      clear hneq
      go_wp2_with (go_at_call 66; refine (nonce_r mk ad xc w5 (HK.out.on HB5.out) HMKL.out HA.out (by rw [HXL.out]; exact HCL.out)).mono ?_; rintro e w6 ⟨rfl, hb6⟩; have HB6 := Lib.hid (HB5.out.trans (hb6.mono HB5.out.size)); clear hb6; rw [HNC.out])
      go_ret2
      exact ⟨by rw [HO.out, if_pos ⟨HTE.out, HNE.out⟩]; rfl, HB6.out⟩
    · have e2 : (n2 == nn) = false := by simpa using hneq
      have HNE := Lib.hid hneq
      clear hneq
      go_wp2_with (go_at_call 66; refine (nonce_r mk ad xc w5 (HK.out.on HB5.out) HMKL.out HA.out (by rw [HXL.out]; exact HCL.out)).mono ?_; rintro e w6 ⟨rfl, hb6⟩; have HB6 := Lib.hid (HB5.out.trans (hb6.mono HB5.out.size)); clear hb6; rw [HNC.out])
      go_ret2
      exact ⟨by rw [HO.out, if_neg (fun h => HNE.out h.2)]; rfl, HB6.out⟩
  · have e1 : (!(tt == tg)) = true := by simp; exact fun e => hteq e.symm
    rw [e1]
    have HTE := Lib.hid hteq
    clear hteq
    go_wp2
    go_ret2
    exact ⟨by rw [HO.out, if_neg (fun h => HTE.out h.1)]; rfl, HB4.out⟩
set_option maxRecDepth 100000 in
set_option maxHeartbeats 2000000 in
theorem sealr_lim (key ad t : List UInt8) (w : World) (hk : K0At w) (hl : key.length = 32) (h : 1048576 < ad.length ∨ 1048576 < t.length) :
    Calls Tryz.prog 29 #[.string ⟨key.toArray⟩, .string ⟨ad.toArray⟩, .string ⟨t.toArray⟩] w fun e w' => e = .returned (.tuple #[.string ⟨#[]⟩, .int .i64 2]) ∧ Below w.heap.size w w' := by
  by_cases h1 : 1048576 < ad.length
  · have i1 : (1048576 : Int) < ad.length := by omega
    clear h h1
    go_enter Tryz.func29, Tryz.ntmps29
    go_wp2_with (go_at_call 65; refine (keys_r key _ hk hl).mono ?_; rintro e w1 ⟨rfl, hb1⟩)
    go_ret2
    exact ⟨rfl, hb1⟩
  · have i1 : ¬ (1048576 : Int) < ad.length := by omega
    have i2 : (1048576 : Int) < t.length := by omega
    clear h h1
    go_enter Tryz.func29, Tryz.ntmps29
    go_wp2_with (go_at_call 65; refine (keys_r key _ hk hl).mono ?_; rintro e w1 ⟨rfl, hb1⟩)
    go_ret2
    exact ⟨rfl, hb1⟩
set_option maxRecDepth 100000 in
set_option maxHeartbeats 2000000 in
theorem openr_lim (key ad t : List UInt8) (w : World) (hk : K0At w) (hl : key.length = 32) (h : 1048576 < ad.length ∨ 1048604 < t.length) :
    Calls Tryz.prog 56 #[.string ⟨key.toArray⟩, .string ⟨ad.toArray⟩, .string ⟨t.toArray⟩] w fun e w' => e = .returned (.tuple #[.string ⟨#[]⟩, .int .i64 2]) ∧ Below w.heap.size w w' := by
  by_cases h1 : 1048576 < ad.length
  · have i1 : (1048576 : Int) < ad.length := by omega
    clear h h1
    go_enter Tryz.func56, Tryz.ntmps56
    go_wp2_with (go_at_call 65; refine (keys_r key _ hk hl).mono ?_; rintro e w1 ⟨rfl, hb1⟩)
    go_ret2
    exact ⟨rfl, hb1⟩
  · have i1 : ¬ (1048576 : Int) < ad.length := by omega
    have i2 : (1048604 : Int) < t.length := by omega
    clear h h1
    go_enter Tryz.func56, Tryz.ntmps56
    go_wp2_with (go_at_call 65; refine (keys_r key _ hk hl).mono ?_; rintro e w1 ⟨rfl, hb1⟩)
    go_ret2
    exact ⟨rfl, hb1⟩
/-- lengths at which the specification is walked -/
def RefOK (key ad t : List UInt8) : Prop := key.length = 32 → (ad.length ≤ 100000 ∧ t.length ≤ 100000) ∨ 1048604 < ad.length ∨ 1048604 < t.length
theorem keys_rt (key : List UInt8) (w : World) (hk : K0At w) :
    Calls Tryz.prog 65 #[.string ⟨key.toArray⟩] w fun e w' => e = .returned (.tuple #[.string ⟨(keysA key).toArray⟩, .string ⟨(keysB key).toArray⟩, .int .i64 (keysE key)]) ∧ Below w.heap.size w w' := by
  unfold keysA keysB keysE
  by_cases h : key.length = 32
  · rw [if_pos h, if_pos h, if_pos h]
    exact keys_r key w hk h
  · rw [if_neg h, if_neg h, if_neg h]
    exact keysr_no key w h
theorem seal_rt (key ad t : List UInt8) (w : World) (hk : K0At w) (hr : RefOK key ad t) :
    Calls Tryz.prog 29 #[.string ⟨key.toArray⟩, .string ⟨ad.toArray⟩, .string ⟨t.toArray⟩] w fun e w' => e = .returned (.tuple #[.string ⟨(sealX key ad t).toArray⟩, .int .i64 (sealE key ad t)]) ∧ Below w.heap.size w w' := by
  unfold sealX sealE
  by_cases h : key.length = 32
  · have hr := hr h
    by_cases h2 : 1048576 < ad.length ∨ 1048576 < t.length
    · rw [if_neg (fun e => e.2 h2), if_pos h, if_pos h2]
      exact sealr_lim key ad t w hk h h2
    · rw [if_pos ⟨h, h2⟩, if_pos h, if_neg h2]
      exact seal_r key ad t w hk h (by omega) (by omega)
  · rw [if_neg (fun e => h e.1), if_neg h]
    exact sealr_no key ad t w h
theorem open_rt (key ad t : List UInt8) (w : World) (hk : K0At w) (hr : RefOK key ad t) :
    Calls Tryz.prog 56 #[.string ⟨key.toArray⟩, .string ⟨ad.toArray⟩, .string ⟨t.toArray⟩] w fun e w' => e = .returned (.tuple #[.string ⟨(openX key ad t).toArray⟩, .int .i64 (openE key ad t)]) ∧ Below w.heap.size w w' := by
  unfold openX openE
  by_cases h : key.length = 32
  · have hr := hr h
    by_cases h2 : 1048576 < ad.length ∨ 1048604 < t.length
    · rw [if_neg (fun e => e.2.1 h2), if_pos h, if_pos h2]
      exact openr_lim key ad t w hk h h2
    · by_cases h3 : t.length < 28
      · rw [if_neg (fun e => e.2.2 h3), if_pos h, if_neg h2, if_pos h3]
        exact openr_short key ad t w hk h (by omega) h3
      · rw [if_pos ⟨h, h2, h3⟩, if_pos h, if_neg h2, if_neg h3, ← openV_eq]
        exact open_r key ad t w hk h (by omega) (by omega) (by omega)
  · rw [if_neg (fun e => h e.1), if_neg h]
    exact openr_no key ad t w h
end Go.Proofs.YtbpjdfnnlmblaaaGreatDoor
/- The specification's Make. -/
namespace Go.Proofs.YtbpjdfnnlmblaaaGreatDoor
open Go.RowKit Go.Shelf
set_option linter.unusedSimpArgs false
set_option linter.unusedVariables false
attribute [local irreducible] Calls mac encS encI encIs encSs encKey headP contP sealP validB
set_option maxRecDepth 100000 in
set_option maxHeartbeats 2000000 in
theorem maker_no (dk : List UInt8) (b : BK) (u : Value) (l : List K) (w : World) (hv : RdK w u l) (h : makeOk dk b l = false) :
    Calls Tryz.prog 9 #[.string ⟨dk.toArray⟩, .agg (bc b u)] w fun e w' => e = .returned (.tuple #[.string ⟨#[]⟩, .int .i64 1]) ∧ Below w.heap.size w w' := by
  have HB0 : Hid ((w.alloc (.cells (bc b u) 26)).heap[w.heap.size]? = some (.cells (bc b u) 26 (0, 0))) := Lib.hid (heap_last _ _ _ rfl)
  have HBA : Hid (Below w.heap.size w (w.alloc (.cells (bc b u) 26))) := Lib.hid ((Below.refl _ _).alloc (Nat.le_refl _) _)
  have HVC := Lib.hid (validB_r b u l (w.alloc (.cells (bc b u) 26)) (hv.alloc _))
  unfold makeOk at h
  clear hv
  by_cases h32 : dk.length = 32
  · rw [decide_eq_true h32, Bool.true_and] at h
    rw [h] at HVC
    have i1 : ((dk.length : Int) != 32) = false := by rw [h32]; rfl
    clear h h32
    go_enter Tryz.func9, Tryz.ntmps9
    go_wp2_with (first
      | (refine ld_bk b u rfl (.tmp 3) rfl _ rfl _ HB0.out ?_)
      | (go_at_call 14; refine HVC.out.mono ?_; rintro e w1 ⟨rfl, hb1⟩; have HB1 := Lib.hid (HBA.out.trans (hb1.mono HBA.out.size)); clear hb1))
    go_ret2
    exact ⟨rfl, HB1.out⟩
  · have i1 : ((dk.length : Int) != 32) = true := by simp; omega
    clear h h32
    generalize validB b l = vb at HVC
    go_enter Tryz.func9, Tryz.ntmps9
    go_wp2_with (first
      | (refine ld_bk b u rfl (.tmp 3) rfl _ rfl _ HB0.out ?_)
      | (go_at_call 14; refine HVC.out.mono ?_; rintro e w1 ⟨rfl, hb1⟩; have HB1 := Lib.hid (HBA.out.trans (hb1.mono HBA.out.size)); clear hb1))
    go_ret2
    exact ⟨rfl, HB1.out⟩
set_option maxRecDepth 100000 in
set_option maxHeartbeats 8000000 in
theorem maker_yes (dk : List UInt8) (b : BK) (u : Value) (l : List K) (w : World) (hk : K0At w) (hv : RdK w u l) (hb : b.mach) (hn : numK l) (hl : l.length ≤ 100) (h : makeOk dk b l = true) :
    Calls Tryz.prog 9 #[.string ⟨dk.toArray⟩, .agg (bc b u)] w fun e w' => e = .returned (.tuple #[.string ⟨(makeP dk b l).toArray⟩, .int .i64 0]) ∧ Below w.heap.size w w' := by
  have hb32 : dk.length = 32 ∧ validB b l = true := by unfold makeOk at h; simpa using h
  obtain ⟨h32, hval⟩ := hb32
  have hmo := validB_mo hval
  have HWF := Lib.hid (hb.wf (by omega))
  have HHL := Lib.hid (headP_len b HWF.out)
  have HMO := Lib.hid hmo
  have HLL := Lib.hid hl
  have HCL := Lib.hid (contP_len hval)
  have HKO := Lib.hid (keys_ok hn hval)
  have H32 := Lib.hid h32
  obtain ⟨W0, hW0⟩ : ∃ W0, W0 = w.alloc (.cells (bc b u) 26) := ⟨_, rfl⟩
  have HB0 : Hid (W0.heap[w.heap.size]? = some (.cells (bc b u) 26 (0, 0))) := Lib.hid (by rw [hW0]; exact heap_last _ _ _ rfl)
  have HBA : Hid (Below w.heap.size w W0) := Lib.hid (by rw [hW0]; exact (Below.refl _ _).alloc (Nat.le_refl _) _)
  have HRD : Hid (RdK W0 u l) := Lib.hid (by rw [hW0]; exact hv.alloc _)
  have HKA : Hid (K0At W0) := Lib.hid (by rw [hW0]; exact hk.on ((Below.refl _ _).alloc (Nat.le_refl _) _))
  have HVC := Lib.hid (validB_r b u l W0 HRD.out)
  rw [hval] at HVC
  have HMP : Hid (makeP dk b l = encS (headP b) ++ sealP (deriveP dk bkL) (headP b) (contP l)) := Lib.hid rfl
  have i1 : ((dk.length : Int) != 32) = false := by rw [h32]; rfl
  have HW := Lib.hid hW0
  have HDL := Lib.hid (deriveP_len dk bkL)
  have HBK : Hid (bkL = [98, 97, 99, 107, 117, 112]) := Lib.hid rfl
  have HSE : Hid (sealE (deriveP dk bkL) (headP b) (contP l) = 0 ∧ sealX (deriveP dk bkL) (headP b) (contP l) = sealP (deriveP dk bkL) (headP b) (contP l)) := Lib.hid (by
    have h1 := HHL.out.2
    have h2 := HCL.out
    unfold sealE sealX
    rw [if_pos (deriveP_len dk bkL), if_neg (by omega), if_pos ⟨deriveP_len dk bkL, by omega⟩]
    exact ⟨rfl, rfl⟩)
  clear h h32 hval hmo hv hb hn hk hW0 hl
  go_enter Tryz.func9, Tryz.ntmps9
  go_upto_region 1 with fail
  rw [← HW.out]
  go_upto_region 4 with (first
    | (refine ld_bk b u rfl (.tmp 3) rfl _ rfl _ HB0.out ?_)
    | (go_at_call 14; refine HVC.out.mono ?_; rintro e w1 ⟨rfl, hb1⟩; have HB1 := Lib.hid hb1; have HBB1 : Hid (∀ wx, Below w1.heap.size w1 wx → wx.heap[w.heap.size]? = some (.cells (bc b u) 26 (0, 0))) := (Lib.hid (fun wx hx => by rw [(hb1.trans (hx.mono hb1.size)).block _ (Array.getElem?_eq_some_iff.1 HB0.out).1]; exact HB0.out)); clear hb1))
  generalize hhp : headP b = hp at HHL HMP HSE
  have HHP := Lib.hid hhp
  generalize hcp : contP l = cp at HCL HMP HSE
  have HCP := Lib.hid hcp
  generalize hdp : deriveP dk bkL = dp at HDL HMP HSE
  have HDP := Lib.hid hdp
  clear hhp hcp hdp
  try dsimp only [Act.put]
  refine region_rel 11 [[], [0], [], [2], [], [4], [1, 3, 5], [6], [7], [7], [8]] (SP.of [.eq (.string ⟨dk.toArray⟩), .eq (.string ⟨dp.toArray⟩), .eq (.agg (bc b u)), .eq (.string ⟨hp.toArray⟩), .eq (.agg (bc b u)), .eq (.string ⟨cp.toArray⟩), .eq (.tuple #[.string ⟨(sealP dp hp cp).toArray⟩, .int .i64 0]), .eq (.tuple #[.string ⟨(sealP dp hp cp).toArray⟩, .int .i64 0]), .eq (.string ⟨(sealP dp hp cp).toArray⟩), .eq (.int .i64 0), .eq (.string ⟨(sealP dp hp cp).toArray⟩)]) (fun _ => undef) ?h1 ?h2 ?h3 ?h4 ?h5 ?h6
  case h1 => kernel_rfl
  case h2 => kernel_rfl
  case h3 => kernel_rfl
  case h4 =>
    simp only [List.take_succ_cons, List.take_zero]
    repeat (first | exact trivial | refine ⟨fun vals v => by kernel_rfl, ?_⟩)
  case h5 =>
    simp only [List.take_succ_cons, List.take_zero]
    refine ⟨?_, ?_, ?_, ?_, ?_, ?_, ?_, ?_, ?_, ?_, ?_, trivial⟩
    all_goals (intro wq hbq vals; simp only [Nat.reduceAdd, Nat.zero_add, List.getD_cons_succ, List.getD_cons_zero]; repeat (first | refine given_nil ?_ | refine given_eq rfl ?_); have HXR := Lib.hid (HBB1.out wq hbq); have HBQ : Hid (Below W0.heap.size W0 wq) := Lib.hid (HB1.out.trans (hbq.mono HB1.out.size)); clear hbq; intro Q hQ; simp only [putAll, upd, Act.put, List.setIfInBounds_toArray, List.set_cons_zero, List.set_cons_succ, Nat.reduceAdd, Nat.zero_add, Nat.reduceEqDiff, if_true, if_false, reduceIte])
    case refine_2 =>
      go_wp2_with (go_at_call 30; refine (derive_r dk bkL _ (HKA.out.on HBQ.out) (by rw [H32.out]; decide) (by decide)).mono ?_; rintro e x1 ⟨rfl, hx1⟩; rw [HDP.out])
      exact relEnd_fin hQ _ (by kernel_rfl) hx1 rfl
    case refine_3 =>
      go_wp2_with (refine ld_bk b u rfl (.tmp 3) rfl _ rfl _ HXR.out ?_)
      exact relEnd_fin hQ _ (by kernel_rfl) (Below.refl _ _) rfl
    case refine_5 =>
      go_wp2_with (refine ld_bk b u rfl (.tmp 3) rfl _ rfl _ HXR.out ?_)
      exact relEnd_fin hQ _ (by kernel_rfl) (Below.refl _ _) rfl
    case refine_4 =>
      go_wp2_with (go_at_call 17; refine (header_r b u _ HWF.out (by have := HMO.out; omega)).mono ?_; rintro e x1 ⟨rfl, hx1⟩; rw [HHP.out])
      exact relEnd_fin hQ _ (by kernel_rfl) hx1 rfl
    case refine_6 =>
      go_wp2_with (go_at_call 31; refine (content_r b u l _ (HRD.out.on HBQ.out) HKO.out (by have := HLL.out; omega) (by rw [HCP.out]; have := HCL.out; have := HLL.out; omega)).mono ?_; rintro e x1 ⟨rfl, hx1⟩; rw [HCP.out])
      exact relEnd_fin hQ _ (by kernel_rfl) hx1 rfl
    case refine_7 =>
      go_wp2_with (go_at_call 29; refine (seal_rt dp hp cp _ (HKA.out.on HBQ.out) (fun _ => .inl ⟨by have := HHL.out.2; have := HMO.out; omega, by have := HCL.out; have := HLL.out; omega⟩)).mono ?_; rintro e x1 ⟨rfl, hx1⟩; rw [HSE.out.1, HSE.out.2])
      exact relEnd_fin hQ _ (by kernel_rfl) hx1 rfl
    all_goals go_wp2
    all_goals exact relEnd_fin hQ _ (by kernel_rfl) (Below.refl _ _) rfl
  case h6 =>
    intro wq hbq vals
    rw [show List.range 11 = [0, 1, 2, 3, 4, 5, 6, 7, 8, 9, 10] from by decide]
    repeat (first | refine given_nil ?_ | refine given_eq rfl ?_)
    simp only [List.take_succ_cons, List.take_zero, List.drop_succ_cons, List.drop_zero]
    simp only [putAll, upd, Act.put, List.setIfInBounds_toArray, List.set_cons_zero, List.set_cons_succ, Nat.reduceAdd, Nat.zero_add, Nat.reduceEqDiff, if_true, if_false, reduceIte]
    have HBQ : Hid (Below W0.heap.size W0 wq) := Lib.hid (HB1.out.trans (hbq.mono HB1.out.size))
    have HXR := Lib.hid (HBB1.out wq hbq)
    clear hbq
    have HSL : Hid ((encS hp).length + (sealP dp hp cp).length ≤ 2000000) := Lib.hid (by have h1 := encS_len hp; have h2 := sealP_len dp hp cp; have h3 := HHL.out.2; have h4 := HMO.out; have h5 := HCL.out; omega)
    generalize sealP dp hp cp = sp at HMP HSL HSE ⊢
    have hcat : ¬ 9223372036854775807 < (encS hp).length + sp.length := by have := HSL.out; omega
    go_wp2_with (first
      | (refine ld_bk b u rfl (.tmp 3) rfl _ rfl _ HXR.out ?_)
      | (go_at_call 17; refine (header_r b u _ HWF.out (by have := HMO.out; omega)).mono ?_; rintro e w4 ⟨rfl, hb4⟩; rw [HHP.out]; have HB4 := Lib.hid (HBQ.out.trans (hb4.mono HBQ.out.size)); clear hb4)
      | (go_at_call 32; refine (bytes_r hp _ (by have := HHL.out.2; have := HMO.out; omega)).mono ?_; rintro e w5 ⟨v5, rfl, ho5, hb5⟩; have HB5 := Lib.hid (HB4.out.trans (hb5.mono HB4.out.size)); have hcv := conv_e ho5.rd; clear ho5 hb5))
    go_ret2
    exact ⟨by rw [HMP.out]; rfl, HBA.out.trans (HB5.out.mono HBA.out.size)⟩
theorem make_r (dk : List UInt8) (b : BK) (u : Value) (l : List K) (w : World) (hk : K0At w) (hv : RdK w u l) (hb : b.mach) (hn : numK l) (hl : l.length ≤ 100) :
    Calls Tryz.prog 9 #[.string ⟨dk.toArray⟩, .agg (bc b u)] w fun e w' => e = .returned (.tuple #[.string ⟨(makeX dk b l).toArray⟩, .int .i64 (makeE dk b l)]) ∧ Below w.heap.size w w' := by
  rcases makeE_cases dk b l with ⟨h1, h2, h3⟩ | ⟨h1, h2, h3⟩
  · rw [h2, h3]; exact maker_yes dk b u l w hk hv hb hn hl h1
  · rw [h2, h3]; exact maker_no dk b u l w hv h1
end Go.Proofs.YtbpjdfnnlmblaaaGreatDoor
