/- Parts of a proof, joined: contracts of functions of the program and plain lemmas (BalA, BakP, LawKit2, LawKit3, BalB, SanA, BalC, BalD, Frame). No condition. -/
import Derived.Test.YtbpjdfnnlmblaaaGreatDoorMA14
import Derived.Great.BuildSlice
import Derived.Test.YtbpjdfnnlmblaaaGreatDoorRows
import Derived.ProofKit
import Derived.OpenShut
import Derived.ShutString
import Derived.ChangeOld
import Derived.Below
/- The program's Same. -/
namespace Go.Proofs.YtbpjdfnnlmblaaaGreatDoor
open Go.RowKit Go.Shelf
set_option linter.unusedSimpArgs false
set_option linter.unusedVariables false
/-- equal headers, equal keys -/
def sameP (a : BK) (l : List K) (b : BK) (m : List K) : Bool := (headP a == headP b) && decide (l = m)
attribute [local irreducible] Calls headP putAll
set_option maxRecDepth 100000 in
set_option maxHeartbeats 4000000 in
theorem same_c (a b : BK) (v u : Value) (l m : List K) (w : World) (hv : RdK w v l) (hu : RdK w u m) (ha : a.wf) (hb : b.wf) :
    Calls Tryz.prog 15 #[.agg (bc a v), .agg (bc b u)] w fun e w' => e = .returned (.bool (sameP a l b m)) ∧ Below w.heap.size w w' := by
  obtain ⟨W0, hW0⟩ : ∃ W0, W0 = (w.alloc (.cells (bc a v) 26)).alloc (.cells (bc b u) 26) := ⟨_, rfl⟩
  have HW := Lib.hid hW0
  have HBX : Hid (∀ w1, Below W0.heap.size W0 w1 → w1.heap[w.heap.size]? = some (.cells (bc a v) 26 (0, 0)) ∧ w1.heap[w.heap.size + 1]? = some (.cells (bc b u) 26 (0, 0)) ∧ RdK w1 v l ∧ RdK w1 u m ∧ Below w.heap.size w w1) := Lib.hid (by
    intro w1 h
    rw [hW0] at h
    have h2 := below2 _ _ _ h
    exact ⟨by rw [h.block _ (by simp; omega)]; exact two_0 _ _ _, by rw [h.block _ (by simp)]; exact two_1 _ _ _, hv.on h2, hu.on h2, h2⟩)
  have HA := Lib.hid ha
  have HB := Lib.hid hb
  obtain ⟨va, vc, rfl, _, _, _⟩ := hv
  obtain ⟨ua, uc, rfl, _, _, _⟩ := hu
  have hd : sameP a l b m = ((headP a == headP b) && decide (l = m)) := rfl
  have HEQ := Lib.hid (str_beq (headP a) (headP b))
  have HCA := Lib.hid (fun (u : Value) (w : World) => header_c a u w ha)
  have HCB := Lib.hid (fun (u : Value) (w : World) => header_c b u w hb)
  have HCE := Lib.hid (fun (v u : Value) (w : World) (h1 : RdK w v l) (h2 : RdK w u m) => equal_k v u l m w h1 h2)
  rw [hd]
  generalize hpa : headP a = pa at HEQ HCA ⊢
  generalize hpb : headP b = pb at HEQ HCB ⊢
  generalize hlm : decide (l = m) = lm at HCE ⊢
  clear hd hW0 hpa hpb ha hb hlm
  cases hr : (pa == pb) with
  | true =>
    rw [hr] at HEQ
    go_enter Tryz.func15, Tryz.ntmps15
    go_upto_region 1 with fail
    rw [← HW.out]
    refine region_rel 12 [[], [0], [], [2], [1, 3], [4], [5], [5, 6], [5], [5, 8], [5, 7, 9], [5, 10]]
      (SP.of [.eq (.agg (bc a (.slice va l.length vc))), .eq (.string ⟨pa.toArray⟩), .eq (.agg (bc b (.slice ua m.length uc))), .eq (.string ⟨pb.toArray⟩), .eq (.bool true), .eq (.bool true), .eq (.pointer (some ⟨w.heap.size, 37, none⟩)), .eq (.slice va l.length vc), .eq (.pointer (some ⟨w.heap.size + 1, 37, none⟩)), .eq (.slice ua m.length uc), .eq (.bool lm), .eq (.bool lm)]) (fun _ => undef) ?q1 ?q2 ?q3 ?q4 ?q5 ?q6
    case q1 => kernel_rfl
    case q2 => kernel_rfl
    case q3 => kernel_rfl
    case q4 =>
      simp only [List.take_succ_cons, List.take_zero]
      repeat (first | exact trivial | refine ⟨fun vals v => by kernel_rfl, ?_⟩)
    case q5 =>
      simp only [List.take_succ_cons, List.take_zero]
      refine ⟨?_, ?_, ?_, ?_, ?_, ?_, ?_, ?_, ?_, ?_, ?_, ?_, trivial⟩
      all_goals (intro wq hbq vals; simp only [Nat.reduceAdd, Nat.zero_add, List.getD_cons_succ, List.getD_cons_zero]; repeat (first | refine given_nil ?_ | refine given_eq rfl ?_); obtain ⟨r1, r2, r3, r4, r5⟩ := HBX.out _ hbq; have R1 := Lib.hid r1; have R2 := Lib.hid r2; have R3 := Lib.hid r3; have R4 := Lib.hid r4; clear r1 r2 r3 r4 r5 hbq; intro Q hQ; simp only [putAll, upd, Act.put, List.setIfInBounds_toArray, List.set_cons_zero, List.set_cons_succ, Nat.reduceAdd, Nat.zero_add, Nat.reduceEqDiff, if_true, if_false, reduceIte])
      case refine_1 =>
        go_wp2_with (refine ld_bk a _ rfl (.tmp 2) rfl _ rfl _ R1.out ?_)
        exact relEnd_fin hQ _ (by kernel_rfl) (Below.refl _ _) rfl
      case refine_2 =>
        go_wp2_with (go_at_call 16; refine (HCA.out _ _).mono ?_; rintro e x1 ⟨rfl, hx1⟩)
        exact relEnd_fin hQ _ (by kernel_rfl) hx1 rfl
      case refine_3 =>
        go_wp2_with (refine ld_bk b _ rfl (.tmp 3) rfl _ rfl _ R2.out ?_)
        exact relEnd_fin hQ _ (by kernel_rfl) (Below.refl _ _) rfl
      case refine_4 =>
        go_wp2_with (go_at_call 16; refine (HCB.out _ _).mono ?_; rintro e x1 ⟨rfl, hx1⟩)
        exact relEnd_fin hQ _ (by kernel_rfl) hx1 rfl
      case refine_5 =>
        have heq := HEQ.out
        go_wp2
        exact relEnd_fin hQ _ (by kernel_rfl) (Below.refl _ _) rfl
      case refine_8 =>
        have c : wq.cell? ⟨w.heap.size, 37, none⟩ = some (.slice va l.length vc) := by rw [cell_of_row _ _ _ _ _ _ R1.out]; exact bc_37 _ _
        go_wp2
        exact relEnd_fin hQ _ (by kernel_rfl) (Below.refl _ _) rfl
      case refine_10 =>
        have c : wq.cell? ⟨w.heap.size + 1, 37, none⟩ = some (.slice ua m.length uc) := by rw [cell_of_row _ _ _ _ _ _ R2.out]; exact bc_37 _ _
        go_wp2
        exact relEnd_fin hQ _ (by kernel_rfl) (Below.refl _ _) rfl
      case refine_11 =>
        go_wp2_with (go_at_call 39; refine (HCE.out _ _ _ R3.out R4.out).mono ?_; rintro e x1 ⟨rfl, hx1⟩)
        exact relEnd_fin hQ _ (by kernel_rfl) hx1 rfl
      all_goals go_wp2
      all_goals exact relEnd_fin hQ _ (by kernel_rfl) (Below.refl _ _) rfl
    case q6 =>
      intro w4 hb4 vals
      rw [show List.range 12 = [0, 1, 2, 3, 4, 5, 6, 7, 8, 9, 10, 11] from by decide]
      repeat (first | refine given_nil ?_ | refine given_eq rfl ?_)
      simp only [List.take_succ_cons, List.take_zero, List.drop_succ_cons, List.drop_zero]
      simp only [putAll, upd, Act.put, List.setIfInBounds_toArray, List.set_cons_zero, List.set_cons_succ, Nat.reduceAdd, Nat.zero_add, Nat.reduceEqDiff, if_true, if_false, reduceIte]
      have HX4 := Lib.hid (HBX.out _ hb4).2.2.2.2
      clear hb4
      go_wp2
      go_ret
      exact ⟨by simp, HX4.out⟩
  | false =>
    rw [hr] at HEQ
    go_enter Tryz.func15, Tryz.ntmps15
    go_upto_region 1 with fail
    rw [← HW.out]
    refine region_rel 12 [[], [0], [], [2], [1, 3], [4], [5], [5], [5], [5], [5], [5]]
      (SP.of [.eq (.agg (bc a (.slice va l.length vc))), .eq (.string ⟨pa.toArray⟩), .eq (.agg (bc b (.slice ua m.length uc))), .eq (.string ⟨pb.toArray⟩), .eq (.bool false), .eq (.bool false), .any, .any, .any, .any, .any, .eq (.bool false)]) (fun _ => undef) ?q1 ?q2 ?q3 ?q4 ?q5 ?q6
    case q1 => kernel_rfl
    case q2 => kernel_rfl
    case q3 => kernel_rfl
    case q4 =>
      simp only [List.take_succ_cons, List.take_zero]
      repeat (first | exact trivial | refine ⟨fun vals v => by kernel_rfl, ?_⟩)
    case q5 =>
      simp only [List.take_succ_cons, List.take_zero]
      refine ⟨?_, ?_, ?_, ?_, ?_, ?_, ?_, ?_, ?_, ?_, ?_, ?_, trivial⟩
      all_goals (intro wq hbq vals; simp only [Nat.reduceAdd, Nat.zero_add, List.getD_cons_succ, List.getD_cons_zero]; repeat (first | refine given_nil ?_ | refine given_eq rfl ?_); obtain ⟨r1, r2, r3, r4, r5⟩ := HBX.out _ hbq; have R1 := Lib.hid r1; have R2 := Lib.hid r2; clear r1 r2 r3 r4 r5 hbq; intro Q hQ; simp only [putAll, upd, Act.put, List.setIfInBounds_toArray, List.set_cons_zero, List.set_cons_succ, Nat.reduceAdd, Nat.zero_add, Nat.reduceEqDiff, if_true, if_false, reduceIte])
      case refine_1 =>
        go_wp2_with (refine ld_bk a _ rfl (.tmp 2) rfl _ rfl _ R1.out ?_)
        exact relEnd_fin hQ _ (by kernel_rfl) (Below.refl _ _) rfl
      case refine_2 =>
        go_wp2_with (go_at_call 16; refine (HCA.out _ _).mono ?_; rintro e x1 ⟨rfl, hx1⟩)
        exact relEnd_fin hQ _ (by kernel_rfl) hx1 rfl
      case refine_3 =>
        go_wp2_with (refine ld_bk b _ rfl (.tmp 3) rfl _ rfl _ R2.out ?_)
        exact relEnd_fin hQ _ (by kernel_rfl) (Below.refl _ _) rfl
      case refine_4 =>
        go_wp2_with (go_at_call 16; refine (HCB.out _ _).mono ?_; rintro e x1 ⟨rfl, hx1⟩)
        exact relEnd_fin hQ _ (by kernel_rfl) hx1 rfl
      case refine_5 =>
        have heq := HEQ.out
        go_wp2
        exact relEnd_fin hQ _ (by kernel_rfl) (Below.refl _ _) rfl
      case refine_6 =>
        go_wp2
        exact relEnd_fin hQ _ (by kernel_rfl) (Below.refl _ _) rfl
      case refine_12 =>
        go_wp2
        exact relEnd_fin hQ _ (by kernel_rfl) (Below.refl _ _) rfl
      all_goals go_wp2
      case refine_7 => exact relEnd_fin hQ undef (by kernel_rfl) (Below.refl _ _) trivial
      case refine_8 => exact relEnd_fin hQ undef (by kernel_rfl) (Below.refl _ _) trivial
      case refine_9 => exact relEnd_fin hQ undef (by kernel_rfl) (Below.refl _ _) trivial
      case refine_10 => exact relEnd_fin hQ undef (by kernel_rfl) (Below.refl _ _) trivial
      case refine_11 => exact relEnd_fin hQ undef (by kernel_rfl) (Below.refl _ _) trivial
    case q6 =>
      intro w4 hb4 vals
      rw [show List.range 12 = [0, 1, 2, 3, 4, 5, 6, 7, 8, 9, 10, 11] from by decide]
      repeat (first | refine given_nil ?_ | refine given_eq rfl ?_ | (refine given_pred rfl ?_; intro _ _))
      simp only [List.take_succ_cons, List.take_zero, List.drop_succ_cons, List.drop_zero]
      simp only [putAll, upd, Act.put, List.setIfInBounds_toArray, List.set_cons_zero, List.set_cons_succ, Nat.reduceAdd, Nat.zero_add, Nat.reduceEqDiff, if_true, if_false, reduceIte]
      have HX4 := Lib.hid (HBX.out _ hb4).2.2.2.2
      clear hb4
      go_wp2
      go_ret
      exact ⟨by simp, HX4.out⟩
end Go.Proofs.YtbpjdfnnlmblaaaGreatDoor
/- Peek. -/
namespace Go.Proofs.YtbpjdfnnlmblaaaGreatDoor
open Go.RowKit Go.Shelf
set_option linter.unusedSimpArgs false
set_option linter.unusedVariables false
/-- what Peek answers -/
def pkB (blob : List UInt8) : BK := if blE blob = 0 then blB blob else zB
attribute [local irreducible] Calls rc drow validB
set_option maxRecDepth 100000 in
set_option maxHeartbeats 4000000 in
theorem peekf_c (blob : List UInt8) (w : World) (hl : blob.length ≤ 800000) :
    Calls Tryz.prog 20 #[.string ⟨blob.toArray⟩] w fun en w' => en = .returned (.tuple #[.agg (bc (pkB blob) nilS), .int .i64 (blE blob)]) ∧ Below w.heap.size w w' := by
  have hz := zero_bk
  have HL := Lib.hid hl
  obtain ⟨W0, hW0⟩ : ∃ W0, W0 = w.alloc (.cells (bc zB (.slice none 0 0)) 26) := ⟨_, rfl⟩
  have HW := Lib.hid hW0
  have HB0 : Hid (Below w.heap.size w W0) := Lib.hid (by rw [hW0]; exact (Below.refl _ _).alloc (Nat.le_refl _) _)
  have HK0 : Hid (W0.heap[w.heap.size]? = some (.cells (bc zB nilS) 26 (0, 0))) := Lib.hid (by rw [hW0]; exact heap_last _ _ _ rfl)
  have hcv := conv_sb W0 blob
  have HSB := Lib.hid (sb_below W0 blob)
  have HSR := Lib.hid (sb_rd W0 blob (by unfold maxLen; omega))
  generalize Lib.bytesWorld W0 5 ⟨blob.toArray⟩ = ws at hcv HSB HSR
  clear hl hW0
  go_enter Tryz.func20, Tryz.ntmps20
  go_upto_region 1 with fail
  rw [← HW.out]
  go_upto_region 2 with fail
  have HX1 : Hid (RV (ws.alloc (.cells #[.slice (some ⟨W0.heap.size, 0, none⟩) blob.length (grownCap W0 blob.length 0 5), .int .i64 0, .string ⟨#[]⟩] 68)) ws.heap.size 68 (some []) (.slice (some ⟨W0.heap.size, 0, none⟩) blob.length (grownCap W0 blob.length 0 5)) 0) := Lib.hid (by unfold RV; rw [rc_some]; exact heap_last _ _ _ rfl)
  have HA1 := Lib.hid ((Below.refl ws.heap.size ws).alloc (Nat.le_refl _) (.cells #[.slice (some ⟨W0.heap.size, 0, none⟩) blob.length (grownCap W0 blob.length 0 5), .int .i64 0, .string ⟨#[]⟩] 68))
  have HGX : Hid (w.heap.size < ws.heap.size) := Lib.hid (Nat.lt_of_lt_of_le (Array.getElem?_eq_some_iff.1 HK0.out).1 HSB.out.size)
  generalize ws.alloc (.cells #[.slice (some ⟨W0.heap.size, 0, none⟩) blob.length (grownCap W0 blob.length 0 5), .int .i64 0, .string ⟨#[]⟩] 68) = w1 at HX1 HA1 ⊢
  generalize hvb : (Value.slice (some ⟨W0.heap.size, 0, none⟩) blob.length (grownCap W0 blob.length 0 5)) = vb at HX1 HSR
  have HB1 : Hid (Below W0.heap.size W0 w1) := Lib.hid (HSB.out.trans (HA1.out.mono HSB.out.size))
  have HK1 : Hid (w1.heap[w.heap.size]? = some (.cells (bc zB nilS) 26 (0, 0))) := Lib.hid (by rw [HB1.out.block _ (Array.getElem?_eq_some_iff.1 HK0.out).1]; exact HK0.out)
  have HRB := Lib.hid (HSR.out.on HA1.out)
  generalize hgx : ws.heap.size = g at HX1 HGX
  clear hcv hgx hvb
  have HG1 := Lib.hid HX1.out.lt
  have C4 := Lib.hid (peek_c g [] blob vb w1 HX1.out HRB.out (by have := HL.out; omega))
  have EPB : Hid (pkB blob = if blE blob = 0 then blB blob else zB) := Lib.hid rfl
  have hbB : hdB (rdV [] decS blob 0) (rdX decS blob 0) = blB blob := rfl
  have hbE : hdX (rdV [] decS blob 0) (rdX decS blob 0) = blE blob := rfl
  rw [hbB, hbE] at C4
  clear hbB hbE
  generalize hbb : blB blob = b at C4 EPB
  generalize hee : blE blob = ee at C4 EPB
  have HEE := Lib.hid hee
  generalize rdV [] decS blob 0 = hdr at C4
  generalize rdR decS blob 0 = rr at C4
  clear hbb hee
  go_upto_if 18 with (first
    | (go_at_call 47; refine C4.out.mono ?_; rintro en w2 ⟨v2, rfl, hr2, hp2, hg2⟩; have HX2 := Lib.hid hr2; have HG12 := Lib.hid hg2; clear hr2 hp2 hg2)
    | (refine st_new (bc b nilS) 26 rfl (.tmp 5) (.tmp 12) rfl _ rfl rfl rfl (by rw [bc_size]; exact info_b) (by rw [bc_size, bc_size]) (bcone _ _ _ _) ?_; have c29 : (w2.alloc (.cells (bc b nilS) 26)).cell? ⟨g, 1, none⟩ = some (.int .i64 ee) := (by rw [cell_of_row _ _ _ _ _ _ (HX2.out.on ((Below.refl _ _).alloc (Nat.le_refl _) _))]; exact rc_1 _ ee (some hdr))))
  have HA2 := Lib.hid ((Below.refl w2.heap.size w2).alloc (Nat.le_refl _) (.cells (bc b nilS) 26))
  have HX3 := Lib.hid (HX2.out.on HA2.out)
  have HBK3 : Hid ((w2.alloc (.cells (bc b nilS) 26)).heap[w2.heap.size]? = some (.cells (bc b nilS) 26 (0, 0))) := Lib.hid (heap_last _ _ _ rfl)
  have HK2 := Lib.hid (row_by HK1.out HG12.out (by have := HGX.out; omega))
  have HK3 : Hid ((w2.alloc (.cells (bc b nilS) 26)).heap[w.heap.size]? = some (.cells (bc zB nilS) 26 (0, 0))) := Lib.hid (by rw [HA2.out.block _ (Array.getElem?_eq_some_iff.1 HK2.out).1]; exact HK2.out)
  have HBW : Hid (Below w.heap.size w (w2.alloc (.cells (bc b nilS) 26))) := Lib.hid (by
    have q1 := HB0.out.trans (HB1.out.mono HB0.out.size)
    have q2 := q1.trans (below_grown HG12.out (Nat.le_of_lt HGX.out) HG1.out)
    exact q2.trans (HA2.out.mono q2.size))
  generalize w2.alloc (.cells (bc b nilS) 26) = w3 at HX3 HBK3 HK3 HBW c29 ⊢
  generalize hgb : w2.heap.size = gb at HBK3
  clear hgb c29 HA2 HK2
  have HGW : Hid (w.heap.size < g) := HGX
  by_cases he : ee = 0
  · subst he
    have EO2 : Hid (pkB blob = b) := Lib.hid (by rw [EPB.out, if_pos rfl])
    have k3 := run_stcells w3 w.heap.size b zB (.slice none 0 0) none 0 0 HK3.out
    go_wp2_with (refine ld_bk b (.slice none 0 0) rfl (.tmp 5) rfl gb rfl _ HBK3.out ?_)
    refine bodyPost_ret (results_row2 rfl _ _ w.heap.size _ rfl (run_bkrow _ _ b nilS _ (setRow_heap _ _ _ _ _ _ HK3.out))) rfl ?_
    exact ⟨by rw [EO2.out, HEE.out]; rfl, HBW.out.trans (below_row (Nat.le_refl _))⟩
  · have i2 : (ee != 0) = true := by simpa using he
    have EO2 : Hid (pkB blob = zB) := Lib.hid (by rw [EPB.out, if_neg he])
    clear he
    go_wp2
    have k1 : w3.drew.cell? ⟨g, 1, none⟩ = some (.int .i64 ee) := by rw [cell_of_row _ _ _ _ _ _ (show w3.drew.heap[g]? = _ from HX3.out)]; exact rc_1 _ ee _
    have k2 : (w3.drew.setRow w.heap.size (bc zB (.slice none 0 0))).cell? ⟨g, 1, none⟩ = some (.int .i64 ee) := by rw [cell_of_row _ _ _ _ _ _ (show (w3.drew.setRow w.heap.size (bc zB (.slice none 0 0))).heap[g]? = _ from (setRow_else _ _ _ _ (by have := HGW.out; omega)).trans HX3.out)]; exact rc_1 _ ee _
    have k3 := run_stcells w3.drew w.heap.size zB zB (.slice none 0 0) none 0 0 HK3.out
    go_region
    all_goals go_wp2
    all_goals (refine bodyPost_ret (results_row2 rfl _ _ w.heap.size _ rfl (run_bkrow _ _ zB nilS _ (setRow_heap _ _ _ _ _ _ HK3.out))) rfl ?_)
    all_goals (exact ⟨by rw [EO2.out, HEE.out]; rfl, HBW.out.drew.trans (below_row (Nat.le_refl _))⟩)
end Go.Proofs.YtbpjdfnnlmblaaaGreatDoor
/- What holds after a plan. -/
namespace Go.Proofs.YtbpjdfnnlmblaaaGreatDoor
open Go.RowKit
set_option linter.unusedSimpArgs false
set_option linter.unusedVariables false
theorem plRun_err {now : Int} (l : List K) : ∀ (s : PS) (c : Int), plRun now s l = .error c → c ≠ 0 := by
  induction l with
  | nil => intro s c h; cases h
  | cons x l ih =>
    intro s c h
    rw [plRun] at h
    cases h1 : plStep now s x with
    | ok s1 => rw [h1] at h; exact ih s1 c h
    | error e =>
      rw [h1] at h
      cases h
      rcases plStep_parts now s x with ⟨_, e⟩ | ⟨_, ht, e⟩ | ⟨_, _, hne, e⟩ | ⟨_, ht, he, e⟩
      · rw [e] at h1; cases h1
      · rw [e] at h1; cases h1
      · rw [e] at h1; cases h1; exact hne
      · rw [e] at h1; cases h1
theorem planK_err {nx : Int} {tl : List K} {b : BK} {bl : List K} {now c : Int} (h : planK nx tl b bl now = .error c) : c ≠ 0 := by
  rcases planK_four nx tl b bl now with ⟨_, hr⟩ | ⟨_, _, hr⟩ | ⟨_, _, _, hr⟩ | ⟨_, _, _, hr⟩
  · rw [hr] at h; cases h; decide
  · rw [hr] at h; cases h; decide
  · rw [hr] at h; cases h; decide
  · rw [hr] at h; exact plRun_err _ _ _ h
theorem planK_ok {nx : Int} {tl : List K} {b : BK} {bl : List K} {now : Int} {s : PS} (h : planK nx tl b bl now = .ok s) : validB b bl = true ∧ 0 ≤ now ∧ now ≤ 1099511627776 ∧ plRun now ⟨nx, tl, [], []⟩ bl = .ok s := by
  rcases planK_four nx tl b bl now with ⟨_, hr⟩ | ⟨_, _, hr⟩ | ⟨_, _, _, hr⟩ | ⟨h1, h2, h3, hr⟩
  · rw [hr] at h; cases h
  · rw [hr] at h; cases h
  · rw [hr] at h; cases h
  · rw [hr] at h; exact ⟨h1, by omega, by omega, h⟩
theorem planK_good {nx : Int} {tl : List K} {b : BK} {bl : List K} {now : Int} {s : PS} (ht : validTab nx tl = true) (h : planK nx tl b bl now = .ok s) : Good nx tl bl now s :=
  (Good.start nx tl bl now ht).run bl (fun x hx => hx) (planK_ok h).2.2.2
theorem planK_len {nx : Int} {tl : List K} {b : BK} {bl : List K} {now : Int} {s : PS} (h : planK nx tl b bl now = .ok s) : s.ks.length ≤ tl.length + bl.length := (plRun_len _ _ _ (planK_ok h).2.2.2).2.2
theorem planK_holds {nx : Int} {tl : List K} {b : BK} {bl : List K} {now : Int} {s : PS} (h : planK nx tl b bl now = .ok s) (later : Int) (hl : now ≤ later) : holdsK s.ks bl later = true := by
  rw [holdsK_iff]
  intro x hx hf
  exact plRun_twin bl _ _ (planK_ok h).2.2.2 x hx (by omega)
theorem planK_again {nx : Int} {tl : List K} {b : BK} {bl : List K} {now : Int} {s : PS} (h : planK nx tl b bl now = .ok s) (later : Int) (hl : now ≤ later) (hm : later ≤ 1099511627776) :
    ∃ s', planK s.nx s.ks b bl later = .ok s' ∧ s'.nx = s.nx ∧ s'.ks = s.ks ∧ s'.ids = [] := by
  obtain ⟨h1, h2, h3, h4⟩ := planK_ok h
  obtain ⟨s', e1, e2, e3, e4⟩ := plRun_again (now := later) bl ⟨s.nx, s.ks, [], []⟩ (fun x hx hf => plRun_twin bl _ _ h4 x hx (by omega))
  exact ⟨s', by unfold planK; rw [if_pos ⟨h1, by omega, hm⟩]; exact e1, e2, e3, e4⟩
theorem planT_ok_out {w w' : World} {s : PS} {e : Ending} (h : PlanT w (.ok s) e w') : ∃ a c a2 c2, e = .returned (.tuple #[.agg #[.int .i64 s.nx, .slice a s.ks.length c], .slice a2 s.ids.length c2, .int .i64 0]) ∧
    RdK w' (.slice a s.ks.length c) s.ks ∧ RdI w' (.slice a2 s.ids.length c2) s.ids ∧ Below w.heap.size w w' := planT_out h
theorem planT_no_out {w w' : World} {c : Int} {e : Ending} (h : PlanT w (.error c) e w') : e = .returned (.tuple #[.agg #[.int .i64 0, .slice none 0 0], .slice none 0 0, .int .i64 c]) ∧ Below w.heap.size w w' := ⟨h.2, h.1⟩
/-- keys that are read lie in no block of fewer than nine cells -/
theorem RdK.setSmall {w : World} {v : Value} {l : List K} {g i : Nat} {x : Value} {cs : Array Value} {T : TypeId} {fr : Nat × Nat} (h : RdK w v l) (hg : w.heap[g]? = some (.cells cs T fr)) (hs : cs.size < 9) : RdK (w.setCell ⟨g, i, none⟩ x) v l := by
  obtain ⟨a, cap, rfl, h1, h2, h3⟩ := h
  refine ⟨a, cap, rfl, h1, h2, fun h0 => ?_⟩
  obtain ⟨b, off, rfl, hlt, hc⟩ := h3 h0
  refine ⟨b, off, rfl, by rw [setCell_size]; exact hlt, fun j hj k hk => ?_⟩
  have hne : g ≠ b := by
    intro e
    subst e
    have h8 := hc 0 h0 8 (by omega)
    rw [cell_of_row _ _ _ _ _ _ hg] at h8
    rw [Array.getElem?_eq_none (by omega)] at h8
    cases h8
  rw [World.cell?_of_block (a := ⟨b, off + j * 9 + k, none⟩) (setCell_block hne)]
  exact hc j hj k hk
theorem tab_set {w : World} {g : Nat} {n n' : Int} {v v' : Value} (h : w.heap[g]? = some (.cells #[.int .i64 n, v] 28 (0, 0))) :
    ((w.setCell ⟨g, 0, none⟩ (.int .i64 n')).setCell ⟨g, 1, none⟩ v').heap[g]? = some (.cells #[.int .i64 n', v'] 28 (0, 0)) := by
  have h1 := setRow_heap w g _ (#[Value.int .i64 n, v].setIfInBounds 0 (.int .i64 n')) _ _ h
  rw [← setCell_rowK _ _ _ _ _ _ _ h] at h1
  have h2 := setRow_heap _ g _ ((#[Value.int .i64 n, v].setIfInBounds 0 (.int .i64 n')).setIfInBounds 1 v') _ _ h1
  rw [← setCell_rowK _ _ _ _ _ _ _ h1] at h2
  exact h2
theorem RdK.setTab {w : World} {v : Value} {l : List K} {g : Nat} {n n' : Int} {u u' : Value} (h : RdK w v l) (hg : w.heap[g]? = some (.cells #[.int .i64 n, u] 28 (0, 0))) : RdK ((w.setCell ⟨g, 0, none⟩ (.int .i64 n')).setCell ⟨g, 1, none⟩ u') v l := by
  have h1 := setRow_heap w g _ (#[Value.int .i64 n, u].setIfInBounds 0 (.int .i64 n')) _ _ hg
  rw [← setCell_rowK _ _ _ _ _ _ _ hg] at h1
  exact (h.setSmall hg (by show 2 < 9; decide)).setSmall h1 (by show 2 < 9; decide)
end Go.Proofs.YtbpjdfnnlmblaaaGreatDoor
/- What RestoreNarrow leans on: equality of keys, what its inner loops find. -/
namespace Go.Proofs.YtbpjdfnnlmblaaaGreatDoor
open Go.RowKit
set_option linter.unusedSimpArgs false
set_option linter.unusedVariables false
theorem eql_kr (a b : K) (w : World) : (binOp .eql 45 (.agg (kc a)) (.agg (kc b))).run Tryz.prog w = .ok (.bool (kEq a b)) w := by
  rw [run_eql_struct]
  have ht : Tryz.prog.underlying 45 = some (.struct (Tryz.prog.fieldsOf 45)) := by kernel_rfl
  have hp : Tryz.prog.stoodInHeld 45 = false := by kernel_rfl
  rw [show (10000 : Nat) = 9999 + 1 from rfl, run_equalIn_struct w 9999 _ _ _ ht hp]
  have hf := fields_k
  generalize (Tryz.prog.fieldsOf 45).toList = fs at hf
  rcases fs with _ | ⟨f0, _ | ⟨f1, _ | ⟨f2, _ | ⟨f3, _ | ⟨f4, _ | ⟨f5, _ | ⟨f6, _ | ⟨f7, _ | ⟨f8, _ | ⟨f9, fs⟩⟩⟩⟩⟩⟩⟩⟩⟩⟩
  case cons.cons.cons.cons.cons.cons.cons.cons.cons.nil =>
    simp only [List.map_cons, List.map_nil, List.cons.injEq, Prod.mk.injEq, and_true] at hf
    obtain ⟨⟨n0, t0, o0⟩, ⟨n1, t1, o1⟩, ⟨n2, t2, o2⟩, ⟨n3, t3, o3⟩, ⟨n4, t4, o4⟩, ⟨n5, t5, o5⟩, ⟨n6, t6, o6⟩, ⟨n7, t7, o7⟩, ⟨n8, t8, o8⟩⟩ := hf
    have m0 : f0.name ≠ "_" := by simpa using n0
    have m1 : f1.name ≠ "_" := by simpa using n1
    have m2 : f2.name ≠ "_" := by simpa using n2
    have m3 : f3.name ≠ "_" := by simpa using n3
    have m4 : f4.name ≠ "_" := by simpa using n4
    have m5 : f5.name ≠ "_" := by simpa using n5
    have m6 : f6.name ≠ "_" := by simpa using n6
    have m7 : f7.name ≠ "_" := by simpa using n7
    have m8 : f8.name ≠ "_" := by simpa using n8
    have e0 : (Op.equalIn 9999 3 (.int .i64 a.id) (.int .i64 b.id)).run Tryz.prog w = .ok (a.id == b.id) w := run_equalIn_int w 9998 _ _ _ _ _ Tryz.underlying3
    have e1 : (Op.equalIn 9999 3 (.int .i64 a.ty) (.int .i64 b.ty)).run Tryz.prog w = .ok (a.ty == b.ty) w := run_equalIn_int w 9998 _ _ _ _ _ Tryz.underlying3
    have e2 : (Op.equalIn 9999 9 (.string ⟨a.val.toArray⟩) (.string ⟨b.val.toArray⟩)).run Tryz.prog w = .ok (a.val == b.val) w := by rw [run_equalIn_string w 9998 _ _ _ Tryz.underlying9, str_beq]
    have e3 : (Op.equalIn 9999 3 (.int .i64 a.uses) (.int .i64 b.uses)).run Tryz.prog w = .ok (a.uses == b.uses) w := run_equalIn_int w 9998 _ _ _ _ _ Tryz.underlying3
    have e4 : (Op.equalIn 9999 3 (.int .i64 a.start) (.int .i64 b.start)).run Tryz.prog w = .ok (a.start == b.start) w := run_equalIn_int w 9998 _ _ _ _ _ Tryz.underlying3
    have e5 : (Op.equalIn 9999 3 (.int .i64 a.fin) (.int .i64 b.fin)).run Tryz.prog w = .ok (a.fin == b.fin) w := run_equalIn_int w 9998 _ _ _ _ _ Tryz.underlying3
    have e6 : (Op.equalIn 9999 3 (.int .i64 a.ver) (.int .i64 b.ver)).run Tryz.prog w = .ok (a.ver == b.ver) w := run_equalIn_int w 9998 _ _ _ _ _ Tryz.underlying3
    have e7 : (Op.equalIn 9999 3 (.int .i64 a.par) (.int .i64 b.par)).run Tryz.prog w = .ok (a.par == b.par) w := run_equalIn_int w 9998 _ _ _ _ _ Tryz.underlying3
    have e8 : (Op.equalIn 9999 4 (.bool a.raw) (.bool b.raw)).run Tryz.prog w = .ok (a.raw == b.raw) w := run_equalIn_bool w 9998 _ _ _ Tryz.underlying4
    rw [eqf_step 9999 _ _ f0 _ m0 w (.int .i64 a.id) (.int .i64 b.id) (a.id == b.id) (by rw [t0, o0]; simp [part, ag_i, kc]) (by rw [t0, o0]; simp [part, ag_i, kc]) (by rw [t0]; exact e0),
      eqf_step 9999 _ _ f1 _ m1 w (.int .i64 a.ty) (.int .i64 b.ty) (a.ty == b.ty) (by rw [t1, o1]; simp [part, ag_i, kc]) (by rw [t1, o1]; simp [part, ag_i, kc]) (by rw [t1]; exact e1),
      eqf_step 9999 _ _ f2 _ m2 w (.string ⟨a.val.toArray⟩) (.string ⟨b.val.toArray⟩) (a.val == b.val) (by rw [t2, o2]; simp [part, ag_s, kc]) (by rw [t2, o2]; simp [part, ag_s, kc]) (by rw [t2]; exact e2),
      eqf_step 9999 _ _ f3 _ m3 w (.int .i64 a.uses) (.int .i64 b.uses) (a.uses == b.uses) (by rw [t3, o3]; simp [part, ag_i, kc]) (by rw [t3, o3]; simp [part, ag_i, kc]) (by rw [t3]; exact e3),
      eqf_step 9999 _ _ f4 _ m4 w (.int .i64 a.start) (.int .i64 b.start) (a.start == b.start) (by rw [t4, o4]; simp [part, ag_i, kc]) (by rw [t4, o4]; simp [part, ag_i, kc]) (by rw [t4]; exact e4),
      eqf_step 9999 _ _ f5 _ m5 w (.int .i64 a.fin) (.int .i64 b.fin) (a.fin == b.fin) (by rw [t5, o5]; simp [part, ag_i, kc]) (by rw [t5, o5]; simp [part, ag_i, kc]) (by rw [t5]; exact e5),
      eqf_step 9999 _ _ f6 _ m6 w (.int .i64 a.ver) (.int .i64 b.ver) (a.ver == b.ver) (by rw [t6, o6]; simp [part, ag_i, kc]) (by rw [t6, o6]; simp [part, ag_i, kc]) (by rw [t6]; exact e6),
      eqf_step 9999 _ _ f7 _ m7 w (.int .i64 a.par) (.int .i64 b.par) (a.par == b.par) (by rw [t7, o7]; simp [part, ag_i, kc]) (by rw [t7, o7]; simp [part, ag_i, kc]) (by rw [t7]; exact e7),
      eqf_step 9999 _ _ f8 _ m8 w (.bool a.raw) (.bool b.raw) (a.raw == b.raw) (by rw [t8, o8]; simp [part, ag_b, kc]) (by rw [t8, o8]; simp [part, ag_b, kc]) (by rw [t8]; exact e8)]
    unfold kEq
    cases (a.id == b.id)
    · rfl
    cases (a.ty == b.ty)
    · rfl
    cases (a.val == b.val)
    · rfl
    cases (a.uses == b.uses)
    · rfl
    cases (a.start == b.start)
    · rfl
    cases (a.fin == b.fin)
    · rfl
    cases (a.ver == b.ver)
    · rfl
    cases (a.par == b.par)
    · rfl
    cases (a.raw == b.raw)
    · rfl
    rfl
  all_goals simp at hf
/-- a key of the backup is x but for Id and Parent, among the first m -/
def fnd (bl : List K) (x : K) (m : Nat) : Bool := (bl.take m).any fun y => kEq x (withPar (withId y x.id) x.par)
theorem fnd_zero (bl : List K) (x : K) : fnd bl x 0 = false := by unfold fnd; rw [List.take_zero]; rfl
theorem fnd_succ (bl : List K) (x : K) (m : Nat) (h : m < bl.length) : fnd bl x (m + 1) = (fnd bl x m || kEq x (withPar (withId (keyAt bl m) x.id) x.par)) := by
  unfold fnd
  rw [take_keyAt bl m h, List.any_append, List.any_cons, List.any_nil, Bool.or_false]
theorem fnd_all (bl : List K) (x : K) (h : ∃ y ∈ bl, x = withPar (withId y x.id) x.par) : fnd bl x bl.length = true := by
  unfold fnd
  rw [List.take_length, List.any_eq_true]
  obtain ⟨y, hy, e⟩ := h
  refine ⟨y, hy, ?_⟩
  rw [kEq_eq, ← e]
  exact decide_eq_true rfl
/-- x has no parent, or one among the first m -/
def ear (l : List K) (x : K) (m : Nat) : Bool := (x.par == 0) || (l.take m).any fun y => y.id == x.par
theorem ear_zero (l : List K) (x : K) : ear l x 0 = (x.par == 0) := by unfold ear; rw [List.take_zero]; simp
theorem ear_succ (l : List K) (x : K) (m : Nat) (h : m < l.length) : ear l x (m + 1) = (ear l x m || ((keyAt l m).id == x.par)) := by
  unfold ear
  rw [take_keyAt l m h, List.any_append, List.any_cons, List.any_nil, Bool.or_false, Bool.or_assoc]
theorem ear_all (l : List K) (x : K) (m : Nat) (hm : m ≤ l.length) (h : x.par = 0 ∨ ∃ i, i < m ∧ (keyAt l i).id = x.par) : ear l x m = true := by
  unfold ear
  rcases h with h | ⟨i, hi, h⟩
  · rw [h]; rfl
  · have : (l.take m).any (fun y => y.id == x.par) = true := by
      rw [List.any_eq_true]
      refine ⟨l[i], ?_, ?_⟩
      · rw [List.mem_take_iff_getElem]
        exact ⟨i, by omega, rfl⟩
      · rw [← keyAt_eq l i (by omega), h]; simp
    rw [this, Bool.or_true]
/-- the j-th new key -/
structure NewAt (n0 : Int) (a0 bl : List K) (now : Int) (s : PS) (j : Nat) : Prop where
  id : intAt s.ids j = n0 + j
  kid : (keyAt s.ks (a0.length + j)).id = n0 + j
  fin : now < (keyAt s.ks (a0.length + j)).fin
  fnd : fnd bl (keyAt s.ks (a0.length + j)) bl.length = true
  ear : ear s.ks (keyAt s.ks (a0.length + j)) (a0.length + j) = true
theorem newAt {n0 : Int} {a0 bl : List K} {now : Int} {s : PS} (h : Good n0 a0 bl now s) (j : Nat) (hj : j < s.ids.length) : NewAt n0 a0 bl now s j := by
  have hk := h.klen
  obtain ⟨new, hks, hl, hn⟩ := h.news
  obtain ⟨e1, e2, e3, e4, e5⟩ := hn j (by omega)
  have hx : keyAt s.ks (a0.length + j) = keyAt new j := by rw [hks]; exact keyAt_append_right a0 new j (by omega)
  refine ⟨?_, by rw [hx]; exact e2, by rw [hx]; exact e3, fnd_all _ _ (by rw [hx]; exact e4), ear_all _ _ _ (by omega) (by rw [hx]; exact e5)⟩
  unfold intAt
  rw [List.getD_eq_getElem?_getD, e1]
  rfl
theorem old_key {n0 : Int} {a0 bl : List K} {now : Int} {s : PS} (h : Good n0 a0 bl now s) (i : Nat) (hi : i < a0.length) : keyAt s.ks i = keyAt a0 i := by
  obtain ⟨new, hks, _, _⟩ := h.news
  rw [hks]; exact keyAt_append_left a0 new i hi
end Go.Proofs.YtbpjdfnnlmblaaaGreatDoor
/- The examples of custodylaw36: what each call of them answers. -/
namespace Go.Proofs.YtbpjdfnnlmblaaaGreatDoor
open Go.RowKit Go.Shelf
set_option linter.unusedSimpArgs false
set_option linter.unusedVariables false
/-- the parts of a blob that was made -/
theorem make_parts (dk : List UInt8) (b : BK) (l : List K) (hb : b.mach) (h : makeOk dk b l = true) :
    blH (makeP dk b l) = headP b ∧ rdR decS (makeP dk b l) 0 = sealP (deriveP dk bkL) (headP b) (contP l) ∧ blB (makeP dk b l) = b ∧ blE (makeP dk b l) = 0 := by
  have h2 : dk.length = 32 ∧ validB b l = true := by unfold makeOk at h; simpa using h
  obtain ⟨h32, hval⟩ := h2
  obtain ⟨m1, m2, m3⟩ := validB_mo hval
  obtain ⟨hl1, hl2⟩ := headP_len b (hb.wf (by omega))
  obtain ⟨a1, a2, a3⟩ := rd_enc codecS [] (headP b) (show okS (headP b) by unfold okS; omega) (sealP (deriveP dk bkL) (headP b) (contP l))
  have hH : blH (makeP dk b l) = headP b := a1
  have hR : rdR decS (makeP dk b l) 0 = sealP (deriveP dk bkL) (headP b) (contP l) := a2
  have hX : rdX decS (makeP dk b l) 0 = 0 := a3
  obtain ⟨c1, c2⟩ := hd_enc b hb (by omega)
  have hB : blB (makeP dk b l) = b := by unfold blB; rw [hH, hX, c1]
  have hE : blE (makeP dk b l) = 0 := by
    unfold blE
    rw [hH, hX, c2, validB_nil hval]
    rfl
  exact ⟨hH, hR, hB, hE⟩
/-- the length of a blob -/
theorem makeP_len (dk : List UInt8) (b : BK) (l : List K) (hb : b.mach) (h : makeOk dk b l = true) : (makeP dk b l).length ≤ 700000 := by
  have h2 : dk.length = 32 ∧ validB b l = true := by unfold makeOk at h; simpa using h
  obtain ⟨h32, hval⟩ := h2
  obtain ⟨m1, m2, m3⟩ := validB_mo hval
  obtain ⟨hl1, hl2⟩ := headP_len b (hb.wf (by omega))
  have hcl := contP_len hval
  have hsE : sealE (deriveP dk bkL) (headP b) (contP l) = 0 := by
    unfold sealE
    rw [if_pos (deriveP_len _ _), if_neg (by omega)]
  have hsX : sealX (deriveP dk bkL) (headP b) (contP l) = sealP (deriveP dk bkL) (headP b) (contP l) := by
    unfold sealX
    rw [if_pos ⟨deriveP_len _ _, by omega⟩]
  obtain ⟨_, _, o3⟩ := law_rt (deriveP dk bkL) (headP b) (contP l) hsE
  rw [hsX] at o3
  have he := encS_len (headP b)
  unfold makeP
  rw [List.length_append, o3]
  omega
/-- another key -/
theorem opE_other (ok dk : List UInt8) (b : BK) (l : List K) (hb : b.mach) (h : makeOk dk b l = true) (h32 : ok.length = 32)
    (hne : openE (deriveP ok bkL) (headP b) (sealP (deriveP dk bkL) (headP b) (contP l)) ≠ 0) :
    opE ok (makeP dk b l) = openE (deriveP ok bkL) (headP b) (sealP (deriveP dk bkL) (headP b) (contP l)) := by
  obtain ⟨p1, p2, p3, p4⟩ := make_parts dk b l hb h
  have hO : blO ok (makeP dk b l) = openE (deriveP ok bkL) (headP b) (sealP (deriveP dk bkL) (headP b) (contP l)) := by unfold blO; rw [p1, p2]
  unfold opE
  rw [if_pos h32, if_pos p4, hO, if_neg hne]
def vS (c : UInt8) : List UInt8 := List.replicate 32 c
def kS : K := ⟨3, 1, vS 118, 8, 0, 9, 2, 0, true⟩
def dS (c : UInt8) : List UInt8 := c :: List.replicate 15 0
def bS : BK := ⟨dS 1, 2, 3, 4, 5, dS 6, [109]⟩
theorem vS_len (c : UInt8) : (vS c).length = 32 := by unfold vS; simp
theorem machS : bS.mach := ⟨rfl, rfl, by intro x hx; unfold bS at hx; simp only [List.mem_cons, List.not_mem_nil, or_false] at hx; unfold okI; rcases hx with rfl | rfl | rfl | rfl <;> omega, by unfold maxLen; decide⟩
theorem numS : numK [kS] := by
  intro i hi
  match i, hi with
  | 0, _ =>
    rw [show keyAt [kS] 0 = kS from rfl]
    intro x hx
    unfold kS numsK rawI at hx
    simp only [List.mem_cons, List.not_mem_nil, or_false] at hx
    unfold okI
    rcases hx with rfl | rfl | rfl | rfl | rfl | rfl | rfl | rfl <;> first | omega | simp
theorem valS : validB bS [kS] = true := by kernel_rfl
theorem makeOkS : makeOk (vS 100) bS [kS] = true := by unfold makeOk; rw [valS, decide_eq_true (vS_len 100)]; rfl
/-- the blob of the examples -/
def sS : List UInt8 := makeP (vS 100) bS [kS]
theorem sS_x : makeX (vS 100) bS [kS] = sS := by unfold makeX; rw [if_pos makeOkS]; rfl
theorem sS_e : makeE (vS 100) bS [kS] = 0 := by unfold makeE; rw [if_pos makeOkS]
theorem sS_len : sS.length ≤ 700000 := makeP_len _ _ _ machS makeOkS
theorem sS_open : opE (vS 100) sS = 0 ∧ opB (vS 100) sS = bS ∧ opK (vS 100) sS = [kS] := rt_open _ _ _ machS numS makeOkS
theorem sS_peek : pkB sS = bS ∧ blE sS = 0 := by
  obtain ⟨_, _, p3, p4⟩ := make_parts (vS 100) bS [kS] machS makeOkS
  have h4 : blE sS = 0 := p4
  exact ⟨by unfold pkB; rw [if_pos h4]; exact p3, h4⟩
/-! the values on the way, one by one -/
def dV : List UInt8 := [230, 98, 169, 213, 72, 168, 165, 167, 111, 20, 68, 139, 62, 199, 44, 170, 151, 150, 200, 179, 186, 142, 199, 7, 202,   97, 110, 159, 70, 181, 119, 239]
def xV : List UInt8 := [162, 121, 190, 203, 98, 46, 3, 91, 99, 170, 111, 199, 237, 37, 61, 200, 92, 59, 138, 34, 116, 156, 127, 181, 63, 220,   149, 91, 46, 237, 51, 146]
def hV : List UInt8 := [1, 0, 0, 0, 0, 0, 0, 0, 0, 0, 0, 0, 0, 0, 0, 0, 129, 4, 129, 2, 129, 3, 129, 4, 129, 5, 6, 0, 0, 0, 0, 0, 0, 0, 0, 0,   0, 0, 0, 0, 0, 0, 129, 1, 109]
def tV : List UInt8 := [129, 1, 129, 54, 129, 2, 129, 16, 129, 8, 129, 3, 129, 1, 129, 8, 128, 129, 9, 129, 2, 128, 129, 1, 129, 32, 118, 118,   118, 118, 118, 118, 118, 118, 118, 118, 118, 118, 118, 118, 118, 118, 118, 118, 118, 118, 118, 118, 118, 118, 118,   118, 118, 118, 118, 118, 118, 118]
def mD : List UInt8 := [12, 217, 205, 185, 191, 255, 218, 22, 141, 194, 187, 63, 219, 83, 62, 21, 143, 84, 17, 225, 231, 131, 80, 101, 218,   212, 124, 112, 174, 218, 15, 249]
def eD : List UInt8 := [60, 101, 147, 231, 220, 45, 79, 12, 22, 99, 252, 78, 209, 26, 218, 15, 81, 59, 8, 212, 123, 196, 247, 240, 25, 187,   108, 213, 1, 190, 27, 84]
def nD : List UInt8 := [67, 148, 179, 37, 73, 103, 194, 240, 121, 228, 237, 31]
def cD : List UInt8 := [32, 38, 199, 180, 50, 200, 215, 77, 182, 176, 155, 27, 162, 3, 60, 230, 207, 186, 172, 148, 94, 196, 40, 153, 196, 52,   70, 39, 114, 141, 247, 121, 153, 168, 1, 208, 201, 0, 22, 148, 247, 141, 223, 245, 89, 123, 13, 73, 134, 2, 175, 143,   190, 56, 228, 233, 46, 249]
def gD : List UInt8 := [63, 116, 110, 131, 147, 141, 161, 34, 39, 108, 241, 161, 19, 176, 230, 120]
def mX : List UInt8 := [51, 240, 83, 143, 204, 107, 38, 237, 178, 208, 90, 216, 72, 84, 86, 207, 142, 83, 117, 246, 7, 101, 188, 13, 135, 93,   65, 47, 122, 214, 29, 186]
def gX : List UInt8 := [183, 31, 24, 178, 175, 148, 160, 146, 194, 87, 67, 88, 192, 254, 58, 115]
theorem d_val : deriveP (vS 100) bkL = dV := by decide +kernel
theorem x_val : deriveP (vS 120) bkL = xV := by decide +kernel
theorem h_val : headP bS = hV := by decide +kernel
theorem tx_val : contP [kS] = tV := by decide +kernel
theorem md_val : macK dV = mD := by decide +kernel
theorem ed_val : encK dV = eD := by decide +kernel
theorem nd_val : nonceP mD hV tV = nD := by decide +kernel
theorem cd_val : xorP eD nD tV = cD := by decide +kernel
theorem gd_val : tagP mD nD hV cD = gD := by decide +kernel
theorem mx_val : macK xV = mX := by decide +kernel
theorem gx_val : tagP mX nD hV cD = gX := by decide +kernel
theorem seal_val : sealP dV hV tV = nD ++ (cD ++ gD) := by unfold sealP; rw [md_val, nd_val, ed_val, cd_val, gd_val]
theorem sS_auth : openE (deriveP (vS 120) bkL) (headP bS) (sealP (deriveP (vS 100) bkL) (headP bS) (contP [kS])) = 8 := by
  rw [d_val, x_val, h_val, tx_val, seal_val]
  unfold openE openP
  rw [mx_val, show bN (nD ++ (cD ++ gD)) = nD by decide +kernel, show bC (nD ++ (cD ++ gD)) = cD by decide +kernel, show bT (nD ++ (cD ++ gD)) = gD by decide +kernel, gx_val]
  decide +kernel
theorem sS_other : opE (vS 120) sS = 8 := by
  have h := opE_other (vS 120) (vS 100) bS [kS] machS makeOkS (vS_len 120) (by rw [sS_auth]; decide)
  rw [sS_auth] at h
  exact h
theorem wfS : ∀ i, i < [kS].length → (keyAt [kS] i).wf := by
  intro i hi
  match i, hi with
  | 0, _ => exact ⟨by decide, by decide⟩
theorem cS5 : compB [kS] [kS] 5 = true := by kernel_rfl
theorem cE5 : compB [] [kS] 5 = false := by kernel_rfl
theorem cE9 : compB [] [kS] 9 = true := by kernel_rfl
theorem selS : selK 5 [kS] = [kS] := by kernel_rfl
theorem bS_wf : bS.wf := machS.wf (by unfold bS; decide)
theorem headS_len : (32 : Int) < ((headP bS).length : Int) := by
  have h1 : bS.dom.length = 16 := machS.dom
  have h2 : bS.pol.length = 16 := machS.pol
  have h3 := encS_pos bS.mo
  unfold headP
  rw [List.length_append, List.length_append, List.length_append]
  omega
theorem sameS1 : sameB bS [kS] bS [kS] = true := by kernel_rfl
theorem sameS2 : sameB bS [] bS [] = true := by kernel_rfl
theorem samePS1 : sameP bS [kS] bS [kS] = true := by unfold sameP; simp
theorem samePS2 : sameP bS [kS] bS [] = false := by unfold sameP; simp
/-! the examples' calls -/
theorem y_make (w : World) (u : Value) (hk : KAt w) (hu : RdK w u [kS]) : Calls Tryz.prog 8 #[.string ⟨(vS 100).toArray⟩, .agg (bc bS u)] w fun e w' => e = .returned (.tuple #[.string ⟨sS.toArray⟩, .int .i64 0]) ∧ Below w.heap.size w w' := by
  have h := make_t (vS 100) bS u [kS] w hk hu machS numS
  rw [sS_x, sS_e] at h
  exact h
theorem y_short (w : World) (u : Value) (hk : KAt w) (hu : RdK w u [kS]) : Calls Tryz.prog 8 #[.string ⟨#[115, 104, 111, 114, 116]⟩, .agg (bc bS u)] w fun e w' => e = .returned (.tuple #[.string ⟨#[]⟩, .int .i64 1]) ∧ Below w.heap.size w w' := by
  have h := make_t [115, 104, 111, 114, 116] bS u [kS] w hk hu machS numS
  have e0 : makeOk [115, 104, 111, 114, 116] bS [kS] = false := by unfold makeOk; rw [decide_eq_false (by decide)]; rfl
  have e1 : makeX [115, 104, 111, 114, 116] bS [kS] = [] := by unfold makeX; rw [e0]; rfl
  have e2 : makeE [115, 104, 111, 114, 116] bS [kS] = 1 := by unfold makeE; rw [e0]; rfl
  rw [e1, e2] at h
  exact h
theorem y_open (w : World) (hk : KAt w) : Calls Tryz.prog 22 #[.string ⟨(vS 100).toArray⟩, .string ⟨sS.toArray⟩] w fun e w' => ∃ a c, e = .returned (.tuple #[.agg (bc bS (.slice a 1 c)), .int .i64 0]) ∧ RdK w' (.slice a 1 c) [kS] ∧ Below w.heap.size w w' := by
  have h := bopen_c (vS 100) sS w hk (vS_len 100) (by have := sS_len; omega)
  obtain ⟨e1, e2, e3⟩ := sS_open
  rw [e1, e2, e3] at h
  refine h.mono fun e w' h => ?_
  obtain ⟨v, he, hr, hb⟩ := h
  obtain ⟨a, c, rfl, _, _, _⟩ := id hr
  exact ⟨a, c, he, hr, hb⟩
theorem y_other (w : World) (hk : KAt w) : Calls Tryz.prog 22 #[.string ⟨(vS 120).toArray⟩, .string ⟨sS.toArray⟩] w fun e w' => ∃ a n c, e = .returned (.tuple #[.agg (bc zB (.slice a n c)), .int .i64 8]) ∧ Below w.heap.size w w' := by
  have h := bopen_c (vS 120) sS w hk (vS_len 120) (by have := sS_len; omega)
  have e2 : opB (vS 120) sS = zB := by unfold opB; rw [sS_other]; rfl
  rw [sS_other, e2] at h
  refine h.mono fun e w' h => ?_
  obtain ⟨v, he, hr, hb⟩ := h
  obtain ⟨a, c, rfl, _, _, _⟩ := hr
  exact ⟨a, _, c, he, hb⟩
theorem y_peek (w : World) : Calls Tryz.prog 20 #[.string ⟨sS.toArray⟩] w fun e w' => e = .returned (.tuple #[.agg (bc bS nilS), .int .i64 0]) ∧ Below w.heap.size w w' := by
  have h := peekf_c sS w (by have := sS_len; omega)
  rw [sS_peek.1, sS_peek.2] at h
  exact h
theorem y_same1 (w : World) (v u : Value) (hv : RdK w v [kS]) (hu : RdK w u [kS]) : Calls Tryz.prog 12 #[.agg (bc bS v), .agg (bc bS u)] w fun e w' => e = .returned (.bool true) ∧ Below w.heap.size w w' := by
  have h := same_r bS bS v u [kS] [kS] w hv hu
  rw [sameS1] at h
  exact h
theorem y_same2 (w : World) : Calls Tryz.prog 12 #[.agg (bc bS nilS), .agg (bc bS nilS)] w fun e w' => e = .returned (.bool true) ∧ Below w.heap.size w w' := by
  have h := same_r bS bS nilS nilS [] [] w (rdK_nil w) (rdK_nil w)
  rw [sameS2] at h
  exact h
theorem y_valid (w : World) (u : Value) (hu : RdK w u [kS]) : Calls Tryz.prog 13 #[.agg (bc bS u)] w fun e w' => e = .returned (.bool true) ∧ Below w.heap.size w w' := by
  have h := validB_c bS u [kS] w hu wfS machS.mo
  rw [valS] at h
  exact h
theorem y_eq1 (w : World) (v u : Value) (hv : RdK w v [kS]) (hu : RdK w u [kS]) : Calls Tryz.prog 15 #[.agg (bc bS v), .agg (bc bS u)] w fun e w' => e = .returned (.bool true) ∧ Below w.heap.size w w' := by
  have h := same_c bS bS v u [kS] [kS] w hv hu bS_wf bS_wf
  rw [samePS1] at h
  exact h
theorem y_eq2 (w : World) (v : Value) (hv : RdK w v [kS]) : Calls Tryz.prog 15 #[.agg (bc bS v), .agg (bc bS nilS)] w fun e w' => e = .returned (.bool false) ∧ Below w.heap.size w w' := by
  have h := same_c bS bS v nilS [kS] [] w hv (rdK_nil w) bS_wf bS_wf
  rw [samePS2] at h
  exact h
theorem y_comp (now : Int) (l : List K) (r : Bool) (hr : compB l [kS] now = r) (w : World) (v u : Value) (hv : RdK w v [kS]) (hu : RdK w u l) : Calls Tryz.prog 18 #[.agg (bc bS u), .agg #[.int .i64 9, v], .int .i64 now] w fun e w' => e = .returned (.bool r) ∧ Below w.heap.size w w' := by
  have h := complete_c 9 now v u [kS] l bS w hv hu (by decide)
  rw [hr] at h
  exact h
theorem y_sel (w : World) (v : Value) (hv : RdK w v [kS]) : Calls Tryz.prog 10 #[.agg #[.int .i64 9, v], .int .i64 5] w fun e w' => ∃ a c, e = .returned (.slice a 1 c) ∧ Below w.heap.size w w' := by
  have h := select_c 9 5 v [kS] w hv (by decide)
  rw [selS] at h
  refine h.mono fun e w' h => ?_
  obtain ⟨v, he, hr, hb⟩ := h
  obtain ⟨a, c, rfl, _, _, _⟩ := hr
  exact ⟨a, c, he, hb⟩
end Go.Proofs.YtbpjdfnnlmblaaaGreatDoor
/- The examples: what each call of them answers. -/
namespace Go.Proofs.YtbpjdfnnlmblaaaGreatDoor
open Go.RowKit Go.Shelf
set_option linter.unusedSimpArgs false
set_option linter.unusedVariables false
def v32 : List UInt8 := List.replicate 32 118
def k1 : K := ⟨1, 0, v32, 0, 1, 9, 1, 0, false⟩
def k4 : K := ⟨4, 0, v32, 0, 1, 9, 2, 1, false⟩
def k6 : K := ⟨6, 0, v32, 0, 1, 5, 1, 0, false⟩
def k2 : K := ⟨2, 0, v32, 0, 1, 9, 2, 1, false⟩
def b0 : BK := ⟨[], 0, 2, 0, 0, [], [109]⟩
def bz : BK := ⟨[], 0, 0, 0, 0, [], []⟩
def p2 : PK := ⟨[], [], 0, 2⟩
def p3 : PK := ⟨[], [], 0, 3⟩
def pd : PK := ⟨[], [1], 0, 2⟩
theorem wfs : ∀ i, i < [k1, k4, k6].length → (keyAt [k1, k4, k6] i).wf := by
  intro i hi
  match i, hi with
  | 0, _ => exact ⟨by decide, by decide⟩
  | 1, _ => exact ⟨by decide, by decide⟩
  | 2, _ => exact ⟨by decide, by decide⟩
theorem s1 : planK 2 [k1] b0 [k1, k4, k6] 5 = .ok ⟨3, [k1, k2], [(1, 1), (4, 2)], [2]⟩ := by kernel_rfl
theorem s2 : planK 3 [k1, k2] b0 [k1, k4, k6] 5 = .ok ⟨3, [k1, k2], [(1, 1), (4, 2)], []⟩ := by kernel_rfl
theorem tab1 : validTab 2 [k1] = true := by kernel_rfl
theorem tab2 : validTab 3 [k1, k2] = true := by kernel_rfl
theorem a1 : admitK p3 b0 [k1, k4, k6] = 20 := by kernel_rfl
theorem a2 : admitK pd b0 [k1, k4, k6] = 10 := by kernel_rfl
theorem a3 : admitK p2 b0 [k1, k4, k6] = 0 := by kernel_rfl
theorem h1 : holdsK [k1, k2] [k1, k4, k6] 5 = true := by kernel_rfl
theorem h2 : holdsK [k1] [k1, k4, k6] 5 = false := by kernel_rfl
theorem h3 : holdsK [k1] [k1, k4, k6] 9 = true := by kernel_rfl
attribute [local semireducible] bc
theorem bc_one (b : BK) (a : Option Addr) (n c : Nat) : (bc b (.slice a n c)).all (·.oneCell') = true := by
  have h1 : ∀ d i, (dcell d i).oneCell' = true := fun _ _ => rfl
  have h2 : ∀ k, (Value.int .i64 k).oneCell' = true := fun _ => rfl
  have h3 : ∀ s, (Value.string s).oneCell' = true := fun _ => rfl
  have h4 : (Value.slice a n c).oneCell' = true := rfl
  unfold bc
  simp [h1, h2, h3, h4]
theorem built_b0 (p : Option Addr) (n c : Nat) : Tryz.prog.built 26 [(2, .int .i64 2), (6, .string ⟨#[109]⟩), (7, .slice p n c)] = some (bc b0 (.slice p n c)) := by kernel_rfl
theorem built_bz : Tryz.prog.built 26 [] = some (bc bz (.slice none 0 0)) := by kernel_rfl
theorem built_d1 : Tryz.prog.built 23 [(0, .int .u8 1)] = some (drow [1]) := by kernel_rfl
theorem bld_b0 {ops : Array Oper} {rest : List Oper} {o : Oper} {a : Act} {w : World} {Q : Exit → Act → World → Prop} (hg : o.guard = none) (x y z : Operand) (ho : o.op = .build 26 #[(2, x), (6, y), (7, z)])
    (p : Option Addr) (n c : Nat) (hx : a.eval x = .int .i64 2) (hy : a.eval y = .string ⟨#[109]⟩) (hz : a.eval z = .slice p n c)
    (h : wpList Tryz.prog ops Q rest (a.put o.dst (.agg (bc b0 (.slice p n c)))) w) : wpList Tryz.prog ops Q (o :: rest) a w := by
  have e : (Tryz.prog.built 26 ((#[(2, x), (6, y), (7, z)] : Array (Nat × Operand)).map fun (i, x) => (i, a.eval x)).toList) = some (bc b0 (.slice p n c)) := by
    simp only [List.map_toArray, List.map_cons, List.map_nil, hx, hy, hz]
    exact built_b0 p n c
  refine wpList_build hg 26 _ ho (by rw [e]; rfl) ?_
  rw [e]
  exact h
/-- a struct is built of one part -/
theorem kbld_1 {ops : Array Oper} {rest : List Oper} {o : Oper} {a : Act} {w : World} {Q : Exit → Act → World → Prop} (T : TypeId) (i : Nat) (v : Value) (cs : Array Value) (hb : Tryz.prog.built T [(i, v)] = some cs) (hg : o.guard = none) (x : Operand) (ho : o.op = .build T #[(i, x)])
    (hx : a.eval x = v) (h : wpList Tryz.prog ops Q rest (a.put o.dst (.agg cs)) w) : wpList Tryz.prog ops Q (o :: rest) a w := by
  have e : (Tryz.prog.built T ((#[(i, x)] : Array (Nat × Operand)).map fun (i, x) => (i, a.eval x)).toList) = some cs := by
    simp only [List.map_toArray, List.map_cons, List.map_nil, hx]
    exact hb
  refine wpList_build hg T _ ho (by rw [e]; rfl) ?_
  rw [e]
  exact h
/-- .. of two parts -/
theorem bld_2 {ops : Array Oper} {rest : List Oper} {o : Oper} {a : Act} {w : World} {Q : Exit → Act → World → Prop} (T : TypeId) (i j : Nat) (v u : Value) (cs : Array Value) (hb : Tryz.prog.built T [(i, v), (j, u)] = some cs) (hg : o.guard = none) (x y : Operand) (ho : o.op = .build T #[(i, x), (j, y)])
    (hx : a.eval x = v) (hy : a.eval y = u) (h : wpList Tryz.prog ops Q rest (a.put o.dst (.agg cs)) w) : wpList Tryz.prog ops Q (o :: rest) a w := by
  have e : (Tryz.prog.built T ((#[(i, x), (j, y)] : Array (Nat × Operand)).map fun (i, x) => (i, a.eval x)).toList) = some cs := by
    simp only [List.map_toArray, List.map_cons, List.map_nil, hx, hy]
    exact hb
  refine wpList_build hg T _ ho (by rw [e]; rfl) ?_
  rw [e]
  exact h
end Go.Proofs.YtbpjdfnnlmblaaaGreatDoor
/- The examples that each law of custodylaw36 plays. -/
namespace Go.Proofs.YtbpjdfnnlmblaaaGreatDoor
open Go.RowKit Go.Shelf
set_option linter.unusedSimpArgs false
set_option linter.unusedVariables false
theorem y_v118 (w : World) : Calls Tryz.prog 24 #[.int .u8 118] w fun e w' => e = .returned (.string ⟨(vS 118).toArray⟩) ∧ Below w.heap.size w w' := value_c 118 w
theorem y_v100 (w : World) : Calls Tryz.prog 24 #[.int .u8 100] w fun e w' => e = .returned (.string ⟨(vS 100).toArray⟩) ∧ Below w.heap.size w w' := value_c 100 w
theorem y_v120 (w : World) : Calls Tryz.prog 24 #[.int .u8 120] w fun e w' => e = .returned (.string ⟨(vS 120).toArray⟩) ∧ Below w.heap.size w w' := value_c 120 w
theorem built_dS1 : Tryz.prog.built 23 [(0, .int .u8 1)] = some (drow (dS 1)) := by kernel_rfl
theorem built_dS6 : Tryz.prog.built 23 [(0, .int .u8 6)] = some (drow (dS 6)) := by kernel_rfl
theorem built_bS (p : Option Addr) (n c : Nat) : Tryz.prog.built 26 [(0, .agg (drow (dS 1))), (1, .int .i64 2), (2, .int .i64 3), (3, .int .i64 4), (4, .int .i64 5), (5, .agg (drow (dS 6))), (6, .string ⟨#[109]⟩), (7, .slice p n c)] = some (bc bS (.slice p n c)) := by kernel_rfl
theorem bld_bS {ops : Array Oper} {rest : List Oper} {o : Oper} {a : Act} {w : World} {Q : Exit → Act → World → Prop} (hg : o.guard = none) (x0 x1 x2 x3 x4 x5 x6 x7 : Operand)
    (ho : o.op = .build 26 #[(0, x0), (1, x1), (2, x2), (3, x3), (4, x4), (5, x5), (6, x6), (7, x7)])
    (p : Option Addr) (n c : Nat) (h0 : a.eval x0 = .agg (drow (dS 1))) (h1 : a.eval x1 = .int .i64 2) (h2 : a.eval x2 = .int .i64 3) (h3 : a.eval x3 = .int .i64 4) (h4 : a.eval x4 = .int .i64 5) (h5 : a.eval x5 = .agg (drow (dS 6))) (h6 : a.eval x6 = .string ⟨#[109]⟩) (h7 : a.eval x7 = .slice p n c)
    (h : wpList Tryz.prog ops Q rest (a.put o.dst (.agg (bc bS (.slice p n c)))) w) : wpList Tryz.prog ops Q (o :: rest) a w := by
  have e : (Tryz.prog.built 26 ((#[(0, x0), (1, x1), (2, x2), (3, x3), (4, x4), (5, x5), (6, x6), (7, x7)] : Array (Nat × Operand)).map fun (i, x) => (i, a.eval x)).toList) = some (bc bS (.slice p n c)) := by
    simp only [List.map_toArray, List.map_cons, List.map_nil, h0, h1, h2, h3, h4, h5, h6, h7]
    exact built_bS p n c
  refine wpList_build hg 26 _ ho (by rw [e]; rfl) ?_
  rw [e]
  exact h
/-- the key and the backup of the examples -/
structure SB36 (W : World) (g : Nat) : Prop where
  k : KeyAt W g kS
  b : W.heap[g + 1 + 1]? = some (.cells (bc bS (.slice (some ⟨g + 1, 0, none⟩) 1 1)) 26 (0, 0))
  r : RdK W (.slice (some ⟨g + 1, 0, none⟩) 1 1) [kS]
theorem SB36.on {W W' : World} {g : Nat} (h : SB36 W g) (hb : Below W.heap.size W W') : SB36 W' g := ⟨h.k.on hb, row_keep h.b hb, h.r.on hb⟩
theorem SB36.lt {W : World} {g : Nat} (h : SB36 W g) : g + 1 + 1 < W.heap.size := (Array.getElem?_eq_some_iff.1 h.b).1
theorem sb36_start (w : World) : SB36 (((w.alloc (.cells (kc kS) 45)).alloc (.cells (kc kS) 45)).alloc (.cells (bc bS (.slice (some ⟨w.heap.size + 1, 0, none⟩) 1 1)) 26)) w.heap.size := by
  have h1 := one_k (w.alloc (.cells (kc kS) 45)) kS
  rw [World.size_alloc] at h1
  have h2 := heap_alloc_new ((w.alloc (.cells (kc kS) 45)).alloc (.cells (kc kS) 45)) (.cells (bc bS (.slice (some ⟨w.heap.size + 1, 0, none⟩) 1 1)) 26)
  rw [World.size_alloc, World.size_alloc] at h2
  refine ⟨((KeyAt.new w kS).on ((Below.refl _ _).alloc (Nat.le_refl _) _)).on ((Below.refl _ _).alloc (Nat.le_refl _) _), h2, h1.alloc _⟩
/-- a backup of the example's, opened -/
structure SC36 (W : World) (g : Nat) (a : Option Addr) (c : Nat) : Prop where
  b : W.heap[g]? = some (.cells (bc bS (.slice a 1 c)) 26 (0, 0))
  r : RdK W (.slice a 1 c) [kS]
theorem SC36.on {W W' : World} {g c : Nat} {a : Option Addr} (h : SC36 W g a c) (hb : Below W.heap.size W W') : SC36 W' g a c := ⟨row_keep h.b hb, h.r.on hb⟩
def SP36 (W : World) (g : Nat) : Prop := W.heap[g]? = some (.cells (bc bS nilS) 26 (0, 0))
theorem SP36.on {W W' : World} {g : Nat} (h : SP36 W g) (hb : Below W.heap.size W W') : SP36 W' g := row_keep h hb
structure ST36 (W : World) (g gs : Nat) : Prop where
  t : W.heap[g]? = some (.cells #[.int .i64 9, .slice (some ⟨gs, 0, none⟩) 1 1] 28 (0, 0))
  r : RdK W (.slice (some ⟨gs, 0, none⟩) 1 1) [kS]
theorem ST36.on {W W' : World} {g gs : Nat} (h : ST36 W g gs) (hb : Below W.heap.size W W') : ST36 W' g gs := ⟨row_keep h.t hb, h.r.on hb⟩
theorem ST36.t0 {W : World} {g gs : Nat} (h : ST36 W g gs) : W.cell? ⟨g, 0, none⟩ = some (.int .i64 9) := cell_of_row _ _ _ _ _ _ h.t
theorem ST36.t1 {W : World} {g gs : Nat} (h : ST36 W g gs) : W.cell? ⟨g, 1, none⟩ = some (.slice (some ⟨gs, 0, none⟩) 1 1) := cell_of_row _ _ _ _ _ _ h.t
/-- the table and the copy without keys, as they are laid -/
theorem st36_new (W : World) : ST36 ((W.alloc (.cells (kc kS) 45)).alloc (.cells #[.int .i64 9, .slice (some ⟨W.heap.size, 0, none⟩) 1 1] 28)) (W.heap.size + 1) W.heap.size :=
  ⟨two_1 _ _ _, (one_k W kS).alloc _⟩
theorem sp36_set {W : World} {g : Nat} {u : Value} (h : W.heap[g]? = some (.cells (bc bS u) 26 (0, 0))) : SP36 (W.setCell ⟨g, 37, none⟩ (.slice none 0 0)) g := by
  unfold SP36
  rw [setCell_rowC _ _ _ _ _ _ _ h, bcset_37]
  exact setRow_heap _ _ _ _ _ _ h
theorem RdK.setOther {w : World} {v : Value} {l : List K} {g i : Nat} {x : Value} (h : RdK w v l) (hne : ∀ b off, v = .slice (some ⟨b, off, none⟩) l.length l.length → b ≠ g) (hv : ∃ b, v = .slice (some ⟨b, 0, none⟩) l.length l.length) : RdK (w.setCell ⟨g, i, none⟩ x) v l := by
  obtain ⟨a, cap, rfl, h1, h2, h3⟩ := h
  obtain ⟨b', hb'⟩ := hv
  refine ⟨a, cap, rfl, h1, h2, fun h0 => ?_⟩
  obtain ⟨b, off, rfl, hlt, hc⟩ := h3 h0
  simp only [Value.slice.injEq, Option.some.injEq, Addr.mk.injEq, true_and, and_true] at hb'
  obtain ⟨⟨rfl, rfl⟩, rfl⟩ := hb'
  refine ⟨b, 0, rfl, by rw [setCell_size]; exact hlt, fun j hj k hk => ?_⟩
  have hne2 : g ≠ b := fun e => hne b 0 rfl e.symm
  rw [World.cell?_of_block (a := ⟨b, 0 + j * 9 + k, none⟩) (setCell_block hne2)]
  exact hc j hj k hk
end Go.Proofs.YtbpjdfnnlmblaaaGreatDoor
/- custodylaw36.sanity. -/
namespace Go.Proofs.YtbpjdfnnlmblaaaGreatDoor
open Go.RowKit Go.Shelf
set_option linter.unusedSimpArgs false
set_option linter.unusedVariables false
theorem set37_new (W : World) (u : Value) : W.alloc (.cells ((bc bS u).setIfInBounds 37 (.slice none 0 0)) 26) = W.alloc (.cells (bc bS nilS) 26) := by
  rw [bcset_37]
  rfl
attribute [local irreducible] Calls putAll drow vS sS headP bS
set_option maxRecDepth 100000 in
set_option maxHeartbeats 8000000 in
theorem sanity36_c (w : World) (hk : KAt w) : Calls Tryz.prog 7 #[] w fun e w' => e = .returned (.bool true) ∧ Below w.heap.size w w' := by
  have HK := Lib.hid hk
  have HHL := Lib.hid headS_len
  clear hk
  go_enter Tryz.func7, Tryz.ntmps7
  go_upto_region 2 with (go_at_call 24; refine (y_v118 _).mono ?_; rintro e w1 ⟨rfl, hb1⟩)
  go_upto_region 3 with (first
    | (refine kbld_1 23 0 (.int .u8 1) (drow (dS 1)) built_dS1 rfl (.const (.int .u8 1)) rfl rfl ?_)
    | (refine kbld_1 23 0 (.int .u8 6) (drow (dS 6)) built_dS6 rfl (.const (.int .u8 6)) rfl rfl ?_)
    | (refine bld_bS rfl (.tmp 17) (.const (.int .i64 2)) (.const (.int .i64 3)) (.const (.int .i64 4)) (.const (.int .i64 5)) (.tmp 18) (.const (.string ⟨#[109]⟩)) (.tmp 20) rfl (some ⟨w1.heap.size + 1, 0, none⟩) 1 1 rfl rfl rfl rfl rfl rfl rfl rfl ?_)
    | (refine st_new (bc bS (.slice (some ⟨w1.heap.size + 1, 0, none⟩) 1 1)) 26 rfl (.tmp 2) (.tmp 21) rfl _ rfl (by simp) rfl (by rw [bc_size]; exact info_b) (by rw [bc_size]; rfl) (bcone _ _ _ _) ?_))
  have hs := sb36_start w1
  have hbw : Below w.heap.size w (((w1.alloc (.cells (kc kS) 45)).alloc (.cells (kc kS) 45)).alloc (.cells (bc bS (.slice (some ⟨w1.heap.size + 1, 0, none⟩) 1 1)) 26)) := by
    have h0 := hb1.size
    exact ((hb1.alloc h0 _).alloc (by simp; omega) _).alloc (by simp; omega) _
  obtain ⟨W, hW⟩ : ∃ W, W = ((w1.alloc (.cells (kc kS) 45)).alloc (.cells (kc kS) 45)).alloc (.cells (bc bS (.slice (some ⟨w1.heap.size + 1, 0, none⟩) 1 1)) 26) := ⟨_, rfl⟩
  rw [← hW] at hs hbw
  have hg1 : w1.heap.size + 1 + 1 = w1.heap.size + 2 := rfl
  unfold kc at hW
  change W = ((w1.alloc (.cells #[.int .i64 3, .int .i64 1, .string ⟨(vS 118).toArray⟩, .int .i64 8, .int .i64 0, .int .i64 9, .int .i64 2, .int .i64 0, .bool true] 45)).alloc (.cells #[.int .i64 3, .int .i64 1, .string ⟨(vS 118).toArray⟩, .int .i64 8, .int .i64 0, .int .i64 9, .int .i64 2, .int .i64 0, .bool true] 45)).alloc (.cells (bc bS (.slice (some ⟨w1.heap.size + 1, 0, none⟩) 1 1)) 26) at hW
  rw [← hW]
  generalize w1.heap.size = g at *
  clear hW hb1
  have HB := Lib.hid hbw
  have X := Lib.hid hs
  clear hs hbw
  try dsimp only [Act.put]
  refine region_rel 7 [[], [], [0, 1], [2], [3], [3], [4]]
    (SP.of [.eq (.string ⟨(vS 100).toArray⟩), .eq (.agg (bc bS (.slice (some ⟨g + 1, 0, none⟩) 1 1))), .eq (.tuple #[.string ⟨sS.toArray⟩, .int .i64 0]), .eq (.tuple #[.string ⟨sS.toArray⟩, .int .i64 0]), .eq (.string ⟨sS.toArray⟩), .eq (.int .i64 0), .eq (.string ⟨sS.toArray⟩)]) (fun _ => undef) ?q1 ?q2 ?q3 ?q4 ?q5 ?q6
  case q1 => kernel_rfl
  case q2 => kernel_rfl
  case q3 => kernel_rfl
  case q4 =>
    simp only [List.take_succ_cons, List.take_zero]
    repeat (first | exact trivial | refine ⟨fun vals v => by kernel_rfl, ?_⟩)
  case q5 =>
    simp only [List.take_succ_cons, List.take_zero]
    refine ⟨?_, ?_, ?_, ?_, ?_, ?_, ?_, trivial⟩
    all_goals (intro wq hbq vals; simp only [Nat.reduceAdd, Nat.zero_add, List.getD_cons_succ, List.getD_cons_zero]; repeat (first | refine given_nil ?_ | refine given_eq rfl ?_); have HBQ := Lib.hid (HB.out.trans (hbq.mono HB.out.size)); have XQ := Lib.hid (X.out.on hbq); clear hbq; intro Q hQ; simp only [putAll, upd, Act.put, List.setIfInBounds_toArray, List.set_cons_zero, List.set_cons_succ, Nat.reduceAdd, Nat.zero_add, Nat.reduceEqDiff, if_true, if_false, reduceIte])
    case refine_1 =>
      go_wp2_with (go_at_call 24; refine (y_v100 _).mono ?_; rintro e x1 ⟨rfl, hx1⟩)
      exact relEnd_fin hQ _ (by kernel_rfl) hx1 rfl
    case refine_2 =>
      go_wp2_with (refine ld_bk bS _ rfl (.tmp 2) rfl _ rfl _ XQ.out.b ?_)
      exact relEnd_fin hQ _ (by kernel_rfl) (Below.refl _ _) rfl
    case refine_3 =>
      go_wp2_with (go_at_call 8; refine (y_make _ _ (HK.out.on HBQ.out) XQ.out.r).mono ?_; rintro e x1 ⟨rfl, hx1⟩)
      exact relEnd_fin hQ _ (by kernel_rfl) hx1 rfl
    all_goals go_wp2
    all_goals exact relEnd_fin hQ _ (by kernel_rfl) (Below.refl _ _) rfl
  case q6 =>
    intro w4 hb4 vals
    rw [show List.range 7 = [0, 1, 2, 3, 4, 5, 6] from by decide]
    repeat (first | refine given_nil ?_ | refine given_eq rfl ?_)
    simp only [List.take_succ_cons, List.take_zero, List.drop_succ_cons, List.drop_zero]
    simp only [putAll, upd, Act.put, List.setIfInBounds_toArray, List.set_cons_zero, List.set_cons_succ, Nat.reduceAdd, Nat.zero_add, Nat.reduceEqDiff, if_true, if_false, reduceIte]
    replace HB := Lib.hid (HB.out.trans (hb4.mono HB.out.size))
    replace X := Lib.hid (X.out.on hb4)
    clear hb4
    go_upto_region 5 with (first
      | (go_at_call 24; refine (y_v100 _).mono ?_; rintro e w5 ⟨rfl, hb⟩; replace HB := Lib.hid (HB.out.trans (hb.mono HB.out.size)); replace X := Lib.hid (X.out.on hb); clear hb)
      | (go_at_call 22; refine (y_open _ (HK.out.on HB.out)).mono ?_; rintro e w6 ⟨ca, cc, rfl, hr, hb⟩; replace HB := Lib.hid (HB.out.trans (hb.mono HB.out.size)); replace X := Lib.hid (X.out.on hb); have HR := Lib.hid hr; clear hb hr)
      | (refine st_new (bc bS (.slice ca 1 cc)) 26 rfl (.tmp 5) (.tmp 32) rfl _ rfl rfl rfl (by rw [bc_size]; exact info_b) (by rw [bc_size]; rfl) (bcone _ _ _ _) ?_))
    have XC : Hid (SC36 (w6.alloc (.cells (bc bS (.slice ca 1 cc)) 26)) w6.heap.size ca cc) := Lib.hid ⟨heap_alloc_new _ _, HR.out.alloc _⟩
    replace X := Lib.hid (X.out.on ((Below.refl _ _).alloc (Nat.le_refl _) (.cells (bc bS (.slice ca 1 cc)) 26)))
    replace HB := Lib.hid (HB.out.alloc HB.out.size (.cells (bc bS (.slice ca 1 cc)) 26))
    clear HR
    generalize w6.alloc (.cells (bc bS (.slice ca 1 cc)) 26) = w7 at *
    generalize w6.heap.size = go at *
    go_upto_region 6 with (first
      | (go_at_call 20; refine (y_peek _).mono ?_; rintro e w8 ⟨rfl, hb⟩; replace HB := Lib.hid (HB.out.trans (hb.mono HB.out.size)); replace X := Lib.hid (X.out.on hb); replace XC := Lib.hid (XC.out.on hb); clear hb)
      | (refine st_new (bc bS nilS) 26 rfl (.tmp 7) (.tmp 37) rfl _ rfl rfl rfl (by rw [bc_size]; exact info_b) (by rw [bc_size]; rfl) (bcone _ _ _ _) ?_))
    have XP : Hid (SP36 (w8.alloc (.cells (bc bS nilS) 26)) w8.heap.size) := Lib.hid (heap_alloc_new _ _)
    replace X := Lib.hid (X.out.on ((Below.refl _ _).alloc (Nat.le_refl _) (.cells (bc bS nilS) 26)))
    replace XC := Lib.hid (XC.out.on ((Below.refl _ _).alloc (Nat.le_refl _) (.cells (bc bS nilS) 26)))
    replace HB := Lib.hid (HB.out.alloc HB.out.size (.cells (bc bS nilS) 26))
    generalize w8.alloc (.cells (bc bS nilS) 26) = w9 at *
    generalize w8.heap.size = gp at *
    go_upto_region 7 with (first
      | (go_at_call 24; refine (y_v120 _).mono ?_; rintro e w10 ⟨rfl, hb⟩; replace HB := Lib.hid (HB.out.trans (hb.mono HB.out.size)); replace X := Lib.hid (X.out.on hb); replace XC := Lib.hid (XC.out.on hb); replace XP := Lib.hid (XP.out.on hb); clear hb)
      | (go_at_call 22; refine (y_other _ (HK.out.on HB.out)).mono ?_; rintro e w11 ⟨xa, xn, xc, rfl, hb⟩; replace HB := Lib.hid (HB.out.trans (hb.mono HB.out.size)); replace X := Lib.hid (X.out.on hb); replace XC := Lib.hid (XC.out.on hb); replace XP := Lib.hid (XP.out.on hb); clear hb)
      | (refine st_new (bc zB (.slice xa xn xc)) 26 rfl (.tmp 9) (.tmp 43) rfl _ rfl rfl rfl (by rw [bc_size]; exact info_b) (by rw [bc_size]; rfl) (bcone _ _ _ _) ?_))
    replace X := Lib.hid (X.out.on ((Below.refl _ _).alloc (Nat.le_refl _) (.cells (bc zB (.slice xa xn xc)) 26)))
    replace XC := Lib.hid (XC.out.on ((Below.refl _ _).alloc (Nat.le_refl _) (.cells (bc zB (.slice xa xn xc)) 26)))
    replace XP := Lib.hid (XP.out.on ((Below.refl _ _).alloc (Nat.le_refl _) (.cells (bc zB (.slice xa xn xc)) 26)))
    replace HB := Lib.hid (HB.out.alloc HB.out.size (.cells (bc zB (.slice xa xn xc)) 26))
    generalize w11.alloc (.cells (bc zB (.slice xa xn xc)) 26) = w12 at *
    generalize w11.heap.size = gx at *
    go_upto_region 8 with (first
      | (refine ld_bk bS _ rfl (.tmp 2) rfl _ rfl _ X.out.b ?_)
      | (go_at_call 8; refine (y_short _ _ (HK.out.on HB.out) X.out.r).mono ?_; rintro e w13 ⟨rfl, hb⟩; replace HB := Lib.hid (HB.out.trans (hb.mono HB.out.size)); replace X := Lib.hid (X.out.on hb); replace XC := Lib.hid (XC.out.on hb); replace XP := Lib.hid (XP.out.on hb); clear hb))
    have k0 : w13.cell? ⟨g, 0, none⟩ = some (.int .i64 3) := X.out.k.cell 0
    have k1 : w13.cell? ⟨g, 1, none⟩ = some (.int .i64 1) := X.out.k.cell 1
    have k2 : w13.cell? ⟨g, 2, none⟩ = some (.string ⟨(vS 118).toArray⟩) := X.out.k.cell 2
    have k3 : w13.cell? ⟨g, 3, none⟩ = some (.int .i64 8) := X.out.k.cell 3
    have k4 : w13.cell? ⟨g, 4, none⟩ = some (.int .i64 0) := X.out.k.cell 4
    have k5 : w13.cell? ⟨g, 5, none⟩ = some (.int .i64 9) := X.out.k.cell 5
    have k6 : w13.cell? ⟨g, 6, none⟩ = some (.int .i64 2) := X.out.k.cell 6
    have k7 : w13.cell? ⟨g, 7, none⟩ = some (.int .i64 0) := X.out.k.cell 7
    have k8 : w13.cell? ⟨g, 8, none⟩ = some (.bool true) := X.out.k.cell 8
    go_upto_region 9 with fail
    have XT := Lib.hid (st36_new w13)
    unfold kc at XT
    have XX : ∀ A B : Obj, Below w13.heap.size w13 ((w13.alloc A).alloc B) := fun A B => ((Below.refl _ _).alloc (Nat.le_refl _) A).alloc (by simp) B
    replace X := Lib.hid (X.out.on (XX (.cells #[.int .i64 3, .int .i64 1, .string ⟨(vS 118).toArray⟩, .int .i64 8, .int .i64 0, .int .i64 9, .int .i64 2, .int .i64 0, .bool true] 45) (.cells #[.int .i64 9, .slice (some ⟨w13.heap.size, 0, none⟩) 1 1] 28)))
    replace XC := Lib.hid (XC.out.on (XX (.cells #[.int .i64 3, .int .i64 1, .string ⟨(vS 118).toArray⟩, .int .i64 8, .int .i64 0, .int .i64 9, .int .i64 2, .int .i64 0, .bool true] 45) (.cells #[.int .i64 9, .slice (some ⟨w13.heap.size, 0, none⟩) 1 1] 28)))
    replace XP := Lib.hid (XP.out.on (XX (.cells #[.int .i64 3, .int .i64 1, .string ⟨(vS 118).toArray⟩, .int .i64 8, .int .i64 0, .int .i64 9, .int .i64 2, .int .i64 0, .bool true] 45) (.cells #[.int .i64 9, .slice (some ⟨w13.heap.size, 0, none⟩) 1 1] 28)))
    replace HB := Lib.hid (HB.out.trans ((XX (.cells #[.int .i64 3, .int .i64 1, .string ⟨(vS 118).toArray⟩, .int .i64 8, .int .i64 0, .int .i64 9, .int .i64 2, .int .i64 0, .bool true] 45) (.cells #[.int .i64 9, .slice (some ⟨w13.heap.size, 0, none⟩) 1 1] 28)).mono HB.out.size))
    change Hid (ST36 ((w13.alloc (.cells #[.int .i64 3, .int .i64 1, .string ⟨(vS 118).toArray⟩, .int .i64 8, .int .i64 0, .int .i64 9, .int .i64 2, .int .i64 0, .bool true] 45)).alloc (.cells #[.int .i64 9, .slice (some ⟨w13.heap.size, 0, none⟩) 1 1] 28)) (w13.heap.size + 1) w13.heap.size) at XT
    clear k0 k1 k2 k3 k4 k5 k6 k7 k8 XX
    generalize (w13.alloc (.cells #[.int .i64 3, .int .i64 1, .string ⟨(vS 118).toArray⟩, .int .i64 8, .int .i64 0, .int .i64 9, .int .i64 2, .int .i64 0, .bool true] 45)).alloc (.cells #[.int .i64 9, .slice (some ⟨w13.heap.size, 0, none⟩) 1 1] 28) = w14 at *
    generalize w13.heap.size = gt at *
    go_upto_region 10 with (first
      | (refine ld_bk bS _ rfl (.tmp 2) rfl _ rfl _ X.out.b ?_)
      | (refine st_new (bc bS (.slice (some ⟨g + 1, 0, none⟩) 1 1)) 26 rfl (.tmp 14) (.tmp 53) rfl _ rfl rfl rfl (by rw [bc_size]; exact info_b) (by rw [bc_size]; rfl) (bcone _ _ _ _) ?_))
    have hset := set37_new w14 (.slice (some ⟨g + 1, 0, none⟩) 1 1)
    have hba : Below w14.heap.size w14 (w14.alloc (.cells (bc bS nilS) 26)) := (Below.refl _ _).alloc (Nat.le_refl _) _
    rw [← hset] at hba
    have XE : Hid (SP36 (w14.alloc (.cells ((bc bS (.slice (some ⟨g + 1, 0, none⟩) 1 1)).setIfInBounds 37 (.slice none 0 0)) 26)) w14.heap.size) := Lib.hid (by rw [hset]; exact heap_alloc_new _ _)
    replace X := Lib.hid (X.out.on hba)
    replace XC := Lib.hid (XC.out.on hba)
    replace XP := Lib.hid (XP.out.on hba)
    replace XT := Lib.hid (XT.out.on hba)
    replace HB := Lib.hid (HB.out.trans (hba.mono HB.out.size))
    clear hset hba
    have tok1 : True := trivial
    have tok2 : True := trivial
    have tok3 : True := trivial
    have tok4 : True := trivial
    have t0 := XT.out.t0
    have t1 := XT.out.t1
    have hhl := HHL.out
    go_upto_region 11 with fail
    try simp only [List.append_eq, List.cons_append, List.nil_append]
    go_wp2_with (first
      | (refine ld_bk bS _ rfl (.tmp 2) rfl _ rfl _ X.out.b ?_)
      | (refine ld_bk bS _ rfl (.tmp 5) rfl _ rfl _ XC.out.b ?_)
      | (refine ld_bk bS _ rfl (.tmp 7) rfl _ rfl _ XP.out ?_)
      | (refine ld_bk bS _ rfl (.tmp 14) rfl _ rfl _ XE.out ?_)
      | (go_at_call 12; clear tok1; refine (y_same1 _ _ _ X.out.r XC.out.r).mono ?_; rintro e x1 ⟨rfl, hb⟩; replace HB := Lib.hid (HB.out.trans (hb.mono HB.out.size)); replace X := Lib.hid (X.out.on hb); replace XC := Lib.hid (XC.out.on hb); replace XP := Lib.hid (XP.out.on hb); replace XT := Lib.hid (XT.out.on hb); replace XE := Lib.hid (XE.out.on hb); clear hb t0 t1; have t0 := XT.out.t0; have t1 := XT.out.t1)
      | (go_at_call 12; refine (y_same2 _).mono ?_; rintro e x2 ⟨rfl, hb⟩; replace HB := Lib.hid (HB.out.trans (hb.mono HB.out.size)); replace X := Lib.hid (X.out.on hb); replace XC := Lib.hid (XC.out.on hb); replace XP := Lib.hid (XP.out.on hb); replace XT := Lib.hid (XT.out.on hb); replace XE := Lib.hid (XE.out.on hb); clear hb t0 t1; have t0 := XT.out.t0; have t1 := XT.out.t1)
      | (go_at_call 13; refine (y_valid _ _ X.out.r).mono ?_; rintro e x3 ⟨rfl, hb⟩; replace HB := Lib.hid (HB.out.trans (hb.mono HB.out.size)); replace X := Lib.hid (X.out.on hb); replace XC := Lib.hid (XC.out.on hb); replace XP := Lib.hid (XP.out.on hb); replace XT := Lib.hid (XT.out.on hb); replace XE := Lib.hid (XE.out.on hb); clear hb t0 t1; have t0 := XT.out.t0; have t1 := XT.out.t1)
      | (go_at_call 15; clear tok2; refine (y_eq1 _ _ _ X.out.r XC.out.r).mono ?_; rintro e x4 ⟨rfl, hb⟩; replace HB := Lib.hid (HB.out.trans (hb.mono HB.out.size)); replace X := Lib.hid (X.out.on hb); replace XC := Lib.hid (XC.out.on hb); replace XP := Lib.hid (XP.out.on hb); replace XT := Lib.hid (XT.out.on hb); replace XE := Lib.hid (XE.out.on hb); clear hb t0 t1; have t0 := XT.out.t0; have t1 := XT.out.t1)
      | (go_at_call 15; refine (y_eq2 _ _ X.out.r).mono ?_; rintro e x5 ⟨rfl, hb⟩; replace HB := Lib.hid (HB.out.trans (hb.mono HB.out.size)); replace X := Lib.hid (X.out.on hb); replace XC := Lib.hid (XC.out.on hb); replace XP := Lib.hid (XP.out.on hb); replace XT := Lib.hid (XT.out.on hb); replace XE := Lib.hid (XE.out.on hb); clear hb t0 t1; have t0 := XT.out.t0; have t1 := XT.out.t1)
      | (go_at_call 18; clear tok3; refine (y_comp 5 [kS] true cS5 _ _ _ XT.out.r X.out.r).mono ?_; rintro e x6 ⟨rfl, hb⟩; replace HB := Lib.hid (HB.out.trans (hb.mono HB.out.size)); replace X := Lib.hid (X.out.on hb); replace XC := Lib.hid (XC.out.on hb); replace XP := Lib.hid (XP.out.on hb); replace XT := Lib.hid (XT.out.on hb); replace XE := Lib.hid (XE.out.on hb); clear hb t0 t1; have t0 := XT.out.t0; have t1 := XT.out.t1)
      | (go_at_call 18; clear tok4; refine (y_comp 5 [] false cE5 _ _ _ XT.out.r (rdK_nil _)).mono ?_; rintro e x7 ⟨rfl, hb⟩; replace HB := Lib.hid (HB.out.trans (hb.mono HB.out.size)); replace X := Lib.hid (X.out.on hb); replace XC := Lib.hid (XC.out.on hb); replace XP := Lib.hid (XP.out.on hb); replace XT := Lib.hid (XT.out.on hb); replace XE := Lib.hid (XE.out.on hb); clear hb t0 t1; have t0 := XT.out.t0; have t1 := XT.out.t1)
      | (go_at_call 18; refine (y_comp 9 [] true cE9 _ _ _ XT.out.r (rdK_nil _)).mono ?_; rintro e x8 ⟨rfl, hb⟩; replace HB := Lib.hid (HB.out.trans (hb.mono HB.out.size)); replace X := Lib.hid (X.out.on hb); replace XC := Lib.hid (XC.out.on hb); replace XP := Lib.hid (XP.out.on hb); replace XT := Lib.hid (XT.out.on hb); replace XE := Lib.hid (XE.out.on hb); clear hb t0 t1; have t0 := XT.out.t0; have t1 := XT.out.t1)
      | (go_at_call 10; refine (y_sel _ _ XT.out.r).mono ?_; rintro e x9 ⟨sa, sc, rfl, hb⟩; replace HB := Lib.hid (HB.out.trans (hb.mono HB.out.size)); replace X := Lib.hid (X.out.on hb); clear hb t0 t1)
      | (go_at_call 16; refine (header_c bS _ _ bS_wf).mono ?_; rintro e x10 ⟨rfl, hb⟩; replace HB := Lib.hid (HB.out.trans (hb.mono HB.out.size)); clear hb))
    go_ret
    exact ⟨rfl, HB.out⟩
end Go.Proofs.YtbpjdfnnlmblaaaGreatDoor
/- What the frames of the laws share. -/
namespace Go.Proofs.YtbpjdfnnlmblaaaGreatDoor
theorem Tryz.own : ownKnob Tryz.prog.godebug = none := by kernel_rfl
theorem Tryz.laidOut : laidOutB Tryz.prog = true := by kernel_rfl
theorem str_of (a : ByteArray) : ∃ l : List UInt8, a = ⟨l.toArray⟩ := ⟨a.data.toList, by simp⟩
theorem u32_of {a : Int} (h : (Lit.int .u32 a).wf = true) : ∃ c : UInt32, a = W32 c := by
  simp only [Lit.wf, Bool.and_eq_true, decide_eq_true_eq] at h
  have h1 : (0 : Int) ≤ a := h.1
  have h2 : a ≤ 4294967295 := h.2
  refine ⟨UInt32.ofNat a.toNat, ?_⟩
  unfold W32
  rw [UInt32.toNat_ofNat_of_lt' (by show a.toNat < 4294967296; omega)]
  omega
theorem u32_nat (n : Nat) (h : n < 4294967296) : IntKind.u32.wrap (n : Int) = W32 (UInt32.ofNat n) := by
  rw [IntKind.wrap_u32]
  unfold W32
  rw [UInt32.toNat_ofNat_of_lt' (by show n < 4294967296; omega)]
  omega
theorem i64_of {a : Int} (h : (Lit.int .i64 a).wf = true) : -9223372036854775808 ≤ a ∧ a ≤ 9223372036854775807 := by
  simp only [Lit.wf, Bool.and_eq_true, decide_eq_true_eq] at h
  exact h
end Go.Proofs.YtbpjdfnnlmblaaaGreatDoor
