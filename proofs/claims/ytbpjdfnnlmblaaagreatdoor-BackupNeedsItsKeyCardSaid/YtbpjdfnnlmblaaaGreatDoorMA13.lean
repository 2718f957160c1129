/- Parts of a proof, joined: contracts of functions of the program and plain lemmas (BakO, BakQ, BakR, BakS, BakT, BakU, BakV, BakW, BakX, BakY, PlanC, PlanD, MapI, PlanE, PlanF, PlanG, LawKit, BakZ, RefE). No condition. -/
import Derived.Test.YtbpjdfnnlmblaaaGreatDoorMA12
import Derived.Lib.ConvBytes
import Derived.Maps.OwnOps
import Derived.Maps.Views
import Derived.WalkArith
import Derived.Deep.Cut
/- Equal backups: the specification's test. -/
namespace Go.Proofs.YtbpjdfnnlmblaaaGreatDoor
open Go.RowKit Go.Shelf
set_option linter.unusedSimpArgs false
set_option linter.unusedVariables false
def headS (a b : BK) (n m : Nat) : Bool := dEq a.dom b.dom && ((a.ep == b.ep) && ((a.num == b.num) && ((a.fw == b.fw) && ((a.tm == b.tm) && (dEq a.pol b.pol && ((a.mo == b.mo) && ((n : Int) == (m : Int))))))))
def sameB (a : BK) (l : List K) (b : BK) (m : List K) : Bool := headS a b l.length m.length && decide (l = m)
theorem headS_parts (a b : BK) (n m : Nat) : (headS a b n m = false ∧ dEq a.dom b.dom = false) ∨ (headS a b n m = false ∧ dEq a.dom b.dom = true ∧ (a.ep == b.ep) = false) ∨ (headS a b n m = false ∧ dEq a.dom b.dom = true ∧ (a.ep == b.ep) = true ∧ (a.num == b.num) = false) ∨
    (headS a b n m = false ∧ dEq a.dom b.dom = true ∧ (a.ep == b.ep) = true ∧ (a.num == b.num) = true ∧ (a.fw == b.fw) = false) ∨ (headS a b n m = false ∧ dEq a.dom b.dom = true ∧ (a.ep == b.ep) = true ∧ (a.num == b.num) = true ∧ (a.fw == b.fw) = true ∧ (a.tm == b.tm) = false) ∨
    (headS a b n m = false ∧ dEq a.dom b.dom = true ∧ (a.ep == b.ep) = true ∧ (a.num == b.num) = true ∧ (a.fw == b.fw) = true ∧ (a.tm == b.tm) = true ∧ dEq a.pol b.pol = false) ∨
    (headS a b n m = false ∧ dEq a.dom b.dom = true ∧ (a.ep == b.ep) = true ∧ (a.num == b.num) = true ∧ (a.fw == b.fw) = true ∧ (a.tm == b.tm) = true ∧ dEq a.pol b.pol = true ∧ (a.mo == b.mo) = false) ∨
    (headS a b n m = false ∧ dEq a.dom b.dom = true ∧ (a.ep == b.ep) = true ∧ (a.num == b.num) = true ∧ (a.fw == b.fw) = true ∧ (a.tm == b.tm) = true ∧ dEq a.pol b.pol = true ∧ (a.mo == b.mo) = true ∧ ((n : Int) == (m : Int)) = false) ∨
    (headS a b n m = true ∧ dEq a.dom b.dom = true ∧ (a.ep == b.ep) = true ∧ (a.num == b.num) = true ∧ (a.fw == b.fw) = true ∧ (a.tm == b.tm) = true ∧ dEq a.pol b.pol = true ∧ (a.mo == b.mo) = true ∧ ((n : Int) == (m : Int)) = true) := by
  unfold headS
  cases dEq a.dom b.dom <;> cases (a.ep == b.ep) <;> cases (a.num == b.num) <;> cases (a.fw == b.fw) <;> cases (a.tm == b.tm) <;> cases dEq a.pol b.pol <;> cases (a.mo == b.mo) <;> cases ((n : Int) == (m : Int)) <;> simp
theorem bc_rdom {w : World} {g : Nat} {b : BK} {u : Value} {T : TypeId} (h : w.heap[g]? = some (.cells (bc b u) T (0, 0))) : w.rangeAt g 0 (drow b.dom).toList := by
  intro j x hx
  obtain ⟨h1, rfl⟩ := drow_at _ _ _ hx
  rw [cell_of_row _ _ _ _ _ _ h, Nat.zero_add]
  exact bcdom_at b u j h1
theorem bc_rpol {w : World} {g : Nat} {b : BK} {u : Value} {T : TypeId} (h : w.heap[g]? = some (.cells (bc b u) T (0, 0))) : w.rangeAt g 20 (drow b.pol).toList := by
  intro j x hx
  obtain ⟨h1, rfl⟩ := drow_at _ _ _ hx
  rw [cell_of_row _ _ _ _ _ _ h]
  exact bcpol_at b u j h1
theorem ld_digO {ops : Array Oper} {rest : List Oper} {o : Oper} {a : Act} {w : World} {Q : Exit → Act → World → Prop} (d : List UInt8) (g off : Nat) (x : Operand) (ho : o.op = .load 23 x) (hc : w.rangeAt g off (drow d).toList)
    (hx : a.eval x = .pointer (some ⟨g, off, none⟩)) (hgd : Region.wanted o (yielded ops a.tmps) = true)
    (h : wpList Tryz.prog ops Q rest (a.put o.dst (.agg (drow d))) w) : wpList Tryz.prog ops Q (o :: rest) a w := ld_dig d g off hc hgd x ho hx h
theorem ld_digN {ops : Array Oper} {rest : List Oper} {o : Oper} {a : Act} {w : World} {Q : Exit → Act → World → Prop} (d : List UInt8) (g off : Nat) (x : Operand) (ho : o.op = .load 23 x) (hc : w.rangeAt g off (drow d).toList)
    (hx : a.eval x = .pointer (some ⟨g, off, none⟩)) (hgd : o.guard = none)
    (h : wpList Tryz.prog ops Q rest (a.put o.dst (.agg (drow d))) w) : wpList Tryz.prog ops Q (o :: rest) a w :=
  wpList_plain hgd fun _ hK => wp_load_mid _ x ho g off hx (drow d).toList _ hc Tryz.underlying23 rfl info_d (hK _ _ h)
theorem ld_digK {ops : Array Oper} {rest : List Oper} {o : Oper} {a : Act} {w : World} {Q : Exit → Act → World → Prop} (d : List UInt8) (g off : Nat) (x : Operand) (ho : o.op = .load 23 x) (hc : w.rangeAt g off (drow d).toList)
    (hx : a.eval x = .pointer (some ⟨g, off, none⟩)) (hgd : Region.wanted o (yielded ops a.tmps) = true)
    (h : wpList Tryz.prog ops Q rest (a.put o.dst (.agg (drow d))) w) : wpList Tryz.prog ops Q (o :: rest) a w := ld_dig d g off hc hgd x ho hx h
theorem bne_of {α : Type} [BEq α] {x y : α} {r : Bool} (h : (x == y) = r) : (x != y) = !r := by rw [bne, h]
attribute [local irreducible] Calls kEq drow dEq sameB headS
set_option maxRecDepth 100000 in
set_option maxHeartbeats 1500000 in
theorem same_r (a b : BK) (v u : Value) (l m : List K) (w : World) (hv : RdK w v l) (hu : RdK w u m) :
    Calls Tryz.prog 12 #[.agg (bc a v), .agg (bc b u)] w fun e w' => e = .returned (.bool (sameB a l b m)) ∧ Below w.heap.size w w' := by
  have hlen := hv.len
  unfold maxLen at hlen
  have hv9 := hv
  have hu9 := hu
  obtain ⟨va, vc, rfl, _, _, _⟩ := hv9
  obtain ⟨ua, uc, rfl, _, _, _⟩ := hu9
  obtain ⟨W0, hW0⟩ : ∃ W0, W0 = (w.alloc (.cells (bc a (.slice va l.length vc)) 26)).alloc (.cells (bc b (.slice ua m.length uc)) 26) := ⟨_, rfl⟩
  have HW := Lib.hid hW0
  have HBE : Hid (Below w.heap.size w W0) := Lib.hid (by rw [hW0]; exact ((Below.refl _ _).alloc (Nat.le_refl _) _).alloc (by simp) _)
  have HR1 : Hid (W0.heap[w.heap.size]? = some (.cells (bc a (.slice va l.length vc)) 26 (0, 0))) := Lib.hid (by rw [hW0, heap_past _ _ _ (by simp)]; exact heap_last _ _ _ rfl)
  have HR2 : Hid (W0.heap[w.heap.size + 1]? = some (.cells (bc b (.slice ua m.length uc)) 26 (0, 0))) := Lib.hid (by rw [hW0]; exact heap_last _ _ _ (by simp))
  have HV : Hid (RdK W0 (.slice va l.length vc) l) := Lib.hid (by rw [hW0]; exact (hv.alloc _).alloc _)
  have HU : Hid (RdK W0 (.slice ua m.length uc) m) := Lib.hid (by rw [hW0]; exact (hu.alloc _).alloc _)
  have a16 : W0.cell? ⟨w.heap.size, 16, none⟩ = some (.int .i64 a.ep) := by rw [cell_of_row _ _ _ _ _ _ HR1.out]; exact bc_16 _ _
  have a17 : W0.cell? ⟨w.heap.size, 17, none⟩ = some (.int .i64 a.num) := by rw [cell_of_row _ _ _ _ _ _ HR1.out]; exact bc_17 _ _
  have a18 : W0.cell? ⟨w.heap.size, 18, none⟩ = some (.int .i64 a.fw) := by rw [cell_of_row _ _ _ _ _ _ HR1.out]; exact bc_18 _ _
  have a19 : W0.cell? ⟨w.heap.size, 19, none⟩ = some (.int .i64 a.tm) := by rw [cell_of_row _ _ _ _ _ _ HR1.out]; exact bc_19 _ _
  have a36 : W0.cell? ⟨w.heap.size, 36, none⟩ = some (.string ⟨a.mo.toArray⟩) := by rw [cell_of_row _ _ _ _ _ _ HR1.out]; exact bc_36 _ _
  have a37 : W0.cell? ⟨w.heap.size, 37, none⟩ = some (.slice va l.length vc) := by rw [cell_of_row _ _ _ _ _ _ HR1.out]; exact bc_37 _ _
  have b16 : W0.cell? ⟨w.heap.size + 1, 16, none⟩ = some (.int .i64 b.ep) := by rw [cell_of_row _ _ _ _ _ _ HR2.out]; exact bc_16 _ _
  have b17 : W0.cell? ⟨w.heap.size + 1, 17, none⟩ = some (.int .i64 b.num) := by rw [cell_of_row _ _ _ _ _ _ HR2.out]; exact bc_17 _ _
  have b18 : W0.cell? ⟨w.heap.size + 1, 18, none⟩ = some (.int .i64 b.fw) := by rw [cell_of_row _ _ _ _ _ _ HR2.out]; exact bc_18 _ _
  have b19 : W0.cell? ⟨w.heap.size + 1, 19, none⟩ = some (.int .i64 b.tm) := by rw [cell_of_row _ _ _ _ _ _ HR2.out]; exact bc_19 _ _
  have b36 : W0.cell? ⟨w.heap.size + 1, 36, none⟩ = some (.string ⟨b.mo.toArray⟩) := by rw [cell_of_row _ _ _ _ _ _ HR2.out]; exact bc_36 _ _
  have b37 : W0.cell? ⟨w.heap.size + 1, 37, none⟩ = some (.slice ua m.length uc) := by rw [cell_of_row _ _ _ _ _ _ HR2.out]; exact bc_37 _ _
  have HD1 := Lib.hid (bc_rdom HR1.out)
  have HD2 := Lib.hid (bc_rdom HR2.out)
  have HP1 := Lib.hid (bc_rpol HR1.out)
  have HP2 := Lib.hid (bc_rpol HR2.out)
  have hnd := fun w' => neq_d a.dom b.dom w'
  have hnp := fun w' => neq_d a.pol b.pol w'
  have HSB : Hid (sameB a l b m = (headS a b l.length m.length && decide (l = m))) := Lib.hid (by unfold sameB; rfl)
  clear hv hu hW0
  rcases headS_parts a b l.length m.length with ⟨hh, f1⟩ | ⟨hh, f1, f2⟩ | ⟨hh, f1, f2, f3⟩ | ⟨hh, f1, f2, f3, f4⟩ | ⟨hh, f1, f2, f3, f4, f5⟩ | ⟨hh, f1, f2, f3, f4, f5, f6⟩ | ⟨hh, f1, f2, f3, f4, f5, f6, f7⟩ | ⟨hh, f1, f2, f3, f4, f5, f6, f7, f8⟩ | ⟨hh, f1, f2, f3, f4, f5, f6, f7, f8⟩
  case inr.inr.inr.inr.inr.inr.inr.inr =>
    have HH := Lib.hid hh
    rw [f1] at hnd
    rw [f6] at hnp
    have g2 := bne_of f2
    have g3 := bne_of f3
    have g4 := bne_of f4
    have g5 := bne_of f5
    have g7 := bne_of f7
    have g8 := bne_of f8
    have HL : Hid (l.length = m.length) := Lib.hid (by have := f8; rw [beq_iff_eq] at this; omega)
    clear hh f1
    go_enter Tryz.func12, Tryz.ntmps12
    go_upto_region 1 with fail
    rw [← HW.out]
    have tok1 : True := trivial
    have tok2 : True := trivial
    have tok3 : True := trivial
    have tok4 : True := trivial
    go_wp2_with (first
      | (clear tok1; refine ld_digN a.dom w.heap.size 0 (.tmp 6) ?_ HD1.out ?_ ?_ ?_; exact rfl; exact rfl; exact rfl)
      | (clear tok2; refine ld_digN b.dom (w.heap.size + 1) 0 (.tmp 8) ?_ HD2.out ?_ ?_ ?_; exact rfl; exact rfl; exact rfl)
      | (clear tok3; refine ld_digK a.pol w.heap.size 20 (.tmp 40) ?_ HP1.out ?_ ?_ ?_; exact rfl; exact rfl; kernel_rfl)
      | (clear tok4; refine ld_digK b.pol (w.heap.size + 1) 20 (.tmp 42) ?_ HP2.out ?_ ?_ ?_; exact rfl; exact rfl; kernel_rfl))
    go_loopw [5] (fun o wr => ∃ i : Nat, i ≤ l.length ∧ o = .int .i64 i ∧ Hid (∀ j, j < i → keyAt l j = keyAt m j) ∧ ∃ n, wr = W0.drewN n) (fun o _ => l.length - (intOf o).toNat)
    case atStart => exact ⟨0, Nat.zero_le _, rfl, Lib.hid (fun j hj => absurd hj (by omega)), 0, rfl⟩
    case round =>
      obtain ⟨i, hi, rfl, hno, n, rfl⟩ := hrel
      clear a16 a17 a18 a19 a36 b16 b17 b18 b19 b36 hnd hnp g2 g3 g4 g5 g7 g8 f2 f3 f4 f5 f6 f7 f8
      by_cases hlt : i < l.length
      · obtain ⟨bb, off, rfl, hb1, hrow⟩ := (HV.out.cells) (by omega)
        obtain ⟨b2, off2, rfl, hb2, hrow2⟩ := (HU.out.cells) (by have := HL.out; omega)
        have hneq := fun w' => neq_k (keyAt l i) (keyAt m i) w'
        rw [kEq_eq] at hneq
        unfold kc at hneq
        obtain ⟨d0, d1, d2, d3, d4, d5, d6, d7, d8⟩ := hrow i hlt
        obtain ⟨x0, x1, x2, x3, x4, x5, x6, x7, x8⟩ := hrow2 i (by have := HL.out; omega)
        have i1 : (i : Int) < l.length := by omega
        have i2 : (i : Int) < m.length := by have := HL.out; omega
        have i3 : i < m.length := by have := HL.out; omega
        have HK := Lib.hid hlt
        have HNO := hno
        clear hrow hrow2 hno
        by_cases hq : keyAt l i = keyAt m i
        · rw [decide_eq_true hq] at hneq
          have HQ := Lib.hid hq
          clear hq
          go_wp2
          first | refine allD (by kernel_rfl) (by kernel_rfl) ?_ | refine all0 (by kernel_rfl) (by kernel_rfl) ?_
          repeat (go_big_quiet_step (fail))
          refine wpQuiet_nil ?_
          rintro _ ⟨nq, rfl⟩
          go_wp2
          go_roundw
          case rel => exact ⟨i + 1, HK.out, by go_num, Lib.hid (fun j hj => by
            by_cases e : j = i
            · subst e; exact HQ.out
            · exact HNO.out j (by omega)), _, rfl⟩
          case measure => have := HK.out; simp [intOf]; omega
        · rw [decide_eq_false hq] at hneq
          have hres : sameB a l b m = false := by rw [HSB.out, decide_eq_false (fun e => hq (by rw [e])), Bool.and_false]
          have HRES := Lib.hid hres
          clear hq hres
          go_wp2
          first | refine allD (by kernel_rfl) (by kernel_rfl) ?_ | refine all0 (by kernel_rfl) (by kernel_rfl) ?_
          repeat (go_big_quiet_step (fail))
          refine wpQuiet_nil ?_
          rintro _ ⟨nq, rfl⟩
          go_wp2
          go_ret
          exact ⟨by rw [HRES.out]; rfl, below_drewN _ HBE.out⟩
      · have i1 : (l.length : Int) ≤ i := by omega
        have hres : sameB a l b m = true := by
          rw [HSB.out, HH.out, decide_eq_true (ext_k HL.out (fun j hj => hno.out j (by omega)))]
          rfl
        have HRES := Lib.hid hres
        clear hno hres hlt hi
        go_wp2
        go_ret
        exact ⟨by rw [HRES.out]; rfl, below_drewN _ HBE.out⟩
  case inl =>
    have HH := Lib.hid hh
    rw [f1] at hnd
    clear hh f1
    go_enter Tryz.func12, Tryz.ntmps12
    go_upto_region 1 with fail
    rw [← HW.out]
    have tok1 : True := trivial
    have tok2 : True := trivial
    have tok3 : True := trivial
    have tok4 : True := trivial
    go_wp2_with (first
      | (clear tok1; refine ld_digN a.dom w.heap.size 0 (.tmp 6) ?_ HD1.out ?_ ?_ ?_; exact rfl; exact rfl; exact rfl)
      | (clear tok2; refine ld_digN b.dom (w.heap.size + 1) 0 (.tmp 8) ?_ HD2.out ?_ ?_ ?_; exact rfl; exact rfl; exact rfl))
    go_ret
    exact ⟨by rw [HSB.out, HH.out]; rfl, HBE.out⟩
  case inr.inl =>
    have HH := Lib.hid hh
    rw [f1] at hnd
    have g2 := bne_of f2
    clear hh f1
    go_enter Tryz.func12, Tryz.ntmps12
    go_upto_region 1 with fail
    rw [← HW.out]
    have tok1 : True := trivial
    have tok2 : True := trivial
    have tok3 : True := trivial
    have tok4 : True := trivial
    go_wp2_with (first
      | (clear tok1; refine ld_digN a.dom w.heap.size 0 (.tmp 6) ?_ HD1.out ?_ ?_ ?_; exact rfl; exact rfl; exact rfl)
      | (clear tok2; refine ld_digN b.dom (w.heap.size + 1) 0 (.tmp 8) ?_ HD2.out ?_ ?_ ?_; exact rfl; exact rfl; exact rfl))
    go_ret
    exact ⟨by rw [HSB.out, HH.out]; rfl, HBE.out⟩
  case inr.inr.inl =>
    have HH := Lib.hid hh
    rw [f1] at hnd
    have g2 := bne_of f2
    have g3 := bne_of f3
    clear hh f1
    go_enter Tryz.func12, Tryz.ntmps12
    go_upto_region 1 with fail
    rw [← HW.out]
    have tok1 : True := trivial
    have tok2 : True := trivial
    have tok3 : True := trivial
    have tok4 : True := trivial
    go_wp2_with (first
      | (clear tok1; refine ld_digN a.dom w.heap.size 0 (.tmp 6) ?_ HD1.out ?_ ?_ ?_; exact rfl; exact rfl; exact rfl)
      | (clear tok2; refine ld_digN b.dom (w.heap.size + 1) 0 (.tmp 8) ?_ HD2.out ?_ ?_ ?_; exact rfl; exact rfl; exact rfl))
    go_ret
    exact ⟨by rw [HSB.out, HH.out]; rfl, HBE.out⟩
  case inr.inr.inr.inl =>
    have HH := Lib.hid hh
    rw [f1] at hnd
    have g2 := bne_of f2
    have g3 := bne_of f3
    have g4 := bne_of f4
    clear hh f1
    go_enter Tryz.func12, Tryz.ntmps12
    go_upto_region 1 with fail
    rw [← HW.out]
    have tok1 : True := trivial
    have tok2 : True := trivial
    have tok3 : True := trivial
    have tok4 : True := trivial
    go_wp2_with (first
      | (clear tok1; refine ld_digN a.dom w.heap.size 0 (.tmp 6) ?_ HD1.out ?_ ?_ ?_; exact rfl; exact rfl; exact rfl)
      | (clear tok2; refine ld_digN b.dom (w.heap.size + 1) 0 (.tmp 8) ?_ HD2.out ?_ ?_ ?_; exact rfl; exact rfl; exact rfl))
    go_ret
    exact ⟨by rw [HSB.out, HH.out]; rfl, HBE.out⟩
  case inr.inr.inr.inr.inl =>
    have HH := Lib.hid hh
    rw [f1] at hnd
    have g2 := bne_of f2
    have g3 := bne_of f3
    have g4 := bne_of f4
    have g5 := bne_of f5
    clear hh f1
    go_enter Tryz.func12, Tryz.ntmps12
    go_upto_region 1 with fail
    rw [← HW.out]
    have tok1 : True := trivial
    have tok2 : True := trivial
    have tok3 : True := trivial
    have tok4 : True := trivial
    go_wp2_with (first
      | (clear tok1; refine ld_digN a.dom w.heap.size 0 (.tmp 6) ?_ HD1.out ?_ ?_ ?_; exact rfl; exact rfl; exact rfl)
      | (clear tok2; refine ld_digN b.dom (w.heap.size + 1) 0 (.tmp 8) ?_ HD2.out ?_ ?_ ?_; exact rfl; exact rfl; exact rfl))
    go_ret
    exact ⟨by rw [HSB.out, HH.out]; rfl, HBE.out⟩
  case inr.inr.inr.inr.inr.inl =>
    have HH := Lib.hid hh
    rw [f1] at hnd
    rw [f6] at hnp
    have g2 := bne_of f2
    have g3 := bne_of f3
    have g4 := bne_of f4
    have g5 := bne_of f5
    clear hh f1
    go_enter Tryz.func12, Tryz.ntmps12
    go_upto_region 1 with fail
    rw [← HW.out]
    have tok1 : True := trivial
    have tok2 : True := trivial
    have tok3 : True := trivial
    have tok4 : True := trivial
    go_wp2_with (first
      | (clear tok1; refine ld_digN a.dom w.heap.size 0 (.tmp 6) ?_ HD1.out ?_ ?_ ?_; exact rfl; exact rfl; exact rfl)
      | (clear tok2; refine ld_digN b.dom (w.heap.size + 1) 0 (.tmp 8) ?_ HD2.out ?_ ?_ ?_; exact rfl; exact rfl; exact rfl)
      | (clear tok3; refine ld_digK a.pol w.heap.size 20 (.tmp 40) ?_ HP1.out ?_ ?_ ?_; exact rfl; exact rfl; kernel_rfl)
      | (clear tok4; refine ld_digK b.pol (w.heap.size + 1) 20 (.tmp 42) ?_ HP2.out ?_ ?_ ?_; exact rfl; exact rfl; kernel_rfl))
    go_ret
    exact ⟨by rw [HSB.out, HH.out]; rfl, HBE.out⟩
  case inr.inr.inr.inr.inr.inr.inl =>
    have HH := Lib.hid hh
    rw [f1] at hnd
    rw [f6] at hnp
    have g2 := bne_of f2
    have g3 := bne_of f3
    have g4 := bne_of f4
    have g5 := bne_of f5
    have g7 := bne_of f7
    clear hh f1
    go_enter Tryz.func12, Tryz.ntmps12
    go_upto_region 1 with fail
    rw [← HW.out]
    have tok1 : True := trivial
    have tok2 : True := trivial
    have tok3 : True := trivial
    have tok4 : True := trivial
    go_wp2_with (first
      | (clear tok1; refine ld_digN a.dom w.heap.size 0 (.tmp 6) ?_ HD1.out ?_ ?_ ?_; exact rfl; exact rfl; exact rfl)
      | (clear tok2; refine ld_digN b.dom (w.heap.size + 1) 0 (.tmp 8) ?_ HD2.out ?_ ?_ ?_; exact rfl; exact rfl; exact rfl)
      | (clear tok3; refine ld_digK a.pol w.heap.size 20 (.tmp 40) ?_ HP1.out ?_ ?_ ?_; exact rfl; exact rfl; kernel_rfl)
      | (clear tok4; refine ld_digK b.pol (w.heap.size + 1) 20 (.tmp 42) ?_ HP2.out ?_ ?_ ?_; exact rfl; exact rfl; kernel_rfl))
    go_ret
    exact ⟨by rw [HSB.out, HH.out]; rfl, HBE.out⟩
  case inr.inr.inr.inr.inr.inr.inr.inl =>
    have HH := Lib.hid hh
    rw [f1] at hnd
    rw [f6] at hnp
    have g2 := bne_of f2
    have g3 := bne_of f3
    have g4 := bne_of f4
    have g5 := bne_of f5
    have g7 := bne_of f7
    have g8 := bne_of f8
    clear hh f1
    go_enter Tryz.func12, Tryz.ntmps12
    go_upto_region 1 with fail
    rw [← HW.out]
    have tok1 : True := trivial
    have tok2 : True := trivial
    have tok3 : True := trivial
    have tok4 : True := trivial
    go_wp2_with (first
      | (clear tok1; refine ld_digN a.dom w.heap.size 0 (.tmp 6) ?_ HD1.out ?_ ?_ ?_; exact rfl; exact rfl; exact rfl)
      | (clear tok2; refine ld_digN b.dom (w.heap.size + 1) 0 (.tmp 8) ?_ HD2.out ?_ ?_ ?_; exact rfl; exact rfl; exact rfl)
      | (clear tok3; refine ld_digK a.pol w.heap.size 20 (.tmp 40) ?_ HP1.out ?_ ?_ ?_; exact rfl; exact rfl; kernel_rfl)
      | (clear tok4; refine ld_digK b.pol (w.heap.size + 1) 20 (.tmp 42) ?_ HP2.out ?_ ?_ ?_; exact rfl; exact rfl; kernel_rfl))
    go_ret
    exact ⟨by rw [HSB.out, HH.out]; rfl, HBE.out⟩
end Go.Proofs.YtbpjdfnnlmblaaaGreatDoor
/- Small backups; a value of equal bytes. -/
namespace Go.Proofs.YtbpjdfnnlmblaaaGreatDoor
open Go.RowKit Go.Shelf
set_option linter.unusedSimpArgs false
set_option linter.unusedVariables false
def fewB (b : BK) (l : List K) : Bool := l.all (fun k => decide (k.val.length ≤ 100)) && (decide (l.length ≤ 40) && decide (b.mo.length ≤ 50))
attribute [local irreducible] Calls
set_option maxRecDepth 100000 in
set_option maxHeartbeats 2000000 in
theorem few36_c (b : BK) (v : Value) (l : List K) (w : World) (hv : RdK w v l) :
    Calls Tryz.prog 6 #[.agg (bc b v)] w fun e w' => e = .returned (.bool (fewB b l)) ∧ Below w.heap.size w w' := by
  have hlen := hv.len
  unfold maxLen at hlen
  have hv9 := hv
  obtain ⟨va, vc, rfl, _, _, _⟩ := hv9
  obtain ⟨W0, hW0⟩ : ∃ W0, W0 = w.alloc (.cells (bc b (.slice va l.length vc)) 26) := ⟨_, rfl⟩
  have HW := Lib.hid hW0
  have HBE : Hid (Below w.heap.size w W0) := Lib.hid (by rw [hW0]; exact (Below.refl _ _).alloc (Nat.le_refl _) _)
  have HR1 : Hid (W0.heap[w.heap.size]? = some (.cells (bc b (.slice va l.length vc)) 26 (0, 0))) := Lib.hid (by rw [hW0]; exact heap_last _ _ _ rfl)
  have HV : Hid (RdK W0 (.slice va l.length vc) l) := Lib.hid (by rw [hW0]; exact hv.alloc _)
  have a36 : W0.cell? ⟨w.heap.size, 36, none⟩ = some (.string ⟨b.mo.toArray⟩) := by rw [cell_of_row _ _ _ _ _ _ HR1.out]; exact bc_36 _ _
  have a37 : W0.cell? ⟨w.heap.size, 37, none⟩ = some (.slice va l.length vc) := by rw [cell_of_row _ _ _ _ _ _ HR1.out]; exact bc_37 _ _
  have HF : Hid (fewB b l = (l.all (fun k => decide (k.val.length ≤ 100)) && (decide (l.length ≤ 40) && decide (b.mo.length ≤ 50)))) := Lib.hid rfl
  clear hv hW0
  go_enter Tryz.func6, Tryz.ntmps6
  go_upto_region 1 with fail
  rw [← HW.out]
  go_wp2
  go_loopw [3] (fun o wr => ∃ i : Nat, i ≤ l.length ∧ o = .int .i64 i ∧ Hid (∀ j, j < i → (keyAt l j).val.length ≤ 100) ∧ wr = W0) (fun o _ => l.length - (intOf o).toNat)
  case atStart => exact ⟨0, Nat.zero_le _, rfl, Lib.hid (fun j hj => absurd hj (by omega)), rfl⟩
  case round =>
    obtain ⟨i, hi, rfl, hno, hwr⟩ := hrel
    rw [hwr]
    clear hwr
    by_cases hlt : i < l.length
    · obtain ⟨bb, off, rfl, hb1, hrow⟩ := (HV.out.cells) (by omega)
      obtain ⟨d0, d1, d2, d3, d4, d5, d6, d7, d8⟩ := hrow i hlt
      have i1 : (i : Int) < l.length := by omega
      have HK := Lib.hid hlt
      have HNO := hno
      clear hrow hno
      by_cases hq : (keyAt l i).val.length ≤ 100
      · have i2 : ¬ (100 : Int) < (keyAt l i).val.length := by omega
        have HQ := Lib.hid hq
        clear hq
        go_wp2
        go_roundw
        case rel => exact ⟨i + 1, HK.out, by go_num, Lib.hid (fun j hj => by
          by_cases e : j = i
          · subst e; exact HQ.out
          · exact HNO.out j (by omega)), by first | exact rfl | exact trivial⟩
        case measure => have := HK.out; simp [intOf]; omega
      · have i2 : (100 : Int) < (keyAt l i).val.length := by omega
        have hres : fewB b l = false := by
          rw [HF.out]
          have : l.all (fun k => decide (k.val.length ≤ 100)) = false := by
            rw [List.all_eq_false]
            refine ⟨keyAt l i, ?_, by simpa using hq⟩
            rw [keyAt_eq l i hlt]
            exact List.getElem_mem hlt
          rw [this]
          rfl
        have HRES := Lib.hid hres
        clear hq hres hlt
        go_wp2
        go_ret
        exact ⟨by rw [HRES.out]; rfl, HBE.out⟩
    · have i1 : (l.length : Int) ≤ i := by omega
      have hall : l.all (fun k => decide (k.val.length ≤ 100)) = true := by
        rw [List.all_eq_true]
        intro k hk
        obtain ⟨j, hj, rfl⟩ := List.mem_iff_getElem.1 hk
        have := hno.out j (by omega)
        rw [keyAt_eq l j hj] at this
        simpa using this
      have HA := Lib.hid hall
      clear hno hall hlt hi
      by_cases h40 : l.length ≤ 40
      · have i4 : (l.length : Int) ≤ 40 := by omega
        by_cases h50 : b.mo.length ≤ 50
        · have i5 : (b.mo.length : Int) ≤ 50 := by omega
          have hres : fewB b l = true := by rw [HF.out, HA.out, decide_eq_true h40, decide_eq_true h50]; rfl
          have HRES := Lib.hid hres
          clear hres h40 h50
          go_wp2
          go_ret
          exact ⟨by rw [HRES.out]; rfl, HBE.out⟩
        · have i5 : ¬ (b.mo.length : Int) ≤ 50 := by omega
          have hres : fewB b l = false := by rw [HF.out, HA.out, decide_eq_true h40, decide_eq_false h50]; rfl
          have HRES := Lib.hid hres
          clear hres h40 h50
          go_wp2
          go_ret
          exact ⟨by rw [HRES.out]; rfl, HBE.out⟩
      · have i4 : ¬ (l.length : Int) ≤ 40 := by omega
        have hres : fewB b l = false := by rw [HF.out, HA.out, decide_eq_false h40]; rfl
        have HRES := Lib.hid hres
        clear hres h40
        go_wp2
        go_ret
        exact ⟨by rw [HRES.out]; rfl, HBE.out⟩
end Go.Proofs.YtbpjdfnnlmblaaaGreatDoor
/- The live keys of a table. -/
namespace Go.Proofs.YtbpjdfnnlmblaaaGreatDoor
open Go.RowKit Go.Shelf
set_option linter.unusedSimpArgs false
set_option linter.unusedVariables false
def liveK (now : Int) (k : K) : Bool := decide (k.start ≤ now) && decide (now < k.fin)
attribute [local irreducible] Calls
set_option maxRecDepth 100000 in
set_option maxHeartbeats 1000000 in
theorem live_c (k : K) (now : Int) (w : World) : Calls Tryz.prog 33 #[kv k, .int .i64 now] w fun e w' => e = .returned (.bool (liveK now k)) ∧ Below w.heap.size w w' := by
  unfold kv kc liveK
  have HB := Lib.hid ((Below.refl w.heap.size w).alloc (Nat.le_refl _) (.cells #[.int .i64 k.id, .int .i64 k.ty, .string ⟨k.val.toArray⟩, .int .i64 k.uses, .int .i64 k.start, .int .i64 k.fin, .int .i64 k.ver, .int .i64 k.par, .bool k.raw] 45))
  by_cases h1 : k.start ≤ now
  · by_cases h2 : now < k.fin
    · rw [decide_eq_true h1, decide_eq_true h2]
      go_enter Tryz.func33, Tryz.ntmps33
      go_wp2
      go_ret
      exact ⟨rfl, HB.out⟩
    · rw [decide_eq_true h1, decide_eq_false h2]
      go_enter Tryz.func33, Tryz.ntmps33
      go_wp2
      go_ret
      exact ⟨rfl, HB.out⟩
  · rw [decide_eq_false h1]
    go_enter Tryz.func33, Tryz.ntmps33
    go_wp2
    go_ret
    exact ⟨rfl, HB.out⟩
end Go.Proofs.YtbpjdfnnlmblaaaGreatDoor
/- custodylaw36.value: a text of 32 equal bytes. -/
namespace Go.Proofs.YtbpjdfnnlmblaaaGreatDoor
open Go.RowKit Go.Shelf
set_option linter.unusedSimpArgs false
set_option linter.unusedVariables false
/-- the bytes laid so far -/
def upto (c : UInt8) (k : Nat) : List UInt8 := List.replicate k c ++ List.replicate (32 - k) 0
theorem upto_len (c : UInt8) (k : Nat) (h : k ≤ 32) : (upto c k).length = 32 := by unfold upto; rw [List.length_append, List.length_replicate, List.length_replicate]; omega
theorem upto_set (c : UInt8) (k : Nat) (h : k < 32) : (upto c k).set k c = upto c (k + 1) := by
  unfold upto
  rw [List.set_append_right _ _ (by rw [List.length_replicate]; exact Nat.le_refl _), List.length_replicate, Nat.sub_self, show 32 - k = (31 - k) + 1 by omega, List.replicate_succ, List.set_cons_zero, List.replicate_succ', List.append_assoc, show 32 - (k + 1) = 31 - k by omega]
  rfl
theorem upto_full (c : UInt8) : upto c 32 = List.replicate 32 c := by unfold upto; simp
theorem bcs_set (l : List UInt8) (k : Nat) (x : UInt8) : (bcs l).toArray.setIfInBounds k (.int .u8 (B8 x)) = (bcs (l.set k x)).toArray := by
  unfold bcs
  rw [List.map_set, List.setIfInBounds_toArray]
theorem conv_bcs (w : World) (g : Nat) (l : List UInt8) (T : TypeId) (cap : Nat) (h : w.heap[g]? = some (.cells (bcs l).toArray T (0, 0))) : (convert 50 9 (.slice (some ⟨g, 0, none⟩) l.length cap)).run Tryz.prog w = .ok (.string ⟨l.toArray⟩) w := by
  rw [← strOf_u8 l]
  refine run_convert_bytes_arg w _ _ Tryz.underlying50 Tryz.underlying5 g 0 _ _ _ (by simp) (fun i hi => ?_) _ Tryz.underlying9
  rw [Nat.zero_add, cell_of_row _ _ _ _ _ _ h]
  simp [bcs, byteAt, List.getD_eq_getElem?_getD, List.getElem?_eq_getElem hi]
attribute [local irreducible] Calls
set_option maxRecDepth 100000 in
set_option maxHeartbeats 1000000 in
theorem value_c (c : UInt8) (w : World) : Calls Tryz.prog 24 #[.int .u8 (B8 c)] w fun e w' => e = .returned (.string ⟨(List.replicate 32 c).toArray⟩) ∧ Below w.heap.size w w' := by
  have hmk : ∀ w : World, (Instr.makeSlice 50 (.int .i64 32) (.int .i64 32)).run Tryz.prog w = .ok (.slice (some ⟨w.heap.size, 0, none⟩) 32 32) (w.alloc (.cells (bcs (upto c 0)).toArray 5)) := fun _ => by kernel_rfl
  go_enter Tryz.func24, Tryz.ntmps24
  go_wp2
  clear hmk
  have h0 : (w.alloc (.cells (bcs (upto c 0)).toArray 5)).heap[w.heap.size]? = some (.cells (bcs (upto c 0)).toArray 5 (0, 0)) := heap_alloc_new _ _
  have hb0 : Below w.heap.size w (w.alloc (.cells (bcs (upto c 0)).toArray 5)) := (Below.refl _ _).alloc (Nat.le_refl _) _
  go_loopw [4] (fun i wr => ∃ k : Nat, k ≤ 32 ∧ i = .int .i64 k ∧ wr.heap[w.heap.size]? = some (.cells (bcs (upto c k)).toArray 5 (0, 0)) ∧ Below w.heap.size w wr) (fun i _ => 32 - (intOf i).toNat)
  case atStart => exact ⟨0, Nat.zero_le _, rfl, h0, hb0⟩
  case round =>
    clear h0 hb0
    obtain ⟨k, hk, rfl, hg, hb⟩ := hrel
    by_cases hlt : k < 32
    · have hl := upto_len c k hk
      have hc : wr.cell? ⟨w.heap.size, k, none⟩ = some (.int .u8 (B8 (byteAt (upto c k) k))) := by
        rw [cell_of_row _ _ _ _ _ _ hg]
        simp [bcs, byteAt, List.getD_eq_getElem?_getD, List.getElem?_eq_getElem (by omega : k < (upto c k).length)]
      have hset : wr.setCell ⟨w.heap.size, k, none⟩ (.int .u8 (B8 c)) = wr.setRow w.heap.size (bcs (upto c (k + 1))).toArray := by
        rw [setCell_rowC _ _ _ _ _ _ _ hg, bcs_set, upto_set c k hlt]
      have hfr : wr.frozen? ⟨w.heap.size, k, none⟩ = false := by simp [World.frozen?, hg]
      have HS := Lib.hid hset
      have HG := Lib.hid hg
      have HB := Lib.hid hb
      clear hl hset hg hb
      go_wp2
      rw [HS.out]
      go_roundw
      case rel => exact ⟨k + 1, by omega, by go_num, setRow_heap _ _ _ _ _ _ HG.out, HB.out.trans (below_row (Nat.le_refl _))⟩
      case measure => simp [intOf]; omega
    · have he : k = 32 := by omega
      have hcv := conv_bcs wr w.heap.size (upto c 32) 5 32 (by rw [he] at hg; exact hg)
      rw [upto_len c 32 (Nat.le_refl _), upto_full] at hcv
      have HB := Lib.hid hb
      clear hg hb
      go_wp2
      go_ret
      exact ⟨rfl, HB.out⟩
end Go.Proofs.YtbpjdfnnlmblaaaGreatDoor
/- Equal lists of keys: slices.Equal. -/
namespace Go.Proofs.YtbpjdfnnlmblaaaGreatDoor
open Go.RowKit Go.Shelf
set_option linter.unusedSimpArgs false
set_option linter.unusedVariables false
attribute [local irreducible] Calls kEq
set_option maxRecDepth 100000 in
set_option maxHeartbeats 1500000 in
theorem equal_k (v u : Value) (l m : List K) (w : World) (hv : RdK w v l) (hu : RdK w u m) :
    Calls Tryz.prog 39 #[v, u] w fun e w' => e = .returned (.bool (decide (l = m))) ∧ Below w.heap.size w w' := by
  have hlen := hv.len
  unfold maxLen at hlen
  have hv9 := hv
  have hu9 := hu
  obtain ⟨va, vc, rfl, _, _, _⟩ := hv9
  obtain ⟨ua, uc, rfl, _, _, _⟩ := hu9
  have HV := Lib.hid hv
  have HU := Lib.hid hu
  clear hv hu
  by_cases he : l.length = m.length
  · have HL := Lib.hid he
    have e1 : ((l.length : Int) != (m.length : Int)) = false := by rw [he]; simp
    have e2 : ((l.length : Int) == (m.length : Int)) = true := by rw [he]; simp
    clear he
    go_enter Tryz.func39, Tryz.ntmps39
    go_wp2
    go_loopw [13] (fun o wr => ∃ i : Nat, i ≤ l.length ∧ o = .int .i64 i ∧ Hid (∀ j, j < i → keyAt l j = keyAt m j) ∧ ∃ n, wr = w.drewN n) (fun o _ => l.length - (intOf o).toNat)
    case atStart => exact ⟨0, Nat.zero_le _, rfl, Lib.hid (fun j hj => absurd hj (by omega)), 0, rfl⟩
    case round =>
      obtain ⟨i, hi, rfl, hno, n, rfl⟩ := hrel
      clear e1 e2
      by_cases hlt : i < l.length
      · obtain ⟨bb, off, rfl, hb1, hrow⟩ := (HV.out.cells) (by omega)
        obtain ⟨b2, off2, rfl, hb2, hrow2⟩ := (HU.out.cells) (by have := HL.out; omega)
        have hneq := fun w' => neq_k (keyAt l i) (keyAt m i) w'
        rw [kEq_eq] at hneq
        unfold kc at hneq
        obtain ⟨d0, d1, d2, d3, d4, d5, d6, d7, d8⟩ := hrow i hlt
        obtain ⟨x0, x1, x2, x3, x4, x5, x6, x7, x8⟩ := hrow2 i (by have := HL.out; omega)
        have i1 : (i : Int) < l.length := by omega
        have i2 : (i : Int) < m.length := by have := HL.out; omega
        have i3 : i < m.length := by have := HL.out; omega
        have HK := Lib.hid hlt
        have HNO := hno
        clear hrow hrow2 hno
        by_cases hq : keyAt l i = keyAt m i
        · rw [decide_eq_true hq] at hneq
          have HQ := Lib.hid hq
          clear hq
          go_wp2
          first | refine allD (by kernel_rfl) (by kernel_rfl) ?_ | refine all0 (by kernel_rfl) (by kernel_rfl) ?_
          repeat (go_big_quiet_step (fail))
          refine wpQuiet_nil ?_
          rintro _ ⟨nq, rfl⟩
          go_wp2
          go_roundw
          case rel => exact ⟨i + 1, HK.out, by go_num, Lib.hid (fun j hj => by
            by_cases e : j = i
            · subst e; exact HQ.out
            · exact HNO.out j (by omega)), _, rfl⟩
          case measure => have := HK.out; simp [intOf]; omega
        · rw [decide_eq_false hq] at hneq
          have hres : decide (l = m) = false := decide_eq_false (fun e => hq (by rw [e]))
          have HRES := Lib.hid hres
          clear hq hres
          go_wp2
          first | refine allD (by kernel_rfl) (by kernel_rfl) ?_ | refine all0 (by kernel_rfl) (by kernel_rfl) ?_
          repeat (go_big_quiet_step (fail))
          refine wpQuiet_nil ?_
          rintro _ ⟨nq, rfl⟩
          go_wp2
          go_ret
          exact ⟨by rw [HRES.out]; rfl, below_drewN _ (Below.refl _ _)⟩
      · have i1 : (l.length : Int) ≤ i := by omega
        have hres : decide (l = m) = true := decide_eq_true (ext_k HL.out (fun j hj => hno.out j (by omega)))
        have HRES := Lib.hid hres
        clear hno hres hlt hi
        go_wp2
        go_ret
        exact ⟨by rw [HRES.out]; rfl, below_drewN _ (Below.refl _ _)⟩
  · have e1 : ((l.length : Int) != (m.length : Int)) = true := by simp; omega
    have e2 : ((l.length : Int) == (m.length : Int)) = false := by simp; omega
    have hres : decide (l = m) = false := decide_eq_false (fun e => he (by rw [e]))
    go_enter Tryz.func39, Tryz.ntmps39
    go_wp2
    go_ret
    exact ⟨by rw [hres]; rfl, Below.refl _ _⟩
end Go.Proofs.YtbpjdfnnlmblaaaGreatDoor
/- Is a key among the keys: slices.Index, slices.Contains. -/
namespace Go.Proofs.YtbpjdfnnlmblaaaGreatDoor
open Go.RowKit Go.Shelf
set_option linter.unusedSimpArgs false
set_option linter.unusedVariables false
/-- where the key lies first, or -1 -/
def firstK (x : K) (l : List K) : Int := firstIx (fun k => decide (k = x)) l
theorem eql_k (a b : K) (w : World) : (binOp .eql 45 (.agg (kc a)) (.agg (kc b))).run Tryz.prog w = .ok (.bool (kEq a b)) w := by
  have h := neq_k a b w
  rw [run_neq_struct] at h
  rw [run_eql_struct]
  generalize (Op.equalIn 10000 45 (.agg (kc a)) (.agg (kc b))).run Tryz.prog w = E at h ⊢
  cases E with
  | ok x w1 =>
    simp only [Result.andThen, Result.ok.injEq, Value.bool.injEq] at h ⊢
    obtain ⟨h1, h2⟩ := h
    refine ⟨?_, h2⟩
    cases x <;> cases hk : kEq a b <;> simp_all
  | _ => simp [Result.andThen] at h
attribute [local irreducible] Calls kEq
set_option maxRecDepth 100000 in
set_option maxHeartbeats 1500000 in
theorem index_k (v : Value) (l : List K) (x : K) (w : World) (hv : RdK w v l) :
    Calls Tryz.prog 79 #[v, kv x] w fun e w' => e = .returned (.int .i64 (firstK x l)) ∧ Below w.heap.size w w' := by
  have hlen := hv.len
  unfold maxLen at hlen
  have hv9 := hv
  obtain ⟨va, vc, rfl, _, _, _⟩ := hv9
  obtain ⟨W0, hW0⟩ : ∃ W0, W0 = w.alloc (.cells (kc x) 45) := ⟨_, rfl⟩
  have HW := Lib.hid hW0
  have HBE : Hid (Below w.heap.size w W0) := Lib.hid (by rw [hW0]; exact (Below.refl _ _).alloc (Nat.le_refl _) _)
  have hbk : W0.heap[w.heap.size]? = some (.cells (kc x) 45 (0, 0)) := by rw [hW0]; exact heap_last _ _ _ rfl
  have HX : Hid (Nine W0 w.heap.size 0 x) := Lib.hid (by unfold Nine; refine ⟨?_, ?_, ?_, ?_, ?_, ?_, ?_, ?_, ?_⟩ <;> (rw [cell_of_row _ _ _ _ _ _ hbk]; rfl))
  have HV : Hid (RdK W0 (.slice va l.length vc) l) := Lib.hid (by rw [hW0]; exact hv.alloc _)
  clear hv hW0 hbk
  unfold kv
  go_enter Tryz.func79, Tryz.ntmps79
  go_wp2
  rw [← HW.out]
  go_loopw [8] (fun o wr => ∃ i : Nat, i ≤ l.length ∧ o = .int .i64 i ∧ Hid (∀ j, j < i → keyAt l j ≠ x) ∧ ∃ n, wr = W0.drewN n) (fun o _ => l.length - (intOf o).toNat)
  case atStart => exact ⟨0, Nat.zero_le _, rfl, Lib.hid (fun j hj => absurd hj (by omega)), 0, rfl⟩
  case round =>
    obtain ⟨i, hi, rfl, hno, n, rfl⟩ := hrel
    by_cases hlt : i < l.length
    · obtain ⟨bb, off, rfl, hb1, hrow⟩ := (HV.out.cells) (by omega)
      have hneq := fun w' => eql_k x (keyAt l i) w'
      rw [kEq_eq] at hneq
      unfold kc at hneq
      obtain ⟨d0, d1, d2, d3, d4, d5, d6, d7, d8⟩ := hrow i hlt
      obtain ⟨x0, x1, x2, x3, x4, x5, x6, x7, x8⟩ := HX.out
      rw [Nat.zero_add] at x1 x2 x3 x4 x5 x6 x7 x8
      have i1 : (i : Int) < l.length := by omega
      have HK := Lib.hid hlt
      have HNO := hno
      clear hrow hno
      by_cases hq : x = keyAt l i
      · rw [decide_eq_true hq] at hneq
        have hres : firstK x l = i := firstIx_hit _ l i hlt (fun j hj => decide_eq_false (HNO.out j hj)) (decide_eq_true hq.symm)
        have HRES := Lib.hid hres
        clear hq hres
        go_wp2
        first | refine allD (by kernel_rfl) (by kernel_rfl) ?_ | refine all0 (by kernel_rfl) (by kernel_rfl) ?_
        repeat (go_big_quiet_step (fail))
        refine wpQuiet_nil ?_
        rintro _ ⟨nq, rfl⟩
        go_wp2
        go_ret
        exact ⟨by rw [HRES.out]; rfl, below_drewN _ HBE.out⟩
      · rw [decide_eq_false hq] at hneq
        have HQ := Lib.hid hq
        clear hq
        go_wp2
        first | refine allD (by kernel_rfl) (by kernel_rfl) ?_ | refine all0 (by kernel_rfl) (by kernel_rfl) ?_
        repeat (go_big_quiet_step (fail))
        refine wpQuiet_nil ?_
        rintro _ ⟨nq, rfl⟩
        go_wp2
        go_roundw
        case rel => exact ⟨i + 1, HK.out, by go_num, Lib.hid (fun j hj => by
          by_cases e : j = i
          · subst e; exact fun e9 => HQ.out e9.symm
          · exact HNO.out j (by omega)), _, rfl⟩
        case measure => have := HK.out; simp [intOf]; omega
    · have i1 : (l.length : Int) ≤ i := by omega
      have hres : firstK x l = -1 := firstIx_miss _ l (fun j hj => decide_eq_false (hno.out j (by omega)))
      have HRES := Lib.hid hres
      clear hno hres hlt hi
      go_wp2
      go_ret
      exact ⟨by rw [HRES.out]; rfl, below_drewN _ HBE.out⟩
end Go.Proofs.YtbpjdfnnlmblaaaGreatDoor
/- Is a key among the keys: slices.Contains. -/
namespace Go.Proofs.YtbpjdfnnlmblaaaGreatDoor
open Go.RowKit Go.Shelf
set_option linter.unusedSimpArgs false
set_option linter.unusedVariables false
theorem firstK_ge (x : K) (l : List K) : decide ((0 : Int) ≤ firstK x l) = decide (x ∈ l) := by
  unfold firstK firstIx
  cases h : l.findIdx? (fun k => decide (k = x)) with
  | none =>
    rw [List.findIdx?_eq_none_iff] at h
    have : ¬ x ∈ l := fun hm => by have := h x hm; simp at this
    simp [this]
  | some i =>
    rw [List.findIdx?_eq_some_iff_getElem] at h
    obtain ⟨hi, h1, _⟩ := h
    have : x ∈ l := by rw [← of_decide_eq_true h1]; exact List.getElem_mem hi
    simp [this]
attribute [local irreducible] Calls kEq firstK
set_option maxRecDepth 100000 in
set_option maxHeartbeats 1500000 in
theorem contains_k (v : Value) (l : List K) (x : K) (w : World) (hv : RdK w v l) :
    Calls Tryz.prog 46 #[v, kv x] w fun e w' => e = .returned (.bool (decide (x ∈ l))) ∧ Below w.heap.size w w' := by
  have HR := Lib.hid (firstK_ge x l)
  have hbx : Below w.heap.size w (w.alloc (.cells (kc x) 45)) := (Below.refl _ _).alloc (Nat.le_refl _) _
  have hc : Calls Tryz.prog 79 #[v, kv x] (w.alloc (.cells (kc x) 45)) fun e w' => e = .returned (.int .i64 (firstK x l)) ∧ Below w.heap.size w w' :=
    (index_k v l x _ (hv.alloc _)).mono (fun e w' h => ⟨h.1, hbx.trans (h.2.mono (by simp))⟩)
  have HC := Lib.hid hc
  have hc2 : Calls Tryz.prog 79 #[v, kv x] w fun e w' => e = .returned (.int .i64 (firstK x l)) ∧ Below w.heap.size w w' := index_k v l x w hv
  have HC2 := Lib.hid hc2
  clear hc hc2 hv hbx
  unfold kv at HC HC2 ⊢
  unfold kc at HC HC2 ⊢
  generalize firstK x l = f at HC HC2 HR
  by_cases h0 : (0 : Int) ≤ f
  · have h1 : ¬ f < 0 := by omega
    have hres : decide (x ∈ l) = true := by rw [← HR.out, decide_eq_true h0]
    rw [hres]
    go_enter Tryz.func46, Tryz.ntmps46
    go_wp2_with (go_at_call 79; (first | (refine HC.out.mono ?_) | (refine HC2.out.mono ?_)); rintro e w1 ⟨rfl, hb⟩)
    go_ret
    exact ⟨rfl, hb⟩
  · have h1 : f < 0 := by omega
    have hres : decide (x ∈ l) = false := by rw [← HR.out, decide_eq_false h0]
    rw [hres]
    go_enter Tryz.func46, Tryz.ntmps46
    go_wp2_with (go_at_call 79; (first | (refine HC.out.mono ?_) | (refine HC2.out.mono ?_)); rintro e w1 ⟨rfl, hb⟩)
    go_ret
    exact ⟨by show Ending.returned (.bool (decide (0 ≤ f))) = _; rw [decide_eq_false (by omega)], hb⟩
end Go.Proofs.YtbpjdfnnlmblaaaGreatDoor
/- The test of backup.Complete: a key that the backup lacks. -/
namespace Go.Proofs.YtbpjdfnnlmblaaaGreatDoor
open Go.RowKit Go.Shelf
set_option linter.unusedSimpArgs false
set_option linter.unusedVariables false
theorem egComp : ∀ args w, (callFunc 45 args).run Tryz.prog w = .ok (.enter 45 args) w := enters_of Tryz.func45 (by kernel_rfl) rfl
attribute [local irreducible] Calls
set_option maxRecDepth 100000 in
set_option maxHeartbeats 2000000 in
theorem comp_pred (b : BK) (v : Value) (l : List K) (B : Nat) (w : World) (hv : RdK w v l) (hB : w.heap[B]? = some (.cells (bc b v) 26 (0, 0))) :
    PredB 45 #[.pointer (some ⟨B, 0, none⟩)] (fun x => !decide (x ∈ l)) w := fun W x hb => by
  have zB : B < w.heap.size := (Array.getElem?_eq_some_iff.1 hB).1
  have hW := hb.size
  have b37 : W.cell? ⟨B, 37, none⟩ = some v := by rw [hb.cell (p := ⟨B, 37, none⟩) zB, cell_of_row _ _ _ _ _ _ hB]; exact bc_37 _ _
  have l1 : B < W.heap.size := by omega
  have n1 : B ≠ W.heap.size := by omega
  have hbx : Below W.heap.size W (W.alloc (.cells (kc x) 45)) := (Below.refl _ _).alloc (Nat.le_refl _) _
  have hc := contains_k v l x (W.alloc (.cells (kc x) 45)) ((hv.on hb).alloc _)
  have HBX : Hid (∀ w1, Below (W.alloc (.cells (kc x) 45)).heap.size (W.alloc (.cells (kc x) 45)) w1 → Below w.heap.size w w1) :=
    Lib.hid (fun w1 h => hb.trans ((hbx.trans (h.mono (by simp))).mono hW))
  unfold kv kc at hc
  unfold kc at HBX
  have HC := Lib.hid hc
  obtain ⟨a, cap, rfl, _, _, _⟩ := hv
  clear hc hb hB hbx
  show Calls Tryz.prog 45 #[.agg #[.int .i64 x.id, .int .i64 x.ty, .string ⟨x.val.toArray⟩, .int .i64 x.uses, .int .i64 x.start, .int .i64 x.fin, .int .i64 x.ver, .int .i64 x.par, .bool x.raw], .pointer (some ⟨B, 0, none⟩)] W _
  go_enter Tryz.func45, Tryz.ntmps45
  go_wp2_with (go_at_call 46; refine HC.out.mono ?_; rintro e w1 ⟨rfl, hb'⟩; have hbb := HBX.out _ hb')
  go_ret
  exact ⟨by simp, hbb⟩
end Go.Proofs.YtbpjdfnnlmblaaaGreatDoor
/- custodylaw36.starts: no key of a table starts after a time. -/
namespace Go.Proofs.YtbpjdfnnlmblaaaGreatDoor
open Go.RowKit Go.Shelf
set_option linter.unusedSimpArgs false
set_option linter.unusedVariables false
def startsB (l : List K) (now : Int) : Bool := l.all (fun k => decide (k.start ≤ now))
attribute [local irreducible] Calls
end Go.Proofs.YtbpjdfnnlmblaaaGreatDoor
/- Selecting the live keys, and being complete: in plain words. -/
namespace Go.Proofs.YtbpjdfnnlmblaaaGreatDoor
open Go.RowKit Go.Shelf
set_option linter.unusedSimpArgs false
set_option linter.unusedVariables false
/-- the live keys -/
def selK (now : Int) (l : List K) : List K := l.filter (liveK now)
/-- every live key is among bl -/
def compB (bl tl : List K) (now : Int) : Bool := !((selK now tl).any (fun x => !decide (x ∈ bl)))
theorem selK_take (now : Int) (l : List K) (i : Nat) (h : i < l.length) : selK now (l.take (i + 1)) = if liveK now (keyAt l i) = true then selK now (l.take i) ++ [keyAt l i] else selK now (l.take i) := by
  unfold selK
  rw [take_keyAt l i h, List.filter_append]
  by_cases hq : liveK now (keyAt l i) = true
  · rw [if_pos hq, List.filter_cons_of_pos hq, List.filter_nil]
  · rw [if_neg hq, List.filter_cons_of_neg hq, List.filter_nil, List.append_nil]
theorem selK_len (now : Int) (l : List K) : (selK now l).length ≤ l.length := List.length_filter_le _ _
theorem selK_take_len (now : Int) (l : List K) (i : Nat) : (selK now (l.take i)).length ≤ l.length := Nat.le_trans (selK_len _ _) (by rw [List.length_take]; omega)
theorem compB_iff (bl tl : List K) (now : Int) : compB bl tl now = true ↔ ∀ x ∈ tl, liveK now x = true → x ∈ bl := by
  unfold compB selK
  rw [Bool.not_eq_true', List.any_eq_false]
  constructor
  · intro h x hx hl
    have := h x (List.mem_filter.2 ⟨hx, hl⟩)
    simpa using this
  · intro h x hx
    have hm := List.mem_filter.1 hx
    have := h x hm.1 hm.2
    simp [this]
theorem compB_sel (tl : List K) (now : Int) : compB (selK now tl) tl now = true := (compB_iff _ _ _).2 (fun x hx hl => List.mem_filter.2 ⟨hx, hl⟩)
theorem compB_later (tl : List K) (now later : Int) (h : now ≤ later) (hs : startsB tl now = true) : compB (selK now tl) tl later = true := by
  rw [compB_iff]
  intro x hx hl
  refine List.mem_filter.2 ⟨hx, ?_⟩
  unfold startsB at hs
  rw [List.all_eq_true] at hs
  have h1 := hs x hx
  unfold liveK at hl ⊢
  simp only [Bool.and_eq_true, decide_eq_true_eq] at h1 hl ⊢
  omega
theorem compB_all (tl : List K) (now : Int) : compB tl tl now = true := (compB_iff _ _ _).2 (fun x hx _ => hx)
end Go.Proofs.YtbpjdfnnlmblaaaGreatDoor
/- The specification's Plan, refused at once. -/
namespace Go.Proofs.YtbpjdfnnlmblaaaGreatDoor
open Go.RowKit Go.Shelf
set_option linter.unusedSimpArgs false
set_option linter.unusedVariables false
theorem ld_bk2 {w : World} (b : BK) (u : Value) (A C : Obj) : ((((w.alloc A).alloc (.cells (bc b u) 26)).alloc C).heap[w.heap.size + 1]?) = some (.cells (bc b u) 26 (0, 0)) := by
  have h := heap_alloc_new (w.alloc A) (.cells (bc b u) 26)
  rw [World.size_alloc] at h
  have h2 := (Below.refl ((w.alloc A).alloc (.cells (bc b u) 26)).heap.size ((w.alloc A).alloc (.cells (bc b u) 26))).alloc (Nat.le_refl _) C
  rw [h2.block _ (by simp)]
  exact h
attribute [local irreducible] Calls validB planK
end Go.Proofs.YtbpjdfnnlmblaaaGreatDoor
/- The specification's Plan. -/
namespace Go.Proofs.YtbpjdfnnlmblaaaGreatDoor
open Go.RowKit Go.Shelf
set_option linter.unusedSimpArgs false
set_option linter.unusedVariables false
theorem plRun_nil (now : Int) (s : PS) (l : List K) : plRun now s (l.take 0) = .ok s := by rw [List.take_zero]; rfl
/-- the pair at a place -/
def pairAt (l : List (Int × Int)) (j : Nat) : Int × Int := l.getD j (0, 0)
theorem pairAt_eq (l : List (Int × Int)) (j : Nat) (h : j < l.length) : pairAt l j = l[j] := by simp [pairAt, h]
theorem lookP_take (ps : List (Int × Int)) (x : Int) (j : Nat) (h : j < ps.length) : lookP (ps.take (j + 1)) x = if (pairAt ps j).1 = x then (pairAt ps j).2 else lookP (ps.take j) x := by
  rw [List.take_succ_eq_append_getElem h, lookP_snoc, pairAt_eq ps j h]
theorem plStep_three (now : Int) (s : PS) (x : K) : (x.fin ≤ now ∧ plStep now s x = .ok s) ∨ (¬ x.fin ≤ now ∧ twinIs s.ks x = true ∧ plStep now s x = .ok (plTwin s x)) ∨
    (¬ x.fin ≤ now ∧ twinIs s.ks x = false ∧ ((addErr s.nx s.ks (newK s x) ≠ 0 ∧ plStep now s x = .error (addErr s.nx s.ks (newK s x))) ∨ (addErr s.nx s.ks (newK s x) = 0 ∧ plStep now s x = .ok (plAdd s x)))) := by
  rcases plStep_parts now s x with h | h | ⟨a, b, c⟩ | ⟨a, b, c⟩
  · exact .inl h
  · exact .inr (.inl h)
  · exact .inr (.inr ⟨a, b, .inl c⟩)
  · exact .inr (.inr ⟨a, b, .inr c⟩)
theorem kat_par {w : World} {B : Nat} {k : K} (h : KeyAt w B k) (n : Int) : KeyAt (w.setCell ⟨B, 7, none⟩ (.int .i64 n)) B (withPar k n) := by
  unfold KeyAt at *
  rw [setCell_rowK w B 7 _ _ _ _ h, setRow_heap _ _ _ _ _ _ h]
  rfl
theorem KeyAt.grown {w w' : World} {B : Nat} {k : K} {row : Option Nat} (h : KeyAt w B k) (hg : w.grownBy w' row) (hne : ∀ g, row = some g → g ≠ B) : KeyAt w' B k := by
  unfold KeyAt
  rw [grown_block hg h.lt hne]
  exact h
theorem OwnK.form {w : World} {base : Nat} {v : Value} {l : List K} (h : OwnK w base v l) : ∃ a n c, v = .slice a n c := by
  rcases h.2 with ⟨rfl, _⟩ | ⟨g, cap, cur, rfl, _⟩
  · exact ⟨_, _, _, rfl⟩
  · exact ⟨_, _, _, rfl⟩
theorem OwnE.form {α : Type} {E : El α} {w : World} {base : Nat} {v : Value} {l : List α} (h : OwnE E w base v l) : ∃ a n c, v = .slice a n c := by
  rcases h.2 with ⟨rfl, _⟩ | ⟨g, cap, cur, rfl, _⟩
  · exact ⟨_, _, _, rfl⟩
  · exact ⟨_, _, _, rfl⟩
theorem Good.wrap {nx : Int} {tl bl : List K} {now : Int} {s : PS} (h : Good nx tl bl now s) : IntKind.i64.wrap (s.nx + 1) = s.nx + 1 := by
  obtain ⟨_, h1, h2, _⟩ := (validTab_iff _ _).1 h.tab
  rw [IntKind.wrap_i64]
  omega
attribute [local irreducible] Calls validB planK plRun
theorem planR_ok {w w' : World} {s : PS} {e : Ending} {v vi : Value} {r : Except Int PS} (hr : r = .ok s) (he : e = .returned (.agg (pl s.nx v vi 0))) (h1 : RdK w' v s.ks) (h2 : RdI w' vi s.ids) (hb : Below w.heap.size w w') : PlanR w r e w' := by
  subst hr
  exact ⟨hb, v, vi, he, h1, h2⟩
theorem planR_no {w w' : World} {c : Int} {e : Ending} {r : Except Int PS} (hr : r = .error c) (he : e = .returned (.agg (pl 0 (.slice none 0 0) (.slice none 0 0) c))) (hb : Below w.heap.size w w') : PlanR w r e w' := by
  subst hr
  exact ⟨hb, he⟩
attribute [local irreducible] PlanR
end Go.Proofs.YtbpjdfnnlmblaaaGreatDoor
/- A map from numbers to numbers that the call makes, as a function. -/
namespace Go.Proofs.YtbpjdfnnlmblaaaGreatDoor
open Go.RowKit Go.Maps
set_option linter.unusedSimpArgs false
set_option linter.unusedVariables false
theorem lawI : Keyed Tryz.prog 3 := int_keyed Tryz.underlying3
theorem zeroI (w : World) : (zeroValue 3).run Tryz.prog w = .ok (.int .i64 0) w := by kernel_rfl
/-- a number of the machine's -/
def Wf (x : Int) : Prop := (Lit.int .i64 x).wf = true
theorem wf_of {x : Int} (h1 : -9223372036854775808 ≤ x) (h2 : x ≤ 9223372036854775807) : Wf x := WalkArith.wf_i64 ⟨h1, h2⟩
/-- block M is a map of at most n entries that answers f -/
def MapI (w : World) (M n : Nat) (f : Int → Int) : Prop :=
  ∃ D : DataW Unit, w.ownsMap Tryz.prog 3 (plainElem Tryz.prog 3) M n D ∧ IsMap D ∧ ∀ x : Int, Wf x → D.atKey (.int .i64 x) (.lit (.int .i64 0)) = .lit (.int .i64 (f x))
theorem MapI.made (w : World) : MapI (w.alloc (.map #[] 0)) w.heap.size 0 (fun _ => 0) := ⟨_, World.ownsMap_made _ _ _ _, isMap_empty, fun _ _ => rfl⟩
theorem MapI.block {w w' : World} {M n : Nat} {f : Int → Int} (h : MapI w M n f) (hb : w'.heap[M]? = w.heap[M]?) : MapI w' M n f := by
  obtain ⟨D, ⟨es, clock, hh, r⟩, h2⟩ := h
  exact ⟨D, ⟨es, clock, hb.trans hh, r⟩, h2⟩
theorem MapI.at {w : World} {M n : Nat} {f : Int → Int} (h : MapI w M n f) : ∃ es clock, w.heap[M]? = some (.map es clock) := by
  obtain ⟨D, ⟨es, clock, hh, r⟩, h2⟩ := h
  exact ⟨es, clock, hh⟩
theorem MapI.lt {w : World} {M n : Nat} {f : Int → Int} (h : MapI w M n f) : M < w.heap.size := by
  obtain ⟨es, clock, hh⟩ := h.at
  exact (Array.getElem?_eq_some_iff.1 hh).1
theorem MapI.on {w w' : World} {M n : Nat} {f : Int → Int} (h : MapI w M n f) (hb : Below w.heap.size w w') : MapI w' M n f := h.block (hb.block _ h.lt)
theorem MapI.eq {w : World} {M n : Nat} {f g : Int → Int} (h : MapI w M n f) (e : f = g) : MapI w M n g := e ▸ h
/-- a block of cells is not the map's -/
theorem MapI.ne {w : World} {M n : Nat} {f : Int → Int} (h : MapI w M n f) {g : Nat} {cs : Array Value} {T : TypeId} {fr : Nat × Nat} (hg : w.heap[g]? = some (.cells cs T fr)) : g ≠ M := by
  intro e
  subst e
  obtain ⟨es, clock, hh⟩ := h.at
  rw [hg] at hh
  cases hh
end Go.Proofs.YtbpjdfnnlmblaaaGreatDoor
/- The program's Plan: what it holds in memory. -/
namespace Go.Proofs.YtbpjdfnnlmblaaaGreatDoor
open Go.RowKit Go.Shelf
set_option linter.unusedSimpArgs false
set_option linter.unusedVariables false
theorem OwnK.neMap {w : World} {base : Nat} {v : Value} {l : List K} (h : OwnK w base v l) {M n : Nat} {f : Int → Int} (hm : MapI w M n f) : v.ownBlock ≠ some M := by
  obtain ⟨es, clock, hb⟩ := hm.at
  rcases h.2 with ⟨rfl, _⟩ | ⟨g0, cap, cur, rfl, _, hg, _⟩
  · simp [Value.ownBlock]
  · intro e
    simp only [Value.ownBlock, Option.some.injEq] at e
    subst e
    rw [hg] at hb
    cases hb
theorem OwnE.neMapI {α : Type} {E : El α} {w : World} {base : Nat} {v : Value} {l : List α} (h : OwnE E w base v l) {M n : Nat} {f : Int → Int} (hm : MapI w M n f) : v.ownBlock ≠ some M := by
  obtain ⟨es, clock, hb⟩ := hm.at
  exact h.neMap hb
theorem grown_row {w w' : World} {row : Option Nat} (hg : w.grownBy w' row) {g : Nat} {X : Obj} (h : w.heap[g]? = some X) (hne : ∀ k, row = some k → k ≠ g) : w'.heap[g]? = some X :=
  (grown_block hg (Array.getElem?_eq_some_iff.1 h).1 hne).trans h
/-- what the program's Plan holds in memory: the table's box, the backup's, the result's, the keys, the Ids, the map -/
structure PcW (w wr : World) (base M : Nat) (b : BK) (u : Value) (s : PS) (vk vi : Value) : Prop where
  bel : Below w.heap.size w wr
  hb : w.heap.size + 1 + 1 < base
  t : wr.heap[w.heap.size]? = some (.cells #[.int .i64 s.nx, vk] 28 (0, 0))
  bk : wr.heap[w.heap.size + 1]? = some (.cells (bc b u) 26 (0, 0))
  r : wr.heap[w.heap.size + 1 + 1]? = some (.cells #[.int .i64 0, .slice none 0 0] 28 (0, 0))
  k : OwnK wr base vk s.ks
  i : OwnE eI wr base vi s.ids
  m : MapI wr M s.ps.length (lookP s.ps)
  hM : base ≤ M
variable {w wr w' : World} {base M : Nat} {b : BK} {u : Value} {s : PS} {vk vi : Value}
theorem PcW.lt (h : PcW w wr base M b u s vk vi) : w.heap.size + 1 + 1 < wr.heap.size := (Array.getElem?_eq_some_iff.1 h.r).1
theorem PcW.on (h : PcW w wr base M b u s vk vi) (hb : Below wr.heap.size wr w') : PcW w w' base M b u s vk vi :=
  have hl := h.lt
  ⟨h.bel.trans (hb.mono h.bel.size), h.hb, by rw [hb.block _ (by omega)]; exact h.t, by rw [hb.block _ (by omega)]; exact h.bk, by rw [hb.block _ (by omega)]; exact h.r, h.k.on hb, h.i.on hb, h.m.on hb, h.hM⟩
/-- a key of one's own is written -/
theorem PcW.setKey (h : PcW w wr base M b u s vk vi) {g i : Nat} {k : K} {x : Value} (hg : KeyAt wr g k) (hge : w.heap.size + 1 + 1 < g) (hne : vk.ownBlock ≠ some g) : PcW w (wr.setCell ⟨g, i, none⟩ x) base M b u s vk vi :=
  ⟨h.bel.setCell (p := ⟨g, i, none⟩) (by show _ ≤ g; omega) _, h.hb, by rw [setCell_block (by omega)]; exact h.t, by rw [setCell_block (by omega)]; exact h.bk, by rw [setCell_block (by omega)]; exact h.r,
    h.k.setNe hne, h.i.setNe (h.i.neType hg (by decide)), h.m.block (setCell_block (h.m.ne hg)), h.hM⟩
/-- the map is written -/
theorem PcW.put (h : PcW w wr base M b u s vk vi) {p : Int × Int} (hg : wr.grownBy w' (some M)) (hm : MapI w' M (s.ps.length + 1) (fun y => if p.1 = y then p.2 else lookP s.ps y)) : PcW w w' base M b u ⟨s.nx, s.ks, s.ps ++ [p], s.ids⟩ vk vi :=
  ⟨h.bel.grown hg h.bel.size (fun k hk => by cases hk; have := h.hb; have := h.hM; omega), h.hb, grown_row hg h.t (fun k hk e => by cases hk; have := h.hb; have := h.hM; omega), grown_row hg h.bk (fun k hk e => by cases hk; have := h.hb; have := h.hM; omega), grown_row hg h.r (fun k hk e => by cases hk; have := h.hb; have := h.hM; omega),
    h.k.grown hg (fun g hgg => by cases hgg; exact h.k.neMap h.m), h.i.grown hg (fun g hgg => by cases hgg; exact h.i.neMapI h.m),
    (by rw [List.length_append, List.length_singleton]; exact hm.eq (by funext y; rw [lookP_snoc])), h.hM⟩
/-- the table is laid anew -/
theorem PcW.table (h : PcW w wr base M b u s vk vi) {vk' : Value} {n' : Int} {ks' : List K} (hk : OwnK wr base vk' ks') :
    PcW w ((wr.setCell ⟨w.heap.size, 0, none⟩ (.int .i64 n')).setCell ⟨w.heap.size, 1, none⟩ vk') base M b u ⟨n', ks', s.ps, s.ids⟩ vk' vi := by
  have hlt : w.heap.size < base := by have := h.hb; omega
  have h1 := setRow_heap wr w.heap.size _ (#[Value.int .i64 s.nx, vk].setIfInBounds 0 (.int .i64 n')) _ _ h.t
  rw [← setCell_rowK _ _ _ _ _ _ _ h.t] at h1
  have h2 := setRow_heap _ w.heap.size _ ((#[Value.int .i64 s.nx, vk].setIfInBounds 0 (.int .i64 n')).setIfInBounds 1 vk') _ _ h1
  rw [← setCell_rowK _ _ _ _ _ _ _ h1] at h2
  exact ⟨(h.bel.setCell (p := ⟨w.heap.size, 0, none⟩) (Nat.le_refl _) _).setCell (p := ⟨w.heap.size, 1, none⟩) (Nat.le_refl _) _, h.hb, h2, by rw [setCell_block (by omega), setCell_block (by omega)]; exact h.bk, by rw [setCell_block (by omega), setCell_block (by omega)]; exact h.r,
    (hk.setNe (hk.neOld hlt)).setNe (hk.neOld hlt), (h.i.setNe (h.i.neOld hlt)).setNe (h.i.neOld hlt), (h.m.block (setCell_block (by have := h.hM; omega))).block (setCell_block (by have := h.hM; omega)), h.hM⟩
/-- an Id is added -/
theorem PcW.id (h : PcW w wr base M b u s vk vi) {vi' : Value} {d : Int} (hg : wr.grownBy w' vi.ownBlock) (hi : OwnE eI w' base vi' (s.ids ++ [d])) : PcW w w' base M b u ⟨s.nx, s.ks, s.ps, s.ids ++ [d]⟩ vk vi' :=
  have hl := h.hb
  ⟨h.bel.grown hg h.bel.size (fun k hk => by have := (h.i.lt k hk).1; omega), h.hb, grown_row hg h.t (fun k hk e => by have := (h.i.lt k hk).1; omega), grown_row hg h.bk (fun k hk e => by have := (h.i.lt k hk).1; omega), grown_row hg h.r (fun k hk e => by have := (h.i.lt k hk).1; omega),
    h.k.grown hg (h.k.neOwn h.i (by decide)), hi, h.m.block (grown_block hg h.m.lt (fun k hk e => by subst e; exact (h.i.neMapI h.m) hk)), h.hM⟩
theorem validB_key {b : BK} {l : List K} (h : validB b l = true) (i : Nat) (hi : i < l.length) : validK (keyAt l i) = true ∧ 0 < (keyAt l i).id ∧ (keyAt l i).id ≤ 2147483647 := by
  have h2 : (List.range l.length).all (okB l) = true := by
    unfold validB at h
    exact (Bool.and_eq_true _ _ ▸ h).2
  have hall : ∀ i, i < l.length → okB l i = true := fun i hi => List.all_eq_true.1 h2 i (List.mem_range.2 hi)
  have ok : ∀ i, i < l.length → validK (keyAt l i) = true ∧ lastId l i < (keyAt l i).id ∧ (keyAt l i).id ≤ 2147483647 := by
    intro i hi
    have := hall i hi
    unfold okB at this
    simp only [Bool.and_eq_true, decide_eq_true_eq] at this
    exact ⟨this.1.1, this.1.2, this.2⟩
  refine ⟨(ok i hi).1, ?_, (ok i hi).2.2⟩
  have pos : ∀ i, i < l.length → 0 < (keyAt l i).id := by
    intro i
    induction i with
    | zero => intro h0; have := (ok 0 h0).2.1; rw [lastId_zero] at this; exact this
    | succ i ih => intro h0; have h1 := (ok (i + 1) h0).2.1; rw [lastId_succ] at h1; have := ih (by omega); omega
  exact pos i hi
theorem validK_par {k : K} (h : validK k = true) : 0 ≤ k.par ∧ k.par ≤ 2147483647 := by
  unfold validK at h
  simp only [Bool.and_eq_true] at h
  exact (win_iff _ _ _).1 h.2
theorem Good.nxb {nx : Int} {tl bl : List K} {now : Int} (h : Good nx tl bl now s) : 1 ≤ s.nx ∧ s.nx ≤ 2147483647 := by
  obtain ⟨_, h1, h2, _⟩ := (validTab_iff _ _).1 h.tab
  exact ⟨h1, h2⟩
theorem Good.idb {nx : Int} {tl bl : List K} {now : Int} (h : Good nx tl bl now s) (k : K) (hk : k ∈ s.ks) : 0 ≤ k.id ∧ k.id ≤ 2147483647 := by
  obtain ⟨_, h1, h2, h3⟩ := (validTab_iff _ _).1 h.tab
  obtain ⟨i, hi, rfl⟩ := List.mem_iff_getElem.1 hk
  have ok := fun i hi => (okAt_iff _ _ _).1 (h3 i hi)
  have pos : ∀ i, i < s.ks.length → 0 < (keyAt s.ks i).id := by
    intro i
    induction i with
    | zero => intro h0; have := (ok 0 h0).2.1; rw [lastId_zero] at this; exact this
    | succ i ih => intro h0; have h4 := (ok (i + 1) h0).2.1; rw [lastId_succ] at h4; have := ih (by omega); omega
  have h5 := ok i hi
  have h6 := pos i hi
  rw [keyAt_eq _ _ hi] at h5 h6
  omega
theorem Good.twin {nx : Int} {tl bl : List K} {now : Int} (h : Good nx tl bl now s) (x : K) (hx : twinIs s.ks x = true) : Wf (twinId s.ks x) := by
  obtain ⟨k, hk, e⟩ := twinId_mem _ _ hx
  have := h.idb k hk
  rw [e] at this
  exact wf_of (by omega) (by omega)
/-- the outcome of the program's Plan -/
def PlanT (w : World) (r : Except Int PS) (e : Ending) (w' : World) : Prop :=
  Below w.heap.size w w' ∧ match r with
  | .ok s => ∃ v vi, e = .returned (.tuple #[.agg #[.int .i64 s.nx, v], vi, .int .i64 0]) ∧ RdK w' v s.ks ∧ RdI w' vi s.ids
  | .error c => e = .returned (.tuple #[.agg #[.int .i64 0, .slice none 0 0], .slice none 0 0, .int .i64 c])
theorem planT_ok {e : Ending} {v vi : Value} {r : Except Int PS} (hr : r = .ok s) (he : e = .returned (.tuple #[.agg #[.int .i64 s.nx, v], vi, .int .i64 0])) (h1 : RdK w' v s.ks) (h2 : RdI w' vi s.ids) (hb : Below w.heap.size w w') : PlanT w r e w' := by
  subst hr
  exact ⟨hb, v, vi, he, h1, h2⟩
theorem planT_no {c : Int} {e : Ending} {r : Except Int PS} (hr : r = .error c) (he : e = .returned (.tuple #[.agg #[.int .i64 0, .slice none 0 0], .slice none 0 0, .int .i64 c])) (hb : Below w.heap.size w w') : PlanT w r e w' := by
  subst hr
  exact ⟨hb, he⟩
end Go.Proofs.YtbpjdfnnlmblaaaGreatDoor
/- The program's Plan. -/
namespace Go.Proofs.YtbpjdfnnlmblaaaGreatDoor
open Go.RowKit Go.Shelf
set_option linter.unusedSimpArgs false
set_option linter.unusedVariables false
attribute [local irreducible] Calls validB planK plRun
theorem pc_start {w w2 : World} {base : Nat} {b : BK} {u vk v0 : Value} {nx : Int} {tl : List K} (hbb : Below w.heap.size w w2) (hb : w.heap.size + 1 + 1 < base) (hs : base ≤ w2.heap.size) (ht : w2.heap[w.heap.size]? = some (.cells #[.int .i64 nx, v0] 28 (0, 0)))
    (hbk : w2.heap[w.heap.size + 1]? = some (.cells (bc b u) 26 (0, 0))) (hr : w2.heap[w.heap.size + 1 + 1]? = some (.cells #[.int .i64 0, .slice none 0 0] 28 (0, 0))) (hk : OwnK w2 base vk tl) :
    PcW w ((w2.setCell ⟨w.heap.size, 1, none⟩ vk).alloc (.map #[] 0)) base w2.heap.size b u ⟨nx, tl, [], []⟩ vk (.slice none 0 0) := by
  have h1 := setRow_heap w2 w.heap.size _ (#[Value.int .i64 nx, v0].setIfInBounds 1 vk) _ _ ht
  rw [← setCell_rowK _ _ _ _ _ _ _ ht] at h1
  have hold : ∀ g, g < w2.heap.size → ((w2.setCell ⟨w.heap.size, 1, none⟩ vk).alloc (.map #[] 0)).heap[g]? = (w2.setCell ⟨w.heap.size, 1, none⟩ vk).heap[g]? := fun g hg =>
    ((Below.refl (w2.setCell ⟨w.heap.size, 1, none⟩ vk).heap.size _).alloc (Nat.le_refl _) (.map #[] 0)).block _ (by rw [setCell_size]; exact hg)
  have hm := MapI.made (w2.setCell ⟨w.heap.size, 1, none⟩ vk)
  rw [setCell_size] at hm
  refine ⟨(hbb.setCell (p := ⟨w.heap.size, 1, none⟩) (Nat.le_refl _) _).alloc (by rw [setCell_size]; omega) _, hb, by rw [hold _ (by omega)]; exact h1, by rw [hold _ (by omega), setCell_block (by omega)]; exact hbk, by rw [hold _ (by omega), setCell_block (by omega)]; exact hr, ?_, OwnE.nil _ _, hm.eq rfl, hs⟩
  exact (hk.setNe (hk.neOld (by omega))).on ((Below.refl _ _).alloc (Nat.le_refl _) _)
attribute [local irreducible] PlanT
end Go.Proofs.YtbpjdfnnlmblaaaGreatDoor
/- Both Plans, whatever the backup and the time. -/
namespace Go.Proofs.YtbpjdfnnlmblaaaGreatDoor
open Go.RowKit Go.Shelf
set_option linter.unusedSimpArgs false
set_option linter.unusedVariables false
end Go.Proofs.YtbpjdfnnlmblaaaGreatDoor
/- What the laws on restoring lean on. -/
namespace Go.Proofs.YtbpjdfnnlmblaaaGreatDoor
open Go.RowKit
set_option linter.unusedSimpArgs false
set_option linter.unusedVariables false
theorem row_keep {W W' : World} {g : Nat} {X : Obj} (h : W.heap[g]? = some X) (hb : Below W.heap.size W W') : W'.heap[g]? = some X := by
  rw [hb.block _ (Array.getElem?_eq_some_iff.1 h).1]; exact h
theorem two_0 (w : World) (A B : Obj) : ((w.alloc A).alloc B).heap[w.heap.size]? = some A := by
  rw [((Below.refl (w.alloc A).heap.size _).alloc (Nat.le_refl _) B).block _ (by simp)]
  exact heap_alloc_new _ _
theorem two_1 (w : World) (A B : Obj) : ((w.alloc A).alloc B).heap[w.heap.size + 1]? = some B := by
  have h := heap_alloc_new (w.alloc A) B
  rwa [World.size_alloc] at h
theorem validB_num {b : BK} {l : List K} (h : validB b l = true) : 0 ≤ b.num ∧ b.num ≤ 2147483647 := by
  unfold validB headB at h
  simp only [Bool.and_eq_true] at h
  exact (win_iff _ _ _).1 h.1.1.1.1.1.1.2
/-- the place one number on -/
def pnext (p : PK) (n : Int) : PK := ⟨p.dom, p.pol, p.fw, n⟩
theorem pc_set33 {w : World} {g : Nat} {T : TypeId} {p : PK} (n : Int) (h : w.heap[g]? = some (.cells (pc p) T (0, 0))) : (w.setCell ⟨g, 33, none⟩ (.int .i64 n)).heap[g]? = some (.cells (pc (pnext p n)) T (0, 0)) := by
  have h1 := setRow_heap w g _ ((pc p).setIfInBounds 33 (.int .i64 n)) _ _ h
  rw [← setCell_rowK _ _ _ _ _ _ _ h] at h1
  exact h1
theorem admit_next {p : PK} {b : BK} {l : List K} (h : admitK p b l = 0) : admitK (pnext p (b.num + 1)) b l = 20 := by
  rcases admit_six p b l with ⟨_, hr⟩ | ⟨_, _, hr⟩ | ⟨_, _, _, hr⟩ | ⟨_, _, _, _, hr⟩ | ⟨_, _, _, _, _, hr⟩ | ⟨h1, h2, h3, h4, h5, hr⟩
  · rw [hr] at h; cases h
  · rw [hr] at h; cases h
  · rw [hr] at h; cases h
  · rw [hr] at h; cases h
  · rw [hr] at h; cases h
  · unfold admitK
    rw [if_pos h1, if_pos ⟨h2, h3⟩, if_neg]
    intro h6
    have : b.num + 1 ≤ b.num := h6.2
    omega
/-- a row, or a part of one, is loaded in a region that draws its order -/
theorem qq_row {ops : Array Oper} {C : World → Prop} {Q : Act → Prop} {a : Act} {o : Oper} {rest : List Oper} (hw : Region.wanted o (yielded ops a.tmps) = true) (ty : TypeId) (x : Operand) (ho : o.op = .load ty x)
    (g off : Nat) (hx : a.eval x = .pointer (some ⟨g, off, none⟩)) (cs : Array Value) (hC : ∀ w', C w' → (loadVar ty ⟨g, off, none⟩).run Tryz.prog w' = .ok (.agg cs) w')
    (h : wpQuiet Tryz.prog ops C Q rest (a.put o.dst (.agg cs))) : wpQuiet Tryz.prog ops C Q (o :: rest) a := by
  unfold wpQuiet
  rw [if_pos hw]
  refine ⟨.agg cs, fun w' hw' => ?_, h⟩
  unfold Oper.quietAt execOp
  simp only [ho, hx, Instr.loadAt, Instr.sureAddr, Sem.run_bind, Sem.run_pure, Result.andThen_ok, hC w' hw']
  exact ⟨rfl, rfl⟩
theorem ru_bk (b : BK) (u : Value) {w : World} {g : Nat} (h : w.heap[g]? = some (.cells (bc b u) 26 (0, 0))) : (loadVar 26 ⟨g, 0, none⟩).run Tryz.prog w = .ok (.agg (bc b u)) w :=
  run_loadVar_row w g _ _ (bc b u) _ _ h Tryz.underlying26 rfl (by rw [bc_size]; exact info_b)
theorem ru_dig (d : List UInt8) {w : World} {g off : Nat} (h : w.rangeAt g off (drow d).toList) : (loadVar 23 ⟨g, off, none⟩).run Tryz.prog w = .ok (.agg (drow d)) w :=
  run_loadVar_mid w g off _ (drow d).toList _ h Tryz.underlying23 rfl info_d
theorem four_0 (w : World) (A B C D : Obj) : ((((w.alloc A).alloc B).alloc C).alloc D).heap[w.heap.size]? = some A := by
  have h := (((Below.refl (w.alloc A).heap.size (w.alloc A)).alloc (Nat.le_refl _) B).alloc (by simp) C).alloc (by simp) D
  rw [h.block _ (by simp)]
  exact heap_alloc_new _ _
theorem four_1 (w : World) (A B C D : Obj) : ((((w.alloc A).alloc B).alloc C).alloc D).heap[w.heap.size + 1]? = some B := by
  have h := ((Below.refl ((w.alloc A).alloc B).heap.size ((w.alloc A).alloc B)).alloc (Nat.le_refl _) C).alloc (by simp) D
  rw [h.block _ (by simp)]
  exact two_1 _ _ _
theorem four_2 (w : World) (A B C D : Obj) : ((((w.alloc A).alloc B).alloc C).alloc D).heap[w.heap.size + 1 + 1]? = some C := by
  have h := (Below.refl (((w.alloc A).alloc B).alloc C).heap.size (((w.alloc A).alloc B).alloc C)).alloc (Nat.le_refl _) D
  rw [h.block _ (by simp)]
  have h2 := heap_alloc_new ((w.alloc A).alloc B) C
  rw [World.size_alloc, World.size_alloc] at h2
  exact h2
theorem four_3 (w : World) (A B C D : Obj) : ((((w.alloc A).alloc B).alloc C).alloc D).heap[w.heap.size + 1 + 1 + 1]? = some D := by
  have h2 := heap_alloc_new (((w.alloc A).alloc B).alloc C) D
  rw [World.size_alloc, World.size_alloc, World.size_alloc] at h2
  exact h2
theorem below4 (w : World) (A B C D : Obj) {w1 : World} (h : Below ((((w.alloc A).alloc B).alloc C).alloc D).heap.size ((((w.alloc A).alloc B).alloc C).alloc D) w1) : Below w.heap.size w w1 :=
  kbelow3 w A B C ((Below.refl _ _).alloc (Nat.le_refl _) D |>.trans (h.mono (by simp)))
/-! what a plan comes to: the number, the keys, the Ids, the error -/
def rn : Except Int PS → Int
  | .ok s => s.nx
  | .error _ => 0
def rk : Except Int PS → List K
  | .ok s => s.ks
  | .error _ => []
def ri : Except Int PS → List Int
  | .ok s => s.ids
  | .error _ => []
def re : Except Int PS → Int
  | .ok _ => 0
  | .error c => c
theorem planT_out {w w' : World} {r : Except Int PS} {e : Ending} (h : PlanT w r e w') : ∃ a c a2 c2, e = .returned (.tuple #[.agg #[.int .i64 (rn r), .slice a (rk r).length c], .slice a2 (ri r).length c2, .int .i64 (re r)]) ∧
    RdK w' (.slice a (rk r).length c) (rk r) ∧ RdI w' (.slice a2 (ri r).length c2) (ri r) ∧ Below w.heap.size w w' := by
  obtain ⟨hb, h⟩ := h
  cases r with
  | ok s =>
    obtain ⟨v, vi, he, h1, h2⟩ := h
    obtain ⟨a, c, rfl, _, _, _⟩ := id h1
    obtain ⟨a2, c2, rfl, _, _, _⟩ := id h2
    exact ⟨a, c, a2, c2, he, h1, h2, hb⟩
  | error c => exact ⟨none, 0, none, 0, h, RdK.nil _, RdI.nil _, hb⟩
theorem planR_out {w w' : World} {r : Except Int PS} {e : Ending} (h : PlanR w r e w') : ∃ a c a2 c2, e = .returned (.agg #[.int .i64 (rn r), .slice a (rk r).length c, .slice a2 (ri r).length c2, .int .i64 (re r)]) ∧
    RdK w' (.slice a (rk r).length c) (rk r) ∧ RdI w' (.slice a2 (ri r).length c2) (ri r) ∧ Below w.heap.size w w' := by
  obtain ⟨hb, h⟩ := h
  cases r with
  | ok s =>
    obtain ⟨v, vi, he, h1, h2⟩ := h
    obtain ⟨a, c, rfl, _, _, _⟩ := id h1
    obtain ⟨a2, c2, rfl, _, _, _⟩ := id h2
    exact ⟨a, c, a2, c2, he, h1, h2, hb⟩
  | error c => exact ⟨none, 0, none, 0, h, RdK.nil _, RdI.nil _, hb⟩
end Go.Proofs.YtbpjdfnnlmblaaaGreatDoor
/- The program's Select and Complete. -/
namespace Go.Proofs.YtbpjdfnnlmblaaaGreatDoor
open Go.RowKit Go.Shelf
set_option linter.unusedSimpArgs false
set_option linter.unusedVariables false
attribute [local irreducible] Calls liveK selK
set_option maxRecDepth 100000 in
set_option maxHeartbeats 4000000 in
theorem select_c (nx now : Int) (v : Value) (l : List K) (w : World) (hv : RdK w v l) (hl : l.length ≤ 5000) :
    Calls Tryz.prog 10 #[.agg #[.int .i64 nx, v], .int .i64 now] w fun e w' => ∃ v', e = .returned v' ∧ RdK w' v' (selK now l) ∧ Below w.heap.size w w' := by
  have hlen := hv.len
  unfold maxLen at hlen
  obtain ⟨W0, hW0⟩ : ∃ W0, W0 = w.alloc (.cells #[.int .i64 nx, v] 28) := ⟨_, rfl⟩
  have HV : Hid (RdK W0 v l) := Lib.hid (by rw [hW0]; exact hv.alloc _)
  have HBX : Hid (∀ w1, Below W0.heap.size W0 w1 → w1.cell? ⟨w.heap.size, 0, none⟩ = some (.int .i64 nx) ∧ w1.cell? ⟨w.heap.size, 1, none⟩ = some v) := Lib.hid (by
    intro w1 h
    rw [hW0] at h
    exact ⟨boxed1 _ _ _ h 0, boxed1 _ _ _ h 1⟩)
  have HBE : Hid (∀ w1, Below W0.heap.size W0 w1 → Below w.heap.size w w1) := Lib.hid (by
    intro w1 h
    rw [hW0] at h
    exact below1 _ _ h)
  have hsz : w.heap.size < W0.heap.size := by rw [hW0]; simp
  have HW := Lib.hid hW0
  have HL := Lib.hid hl
  have HS := Lib.hid (fun i h => selK_take now l i h)
  have HSL := Lib.hid (fun i => selK_take_len now l i)
  have HALL : Hid (∀ i, ¬ i < l.length → selK now (l.take i) = selK now l) := Lib.hid (fun i h => by rw [List.take_of_length_le (by omega)])
  have HNIL : Hid (selK now (l.take 0) = []) := Lib.hid (by rw [List.take_zero]; unfold selK; rfl)
  obtain ⟨a, cap, rfl, _, _, _⟩ := hv
  clear hW0 hl
  go_enter Tryz.func10, Tryz.ntmps10
  go_wp2
  go_loopw [10, 4] (fun o vl wr => ∃ i : Nat, i ≤ l.length ∧ o = .int .i64 i ∧ Hid (OwnK wr W0.heap.size vl (selK now (l.take i))) ∧ Hid (Below W0.heap.size W0 wr)) (fun o _ _ => l.length - (intOf o).toNat)
  case atStart => exact ⟨0, Nat.zero_le _, rfl, Lib.hid (by rw [HNIL.out]; exact OwnK.nil _ _), Lib.hid (by rw [← HW.out]; exact Below.refl _ _)⟩
  case round =>
    obtain ⟨i, hi, rfl, how, hb⟩ := hrel
    obtain ⟨t0, t1⟩ := HBX.out wr hb.out
    have hbs := hb.out.size
    have z0 : w.heap.size < wr.heap.size := by omega
    have z0' : w.heap.size ≠ wr.heap.size := by omega
    by_cases hlt : i < l.length
    · obtain ⟨bb, off, rfl, hbl, hrow⟩ := ((HV.out.on hb.out).cells) (by omega)
      obtain ⟨d0, d1, d2, d3, d4, d5, d6, d7, d8⟩ := hrow i hlt
      have i1 : (i : Int) < l.length := by omega
      have HK := Lib.hid hlt
      have HST := Lib.hid (HS.out i hlt)
      have hlv := live_c (keyAt l i) now (wr.alloc (.cells (kc (keyAt l i)) 45))
      generalize keyAt l i = y at d0 d1 d2 d3 d4 d5 d6 d7 d8 hlv HST
      have HX2 : Hid (∀ w1, Below (wr.alloc (.cells (kc y) 45)).heap.size (wr.alloc (.cells (kc y) 45)) w1 →
          w1.heap[wr.heap.size]? = some (.cells (kc y) 45 (0, 0)) ∧ Below W0.heap.size W0 w1 ∧ OwnK w1 W0.heap.size u4 (selK now (l.take i)) ∧ wr.heap.size < w1.heap.size) := Lib.hid (by
        intro w1 h
        refine ⟨(row_keep (heap_alloc_new _ _) h), hb.out.trans ((below1 _ _ h).mono hbs), how.out.keep (below1 _ _ h) (Nat.le_refl _), ?_⟩
        have := h.size
        rw [World.size_alloc] at this
        omega)
      unfold kc at hlv
      unfold kv kc at hlv
      unfold kc at HX2
      clear hrow hlt how
      cases hq : liveK now y with
      | true =>
        rw [hq] at hlv HST
        have HLV := Lib.hid hlv
        have HLEN := Lib.hid (HSL.out i)
        clear hlv hq
        go_wp2_with (first
          | (go_at_call 33; refine HLV.out.mono ?_; rintro e w1 ⟨rfl, hb'⟩; obtain ⟨hrw, hbb, hoo, hsw⟩ := HX2.out _ hb'; have e0 : w1.cell? ⟨wr.heap.size, 0, none⟩ = some (.int .i64 y.id) := cell_of_row _ _ _ _ _ _ hrw; have e1 : w1.cell? ⟨wr.heap.size, 1, none⟩ = some (.int .i64 y.ty) := cell_of_row _ _ _ _ _ _ hrw; have e2 : w1.cell? ⟨wr.heap.size, 2, none⟩ = some (.string ⟨y.val.toArray⟩) := cell_of_row _ _ _ _ _ _ hrw; have e3 : w1.cell? ⟨wr.heap.size, 3, none⟩ = some (.int .i64 y.uses) := cell_of_row _ _ _ _ _ _ hrw; have e4 : w1.cell? ⟨wr.heap.size, 4, none⟩ = some (.int .i64 y.start) := cell_of_row _ _ _ _ _ _ hrw; have e5 : w1.cell? ⟨wr.heap.size, 5, none⟩ = some (.int .i64 y.fin) := cell_of_row _ _ _ _ _ _ hrw; have e6 : w1.cell? ⟨wr.heap.size, 6, none⟩ = some (.int .i64 y.ver) := cell_of_row _ _ _ _ _ _ hrw; have e7 : w1.cell? ⟨wr.heap.size, 7, none⟩ = some (.int .i64 y.par) := cell_of_row _ _ _ _ _ _ hrw; have e8 : w1.cell? ⟨wr.heap.size, 8, none⟩ = some (.bool y.raw) := cell_of_row _ _ _ _ _ _ hrw; have HBB := Lib.hid hbb; have HOO := Lib.hid hoo; clear hbb hoo hb' hrw)
          | (at_builtin; refine app_k rfl (.tmp 17) (.tmp 19) rfl W0.heap.size _ (selK now (l.take i)) rfl (HOO.out.keep ((Below.refl _ _).alloc (Nat.le_refl _) _) (Nat.le_refl _)) _ [y] rfl (one_k w1 y) (by have := HLEN.out; have := HL.out; simp only [List.length_cons, List.length_nil]; omega) (by rw [World.size_alloc]; have := HBB.out.size; omega) ?_; intro v' w' ho hbk))
        go_roundw
        case rel => exact ⟨i + 1, HK.out, by go_num, Lib.hid (by rw [HST.out, if_pos (by trivial)]; exact ho), Lib.hid ((HBB.out.alloc HBB.out.size _).trans hbk)⟩
        case measure => have := HK.out; simp [intOf]; omega
      | false =>
        rw [hq] at hlv HST
        have HLV := Lib.hid hlv
        clear hlv hq
        go_wp2_with (go_at_call 33; refine HLV.out.mono ?_; rintro e w1 ⟨rfl, hb'⟩; obtain ⟨hrw, hbb, hoo, hsw⟩ := HX2.out _ hb'; have HBB := Lib.hid hbb; have HOO := Lib.hid hoo; clear hbb hoo hb' hrw)
        go_roundw
        case rel => exact ⟨i + 1, HK.out, by go_num, Lib.hid (by rw [HST.out, if_neg (by simp)]; exact HOO.out), HBB⟩
        case measure => have := HK.out; simp [intOf]; omega
    · have i1 : (l.length : Int) ≤ i := by omega
      have HF : Hid (RdK wr u4 (selK now l)) := Lib.hid (by rw [← HALL.out i hlt]; exact how.out.rd)
      clear how hlt hi
      go_wp2
      go_ret
      exact ⟨_, rfl, HF.out, HBE.out _ hb.out⟩
set_option maxRecDepth 100000 in
set_option maxHeartbeats 4000000 in
theorem complete_c (nx now : Int) (v u : Value) (tl bl : List K) (b : BK) (w : World) (hv : RdK w v tl) (hu : RdK w u bl) (hl : tl.length ≤ 5000) :
    Calls Tryz.prog 18 #[.agg (bc b u), .agg #[.int .i64 nx, v], .int .i64 now] w fun e w' => e = .returned (.bool (compB bl tl now)) ∧ Below w.heap.size w w' := by
  have hmf : ∀ (fn : Fn) (first cap : Array Value) (w : World), (Instr.makeFunc fn first cap).run Tryz.prog w = .ok (.func fn first cap) w := fun _ _ _ _ => rfl
  obtain ⟨W0, hW0⟩ : ∃ W0, W0 = (w.alloc (.cells (bc b u) 26)).alloc (.cells #[.int .i64 nx, v] 28) := ⟨_, rfl⟩
  have HSEL : Hid (Calls Tryz.prog 10 #[.agg #[.int .i64 nx, v], .int .i64 now] W0 fun e w' => ∃ v', e = .returned v' ∧ RdK w' v' (selK now tl) ∧ Below W0.heap.size W0 w') :=
    Lib.hid (select_c nx now v tl W0 (by rw [hW0]; exact (hv.alloc _).alloc _) hl)
  have HBE : Hid (∀ w1, Below W0.heap.size W0 w1 → w1.heap[w.heap.size]? = some (.cells (bc b u) 26 (0, 0)) ∧ RdK w1 u bl ∧ Below w.heap.size w w1) := Lib.hid (by
    intro w1 h
    rw [hW0] at h
    have h2 := below2 _ _ _ h
    refine ⟨?_, hu.on h2, h2⟩
    rw [h.block _ (by simp; omega)]
    exact two_0 _ _ _)
  have HC : Hid (∀ w1 v', RdK w1 v' (selK now tl) → w1.heap[w.heap.size]? = some (.cells (bc b u) 26 (0, 0)) → RdK w1 u bl →
      Calls Tryz.prog 44 #[v', .func (.func 45) #[] #[.pointer (some ⟨w.heap.size, 0, none⟩)]] w1 fun e w' => e = .returned (.bool ((selK now tl).any (fun x => !decide (x ∈ bl)))) ∧ Below w1.heap.size w1 w') :=
    Lib.hid (fun w1 v' h1 h2 h3 => containsFunc_k v' (selK now tl) 45 _ _ w1 egComp h1 (comp_pred b u bl w.heap.size w1 h3 h2))
  have hd : compB bl tl now = !((selK now tl).any (fun x => !decide (x ∈ bl))) := rfl
  rw [hd]
  generalize (selK now tl).any (fun x => !decide (x ∈ bl)) = r at HC ⊢
  have HW := Lib.hid hW0
  have hvv := hv
  obtain ⟨a, cap, rfl, _, _, _⟩ := hvv
  have t0 : W0.cell? ⟨w.heap.size + 1, 0, none⟩ = some (.int .i64 nx) := by rw [hW0]; exact cell_of_row _ _ _ _ _ _ (two_1 _ _ _)
  have t1 : W0.cell? ⟨w.heap.size + 1, 1, none⟩ = some (.slice a tl.length cap) := by rw [hW0]; exact cell_of_row _ _ _ _ _ _ (two_1 _ _ _)
  clear hd hW0 hv hu
  go_enter Tryz.func18, Tryz.ntmps18
  go_upto_region 1 with fail
  rw [← HW.out]
  go_wp2_with (first
    | (go_at_call 10; refine HSEL.out.mono ?_; rintro e w1 ⟨v', rfl, hk, hb⟩; obtain ⟨g1, g2, g3⟩ := HBE.out _ hb; have HG3 := Lib.hid g3; have HCC := Lib.hid (HC.out _ _ hk g1 g2); clear g1 g2 g3 hk hb)
    | (go_at_call 44; refine HCC.out.mono ?_; rintro e w2 ⟨rfl, hb⟩))
  go_ret
  exact ⟨rfl, HG3.out.trans (hb.mono HG3.out.size)⟩
end Go.Proofs.YtbpjdfnnlmblaaaGreatDoor
/- The specification's Select and Complete. -/
namespace Go.Proofs.YtbpjdfnnlmblaaaGreatDoor
open Go.RowKit Go.Shelf
set_option linter.unusedSimpArgs false
set_option linter.unusedVariables false
theorem Nine.on {w w' : World} {b o : Nat} {k : K} (h : Nine w b o k) (hb : Below w.heap.size w w') (hlt : b < w.heap.size) : Nine w' b o k := by
  have key : ∀ j, w'.cell? ⟨b, j, none⟩ = w.cell? ⟨b, j, none⟩ := fun j => hb.cell (p := ⟨b, j, none⟩) hlt
  unfold Nine at h ⊢
  simp only [key]
  exact h
attribute [local irreducible] Calls
set_option maxRecDepth 100000 in
set_option maxHeartbeats 1000000 in
theorem live_rr (k : K) (now : Int) (w : World) : Calls Tryz.prog 34 #[kv k, .int .i64 now] w fun e w' => e = .returned (.bool (liveK now k)) ∧ Below w.heap.size w w' := by
  unfold kv kc liveK
  have HB := Lib.hid ((Below.refl w.heap.size w).alloc (Nat.le_refl _) (.cells #[.int .i64 k.id, .int .i64 k.ty, .string ⟨k.val.toArray⟩, .int .i64 k.uses, .int .i64 k.start, .int .i64 k.fin, .int .i64 k.ver, .int .i64 k.par, .bool k.raw] 45))
  by_cases h1 : k.start ≤ now
  · by_cases h2 : now < k.fin
    · rw [decide_eq_true h1, decide_eq_true h2]
      go_enter Tryz.func34, Tryz.ntmps34
      go_wp2
      go_ret
      exact ⟨rfl, HB.out⟩
    · rw [decide_eq_true h1, decide_eq_false h2]
      go_enter Tryz.func34, Tryz.ntmps34
      go_wp2
      go_ret
      exact ⟨rfl, HB.out⟩
  · rw [decide_eq_false h1]
    have h1' : now < k.start := by omega
    go_enter Tryz.func34, Tryz.ntmps34
    go_wp2
    go_ret
    exact ⟨rfl, HB.out⟩
attribute [local irreducible] liveK selK
set_option maxRecDepth 100000 in
set_option maxHeartbeats 4000000 in
theorem select_r (nx now : Int) (v : Value) (l : List K) (w : World) (hv : RdK w v l) (hl : l.length ≤ 5000) :
    Calls Tryz.prog 11 #[.agg #[.int .i64 nx, v], .int .i64 now] w fun e w' => ∃ v', e = .returned v' ∧ RdK w' v' (selK now l) ∧ Below w.heap.size w w' := by
  have hlen := hv.len
  unfold maxLen at hlen
  obtain ⟨W0, hW0⟩ : ∃ W0, W0 = w.alloc (.cells #[.int .i64 nx, v] 28) := ⟨_, rfl⟩
  have HV : Hid (RdK W0 v l) := Lib.hid (by rw [hW0]; exact hv.alloc _)
  have HBX : Hid (∀ w1, Below W0.heap.size W0 w1 → w1.cell? ⟨w.heap.size, 0, none⟩ = some (.int .i64 nx) ∧ w1.cell? ⟨w.heap.size, 1, none⟩ = some v) := Lib.hid (by
    intro w1 h
    rw [hW0] at h
    exact ⟨boxed1 _ _ _ h 0, boxed1 _ _ _ h 1⟩)
  have HBE : Hid (∀ w1, Below W0.heap.size W0 w1 → Below w.heap.size w w1) := Lib.hid (by
    intro w1 h
    rw [hW0] at h
    exact below1 _ _ h)
  have hsz : w.heap.size < W0.heap.size := by rw [hW0]; simp
  have HW := Lib.hid hW0
  have HL := Lib.hid hl
  have HS := Lib.hid (fun i h => selK_take now l i h)
  have HSL := Lib.hid (fun i => selK_take_len now l i)
  have HALL : Hid (∀ i, ¬ i < l.length → selK now (l.take i) = selK now l) := Lib.hid (fun i h => by rw [List.take_of_length_le (by omega)])
  have HNIL : Hid (selK now (l.take 0) = []) := Lib.hid (by rw [List.take_zero]; unfold selK; rfl)
  obtain ⟨a, cap, rfl, _, _, _⟩ := hv
  clear hW0 hl
  go_enter Tryz.func11, Tryz.ntmps11
  go_wp2
  go_loopw [6, 5] (fun o vl wr => ∃ i : Nat, i ≤ l.length ∧ o = .int .i64 i ∧ Hid (OwnK wr W0.heap.size vl (selK now (l.take i))) ∧ Hid (Below W0.heap.size W0 wr)) (fun o _ _ => l.length - (intOf o).toNat)
  case atStart => exact ⟨0, Nat.zero_le _, rfl, Lib.hid (by rw [HNIL.out]; exact OwnK.nil _ _), Lib.hid (by rw [← HW.out]; exact Below.refl _ _)⟩
  case round =>
    obtain ⟨i, hi, rfl, how, hb⟩ := hrel
    obtain ⟨t0, t1⟩ := HBX.out wr hb.out
    have hbs := hb.out.size
    by_cases hlt : i < l.length
    · obtain ⟨bb, off, rfl, hbl, hrow⟩ := ((HV.out.on hb.out).cells) (by omega)
      have hnine := hrow i hlt
      obtain ⟨d0, d1, d2, d3, d4, d5, d6, d7, d8⟩ := hrow i hlt
      have i1 : (i : Int) < l.length := by omega
      have HK := Lib.hid hlt
      have HST := Lib.hid (HS.out i hlt)
      have hlv := live_rr (keyAt l i) now wr
      have HX2 : Hid (∀ w1, Below wr.heap.size wr w1 → Nine w1 bb (off + i * 9) (keyAt l i) ∧ w1.cell? ⟨w.heap.size, 1, none⟩ = some (.slice (some ⟨bb, off, none⟩) l.length cap) ∧ Below W0.heap.size W0 w1 ∧ OwnK w1 W0.heap.size u5 (selK now (l.take i))) := Lib.hid (by
        intro w1 h
        have h2 := hb.out.trans (h.mono hbs)
        exact ⟨hnine.on h hbl, (HBX.out w1 h2).2, h2, how.out.keep h (Nat.le_refl _)⟩)
      generalize keyAt l i = y at d0 d1 d2 d3 d4 d5 d6 d7 d8 hlv HST HX2
      unfold kv kc at hlv
      unfold Nine at HX2
      clear hrow hlt how hnine
      cases hq : liveK now y with
      | true =>
        rw [hq] at hlv HST
        have HLV := Lib.hid hlv
        have HLEN := Lib.hid (HSL.out i)
        clear hlv hq
        go_wp2_with (first
          | (go_at_call 34; refine HLV.out.mono ?_; rintro e w1 ⟨rfl, hb'⟩; obtain ⟨⟨e0, e1, e2, e3, e4, e5, e6, e7, e8⟩, t1', hbb, hoo⟩ := HX2.out _ hb'; have HBB := Lib.hid hbb; have HOO := Lib.hid hoo; have hbl2 : bb < w1.heap.size := (Nat.lt_of_lt_of_le hbl hb'.size); clear hbb hoo hb')
          | (at_builtin; refine app_k rfl (.tmp 23) (.tmp 29) rfl W0.heap.size _ (selK now (l.take i)) rfl (HOO.out.keep ((Below.refl _ _).alloc (Nat.le_refl _) _) (Nat.le_refl _)) _ [y] rfl (one_k w1 y) (by have := HLEN.out; have := HL.out; simp only [List.length_cons, List.length_nil]; omega) (by rw [World.size_alloc]; have := HBB.out.size; omega) ?_; intro v' w' ho hbk))
        go_roundw
        case rel => exact ⟨i + 1, HK.out, by go_num, Lib.hid (by rw [HST.out, if_pos (by trivial)]; exact ho), Lib.hid ((HBB.out.alloc HBB.out.size _).trans hbk)⟩
        case measure => have := HK.out; simp [intOf]; omega
      | false =>
        rw [hq] at hlv HST
        have HLV := Lib.hid hlv
        clear hlv hq
        go_wp2_with (go_at_call 34; refine HLV.out.mono ?_; rintro e w1 ⟨rfl, hb'⟩; obtain ⟨_, _, hbb, hoo⟩ := HX2.out _ hb'; have HBB := Lib.hid hbb; have HOO := Lib.hid hoo; clear hbb hoo hb')
        go_roundw
        case rel => exact ⟨i + 1, HK.out, by go_num, Lib.hid (by rw [HST.out, if_neg (by simp)]; exact HOO.out), HBB⟩
        case measure => have := HK.out; simp [intOf]; omega
    · have i1 : ¬ (i : Int) < l.length := by omega
      have HF : Hid (RdK wr u5 (selK now l)) := Lib.hid (by rw [← HALL.out i hlt]; exact how.out.rd)
      clear how hlt hi
      go_wp2
      go_ret
      exact ⟨_, rfl, HF.out, HBE.out _ hb.out⟩
end Go.Proofs.YtbpjdfnnlmblaaaGreatDoor
